/- a certificate's names keep to limits as the document says: the law by that interpreter (part 5): what the program's functions answer, or plain laws of it; no conditions. -/
import Derived.Test.YtaehaajckndejaaGreatDoorA04
set_option linter.all false
namespace Go.Mini.Nm
open Go Go.Mini Go.Proofs.YtaehaajckndejaaGreatDoor
set_option maxRecDepth 100000
set_option maxHeartbeats 4000000
def printB (c : UInt8) : Bool := (decide (97 ≤ c.toNat) && decide (c.toNat ≤ 122)) || (decide (65 ≤ c.toNat) && decide (c.toNat ≤ 90)) || (decide (48 ≤ c.toNat) && decide (c.toNat ≤ 57)) || [32,39,40,41,43,44,45,46,47,58,61,63].contains c
def isB : Option MV→Bool→Bool
 | some (.bool a),b=>a == b
 | _,_=>false
theorem isB_ok {r : Option MV} {b : Bool} (h : isB r b = true) : r = some (.bool b) := by
 unfold isB at h
 split at h
 ·rw [beq_iff_eq] at h; rw [h]
 ·cases h
theorem print_all : ((List.range 256).all fun c=>isB (callF Q 40 126 [.int .u8 (c : Int)]) (printB (UInt8.ofNat c))) = true := by kernel_rfl
theorem c81 (c : UInt8) : Call Q 126 [.int .u8 (c.toNat : Int)] = some (.bool (printB c)) := by
 have := List.all_eq_true.1 print_all c.toNat (List.mem_range.2 c.toNat_lt)
 have := isB_ok this
 rw [UInt8.ofNat_toNat] at this
 exact Call_iff.2 ⟨40,this⟩
def V47 (s : List UInt8) (n i : Int) : List (Nat × MV) := [(0,.str s),(5,.int .i64 n),(6,.int .i64 i)]
def R47 : List (Nat × Option (Bool × Nat) × PK) := [(2,none,.other)]
def K47 : List Item := [.blk 0,.code (.seq (.rg [⟨some (.v 2),.mv (.c (.int .i64 19)),none⟩]) .ret)]
theorem c47_loop (s : List UInt8) (hs : s.length < 1000000) : ∀ (r : List UInt8) (i : Nat),s.drop i = r→i + r.length = s.length →
  fin R47 (RunL Q m78k0 m78b0 K47 ⟨V47 s s.length i,[],[],1⟩) = some (.int .i64 (if r.all printB then 19 else 12))
 | [],i,hd,hi=>by
  have hi' : i = s.length := by simpa using hi
  subst hi'
  have hlt : decide ((s.length : Int) < (s.length : Int)) = false := by simp
  obtain ⟨b',hb'⟩ : ∃ b',b' = m78b0 := ⟨_,rfl⟩
  rw [RunL_eq,show Item.lp m78k0 m78b0 = Item.lp m78k0 b' by rw [hb']]
  simp (maxSteps := 4000000) (disch := first | omega | exact ok_of (by kernel_rfl) | decide) only [bA.u,seval,cut,if_pos,if_neg,m78b0,V47,R47,K47,hlt]
 | c :: r,i,hd,hi=>by
  simp only [List.length_cons] at hi
  have hlt : decide ((i : Int) < (s.length : Int)) = true := by simp; omega
  have i0 : (0 : Int) ≤ (i : Int) := by omega
  have i1 : (i : Int) < (s.length : Int) := by omega
  have hg : s[i]? = some c := by
   have := congrArg (·[0]?) hd
   simpa [List.getElem?_drop] using this
  have hg' : s.getD i 0 = c := by rw [List.getD_eq_getElem?_getD,hg]; rfl
  have hd' : s.drop (i + 1) = r := by
   have := congrArg (List.drop 1) hd
   simpa [List.drop_drop] using this
  have hc := c81 c
  have ih := c47_loop s hs r (i + 1) hd' (by omega)
  have e : ((i : Int) + 1) = ((i + 1 : Nat) : Int) := by omega
  obtain ⟨b',hb'⟩ : ∃ b',b' = m78b0 := ⟨_,rfl⟩
  rw [RunL_eq,show Item.lp m78k0 m78b0 = Item.lp m78k0 b' by rw [hb']]
  rw [List.all_cons]
  cases hp : printB c
  ·rw [hp] at hc
   simp (maxSteps := 4000000) (disch := first | omega | exact ok_of (by kernel_rfl) | decide) only [bA.u,seval,cut,if_pos,if_neg,m78b0,V47,R47,K47,hlt,i0,i1,hg',hc]
   all_goals rfl
  ·rw [hp] at hc
   simp (maxSteps := 4000000) (disch := first | omega | exact ok_of (by kernel_rfl) | decide) only [bA.u,seval,cut,if_pos,if_neg,m78b0,V47,R47,K47,hlt,i0,i1,hg',hc]
   subst hb'
   refine ((congrArg (fin _) (Run_lp Q _ _ _ _)).trans ?_)
   (try rw [Bool.true_and]); rw [← ih]
   exact congrArg (fin R47) (RunL_canon (canon_cong (Eq.trans (by kernel_rfl) (show [(0,MV.str s),(5,.int .i64 (s.length : Int)),(6,.int .i64 ((i : Int) + 1))] = V47 s s.length (i + 1 : Nat) from by rw [e]; rfl)) (by kernel_rfl) (by kernel_rfl)))
theorem c47 (s : List UInt8) (hs : s.length < 1000000) : Call Q 78 [.str s] = some (.int .i64 (if s.all printB then 19 else 12)) := by
 rw [Call_fn Q (m := m78) rfl rfl,← c47_loop s hs s 0 rfl (by omega)]
 simp (maxSteps := 4000000) (disch := first | omega | exact ok_of (by kernel_rfl) | decide) only [bA.u,seval,cut,if_pos,if_neg,m78,Run_loop]
 exact congrArg (fin R47) (RunL_canon (canon_cong (by kernel_rfl) (by kernel_rfl) (by kernel_rfl)))
def textB (s : List UInt8) : Bool := decide (1 ≤ s.length) && decide (s.length ≤ 64) && Lib.validD s
theorem c46 (s : List UInt8) (hs : s.length < 1000000) : Call Q 81 [.str s] = some (.bool (textB s)) := by
 have hv : Call Q 128 [.str s] = some (.bool (Lib.validD s)) := by
  rw [Call_prim Q (g := pValid) rfl]
  simp only [pValid]
  rw [if_pos (by omega)]
 unfold textB
 rw [Call_fn Q (m := m81) rfl rfl]
 have e1 : decide ((1 : Int) ≤ (s.length : Int)) = decide (1 ≤ s.length) := by rw [Bool.eq_iff_iff]; simp; omega
 have e2 : decide ((s.length : Int) ≤ 64) = decide (s.length ≤ 64) := by rw [Bool.eq_iff_iff]; simp; omega
 cases h1 : decide (1 ≤ s.length)
 ·simp (maxSteps := 4000000) (disch := first | omega | exact ok_of (by kernel_rfl) | decide) only [bA.u,seval,cut,if_pos,if_neg,m81,e1,e2,h1,hv]
  all_goals rfl
 ·cases h2 : decide (s.length ≤ 64)
  ·simp (maxSteps := 4000000) (disch := first | omega | exact ok_of (by kernel_rfl) | decide) only [bA.u,seval,cut,if_pos,if_neg,m81,e1,e2,h1,h2,hv]
   all_goals rfl
  ·simp (maxSteps := 4000000) (disch := first | omega | exact ok_of (by kernel_rfl) | decide) only [bA.u,seval,cut,if_pos,if_neg,m81,e1,e2,h1,h2,hv]
   all_goals rfl
abbrev Dn := List (List UInt8 × List UInt8)
def attr (a : List UInt8 × List UInt8) : MV := .agg [.str a.1,.str a.2]
def attrs (d : Dn) : List MV := d.map attr
theorem attrs_length (d : Dn) : (attrs d).length = d.length := by simp [attrs]
theorem attrs_get {d : Dn} {i : Nat} {a : List UInt8 × List UInt8} (h : d[i]? = some a) : (attrs d)[i]? = some (.agg [.str a.1,.str a.2]) := by
 simp [attrs,h,attr]
theorem c55 (t x : List UInt8) (hx : x.length < 1000000) : Call Q 80 [.agg [.str t,.str x]] = some (.bool (!textB x)) := by
 have h := c46 x hx
 rw [Call_fn Q (m := m80) rfl rfl]
 simp (maxSteps := 4000000) (disch := first | omega | exact ok_of (by kernel_rfl) | decide) only [bA.u,seval,cut,if_pos,if_neg,m80,h]
def badAt : Dn→Int→Int
 | [],_=>-1
 | a :: r,i=>if textB a.2 then badAt r (i + 1) else i
def R86 : List (Nat × Option (Bool × Nat) × PK) := [(4,none,.other)]
def V86 (d : Dn) (n i : Int) : List (Nat × MV) := [(0,.sl 2 (attrs d)),(1,.fn 80 []),(7,.int .i64 n),(8,.int .i64 i)]
def K86 : List Item := [.blk 0,.code (.seq (.rg [⟨some (.v 4),.mv (.c (.int .i64 (-1))),none⟩]) .ret)]
def okLens (d : Dn) : Prop := d.length < 1000000 ∧ ∀ a ∈ d,a.1.length < 1000000 ∧ a.2.length < 1000000
theorem c86_loop (d : Dn) (hl : okLens d) : ∀ (r : Dn) (i : Nat),d.drop i = r→i + r.length = d.length →
  fin R86 (RunL Q m127k0 m127b0 K86 ⟨V86 d d.length i,[],[],1⟩) = some (.int .i64 (badAt r i))
 | [],i,hd,hi=>by
  have hi' : i = d.length := by simpa using hi
  subst hi'
  have hlt : decide ((d.length : Int) < (d.length : Int)) = false := by simp
  obtain ⟨b',hb'⟩ : ∃ b',b' = m127b0 := ⟨_,rfl⟩
  rw [RunL_eq,show Item.lp m127k0 m127b0 = Item.lp m127k0 b' by rw [hb']]
  simp (maxSteps := 4000000) (disch := first | omega | exact ok_of (by kernel_rfl) | decide) only [bA.u,seval,cut,if_pos,if_neg,m127b0,V86,R86,K86,hlt]
  all_goals rfl
 | a :: r,i,hd,hi=>by
  simp only [List.length_cons] at hi
  have hlen := hl.1
  have hlt : decide ((i : Int) < (d.length : Int)) = true := by simp; omega
  have i0 : (0 : Int) ≤ (i : Int) := by omega
  have i1 : (i : Int) < (d.length : Int) := by omega
  have hg : d[i]? = some a := by
   have := congrArg (·[0]?) hd
   simpa [List.getElem?_drop] using this
  have hg' := attrs_get hg
  have hal := attrs_length d
  have hd' : d.drop (i + 1) = r := by
   have := congrArg (List.drop 1) hd
   simpa [List.drop_drop] using this
  have hc := c55 a.1 a.2 (hl.2 a (List.mem_of_getElem? hg)).2
  have ih := c86_loop d hl r (i + 1) hd' (by omega)
  have e : ((i : Int) + 1) = ((i + 1 : Nat) : Int) := by omega
  obtain ⟨b',hb'⟩ : ∃ b',b' = m127b0 := ⟨_,rfl⟩
  rw [RunL_eq,show Item.lp m127k0 m127b0 = Item.lp m127k0 b' by rw [hb']]
  rw [show badAt (a :: r) i = if textB a.2 then badAt r (i + 1) else i from rfl]
  cases hp : textB a.2
  ·rw [hp] at hc
   simp (maxSteps := 4000000) (disch := first | omega | exact ok_of (by kernel_rfl) | decide) only [bA.u,seval,cut,if_pos,if_neg,m127b0,V86,R86,K86,hlt,i0,i1,hal,hg',hc]
  ·rw [hp] at hc
   obtain ⟨rhs,hr⟩ : ∃ x,x = badAt r ((i : Int) + 1) := ⟨_,rfl⟩
   rw [← hr]
   simp (maxSteps := 4000000) (disch := first | omega | exact ok_of (by kernel_rfl) | decide) only [bA.u,seval,cut,if_pos,if_neg,m127b0,V86,R86,K86,hlt,i0,i1,hal,hg',hc]
   subst hb'
   refine ((congrArg (fin _) (Run_lp Q _ _ _ _)).trans ?_)
   rw [hr,e,← ih]
   exact congrArg (fin R86) (RunL_canon (canon_cong (Eq.trans (by kernel_rfl) (show [(0,MV.sl 2 (attrs d)),(1,.fn 80 []),(7,.int .i64 (d.length : Int)),(8,.int .i64 ((i : Int) + 1))] = V86 d d.length (i + 1 : Nat) from by rw [e]; rfl)) (by kernel_rfl) (by kernel_rfl)))
theorem c86 (d : Dn) (hl : okLens d) : Call Q 127 [.sl 2 (attrs d),.fn 80 []] = some (.int .i64 (badAt d 0)) := by
 have hal := attrs_length d
 rw [Call_fn Q (m := m127) rfl rfl,show badAt d 0 = badAt d ((0 : Nat) : Int) from rfl,← c86_loop d hl d 0 rfl (by omega)]
 simp (maxSteps := 4000000) (disch := first | omega | exact ok_of (by kernel_rfl) | decide) only [bA.u,seval,cut,if_pos,if_neg,m127,hal,Run_loop]
 exact congrArg (fin R86) (RunL_canon (canon_cong (by kernel_rfl) (by kernel_rfl) (by kernel_rfl)))
theorem badAt_any : ∀ (d : Dn) (i : Int),0 ≤ i→decide (0 ≤ badAt d i) = d.any fun a=>!textB a.2
 | [],i,h=>rfl
 | a :: r,i,h=>by
  rw [show badAt (a :: r) i = if textB a.2 then badAt r (i + 1) else i from rfl,List.any_cons]
  cases textB a.2
  ·simp; omega
  ·simpa using badAt_any r (i + 1) (by omega)
theorem c54 (d : Dn) (hl : okLens d) : Call Q 79 [.sl 2 (attrs d),.fn 80 []] = some (.bool (d.any fun a=>!textB a.2)) := by
 have h := c86 d hl
 have h2 := badAt_any d 0 (Int.le_refl _)
 rw [Call_fn Q (m := m79) rfl rfl]
 simp (maxSteps := 4000000) (disch := first | omega | exact ok_of (by kernel_rfl) | decide) only [bA.u,seval,cut,if_pos,if_neg,m79,h,h2]
def R58 : List (Nat × Option (Bool × Nat) × PK) := [(4,none,.other)]
def V58 (a b : Dn) (n i : Int) : List (Nat × MV) := [(0,.sl 2 (attrs a)),(1,.sl 2 (attrs b)),(12,.int .i64 n),(13,.int .i64 i)]
def K58 : List Item := [.blk 0,.code (.seq (.rg [⟨some (.v 4),.mv (.c (.bool true)),none⟩]) .ret)]
theorem c58_loop (a b : Dn) (hl : a.length < 1000000) (hb : b.length = a.length) : ∀ (r q : Dn) (i : Nat),a.drop i = r→b.drop i = q→i + r.length = a.length →
  fin R58 (RunL Q m51k0 m51b0 K58 ⟨V58 a b a.length i,[],[],1⟩) = some (.bool (decide (r = q)))
 | [],q,i,hd,hq,hi=>by
  have hi' : i = a.length := by simpa using hi
  subst hi'
  have hq' : q = [] := by rw [← hq,List.drop_eq_nil_of_le (by omega)]
  subst hq'
  have hlt : decide ((a.length : Int) < (a.length : Int)) = false := by simp
  obtain ⟨b',hb'⟩ : ∃ b',b' = m51b0 := ⟨_,rfl⟩
  rw [RunL_eq,show Item.lp m51k0 m51b0 = Item.lp m51k0 b' by rw [hb']]
  simp (maxSteps := 4000000) (disch := first | omega | exact ok_of (by kernel_rfl) | decide) only [bA.u,seval,cut,if_pos,if_neg,m51b0,V58,R58,K58,hlt]
 | x :: r,[],i,hd,hq,hi=>by
  simp only [List.length_cons] at hi
  have := List.drop_eq_nil_iff.1 hq
  omega
 | x :: r,y :: q,i,hd,hq,hi=>by
  simp only [List.length_cons] at hi
  have hlt : decide ((i : Int) < (a.length : Int)) = true := by simp; omega
  have i0 : (0 : Int) ≤ (i : Int) := by omega
  have i1 : (i : Int) < (a.length : Int) := by omega
  have hg : a[i]? = some x := by
   have := congrArg (·[0]?) hd
   simpa [List.getElem?_drop] using this
  have hg2 : b[i]? = some y := by
   have := congrArg (·[0]?) hq
   simpa [List.getElem?_drop] using this
  have ga := attrs_get hg
  have gb := attrs_get hg2
  have la := attrs_length a
  have lb := (attrs_length b).trans hb
  have hd' : a.drop (i + 1) = r := by
   have := congrArg (List.drop 1) hd
   simpa [List.drop_drop] using this
  have hq' : b.drop (i + 1) = q := by
   have := congrArg (List.drop 1) hq
   simpa [List.drop_drop] using this
  have ih := c58_loop a b hl hb r q (i + 1) hd' hq' (by omega)
  have e : ((i : Int) + 1) = ((i + 1 : Nat) : Int) := by omega
  obtain ⟨x1,x2⟩ := x
  obtain ⟨y1,y2⟩ := y
  obtain ⟨b',hb'⟩ : ∃ b',b' = m51b0 := ⟨_,rfl⟩
  rw [RunL_eq,show Item.lp m51k0 m51b0 = Item.lp m51k0 b' by rw [hb']]
  cases h1 : (x1 == y1)
  ·have hne : decide ((x1,x2) :: r = (y1,y2) :: q) = false := by
    have : x1 ≠ y1 := by simpa using h1
    simp [this]
   rw [hne]
   simp (maxSteps := 4000000) (disch := first | omega | exact ok_of (by kernel_rfl) | decide) only [bA.u,seval,cut,if_pos,if_neg,m51b0,V58,R58,K58,hlt,i0,i1,la,lb,ga,gb,h1,eqCells]
  ·cases h2 : (x2 == y2)
   ·have hne : decide ((x1,x2) :: r = (y1,y2) :: q) = false := by
     have : x2 ≠ y2 := by simpa using h2
     simp [this]
    rw [hne]
    simp (maxSteps := 4000000) (disch := first | omega | exact ok_of (by kernel_rfl) | decide) only [bA.u,seval,cut,if_pos,if_neg,m51b0,V58,R58,K58,hlt,i0,i1,la,lb,ga,gb,h1,h2,eqCells]
   ·have he : decide ((x1,x2) :: r = (y1,y2) :: q) = decide (r = q) := by
     have e1 : x1 = y1 := by simpa using h1
     have e2 : x2 = y2 := by simpa using h2
     simp [e1,e2]
    rw [he]
    obtain ⟨rhs,hr⟩ : ∃ x,x = decide (r = q) := ⟨_,rfl⟩
    rw [← hr]
    simp (maxSteps := 4000000) (disch := first | omega | exact ok_of (by kernel_rfl) | decide) only [bA.u,seval,cut,if_pos,if_neg,m51b0,V58,R58,K58,hlt,i0,i1,la,lb,ga,gb,h1,h2,eqCells]
    subst hb'
    refine ((congrArg (fin _) (Run_lp Q _ _ _ _)).trans ?_)
    rw [hr,← ih]
    exact congrArg (fin R58) (RunL_canon (canon_cong (Eq.trans (by kernel_rfl) (show [(0,MV.sl 2 (attrs a)),(1,.sl 2 (attrs b)),(12,.int .i64 (a.length : Int)),(13,.int .i64 ((i : Int) + 1))] = V58 a b a.length (i + 1 : Nat) from by rw [e]; rfl)) (by kernel_rfl) (by kernel_rfl)))
theorem c24 (a b : Dn) (hl : a.length < 1000000) (hl2 : b.length < 1000000) : Call Q 29 [.sl 2 (attrs a),.sl 2 (attrs b)] = some (.bool (decide (a = b))) := by
 have la := attrs_length a
 have lb := attrs_length b
 have h58 : Call Q 51 [.sl 2 (attrs a),.sl 2 (attrs b)] = some (.bool (decide (a = b))) := by
  rw [Call_fn Q (m := m51) rfl rfl]
  by_cases hb : b.length = a.length
  ·rw [← c58_loop a b hl hb a b 0 rfl rfl (by omega)]
   simp (maxSteps := 4000000) (disch := first | omega | exact ok_of (by kernel_rfl) | decide) only [bA.u,seval,cut,if_pos,if_neg,m51,la,lb,hb,Run_loop]
   exact congrArg (fin R58) (RunL_canon (canon_cong (by kernel_rfl) (by kernel_rfl) (by kernel_rfl)))
  ·have hne : decide (a = b) = false := by
    have : a ≠ b := fun h=>hb (by rw [h])
    simp [this]
   have hn2 : ((a.length : Int) == (b.length : Int)) = false := by rw [beq_eq_false_iff_ne]; omega
   rw [hne]
   simp (maxSteps := 4000000) (disch := first | omega | exact ok_of (by kernel_rfl) | decide) only [bA.u,seval,cut,if_pos,if_neg,m51,la,lb,hn2]
 rw [Call_fn Q (m := m29) rfl rfl]
 simp (maxSteps := 4000000) (disch := first | omega | exact ok_of (by kernel_rfl) | decide) only [bA.u,seval,cut,if_pos,if_neg,m29,h58]
end Go.Mini.Nm
namespace Go.Mini.Nm
open Go Go.Mini Go.Proofs.YtaehaajckndejaaGreatDoor
set_option maxRecDepth 100000
set_option maxHeartbeats 4000000
def tagOf (s : List UInt8) : Int := if s.all printB then 19 else 12
def oidV (out : List UInt8) : MV := .agg [.int .i64 0,.int .i64 6,.bool false,.bs out,.nilsl]
def textV (s : List UInt8) : MV := .agg [.int .i64 0,.int .i64 (tagOf s),.bool false,.bs s,.nilsl]
def pairV (out s : List UInt8) : MV := .agg [.int .i64 0,.int .i64 16,.bool true,.nilsl,.sl 5 [oidV out,textV s]]
def kidV (out s : List UInt8) : MV := .agg [.int .i64 0,.int .i64 17,.bool true,.nilsl,.sl 5 [pairV out s]]
def kidsV : Dn→Option (List MV)
 | []=>some []
 | a :: r=>match oidS a.1,kidsV r with
  | some out,some l=>some (kidV out a.2 :: l)
  | _,_=>none
def R19 : List (Nat × Option (Bool × Nat) × PK) := [(2,some (true,5),.other),(3,none,.other)]
def err5 (e : Int) : MV := .tup [.agg zero5,.int .i64 e]
def V19 (d : Dn) (i : Int) : List (Nat × MV) := [(0,.sl 2 (attrs d)),(2,.ptr 0 0),(4,.ptr 1 0),(15,.sl 2 (attrs d)),(16,.int .i64 (d.length : Int)),(17,.int .i64 i)]
def O19 : List MV→List (Nat × Obj)
 | []=>[(0,.cells zero5),(1,.cells [.int .i64 0,.int .i64 16,.bool true,.nilsl,.nilsl])]
 | k :: ks=>[(0,.cells zero5),(1,.cells [.int .i64 0,.int .i64 16,.bool true,.nilsl,.own 2 (ks.length + 1)]),(2,.el 5 (k :: ks) false)]
def nx19 : List MV→Nat
 | []=>3
 | _=>4
theorem c19_step (d : Dn) (hd : d.length ≤ 16) (hl : okLens d) (ks : List MV) (hk : ks.length ≤ 16) (i : Nat) (a : List UInt8 × List UInt8) (hg : d[i]? = some a) (K : List Item) :
  fin R19 (RunL Q m56k0 m56b0 (.blk 0 :: K) ⟨V19 d i,[],O19 ks,nx19 ks⟩) = match oidS a.1 with
   | some out=>fin R19 (RunL Q m56k0 m56b0 (.blk 0 :: K) ⟨V19 d (i + 1 : Nat),[],O19 (ks ++ [kidV out a.2]),nx19 (ks ++ [kidV out a.2])⟩)
   | none=>some (err5 30) := by
 have hi : i < d.length := (List.getElem?_eq_some_iff.1 hg).1
 have hlt : decide ((i : Int) < (d.length : Int)) = true := by simp; omega
 have i0 : (0 : Int) ≤ (i : Int) := by omega
 have i1 : (i : Int) < (d.length : Int) := by omega
 have hal := attrs_length d
 have hg' := attrs_get hg
 have lens := hl.2 a (List.mem_of_getElem? hg)
 have ho := c53 a.1 lens.1
 have ht := c47 a.2 lens.2
 have htag : (if a.2.all printB = true then (19 : Int) else 12) = tagOf a.2 := rfl
 rw [htag] at ht
 have e : ((i : Int) + 1) = ((i + 1 : Nat) : Int) := by omega
 obtain ⟨b',hb'⟩ : ∃ b',b' = m56b0 := ⟨_,rfl⟩
 cases hx : oidS a.1 with
 | none =>
  rw [hx] at ho
  rw [RunL_eq,show Item.lp m56k0 m56b0 = Item.lp m56k0 b' by rw [hb']]
  cases ks with
  | nil =>
   simp (maxSteps := 4000000) (disch := first | omega | exact ok_of (by kernel_rfl) | decide) only [bA.u,seval,cut,if_pos,if_neg,m56b0,V19,O19,nx19,R19,zero5,err5,hlt,i0,i1,hal,hg',ho,ht,ans53,bad53]
  | cons k ks =>
   simp (maxSteps := 4000000) (disch := first | omega | exact ok_of (by kernel_rfl) | decide) only [bA.u,seval,cut,if_pos,if_neg,m56b0,V19,O19,nx19,R19,zero5,err5,hlt,i0,i1,hal,hg',ho,ht,ans53,bad53]
 | some out =>
  rw [hx] at ho
  obtain ⟨rhs,hr⟩ : ∃ x,x = fin R19 (RunL Q m56k0 m56b0 (.blk 0 :: K) ⟨V19 d (i + 1 : Nat),[],O19 (ks ++ [kidV out a.2]),nx19 (ks ++ [kidV out a.2])⟩) := ⟨_,rfl⟩
  show _ = fin R19 (RunL Q m56k0 m56b0 (.blk 0 :: K) ⟨V19 d (i + 1 : Nat),[],O19 (ks ++ [kidV out a.2]),nx19 (ks ++ [kidV out a.2])⟩)
  rw [← hr,RunL_eq,show Item.lp m56k0 m56b0 = Item.lp m56k0 b' by rw [hb']]
  cases ks with
  | nil =>
   simp (maxSteps := 4000000) (disch := first | omega | exact ok_of (by kernel_rfl) | decide) only [bA.u,seval,cut,if_pos,if_neg,m56b0,V19,O19,nx19,R19,zero5,err5,hlt,i0,i1,hal,hg',ho,ht,ans53,good53,List.set]
   subst hb'
   refine ((congrArg (fin _) (Run_lp Q _ _ _ _)).trans ?_)
   rw [hr]
   exact congrArg (fin R19) (RunL_canon (canon_cong (Eq.trans (by kernel_rfl) (show [(0,MV.sl 2 (attrs d)),(2,.ptr 0 0),(4,.ptr 1 0),(15,.sl 2 (attrs d)),(16,.int .i64 (d.length : Int)),(17,.int .i64 ((i : Int) + 1))] = V19 d (i + 1 : Nat) from by rw [e]; rfl)) (by kernel_rfl) (by kernel_rfl)))
  | cons k ks =>
   have hcap : (ks.length + 1 + 1) * 72 ≤ 2 ^ 47 := by simp only [List.length_cons] at hk; omega
   simp (maxSteps := 4000000) (disch := first | omega | exact ok_of (by kernel_rfl) | decide) only [bA.u,seval,cut,if_pos,if_neg,m56b0,V19,O19,nx19,R19,zero5,err5,hlt,i0,i1,hal,hg',ho,ht,ans53,good53,hcap,List.set]
   subst hb'
   refine ((congrArg (fin _) (Run_lp Q _ _ _ _)).trans ?_)
   rw [hr]
   exact congrArg (fin R19) (RunL_canon (canon_cong (Eq.trans (by kernel_rfl) (show [(0,MV.sl 2 (attrs d)),(2,.ptr 0 0),(4,.ptr 1 0),(15,.sl 2 (attrs d)),(16,.int .i64 (d.length : Int)),(17,.int .i64 ((i : Int) + 1))] = V19 d (i + 1 : Nat) from by rw [e]; rfl))
    (Eq.trans (by kernel_rfl) (show [(0,Obj.cells zero5),(1,.cells [.int .i64 0,.int .i64 16,.bool true,.nilsl,.own 2 (ks.length + 1 + 1)]),(2,.el 5 (k :: (ks ++ [kidV out a.2])) false)] = O19 (k :: ks ++ [kidV out a.2]) from by simp [O19])) (by kernel_rfl)))
end Go.Mini.Nm
namespace Go.Mini.Nm
open Go Go.Mini Go.Proofs.YtaehaajckndejaaGreatDoor
set_option maxRecDepth 100000
set_option maxHeartbeats 4000000
theorem kidsV_cons (a : List UInt8 × List UInt8) (r : Dn) : kidsV (a :: r) = match oidS a.1,kidsV r with
  | some out,some l=>some (kidV out a.2 :: l)
  | _,_=>none := rfl
theorem c19_end (d : Dn) (ks : List MV) (K : List Item) : RunL Q m56k0 m56b0 (.blk 0 :: K) ⟨V19 d d.length,[],O19 ks,nx19 ks⟩ = Run Q K ⟨(18,.bool false) :: V19 d d.length,[],O19 ks,nx19 ks + 4⟩ := by
 have hlt : decide ((d.length : Int) < (d.length : Int)) = false := by simp
 obtain ⟨b',hb'⟩ : ∃ b',b' = m56b0 := ⟨_,rfl⟩
 rw [RunL_eq,show Item.lp m56k0 m56b0 = Item.lp m56k0 b' by rw [hb']]
 simp (maxSteps := 4000000) (disch := first | omega | exact ok_of (by kernel_rfl) | decide) only [bA.u,seval,cut,if_pos,if_neg,m56b0,V19,hlt]
theorem c19_loop (d : Dn) (hd : d.length ≤ 16) (hl : okLens d) (K : List Item) : ∀ (r : Dn) (ks : List MV) (i : Nat),d.drop i = r→i + r.length = d.length→ks.length = i →
  fin R19 (RunL Q m56k0 m56b0 (.blk 0 :: K) ⟨V19 d i,[],O19 ks,nx19 ks⟩) = match kidsV r with
   | some l=>fin R19 (Run Q K ⟨(18,.bool false) :: V19 d d.length,[],O19 (ks ++ l),nx19 (ks ++ l) + 4⟩)
   | none=>some (err5 30)
 | [],ks,i,hdr,hi,hk=>by
  have hi' : i = d.length := by simpa using hi
  subst hi'
  rw [c19_end d ks K]
  show _ = fin R19 (Run Q K ⟨(18,.bool false) :: V19 d d.length,[],O19 (ks ++ []),nx19 (ks ++ []) + 4⟩)
  rw [List.append_nil]
 | a :: r,ks,i,hdr,hi,hk=>by
  simp only [List.length_cons] at hi
  have hg : d[i]? = some a := by
   have := congrArg (·[0]?) hdr
   simpa [List.getElem?_drop] using this
  have hd' : d.drop (i + 1) = r := by
   have := congrArg (List.drop 1) hdr
   simpa [List.drop_drop] using this
  rw [c19_step d hd hl ks (by omega) i a hg K,kidsV_cons]
  cases ho : oidS a.1 with
  | none=>rfl
  | some out =>
   have ih := c19_loop d hd hl K r (ks ++ [kidV out a.2]) (i + 1) hd' (by omega) (by simp [hk])
   simp only
   rw [ih]
   cases kidsV r with
   | none=>rfl
   | some l=>simp only [List.append_assoc,List.cons_append,List.nil_append]
def kidsM : List MV→MV
 | []=>.nilsl
 | k :: ks=>.sl 5 (k :: ks)
def dnE (d : Dn) : Int := if 16 < d.length then 30 else match kidsV d with
 | none=>30
 | some _=>if (d.any fun a=>!textB a.2) = true then 31 else 0
def dnVal (d : Dn) : MV := if dnE d = 0 then .agg [.int .i64 0,.int .i64 16,.bool true,.nilsl,kidsM ((kidsV d).getD [])] else .agg zero5
theorem c19 (d : Dn) (hl : okLens d) : Call Q 56 [.sl 2 (attrs d)] = some (.tup [dnVal d,.int .i64 (dnE d)]) := by
 have hal := attrs_length d
 have hlen := hl.1
 have h54 := c54 d hl
 unfold dnVal
 rw [Call_fn Q (m := m56) rfl rfl]
 by_cases h1 : 16 < d.length
 ·have d1 : decide (16 < (d.length : Int)) = true := by simp; omega
  have e : dnE d = 30 := by unfold dnE; rw [if_pos h1]
  rw [e,if_neg (by decide)]
  simp (maxSteps := 4000000) (disch := first | omega | exact ok_of (by kernel_rfl) | decide) only [bA.u,seval,cut,if_pos,if_neg,m56,d1,hal,zero5]
 have d1 : decide (16 < (d.length : Int)) = false := by simp; omega
 obtain ⟨rhs,hr⟩ : ∃ x,x = some (MV.tup [if dnE d = 0 then .agg [.int .i64 0,.int .i64 16,.bool true,.nilsl,kidsM ((kidsV d).getD [])] else .agg zero5,.int .i64 (dnE d)]) := ⟨_,rfl⟩
 rw [← hr]
 simp (maxSteps := 4000000) (disch := first | omega | exact ok_of (by kernel_rfl) | decide) only [bA.u,seval,cut,if_pos,if_neg,m56,d1,hal,Run_loop]
 refine (congrArg (fin _) (RunL_canon (canon_cong (V := V19 d (0 : Nat)) (O := O19 []) (nx := nx19 []) (by kernel_rfl) (by kernel_rfl) (by kernel_rfl)))).trans ?_
 refine (c19_loop d (by omega) hl _ d [] 0 rfl (by simp) rfl).trans ?_
 rw [hr]
 cases hk : kidsV d with
 | none =>
  have e : dnE d = 30 := by unfold dnE; rw [if_neg h1,hk]
  rw [e,if_neg (by decide)]
  all_goals rfl
 | some l =>
  simp only [List.nil_append]
  cases ha : d.any fun a=>!textB a.2
  ·rw [ha] at h54
   have e : dnE d = 0 := by unfold dnE; rw [if_neg h1,hk]; simp only [ha]; rfl
   rw [e,if_pos rfl]
   cases l with
   | nil =>
    simp (maxSteps := 4000000) (disch := first | omega | exact ok_of (by kernel_rfl) | decide) only [bA.u,seval,cut,if_pos,if_neg,V19,O19,nx19,R19,h54,hal,zero5,kidsM]
   | cons k ks =>
    simp (maxSteps := 4000000) (disch := first | omega | exact ok_of (by kernel_rfl) | decide) only [bA.u,seval,cut,if_pos,if_neg,V19,O19,nx19,R19,h54,hal,zero5,kidsM]
  ·rw [ha] at h54
   have e : dnE d = 31 := by unfold dnE; rw [if_neg h1,hk]; simp only [ha]; rfl
   rw [e,if_neg (by decide)]
   cases l with
   | nil =>
    simp (maxSteps := 4000000) (disch := first | omega | exact ok_of (by kernel_rfl) | decide) only [bA.u,seval,cut,if_pos,if_neg,V19,O19,nx19,R19,h54,hal,zero5,kidsM]
   | cons k ks =>
    simp (maxSteps := 4000000) (disch := first | omega | exact ok_of (by kernel_rfl) | decide) only [bA.u,seval,cut,if_pos,if_neg,V19,O19,nx19,R19,h54,hal,zero5,kidsM]
end Go.Mini.Nm
namespace Go.Mini.Nm
open Go Go.Mini Go.Proofs.YtaehaajckndejaaGreatDoor
set_option maxRecDepth 100000
set_option maxHeartbeats 4000000
theorem dnE_or (d : Dn) : dnE d = 0 ∨ dnE d = 30 ∨ dnE d = 31 := by
 unfold dnE
 split
 ·exact Or.inr (Or.inl rfl)
 ·split
  ·exact Or.inr (Or.inl rfl)
  ·split
   ·exact Or.inr (Or.inr rfl)
   ·exact Or.inl rfl
theorem cut_attrs (a : Dn) (n : Nat) (h : n ≤ a.length) : cut (attrs a) none (some (.int .i64 (n : Int))) = some (attrs (a.take n)) := by
 have hal := attrs_length a
 simp only [cut]
 rw [if_pos ⟨Int.le_refl _,by omega,by omega⟩]
 simp [attrs,List.map_take]
end Go.Mini.Nm

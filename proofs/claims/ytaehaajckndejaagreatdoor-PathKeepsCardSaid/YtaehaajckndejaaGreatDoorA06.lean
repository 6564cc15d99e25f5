/- a certificate's names keep to limits as the document says: the law by that interpreter (part 6): what the program's functions answer, or plain laws of it; no conditions. -/
import Derived.Test.YtaehaajckndejaaGreatDoorA05
import Derived.Lib.SplitLaws
import Derived.Lib.ValidLaws
set_option linter.all false
namespace Go.Mini.Nm
open Go Go.Mini Go.Proofs.YtaehaajckndejaaGreatDoor
set_option maxRecDepth 100000
set_option maxHeartbeats 4000000
def smallB (c : UInt8) : UInt8 := if 65 ≤ c.toNat ∧ c.toNat ≤ 90 then c + 32 else c
def isI8 : Option MV→UInt8→Bool
 | some (.int .u8 a),b=>a == (b.toNat : Int)
 | _,_=>false
theorem isI8_ok {r : Option MV} {b : UInt8} (h : isI8 r b = true) : r = some (.int .u8 (b.toNat : Int)) := by
 unfold isI8 at h
 split at h
 ·rw [beq_iff_eq] at h; rw [h]
 ·cases h
theorem small_all : ((List.range 256).all fun c=>isI8 (callF Q 40 71 [.int .u8 (c : Int)]) (smallB (UInt8.ofNat c))) = true := by kernel_rfl
theorem c76 (c : UInt8) : Call Q 71 [.int .u8 (c.toNat : Int)] = some (.int .u8 ((smallB c).toNat : Int)) := by
 have := List.all_eq_true.1 small_all c.toNat (List.mem_range.2 c.toNat_lt)
 have := isI8_ok this
 rw [UInt8.ofNat_toNat] at this
 exact Call_iff.2 ⟨40,this⟩
theorem rprint_all : ((List.range 256).all fun c=>isB (callF Q 200 137 [.int .u8 (c : Int)]) (printB (UInt8.ofNat c))) = true := by kernel_rfl
theorem c85 (c : UInt8) : Call Q 137 [.int .u8 (c.toNat : Int)] = some (.bool (printB c)) := by
 have := List.all_eq_true.1 rprint_all c.toNat (List.mem_range.2 c.toNat_lt)
 have := isB_ok this
 rw [UInt8.ofNat_toNat] at this
 exact Call_iff.2 ⟨200,this⟩
def V52 (s : List UInt8) (i : Int) : List (Nat × MV) := [(0,.str s),(3,.int .i64 i)]
def R52 : List (Nat × Option (Bool × Nat) × PK) := [(2,none,.other)]
def K52 : List Item := [.blk 0,.code (.seq (.rg [⟨some (.v 2),.mv (.c (.int .i64 19)),none⟩]) .ret)]
theorem c52_loop (s : List UInt8) (hs : s.length < 1000000) : ∀ (r : List UInt8) (i : Nat),s.drop i = r→i + r.length = s.length →
  fin R52 (RunL Q m94k0 m94b0 K52 ⟨V52 s i,[],[],1⟩) = some (.int .i64 (tagOf r))
 | [],i,hd,hi=>by
  have hi' : i = s.length := by simpa using hi
  subst hi'
  have hlt : decide ((s.length : Int) < (s.length : Int)) = false := by simp
  obtain ⟨b',hb'⟩ : ∃ b',b' = m94b0 := ⟨_,rfl⟩
  rw [RunL_eq,show Item.lp m94k0 m94b0 = Item.lp m94k0 b' by rw [hb']]
  simp (maxSteps := 4000000) (disch := first | omega | exact ok_of (by kernel_rfl) | decide) only [bA.u,seval,cut,if_pos,if_neg,m94b0,V52,R52,K52,hlt]
  all_goals rfl
 | c :: r,i,hd,hi=>by
  simp only [List.length_cons] at hi
  have hlt : decide ((i : Int) < (s.length : Int)) = true := by simp; omega
  have i0 : (0 : Int) ≤ (i : Int) := by omega
  have i1 : (i : Int) < (s.length : Int) := by omega
  have hg : s[i]? = some c := by
   have := congrArg (·[0]?) hd
   simpa [List.getElem?_drop] using this
  have hg' : s.getD i 0 = c := by rw [List.getD_eq_getElem?_getD,hg]; rfl
  have hd' : s.drop (i + 1) = r := by
   have := congrArg (List.drop 1) hd
   simpa [List.drop_drop] using this
  have hc := c85 c
  have ih := c52_loop s hs r (i + 1) hd' (by omega)
  have e : ((i : Int) + 1) = ((i + 1 : Nat) : Int) := by omega
  unfold tagOf
  rw [List.all_cons]
  obtain ⟨b',hb'⟩ : ∃ b',b' = m94b0 := ⟨_,rfl⟩
  rw [RunL_eq,show Item.lp m94k0 m94b0 = Item.lp m94k0 b' by rw [hb']]
  cases hp : printB c
  ·rw [hp] at hc
   simp (maxSteps := 4000000) (disch := first | omega | exact ok_of (by kernel_rfl) | decide) only [bA.u,seval,cut,if_pos,if_neg,m94b0,V52,R52,K52,hlt,i0,i1,hg',hc]
   all_goals rfl
  ·rw [hp] at hc
   simp (maxSteps := 4000000) (disch := first | omega | exact ok_of (by kernel_rfl) | decide) only [bA.u,seval,cut,if_pos,if_neg,m94b0,V52,R52,K52,hlt,i0,i1,hg',hc]
   subst hb'
   refine ((congrArg (fin _) (Run_lp Q _ _ _ _)).trans ?_)
   (try rw [Bool.true_and]); unfold tagOf at ih; rw [← ih]
   exact congrArg (fin R52) (RunL_canon (canon_cong (Eq.trans (by kernel_rfl) (show [(0,MV.str s),(3,.int .i64 ((i : Int) + 1))] = V52 s (i + 1 : Nat) from by rw [e]; rfl)) (by kernel_rfl) (by kernel_rfl)))
theorem c52 (s : List UInt8) (hs : s.length < 1000000) : Call Q 94 [.str s] = some (.int .i64 (tagOf s)) := by
 rw [Call_fn Q (m := m94) rfl rfl,← c52_loop s hs s 0 rfl (by omega)]
 simp (maxSteps := 4000000) (disch := first | omega | exact ok_of (by kernel_rfl) | decide) only [bA.u,seval,cut,if_pos,if_neg,m94,Run_loop]
 exact congrArg (fin R52) (RunL_canon (canon_cong (by kernel_rfl) (by kernel_rfl) (by kernel_rfl)))
def alikeB (a b : List UInt8) : Bool := decide (a.map smallB = b.map smallB)
def R38 : List (Nat × Option (Bool × Nat) × PK) := [(4,none,.other)]
def V38 (a b : List UInt8) (i : Int) : List (Nat × MV) := [(0,.str a),(1,.str b),(5,.int .i64 i)]
def K38 : List Item := [.blk 0,.code (.seq (.rg [⟨some (.v 4),.mv (.c (.bool true)),none⟩]) .ret)]
theorem c38_loop (a b : List UInt8) (hl : a.length < 1000000) (hb : b.length = a.length) : ∀ (r q : List UInt8) (i : Nat),a.drop i = r→b.drop i = q→i + r.length = a.length →
  fin R38 (RunL Q m47k0 m47b0 K38 ⟨V38 a b i,[],[],1⟩) = some (.bool (alikeB r q))
 | [],q,i,hd,hq,hi=>by
  have hi' : i = a.length := by simpa using hi
  subst hi'
  have hlt : decide ((a.length : Int) < (a.length : Int)) = false := by simp
  have hq' : q = [] := by rw [← hq,List.drop_eq_nil_of_le (by omega)]
  subst hq'
  obtain ⟨b',hb'⟩ : ∃ b',b' = m47b0 := ⟨_,rfl⟩
  rw [RunL_eq,show Item.lp m47k0 m47b0 = Item.lp m47k0 b' by rw [hb']]
  simp (maxSteps := 4000000) (disch := first | omega | exact ok_of (by kernel_rfl) | decide) only [bA.u,seval,cut,if_pos,if_neg,m47b0,V38,R38,K38,hlt]
  all_goals rfl
 | x :: r,[],i,hd,hq,hi=>by
  simp only [List.length_cons] at hi
  have := List.drop_eq_nil_iff.1 hq
  omega
 | x :: r,y :: q,i,hd,hq,hi=>by
  simp only [List.length_cons] at hi
  have hlt : decide ((i : Int) < (a.length : Int)) = true := by simp; omega
  have i0 : (0 : Int) ≤ (i : Int) := by omega
  have i1 : (i : Int) < (a.length : Int) := by omega
  have hg : a[i]? = some x := by
   have := congrArg (·[0]?) hd
   simpa [List.getElem?_drop] using this
  have hg' : a.getD i 0 = x := by rw [List.getD_eq_getElem?_getD,hg]; rfl
  have hd' : a.drop (i + 1) = r := by
   have := congrArg (List.drop 1) hd
   simpa [List.drop_drop] using this
  have hlt2 : decide ((i : Int) < (b.length : Int)) = true := by simp; omega
  have i02 : (0 : Int) ≤ (i : Int) := by omega
  have i12 : (i : Int) < (b.length : Int) := by omega
  have hg2 : b[i]? = some y := by
   have := congrArg (·[0]?) hq
   simpa [List.getElem?_drop] using this
  have hg'2 : b.getD i 0 = y := by rw [List.getD_eq_getElem?_getD,hg2]; rfl
  have hd'2 : b.drop (i + 1) = q := by
   have := congrArg (List.drop 1) hq
   simpa [List.drop_drop] using this
  have ca := c76 x
  have cb := c76 y
  have ih := c38_loop a b hl hb r q (i + 1) hd' hd'2 (by omega)
  have e : ((i : Int) + 1) = ((i + 1 : Nat) : Int) := by omega
  obtain ⟨b',hb'⟩ : ∃ b',b' = m47b0 := ⟨_,rfl⟩
  rw [RunL_eq,show Item.lp m47k0 m47b0 = Item.lp m47k0 b' by rw [hb']]
  by_cases h1 : smallB x = smallB y
  ·have hn : (((smallB x).toNat : Int) != ((smallB y).toNat : Int)) = false := by rw [h1]; exact bne_self_eq_false _
   have he : alikeB (x :: r) (y :: q) = alikeB r q := by unfold alikeB; simp [h1]
   rw [he]
   obtain ⟨rhs,hr⟩ : ∃ x,x = alikeB r q := ⟨_,rfl⟩
   rw [← hr]
   simp (maxSteps := 4000000) (disch := first | omega | exact ok_of (by kernel_rfl) | decide) only [bA.u,seval,cut,if_pos,if_neg,m47b0,V38,R38,K38,hlt,i0,i1,i12,hg',hg'2,ca,cb,hn,u8n hn]
   subst hb'
   refine ((congrArg (fin _) (Run_lp Q _ _ _ _)).trans ?_)
   rw [hr,← ih]
   exact congrArg (fin R38) (RunL_canon (canon_cong (Eq.trans (by kernel_rfl) (show [(0,MV.str a),(1,.str b),(5,.int .i64 ((i : Int) + 1))] = V38 a b (i + 1 : Nat) from by rw [e]; rfl)) (by kernel_rfl) (by kernel_rfl)))
  ·have hn : (((smallB x).toNat : Int) != ((smallB y).toNat : Int)) = true := by
    rw [bne_iff_ne]
    intro h
    exact h1 (UInt8.toNat_inj.1 (by omega))
   have he : alikeB (x :: r) (y :: q) = false := by unfold alikeB; simp [h1]
   rw [he]
   simp (maxSteps := 4000000) (disch := first | omega | exact ok_of (by kernel_rfl) | decide) only [bA.u,seval,cut,if_pos,if_neg,m47b0,V38,R38,K38,hlt,i0,i1,i12,hg',hg'2,ca,cb,hn,u8t hn]
theorem c38 (a b : List UInt8) (hl : a.length < 1000000) : Call Q 47 [.str a,.str b] = some (.bool (alikeB a b)) := by
 rw [Call_fn Q (m := m47) rfl rfl]
 by_cases hb : b.length = a.length
 ·have hn : ((a.length : Int) != (b.length : Int)) = false := by rw [hb]; exact bne_self_eq_false _
  rw [← c38_loop a b hl hb a b 0 rfl rfl (by omega)]
  simp (maxSteps := 4000000) (disch := first | omega | exact ok_of (by kernel_rfl) | decide) only [bA.u,seval,cut,if_pos,if_neg,m47,Run_loop,hn,bnn hn]
  exact congrArg (fin R38) (RunL_canon (canon_cong (by kernel_rfl) (by kernel_rfl) (by kernel_rfl)))
 ·have hn : ((a.length : Int) != (b.length : Int)) = true := by rw [bne_iff_ne]; omega
  have he : alikeB a b = false := by
   unfold alikeB
   rw [decide_eq_false_iff_not]
   intro h
   have := congrArg List.length h
   simp only [List.length_map] at this
   exact hb this.symm
  rw [he]
  simp (maxSteps := 4000000) (disch := first | omega | exact ok_of (by kernel_rfl) | decide) only [bA.u,seval,cut,if_pos,if_neg,m47,Run_loop,hn,bnt hn]
def endsB (s w : List UInt8) : Bool := decide (w.length < s.length) && alikeB (s.drop (s.length - w.length)) w
theorem c39 (s w : List UInt8) (hl : s.length < 1000000) : Call Q 48 [.str s,.str w] = some (.bool (endsB s w)) := by
 rw [Call_fn Q (m := m48) rfl rfl]
 unfold endsB
 by_cases h : w.length < s.length
 ·have h1 : decide ((w.length : Int) < (s.length : Int)) = true := by simp; omega
  have h2 : decide (w.length < s.length) = true := by simp; omega
  have hc : cut s (some (.int .i64 ((s.length : Int) - (w.length : Int)))) none = some (s.drop (s.length - w.length)) := by
   simp only [cut]
   rw [if_pos ⟨by omega,by omega,by omega⟩,show ((s.length : Int) - (w.length : Int)).toNat = s.length - w.length by omega,List.take_of_length_le (by simp)]
  have h38 := c38 (s.drop (s.length - w.length)) w (by rw [List.length_drop]; omega)
  rw [h2]
  simp (maxSteps := 4000000) (disch := first | omega | exact ok_of (by kernel_rfl) | decide) only [bA.u,seval,if_pos,if_neg,m48,h1,hc,h38]
 ·have h1 : decide ((w.length : Int) < (s.length : Int)) = false := by simp; omega
  have h2 : decide (w.length < s.length) = false := by simp; omega
  rw [h2]
  simp (maxSteps := 4000000) (disch := first | omega | exact ok_of (by kernel_rfl) | decide) only [bA.u,seval,cut,if_pos,if_neg,m48,h1]
def atB : List UInt8→UInt8→Nat→Int
 | [],_,_=>-1
 | c :: r,x,i=>if c = x then i else atB r x (i + 1)
def R75 : List (Nat × Option (Bool × Nat) × PK) := [(4,none,.other)]
def V75 (s : List UInt8) (x : UInt8) (i : Int) : List (Nat × MV) := [(0,.str s),(1,.int .u8 (x.toNat : Int)),(5,.int .i64 i)]
def K75 : List Item := [.blk 0,.code (.seq (.rg [⟨some (.v 4),.mv (.c (.int .i64 (-1))),none⟩]) .ret)]
theorem c75_loop (s : List UInt8) (hs : s.length < 1000000) (x : UInt8) : ∀ (r : List UInt8) (i : Nat),s.drop i = r→i + r.length = s.length →
  fin R75 (RunL Q m70k0 m70b0 K75 ⟨V75 s x i,[],[],1⟩) = some (.int .i64 (atB r x i))
 | [],i,hd,hi=>by
  have hi' : i = s.length := by simpa using hi
  subst hi'
  have hlt : decide ((s.length : Int) < (s.length : Int)) = false := by simp
  obtain ⟨b',hb'⟩ : ∃ b',b' = m70b0 := ⟨_,rfl⟩
  rw [RunL_eq,show Item.lp m70k0 m70b0 = Item.lp m70k0 b' by rw [hb']]
  simp (maxSteps := 4000000) (disch := first | omega | exact ok_of (by kernel_rfl) | decide) only [bA.u,seval,cut,if_pos,if_neg,m70b0,V75,R75,K75,hlt]
  all_goals rfl
 | c :: r,i,hd,hi=>by
  simp only [List.length_cons] at hi
  have hlt : decide ((i : Int) < (s.length : Int)) = true := by simp; omega
  have i0 : (0 : Int) ≤ (i : Int) := by omega
  have i1 : (i : Int) < (s.length : Int) := by omega
  have hg : s[i]? = some c := by
   have := congrArg (·[0]?) hd
   simpa [List.getElem?_drop] using this
  have hg' : s.getD i 0 = c := by rw [List.getD_eq_getElem?_getD,hg]; rfl
  have hd' : s.drop (i + 1) = r := by
   have := congrArg (List.drop 1) hd
   simpa [List.drop_drop] using this
  have ih := c75_loop s hs x r (i + 1) hd' (by omega)
  have e : ((i : Int) + 1) = ((i + 1 : Nat) : Int) := by omega
  unfold atB
  obtain ⟨b',hb'⟩ : ∃ b',b' = m70b0 := ⟨_,rfl⟩
  rw [RunL_eq,show Item.lp m70k0 m70b0 = Item.lp m70k0 b' by rw [hb']]
  by_cases hp : c = x
  ·have hq : ((c.toNat : Int) == (x.toNat : Int)) = true := by rw [hp]; exact beq_self_eq_true _
   have hq2 : (c == x) = true := by rw [hp]; exact beq_self_eq_true _
   rw [if_pos hp]
   simp (maxSteps := 4000000) (disch := first | omega | exact ok_of (by kernel_rfl) | decide) only [bA.u,seval,cut,if_pos,if_neg,m70b0,V75,R75,K75,hlt,i0,i1,hg',hq,hq2]
  ·have hq : ((c.toNat : Int) == (x.toNat : Int)) = false := by
    rw [beq_eq_false_iff_ne]
    intro h
    exact hp (UInt8.toNat_inj.1 (by omega))
   have hq2 : (c == x) = false := by rw [beq_eq_false_iff_ne]; exact hp
   rw [if_neg hp]
   obtain ⟨rhs,hr⟩ : ∃ y,y = atB r x (i + 1) := ⟨_,rfl⟩
   rw [← hr]
   simp (maxSteps := 4000000) (disch := first | omega | exact ok_of (by kernel_rfl) | decide) only [bA.u,seval,cut,if_pos,if_neg,m70b0,V75,R75,K75,hlt,i0,i1,hg',hq,hq2]
   subst hb'
   refine ((congrArg (fin _) (Run_lp Q _ _ _ _)).trans ?_)
   rw [hr,← ih]
   exact congrArg (fin R75) (RunL_canon (canon_cong (Eq.trans (by kernel_rfl) (show [(0,MV.str s),(1,.int .u8 (x.toNat : Int)),(5,.int .i64 ((i : Int) + 1))] = V75 s x (i + 1 : Nat) from by rw [e]; rfl)) (by kernel_rfl) (by kernel_rfl)))
theorem c75 (s : List UInt8) (hs : s.length < 1000000) (x : UInt8) : Call Q 70 [.str s,.int .u8 (x.toNat : Int)] = some (.int .i64 (atB s x 0)) := by
 rw [Call_fn Q (m := m70) rfl rfl,← c75_loop s hs x s 0 rfl (by omega)]
 simp (maxSteps := 4000000) (disch := first | omega | exact ok_of (by kernel_rfl) | decide) only [bA.u,seval,cut,if_pos,if_neg,m70,Run_loop]
 exact congrArg (fin R75) (RunL_canon (canon_cong (by kernel_rfl) (by kernel_rfl) (by kernel_rfl)))
end Go.Mini.Nm
namespace Go.Mini.Nm
open Go Go.Mini Go.Proofs.YtaehaajckndejaaGreatDoor
set_option maxRecDepth 100000
set_option maxHeartbeats 4000000
def okC (c : UInt8) : Bool := (decide (97 ≤ (smallB c).toNat) && decide ((smallB c).toNat ≤ 122)) || (decide (48 ≤ (smallB c).toNat) && decide ((smallB c).toNat ≤ 57)) || smallB c == 45
def labelE (l : List UInt8) : Bool := decide (1 ≤ l.length) && decide (l.length ≤ 63) && !(l.getD 0 0 == 45) && !(l.getD (l.length - 1) 0 == 45)
def labelB (l : List UInt8) : Bool := labelE l && l.all okC
def splits : List UInt8→List (List UInt8)
 | []=>[[]]
 | c :: r=>if c = 46 then [] :: splits r else match splits r with
  | p :: ps=>(c :: p) :: ps
  | []=>[[c]]
def machB (s : List UInt8) : Bool := (splits s).all labelB
def machR : List UInt8→List UInt8→Bool
 | cur,[]=>labelE cur
 | cur,c :: r=>if c = 46 then labelE cur && machR [] r else okC c && machR (cur ++ [c]) r
theorem splits_ne : ∀ s,splits s ≠ []
 | []=>by simp [splits]
 | c :: r=>by
  unfold splits
  split
  ·simp
  ·split <;> simp
theorem machR_eq : ∀ (r cur : List UInt8),cur.all okC = true→machR cur r = match splits r with | p :: ps=>labelB (cur ++ p) && ps.all labelB | []=>false
 | [],cur,h=>by simp [machR,splits,labelB,h]
 | c :: r,cur,h=>by
  unfold machR splits
  by_cases hc : c = 46
  ·rw [if_pos hc,if_pos hc]
   have ih := machR_eq r [] rfl
   rw [ih]
   have hn := splits_ne r
   cases hs : splits r with
   | nil=>exact (hn hs).elim
   | cons p ps=>simp [labelB,h]
  ·rw [if_neg hc,if_neg hc]
   have hn := splits_ne r
   cases hk : okC c
   ·cases hs : splits r with
    | nil=>exact (hn hs).elim
    | cons p ps=>simp [labelB,hk]
   ·have ih := machR_eq r (cur ++ [c]) (by simp [h,hk])
    rw [ih]
    cases hs : splits r with
    | nil=>exact (hn hs).elim
    | cons p ps=>simp
theorem machR_mach (s : List UInt8) : machR [] s = machB s := by
 rw [machR_eq s [] rfl]
 unfold machB
 have hn := splits_ne s
 cases hs : splits s with
 | nil=>exact (hn hs).elim
 | cons p ps=>simp
theorem split_eq : ∀ s : List UInt8,Lib.splitK [46] 0 (Lib.count s [46]) s = splits s
 | []=>rfl
 | c :: r=>by
  have ih := split_eq r
  unfold splits
  by_cases hc : c = 46
  ·subst hc
   rw [if_pos rfl,Lib.count_cons_eq,Nat.add_comm,← ih]
   all_goals rfl
  ·rw [if_neg hc,Lib.count_cons_ne c 46 r hc]
   have hp : ([46] : List UInt8).isPrefixOf (c :: r) = false := by simp [List.isPrefixOf,Ne.symm hc]
   have hix : Lib.index (c :: r) [46] = if Lib.index r [46] == -1 then -1 else Lib.index r [46] + 1 := by rw [Lib.index,hp]; simp
   rw [← ih]
   cases hk : Lib.count r [46] with
   | zero=>rfl
   | succ k =>
    have hm : Lib.index r [46] ≠ -1 := fun h=>by rw [Lib.count_miss h] at hk; cases hk
    have hge := Lib.index_ge r [46]
    obtain ⟨j,hj⟩ : ∃ j : Nat,Lib.index r [46] = j := ⟨(Lib.index r [46]).toNat,by omega⟩
    have e1 : (Lib.index r [46] == -1) = false := by rw [beq_eq_false_iff_ne]; exact hm
    have e2 : Lib.index (c :: r) [46] = ((j + 1 : Nat) : Int) := by rw [hix,e1,hj]; simp
    have e3 : (Lib.index (c :: r) [46] == -1) = false := by rw [e2,beq_eq_false_iff_ne]; omega
    unfold Lib.splitK
    rw [e1,e3,e2,hj]
    simp
theorem getD_cur {s cur rest : List UInt8} {p j : Nat} (h : s.drop p = cur ++ rest) (hj : j < cur.length) : s.getD (p + j) 0 = cur.getD j 0 := by
 rw [List.getD_eq_getElem?_getD,List.getD_eq_getElem?_getD,← List.getElem?_drop,h,List.getElem?_append_left hj]
def R37 : List (Nat × Option (Bool × Nat) × PK) := [(2,none,.other)]
def V37 (s : List UInt8) (n i : Int) : List (Nat × MV) := [(0,.str s),(3,.int .i64 n),(4,.int .i64 i)]
def K37 : List Item := [.blk 0,.code (.seq (.rg [⟨some (.v 2),.mv (.c (.bool true)),none⟩]) .ret)]
theorem c37_past (s : List UInt8) (hs : s.length < 1000000) (n : Int) : fin R37 (RunL Q m46k0 m46b0 K37 ⟨V37 s n (s.length + 1 : Nat),[],[],1⟩) = some (.bool true) := by
  have hle : decide (((s.length + 1 : Nat) : Int) ≤ (s.length : Int)) = false := by simp; omega
  obtain ⟨b',hb'⟩ : ∃ b',b' = m46b0 := ⟨_,rfl⟩
  rw [RunL_eq,show Item.lp m46k0 m46b0 = Item.lp m46k0 b' by rw [hb']]
  simp (maxSteps := 4000000) (disch := first | omega | exact ok_of (by kernel_rfl) | decide) only [bA.u,seval,cut,if_pos,if_neg,m46b0,V37,R37,K37,hle]
theorem eq45 (x : UInt8) : ((x.toNat : Int) == 45) = (x == 45) := eq8 x 45
theorem eq46 (x : UInt8) : ((x.toNat : Int) == 46) = (x == 46) := eq8 x 46
theorem c37_label (s : List UInt8) (hs : s.length < 1000000) (cur rest : List UInt8) (p i : Nat) (hp : s.drop p = cur ++ rest) (hi : i = p + cur.length) (hil : i ≤ s.length) (hend : i = s.length ∨ i < s.length ∧ s.getD i 0 = 46) :
  fin R37 (RunL Q m46k0 m46b0 K37 ⟨V37 s (cur.length : Int) i,[],[],1⟩) = if labelE cur = true then fin R37 (RunL Q m46k0 m46b0 K37 ⟨V37 s 0 (i + 1 : Nat),[],[],1⟩) else some (.bool false) := by
  have hle : decide ((i : Int) ≤ (s.length : Int)) = true := by simp; omega
  have i0 : (0 : Int) ≤ (i : Int) := by omega
  have e : ((i : Int) + 1) = ((i + 1 : Nat) : Int) := by omega
  have en : (0 : Int) = ((0 : Nat) : Int) := rfl
  have dot : ((i : Int) == (s.length : Int)) = true ∨ ((i : Int) == (s.length : Int)) = false ∧ (i : Int) < (s.length : Int) ∧ (s.getD i 0 == 46) = true := by
   rcases hend with h | ⟨h,h2⟩
   ·exact .inl (by rw [h]; exact beq_self_eq_true _)
   ·exact .inr ⟨by rw [beq_eq_false_iff_ne]; omega,by omega,by rw [h2]; rfl⟩
  obtain ⟨rhs,hr⟩ : ∃ z,z = fin R37 (RunL Q m46k0 m46b0 K37 ⟨V37 s 0 (i + 1 : Nat),[],[],1⟩) := ⟨_,rfl⟩
  rw [← hr]
  unfold labelE
  by_cases h1 : 1 ≤ cur.length
  ·have q1 : decide ((cur.length : Int) < 1) = false := by simp; omega
   have d1 : decide (1 ≤ cur.length) = true := by simp; omega
   by_cases h2 : cur.length ≤ 63
   ·have q2 : decide (63 < (cur.length : Int)) = false := by simp; omega
    have d2 : decide (cur.length ≤ 63) = true := by simp; omega
    have j1 : (i : Int) - 1 = ((p + (cur.length - 1) : Nat) : Int) := by omega
    have j2 : (i : Int) - (cur.length : Int) = (p : Int) := by omega
    have b1 : (0 : Int) ≤ ((p + (cur.length - 1) : Nat) : Int) := by omega
    have b2 : ((p + (cur.length - 1) : Nat) : Int) < (s.length : Int) := by omega
    have b3 : (0 : Int) ≤ (p : Int) := by omega
    have b4 : (p : Int) < (s.length : Int) := by omega
    have g1 := getD_cur hp (show cur.length - 1 < cur.length by omega)
    have g2 : s.getD p 0 = cur.getD 0 0 := getD_cur hp (show 0 < cur.length by omega)
    have w1 : -9223372036854775808 ≤ (i : Int) - (cur.length : Int) := by omega
    have w2 : (i : Int) - (cur.length : Int) ≤ 9223372036854775807 := by omega
    rw [d1,d2]
    cases x1 : (cur.getD (cur.length - 1) 0 == 45)
    ·cases x2 : (cur.getD 0 0 == 45)
     ·rw [if_pos (by decide)]
      obtain ⟨b',hb'⟩ : ∃ b',b' = m46b0 := ⟨_,rfl⟩
      rw [RunL_eq,show Item.lp m46k0 m46b0 = Item.lp m46k0 b' by rw [hb']]
      rcases dot with h3 | ⟨h3,h4,h5⟩
      ·simp (maxSteps := 4000000) (disch := first | omega | exact ok_of (by kernel_rfl) | decide) only [bA.u,seval,cut,if_pos,if_neg,m46b0,V37,R37,K37,hle,i0,eq45,eq46,h3,q1,q2,j1,j2,b1,b2,b3,b4,g1,g2,w1,w2,x1,x2]
       subst hb'
       refine ((congrArg (fin _) (Run_lp Q _ _ _ _)).trans ?_)
       rw [hr]
       exact congrArg (fin R37) (RunL_canon (canon_cong (Eq.trans (by kernel_rfl) (show [(0,MV.str s),(3,.int .i64 0),(4,.int .i64 ((i : Int) + 1))] = V37 s 0 (i + 1 : Nat) from by rw [e]; rfl)) (by kernel_rfl) (by kernel_rfl)))
      ·simp (maxSteps := 4000000) (disch := first | omega | exact ok_of (by kernel_rfl) | decide) only [bA.u,seval,cut,if_pos,if_neg,m46b0,V37,R37,K37,hle,i0,eq45,eq46,h3,h4,h5,q1,q2,j1,j2,b1,b2,b3,b4,g1,g2,w1,w2,x1,x2]
       subst hb'
       refine ((congrArg (fin _) (Run_lp Q _ _ _ _)).trans ?_)
       rw [hr]
       exact congrArg (fin R37) (RunL_canon (canon_cong (Eq.trans (by kernel_rfl) (show [(0,MV.str s),(3,.int .i64 0),(4,.int .i64 ((i : Int) + 1))] = V37 s 0 (i + 1 : Nat) from by rw [e]; rfl)) (by kernel_rfl) (by kernel_rfl)))
     ·rw [if_neg (by decide)]
      obtain ⟨b',hb'⟩ : ∃ b',b' = m46b0 := ⟨_,rfl⟩
      rw [RunL_eq,show Item.lp m46k0 m46b0 = Item.lp m46k0 b' by rw [hb']]
      rcases dot with h3 | ⟨h3,h4,h5⟩
      ·simp (maxSteps := 4000000) (disch := first | omega | exact ok_of (by kernel_rfl) | decide) only [bA.u,seval,cut,if_pos,if_neg,m46b0,V37,R37,K37,hle,i0,eq45,eq46,h3,q1,q2,j1,j2,b1,b2,b3,b4,g1,g2,w1,w2,x1,x2]
      ·simp (maxSteps := 4000000) (disch := first | omega | exact ok_of (by kernel_rfl) | decide) only [bA.u,seval,cut,if_pos,if_neg,m46b0,V37,R37,K37,hle,i0,eq45,eq46,h3,h4,h5,q1,q2,j1,j2,b1,b2,b3,b4,g1,g2,w1,w2,x1,x2]
    ·rw [Bool.not_true,Bool.and_false,if_neg (by decide)]
     obtain ⟨b',hb'⟩ : ∃ b',b' = m46b0 := ⟨_,rfl⟩
     rw [RunL_eq,show Item.lp m46k0 m46b0 = Item.lp m46k0 b' by rw [hb']]
     rcases dot with h3 | ⟨h3,h4,h5⟩
     ·simp (maxSteps := 4000000) (disch := first | omega | exact ok_of (by kernel_rfl) | decide) only [bA.u,seval,cut,if_pos,if_neg,m46b0,V37,R37,K37,hle,i0,eq45,eq46,h3,q1,q2,j1,j2,b1,b2,b3,b4,g1,g2,w1,w2,x1]
     ·simp (maxSteps := 4000000) (disch := first | omega | exact ok_of (by kernel_rfl) | decide) only [bA.u,seval,cut,if_pos,if_neg,m46b0,V37,R37,K37,hle,i0,eq45,eq46,h3,h4,h5,q1,q2,j1,j2,b1,b2,b3,b4,g1,g2,w1,w2,x1]
   ·have q2 : decide (63 < (cur.length : Int)) = true := by simp; omega
    have d2 : decide (cur.length ≤ 63) = false := by simp; omega
    rw [d2,Bool.and_false,Bool.false_and,Bool.false_and,if_neg (by decide)]
    obtain ⟨b',hb'⟩ : ∃ b',b' = m46b0 := ⟨_,rfl⟩
    rw [RunL_eq,show Item.lp m46k0 m46b0 = Item.lp m46k0 b' by rw [hb']]
    rcases dot with h3 | ⟨h3,h4,h5⟩
    ·simp (maxSteps := 4000000) (disch := first | omega | exact ok_of (by kernel_rfl) | decide) only [bA.u,seval,cut,if_pos,if_neg,m46b0,V37,R37,K37,hle,i0,eq45,eq46,h3,q1,q2]
    ·simp (maxSteps := 4000000) (disch := first | omega | exact ok_of (by kernel_rfl) | decide) only [bA.u,seval,cut,if_pos,if_neg,m46b0,V37,R37,K37,hle,i0,eq45,eq46,h3,h4,h5,q1,q2]
  ·have q1 : decide ((cur.length : Int) < 1) = true := decide_eq_true (by omega)
   have d1 : decide (1 ≤ cur.length) = false := decide_eq_false (by omega)
   rw [d1,Bool.false_and,Bool.false_and,Bool.false_and,if_neg (by decide)]
   obtain ⟨b',hb'⟩ : ∃ b',b' = m46b0 := ⟨_,rfl⟩
   rw [RunL_eq,show Item.lp m46k0 m46b0 = Item.lp m46k0 b' by rw [hb']]
   rcases dot with h3 | ⟨h3,h4,h5⟩
   ·simp (maxSteps := 4000000) (disch := first | omega | exact ok_of (by kernel_rfl) | decide) only [bA.u,seval,cut,if_pos,if_neg,m46b0,V37,R37,K37,hle,i0,eq45,eq46,h3,q1]
   ·simp (maxSteps := 4000000) (disch := first | omega | exact ok_of (by kernel_rfl) | decide) only [bA.u,seval,cut,if_pos,if_neg,m46b0,V37,R37,K37,hle,i0,eq45,eq46,h3,h4,h5,q1]
theorem c37_char (s : List UInt8) (hs : s.length < 1000000) (n i : Nat) (hn : n ≤ i) (c : UInt8) (hil : i < s.length) (hg : s.getD i 0 = c) (hc : c ≠ 46) :
  fin R37 (RunL Q m46k0 m46b0 K37 ⟨V37 s (n : Int) i,[],[],1⟩) = if okC c = true then fin R37 (RunL Q m46k0 m46b0 K37 ⟨V37 s (n + 1 : Nat) (i + 1 : Nat),[],[],1⟩) else some (.bool false) := by
  have hle : decide ((i : Int) ≤ (s.length : Int)) = true := by simp; omega
  have i0 : (0 : Int) ≤ (i : Int) := by omega
  have i1 : (i : Int) < (s.length : Int) := by omega
  have e : ((i : Int) + 1) = ((i + 1 : Nat) : Int) := by omega
  have e2 : ((n : Int) + 1) = ((n + 1 : Nat) : Int) := by omega
  have h3 : ((i : Int) == (s.length : Int)) = false := by rw [beq_eq_false_iff_ne]; omega
  have h5 : (c == 46) = false := by rw [beq_eq_false_iff_ne]; exact hc
  have hsm := c76 c
  obtain ⟨rhs,hr⟩ : ∃ z,z = fin R37 (RunL Q m46k0 m46b0 K37 ⟨V37 s (n + 1 : Nat) (i + 1 : Nat),[],[],1⟩) := ⟨_,rfl⟩
  rw [← hr]
  obtain ⟨b',hb'⟩ : ∃ b',b' = m46b0 := ⟨_,rfl⟩
  rw [RunL_eq,show Item.lp m46k0 m46b0 = Item.lp m46k0 b' by rw [hb']]
  have n45 : (((smallB c).toNat : Int) != 45) = !(smallB c == 45) := by rw [bne,eq45]
  have k1 : decide (((smallB c).toNat : Int) < 97) = !decide (97 ≤ (smallB c).toNat) := by rw [Bool.eq_iff_iff]; simp; omega
  have k2 : decide (122 < ((smallB c).toNat : Int)) = !decide ((smallB c).toNat ≤ 122) := by rw [Bool.eq_iff_iff]; simp; omega
  have k3 : decide (((smallB c).toNat : Int) < 48) = !decide (48 ≤ (smallB c).toNat) := by rw [Bool.eq_iff_iff]; simp; omega
  have k4 : decide (57 < ((smallB c).toNat : Int)) = !decide ((smallB c).toNat ≤ 57) := by rw [Bool.eq_iff_iff]; simp; omega
  unfold okC
  cases y1 : decide (97 ≤ (smallB c).toNat) <;> cases y2 : decide ((smallB c).toNat ≤ 122) <;> cases y3 : decide (48 ≤ (smallB c).toNat) <;> cases y4 : decide ((smallB c).toNat ≤ 57) <;> cases y5 : (smallB c == 45)
  all_goals first
   | (exfalso; simp at y1 y2 y3 y4 y5; omega)
   | (
     rw [if_neg (by decide)]
     simp (maxSteps := 4000000) (disch := first | omega | exact ok_of (by kernel_rfl) | decide) only [bA.u,seval,cut,if_pos,if_neg,m46b0,V37,R37,K37,hle,i0,eq45,eq46,i1,h3,h5,hg,hsm,n45,bnq n45,k1,k2,k3,k4,y1,y2,y3,y4,y5]
     done)
   | (
     rw [if_pos (by decide)]
     simp (maxSteps := 4000000) (disch := first | omega | exact ok_of (by kernel_rfl) | decide) only [bA.u,seval,cut,if_pos,if_neg,m46b0,V37,R37,K37,hle,i0,eq45,eq46,i1,h3,h5,hg,hsm,n45,bnq n45,k1,k2,k3,k4,y1,y2,y3,y4,y5]
     subst hb'
     refine ((congrArg (fin _) (Run_lp Q _ _ _ _)).trans ?_)
     rw [hr]
     exact congrArg (fin R37) (RunL_canon (canon_cong (Eq.trans (by kernel_rfl) (show [(0,MV.str s),(3,.int .i64 ((n : Int) + 1)),(4,.int .i64 ((i : Int) + 1))] = V37 s (n + 1 : Nat) (i + 1 : Nat) from by rw [e,e2]; rfl)) (by kernel_rfl) (by kernel_rfl))))
theorem c37_loop (s : List UInt8) (hs : s.length < 1000000) : ∀ (rest cur : List UInt8) (p i : Nat),s.drop p = cur ++ rest→i = p + cur.length→i + rest.length = s.length →
  fin R37 (RunL Q m46k0 m46b0 K37 ⟨V37 s (cur.length : Int) i,[],[],1⟩) = some (.bool (machR cur rest))
 | [],cur,p,i,hp,hi,hl=>by
  have hl' : i = s.length := by simpa using hl
  rw [c37_label s hs cur [] p i hp hi (by omega) (.inl hl')]
  have := c37_past s hs 0
  unfold machR
  cases hc : labelE cur
  ·rfl
  ·rw [if_pos rfl,hl']
   exact this
 | c :: rest,cur,p,i,hp,hi,hl=>by
  simp only [List.length_cons] at hl
  have hg : s[i]? = some c := by
   have := congrArg (·[cur.length]?) hp
   simp only [List.getElem?_drop] at this
   rw [hi,this,List.getElem?_append_right (Nat.le_refl _),Nat.sub_self]
   all_goals rfl
  have hg' : s.getD i 0 = c := by rw [List.getD_eq_getElem?_getD,hg]; rfl
  unfold machR
  by_cases hc : c = 46
  ·subst hc
   rw [c37_label s hs cur _ p i hp hi (by omega) (.inr ⟨by omega,hg'⟩),if_pos rfl]
   cases hc : labelE cur
   ·rfl
   ·rw [if_pos rfl,Bool.true_and]
    have hd : s.drop (i + 1) = [] ++ rest := by
     have := congrArg (List.drop (cur.length + 1)) hp
     rw [List.drop_drop] at this
     rw [show i + 1 = p + (cur.length + 1) by omega,this]
     simp
    exact c37_loop s hs rest [] (i + 1) (i + 1) hd rfl (by omega)
  ·rw [c37_char s hs cur.length i (by omega) c (by omega) hg' hc,if_neg hc]
   cases hk : okC c
   ·rfl
   ·rw [if_pos rfl,Bool.true_and]
    have ih := c37_loop s hs rest (cur ++ [c]) p (i + 1) (by rw [hp]; simp) (by simp; omega) (by omega)
    rw [List.length_append] at ih
    exact ih
theorem c37 (s : List UInt8) (hs : s.length < 1000000) : Call Q 46 [.str s] = some (.bool (machB s)) := by
 rw [Call_fn Q (m := m46) rfl rfl,← machR_mach,← c37_loop s hs s [] 0 0 rfl rfl (by omega)]
 simp (maxSteps := 4000000) (disch := first | omega | exact ok_of (by kernel_rfl) | decide) only [bA.u,seval,cut,if_pos,if_neg,m46,Run_loop]
 exact congrArg (fin R37) (RunL_canon (canon_cong (by kernel_rfl) (by kernel_rfl) (by kernel_rfl)))
end Go.Mini.Nm
namespace Go.Mini.Nm
open Go Go.Mini Go.Proofs.YtaehaajckndejaaGreatDoor
set_option maxRecDepth 100000
set_option maxHeartbeats 4000000
def underB (h l : List UInt8) : Bool := machB h && (if l = [] then true else if l.getD 0 0 = 46 then endsB h l else alikeB h l)
theorem eqStr (a b : List UInt8) : (a == b) = decide (a = b) := by
 rw [Bool.eq_iff_iff]; simp
theorem c41 (h l : List UInt8) (hh : h.length < 1000000) : Call Q 50 [.str h,.str l] = some (.bool (underB h l)) := by
 have h37 := c37 h hh
 have h38 := c38 h l hh
 have h39 := c39 h l hh
 unfold underB
 rw [Call_fn Q (m := m50) rfl rfl]
 cases hm : machB h
 ·rw [hm] at h37
  simp (maxSteps := 4000000) (disch := first | omega | exact ok_of (by kernel_rfl) | decide) only [bA.u,seval,cut,if_pos,if_neg,m50,h37]
 ·rw [hm] at h37
  by_cases hl : l = []
  ·subst hl
   rw [if_pos rfl]
   simp (maxSteps := 4000000) (disch := first | omega | exact ok_of (by kernel_rfl) | decide) only [bA.u,seval,cut,if_pos,if_neg,m50,h37]
  ·have q : (l == []) = false := by rw [eqStr]; simp [hl]
   have q0 : (0 : Int) < (l.length : Int) := by have := List.length_pos_iff.2 hl; omega
   rw [if_neg hl]
   by_cases hd : l.getD 0 0 = 46
   ·have q1 : (l.getD 0 0 == 46) = true := by rw [hd]; rfl
    rw [if_pos hd]
    simp (maxSteps := 4000000) (disch := first | omega | exact ok_of (by kernel_rfl) | decide) only [bA.u,seval,cut,if_pos,if_neg,m50,h37,h39,q,q0,q1,eq46]
   ·have q1 : (l.getD 0 0 == 46) = false := by rw [beq_eq_false_iff_ne]; exact hd
    rw [if_neg hd]
    simp (maxSteps := 4000000) (disch := first | omega | exact ok_of (by kernel_rfl) | decide) only [bA.u,seval,cut,if_pos,if_neg,m50,h37,h38,q,q0,q1,eq46]
theorem atB_range : ∀ (r : List UInt8) (x : UInt8) (i : Nat),atB r x i = -1 ∨ ∃ j : Nat,atB r x i = ((i + j : Nat) : Int) ∧ j < r.length ∧ r[j]? = some x
 | [],x,i=>.inl rfl
 | c :: r,x,i=>by
  unfold atB
  by_cases h : c = x
  ·rw [if_pos h]; exact .inr ⟨0,rfl,by simp,by rw [h]; rfl⟩
  ·rw [if_neg h]
   rcases atB_range r x (i + 1) with h1 | ⟨j,h1,h2,h3⟩
   ·exact .inl h1
   ·exact .inr ⟨j + 1,by rw [h1]; omega,by simp; omega,by simpa using h3⟩
def mailB (s l : List UInt8) : Bool := match atB s 64 0 with
 | .ofNat (i + 1)=>machB (s.drop (i + 2)) && (match atB l 64 0 with
  | .ofNat k=>decide (l.take k = s.take (i + 1)) && alikeB (l.drop (k + 1)) (s.drop (i + 2))
  | _=>underB (s.drop (i + 2)) l)
 | _=>false
theorem cut_from {s : List UInt8} {i : Int} {k : Nat} (h : i = (k : Int)) (hk : k ≤ s.length) : cut s (some (.int .i64 i)) none = some (s.drop k) := by
 subst h
 simp only [cut]
 rw [if_pos ⟨by omega,by omega,by omega⟩,Int.toNat_natCast,List.take_of_length_le (by simp)]
 simp
theorem cut_to {s : List UInt8} {i : Int} {k : Nat} (h : i = (k : Int)) (hk : k ≤ s.length) : cut s none (some (.int .i64 i)) = some (s.take k) := by
 subst h
 simp only [cut]
 rw [if_pos ⟨by omega,by omega,by omega⟩]
 simp
theorem c36 (s l : List UInt8) (hs : s.length < 1000000) (hll : l.length < 1000000) : Call Q 45 [.str s,.str l] = some (.bool (mailB s l)) := by
 have h1 := c75 s hs 64
 have h2 := c75 l hll 64
 rw [show ((64 : UInt8).toNat : Int) = 64 from rfl] at h1 h2
 unfold mailB
 rw [Call_fn Q (m := m45) rfl rfl]
 rcases atB_range s 64 0 with e1 | ⟨i,e1,i1,_⟩
 ·rw [e1] at h1 ⊢
  show _ = some (MV.bool false)
  simp (maxSteps := 4000000) (disch := first | omega | exact ok_of (by kernel_rfl) | decide) only [bA.u,seval,cut,if_pos,if_neg,m45,h1]
 ·rw [Nat.zero_add] at e1
  rw [e1] at h1 ⊢
  cases i with
  | zero =>
   show _ = some (MV.bool false)
   simp (maxSteps := 4000000) (disch := first | omega | exact ok_of (by kernel_rfl) | decide) only [bA.u,seval,cut,if_pos,if_neg,m45,h1]
  | succ i =>
   have d1 : decide (((i + 1 : Nat) : Int) < 1) = false := by simp; omega
   have hc := cut_from (s := s) (i := ((i + 1 : Nat) : Int) + 1) (k := i + 2) (by omega) (by omega)
   have hlen : (s.drop (i + 2)).length < 1000000 := by rw [List.length_drop]; omega
   have h37 := c37 (s.drop (i + 2)) hlen
   have h41 := c41 (s.drop (i + 2)) l hlen
   show _ = some (MV.bool (machB (s.drop (i + 2)) && _))
   cases hm : machB (s.drop (i + 2))
   ·rw [hm] at h37
    rw [Bool.false_and]
    simp (maxSteps := 4000000) (disch := first | omega | exact ok_of (by kernel_rfl) | decide) only [bA.u,seval,if_pos,if_neg,m45,h1,d1,hc,h37]
   ·rw [hm] at h37
    rw [Bool.true_and]
    rcases atB_range l 64 0 with e2 | ⟨k,e2,k1,_⟩
    ·rw [e2] at h2 ⊢
     show _ = some (MV.bool (underB (s.drop (i + 2)) l))
     simp (maxSteps := 4000000) (disch := first | omega | exact ok_of (by kernel_rfl) | decide) only [bA.u,seval,if_pos,if_neg,m45,h1,h2,d1,hc,h37,h41]
    ·rw [Nat.zero_add] at e2
     rw [e2] at h2 ⊢
     show _ = some (MV.bool (decide (l.take k = s.take (i + 1)) && alikeB (l.drop (k + 1)) (s.drop (i + 2))))
     have d2 : decide ((0 : Int) ≤ (k : Int)) = true := by simp
     have hc2 := cut_to (s := l) (i := (k : Int)) (k := k) rfl (by omega)
     have hc3 := cut_to (s := s) (i := ((i + 1 : Nat) : Int)) (k := i + 1) rfl (by omega)
     have hc4 := cut_from (s := l) (i := (k : Int) + 1) (k := k + 1) (by omega) (by omega)
     have h38 := c38 (l.drop (k + 1)) (s.drop (i + 2)) (by rw [List.length_drop]; omega)
     cases hq : decide (l.take k = s.take (i + 1))
     ·rw [← eqStr] at hq
      rw [Bool.false_and]
      simp (maxSteps := 4000000) (disch := first | omega | exact ok_of (by kernel_rfl) | decide) only [bA.u,seval,if_pos,if_neg,m45,h1,h2,d1,d2,hc,hc2,hc3,hc4,h37,h38,hq]
     ·rw [← eqStr] at hq
      rw [Bool.true_and]
      simp (maxSteps := 4000000) (disch := first | omega | exact ok_of (by kernel_rfl) | decide) only [bA.u,seval,if_pos,if_neg,m45,h1,h2,d1,d2,hc,hc2,hc3,hc4,h37,h38,hq]
end Go.Mini.Nm
namespace Go.Mini.Nm
open Go Go.Mini Go.Proofs.YtaehaajckndejaaGreatDoor
set_option maxRecDepth 100000
set_option maxHeartbeats 4000000
def stopB (c : UInt8) : Bool := c == 47 || c == 58 || c == 63 || c == 35
def till : List UInt8→Nat
 | []=>0
 | c :: r=>if stopB c = true then 0 else till r + 1
theorem till_le : ∀ r,till r ≤ r.length
 | []=>Nat.le_refl _
 | c :: r=>by
  have := till_le r
  unfold till
  split
  ·omega
  ·simp; omega
theorem ne47 (x : UInt8) : ((x.toNat : Int) != 47) = !(x == 47) := by rw [bne,show ((x.toNat : Int) == 47) = (x == 47) from eq8 x 47]
theorem ne58 (x : UInt8) : ((x.toNat : Int) != 58) = !(x == 58) := by rw [bne,show ((x.toNat : Int) == 58) = (x == 58) from eq8 x 58]
theorem ne63 (x : UInt8) : ((x.toNat : Int) != 63) = !(x == 63) := by rw [bne,show ((x.toNat : Int) == 63) = (x == 63) from eq8 x 63]
theorem ne35 (x : UInt8) : ((x.toNat : Int) != 35) = !(x == 35) := by rw [bne,show ((x.toNat : Int) == 35) = (x == 35) from eq8 x 35]
def V40 (s : List UInt8) (i : Int) : List (Nat × MV) := [(0,.str s),(4,.int .i64 i)]
def W40 (s : List UInt8) (i e : Int) : List (Nat × MV) := [(0,.str s),(4,.int .i64 i),(5,.int .i64 e)]
theorem c40_stop (s : List UInt8) (hs : s.length < 1000000) (k : Int) (K : List Item) : ∀ (r : List UInt8) (i : Nat),s.drop i = r→i + r.length = s.length →
  RunL Q m49k1 m49b1 (.blk 2 :: K) ⟨W40 s k i,[],[],1⟩ = Run Q K ⟨(48,.bool false) :: W40 s k (i + till r : Nat),[],[],113⟩
 | [],i,hd,hi=>by
  have hi' : i = s.length := by simpa using hi
  subst hi'
  have hlt : decide ((s.length : Int) < (s.length : Int)) = false := by simp
  obtain ⟨b',hb'⟩ : ∃ b',b' = m49b1 := ⟨_,rfl⟩
  rw [RunL_eq,show Item.lp m49k1 m49b1 = Item.lp m49k1 b' by rw [hb']]
  simp (maxSteps := 4000000) (disch := first | omega | exact ok_of (by kernel_rfl) | decide) only [bA.u,seval,cut,if_pos,if_neg,m49b1,W40,hlt]
  all_goals rfl
 | c :: r,i,hd,hi=>by
  simp only [List.length_cons] at hi
  have hlt : decide ((i : Int) < (s.length : Int)) = true := by simp; omega
  have i0 : (0 : Int) ≤ (i : Int) := by omega
  have i1 : (i : Int) < (s.length : Int) := by omega
  have hg : s[i]? = some c := by
   have := congrArg (·[0]?) hd
   simpa [List.getElem?_drop] using this
  have hg' : s.getD i 0 = c := by rw [List.getD_eq_getElem?_getD,hg]; rfl
  have hd' : s.drop (i + 1) = r := by
   have := congrArg (List.drop 1) hd
   simpa [List.drop_drop] using this
  have ih := c40_stop s hs k K r (i + 1) hd' (by omega)
  have e : ((i : Int) + 1) = ((i + 1 : Nat) : Int) := by omega
  unfold till
  have hsb : stopB c = (c == 47 || c == 58 || c == 63 || c == 35) := rfl
  rw [hsb]
  obtain ⟨b',hb'⟩ : ∃ b',b' = m49b1 := ⟨_,rfl⟩
  rw [RunL_eq,show Item.lp m49k1 m49b1 = Item.lp m49k1 b' by rw [hb']]
  cases x1 : c == 47
  ·cases x2 : c == 58
   ·cases x3 : c == 63
    ·cases x4 : c == 35
     ·rw [if_neg (by decide),show i + (till r + 1) = i + 1 + till r by omega,← ih]
      obtain ⟨rhs,hr⟩ : ∃ z,z = RunL Q m49k1 m49b1 (.blk 2 :: K) ⟨W40 s k (i + 1 : Nat),[],[],1⟩ := ⟨_,rfl⟩
      rw [← hr]
      simp (maxSteps := 4000000) (disch := first | omega | exact ok_of (by kernel_rfl) | decide) only [bA.u,seval,cut,if_pos,if_neg,m49b1,W40,i0,i1,hg',ne47,eqc47,ne58,eqc58,ne63,eqc63,ne35,eqc35,hlt,x1,x2,x3,x4]
      subst hb'
      rw [Run_lp,hr]
      exact RunL_canon (canon_cong (Eq.trans (by kernel_rfl) (show [(0,MV.str s),(4,.int .i64 k),(5,.int .i64 ((i : Int) + 1))] = W40 s k (i + 1 : Nat) from by rw [e]; rfl)) (by kernel_rfl) (by kernel_rfl))
     ·rw [if_pos (by simp),Nat.add_zero]
      simp (maxSteps := 4000000) (disch := first | omega | exact ok_of (by kernel_rfl) | decide) only [bA.u,seval,cut,if_pos,if_neg,m49b1,W40,i0,i1,hg',ne47,eqc47,ne58,eqc58,ne63,eqc63,ne35,eqc35,hlt,x1,x2,x3,x4]
    ·rw [if_pos (by simp),Nat.add_zero]
     simp (maxSteps := 4000000) (disch := first | omega | exact ok_of (by kernel_rfl) | decide) only [bA.u,seval,cut,if_pos,if_neg,m49b1,W40,i0,i1,hg',ne47,eqc47,ne58,eqc58,ne63,eqc63,ne35,eqc35,hlt,x1,x2,x3]
   ·rw [if_pos (by simp),Nat.add_zero]
    simp (maxSteps := 4000000) (disch := first | omega | exact ok_of (by kernel_rfl) | decide) only [bA.u,seval,cut,if_pos,if_neg,m49b1,W40,i0,i1,hg',ne47,eqc47,ne58,eqc58,ne63,eqc63,ne35,eqc35,hlt,x1,x2]
  ·rw [if_pos (by simp),Nat.add_zero]
   simp (maxSteps := 4000000) (disch := first | omega | exact ok_of (by kernel_rfl) | decide) only [bA.u,seval,cut,if_pos,if_neg,m49b1,W40,i0,i1,hg',ne47,eqc47,ne58,eqc58,ne63,eqc63,ne35,eqc35,hlt,x1]
def R40 : List (Nat × Option (Bool × Nat) × PK) := [(2,none,.other),(3,none,.other)]
def K40 : List Item := [.blk 0,.code (.seq (.rg [⟨some (.v 2),.mv (.c (.str [])),none⟩,⟨some (.v 3),.mv (.c (.bool false)),none⟩]) .ret)]
def hostA (r : List UInt8) : MV := if Lib.index r [58,47,47] = -1 then .tup [.str [],.bool false] else .tup [.str ((r.drop ((Lib.index r [58,47,47]).toNat + 3)).take (till (r.drop ((Lib.index r [58,47,47]).toNat + 3)))),.bool true]
theorem hostA_next (a b c : UInt8) (r : List UInt8) (h : [a,b,c] ≠ [58,47,47]) : hostA (a :: b :: c :: r) = hostA (b :: c :: r) := by
 have hp : ([58,47,47] : List UInt8).isPrefixOf (a :: b :: c :: r) = false := by
  cases hx : ([58,47,47] : List UInt8).isPrefixOf (a :: b :: c :: r)
  ·rfl
  ·exfalso
   simp [List.isPrefixOf] at hx
   exact h (by rw [← hx.1,← hx.2.1,← hx.2.2])
 have hix : Lib.index (a :: b :: c :: r) [58,47,47] = if Lib.index (b :: c :: r) [58,47,47] == -1 then -1 else Lib.index (b :: c :: r) [58,47,47] + 1 := by rw [Lib.index,hp]; simp
 have hge := Lib.index_ge (b :: c :: r) [58,47,47]
 unfold hostA
 by_cases hm : Lib.index (b :: c :: r) [58,47,47] = -1
 ·rw [hix,if_pos (beq_iff_eq.2 hm),if_pos rfl,if_pos hm]
 ·obtain ⟨j,hj⟩ : ∃ j : Nat,Lib.index (b :: c :: r) [58,47,47] = j := ⟨(Lib.index (b :: c :: r) [58,47,47]).toNat,by omega⟩
  rw [hix,if_neg (fun e=>hm (beq_iff_eq.1 e)),if_neg (by omega),if_neg hm,hj,show ((j : Int) + 1).toNat + 3 = (j + 3) + 1 by omega,Int.toNat_natCast,List.drop_succ_cons]
theorem hostA_hit (r : List UInt8) : hostA (58 :: 47 :: 47 :: r) = .tup [.str (r.take (till r)),.bool true] := by
 have hix : Lib.index (58 :: 47 :: 47 :: r) [58,47,47] = 0 := by rw [Lib.index]; simp [List.isPrefixOf]
 unfold hostA
 rw [hix,if_neg (by decide)]
 all_goals rfl
theorem hostA_short (r : List UInt8) (h : r.length < 3) : hostA r = .tup [.str [],.bool false] := by
 have : Lib.index r [58,47,47] = -1 := by
  match r,h with
  | [],_=>rfl
  | [a],_=>simp [Lib.index,List.isPrefixOf]
  | [a,b],_=>simp [Lib.index,List.isPrefixOf]
 unfold hostA
 rw [if_pos this]
theorem c40_loop (s : List UInt8) (hs : s.length < 1000000) : ∀ (n : Nat) (r : List UInt8) (i : Nat),r.length = n→s.drop i = r→i + r.length = s.length →
  fin R40 (RunL Q m49k0 m49b0 K40 ⟨V40 s i,[],[],1⟩) = some (hostA r) := by
 intro n
 induction n with
 | zero =>
  intro r i hn hd hi
  rw [hostA_short r (by omega)]
  have hle : decide ((i : Int) + 3 ≤ (s.length : Int)) = false := by simp; omega
  obtain ⟨b',hb'⟩ : ∃ b',b' = m49b0 := ⟨_,rfl⟩
  rw [RunL_eq,show Item.lp m49k0 m49b0 = Item.lp m49k0 b' by rw [hb']]
  simp (maxSteps := 4000000) (disch := first | omega | exact ok_of (by kernel_rfl) | decide) only [bA.u,seval,cut,if_pos,if_neg,m49b0,V40,R40,K40,hle]
 | succ n ih =>
  intro r i hn hd hi
  by_cases h3 : r.length < 3
  ·rw [hostA_short r h3]
   have hle : decide ((i : Int) + 3 ≤ (s.length : Int)) = false := by simp; omega
   obtain ⟨b',hb'⟩ : ∃ b',b' = m49b0 := ⟨_,rfl⟩
   rw [RunL_eq,show Item.lp m49k0 m49b0 = Item.lp m49k0 b' by rw [hb']]
   simp (maxSteps := 4000000) (disch := first | omega | exact ok_of (by kernel_rfl) | decide) only [bA.u,seval,cut,if_pos,if_neg,m49b0,V40,R40,K40,hle]
  ·obtain ⟨a,b,c,q,rfl⟩ : ∃ a b c q,r = a :: b :: c :: q := by
    match r,h3 with
    | a :: b :: c :: q,_=>exact ⟨a,b,c,q,rfl⟩
    | [],h=>simp at h
    | [a],h=>simp at h
    | [a,b],h=>simp at h
   simp only [List.length_cons] at hi hn
   have hle : decide ((i : Int) + 3 ≤ (s.length : Int)) = true := by simp; omega
   have e : ((i : Int) + 1) = ((i + 1 : Nat) : Int) := by omega
   have hc : cut s (some (.int .i64 (i : Int))) (some (.int .i64 ((i : Int) + 3))) = some [a,b,c] := by
    simp only [cut]
    rw [if_pos ⟨by omega,by omega,by omega⟩,Int.toNat_natCast,hd,show ((i : Int) + 3).toNat - i = 3 by omega]
    all_goals rfl
   have hd1 : s.drop (i + 1) = b :: c :: q := by
    have := congrArg (List.drop 1) hd
    simpa [List.drop_drop] using this
   have hd3 : s.drop (i + 3) = q := by
    have := congrArg (List.drop 3) hd
    simpa [List.drop_drop] using this
   obtain ⟨b',hb'⟩ : ∃ b',b' = m49b0 := ⟨_,rfl⟩
   rw [RunL_eq,show Item.lp m49k0 m49b0 = Item.lp m49k0 b' by rw [hb']]
   by_cases hx : [a,b,c] = [58,47,47]
   ·have x1 : ([a,b,c] == [58,47,47]) = true := by rw [hx]; rfl
    have es : ((i : Int) + 3) = ((i + 3 : Nat) : Int) := by omega
    have hst := till_le q
    have hc2 : cut s (some (.int .i64 ((i : Int) + 3))) (some (.int .i64 ((i + 3 + till q : Nat) : Int))) = some (q.take (till q)) := by
     simp only [cut]
     rw [if_pos ⟨by omega,by omega,by omega⟩,es]
     simp only [Int.toNat_natCast]
     rw [hd3,show i + 3 + till q - (i + 3) = till q by omega]
    obtain ⟨rfl,rfl,rfl⟩ : a = 58 ∧ b = 47 ∧ c = 47 := by
     injection hx with h1 h2
     injection h2 with h2 h3
     injection h3 with h3 _
     exact ⟨h1,h2,h3⟩
    rw [hostA_hit]
    obtain ⟨rhs,hr⟩ : ∃ z,z = some (MV.tup [.str (q.take (till q)),.bool true]) := ⟨_,rfl⟩
    rw [← hr]
    simp (maxSteps := 4000000) (disch := first | omega | exact ok_of (by kernel_rfl) | decide) only [bA.u,seval,if_pos,if_neg,m49b0,V40,K40,hle,hc,x1,Run_loop]
    refine (congrArg (fin _) (RunL_canon (canon_cong (V := W40 s i (i + 3 : Nat)) (O := []) (nx := 1) (Eq.trans (by kernel_rfl) (show [(0,MV.str s),(4,.int .i64 (i : Int)),(5,.int .i64 ((i : Int) + 3))] = W40 s i (i + 3 : Nat) from by rw [es]; rfl)) (by kernel_rfl) (by kernel_rfl)))).trans ?_
    rw [c40_stop s hs (i : Int) _ q (i + 3) hd3 (by omega),hr]
    simp (maxSteps := 4000000) (disch := first | omega | exact ok_of (by kernel_rfl) | decide) only [bA.u,seval,if_pos,if_neg,W40,R40,hc2]
   ·have x1 : ([a,b,c] == [58,47,47]) = false := by rw [beq_eq_false_iff_ne]; exact hx
    rw [hostA_next a b c q hx]
    have ih' := ih (b :: c :: q) (i + 1) (by simp; omega) hd1 (by simp; omega)
    obtain ⟨rhs,hr⟩ : ∃ z,z = some (hostA (b :: c :: q)) := ⟨_,rfl⟩
    rw [← hr]
    simp (maxSteps := 4000000) (disch := first | omega | exact ok_of (by kernel_rfl) | decide) only [bA.u,seval,if_pos,if_neg,m49b0,V40,R40,K40,hle,hc,x1]
    subst hb'
    refine ((congrArg (fin _) (Run_lp Q _ _ _ _)).trans ?_)
    rw [hr,← ih']
    exact congrArg (fin R40) (RunL_canon (canon_cong (Eq.trans (by kernel_rfl) (show [(0,MV.str s),(4,.int .i64 ((i : Int) + 1))] = V40 s (i + 1 : Nat) from by rw [e]; rfl)) (by kernel_rfl) (by kernel_rfl)))
theorem c40 (s : List UInt8) (hs : s.length < 1000000) : Call Q 49 [.str s] = some (hostA s) := by
 rw [Call_fn Q (m := m49) rfl rfl,← c40_loop s hs s.length s 0 rfl rfl (by omega)]
 simp (maxSteps := 4000000) (disch := first | omega | exact ok_of (by kernel_rfl) | decide) only [bA.u,seval,cut,if_pos,if_neg,m49,Run_loop]
 exact congrArg (fin R40) (RunL_canon (canon_cong (by kernel_rfl) (by kernel_rfl) (by kernel_rfl)))
end Go.Mini.Nm
namespace Go.Mini.Nm
open Go Go.Mini Go.Proofs.YtaehaajckndejaaGreatDoor
set_option maxRecDepth 100000
set_option maxHeartbeats 4000000
def contF : List UInt8→Nat→Option Nat
 | [],v=>some v
 | b :: r,v=>if 128 ≤ b.toNat ∧ b.toNat < 192 then contF r (64 * v + b.toNat % 64) else none
def R109 : List (Nat × Option (Bool × Nat) × PK) := [(4,none,.other)]
def V109 (l : List UInt8) (at' n low v i : Int) : List (Nat × MV) := [(0,.bs l),(1,.int .i64 at'),(6,.int .i64 n),(7,.int .i64 low),(8,.int .i64 v),(9,.int .i64 i)]
def fits (k v : Nat) : Prop := k ≤ 3 ∧ v < 256 ∨ k ≤ 2 ∧ v < 20000 ∨ k ≤ 1 ∧ v < 2000000 ∨ k = 0 ∧ v < 200000000
theorem c109_loop (l : List UInt8) (hl : l.length < 1000000) (a n low : Nat) (han : a + n ≤ l.length) (K : List Item) : ∀ (bs : List UInt8) (i v : Nat),(l.drop (a + i)).take bs.length = bs→i + bs.length = n→fits bs.length v →
  fin R109 (RunL Q m191k0 m191b0 (.blk 0 :: K) ⟨V109 l a n low v i,[],[],1⟩) = match contF bs v with
   | none=>some (.int .i64 0)
   | some v'=>fin R109 (Run Q K ⟨(50,.bool false) :: V109 l a n low v' n,[],[],13⟩)
 | [],i,v,hd,hi,hv=>by
  have hi' : i = n := by simpa using hi
  subst hi'
  have hlt : decide ((i : Int) < (i : Int)) = false := by simp
  obtain ⟨b',hb'⟩ : ∃ b',b' = m191b0 := ⟨_,rfl⟩
  rw [RunL_eq,show Item.lp m191k0 m191b0 = Item.lp m191k0 b' by rw [hb']]
  simp (maxSteps := 4000000) (disch := first | omega | exact ok_of (by kernel_rfl) | decide) only [bA.u,seval,cut,if_pos,if_neg,m191b0,V109,hlt]
  all_goals rfl
 | b :: r,i,v,hd,hi,hv=>by
  simp only [List.length_cons] at hi hv hd
  have hlt : decide ((i : Int) < (n : Int)) = true := by simp; omega
  have hg : l[a + i]? = some b := by
   have := congrArg (·[0]?) hd
   simpa [List.getElem?_take,List.getElem?_drop] using this
  have hg' : l.getD (a + i) 0 = b := by rw [List.getD_eq_getElem?_getD,hg]; rfl
  have hd' : (l.drop (a + (i + 1))).take r.length = r := by
   have := congrArg (List.drop 1) hd
   rw [List.drop_take,List.drop_drop] at this
   simpa [Nat.add_assoc] using this
  have hi0 : (a : Int) + (i : Int) = ((a + i : Nat) : Int) := by omega
  have k0 : (0 : Int) ≤ ((a + i : Nat) : Int) := by omega
  have k1 : ((a + i : Nat) : Int) < (l.length : Int) := by omega
  have e : ((i : Int) + 1) = ((i + 1 : Nat) : Int) := by omega
  have hb := b.toNat_lt
  have ih := c109_loop l hl a n low han K r (i + 1) (64 * v + b.toNat % 64) hd' (by omega) (by unfold fits at hv ⊢; omega)
  have hv2 : v < 20000000 := by unfold fits at hv; omega
  have ev : 64 * (v : Int) + (b.toNat : Int) % 64 = ((64 * v + b.toNat % 64 : Nat) : Int) := by omega
  unfold contF
  by_cases h1 : 128 ≤ b.toNat
  ·have q1 : decide ((b.toNat : Int) < 128) = false := by simp; omega
   by_cases h2 : b.toNat < 192
   ·have q2 : decide ((192 : Int) ≤ (b.toNat : Int)) = false := by simp; omega
    rw [if_pos ⟨h1,h2⟩,← ih]
    obtain ⟨rhs,hr⟩ : ∃ z,z = fin R109 (RunL Q m191k0 m191b0 (.blk 0 :: K) ⟨V109 l a n low (64 * v + b.toNat % 64 : Nat) (i + 1 : Nat),[],[],1⟩) := ⟨_,rfl⟩
    rw [← hr]
    obtain ⟨b',hb'⟩ : ∃ b',b' = m191b0 := ⟨_,rfl⟩
    rw [RunL_eq,show Item.lp m191k0 m191b0 = Item.lp m191k0 b' by rw [hb']]
    simp (maxSteps := 4000000) (disch := first | omega | exact ok_of (by kernel_rfl) | decide) only [bA.u,seval,cut,if_pos,if_neg,m191b0,V109,R109,hlt,hg,hg',hi0,k0,k1,q1,q2]
    subst hb'
    refine ((congrArg (fin _) (Run_lp Q _ _ _ _)).trans ?_)
    rw [hr]
    exact congrArg (fin R109) (RunL_canon (canon_cong (Eq.trans (by kernel_rfl) (show [(0,MV.bs l),(1,.int .i64 (a : Int)),(6,.int .i64 (n : Int)),(7,.int .i64 (low : Int)),(8,.int .i64 (64 * (v : Int) + (b.toNat : Int) % 64)),(9,.int .i64 ((i : Int) + 1))] = V109 l a n low (64 * v + b.toNat % 64 : Nat) (i + 1 : Nat) from by rw [e,ev]; rfl)) (by kernel_rfl) (by kernel_rfl)))
   ·have q2 : decide ((192 : Int) ≤ (b.toNat : Int)) = true := by simp; omega
    rw [if_neg (by omega)]
    show _ = some (MV.int .i64 0)
    obtain ⟨b',hb'⟩ : ∃ b',b' = m191b0 := ⟨_,rfl⟩
    rw [RunL_eq,show Item.lp m191k0 m191b0 = Item.lp m191k0 b' by rw [hb']]
    simp (maxSteps := 4000000) (disch := first | omega | exact ok_of (by kernel_rfl) | decide) only [bA.u,seval,cut,if_pos,if_neg,m191b0,V109,R109,hlt,hg,hg',hi0,k0,k1,q1,q2]
  ·have q1 : decide ((b.toNat : Int) < 128) = true := by simp; omega
   rw [if_neg (by omega)]
   show _ = some (MV.int .i64 0)
   obtain ⟨b',hb'⟩ : ∃ b',b' = m191b0 := ⟨_,rfl⟩
   rw [RunL_eq,show Item.lp m191k0 m191b0 = Item.lp m191k0 b' by rw [hb']]
   simp (maxSteps := 4000000) (disch := first | omega | exact ok_of (by kernel_rfl) | decide) only [bA.u,seval,cut,if_pos,if_neg,m191b0,V109,R109,hlt,hg,hg',hi0,k0,k1,q1]
def runeN (r : List UInt8) : Nat := if (Lib.decodeL r).1 = 65533 ∧ (Lib.decodeL r).2 = 1 then 0 else (Lib.decodeL r).2
def lastN (n low v : Nat) : Nat := if v < low ∨ 1114111 < v ∨ 55296 ≤ v ∧ v < 57344 then 0 else n
def lastO (n low : Nat) : Option Nat→Nat
 | none=>0
 | some v'=>lastN n low v'
def multi (n low v : Nat) (t : List UInt8) : Nat := if t.length + 1 < n then 0 else lastO n low (contF (t.take (n - 1)) v)
def runeR (c : UInt8) (t : List UInt8) : Nat :=
 if c.toNat < 128 then 1 else if c.toNat < 192 then 0 else if c.toNat < 224 then multi 2 128 (c.toNat % 32) t else if c.toNat < 240 then multi 3 2048 (c.toNat % 16) t else if c.toNat < 248 then multi 4 65536 (c.toNat % 8) t else 0
def runeF (n b0 b1 b2 b3 : Nat) : Nat := if b0 < 128 then 1
 else if b0 / 32 = 6 ∧ (1 < n ∧ b1 / 64 = 2) then (if 128 ≤ b0 % 32 * 64 + b1 % 64 then 2 else 0)
 else if b0 / 16 = 14 ∧ (1 < n ∧ b1 / 64 = 2) ∧ (2 < n ∧ b2 / 64 = 2) then lastN 3 2048 (b0 % 16 * 4096 + b1 % 64 * 64 + b2 % 64)
 else if b0 / 8 = 30 ∧ (1 < n ∧ b1 / 64 = 2) ∧ (2 < n ∧ b2 / 64 = 2) ∧ (3 < n ∧ b3 / 64 = 2) then lastN 4 65536 (b0 % 8 * 262144 + b1 % 64 * 4096 + b2 % 64 * 64 + b3 % 64)
 else 0
theorem runeF_eq (n b0 b1 b2 b3 : Nat) : (if (Lib.decodeN n b0 b1 b2 b3).1 = 65533 ∧ (Lib.decodeN n b0 b1 b2 b3).2 = 1 then 0 else (Lib.decodeN n b0 b1 b2 b3).2) = runeF n b0 b1 b2 b3 := by
 have key : ∀ x w : Nat,(x = 65533→w ≠ 1)→(if (x,w).1 = 65533 ∧ (x,w).2 = 1 then 0 else (x,w).2) = w := by
  intro x w h
  rw [if_neg]
  intro hh
  exact h hh.1 hh.2
 have bad : (if ((65533,1) : Nat × Nat).1 = 65533 ∧ ((65533,1) : Nat × Nat).2 = 1 then 0 else ((65533,1) : Nat × Nat).2) = 0 := rfl
 unfold Lib.decodeN runeF
 by_cases h1 : b0 < 128
 ·rw [if_pos h1,if_pos h1]
  exact key _ _ (fun h=>by omega)
 rw [if_neg h1,if_neg h1]
 by_cases h2 : b0 / 32 = 6 ∧ (1 < n ∧ b1 / 64 = 2)
 ·rw [if_pos h2,if_pos h2]
  by_cases h3 : 128 ≤ b0 % 32 * 64 + b1 % 64
  ·rw [if_pos h3,if_pos h3]; exact key _ _ (fun h=>by decide)
  ·rw [if_neg h3,if_neg h3]; exact bad
 rw [if_neg h2,if_neg h2]
 by_cases h3 : b0 / 16 = 14 ∧ (1 < n ∧ b1 / 64 = 2) ∧ (2 < n ∧ b2 / 64 = 2)
 ·rw [if_pos h3,if_pos h3]
  by_cases h4 : b0 % 16 * 4096 + b1 % 64 * 64 + b2 % 64 ≥ 2048 ∧ (b0 % 16 * 4096 + b1 % 64 * 64 + b2 % 64 < 55296 ∨ (57344 ≤ b0 % 16 * 4096 + b1 % 64 * 64 + b2 % 64 ∧ b0 % 16 * 4096 + b1 % 64 * 64 + b2 % 64 ≤ 1114111))
  ·rw [if_pos h4,show lastN 3 2048 (b0 % 16 * 4096 + b1 % 64 * 64 + b2 % 64) = 3 from if_neg (by omega)]; exact key _ _ (fun h=>by decide)
  ·rw [if_neg h4,show lastN 3 2048 (b0 % 16 * 4096 + b1 % 64 * 64 + b2 % 64) = 0 from if_pos (by omega)]; exact bad
 rw [if_neg h3,if_neg h3]
 by_cases h4 : b0 / 8 = 30 ∧ (1 < n ∧ b1 / 64 = 2) ∧ (2 < n ∧ b2 / 64 = 2) ∧ (3 < n ∧ b3 / 64 = 2)
 ·rw [if_pos h4,if_pos h4]
  by_cases h5 : b0 % 8 * 262144 + b1 % 64 * 4096 + b2 % 64 * 64 + b3 % 64 ≥ 65536 ∧ (b0 % 8 * 262144 + b1 % 64 * 4096 + b2 % 64 * 64 + b3 % 64 < 55296 ∨ (57344 ≤ b0 % 8 * 262144 + b1 % 64 * 4096 + b2 % 64 * 64 + b3 % 64 ∧ b0 % 8 * 262144 + b1 % 64 * 4096 + b2 % 64 * 64 + b3 % 64 ≤ 1114111))
  ·rw [if_pos h5,show lastN 4 65536 (b0 % 8 * 262144 + b1 % 64 * 4096 + b2 % 64 * 64 + b3 % 64) = 4 from if_neg (by omega)]; exact key _ _ (fun h=>by decide)
  ·rw [if_neg h5,show lastN 4 65536 (b0 % 8 * 262144 + b1 % 64 * 4096 + b2 % 64 * 64 + b3 % 64) = 0 from if_pos (by omega)]; exact bad
 rw [if_neg h4,if_neg h4]; exact bad
theorem contF_cons (b : UInt8) (r : List UInt8) (v : Nat) : contF (b :: r) v = if 128 ≤ b.toNat ∧ b.toNat < 192 then contF r (64 * v + b.toNat % 64) else none := rfl
theorem runeR_eq (c : UInt8) (t : List UInt8) : runeR c t = runeN (c :: t) := by
 have hc := c.toNat_lt
 unfold runeN
 rw [Lib.decodeL_N,runeF_eq]
 unfold runeR
 have g0 : (c :: t).getD 0 0 = c := rfl
 rw [g0]
 by_cases h1 : c.toNat < 128
 ·unfold runeF
  rw [if_pos h1,if_pos h1]
 rw [if_neg h1]
 by_cases h2 : c.toNat < 192
 ·unfold runeF
  rw [if_pos h2,if_neg h1,if_neg (by omega),if_neg (by omega),if_neg (by omega)]
 rw [if_neg h2]
 by_cases h3 : c.toNat < 224
 ·rw [if_pos h3]
  match t with
  | [] =>
   unfold multi runeF
   rw [if_pos (by simp),if_neg h1,if_neg (by simp),if_neg (by omega),if_neg (by omega)]
  | b1 :: t =>
   have e1 : (c :: b1 :: t).getD 1 0 = b1 := rfl
   have hb := b1.toNat_lt
   rw [e1]
   generalize (c :: b1 :: t).getD 2 0 = b2
   generalize (c :: b1 :: t).getD 3 0 = b3
   unfold multi
   simp only [List.length_cons,show 2 - 1 = 1 from rfl,List.take_succ_cons,List.take_zero]
   rw [if_neg (by omega),contF_cons]
   unfold runeF
   by_cases k1 : 128 ≤ b1.toNat ∧ b1.toNat < 192
   ·rw [if_pos k1,if_neg h1,if_pos (by omega)]
    simp only [contF,lastO,lastN]
    repeat' split
    all_goals omega
   ·rw [if_neg k1]; show 0 = _; rw [if_neg h1,if_neg (by omega),if_neg (by omega),if_neg (by omega)]
 rw [if_neg h3]
 by_cases h4 : c.toNat < 240
 ·rw [if_pos h4]
  match t with
  | [] =>
   unfold multi runeF
   rw [if_pos (by simp),if_neg h1,if_neg (by simp),if_neg (by simp),if_neg (by omega)]
  | [b1] =>
   unfold multi runeF
   rw [if_pos (by simp),if_neg h1,if_neg (by omega),if_neg (by simp),if_neg (by omega)]
  | b1 :: b2 :: t =>
   have e1 : (c :: b1 :: b2 :: t).getD 1 0 = b1 := rfl
   have e2 : (c :: b1 :: b2 :: t).getD 2 0 = b2 := rfl
   have hb := b1.toNat_lt
   have hb2 := b2.toNat_lt
   rw [e1,e2]
   generalize (c :: b1 :: b2 :: t).getD 3 0 = b3
   unfold multi
   simp only [List.length_cons,show 3 - 1 = 2 from rfl,List.take_succ_cons,List.take_zero]
   rw [if_neg (by omega),contF_cons]
   unfold runeF
   by_cases k1 : 128 ≤ b1.toNat ∧ b1.toNat < 192
   ·rw [if_pos k1,contF_cons]
    by_cases k2 : 128 ≤ b2.toNat ∧ b2.toNat < 192
    ·rw [if_pos k2,if_neg h1,if_neg (by omega),if_pos (by omega)]
     simp only [contF,lastO,lastN]
     repeat' split
     all_goals omega
    ·rw [if_neg k2]; show 0 = _; rw [if_neg h1,if_neg (by omega),if_neg (by omega),if_neg (by omega)]
   ·rw [if_neg k1]; show 0 = _; rw [if_neg h1,if_neg (by omega),if_neg (by omega),if_neg (by omega)]
 rw [if_neg h4]
 by_cases h5 : c.toNat < 248
 ·rw [if_pos h5]
  match t with
  | [] =>
   unfold multi runeF
   rw [if_pos (by simp),if_neg h1,if_neg (by simp),if_neg (by simp),if_neg (by simp)]
  | [b1] =>
   unfold multi runeF
   rw [if_pos (by simp),if_neg h1,if_neg (by omega),if_neg (by simp),if_neg (by simp)]
  | [b1,b2] =>
   unfold multi runeF
   rw [if_pos (by simp),if_neg h1,if_neg (by omega),if_neg (by omega),if_neg (by simp)]
  | b1 :: b2 :: b3 :: t =>
   have e1 : (c :: b1 :: b2 :: b3 :: t).getD 1 0 = b1 := rfl
   have e2 : (c :: b1 :: b2 :: b3 :: t).getD 2 0 = b2 := rfl
   have e3 : (c :: b1 :: b2 :: b3 :: t).getD 3 0 = b3 := rfl
   have hb := b1.toNat_lt
   have hb2 := b2.toNat_lt
   have hb3 := b3.toNat_lt
   rw [e1,e2,e3]
   unfold multi
   simp only [List.length_cons,show 4 - 1 = 3 from rfl,List.take_succ_cons,List.take_zero]
   rw [if_neg (by omega),contF_cons]
   unfold runeF
   by_cases k1 : 128 ≤ b1.toNat ∧ b1.toNat < 192
   ·rw [if_pos k1,contF_cons]
    by_cases k2 : 128 ≤ b2.toNat ∧ b2.toNat < 192
    ·rw [if_pos k2,contF_cons]
     by_cases k3 : 128 ≤ b3.toNat ∧ b3.toNat < 192
     ·rw [if_pos k3,if_neg h1,if_neg (by omega),if_neg (by omega),if_pos (by omega)]
      simp only [contF,lastO,lastN]
      repeat' split
      all_goals omega
     ·rw [if_neg k3]; show 0 = _; rw [if_neg h1,if_neg (by omega),if_neg (by omega),if_neg (by omega)]
    ·rw [if_neg k2]; show 0 = _; rw [if_neg h1,if_neg (by omega),if_neg (by omega),if_neg (by omega)]
   ·rw [if_neg k1]; show 0 = _; rw [if_neg h1,if_neg (by omega),if_neg (by omega),if_neg (by omega)]
 ·rw [if_neg h5]
  unfold runeF
  rw [if_neg h1,if_neg (by omega),if_neg (by omega),if_neg (by omega)]
end Go.Mini.Nm
namespace Go.Mini.Nm
open Go Go.Mini Go.Proofs.YtaehaajckndejaaGreatDoor
set_option maxRecDepth 100000
set_option maxHeartbeats 4000000
theorem c109_2 (l : List UInt8) (hl : l.length < 1000000) (a : Nat) (c : UInt8) (t : List UInt8) (hd : l.drop a = c :: t) (ha : a + t.length + 1 = l.length)
  (h1 : 192 ≤ c.toNat) (h2 : c.toNat < 224) : Call Q 191 [.bs l,.int .i64 (a : Int)] = some (.int .i64 (multi 2 128 (c.toNat % 32) t : Nat)) := by
  have i0 : (0 : Int) ≤ (a : Int) := by omega
  have i1 : (a : Int) < (l.length : Int) := by omega
  have hg : l[a]? = some c := by
   have := congrArg (·[0]?) hd
   simpa [List.getElem?_drop] using this
  have hg' : l.getD a 0 = c := by rw [List.getD_eq_getElem?_getD,hg]; rfl
  have hc := c.toNat_lt
  have tm : (c.toNat : Int).tmod 32 = (c.toNat : Int) % 32 := Int.tmod_eq_emod_of_nonneg (by omega)
  have em : (c.toNat : Int) % 32 = ((c.toNat % 32 : Nat) : Int) := by omega
  have g240 : decide ((240 : Int) ≤ (c.toNat : Int)) = false := by simp; omega
  have g224 : decide ((224 : Int) ≤ (c.toNat : Int)) = false := by simp; omega
  have g192 : decide ((192 : Int) ≤ (c.toNat : Int)) = true := by simp; omega
  have l224 : decide ((c.toNat : Int) < 224) = true := by simp; omega
  unfold multi
  rw [Call_fn Q (m := m191) rfl rfl]
  by_cases hn : t.length + 1 < 2
  ·have glt : decide ((l.length : Int) < (a : Int) + 2) = true := by simp; omega
   rw [if_pos hn]
   simp (maxSteps := 4000000) (disch := first | omega | exact ok_of (by kernel_rfl) | decide) only [bA.u,seval,cut,if_pos,if_neg,m191,Run_loop,hg,hg',i0,i1,tm,glt,g240,g224,g192,l224]
  ·have gle : decide ((l.length : Int) < (a : Int) + 2) = false := by simp; omega
   rw [if_neg hn]
   obtain ⟨rhs,hr⟩ : ∃ z,z = some (MV.int .i64 ((lastO 2 128 (contF (t.take (2 - 1)) (c.toNat % 32)) : Nat) : Int)) := ⟨_,rfl⟩
   rw [← hr]
   simp (maxSteps := 4000000) (disch := first | omega | exact ok_of (by kernel_rfl) | decide) only [bA.u,seval,cut,if_pos,if_neg,m191,Run_loop,hg,hg',i0,i1,tm,gle,g240,g224,g192,l224]
   refine (congrArg (fin _) (RunL_canon (canon_cong (V := V109 l a (2 : Nat) (128 : Nat) (c.toNat % 32 : Nat) (1 : Nat)) (O := []) (nx := 1) (Eq.trans (by kernel_rfl) (show [(0,MV.bs l),(1,.int .i64 (a : Int)),(6,.int .i64 2),(7,.int .i64 128),(8,.int .i64 ((c.toNat : Int) % 32)),(9,.int .i64 1)] = V109 l a (2 : Nat) (128 : Nat) (c.toNat % 32 : Nat) (1 : Nat) from by rw [em]; rfl)) (by kernel_rfl) (by kernel_rfl)))).trans ?_
   have hbs : (t.take (2 - 1)).length = 2 - 1 := by rw [List.length_take]; omega
   have hdt : (l.drop (a + 1)).take (t.take (2 - 1)).length = t.take (2 - 1) := by
    have := congrArg (List.drop 1) hd
    rw [List.drop_drop] at this
    rw [hbs,this]
    all_goals rfl
   refine (c109_loop l hl a 2 128 (by omega) _ (t.take (2 - 1)) 1 (c.toNat % 32) hdt (by omega) (by unfold fits; omega)).trans ?_
   rw [hr]
   cases contF (t.take (2 - 1)) (c.toNat % 32) with
   | none=>rfl
   | some v =>
    show _ = some (MV.int .i64 ((lastN 2 128 v : Nat) : Int))
    unfold lastN
    by_cases y1 : v < 128
    ·have d1 : decide ((v : Int) < 128) = true := by simp; omega
     rw [if_pos (by omega)]
     simp (maxSteps := 4000000) (disch := first | omega | exact ok_of (by kernel_rfl) | decide) only [bA.u,seval,cut,if_pos,if_neg,V109,R109,d1]
    have d1 : decide ((v : Int) < 128) = false := by simp; omega
    by_cases y2 : 1114111 < v
    ·have d2 : decide ((1114111 : Int) < (v : Int)) = true := by simp; omega
     rw [if_pos (by omega)]
     simp (maxSteps := 4000000) (disch := first | omega | exact ok_of (by kernel_rfl) | decide) only [bA.u,seval,cut,if_pos,if_neg,V109,R109,d1,d2]
    have d2 : decide ((1114111 : Int) < (v : Int)) = false := by simp; omega
    by_cases y3 : 55296 ≤ v
    ·have d3 : decide ((55296 : Int) ≤ (v : Int)) = true := by simp; omega
     by_cases y4 : v < 57344
     ·have d4 : decide ((v : Int) < 57344) = true := by simp; omega
      rw [if_pos (by omega)]
      simp (maxSteps := 4000000) (disch := first | omega | exact ok_of (by kernel_rfl) | decide) only [bA.u,seval,cut,if_pos,if_neg,V109,R109,d1,d2,d3,d4]
     ·have d4 : decide ((v : Int) < 57344) = false := by simp; omega
      rw [if_neg (by omega)]
      simp (maxSteps := 4000000) (disch := first | omega | exact ok_of (by kernel_rfl) | decide) only [bA.u,seval,cut,if_pos,if_neg,V109,R109,d1,d2,d3,d4]
    ·have d3 : decide ((55296 : Int) ≤ (v : Int)) = false := by simp; omega
     rw [if_neg (by omega)]
     simp (maxSteps := 4000000) (disch := first | omega | exact ok_of (by kernel_rfl) | decide) only [bA.u,seval,cut,if_pos,if_neg,V109,R109,d1,d2,d3]
theorem c109_3 (l : List UInt8) (hl : l.length < 1000000) (a : Nat) (c : UInt8) (t : List UInt8) (hd : l.drop a = c :: t) (ha : a + t.length + 1 = l.length)
  (h1 : 224 ≤ c.toNat) (h2 : c.toNat < 240) : Call Q 191 [.bs l,.int .i64 (a : Int)] = some (.int .i64 (multi 3 2048 (c.toNat % 16) t : Nat)) := by
  have i0 : (0 : Int) ≤ (a : Int) := by omega
  have i1 : (a : Int) < (l.length : Int) := by omega
  have hg : l[a]? = some c := by
   have := congrArg (·[0]?) hd
   simpa [List.getElem?_drop] using this
  have hg' : l.getD a 0 = c := by rw [List.getD_eq_getElem?_getD,hg]; rfl
  have hc := c.toNat_lt
  have tm : (c.toNat : Int).tmod 16 = (c.toNat : Int) % 16 := Int.tmod_eq_emod_of_nonneg (by omega)
  have em : (c.toNat : Int) % 16 = ((c.toNat % 16 : Nat) : Int) := by omega
  have g240 : decide ((240 : Int) ≤ (c.toNat : Int)) = false := by simp; omega
  have g224 : decide ((224 : Int) ≤ (c.toNat : Int)) = true := by simp; omega
  have l240 : decide ((c.toNat : Int) < 240) = true := by simp; omega
  unfold multi
  rw [Call_fn Q (m := m191) rfl rfl]
  by_cases hn : t.length + 1 < 3
  ·have glt : decide ((l.length : Int) < (a : Int) + 3) = true := by simp; omega
   rw [if_pos hn]
   simp (maxSteps := 4000000) (disch := first | omega | exact ok_of (by kernel_rfl) | decide) only [bA.u,seval,cut,if_pos,if_neg,m191,Run_loop,hg,hg',i0,i1,tm,glt,g240,g224,l240]
  ·have gle : decide ((l.length : Int) < (a : Int) + 3) = false := by simp; omega
   rw [if_neg hn]
   obtain ⟨rhs,hr⟩ : ∃ z,z = some (MV.int .i64 ((lastO 3 2048 (contF (t.take (3 - 1)) (c.toNat % 16)) : Nat) : Int)) := ⟨_,rfl⟩
   rw [← hr]
   simp (maxSteps := 4000000) (disch := first | omega | exact ok_of (by kernel_rfl) | decide) only [bA.u,seval,cut,if_pos,if_neg,m191,Run_loop,hg,hg',i0,i1,tm,gle,g240,g224,l240]
   refine (congrArg (fin _) (RunL_canon (canon_cong (V := V109 l a (3 : Nat) (2048 : Nat) (c.toNat % 16 : Nat) (1 : Nat)) (O := []) (nx := 1) (Eq.trans (by kernel_rfl) (show [(0,MV.bs l),(1,.int .i64 (a : Int)),(6,.int .i64 3),(7,.int .i64 2048),(8,.int .i64 ((c.toNat : Int) % 16)),(9,.int .i64 1)] = V109 l a (3 : Nat) (2048 : Nat) (c.toNat % 16 : Nat) (1 : Nat) from by rw [em]; rfl)) (by kernel_rfl) (by kernel_rfl)))).trans ?_
   have hbs : (t.take (3 - 1)).length = 3 - 1 := by rw [List.length_take]; omega
   have hdt : (l.drop (a + 1)).take (t.take (3 - 1)).length = t.take (3 - 1) := by
    have := congrArg (List.drop 1) hd
    rw [List.drop_drop] at this
    rw [hbs,this]
    all_goals rfl
   refine (c109_loop l hl a 3 2048 (by omega) _ (t.take (3 - 1)) 1 (c.toNat % 16) hdt (by omega) (by unfold fits; omega)).trans ?_
   rw [hr]
   cases contF (t.take (3 - 1)) (c.toNat % 16) with
   | none=>rfl
   | some v =>
    show _ = some (MV.int .i64 ((lastN 3 2048 v : Nat) : Int))
    unfold lastN
    by_cases y1 : v < 2048
    ·have d1 : decide ((v : Int) < 2048) = true := by simp; omega
     rw [if_pos (by omega)]
     simp (maxSteps := 4000000) (disch := first | omega | exact ok_of (by kernel_rfl) | decide) only [bA.u,seval,cut,if_pos,if_neg,V109,R109,d1]
    have d1 : decide ((v : Int) < 2048) = false := by simp; omega
    by_cases y2 : 1114111 < v
    ·have d2 : decide ((1114111 : Int) < (v : Int)) = true := by simp; omega
     rw [if_pos (by omega)]
     simp (maxSteps := 4000000) (disch := first | omega | exact ok_of (by kernel_rfl) | decide) only [bA.u,seval,cut,if_pos,if_neg,V109,R109,d1,d2]
    have d2 : decide ((1114111 : Int) < (v : Int)) = false := by simp; omega
    by_cases y3 : 55296 ≤ v
    ·have d3 : decide ((55296 : Int) ≤ (v : Int)) = true := by simp; omega
     by_cases y4 : v < 57344
     ·have d4 : decide ((v : Int) < 57344) = true := by simp; omega
      rw [if_pos (by omega)]
      simp (maxSteps := 4000000) (disch := first | omega | exact ok_of (by kernel_rfl) | decide) only [bA.u,seval,cut,if_pos,if_neg,V109,R109,d1,d2,d3,d4]
     ·have d4 : decide ((v : Int) < 57344) = false := by simp; omega
      rw [if_neg (by omega)]
      simp (maxSteps := 4000000) (disch := first | omega | exact ok_of (by kernel_rfl) | decide) only [bA.u,seval,cut,if_pos,if_neg,V109,R109,d1,d2,d3,d4]
    ·have d3 : decide ((55296 : Int) ≤ (v : Int)) = false := by simp; omega
     rw [if_neg (by omega)]
     simp (maxSteps := 4000000) (disch := first | omega | exact ok_of (by kernel_rfl) | decide) only [bA.u,seval,cut,if_pos,if_neg,V109,R109,d1,d2,d3]
theorem c109_4 (l : List UInt8) (hl : l.length < 1000000) (a : Nat) (c : UInt8) (t : List UInt8) (hd : l.drop a = c :: t) (ha : a + t.length + 1 = l.length)
  (h1 : 240 ≤ c.toNat) (h2 : c.toNat < 248) : Call Q 191 [.bs l,.int .i64 (a : Int)] = some (.int .i64 (multi 4 65536 (c.toNat % 8) t : Nat)) := by
  have i0 : (0 : Int) ≤ (a : Int) := by omega
  have i1 : (a : Int) < (l.length : Int) := by omega
  have hg : l[a]? = some c := by
   have := congrArg (·[0]?) hd
   simpa [List.getElem?_drop] using this
  have hg' : l.getD a 0 = c := by rw [List.getD_eq_getElem?_getD,hg]; rfl
  have hc := c.toNat_lt
  have tm : (c.toNat : Int).tmod 8 = (c.toNat : Int) % 8 := Int.tmod_eq_emod_of_nonneg (by omega)
  have em : (c.toNat : Int) % 8 = ((c.toNat % 8 : Nat) : Int) := by omega
  have g240 : decide ((240 : Int) ≤ (c.toNat : Int)) = true := by simp; omega
  have g248 : decide ((c.toNat : Int) < 248) = true := by simp; omega
  unfold multi
  rw [Call_fn Q (m := m191) rfl rfl]
  by_cases hn : t.length + 1 < 4
  ·have glt : decide ((l.length : Int) < (a : Int) + 4) = true := by simp; omega
   rw [if_pos hn]
   simp (maxSteps := 4000000) (disch := first | omega | exact ok_of (by kernel_rfl) | decide) only [bA.u,seval,cut,if_pos,if_neg,m191,Run_loop,hg,hg',i0,i1,tm,glt,g240,g248]
  ·have gle : decide ((l.length : Int) < (a : Int) + 4) = false := by simp; omega
   rw [if_neg hn]
   obtain ⟨rhs,hr⟩ : ∃ z,z = some (MV.int .i64 ((lastO 4 65536 (contF (t.take (4 - 1)) (c.toNat % 8)) : Nat) : Int)) := ⟨_,rfl⟩
   rw [← hr]
   simp (maxSteps := 4000000) (disch := first | omega | exact ok_of (by kernel_rfl) | decide) only [bA.u,seval,cut,if_pos,if_neg,m191,Run_loop,hg,hg',i0,i1,tm,gle,g240,g248]
   refine (congrArg (fin _) (RunL_canon (canon_cong (V := V109 l a (4 : Nat) (65536 : Nat) (c.toNat % 8 : Nat) (1 : Nat)) (O := []) (nx := 1) (Eq.trans (by kernel_rfl) (show [(0,MV.bs l),(1,.int .i64 (a : Int)),(6,.int .i64 4),(7,.int .i64 65536),(8,.int .i64 ((c.toNat : Int) % 8)),(9,.int .i64 1)] = V109 l a (4 : Nat) (65536 : Nat) (c.toNat % 8 : Nat) (1 : Nat) from by rw [em]; rfl)) (by kernel_rfl) (by kernel_rfl)))).trans ?_
   have hbs : (t.take (4 - 1)).length = 4 - 1 := by rw [List.length_take]; omega
   have hdt : (l.drop (a + 1)).take (t.take (4 - 1)).length = t.take (4 - 1) := by
    have := congrArg (List.drop 1) hd
    rw [List.drop_drop] at this
    rw [hbs,this]
    all_goals rfl
   refine (c109_loop l hl a 4 65536 (by omega) _ (t.take (4 - 1)) 1 (c.toNat % 8) hdt (by omega) (by unfold fits; omega)).trans ?_
   rw [hr]
   cases contF (t.take (4 - 1)) (c.toNat % 8) with
   | none=>rfl
   | some v =>
    show _ = some (MV.int .i64 ((lastN 4 65536 v : Nat) : Int))
    unfold lastN
    by_cases y1 : v < 65536
    ·have d1 : decide ((v : Int) < 65536) = true := by simp; omega
     rw [if_pos (by omega)]
     simp (maxSteps := 4000000) (disch := first | omega | exact ok_of (by kernel_rfl) | decide) only [bA.u,seval,cut,if_pos,if_neg,V109,R109,d1]
    have d1 : decide ((v : Int) < 65536) = false := by simp; omega
    by_cases y2 : 1114111 < v
    ·have d2 : decide ((1114111 : Int) < (v : Int)) = true := by simp; omega
     rw [if_pos (by omega)]
     simp (maxSteps := 4000000) (disch := first | omega | exact ok_of (by kernel_rfl) | decide) only [bA.u,seval,cut,if_pos,if_neg,V109,R109,d1,d2]
    have d2 : decide ((1114111 : Int) < (v : Int)) = false := by simp; omega
    by_cases y3 : 55296 ≤ v
    ·have d3 : decide ((55296 : Int) ≤ (v : Int)) = true := by simp; omega
     by_cases y4 : v < 57344
     ·have d4 : decide ((v : Int) < 57344) = true := by simp; omega
      rw [if_pos (by omega)]
      simp (maxSteps := 4000000) (disch := first | omega | exact ok_of (by kernel_rfl) | decide) only [bA.u,seval,cut,if_pos,if_neg,V109,R109,d1,d2,d3,d4]
     ·have d4 : decide ((v : Int) < 57344) = false := by simp; omega
      rw [if_neg (by omega)]
      simp (maxSteps := 4000000) (disch := first | omega | exact ok_of (by kernel_rfl) | decide) only [bA.u,seval,cut,if_pos,if_neg,V109,R109,d1,d2,d3,d4]
    ·have d3 : decide ((55296 : Int) ≤ (v : Int)) = false := by simp; omega
     rw [if_neg (by omega)]
     simp (maxSteps := 4000000) (disch := first | omega | exact ok_of (by kernel_rfl) | decide) only [bA.u,seval,cut,if_pos,if_neg,V109,R109,d1,d2,d3]
theorem c109_1 (l : List UInt8) (hl : l.length < 1000000) (a : Nat) (c : UInt8) (t : List UInt8) (hd : l.drop a = c :: t) (ha : a + t.length + 1 = l.length) (h1 : c.toNat < 128) : Call Q 191 [.bs l,.int .i64 (a : Int)] = some (.int .i64 1) := by
  have i0 : (0 : Int) ≤ (a : Int) := by omega
  have i1 : (a : Int) < (l.length : Int) := by omega
  have hg : l[a]? = some c := by
   have := congrArg (·[0]?) hd
   simpa [List.getElem?_drop] using this
  have hg' : l.getD a 0 = c := by rw [List.getD_eq_getElem?_getD,hg]; rfl
  have hc := c.toNat_lt
  have g240 : decide ((240 : Int) ≤ (c.toNat : Int)) = false := by simp; omega
  have g224 : decide ((224 : Int) ≤ (c.toNat : Int)) = false := by simp; omega
  have g192 : decide ((192 : Int) ≤ (c.toNat : Int)) = false := by simp; omega
  have g128 : decide ((128 : Int) ≤ (c.toNat : Int)) = false := by simp; omega
  have gle : decide ((l.length : Int) < (a : Int) + 1) = false := by simp; omega
  have d1 : decide ((c.toNat : Int) < 0) = false := by simp
  have d2 : decide ((1114111 : Int) < (c.toNat : Int)) = false := by simp; omega
  have d3 : decide ((55296 : Int) ≤ (c.toNat : Int)) = false := by simp; omega
  obtain ⟨rhs,hr⟩ : ∃ z,z = some (MV.int .i64 1) := ⟨_,rfl⟩
  rw [Call_fn Q (m := m191) rfl rfl,← hr]
  simp (maxSteps := 4000000) (disch := first | omega | exact ok_of (by kernel_rfl) | decide) only [bA.u,seval,cut,if_pos,if_neg,m191,Run_loop,hg,hg',i0,i1,gle,g240,g224,g192,g128]
  refine (congrArg (fin _) (RunL_canon (canon_cong (V := V109 l a (1 : Nat) (0 : Nat) c.toNat (1 : Nat)) (O := []) (nx := 1) (by kernel_rfl) (by kernel_rfl) (by kernel_rfl)))).trans ?_
  refine (c109_loop l hl a 1 0 (by omega) _ [] 1 c.toNat (by simp) rfl (by unfold fits; simp; omega)).trans ?_
  rw [hr]
  simp only [contF]
  simp (maxSteps := 4000000) (disch := first | omega | exact ok_of (by kernel_rfl) | decide) only [bA.u,seval,cut,if_pos,if_neg,V109,R109,d1,d2,d3]
theorem c109_0 (l : List UInt8) (hl : l.length < 1000000) (a : Nat) (c : UInt8) (t : List UInt8) (hd : l.drop a = c :: t) (ha : a + t.length + 1 = l.length) (h1 : 128 ≤ c.toNat) (h2 : c.toNat < 192) : Call Q 191 [.bs l,.int .i64 (a : Int)] = some (.int .i64 0) := by
  have i0 : (0 : Int) ≤ (a : Int) := by omega
  have i1 : (a : Int) < (l.length : Int) := by omega
  have hg : l[a]? = some c := by
   have := congrArg (·[0]?) hd
   simpa [List.getElem?_drop] using this
  have hg' : l.getD a 0 = c := by rw [List.getD_eq_getElem?_getD,hg]; rfl
  have hc := c.toNat_lt
  have g240 : decide ((240 : Int) ≤ (c.toNat : Int)) = false := by simp; omega
  have g224 : decide ((224 : Int) ≤ (c.toNat : Int)) = false := by simp; omega
  have g192 : decide ((192 : Int) ≤ (c.toNat : Int)) = false := by simp; omega
  have g128 : decide ((128 : Int) ≤ (c.toNat : Int)) = true := by simp; omega
  rw [Call_fn Q (m := m191) rfl rfl]
  simp (maxSteps := 4000000) (disch := first | omega | exact ok_of (by kernel_rfl) | decide) only [bA.u,seval,cut,if_pos,if_neg,m191,hg,hg',i0,i1,g240,g224,g192,g128]
theorem c109_8 (l : List UInt8) (hl : l.length < 1000000) (a : Nat) (c : UInt8) (t : List UInt8) (hd : l.drop a = c :: t) (ha : a + t.length + 1 = l.length) (h1 : 248 ≤ c.toNat) : Call Q 191 [.bs l,.int .i64 (a : Int)] = some (.int .i64 0) := by
  have i0 : (0 : Int) ≤ (a : Int) := by omega
  have i1 : (a : Int) < (l.length : Int) := by omega
  have hg : l[a]? = some c := by
   have := congrArg (·[0]?) hd
   simpa [List.getElem?_drop] using this
  have hg' : l.getD a 0 = c := by rw [List.getD_eq_getElem?_getD,hg]; rfl
  have hc := c.toNat_lt
  have g240 : decide ((240 : Int) ≤ (c.toNat : Int)) = true := by simp; omega
  have g248 : decide ((c.toNat : Int) < 248) = false := by simp; omega
  have g224 : decide ((224 : Int) ≤ (c.toNat : Int)) = true := by simp; omega
  have l240 : decide ((c.toNat : Int) < 240) = false := by simp; omega
  have g192 : decide ((192 : Int) ≤ (c.toNat : Int)) = true := by simp; omega
  have l224 : decide ((c.toNat : Int) < 224) = false := by simp; omega
  have g128 : decide ((128 : Int) ≤ (c.toNat : Int)) = true := by simp; omega
  rw [Call_fn Q (m := m191) rfl rfl]
  simp (maxSteps := 4000000) (disch := first | omega | exact ok_of (by kernel_rfl) | decide) only [bA.u,seval,cut,if_pos,if_neg,m191,hg,hg',i0,i1,g240,g248,g224,l240,g192,l224,g128]
theorem c109 (l : List UInt8) (hl : l.length < 1000000) (a : Nat) (c : UInt8) (t : List UInt8) (hd : l.drop a = c :: t) (ha : a + t.length + 1 = l.length) : Call Q 191 [.bs l,.int .i64 (a : Int)] = some (.int .i64 (runeN (c :: t) : Nat)) := by
 rw [← runeR_eq]
 unfold runeR
 by_cases h1 : c.toNat < 128
 ·rw [if_pos h1]; exact c109_1 l hl a c t hd ha h1
 rw [if_neg h1]
 by_cases h2 : c.toNat < 192
 ·rw [if_pos h2]; exact c109_0 l hl a c t hd ha (by omega) h2
 rw [if_neg h2]
 by_cases h3 : c.toNat < 224
 ·rw [if_pos h3]; exact c109_2 l hl a c t hd ha (by omega) h3
 rw [if_neg h3]
 by_cases h4 : c.toNat < 240
 ·rw [if_pos h4]; exact c109_3 l hl a c t hd ha (by omega) h4
 rw [if_neg h4]
 by_cases h5 : c.toNat < 248
 ·rw [if_pos h5]; exact c109_4 l hl a c t hd ha (by omega) h5
 rw [if_neg h5]; exact c109_8 l hl a c t hd ha (by omega)
def R84 : List (Nat × Option (Bool × Nat) × PK) := [(2,none,.other)]
def V84 (l : List UInt8) (i : Int) : List (Nat × MV) := [(0,.bs l),(3,.int .i64 i)]
def K84 : List Item := [.blk 0,.code (.seq (.rg [⟨some (.v 2),.mv (.c (.bool true)),none⟩]) .ret)]
theorem c84_loop (l : List UInt8) (hl : l.length < 1000000) : ∀ (k : Nat) (r : List UInt8) (i : Nat),r.length ≤ k→l.drop i = r→i + r.length = l.length →
  fin R84 (RunL Q m136k0 m136b0 K84 ⟨V84 l i,[],[],1⟩) = some (.bool (Lib.validD r)) := by
 intro k
 induction k with
 | zero =>
  intro r i hk hd hi
  have hr : r = [] := List.eq_nil_of_length_eq_zero (by omega)
  subst hr
  have hi' : i = l.length := by simpa using hi
  subst hi'
  have hlt : decide ((l.length : Int) < (l.length : Int)) = false := by simp
  obtain ⟨b',hb'⟩ : ∃ b',b' = m136b0 := ⟨_,rfl⟩
  rw [RunL_eq,show Item.lp m136k0 m136b0 = Item.lp m136k0 b' by rw [hb']]
  simp (maxSteps := 4000000) (disch := first | omega | exact ok_of (by kernel_rfl) | decide) only [bA.u,seval,cut,if_pos,if_neg,m136b0,V84,R84,K84,hlt]
  all_goals rfl
 | succ k ih =>
  intro r i hk hd hi
  cases r with
  | nil =>
   have hi' : i = l.length := by simpa using hi
   subst hi'
   have hlt : decide ((l.length : Int) < (l.length : Int)) = false := by simp
   obtain ⟨b',hb'⟩ : ∃ b',b' = m136b0 := ⟨_,rfl⟩
   rw [RunL_eq,show Item.lp m136k0 m136b0 = Item.lp m136k0 b' by rw [hb']]
   simp (maxSteps := 4000000) (disch := first | omega | exact ok_of (by kernel_rfl) | decide) only [bA.u,seval,cut,if_pos,if_neg,m136b0,V84,R84,K84,hlt]
   all_goals rfl
  | cons c t =>
   simp only [List.length_cons] at hi hk
   have hlt : decide ((i : Int) < (l.length : Int)) = true := by simp; omega
   have hc := c109 l hl i c t hd (by omega)
   rw [Lib.validD_step _ (by simp)]
   have hw := Lib.decodeL_width (c :: t)
   have hle := Lib.decodeL_le (c :: t) (by simp)
   simp only [List.length_cons] at hle
   unfold runeN at hc
   by_cases hb : (Lib.decodeL (c :: t)).1 = 65533 ∧ (Lib.decodeL (c :: t)).2 = 1
   ·rw [if_pos hb] at hc ⊢
    have hz : (((0 : Nat) : Int) == 0) = true := rfl
    obtain ⟨b',hb'⟩ : ∃ b',b' = m136b0 := ⟨_,rfl⟩
    rw [RunL_eq,show Item.lp m136k0 m136b0 = Item.lp m136k0 b' by rw [hb']]
    simp (maxSteps := 4000000) (disch := first | omega | exact ok_of (by kernel_rfl) | decide) only [bA.u,seval,cut,if_pos,if_neg,m136b0,V84,R84,K84,hlt,hc,hz]
   ·rw [if_neg hb] at hc ⊢
    have hdr : l.drop (i + (Lib.decodeL (c :: t)).2) = (c :: t).drop (Lib.decodeL (c :: t)).2 := by rw [← hd,List.drop_drop]
    have ih' := ih ((c :: t).drop (Lib.decodeL (c :: t)).2) (i + (Lib.decodeL (c :: t)).2) (by rw [List.length_drop,List.length_cons]; omega) hdr (by rw [List.length_drop,List.length_cons]; omega)
    generalize Lib.validD ((c :: t).drop (Lib.decodeL (c :: t)).2) = ans at ih' ⊢
    generalize (Lib.decodeL (c :: t)).2 = w at hc hw hle ih'
    have hz : ((w : Int) == 0) = false := by rw [beq_eq_false_iff_ne]; omega
    have e : ((i : Int) + (w : Int)) = ((i + w : Nat) : Int) := by omega
    obtain ⟨rhs,hr⟩ : ∃ z,z = some (MV.bool ans) := ⟨_,rfl⟩
    rw [← hr]
    obtain ⟨b',hb'⟩ : ∃ b',b' = m136b0 := ⟨_,rfl⟩
    rw [RunL_eq,show Item.lp m136k0 m136b0 = Item.lp m136k0 b' by rw [hb']]
    simp (maxSteps := 4000000) (disch := first | omega | exact ok_of (by kernel_rfl) | decide) only [bA.u,seval,cut,if_pos,if_neg,m136b0,V84,R84,K84,hlt,hc,hz]
    subst hb'
    refine ((congrArg (fin _) (Run_lp Q _ _ _ _)).trans ?_)
    rw [hr,← ih']
    exact congrArg (fin R84) (RunL_canon (canon_cong (Eq.trans (by kernel_rfl) (show [(0,MV.bs l),(3,.int .i64 ((i : Int) + (w : Int)))] = V84 l (i + w : Nat) from by rw [e]; rfl)) (by kernel_rfl) (by kernel_rfl)))
theorem c84 (l : List UInt8) (hl : l.length < 1000000) : Call Q 136 [.bs l] = some (.bool (Lib.validD l)) := by
 rw [Call_fn Q (m := m136) rfl rfl,← c84_loop l hl l.length l 0 (Nat.le_refl _) rfl (by omega)]
 simp (maxSteps := 4000000) (disch := first | omega | exact ok_of (by kernel_rfl) | decide) only [bA.u,seval,cut,if_pos,if_neg,m136,Run_loop]
 exact congrArg (fin R84) (RunL_canon (canon_cong (by kernel_rfl) (by kernel_rfl) (by kernel_rfl)))
theorem c51 (s : List UInt8) (hs : s.length < 1000000) : Call Q 93 [.str s] = some (.bool (textB s)) := by
 have hv := c84 s hs
 unfold textB
 rw [Call_fn Q (m := m93) rfl rfl]
 have e1 : decide ((1 : Int) ≤ (s.length : Int)) = decide (1 ≤ s.length) := by rw [Bool.eq_iff_iff]; simp; omega
 have e2 : decide ((s.length : Int) ≤ 64) = decide (s.length ≤ 64) := by rw [Bool.eq_iff_iff]; simp; omega
 cases x1 : decide (1 ≤ s.length)
 ·simp (maxSteps := 4000000) (disch := first | omega | exact ok_of (by kernel_rfl) | decide) only [bA.u,seval,cut,if_pos,if_neg,m93,e1,x1]
 ·cases x2 : decide (s.length ≤ 64)
  ·simp (maxSteps := 4000000) (disch := first | omega | exact ok_of (by kernel_rfl) | decide) only [bA.u,seval,cut,if_pos,if_neg,m93,e1,e2,x1,x2]
  ·simp (maxSteps := 4000000) (disch := first | omega | exact ok_of (by kernel_rfl) | decide) only [bA.u,seval,cut,if_pos,if_neg,m93,e1,e2,x1,x2,hv]
end Go.Mini.Nm

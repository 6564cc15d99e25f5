/- a certificate's names keep to limits as the document says: the law by that interpreter (part 7): what the program's functions answer, or plain laws of it; no conditions. -/
import Derived.Lib.ItoaNum
import Derived.Test.YtaehaajckndejaaGreatDoorA06
set_option linter.all false
namespace Go.Mini.Nm
open Go Go.Mini Go.Proofs.YtaehaajckndejaaGreatDoor
set_option maxRecDepth 100000
set_option maxHeartbeats 4000000
def dig (c : UInt8) : Bool := decide (48 ≤ c.toNat) && decide (c.toNat ≤ 57)
def val (a : Nat) (l : List UInt8) : Nat := l.foldl (fun a c=>a * 10 + (c.toNat - 48)) a
def okLab (p : List UInt8) : Bool := decide (1 ≤ p.length) && decide (p.length ≤ 13) && !(decide (1 < p.length) && p.getD 0 0 == 48)
def numR (p : List UInt8) : Option Int := if okLab p = true then (if val 0 p < 1099511627776 then some (val 0 p : Int) else none) else none
theorem val_cons (a : Nat) (c : UInt8) (r : List UInt8) : val a (c :: r) = val (a * 10 + (c.toNat - 48)) r := by simp only [val,List.foldl_cons]
theorem val_snoc (a : Nat) (c : UInt8) (r : List UInt8) : val a (r ++ [c]) = val a r * 10 + (c.toNat - 48) := by simp [val]
theorem val_le : ∀ (r : List UInt8) (a : Nat),a ≤ val a r
 | [],a=>Nat.le_refl _
 | c :: r,a=>by
  have := val_le r (a * 10 + (c.toNat - 48))
  rw [val_cons]
  omega
theorem dig_iff {c : UInt8} : dig c = true ↔ 48 ≤ c.toNat ∧ c.toNat ≤ 57 := by simp [dig]
theorem ofNat_dig {c : UInt8} (h : dig c = true) : UInt8.ofNat (48 + (c.toNat - 48)) = c := by
 have := dig_iff.1 h
 rw [show 48 + (c.toNat - 48) = c.toNat by omega,UInt8.ofNat_toNat]
theorem parse_val : ∀ (l : List UInt8) (a : Nat),l.all dig = true→val a l < 1099511627776→Lib.parseUint10 a l = .ok (val a l)
 | [],a,_,_=>rfl
 | c :: r,a,h,hv=>by
  simp only [List.all_cons,Bool.and_eq_true] at h
  have hc := dig_iff.1 h.1
  have hl := val_le r (a * 10 + (c.toNat - 48))
  rw [val_cons] at hv ⊢
  unfold Lib.parseUint10
  rw [if_pos hc,if_neg (by omega),if_neg (by omega)]
  exact parse_val r _ h.2 hv
theorem atoi_val {p : List UInt8} (h0 : p ≠ []) (h : p.all dig = true) (hv : val 0 p < 1099511627776) : Lib.atoiAll p = .ok (val 0 p : Int) := by
 cases p with
 | nil=>exact (h0 rfl).elim
 | cons c r =>
  have hh := h
  simp only [List.all_cons,Bool.and_eq_true] at h
  have hc := dig_iff.1 h.1
  have hm : Lib.parseMag (c :: r) = .ok (val 0 (c :: r)) := by
   unfold Lib.parseMag
   rw [if_neg (by simp)]
   exact parse_val _ _ hh hv
  unfold Lib.atoiAll
  simp only
  rw [if_neg (by omega),hm]
  simp only
  rw [if_neg (by omega),if_neg (by omega),if_neg (by omega)]
theorem val_pos {c : UInt8} {r : List UInt8} (h : dig c = true) (h0 : c ≠ 48) : 1 ≤ val 0 (c :: r) := by
 have hc := dig_iff.1 h
 have : c.toNat ≠ 48 := fun e=>h0 (UInt8.toNat_inj.1 e)
 have := val_le r (0 * 10 + (c.toNat - 48))
 rw [val_cons]
 omega
theorem digits_val : ∀ (n : Nat) (p : List UInt8),p.length = n→p ≠ []→p.all dig = true→(p.length = 1 ∨ p.getD 0 0 ≠ 48)→Lib.decDigits (val 0 p) = p := by
 intro n
 induction n with
 | zero =>
  intro p hn h0
  exact (h0 (List.eq_nil_of_length_eq_zero hn)).elim
 | succ n ih =>
  intro p hn h0 h h1
  obtain ⟨q,c,rfl⟩ : ∃ q c,p = q ++ [c] := ⟨p.dropLast,p.getLast h0,(List.dropLast_concat_getLast h0).symm⟩
  have hq : q.all dig = true := by simp only [List.all_append,Bool.and_eq_true] at h; exact h.1
  have hc : dig c = true := by simp only [List.all_append,Bool.and_eq_true,List.all_cons,List.all_nil] at h; exact h.2.1
  have hcd := dig_iff.1 hc
  rw [val_snoc]
  cases q with
  | nil =>
   rw [Lib.decDigits,dif_pos (by simp [val]; omega)]
   simp only [val,List.foldl_nil,Nat.zero_mul,Nat.zero_add,ofNat_dig hc]
   all_goals rfl
  | cons b t =>
   have hb : b ≠ 48 := by
    rcases h1 with h1 | h1
    ·simp at h1
    ·simpa using h1
   have hbd : dig b = true := by simp at hq; exact hq.1
   have hp := val_pos (r := t) hbd hb
   have i1 := ih (b :: t) (by simp at hn ⊢; omega) (by simp) hq (Or.inr (by simpa using hb))
   rw [Lib.decDigits,dif_neg (by omega),show (val 0 (b :: t) * 10 + (c.toNat - 48)) / 10 = val 0 (b :: t) by omega,show (val 0 (b :: t) * 10 + (c.toNat - 48)) % 10 = c.toNat - 48 by omega,i1,ofNat_dig hc]
theorem digits_all : ∀ n : Nat,(Lib.decDigits n).all dig = true ∧ Lib.decDigits n ≠ [] ∧ val 0 (Lib.decDigits n) = n ∧ (1 ≤ n→(Lib.decDigits n).getD 0 0 ≠ 48) ∧ (n < 10→(Lib.decDigits n).length = 1) := by
 intro n
 induction n using Nat.strongRecOn with
 | ind n ih =>
  have hd : ∀ m : Nat,m < 10→dig (UInt8.ofNat (48 + m)) = true ∧ (UInt8.ofNat (48 + m)).toNat = 48 + m := by
   intro m hm
   have : (UInt8.ofNat (48 + m)).toNat = 48 + m := by rw [UInt8.toNat_ofNat']; omega
   exact ⟨dig_iff.2 (by omega),this⟩
  rw [Lib.decDigits]
  by_cases h : n < 10
  ·rw [dif_pos h]
   have h1 := hd n h
   refine ⟨by simp only [List.all_cons,List.all_nil,h1.1,Bool.and_true],by simp,?_,?_,by simp⟩
   ·simp only [val,List.foldl_cons,List.foldl_nil,h1.2]; omega
   ·intro hn he
    have := congrArg UInt8.toNat (show UInt8.ofNat (48 + n) = 48 from he)
    rw [h1.2] at this
    have e48 : (48 : UInt8).toNat = 48 := rfl
    omega
  ·rw [dif_neg h]
   have h1 := hd (n % 10) (by omega)
   obtain ⟨i1,i2,i3,i4,i5⟩ := ih (n / 10) (by omega)
   refine ⟨by simp only [List.all_append,List.all_cons,List.all_nil,i1,h1.1,Bool.and_true],by simp,?_,?_,by omega⟩
   ·rw [val_snoc,i3,h1.2]; omega
   ·intro _
    cases hx : Lib.decDigits (n / 10) with
    | nil=>exact (i2 hx).elim
    | cons b t =>
     have := i4 (by omega)
     rw [hx] at this
     simpa using this
theorem decF_len : ∀ (k n : Nat),(decF k n).length ≤ k + 1
 | 0,n=>Nat.le_refl _
 | k + 1,n=>by
  unfold decF
  split
  ·simp
  ·have := decF_len k (n / 10)
   simp; omega
theorem numP_eq (p : List UInt8) : numP p = if p.all dig = true then numR p else none := by
 have up : ∀ n,numP p = some n→p.all dig = true ∧ numR p = some n := by
  intro n h
  unfold numP at h
  cases ha : Lib.atoiAll p with
  | ok m =>
   rw [ha] at h
   simp only at h
   split at h
   ·rename_i hm
    obtain rfl := Option.some.inj h
    obtain ⟨k,rfl⟩ := Int.eq_ofNat_of_zero_le hm.1
    have hk : k < 1099511627776 := by omega
    have e := hm.2.2
    unfold itoaL at e
    rw [if_neg (by omega),Int.toNat_natCast,decF_eq 19 k (by omega)] at e
    have hlen := decF_len 12 k
    rw [decF_eq 12 k (by omega),e] at hlen
    obtain ⟨d1,d2,d3,d4,d5⟩ := digits_all k
    rw [e] at d1 d2 d3 d4 d5
    refine ⟨d1,?_⟩
    have hpos := List.length_pos_iff.2 d2
    unfold numR okLab
    rw [d3,decide_eq_true (show 1 ≤ p.length from hpos),decide_eq_true hlen,if_pos,if_pos hk]
    by_cases h10 : k < 10
    ·rw [d5 h10]; rfl
    ·have := d4 (by omega)
     have hz : (p.getD 0 0 == 48) = false := by rw [beq_eq_false_iff_ne]; exact this
     rw [hz,Bool.and_false]; rfl
   ·cases h
  | range=>rw [ha] at h; cases h
  | _=>rw [ha] at h; cases h
 have down : ∀ n,p.all dig = true→numR p = some n→numP p = some n := by
  intro n hall h
  unfold numR okLab at h
  split at h
  ·rename_i hl
   split at h
   ·rename_i hv
    obtain rfl := Option.some.inj h
    simp only [Bool.and_eq_true,decide_eq_true_eq,Bool.not_eq_true'] at hl
    have hne : p ≠ [] := List.length_pos_iff.1 hl.1.1
    have hd := digits_val p.length p rfl hne hall (by
     by_cases h1 : p.length = 1
     ·exact .inl h1
     ·right
      intro e
      have := hl.2
      rw [e,decide_eq_true (show 1 < p.length by omega)] at this
      cases this)
    unfold numP
    rw [atoi_val hne hall hv]
    simp only
    rw [if_pos]
    refine ⟨by omega,by omega,?_⟩
    unfold itoaL
    rw [if_neg (by omega),Int.toNat_natCast,decF_eq 19 _ (by omega),hd]
   ·cases h
  ·cases h
 cases hp : numP p with
 | some n =>
  obtain ⟨h1,h2⟩ := up n hp
  rw [if_pos h1,h2]
 | none =>
  by_cases hall : p.all dig = true
  ·rw [if_pos hall]
   cases hr : numR p with
   | none=>rfl
   | some n=>rw [down n hall hr] at hp; cases hp
  ·rw [if_neg hall]
def numsC : List UInt8→List UInt8→Option (List Int)
 | cur,[]=>match numR cur with
  | some n=>some [n]
  | none=>none
 | cur,c :: r=>if c = 46 then (match numR cur,numsC [] r with
   | some n,some l=>some (n :: l)
   | _,_=>none) else if dig c = true then numsC (cur ++ [c]) r else none
theorem numsC_eq : ∀ (r cur : List UInt8),cur.all dig = true→numsC cur r = match splits r with | p :: ps=>numsP ((cur ++ p) :: ps) | []=>none
 | [],cur,h=>by
  unfold numsC splits
  simp only [List.append_nil]
  rw [numsP_cons,numP_eq,if_pos h]
  cases numR cur <;> rfl
 | c :: r,cur,h=>by
  unfold numsC splits
  have hn := splits_ne r
  by_cases hc : c = 46
  ·rw [if_pos hc,if_pos hc,numsC_eq r [] rfl]
   simp only [List.append_nil]
   rw [numsP_cons,numP_eq,if_pos h]
   cases hs : splits r with
   | nil=>exact (hn hs).elim
   | cons p ps=>rfl
  ·rw [if_neg hc,if_neg hc]
   cases hk : dig c
   ·rw [if_neg (by decide)]
    cases hs : splits r with
    | nil=>exact (hn hs).elim
    | cons p ps =>
     simp only
     rw [numsP_cons,numP_eq,if_neg (by simp [hk])]
   ·rw [if_pos rfl,numsC_eq r (cur ++ [c]) (by simp [h,hk])]
    cases hs : splits r with
    | nil=>exact (hn hs).elim
    | cons p ps=>simp
theorem numsC_nums (s : List UInt8) : numsC [] s = numsP (splits s) := by
 rw [numsC_eq s [] rfl]
 have hn := splits_ne s
 cases hs : splits s with
 | nil=>exact (hn hs).elim
 | cons p ps=>simp
end Go.Mini.Nm
namespace Go.Mini.Nm
open Go Go.Mini Go.Proofs.YtaehaajckndejaaGreatDoor
set_option maxRecDepth 100000
set_option maxHeartbeats 4000000
def R87 : List (Nat × Option (Bool × Nat) × PK) := [(2,none,.ownE 1),(3,none,.other)]
def V87 (a : Nat) (s : List UInt8) (l : List Int) (f i : Int) : List (Nat × MV) := [(0,.str s),(4,.own a l.length),(5,.int .i64 f),(6,.int .i64 i)]
def O87 (a : Nat) (l : List Int) : List (Nat × Obj) := [(a,.el 1 (ints l) false)]
def W87 (s : List UInt8) (l : List Int) (i : Int) (p : List UInt8) (n k : Int) : List (Nat × MV) := [(0,.str s),(4,.own 0 l.length),(6,.int .i64 i),(7,.str p),(8,.int .i64 n),(9,.int .i64 k)]
theorem c87_val (s : List UInt8) (l : List Int) (i : Int) (p : List UInt8) (hp : p.length ≤ 13) (K : List Item) : ∀ (r : List UInt8) (k n : Nat),p.drop k = r→k + r.length = p.length→r.all dig = true→(n + 1) * 10 ^ r.length ≤ 10000000000000 →
  RunL Q m135k1 m135b1 (.blk 2 :: K) ⟨W87 s l i p n k,[],O87 0 l,2⟩ = Run Q K ⟨(61,.bool false) :: W87 s l i p (val n r) p.length,[],O87 0 l,18⟩
 | [],k,n,hd,hi,ha,hn=>by
  have hi' : k = p.length := by simpa using hi
  subst hi'
  have hlt : decide ((p.length : Int) < (p.length : Int)) = false := by simp
  show _ = Run Q K ⟨(61,.bool false) :: W87 s l i p n p.length,[],O87 0 l,18⟩
  obtain ⟨b',hb'⟩ : ∃ b',b' = m135b1 := ⟨_,rfl⟩
  rw [RunL_eq,show Item.lp m135k1 m135b1 = Item.lp m135k1 b' by rw [hb']]
  simp (maxSteps := 4000000) (disch := first | omega | exact ok_of (by kernel_rfl) | decide) only [bA.u,seval,cut,if_pos,if_neg,m135b1,W87,O87,hlt]
 | c :: r,k,n,hd,hi,ha,hn=>by
  simp only [List.length_cons] at hi hn
  simp only [List.all_cons,Bool.and_eq_true] at ha
  have hcd := dig_iff.1 ha.1
  have hlt : decide ((k : Int) < (p.length : Int)) = true := by simp; omega
  have i0 : (0 : Int) ≤ (k : Int) := by omega
  have i1 : (k : Int) < (p.length : Int) := by omega
  have hg : p[k]? = some c := by
   have := congrArg (·[0]?) hd
   simpa [List.getElem?_drop] using this
  have hg' : p.getD k 0 = c := by rw [List.getD_eq_getElem?_getD,hg]; rfl
  have hd' : p.drop (k + 1) = r := by
   have := congrArg (List.drop 1) hd
   simpa [List.drop_drop] using this
  have e : ((k : Int) + 1) = ((k + 1 : Nat) : Int) := by omega
  have ev : 10 * (n : Int) + (c.toNat : Int) - 48 = ((n * 10 + (c.toNat - 48) : Nat) : Int) := by omega
  have hb : (n * 10 + (c.toNat - 48) + 1) * 10 ^ r.length ≤ 10000000000000 := by
   have : (n * 10 + (c.toNat - 48) + 1) * 10 ^ r.length ≤ ((n + 1) * 10) * 10 ^ r.length := Nat.mul_le_mul_right _ (by omega)
   rw [Nat.pow_succ] at hn
   have e2 : (n + 1) * 10 * 10 ^ r.length = (n + 1) * (10 ^ r.length * 10) := by rw [Nat.mul_assoc,Nat.mul_comm 10]
   omega
  have hnb : n + 1 ≤ 10000000000000 := by
   have : 1 ≤ 10 ^ (r.length + 1) := Nat.one_le_pow _ _ (by decide)
   have := Nat.mul_le_mul_left (n + 1) this
   omega
  have ih := c87_val s l i p hp K r (k + 1) (n * 10 + (c.toNat - 48)) hd' (by omega) ha.2 hb
  rw [val_cons,← ih]
  obtain ⟨rhs,hr⟩ : ∃ z,z = RunL Q m135k1 m135b1 (.blk 2 :: K) ⟨W87 s l i p (n * 10 + (c.toNat - 48) : Nat) (k + 1 : Nat),[],O87 0 l,2⟩ := ⟨_,rfl⟩
  rw [← hr]
  obtain ⟨b',hb'⟩ : ∃ b',b' = m135b1 := ⟨_,rfl⟩
  rw [RunL_eq,show Item.lp m135k1 m135b1 = Item.lp m135k1 b' by rw [hb']]
  simp (maxSteps := 4000000) (disch := first | omega | exact ok_of (by kernel_rfl) | decide) only [bA.u,seval,cut,if_pos,if_neg,m135b1,W87,O87,hlt,i0,i1,hg,hg']
  subst hb'
  rw [Run_lp,hr]
  exact RunL_canon (canon_cong (Eq.trans (by kernel_rfl) (show [(0,MV.str s),(4,.own 0 l.length),(6,.int .i64 i),(7,.str p),(8,.int .i64 (10 * (n : Int) + (c.toNat : Int) - 48)),(9,.int .i64 ((k : Int) + 1))] = W87 s l i p (n * 10 + (c.toNat - 48) : Nat) (k + 1 : Nat) from by rw [e,ev]; rfl)) (by kernel_rfl) (by kernel_rfl))
def K87 : List Item := [.blk 0,.code (.seq (.rg [⟨some (.t 80),.mv (.v 4),none⟩,⟨some (.t 81),.mv (.v 4),none⟩,⟨some (.t 82),.len false (.t 81),none⟩,⟨some (.t 83),.bin .geq (.t 82) (.c (.int .i64 2)),none⟩,⟨some (.t 84),.mv (.t 83),none⟩,⟨some (.t 85),.mv (.v 4),some (.t 84,true)⟩,⟨some (.t 86),.len false (.t 85),some (.t 84,true)⟩,⟨some (.t 87),.bin .leq (.t 86) (.c (.int .i64 20)),some (.t 84,true)⟩,⟨some (.t 88),.pick (.t 84) (.t 87) (.c (.bool false)),none⟩,⟨some (.v 2),.mv (.t 80),none⟩,⟨some (.v 3),.mv (.t 88),none⟩]) .ret)]
def bad87 : MV := .tup [.fel 1 [],.bool false]
def good87 (l : List Int) : MV := .tup [.fel 1 (ints l),.bool (decide (2 ≤ l.length) && decide (l.length ≤ 20))]
theorem c87_past (a : Nat) (ha : a = 0 ∨ a = 1) (s : List UInt8) (hs : s.length < 1000000) (l : List Int) (f : Int) : fin R87 (RunL Q m135k0 m135b0 K87 ⟨V87 a s l f (s.length + 1 : Nat),[],O87 a l,2⟩) = some (good87 l) := by
  have hle : decide (((s.length + 1 : Nat) : Int) ≤ (s.length : Int)) = false := by simp; omega
  have hil := ints_length l
  have e1 : decide ((2 : Int) ≤ (l.length : Int)) = decide (2 ≤ l.length) := by rw [Bool.eq_iff_iff]; simp; omega
  have e2 : decide ((l.length : Int) ≤ 20) = decide (l.length ≤ 20) := by rw [Bool.eq_iff_iff]; simp; omega
  unfold good87
  rcases ha with rfl | rfl
  ·obtain ⟨b',hb'⟩ : ∃ b',b' = m135b0 := ⟨_,rfl⟩
   rw [RunL_eq,show Item.lp m135k0 m135b0 = Item.lp m135k0 b' by rw [hb']]
   cases x1 : decide (2 ≤ l.length)
   ·simp (maxSteps := 4000000) (disch := first | omega | exact ok_of (by kernel_rfl) | decide) only [bA.u,seval,cut,if_pos,if_neg,m135b0,V87,O87,R87,K87,hle,hil,e1,e2,x1]
   ·cases x2 : decide (l.length ≤ 20)
    ·simp (maxSteps := 4000000) (disch := first | omega | exact ok_of (by kernel_rfl) | decide) only [bA.u,seval,cut,if_pos,if_neg,m135b0,V87,O87,R87,K87,hle,hil,e1,e2,x1,x2]
    ·simp (maxSteps := 4000000) (disch := first | omega | exact ok_of (by kernel_rfl) | decide) only [bA.u,seval,cut,if_pos,if_neg,m135b0,V87,O87,R87,K87,hle,hil,e1,e2,x1,x2]
  ·obtain ⟨b',hb'⟩ : ∃ b',b' = m135b0 := ⟨_,rfl⟩
   rw [RunL_eq,show Item.lp m135k0 m135b0 = Item.lp m135k0 b' by rw [hb']]
   cases x1 : decide (2 ≤ l.length)
   ·simp (maxSteps := 4000000) (disch := first | omega | exact ok_of (by kernel_rfl) | decide) only [bA.u,seval,cut,if_pos,if_neg,m135b0,V87,O87,R87,K87,hle,hil,e1,e2,x1]
   ·cases x2 : decide (l.length ≤ 20)
    ·simp (maxSteps := 4000000) (disch := first | omega | exact ok_of (by kernel_rfl) | decide) only [bA.u,seval,cut,if_pos,if_neg,m135b0,V87,O87,R87,K87,hle,hil,e1,e2,x1,x2]
    ·simp (maxSteps := 4000000) (disch := first | omega | exact ok_of (by kernel_rfl) | decide) only [bA.u,seval,cut,if_pos,if_neg,m135b0,V87,O87,R87,K87,hle,hil,e1,e2,x1,x2]
theorem ne46 (x : UInt8) : ((x.toNat : Int) != 46) = !(x == 46) := by rw [bne,eq46]
theorem eq48 (x : UInt8) : ((x.toNat : Int) == 48) = (x == 48) := eq8 x 48
theorem c87_char (a : Nat) (ha : a = 0 ∨ a = 1) (s : List UInt8) (hs : s.length < 1000000) (l : List Int) (f : Int) (i : Nat) (c : UInt8) (hil : i < s.length) (hg : s.getD i 0 = c) (hc : c ≠ 46) :
  fin R87 (RunL Q m135k0 m135b0 K87 ⟨V87 a s l f i,[],O87 a l,2⟩) = if dig c = true then fin R87 (RunL Q m135k0 m135b0 K87 ⟨V87 0 s l f (i + 1 : Nat),[],O87 0 l,2⟩) else some bad87 := by
  have hle : decide ((i : Int) ≤ (s.length : Int)) = true := by simp; omega
  have hlt : decide ((i : Int) < (s.length : Int)) = true := by simp; omega
  have i0 : (0 : Int) ≤ (i : Int) := by omega
  have i1 : (i : Int) < (s.length : Int) := by omega
  have e : ((i : Int) + 1) = ((i + 1 : Nat) : Int) := by omega
  have h5 : (c == 46) = false := by rw [beq_eq_false_iff_ne]; exact hc
  obtain ⟨rhs,hr⟩ : ∃ z,z = fin R87 (RunL Q m135k0 m135b0 K87 ⟨V87 0 s l f (i + 1 : Nat),[],O87 0 l,2⟩) := ⟨_,rfl⟩
  rw [← hr]
  have k1 : decide ((c.toNat : Int) < 48) = !decide (48 ≤ c.toNat) := by rw [Bool.eq_iff_iff]; simp; omega
  have k2 : decide (57 < (c.toNat : Int)) = !decide (c.toNat ≤ 57) := by rw [Bool.eq_iff_iff]; simp; omega
  unfold dig
  rcases ha with rfl | rfl
  ·obtain ⟨b',hb'⟩ : ∃ b',b' = m135b0 := ⟨_,rfl⟩
   rw [RunL_eq,show Item.lp m135k0 m135b0 = Item.lp m135k0 b' by rw [hb']]
   cases y1 : decide (48 ≤ c.toNat)
   ·rw [if_neg (by simp)]
    simp (maxSteps := 4000000) (disch := first | omega | exact ok_of (by kernel_rfl) | decide) only [bA.u,seval,cut,if_pos,if_neg,m135b0,V87,O87,R87,hle,i0,eq46,ne46,eqc46,eq48,hlt,i1,hg,h5,k1,k2,y1,bad87]
   ·cases y2 : decide (c.toNat ≤ 57)
    ·rw [if_neg (by decide)]
     simp (maxSteps := 4000000) (disch := first | omega | exact ok_of (by kernel_rfl) | decide) only [bA.u,seval,cut,if_pos,if_neg,m135b0,V87,O87,R87,hle,i0,eq46,ne46,eqc46,eq48,hlt,i1,hg,h5,k1,k2,y1,y2,bad87]
    ·rw [if_pos (by decide)]
     simp (maxSteps := 4000000) (disch := first | omega | exact ok_of (by kernel_rfl) | decide) only [bA.u,seval,cut,if_pos,if_neg,m135b0,V87,O87,R87,hle,i0,eq46,ne46,eqc46,eq48,hlt,i1,hg,h5,k1,k2,y1,y2,bad87]
     subst hb'
     refine ((congrArg (fin _) (Run_lp Q _ _ _ _)).trans ?_)
     rw [hr]
     exact congrArg (fin R87) (RunL_canon (canon_cong (Eq.trans (by kernel_rfl) (show [(0,MV.str s),(4,.own 0 l.length),(5,.int .i64 f),(6,.int .i64 ((i : Int) + 1))] = V87 0 s l f (i + 1 : Nat) from by rw [e]; rfl)) (by kernel_rfl) (by kernel_rfl)))
  ·obtain ⟨b',hb'⟩ : ∃ b',b' = m135b0 := ⟨_,rfl⟩
   rw [RunL_eq,show Item.lp m135k0 m135b0 = Item.lp m135k0 b' by rw [hb']]
   cases y1 : decide (48 ≤ c.toNat)
   ·rw [if_neg (by simp)]
    simp (maxSteps := 4000000) (disch := first | omega | exact ok_of (by kernel_rfl) | decide) only [bA.u,seval,cut,if_pos,if_neg,m135b0,V87,O87,R87,hle,i0,eq46,ne46,eqc46,eq48,hlt,i1,hg,h5,k1,k2,y1,bad87]
   ·cases y2 : decide (c.toNat ≤ 57)
    ·rw [if_neg (by decide)]
     simp (maxSteps := 4000000) (disch := first | omega | exact ok_of (by kernel_rfl) | decide) only [bA.u,seval,cut,if_pos,if_neg,m135b0,V87,O87,R87,hle,i0,eq46,ne46,eqc46,eq48,hlt,i1,hg,h5,k1,k2,y1,y2,bad87]
    ·rw [if_pos (by decide)]
     simp (maxSteps := 4000000) (disch := first | omega | exact ok_of (by kernel_rfl) | decide) only [bA.u,seval,cut,if_pos,if_neg,m135b0,V87,O87,R87,hle,i0,eq46,ne46,eqc46,eq48,hlt,i1,hg,h5,k1,k2,y1,y2,bad87]
     subst hb'
     refine ((congrArg (fin _) (Run_lp Q _ _ _ _)).trans ?_)
     rw [hr]
     exact congrArg (fin R87) (RunL_canon (canon_cong (Eq.trans (by kernel_rfl) (show [(0,MV.str s),(4,.own 0 l.length),(5,.int .i64 f),(6,.int .i64 ((i : Int) + 1))] = V87 0 s l f (i + 1 : Nat) from by rw [e]; rfl)) (by kernel_rfl) (by kernel_rfl)))
theorem Oapp87 (l : List Int) (n : Int) : [(0,Obj.el 1 (ints l ++ [.int .i64 n]) false)] = O87 0 (l ++ [n]) := by simp [O87,ints]
theorem Vapp87 (s : List UInt8) (l : List Int) (n f i : Int) : [(0,MV.str s),(4,.own 0 (l.length + 1)),(5,.int .i64 f),(6,.int .i64 i)] = V87 0 s (l ++ [n]) f i := by simp [V87]
theorem c87_dot (a : Nat) (ha : a = 0 ∨ a = 1) (s : List UInt8) (hs : s.length < 1000000) (l : List Int) (hl : l.length ≤ 1000000) (cur rest : List UInt8) (f i : Nat) (hp : s.drop f = cur ++ rest) (hi : i = f + cur.length) (hil : i ≤ s.length) (hcur : cur.all dig = true) (hend : i = s.length ∨ i < s.length ∧ s.getD i 0 = 46) :
  fin R87 (RunL Q m135k0 m135b0 K87 ⟨V87 a s l f i,[],O87 a l,2⟩) = match numR cur with
   | some n=>fin R87 (RunL Q m135k0 m135b0 K87 ⟨V87 0 s (l ++ [n]) (i + 1 : Nat) (i + 1 : Nat),[],O87 0 (l ++ [n]),2⟩)
   | none=>some bad87 := by
  have hle : decide ((i : Int) ≤ (s.length : Int)) = true := by simp; omega
  have i0 : (0 : Int) ≤ (i : Int) := by omega
  have e : ((i : Int) + 1) = ((i + 1 : Nat) : Int) := by omega
  have hint := ints_length l
  have hcap : (l.length + 1) * 8 ≤ 140737488355328 := by omega
  have dot : decide ((i : Int) < (s.length : Int)) = false ∨ decide ((i : Int) < (s.length : Int)) = true ∧ (i : Int) < (s.length : Int) ∧ (s.getD i 0 == 46) = true := by
   rcases hend with h | ⟨h,h2⟩
   ·exact .inl (by simp; omega)
   ·exact .inr ⟨by simp; omega,by omega,by rw [h2]; rfl⟩
  have hc : cut s (some (.int .i64 (f : Int))) (some (.int .i64 (i : Int))) = some cur := by
   simp only [cut]
   rw [if_pos ⟨by omega,by omega,by omega⟩]
   simp only [Int.toNat_natCast]
   rw [hp,show i - f = cur.length by omega,List.take_left]
  unfold numR okLab
  cases q1 : decide (1 ≤ cur.length)
  ·have z0 : ((cur.length : Int) == 0) = true := by simp at q1; rw [q1]; rfl
   rw [Bool.false_and,Bool.false_and,if_neg (by decide)]
   show _ = some bad87
   rcases ha with rfl | rfl <;> rcases dot with h3 | ⟨h3,h4,h5⟩
   ·obtain ⟨b',hb'⟩ : ∃ b',b' = m135b0 := ⟨_,rfl⟩
    rw [RunL_eq,show Item.lp m135k0 m135b0 = Item.lp m135k0 b' by rw [hb']]
    simp (maxSteps := 4000000) (disch := first | omega | exact ok_of (by kernel_rfl) | decide) only [bA.u,seval,if_pos,if_neg,m135b0,V87,O87,R87,hle,i0,eq46,ne46,eqc46,eq48,h3,hc,bad87,z0]
   ·obtain ⟨b',hb'⟩ : ∃ b',b' = m135b0 := ⟨_,rfl⟩
    rw [RunL_eq,show Item.lp m135k0 m135b0 = Item.lp m135k0 b' by rw [hb']]
    simp (maxSteps := 4000000) (disch := first | omega | exact ok_of (by kernel_rfl) | decide) only [bA.u,seval,if_pos,if_neg,m135b0,V87,O87,R87,hle,i0,eq46,ne46,eqc46,eq48,h3,h4,h5,hc,bad87,z0]
   ·obtain ⟨b',hb'⟩ : ∃ b',b' = m135b0 := ⟨_,rfl⟩
    rw [RunL_eq,show Item.lp m135k0 m135b0 = Item.lp m135k0 b' by rw [hb']]
    simp (maxSteps := 4000000) (disch := first | omega | exact ok_of (by kernel_rfl) | decide) only [bA.u,seval,if_pos,if_neg,m135b0,V87,O87,R87,hle,i0,eq46,ne46,eqc46,eq48,h3,hc,bad87,z0]
   ·obtain ⟨b',hb'⟩ : ∃ b',b' = m135b0 := ⟨_,rfl⟩
    rw [RunL_eq,show Item.lp m135k0 m135b0 = Item.lp m135k0 b' by rw [hb']]
    simp (maxSteps := 4000000) (disch := first | omega | exact ok_of (by kernel_rfl) | decide) only [bA.u,seval,if_pos,if_neg,m135b0,V87,O87,R87,hle,i0,eq46,ne46,eqc46,eq48,h3,h4,h5,hc,bad87,z0]
  have z0 : ((cur.length : Int) == 0) = false := by simp at q1; rw [beq_eq_false_iff_ne]; omega
  have z1 : (0 : Int) < (cur.length : Int) := by simp at q1; omega
  cases q2 : decide (cur.length ≤ 13)
  ·have z2 : decide ((13 : Int) < (cur.length : Int)) = true := by simp at q2; simp; omega
   rw [Bool.and_false,Bool.false_and,if_neg (by decide)]
   show _ = some bad87
   rcases ha with rfl | rfl <;> rcases dot with h3 | ⟨h3,h4,h5⟩
   ·obtain ⟨b',hb'⟩ : ∃ b',b' = m135b0 := ⟨_,rfl⟩
    rw [RunL_eq,show Item.lp m135k0 m135b0 = Item.lp m135k0 b' by rw [hb']]
    simp (maxSteps := 4000000) (disch := first | omega | exact ok_of (by kernel_rfl) | decide) only [bA.u,seval,if_pos,if_neg,m135b0,V87,O87,R87,hle,i0,eq46,ne46,eqc46,eq48,h3,hc,bad87,z0,z2]
   ·obtain ⟨b',hb'⟩ : ∃ b',b' = m135b0 := ⟨_,rfl⟩
    rw [RunL_eq,show Item.lp m135k0 m135b0 = Item.lp m135k0 b' by rw [hb']]
    simp (maxSteps := 4000000) (disch := first | omega | exact ok_of (by kernel_rfl) | decide) only [bA.u,seval,if_pos,if_neg,m135b0,V87,O87,R87,hle,i0,eq46,ne46,eqc46,eq48,h3,h4,h5,hc,bad87,z0,z2]
   ·obtain ⟨b',hb'⟩ : ∃ b',b' = m135b0 := ⟨_,rfl⟩
    rw [RunL_eq,show Item.lp m135k0 m135b0 = Item.lp m135k0 b' by rw [hb']]
    simp (maxSteps := 4000000) (disch := first | omega | exact ok_of (by kernel_rfl) | decide) only [bA.u,seval,if_pos,if_neg,m135b0,V87,O87,R87,hle,i0,eq46,ne46,eqc46,eq48,h3,hc,bad87,z0,z2]
   ·obtain ⟨b',hb'⟩ : ∃ b',b' = m135b0 := ⟨_,rfl⟩
    rw [RunL_eq,show Item.lp m135k0 m135b0 = Item.lp m135k0 b' by rw [hb']]
    simp (maxSteps := 4000000) (disch := first | omega | exact ok_of (by kernel_rfl) | decide) only [bA.u,seval,if_pos,if_neg,m135b0,V87,O87,R87,hle,i0,eq46,ne46,eqc46,eq48,h3,h4,h5,hc,bad87,z0,z2]
  have z2 : decide ((13 : Int) < (cur.length : Int)) = false := by simp at q2; simp; omega
  have z3 : decide ((1 : Int) < (cur.length : Int)) = decide (1 < cur.length) := by rw [Bool.eq_iff_iff]; simp; omega
  cases q4 : (decide (1 < cur.length) && cur.getD 0 0 == 48)
  case true =>
   simp only [Bool.and_eq_true] at q4
   have q5 := q4.1
   have q6 := q4.2
   rw [if_neg (by decide)]
   show _ = some bad87
   rcases ha with rfl | rfl <;> rcases dot with h3 | ⟨h3,h4,h5⟩
   ·obtain ⟨b',hb'⟩ : ∃ b',b' = m135b0 := ⟨_,rfl⟩
    rw [RunL_eq,show Item.lp m135k0 m135b0 = Item.lp m135k0 b' by rw [hb']]
    simp (maxSteps := 4000000) (disch := first | omega | exact ok_of (by kernel_rfl) | decide) only [bA.u,seval,if_pos,if_neg,m135b0,V87,O87,R87,hle,i0,eq46,ne46,eqc46,eq48,h3,hc,bad87,z0,z1,z2,z3,q5,q6]
   ·obtain ⟨b',hb'⟩ : ∃ b',b' = m135b0 := ⟨_,rfl⟩
    rw [RunL_eq,show Item.lp m135k0 m135b0 = Item.lp m135k0 b' by rw [hb']]
    simp (maxSteps := 4000000) (disch := first | omega | exact ok_of (by kernel_rfl) | decide) only [bA.u,seval,if_pos,if_neg,m135b0,V87,O87,R87,hle,i0,eq46,ne46,eqc46,eq48,h3,h4,h5,hc,bad87,z0,z1,z2,z3,q5,q6]
   ·obtain ⟨b',hb'⟩ : ∃ b',b' = m135b0 := ⟨_,rfl⟩
    rw [RunL_eq,show Item.lp m135k0 m135b0 = Item.lp m135k0 b' by rw [hb']]
    simp (maxSteps := 4000000) (disch := first | omega | exact ok_of (by kernel_rfl) | decide) only [bA.u,seval,if_pos,if_neg,m135b0,V87,O87,R87,hle,i0,eq46,ne46,eqc46,eq48,h3,hc,bad87,z0,z1,z2,z3,q5,q6]
   ·obtain ⟨b',hb'⟩ : ∃ b',b' = m135b0 := ⟨_,rfl⟩
    rw [RunL_eq,show Item.lp m135k0 m135b0 = Item.lp m135k0 b' by rw [hb']]
    simp (maxSteps := 4000000) (disch := first | omega | exact ok_of (by kernel_rfl) | decide) only [bA.u,seval,if_pos,if_neg,m135b0,V87,O87,R87,hle,i0,eq46,ne46,eqc46,eq48,h3,h4,h5,hc,bad87,z0,z1,z2,z3,q5,q6]
  case false =>
   rw [if_pos (by decide)]
   have hlen13 : cur.length ≤ 13 := by simpa using q2
   have q7 : decide (1 < cur.length) = false ∨ decide (1 < cur.length) = true ∧ (cur.getD 0 0 == 48) = false := by
    rcases Bool.and_eq_false_iff.1 q4 with h | h
    ·exact .inl h
    ·cases hx : decide (1 < cur.length)
     ·exact .inl rfl
     ·exact .inr ⟨rfl,h⟩
   have hv := c87_val s l (i : Int) cur hlen13
   have hpow : (0 + 1) * 10 ^ cur.length ≤ 10000000000000 := by
    have : 10 ^ cur.length ≤ 10 ^ 13 := Nat.pow_le_pow_right (by decide) hlen13
    rw [Nat.zero_add,Nat.one_mul]
    exact this
   obtain ⟨rhs,hr⟩ : ∃ z,z = (match (if val 0 cur < 1099511627776 then some (val 0 cur : Int) else none : Option Int) with
    | some n=>fin R87 (RunL Q m135k0 m135b0 K87 ⟨V87 0 s (l ++ [n]) (i + 1 : Nat) (i + 1 : Nat),[],O87 0 (l ++ [n]),2⟩)
    | none=>some bad87) := ⟨_,rfl⟩
   refine Eq.trans ?_ hr
   rcases ha with rfl | rfl <;> rcases dot with h3 | ⟨h3,h4,h5⟩ <;> rcases q7 with q8 | ⟨q8,q9⟩
   ·obtain ⟨b',hb'⟩ : ∃ b',b' = m135b0 := ⟨_,rfl⟩
    rw [RunL_eq,show Item.lp m135k0 m135b0 = Item.lp m135k0 b' by rw [hb']]
    simp (maxSteps := 4000000) (disch := first | omega | exact ok_of (by kernel_rfl) | decide) only [bA.u,seval,if_pos,if_neg,m135b0,V87,O87,R87,hle,i0,eq46,ne46,eqc46,eq48,h3,Run_loop,hc,z0,z1,z2,z3,q8]
    refine (congrArg (fin _) (RunL_canon (canon_cong (V := W87 s l i cur (0 : Nat) (0 : Nat)) (O := O87 0 l) (nx := 2) (by kernel_rfl) (by kernel_rfl) (by kernel_rfl)))).trans ?_
    rw [hv _ cur 0 0 rfl (by omega) hcur hpow,hr]
    by_cases hv2 : val 0 cur < 1099511627776
    ·have d1 : decide ((1099511627776 : Int) ≤ (val 0 cur : Int)) = false := by simp; omega
     rw [if_pos hv2]
     obtain ⟨rh2,hr2⟩ : ∃ z,z = fin R87 (RunL Q m135k0 m135b0 K87 ⟨V87 0 s (l ++ [(val 0 cur : Int)]) (i + 1 : Nat) (i + 1 : Nat),[],O87 0 (l ++ [(val 0 cur : Int)]),2⟩) := ⟨_,rfl⟩
     show _ = fin R87 (RunL Q m135k0 m135b0 K87 ⟨V87 0 s (l ++ [(val 0 cur : Int)]) (i + 1 : Nat) (i + 1 : Nat),[],O87 0 (l ++ [(val 0 cur : Int)]),2⟩)
     rw [← hr2]
     simp (maxSteps := 4000000) (disch := first | omega | exact ok_of (by kernel_rfl) | decide) only [bA.u,seval,cut,if_pos,if_neg,W87,O87,R87,bad87,d1,hint,hcap,List.set]
     subst hb'
     refine ((congrArg (fin _) (Run_lp Q _ _ _ _)).trans ?_)
     rw [hr2]
     exact congrArg (fin R87) (RunL_canon (canon_cong (Eq.trans (by kernel_rfl) (show [(0,MV.str s),(4,.own 0 (l.length + 1)),(5,.int .i64 ((i : Int) + 1)),(6,.int .i64 ((i : Int) + 1))] = V87 0 s (l ++ [(val 0 cur : Int)]) (i + 1 : Nat) (i + 1 : Nat) from by rw [e]; exact Vapp87 _ _ _ _ _)) (Eq.trans (by kernel_rfl) (Oapp87 l _)) (by kernel_rfl)))
    ·have d1 : decide ((1099511627776 : Int) ≤ (val 0 cur : Int)) = true := by simp; omega
     rw [if_neg hv2]
     show _ = some bad87
     simp (maxSteps := 4000000) (disch := first | omega | exact ok_of (by kernel_rfl) | decide) only [bA.u,seval,cut,if_pos,if_neg,W87,O87,R87,bad87,d1,hint,hcap,List.set]
   ·obtain ⟨b',hb'⟩ : ∃ b',b' = m135b0 := ⟨_,rfl⟩
    rw [RunL_eq,show Item.lp m135k0 m135b0 = Item.lp m135k0 b' by rw [hb']]
    simp (maxSteps := 4000000) (disch := first | omega | exact ok_of (by kernel_rfl) | decide) only [bA.u,seval,if_pos,if_neg,m135b0,V87,O87,R87,hle,i0,eq46,ne46,eqc46,eq48,h3,q9,Run_loop,hc,z0,z1,z2,z3,q8]
    refine (congrArg (fin _) (RunL_canon (canon_cong (V := W87 s l i cur (0 : Nat) (0 : Nat)) (O := O87 0 l) (nx := 2) (by kernel_rfl) (by kernel_rfl) (by kernel_rfl)))).trans ?_
    rw [hv _ cur 0 0 rfl (by omega) hcur hpow,hr]
    by_cases hv2 : val 0 cur < 1099511627776
    ·have d1 : decide ((1099511627776 : Int) ≤ (val 0 cur : Int)) = false := by simp; omega
     rw [if_pos hv2]
     obtain ⟨rh2,hr2⟩ : ∃ z,z = fin R87 (RunL Q m135k0 m135b0 K87 ⟨V87 0 s (l ++ [(val 0 cur : Int)]) (i + 1 : Nat) (i + 1 : Nat),[],O87 0 (l ++ [(val 0 cur : Int)]),2⟩) := ⟨_,rfl⟩
     show _ = fin R87 (RunL Q m135k0 m135b0 K87 ⟨V87 0 s (l ++ [(val 0 cur : Int)]) (i + 1 : Nat) (i + 1 : Nat),[],O87 0 (l ++ [(val 0 cur : Int)]),2⟩)
     rw [← hr2]
     simp (maxSteps := 4000000) (disch := first | omega | exact ok_of (by kernel_rfl) | decide) only [bA.u,seval,cut,if_pos,if_neg,W87,O87,R87,bad87,d1,hint,hcap,List.set]
     subst hb'
     refine ((congrArg (fin _) (Run_lp Q _ _ _ _)).trans ?_)
     rw [hr2]
     exact congrArg (fin R87) (RunL_canon (canon_cong (Eq.trans (by kernel_rfl) (show [(0,MV.str s),(4,.own 0 (l.length + 1)),(5,.int .i64 ((i : Int) + 1)),(6,.int .i64 ((i : Int) + 1))] = V87 0 s (l ++ [(val 0 cur : Int)]) (i + 1 : Nat) (i + 1 : Nat) from by rw [e]; exact Vapp87 _ _ _ _ _)) (Eq.trans (by kernel_rfl) (Oapp87 l _)) (by kernel_rfl)))
    ·have d1 : decide ((1099511627776 : Int) ≤ (val 0 cur : Int)) = true := by simp; omega
     rw [if_neg hv2]
     show _ = some bad87
     simp (maxSteps := 4000000) (disch := first | omega | exact ok_of (by kernel_rfl) | decide) only [bA.u,seval,cut,if_pos,if_neg,W87,O87,R87,bad87,d1,hint,hcap,List.set]
   ·obtain ⟨b',hb'⟩ : ∃ b',b' = m135b0 := ⟨_,rfl⟩
    rw [RunL_eq,show Item.lp m135k0 m135b0 = Item.lp m135k0 b' by rw [hb']]
    simp (maxSteps := 4000000) (disch := first | omega | exact ok_of (by kernel_rfl) | decide) only [bA.u,seval,if_pos,if_neg,m135b0,V87,O87,R87,hle,i0,eq46,ne46,eqc46,eq48,h3,h4,h5,Run_loop,hc,z0,z1,z2,z3,q8]
    refine (congrArg (fin _) (RunL_canon (canon_cong (V := W87 s l i cur (0 : Nat) (0 : Nat)) (O := O87 0 l) (nx := 2) (by kernel_rfl) (by kernel_rfl) (by kernel_rfl)))).trans ?_
    rw [hv _ cur 0 0 rfl (by omega) hcur hpow,hr]
    by_cases hv2 : val 0 cur < 1099511627776
    ·have d1 : decide ((1099511627776 : Int) ≤ (val 0 cur : Int)) = false := by simp; omega
     rw [if_pos hv2]
     obtain ⟨rh2,hr2⟩ : ∃ z,z = fin R87 (RunL Q m135k0 m135b0 K87 ⟨V87 0 s (l ++ [(val 0 cur : Int)]) (i + 1 : Nat) (i + 1 : Nat),[],O87 0 (l ++ [(val 0 cur : Int)]),2⟩) := ⟨_,rfl⟩
     show _ = fin R87 (RunL Q m135k0 m135b0 K87 ⟨V87 0 s (l ++ [(val 0 cur : Int)]) (i + 1 : Nat) (i + 1 : Nat),[],O87 0 (l ++ [(val 0 cur : Int)]),2⟩)
     rw [← hr2]
     simp (maxSteps := 4000000) (disch := first | omega | exact ok_of (by kernel_rfl) | decide) only [bA.u,seval,cut,if_pos,if_neg,W87,O87,R87,bad87,d1,hint,hcap,List.set]
     subst hb'
     refine ((congrArg (fin _) (Run_lp Q _ _ _ _)).trans ?_)
     rw [hr2]
     exact congrArg (fin R87) (RunL_canon (canon_cong (Eq.trans (by kernel_rfl) (show [(0,MV.str s),(4,.own 0 (l.length + 1)),(5,.int .i64 ((i : Int) + 1)),(6,.int .i64 ((i : Int) + 1))] = V87 0 s (l ++ [(val 0 cur : Int)]) (i + 1 : Nat) (i + 1 : Nat) from by rw [e]; exact Vapp87 _ _ _ _ _)) (Eq.trans (by kernel_rfl) (Oapp87 l _)) (by kernel_rfl)))
    ·have d1 : decide ((1099511627776 : Int) ≤ (val 0 cur : Int)) = true := by simp; omega
     rw [if_neg hv2]
     show _ = some bad87
     simp (maxSteps := 4000000) (disch := first | omega | exact ok_of (by kernel_rfl) | decide) only [bA.u,seval,cut,if_pos,if_neg,W87,O87,R87,bad87,d1,hint,hcap,List.set]
   ·obtain ⟨b',hb'⟩ : ∃ b',b' = m135b0 := ⟨_,rfl⟩
    rw [RunL_eq,show Item.lp m135k0 m135b0 = Item.lp m135k0 b' by rw [hb']]
    simp (maxSteps := 4000000) (disch := first | omega | exact ok_of (by kernel_rfl) | decide) only [bA.u,seval,if_pos,if_neg,m135b0,V87,O87,R87,hle,i0,eq46,ne46,eqc46,eq48,h3,h4,h5,q9,Run_loop,hc,z0,z1,z2,z3,q8]
    refine (congrArg (fin _) (RunL_canon (canon_cong (V := W87 s l i cur (0 : Nat) (0 : Nat)) (O := O87 0 l) (nx := 2) (by kernel_rfl) (by kernel_rfl) (by kernel_rfl)))).trans ?_
    rw [hv _ cur 0 0 rfl (by omega) hcur hpow,hr]
    by_cases hv2 : val 0 cur < 1099511627776
    ·have d1 : decide ((1099511627776 : Int) ≤ (val 0 cur : Int)) = false := by simp; omega
     rw [if_pos hv2]
     obtain ⟨rh2,hr2⟩ : ∃ z,z = fin R87 (RunL Q m135k0 m135b0 K87 ⟨V87 0 s (l ++ [(val 0 cur : Int)]) (i + 1 : Nat) (i + 1 : Nat),[],O87 0 (l ++ [(val 0 cur : Int)]),2⟩) := ⟨_,rfl⟩
     show _ = fin R87 (RunL Q m135k0 m135b0 K87 ⟨V87 0 s (l ++ [(val 0 cur : Int)]) (i + 1 : Nat) (i + 1 : Nat),[],O87 0 (l ++ [(val 0 cur : Int)]),2⟩)
     rw [← hr2]
     simp (maxSteps := 4000000) (disch := first | omega | exact ok_of (by kernel_rfl) | decide) only [bA.u,seval,cut,if_pos,if_neg,W87,O87,R87,bad87,d1,hint,hcap,List.set]
     subst hb'
     refine ((congrArg (fin _) (Run_lp Q _ _ _ _)).trans ?_)
     rw [hr2]
     exact congrArg (fin R87) (RunL_canon (canon_cong (Eq.trans (by kernel_rfl) (show [(0,MV.str s),(4,.own 0 (l.length + 1)),(5,.int .i64 ((i : Int) + 1)),(6,.int .i64 ((i : Int) + 1))] = V87 0 s (l ++ [(val 0 cur : Int)]) (i + 1 : Nat) (i + 1 : Nat) from by rw [e]; exact Vapp87 _ _ _ _ _)) (Eq.trans (by kernel_rfl) (Oapp87 l _)) (by kernel_rfl)))
    ·have d1 : decide ((1099511627776 : Int) ≤ (val 0 cur : Int)) = true := by simp; omega
     rw [if_neg hv2]
     show _ = some bad87
     simp (maxSteps := 4000000) (disch := first | omega | exact ok_of (by kernel_rfl) | decide) only [bA.u,seval,cut,if_pos,if_neg,W87,O87,R87,bad87,d1,hint,hcap,List.set]
   ·obtain ⟨b',hb'⟩ : ∃ b',b' = m135b0 := ⟨_,rfl⟩
    rw [RunL_eq,show Item.lp m135k0 m135b0 = Item.lp m135k0 b' by rw [hb']]
    simp (maxSteps := 4000000) (disch := first | omega | exact ok_of (by kernel_rfl) | decide) only [bA.u,seval,if_pos,if_neg,m135b0,V87,O87,R87,hle,i0,eq46,ne46,eqc46,eq48,h3,Run_loop,hc,z0,z1,z2,z3,q8]
    refine (congrArg (fin _) (RunL_canon (canon_cong (V := W87 s l i cur (0 : Nat) (0 : Nat)) (O := O87 0 l) (nx := 2) (by kernel_rfl) (by kernel_rfl) (by kernel_rfl)))).trans ?_
    rw [hv _ cur 0 0 rfl (by omega) hcur hpow,hr]
    by_cases hv2 : val 0 cur < 1099511627776
    ·have d1 : decide ((1099511627776 : Int) ≤ (val 0 cur : Int)) = false := by simp; omega
     rw [if_pos hv2]
     obtain ⟨rh2,hr2⟩ : ∃ z,z = fin R87 (RunL Q m135k0 m135b0 K87 ⟨V87 0 s (l ++ [(val 0 cur : Int)]) (i + 1 : Nat) (i + 1 : Nat),[],O87 0 (l ++ [(val 0 cur : Int)]),2⟩) := ⟨_,rfl⟩
     show _ = fin R87 (RunL Q m135k0 m135b0 K87 ⟨V87 0 s (l ++ [(val 0 cur : Int)]) (i + 1 : Nat) (i + 1 : Nat),[],O87 0 (l ++ [(val 0 cur : Int)]),2⟩)
     rw [← hr2]
     simp (maxSteps := 4000000) (disch := first | omega | exact ok_of (by kernel_rfl) | decide) only [bA.u,seval,cut,if_pos,if_neg,W87,O87,R87,bad87,d1,hint,hcap,List.set]
     subst hb'
     refine ((congrArg (fin _) (Run_lp Q _ _ _ _)).trans ?_)
     rw [hr2]
     exact congrArg (fin R87) (RunL_canon (canon_cong (Eq.trans (by kernel_rfl) (show [(0,MV.str s),(4,.own 0 (l.length + 1)),(5,.int .i64 ((i : Int) + 1)),(6,.int .i64 ((i : Int) + 1))] = V87 0 s (l ++ [(val 0 cur : Int)]) (i + 1 : Nat) (i + 1 : Nat) from by rw [e]; exact Vapp87 _ _ _ _ _)) (Eq.trans (by kernel_rfl) (Oapp87 l _)) (by kernel_rfl)))
    ·have d1 : decide ((1099511627776 : Int) ≤ (val 0 cur : Int)) = true := by simp; omega
     rw [if_neg hv2]
     show _ = some bad87
     simp (maxSteps := 4000000) (disch := first | omega | exact ok_of (by kernel_rfl) | decide) only [bA.u,seval,cut,if_pos,if_neg,W87,O87,R87,bad87,d1,hint,hcap,List.set]
   ·obtain ⟨b',hb'⟩ : ∃ b',b' = m135b0 := ⟨_,rfl⟩
    rw [RunL_eq,show Item.lp m135k0 m135b0 = Item.lp m135k0 b' by rw [hb']]
    simp (maxSteps := 4000000) (disch := first | omega | exact ok_of (by kernel_rfl) | decide) only [bA.u,seval,if_pos,if_neg,m135b0,V87,O87,R87,hle,i0,eq46,ne46,eqc46,eq48,h3,q9,Run_loop,hc,z0,z1,z2,z3,q8]
    refine (congrArg (fin _) (RunL_canon (canon_cong (V := W87 s l i cur (0 : Nat) (0 : Nat)) (O := O87 0 l) (nx := 2) (by kernel_rfl) (by kernel_rfl) (by kernel_rfl)))).trans ?_
    rw [hv _ cur 0 0 rfl (by omega) hcur hpow,hr]
    by_cases hv2 : val 0 cur < 1099511627776
    ·have d1 : decide ((1099511627776 : Int) ≤ (val 0 cur : Int)) = false := by simp; omega
     rw [if_pos hv2]
     obtain ⟨rh2,hr2⟩ : ∃ z,z = fin R87 (RunL Q m135k0 m135b0 K87 ⟨V87 0 s (l ++ [(val 0 cur : Int)]) (i + 1 : Nat) (i + 1 : Nat),[],O87 0 (l ++ [(val 0 cur : Int)]),2⟩) := ⟨_,rfl⟩
     show _ = fin R87 (RunL Q m135k0 m135b0 K87 ⟨V87 0 s (l ++ [(val 0 cur : Int)]) (i + 1 : Nat) (i + 1 : Nat),[],O87 0 (l ++ [(val 0 cur : Int)]),2⟩)
     rw [← hr2]
     simp (maxSteps := 4000000) (disch := first | omega | exact ok_of (by kernel_rfl) | decide) only [bA.u,seval,cut,if_pos,if_neg,W87,O87,R87,bad87,d1,hint,hcap,List.set]
     subst hb'
     refine ((congrArg (fin _) (Run_lp Q _ _ _ _)).trans ?_)
     rw [hr2]
     exact congrArg (fin R87) (RunL_canon (canon_cong (Eq.trans (by kernel_rfl) (show [(0,MV.str s),(4,.own 0 (l.length + 1)),(5,.int .i64 ((i : Int) + 1)),(6,.int .i64 ((i : Int) + 1))] = V87 0 s (l ++ [(val 0 cur : Int)]) (i + 1 : Nat) (i + 1 : Nat) from by rw [e]; exact Vapp87 _ _ _ _ _)) (Eq.trans (by kernel_rfl) (Oapp87 l _)) (by kernel_rfl)))
    ·have d1 : decide ((1099511627776 : Int) ≤ (val 0 cur : Int)) = true := by simp; omega
     rw [if_neg hv2]
     show _ = some bad87
     simp (maxSteps := 4000000) (disch := first | omega | exact ok_of (by kernel_rfl) | decide) only [bA.u,seval,cut,if_pos,if_neg,W87,O87,R87,bad87,d1,hint,hcap,List.set]
   ·obtain ⟨b',hb'⟩ : ∃ b',b' = m135b0 := ⟨_,rfl⟩
    rw [RunL_eq,show Item.lp m135k0 m135b0 = Item.lp m135k0 b' by rw [hb']]
    simp (maxSteps := 4000000) (disch := first | omega | exact ok_of (by kernel_rfl) | decide) only [bA.u,seval,if_pos,if_neg,m135b0,V87,O87,R87,hle,i0,eq46,ne46,eqc46,eq48,h3,h4,h5,Run_loop,hc,z0,z1,z2,z3,q8]
    refine (congrArg (fin _) (RunL_canon (canon_cong (V := W87 s l i cur (0 : Nat) (0 : Nat)) (O := O87 0 l) (nx := 2) (by kernel_rfl) (by kernel_rfl) (by kernel_rfl)))).trans ?_
    rw [hv _ cur 0 0 rfl (by omega) hcur hpow,hr]
    by_cases hv2 : val 0 cur < 1099511627776
    ·have d1 : decide ((1099511627776 : Int) ≤ (val 0 cur : Int)) = false := by simp; omega
     rw [if_pos hv2]
     obtain ⟨rh2,hr2⟩ : ∃ z,z = fin R87 (RunL Q m135k0 m135b0 K87 ⟨V87 0 s (l ++ [(val 0 cur : Int)]) (i + 1 : Nat) (i + 1 : Nat),[],O87 0 (l ++ [(val 0 cur : Int)]),2⟩) := ⟨_,rfl⟩
     show _ = fin R87 (RunL Q m135k0 m135b0 K87 ⟨V87 0 s (l ++ [(val 0 cur : Int)]) (i + 1 : Nat) (i + 1 : Nat),[],O87 0 (l ++ [(val 0 cur : Int)]),2⟩)
     rw [← hr2]
     simp (maxSteps := 4000000) (disch := first | omega | exact ok_of (by kernel_rfl) | decide) only [bA.u,seval,cut,if_pos,if_neg,W87,O87,R87,bad87,d1,hint,hcap,List.set]
     subst hb'
     refine ((congrArg (fin _) (Run_lp Q _ _ _ _)).trans ?_)
     rw [hr2]
     exact congrArg (fin R87) (RunL_canon (canon_cong (Eq.trans (by kernel_rfl) (show [(0,MV.str s),(4,.own 0 (l.length + 1)),(5,.int .i64 ((i : Int) + 1)),(6,.int .i64 ((i : Int) + 1))] = V87 0 s (l ++ [(val 0 cur : Int)]) (i + 1 : Nat) (i + 1 : Nat) from by rw [e]; exact Vapp87 _ _ _ _ _)) (Eq.trans (by kernel_rfl) (Oapp87 l _)) (by kernel_rfl)))
    ·have d1 : decide ((1099511627776 : Int) ≤ (val 0 cur : Int)) = true := by simp; omega
     rw [if_neg hv2]
     show _ = some bad87
     simp (maxSteps := 4000000) (disch := first | omega | exact ok_of (by kernel_rfl) | decide) only [bA.u,seval,cut,if_pos,if_neg,W87,O87,R87,bad87,d1,hint,hcap,List.set]
   ·obtain ⟨b',hb'⟩ : ∃ b',b' = m135b0 := ⟨_,rfl⟩
    rw [RunL_eq,show Item.lp m135k0 m135b0 = Item.lp m135k0 b' by rw [hb']]
    simp (maxSteps := 4000000) (disch := first | omega | exact ok_of (by kernel_rfl) | decide) only [bA.u,seval,if_pos,if_neg,m135b0,V87,O87,R87,hle,i0,eq46,ne46,eqc46,eq48,h3,h4,h5,q9,Run_loop,hc,z0,z1,z2,z3,q8]
    refine (congrArg (fin _) (RunL_canon (canon_cong (V := W87 s l i cur (0 : Nat) (0 : Nat)) (O := O87 0 l) (nx := 2) (by kernel_rfl) (by kernel_rfl) (by kernel_rfl)))).trans ?_
    rw [hv _ cur 0 0 rfl (by omega) hcur hpow,hr]
    by_cases hv2 : val 0 cur < 1099511627776
    ·have d1 : decide ((1099511627776 : Int) ≤ (val 0 cur : Int)) = false := by simp; omega
     rw [if_pos hv2]
     obtain ⟨rh2,hr2⟩ : ∃ z,z = fin R87 (RunL Q m135k0 m135b0 K87 ⟨V87 0 s (l ++ [(val 0 cur : Int)]) (i + 1 : Nat) (i + 1 : Nat),[],O87 0 (l ++ [(val 0 cur : Int)]),2⟩) := ⟨_,rfl⟩
     show _ = fin R87 (RunL Q m135k0 m135b0 K87 ⟨V87 0 s (l ++ [(val 0 cur : Int)]) (i + 1 : Nat) (i + 1 : Nat),[],O87 0 (l ++ [(val 0 cur : Int)]),2⟩)
     rw [← hr2]
     simp (maxSteps := 4000000) (disch := first | omega | exact ok_of (by kernel_rfl) | decide) only [bA.u,seval,cut,if_pos,if_neg,W87,O87,R87,bad87,d1,hint,hcap,List.set]
     subst hb'
     refine ((congrArg (fin _) (Run_lp Q _ _ _ _)).trans ?_)
     rw [hr2]
     exact congrArg (fin R87) (RunL_canon (canon_cong (Eq.trans (by kernel_rfl) (show [(0,MV.str s),(4,.own 0 (l.length + 1)),(5,.int .i64 ((i : Int) + 1)),(6,.int .i64 ((i : Int) + 1))] = V87 0 s (l ++ [(val 0 cur : Int)]) (i + 1 : Nat) (i + 1 : Nat) from by rw [e]; exact Vapp87 _ _ _ _ _)) (Eq.trans (by kernel_rfl) (Oapp87 l _)) (by kernel_rfl)))
    ·have d1 : decide ((1099511627776 : Int) ≤ (val 0 cur : Int)) = true := by simp; omega
     rw [if_neg hv2]
     show _ = some bad87
     simp (maxSteps := 4000000) (disch := first | omega | exact ok_of (by kernel_rfl) | decide) only [bA.u,seval,cut,if_pos,if_neg,W87,O87,R87,bad87,d1,hint,hcap,List.set]
theorem c87_loop (s : List UInt8) (hs : s.length < 1000000) : ∀ (rest cur : List UInt8) (a : Nat) (l : List Int) (f i : Nat),(a = 0 ∨ a = 1)→s.drop f = cur ++ rest→i = f + cur.length→i + rest.length = s.length→l.length ≤ i→cur.all dig = true →
  fin R87 (RunL Q m135k0 m135b0 K87 ⟨V87 a s l f i,[],O87 a l,2⟩) = some (match numsC cur rest with | none=>bad87 | some l2=>good87 (l ++ l2))
 | [],cur,a,l,f,i,ha,hp,hi,hl,hli,hd=>by
  have hl' : i = s.length := by simpa using hl
  rw [c87_dot a ha s hs l (by omega) cur [] f i hp hi (by omega) hd (.inl hl')]
  unfold numsC
  cases hn : numR cur with
  | none=>rfl
  | some n =>
   have := c87_past 0 (.inl rfl) s hs (l ++ [n]) (s.length + 1 : Nat)
   rw [hl']
   exact this
 | c :: rest,cur,a,l,f,i,ha,hp,hi,hl,hli,hd=>by
  simp only [List.length_cons] at hl
  have hg : s[i]? = some c := by
   have := congrArg (·[cur.length]?) hp
   simp only [List.getElem?_drop] at this
   rw [hi,this,List.getElem?_append_right (Nat.le_refl _),Nat.sub_self]
   all_goals rfl
  have hg' : s.getD i 0 = c := by rw [List.getD_eq_getElem?_getD,hg]; rfl
  unfold numsC
  by_cases hc : c = 46
  ·subst hc
   rw [c87_dot a ha s hs l (by omega) cur _ f i hp hi (by omega) hd (.inr ⟨by omega,hg'⟩),if_pos rfl]
   cases hn : numR cur with
   | none=>rfl
   | some n =>
    have hdr : s.drop (i + 1) = [] ++ rest := by
     have := congrArg (List.drop (cur.length + 1)) hp
     rw [List.drop_drop] at this
     rw [show i + 1 = f + (cur.length + 1) by omega,this]
     simp
    have ih := c87_loop s hs rest [] 0 (l ++ [n]) (i + 1) (i + 1) (.inl rfl) hdr rfl (by omega) (by simp; omega) rfl
    refine ih.trans ?_
    cases numsC [] rest with
    | none=>rfl
    | some l2=>simp
  ·rw [c87_char a ha s hs l f i c (by omega) hg' hc,if_neg hc]
   cases hk : dig c
   ·rfl
   ·rw [if_pos rfl,if_pos rfl]
    exact c87_loop s hs rest (cur ++ [c]) 0 l f (i + 1) (.inl rfl) (by rw [hp]; simp) (by simp; omega) (by omega) (by omega) (by simp [hd,hk])
def ans87 (s : List UInt8) : MV := match numsP (splits s) with | none=>bad87 | some l=>good87 l
theorem c87 (s : List UInt8) (hs : s.length < 1000000) : Call Q 135 [.str s] = some (ans87 s) := by
 have h := c87_loop s hs s [] 1 [] 0 0 (.inr rfl) rfl rfl (by omega) (by simp) rfl
 rw [numsC_nums] at h
 unfold ans87
 rw [Call_fn Q (m := m135) rfl rfl]
 refine Eq.trans ?_ h
 simp (maxSteps := 4000000) (disch := first | omega | exact ok_of (by kernel_rfl) | decide) only [bA.u,seval,cut,if_pos,if_neg,m135,Run_loop]
 exact congrArg (fin R87) (RunL_canon (canon_cong (by kernel_rfl) (by kernel_rfl) (by kernel_rfl)))
end Go.Mini.Nm
namespace Go.Mini.Nm
open Go Go.Mini Go.Proofs.YtaehaajckndejaaGreatDoor
set_option maxRecDepth 100000
set_option maxHeartbeats 4000000
def partF : Nat→Int→List UInt8
 | 0,_=>[]
 | k + 1,n=>if n < 128 then [] else UInt8.ofNat (128 + n / 128 % 128).toNat :: partF k (n / 128)
def topF : Nat→Int→Int
 | 0,n=>n
 | k + 1,n=>if n < 128 then n else topF k (n / 128)
theorem or128 : ∀ m : Fin 128,UInt8.ofNat (128 + m.val) = UInt8.ofNat m.val ||| 128 := by decide
theorem or128_of {x : Int} (h0 : 0 ≤ x) : UInt8.ofNat (128 + x % 128).toNat = UInt8.ofNat (x % 128).toNat ||| 128 := by
 have h1 : 0 ≤ x % 128 := by omega
 obtain ⟨m,hm⟩ := Int.eq_ofNat_of_zero_le h1
 rw [hm]
 have := or128 ⟨m,by omega⟩
 simp only at this
 rw [show (128 + (m : Int)).toNat = 128 + m by omega,show ((m : Nat) : Int).toNat = m by omega]
 exact this
theorem enc_eq (n : Int) (h0 : 0 ≤ n) (h1 : n < 4398046511104) : enc n = (UInt8.ofNat (n % 128).toNat :: partF 6 n).reverse := by
 have o0 := or128_of (x := n / 128) (by omega)
 have o1 := or128_of (x := n / 16384) (by omega)
 have o2 := or128_of (x := n / 2097152) (by omega)
 have o3 := or128_of (x := n / 268435456) (by omega)
 have o4 := or128_of (x := n / 34359738368) (by omega)
 have d1 : n / 128 / 128 = n / 16384 := by omega
 have d2 : n / 16384 / 128 = n / 2097152 := by omega
 have d3 : n / 2097152 / 128 = n / 268435456 := by omega
 have d4 : n / 268435456 / 128 = n / 34359738368 := by omega
 unfold enc
 simp only [encD,part,partF]
 by_cases c1 : n < 128
 ·rw [if_pos c1,if_neg (by omega),if_neg (by omega),if_neg (by omega),if_neg (by omega),if_neg (by omega)]; rfl
 rw [if_neg c1,d1]
 by_cases c2 : n / 128 < 128
 ·rw [if_pos c2,if_neg (by omega),if_neg (by omega),if_neg (by omega),if_neg (by omega),if_pos (by omega),o0]; rfl
 rw [if_neg c2,d2]
 by_cases c3 : n / 16384 < 128
 ·rw [if_pos c3,if_neg (by omega),if_neg (by omega),if_neg (by omega),if_pos (by omega),if_pos (by omega),o0,o1]; rfl
 rw [if_neg c3,d3]
 by_cases c4 : n / 2097152 < 128
 ·rw [if_pos c4,if_neg (by omega),if_neg (by omega),if_pos (by omega),if_pos (by omega),if_pos (by omega),o0,o1,o2]; rfl
 rw [if_neg c4,d4]
 by_cases c5 : n / 268435456 < 128
 ·rw [if_pos c5,if_neg (by omega),if_pos (by omega),if_pos (by omega),if_pos (by omega),if_pos (by omega),o0,o1,o2,o3]; rfl
 rw [if_neg c5,if_pos (by omega),if_pos (by omega),if_pos (by omega),if_pos (by omega),if_pos (by omega),if_pos (by omega),o0,o1,o2,o3,o4]
 all_goals rfl
theorem partF_len : ∀ (k : Nat) (n : Int),(partF k n).length ≤ k
 | 0,n=>Nat.le_refl _
 | k + 1,n=>by
  have := partF_len k (n / 128)
  unfold partF
  split
  ·simp
  ·simp; omega
def R56 : List (Nat × Option (Bool × Nat) × PK) := [(2,some (true,5),.other),(3,none,.other)]
def O4 (L : List Int) (a : Nat) (out : List UInt8) (r : List (Nat × Obj)) : List (Nat × Obj) := (0,.cells zero5) :: (1,.el 1 (ints L) false) :: (a,.byt out false) :: r
def A56 (L : List Int) (a : Nat) (out : List UInt8) (i : Int) : List (Nat × MV) := [(2,.ptr 0 0),(4,.own 1 L.length),(6,.own a out.length),(7,.int .i64 i)]
def B56 (L : List Int) (out : List UInt8) (i : Int) (p : List UInt8) (n : Int) : List (Nat × MV) := [(2,.ptr 0 0),(4,.own 1 L.length),(6,.own 2 out.length),(7,.int .i64 i),(8,.own 3 p.length),(9,.int .i64 n)]
def C56 (L : List Int) (out : List UInt8) (i : Int) (p : List UInt8) (k : Int) : List (Nat × MV) := [(2,.ptr 0 0),(4,.own 1 L.length),(6,.own 2 out.length),(7,.int .i64 i),(8,.own 3 p.length),(10,.int .i64 k)]
theorem by8 {x : Int} (h0 : 0 ≤ x) : IntKind.u8.wrap (128 + x % 128) = (((UInt8.ofNat (128 + x % 128).toNat).toNat : Nat) : Int) := by
 rw [w8 (by omega) (by omega),UInt8.toNat_ofNat']; omega
theorem by8' {x : Int} (h0 : 0 ≤ x) : IntKind.u8.wrap (x % 128) = (((UInt8.ofNat (x % 128).toNat).toNat : Nat) : Int) := by
 rw [w8 (by omega) (by omega),UInt8.toNat_ofNat']; omega
theorem c56_part (L : List Int) (out : List UInt8) (i : Int) (K : List Item) : ∀ (k : Nat) (n : Int) (p : List UInt8),0 ≤ n→n < 128 ^ (k + 1)→n < 562949953421312→p.length + k ≤ 10 →
  RunL Q m92k1 m92b1 (.blk 2 :: K) ⟨B56 L out i p n,[],O4 L 2 out [(3,.byt p false)],5⟩ = Run Q K ⟨(75,.bool false) :: B56 L out i (p ++ partF k n) (topF k n),[],O4 L 2 out [(3,.byt (p ++ partF k n) false)],13⟩
 | 0,n,p,h0,h1,h3,_=>by
  have hge : decide ((128 : Int) ≤ n) = false := by simp; omega
  unfold partF topF
  rw [List.append_nil]
  obtain ⟨b',hb'⟩ : ∃ b',b' = m92b1 := ⟨_,rfl⟩
  rw [RunL_eq,show Item.lp m92k1 m92b1 = Item.lp m92k1 b' by rw [hb']]
  simp (maxSteps := 4000000) (disch := first | omega | exact ok_of (by kernel_rfl) | decide) only [bA.u,seval,cut,if_pos,if_neg,m92b1,B56,O4,hge]
 | k + 1,n,p,h0,h1,h3,hp=>by
  unfold partF topF
  by_cases hn : n < 128
  ·have hge : decide ((128 : Int) ≤ n) = false := by simp; omega
   rw [if_pos hn,if_pos hn,List.append_nil]
   obtain ⟨b',hb'⟩ : ∃ b',b' = m92b1 := ⟨_,rfl⟩
   rw [RunL_eq,show Item.lp m92k1 m92b1 = Item.lp m92k1 b' by rw [hb']]
   simp (maxSteps := 4000000) (disch := first | omega | exact ok_of (by kernel_rfl) | decide) only [bA.u,seval,cut,if_pos,if_neg,m92b1,B56,O4,hge]
  ·have hge : decide ((128 : Int) ≤ n) = true := by simp; omega
   have ih := c56_part L out i K k (n / 128) (p ++ [UInt8.ofNat (128 + n / 128 % 128).toNat]) (by omega) (by rw [Int.pow_succ] at h1; omega) (by omega) (by simp; omega)
   have hcap : p.length + 1 ≤ 2 ^ 47 := by omega
   have e8 := by8 (x := n / 128) (by omega)
   rw [if_neg hn,if_neg hn]
   rw [List.append_assoc,List.cons_append,List.nil_append] at ih
   rw [← ih]
   obtain ⟨rhs,hr⟩ : ∃ z,z = RunL Q m92k1 m92b1 (.blk 2 :: K) ⟨B56 L out i (p ++ [UInt8.ofNat (128 + n / 128 % 128).toNat]) (n / 128),[],O4 L 2 out [(3,.byt (p ++ [UInt8.ofNat (128 + n / 128 % 128).toNat]) false)],5⟩ := ⟨_,rfl⟩
   rw [← hr]
   obtain ⟨b',hb'⟩ : ∃ b',b' = m92b1 := ⟨_,rfl⟩
   rw [RunL_eq,show Item.lp m92k1 m92b1 = Item.lp m92k1 b' by rw [hb']]
   simp (maxSteps := 4000000) (disch := first | omega | exact ok_of (by kernel_rfl) | decide) only [bA.u,seval,cut,if_pos,if_neg,m92b1,B56,O4,hge,hcap,e8]
   subst hb'
   rw [Run_lp,hr]
   have ve : ∀ b : UInt8,[(2,MV.ptr 0 0),(4,.own 1 L.length),(6,.own 2 out.length),(7,.int .i64 i),(8,.own 3 (p.length + 1)),(9,.int .i64 (n / 128))] = B56 L out i (p ++ [b]) (n / 128) := fun b=>by simp [B56]
   exact RunL_canon (canon_cong (Eq.trans (by kernel_rfl) (ve _)) (by kernel_rfl) (by kernel_rfl))
theorem c56_rev (L : List Int) (i : Int) (p : List UInt8) (hp : p.length ≤ 20) (K : List Item) : ∀ (m : Nat) (out : List UInt8),m ≤ p.length→out.length + m ≤ 100000 →
  RunL Q m92k2 m92b2 (.blk 4 :: K) ⟨C56 L out i p ((m : Int) - 1),[],O4 L 2 out [(3,.byt p false)],5⟩ = Run Q K ⟨(89,.bool false) :: C56 L (out ++ (p.take m).reverse) i p (-1),[],O4 L 2 (out ++ (p.take m).reverse) [(3,.byt p false)],13⟩
 | 0,out,_,_=>by
  have hge : decide ((0 : Int) ≤ ((0 : Nat) : Int) - 1) = false := by decide
  have e0 : ((0 : Nat) : Int) - 1 = -1 := rfl
  rw [List.take_zero,List.reverse_nil,List.append_nil,e0]
  obtain ⟨b',hb'⟩ : ∃ b',b' = m92b2 := ⟨_,rfl⟩
  rw [RunL_eq,show Item.lp m92k2 m92b2 = Item.lp m92k2 b' by rw [hb']]
  simp (maxSteps := 4000000) (disch := first | omega | exact ok_of (by kernel_rfl) | decide) only [bA.u,seval,cut,if_pos,if_neg,m92b2,C56,O4,hge]
 | m + 1,out,hm,ho=>by
  have e : ((m + 1 : Nat) : Int) - 1 = (m : Int) := by omega
  have hge : decide ((0 : Int) ≤ (m : Int)) = true := by simp
  have i0 : (0 : Int) ≤ (m : Int) := by omega
  have i1 : (m : Int) < (p.length : Int) := by omega
  obtain ⟨b,hb⟩ : ∃ b,p[m]? = some b := ⟨_,List.getElem?_eq_getElem (by omega)⟩
  have hg' : p.getD m 0 = b := by rw [List.getD_eq_getElem?_getD,hb]; rfl
  have ht : (p.take (m + 1)).reverse = b :: (p.take m).reverse := by rw [List.take_add_one,hb]; simp
  have hcap : out.length + 1 ≤ 2 ^ 47 := by omega
  have ih := c56_rev L i p hp K m (out ++ [b]) (by omega)
  rw [ht,e]
  have ih := ih (by simp; omega)
  rw [List.append_assoc,List.cons_append,List.nil_append] at ih
  rw [← ih]
  obtain ⟨rhs,hr⟩ : ∃ z,z = RunL Q m92k2 m92b2 (.blk 4 :: K) ⟨C56 L (out ++ [b]) i p ((m : Int) - 1),[],O4 L 2 (out ++ [b]) [(3,.byt p false)],5⟩ := ⟨_,rfl⟩
  rw [← hr]
  obtain ⟨b',hb'⟩ : ∃ b',b' = m92b2 := ⟨_,rfl⟩
  rw [RunL_eq,show Item.lp m92k2 m92b2 = Item.lp m92k2 b' by rw [hb']]
  simp (maxSteps := 4000000) (disch := first | omega | exact ok_of (by kernel_rfl) | decide) only [bA.u,seval,cut,if_pos,if_neg,m92b2,C56,O4,hge,i0,i1,hb,hg',hcap]
  subst hb'
  rw [Run_lp,hr]
  have ve : [(2,MV.ptr 0 0),(4,.own 1 L.length),(6,.own 2 (out.length + 1)),(7,.int .i64 i),(8,.own 3 p.length),(10,.int .i64 ((m : Int) - 1))] = C56 L (out ++ [b]) i p ((m : Int) - 1) := by simp [C56]
  exact RunL_canon (canon_cong (Eq.trans (by kernel_rfl) ve) (by kernel_rfl) (by kernel_rfl))
end Go.Mini.Nm
namespace Go.Mini.Nm
open Go Go.Mini Go.Proofs.YtaehaajckndejaaGreatDoor
set_option maxRecDepth 100000
set_option maxHeartbeats 4000000
theorem c56_end (L : List Int) (a : Nat) (ha : a = 2 ∨ a = 3) (out : List UInt8) (K : List Item) : RunL Q m92k0 m92b0 (.blk 0 :: K) ⟨A56 L a out L.length,[],O4 L a out [],4⟩ = Run Q K ⟨(61,.bool false) :: A56 L a out L.length,[],O4 L a out [],20⟩ := by
 have hil := ints_length L
 have hlt : decide ((L.length : Int) < (L.length : Int)) = false := by simp
 rcases ha with rfl | rfl
 ·obtain ⟨b',hb'⟩ : ∃ b',b' = m92b0 := ⟨_,rfl⟩
  rw [RunL_eq,show Item.lp m92k0 m92b0 = Item.lp m92k0 b' by rw [hb']]
  simp (maxSteps := 4000000) (disch := first | omega | exact ok_of (by kernel_rfl) | decide) only [bA.u,seval,cut,if_pos,if_neg,m92b0,A56,O4,hil,hlt]
 ·obtain ⟨b',hb'⟩ : ∃ b',b' = m92b0 := ⟨_,rfl⟩
  rw [RunL_eq,show Item.lp m92k0 m92b0 = Item.lp m92k0 b' by rw [hb']]
  simp (maxSteps := 4000000) (disch := first | omega | exact ok_of (by kernel_rfl) | decide) only [bA.u,seval,cut,if_pos,if_neg,m92b0,A56,O4,hil,hlt]
theorem c56_step (L : List Int) (hL : L.length ≤ 20) (a : Nat) (ha : a = 2 ∨ a = 3) (out : List UInt8) (ho : out.length ≤ 1000) (i : Nat) (n : Int) (hn : L[i]? = some n) (h0 : 0 ≤ n) (h1 : n < 4398046511104) (K : List Item) :
  RunL Q m92k0 m92b0 (.blk 0 :: K) ⟨A56 L a out i,[],O4 L a out [],4⟩ = RunL Q m92k0 m92b0 (.blk 0 :: K) ⟨A56 L 2 (out ++ enc n) (i + 1 : Nat),[],O4 L 2 (out ++ enc n) [],4⟩ := by
 have hil := ints_length L
 have hi : i < L.length := (List.getElem?_eq_some_iff.1 hn).1
 have hlt : decide ((i : Int) < (L.length : Int)) = true := by simp; omega
 have i0 : (0 : Int) ≤ (i : Int) := by omega
 have i1 : (i : Int) < (L.length : Int) := by omega
 have hg : (ints L)[i]? = some (.int .i64 n) := by simp [ints,hn]
 have e : ((i : Int) + 1) = ((i + 1 : Nat) : Int) := by omega
 have e8 := by8' (x := n) h0
 have hp := partF_len 6 n
 have e7 : n < 128 ^ (6 + 1) := by
  have : (128 : Int) ^ (6 + 1) = 562949953421312 := by decide
  omega
 have hpart := fun K'=>c56_part L out (i : Int) K' 6 n [UInt8.ofNat (n % 128).toNat] h0 e7 (by omega) (by simp)
 rw [List.cons_append,List.nil_append] at hpart
 have henc := enc_eq n h0 h1
 generalize UInt8.ofNat (n % 128).toNat = b0 at hpart henc e8
 generalize hpt : partF 6 n = pt at hpart henc hp
 have hrev := fun K'=>c56_rev L (i : Int) (b0 :: pt) (by simp; omega) K' (b0 :: pt).length out (Nat.le_refl _) (by simp; omega)
 rw [List.take_of_length_le (Nat.le_refl _)] at hrev
 rw [henc]
 obtain ⟨rhs,hr⟩ : ∃ z,z = RunL Q m92k0 m92b0 (.blk 0 :: K) ⟨A56 L 2 (out ++ (b0 :: pt).reverse) (i + 1 : Nat),[],O4 L 2 (out ++ (b0 :: pt).reverse) [],4⟩ := ⟨_,rfl⟩
 generalize (b0 :: pt).reverse = rv at hrev hr
 rw [← hr]
 rcases ha with rfl | rfl
 ·obtain ⟨b',hb'⟩ : ∃ b',b' = m92b0 := ⟨_,rfl⟩
  rw [RunL_eq,show Item.lp m92k0 m92b0 = Item.lp m92k0 b' by rw [hb']]
  simp (maxSteps := 4000000) (disch := first | omega | exact ok_of (by kernel_rfl) | decide) only [bA.u,seval,cut,if_pos,if_neg,m92b0,A56,O4,hlt,hil,i0,i1,hg,e8,Run_loop]
  refine (RunL_canon (canon_cong (V := B56 L out i [b0] n) (O := O4 L 2 out [(3,.byt [b0] false)]) (nx := 5) (by kernel_rfl) (by kernel_rfl) (by kernel_rfl))).trans ?_
  rw [hpart]
  simp (maxSteps := 4000000) (disch := first | omega | exact ok_of (by kernel_rfl) | decide) only [bA.u,seval,cut,if_pos,if_neg,B56,Run_loop,O4]
  refine (RunL_canon (canon_cong (V := C56 L out i (b0 :: pt) (((b0 :: pt).length : Nat) - 1 : Int)) (O := O4 L 2 out [(3,.byt (b0 :: pt) false)]) (nx := 5) (by kernel_rfl) (by kernel_rfl) (by kernel_rfl))).trans ?_
  rw [hrev]
  simp (maxSteps := 4000000) (disch := first | omega | exact ok_of (by kernel_rfl) | decide) only [bA.u,seval,cut,if_pos,if_neg,C56,O4]
  subst hb'
  rw [Run_lp,hr]
  exact RunL_canon (canon_cong (Eq.trans (by kernel_rfl) (show [(2,MV.ptr 0 0),(4,.own 1 L.length),(6,.own 2 (out.length + rv.length)),(7,.int .i64 ((i : Int) + 1))] = A56 L 2 (out ++ rv) (i + 1 : Nat) from by rw [e,← List.length_append]; rfl)) (by kernel_rfl) (by kernel_rfl))
 ·obtain ⟨b',hb'⟩ : ∃ b',b' = m92b0 := ⟨_,rfl⟩
  rw [RunL_eq,show Item.lp m92k0 m92b0 = Item.lp m92k0 b' by rw [hb']]
  simp (maxSteps := 4000000) (disch := first | omega | exact ok_of (by kernel_rfl) | decide) only [bA.u,seval,cut,if_pos,if_neg,m92b0,A56,O4,hlt,hil,i0,i1,hg,e8,Run_loop]
  refine (RunL_canon (canon_cong (V := B56 L out i [b0] n) (O := O4 L 2 out [(3,.byt [b0] false)]) (nx := 5) (by kernel_rfl) (by kernel_rfl) (by kernel_rfl))).trans ?_
  rw [hpart]
  simp (maxSteps := 4000000) (disch := first | omega | exact ok_of (by kernel_rfl) | decide) only [bA.u,seval,cut,if_pos,if_neg,B56,Run_loop,O4]
  refine (RunL_canon (canon_cong (V := C56 L out i (b0 :: pt) (((b0 :: pt).length : Nat) - 1 : Int)) (O := O4 L 2 out [(3,.byt (b0 :: pt) false)]) (nx := 5) (by kernel_rfl) (by kernel_rfl) (by kernel_rfl))).trans ?_
  rw [hrev]
  simp (maxSteps := 4000000) (disch := first | omega | exact ok_of (by kernel_rfl) | decide) only [bA.u,seval,cut,if_pos,if_neg,C56,O4]
  subst hb'
  rw [Run_lp,hr]
  exact RunL_canon (canon_cong (Eq.trans (by kernel_rfl) (show [(2,MV.ptr 0 0),(4,.own 1 L.length),(6,.own 2 (out.length + rv.length)),(7,.int .i64 ((i : Int) + 1))] = A56 L 2 (out ++ rv) (i + 1 : Nat) from by rw [e,← List.length_append]; rfl)) (by kernel_rfl) (by kernel_rfl))
theorem c56_loop (L : List Int) (hL : L.length ≤ 20) (hr : ∀ n ∈ L,0 ≤ n ∧ n < 4398046511104) (K : List Item) : ∀ (r : List Int) (a : Nat) (out : List UInt8) (i : Nat),(a = 2 ∨ a = 3)→L.drop i = r→i + r.length = L.length→out.length + 6 * r.length ≤ 200 →
  ∃ a',(a' = 2 ∨ a' = 3) ∧ RunL Q m92k0 m92b0 (.blk 0 :: K) ⟨A56 L a out i,[],O4 L a out [],4⟩ = Run Q K ⟨(61,.bool false) :: A56 L a' (out ++ encs r) L.length,[],O4 L a' (out ++ encs r) [],20⟩
 | [],a,out,i,ha,hd,hi,_=>by
  have hi' : i = L.length := by simpa using hi
  subst hi'
  refine ⟨a,ha,?_⟩
  rw [c56_end L a ha out K]
  simp [encs]
 | n :: r,a,out,i,ha,hd,hi,ho=>by
  simp only [List.length_cons] at hi ho
  have hg : L[i]? = some n := by
   have := congrArg (·[0]?) hd
   simpa [List.getElem?_drop] using this
  have hd' : L.drop (i + 1) = r := by
   have := congrArg (List.drop 1) hd
   simpa [List.drop_drop] using this
  have hb := hr n (List.mem_of_getElem? hg)
  have hel := enc_len n
  obtain ⟨a',h1,h2⟩ := c56_loop L hL hr K r 2 (out ++ enc n) (i + 1) (.inl rfl) hd' (by omega) (by rw [List.length_append]; omega)
  refine ⟨a',h1,?_⟩
  rw [c56_step L hL a ha out (by omega) i n hg hb.1 hb.2 K,h2]
  simp [encs,List.flatMap_cons]
theorem c56_good (s : List UInt8) (hs : s.length < 1000000) (n0 n1 : Int) (r : List Int) (hr : r.length ≤ 18) (h87 : Call Q 135 [.str s] = some (.tup [.fel 1 (ints (n0 :: n1 :: r)),.bool true])) (hn : ∀ n ∈ n0 :: n1 :: r,0 ≤ n ∧ n < 1099511627776) :
  Call Q 92 [.str s] = some (ans53 (oidN (n0 :: n1 :: r))) := by
 have b0 := hn n0 (by simp)
 have b1 := hn n1 (by simp)
 have hil : (ints r).length = r.length := ints_length r
 have hL : (ints (n0 :: n1 :: r)).length = r.length + 2 := by rw [ints_length]; rfl
 have g0 : (ints (n0 :: n1 :: r))[0]? = some (.int .i64 n0) := rfl
 have g1 : (ints (n0 :: n1 :: r))[1]? = some (.int .i64 n1) := rfl
 have p0 : (0 : Int) < ((r.length + 2 : Nat) : Int) := by omega
 have p1 : (1 : Int) < ((r.length + 2 : Nat) : Int) := by omega
 have q0 : 0 < r.length + 2 := by omega
 have q1 : 1 < r.length + 2 := by omega
 generalize hl : ints (n0 :: n1 :: r) = l at h87 hL g0 g1
 have va : ∀ x : Nat,[(2,MV.ptr 0 0),(4,.own 1 (r.length + 2)),(6,.own 3 0),(7,.int .i64 1)] = A56 (n0 :: (n1 + 40 * n0) :: r) 3 [] (1 : Nat) := fun _=>rfl
 have oa : ∀ x : Nat,[(0,Obj.cells zero5),(1,.el 1 (l.set 1 (.int .i64 (n1 + 40 * n0))) false),(3,.byt [] false)] = O4 (n0 :: (n1 + 40 * n0) :: r) 3 [] [] := fun _=>by rw [← hl]; rfl
 have hr' : ∀ n ∈ n0 :: (n1 + 40 * n0) :: r,0 ≤ n ∧ n < 4398046511104 ∨ 2 < n0 := by
  intro n hm
  by_cases c : 2 < n0
  ·exact .inr c
  ·rcases List.mem_cons.1 hm with rfl | hm
   ·exact .inl (by omega)
   ·rcases List.mem_cons.1 hm with rfl | hm
    ·exact .inl (by omega)
    ·have := hn n (by simp [hm])
     exact .inl (by omega)
 unfold oidN
 simp only
 rw [Call_fn Q (m := m92) rfl rfl]
 by_cases c1 : 2 < n0
 ·have d1 : decide (2 < n0) = true := by simp; omega
  rw [if_pos (.inl c1)]
  simp (maxSteps := 4000000) (disch := first | omega | exact ok_of (by kernel_rfl) | decide) only [bA.u,seval,cut,if_pos,if_neg,m92,h87,hL,g0,g1,p0,p1,q0,q1,d1]
  all_goals rfl
 have d1 : decide (2 < n0) = false := by simp; omega
 have hr' : ∀ n ∈ n0 :: (n1 + 40 * n0) :: r,0 ≤ n ∧ n < 4398046511104 := fun n hm=>(hr' n hm).resolve_right c1
 by_cases c2 : n0 < 2
 ·have d2 : decide (n0 < 2) = true := by simp; omega
  by_cases c3 : 39 < n1
  ·have d3 : decide (39 < n1) = true := by simp; omega
   rw [if_pos (.inr (.inl ⟨c2,c3⟩))]
   simp (maxSteps := 4000000) (disch := first | omega | exact ok_of (by kernel_rfl) | decide) only [bA.u,seval,cut,if_pos,if_neg,m92,h87,hL,g0,g1,p0,p1,q0,q1,d1,d2,d3]
   all_goals rfl
  ·have d3 : decide (39 < n1) = false := by simp; omega
   have d4 : decide (1099511627776 ≤ n1 + 40 * n0) = false := by simp; omega
   rw [if_neg (by omega)]
   obtain ⟨rhs,hrr⟩ : ∃ z,z = some (ans53 (some (encs ((n1 + 40 * n0) :: r)))) := ⟨_,rfl⟩
   rw [← hrr]
   simp (maxSteps := 4000000) (disch := first | omega | exact ok_of (by kernel_rfl) | decide) only [bA.u,seval,cut,if_pos,if_neg,m92,h87,hL,g0,g1,p0,p1,q0,q1,d1,d2,d3,d4,Run_loop]
   refine (congrArg (fin _) (RunL_canon (canon_cong (V := A56 (n0 :: (n1 + 40 * n0) :: r) 3 [] (1 : Nat)) (O := O4 (n0 :: (n1 + 40 * n0) :: r) 3 [] []) (nx := 4) (Eq.trans (by kernel_rfl) (va 0)) (Eq.trans (by kernel_rfl) (oa 0)) (by kernel_rfl)))).trans ?_
   obtain ⟨a',ha',hlp⟩ := c56_loop (n0 :: (n1 + 40 * n0) :: r) (by simp; omega) hr' _ ((n1 + 40 * n0) :: r) 3 [] 1 (.inr rfl) rfl (by simp; omega) (by simp; omega)
   rw [hlp,hrr]
   rcases ha' with rfl | rfl
   ·simp (maxSteps := 4000000) (disch := first | omega | exact ok_of (by kernel_rfl) | decide) only [bA.u,seval,cut,if_pos,if_neg,A56,O4,R56,zero5,ans53,good53]
   ·simp (maxSteps := 4000000) (disch := first | omega | exact ok_of (by kernel_rfl) | decide) only [bA.u,seval,cut,if_pos,if_neg,A56,O4,R56,zero5,ans53,good53]
 ·have d2 : decide (n0 < 2) = false := by simp; omega
  by_cases c4 : 1099511627776 ≤ n1 + 80
  ·have d4 : decide (1099511627776 ≤ n1 + 40 * n0) = true := by simp; omega
   rw [if_pos (by omega)]
   simp (maxSteps := 4000000) (disch := first | omega | exact ok_of (by kernel_rfl) | decide) only [bA.u,seval,cut,if_pos,if_neg,m92,h87,hL,g0,g1,p0,p1,q0,q1,d1,d2,d4]
   all_goals rfl
  ·have d4 : decide (1099511627776 ≤ n1 + 40 * n0) = false := by simp; omega
   rw [if_neg (by omega)]
   obtain ⟨rhs,hrr⟩ : ∃ z,z = some (ans53 (some (encs ((n1 + 40 * n0) :: r)))) := ⟨_,rfl⟩
   rw [← hrr]
   simp (maxSteps := 4000000) (disch := first | omega | exact ok_of (by kernel_rfl) | decide) only [bA.u,seval,cut,if_pos,if_neg,m92,h87,hL,g0,g1,p0,p1,q0,q1,d1,d2,d4,Run_loop]
   refine (congrArg (fin _) (RunL_canon (canon_cong (V := A56 (n0 :: (n1 + 40 * n0) :: r) 3 [] (1 : Nat)) (O := O4 (n0 :: (n1 + 40 * n0) :: r) 3 [] []) (nx := 4) (Eq.trans (by kernel_rfl) (va 0)) (Eq.trans (by kernel_rfl) (oa 0)) (by kernel_rfl)))).trans ?_
   obtain ⟨a',ha',hlp⟩ := c56_loop (n0 :: (n1 + 40 * n0) :: r) (by simp; omega) hr' _ ((n1 + 40 * n0) :: r) 3 [] 1 (.inr rfl) rfl (by simp; omega) (by simp; omega)
   rw [hlp,hrr]
   rcases ha' with rfl | rfl
   ·simp (maxSteps := 4000000) (disch := first | omega | exact ok_of (by kernel_rfl) | decide) only [bA.u,seval,cut,if_pos,if_neg,A56,O4,R56,zero5,ans53,good53]
   ·simp (maxSteps := 4000000) (disch := first | omega | exact ok_of (by kernel_rfl) | decide) only [bA.u,seval,cut,if_pos,if_neg,A56,O4,R56,zero5,ans53,good53]
theorem c56_bad (s : List UInt8) (l : List MV) (h87 : Call Q 135 [.str s] = some (.tup [.fel 1 l,.bool false])) : Call Q 92 [.str s] = some bad53 := by
 rw [Call_fn Q (m := m92) rfl rfl]
 simp (maxSteps := 4000000) (disch := first | omega | exact ok_of (by kernel_rfl) | decide) only [bA.u,seval,cut,if_pos,if_neg,m92,h87,bad53,zero5]
theorem c56 (s : List UInt8) (hs : s.length < 1000000) : Call Q 92 [.str s] = some (ans53 (oidS s)) := by
 have h87 := c87 s hs
 unfold ans87 at h87
 unfold oidS
 simp only [split_eq]
 cases hn : numsP (splits s) with
 | none =>
  rw [hn] at h87
  have : (if (splits s).length < 2 ∨ 20 < (splits s).length then (none : Option (List UInt8)) else none) = none := by split <;> rfl
  simp only [this]
  exact c56_bad s _ h87
 | some l =>
  rw [hn] at h87
  have hlen := numsP_length hn
  simp only [good87] at h87
  by_cases h2 : (splits s).length < 2 ∨ 20 < (splits s).length
  ·rw [if_pos h2]
   have : (decide (2 ≤ l.length) && decide (l.length ≤ 20)) = false := by
    rcases h2 with h2 | h2
    ·rw [decide_eq_false (p := 2 ≤ l.length) (by omega),Bool.false_and]
    ·rw [decide_eq_false (p := l.length ≤ 20) (by omega),Bool.and_false]
   rw [this] at h87
   exact c56_bad s _ h87
  ·rw [if_neg h2]
   have : (decide (2 ≤ l.length) && decide (l.length ≤ 20)) = true := by
    rw [decide_eq_true (p := 2 ≤ l.length) (by omega),decide_eq_true (p := l.length ≤ 20) (by omega),Bool.true_and]
   rw [this] at h87
   match l,hlen,h87 with
   | n0 :: n1 :: r,hlen,h87=>exact c56_good s hs n0 n1 r (by have := hlen.1; simp at this; omega) h87 hlen.2
   | [n0],hlen,_=>have := hlen.1; simp at this; omega
   | [],hlen,_=>have := hlen.1; simp at this; omega
end Go.Mini.Nm

/- a certificate's names keep to limits as the document says: the law by that interpreter (part 11): what the program's functions answer, or plain laws of it; no conditions. -/
import Derived.Test.YtaehaajckndejaaGreatDoorA10
import Derived.Test.YtaehaajckndejaaGreatDoorA04
set_option linter.all false
namespace Go.Mini.Nm
open Go Go.Mini Go.Proofs.YtaehaajckndejaaGreatDoor
set_option maxRecDepth 100000
set_option maxHeartbeats 4000000
def andS (m l : List UInt8) (i : Nat) : List UInt8 := l.set i (l.getD i 0 &&& m.getD i 0)
theorem andS_len (m : List UInt8) : ∀ (r : List Nat) (l : List UInt8),(r.foldl (andS m) l).length = l.length
 | [],l=>rfl
 | i :: r,l=>by rw [List.foldl_cons,andS_len m r,andS,List.length_set]
theorem andS_get (m l : List UInt8) : ∀ (k : Nat),k ≤ l.length→∀ j,((List.range k).foldl (andS m) l).getD j 0 = if j < k then l.getD j 0 &&& m.getD j 0 else l.getD j 0
 | 0,_,j=>by simp
 | k + 1,hk,j=>by
  have ih := andS_get m l k (by omega)
  have hl := andS_len m (List.range k) l
  rw [List.range_succ,List.foldl_append]
  simp only [List.foldl_cons,List.foldl_nil]
  generalize (List.range k).foldl (andS m) l = x at ih hl ⊢
  unfold andS
  by_cases hj : j = k
  ·subst hj
   have := ih j
   rw [if_neg (Nat.lt_irrefl _)] at this
   rw [if_pos (Nat.lt_succ_self _),this,List.getD_eq_getElem?_getD,List.getElem?_set_self (by omega)]
   all_goals rfl
  ·rw [List.getD_eq_getElem?_getD,List.getElem?_set_ne (Ne.symm hj),← List.getD_eq_getElem?_getD,ih j]
   by_cases h1 : j < k
   ·rw [if_pos h1,if_pos (by omega)]
   ·rw [if_neg h1,if_neg (by omega)]
theorem bv_dist (a b m : BitVec 8) : (a ^^^ b) &&& m = (a &&& m) ^^^ (b &&& m) := by
 ext i
 simp only [BitVec.getElem_and,BitVec.getElem_xor,Bool.and_xor_distrib_right]
theorem and_eq8 (a b m : UInt8) : (((a ^^^ b) &&& m) == 0) = (a &&& m == b &&& m) := by
 rw [Bool.eq_iff_iff,beq_iff_eq,beq_iff_eq]
 constructor
 ·intro h
  have : (a &&& m) ^^^ (b &&& m) = 0 := by rw [← h]; apply UInt8.eq_of_toBitVec_eq; simp only [UInt8.toBitVec_xor,UInt8.toBitVec_and]; exact (bv_dist ..).symm
  exact UInt8.xor_eq_zero_iff.1 this
 ·intro h
  have : (a &&& m) ^^^ (b &&& m) = 0 := by rw [h,UInt8.xor_self]
  rw [← this]; apply UInt8.eq_of_toBitVec_eq; simp only [UInt8.toBitVec_xor,UInt8.toBitVec_and]; exact bv_dist ..
theorem net_fold (s l : List UInt8) (hl : l.length = 2 * s.length) : ((List.range s.length).foldl (andS (l.drop s.length)) s == (List.range s.length).foldl (andS (l.drop s.length)) (l.take s.length)) = netB s l := by
 have h1 := andS_get (l.drop s.length) s s.length (Nat.le_refl _)
 have h2 := andS_get (l.drop s.length) (l.take s.length) s.length (by rw [List.length_take]; omega)
 have k1 := andS_len (l.drop s.length) (List.range s.length) s
 have k2 := andS_len (l.drop s.length) (List.range s.length) (l.take s.length)
 rw [List.length_take,Nat.min_eq_left (by omega)] at k2
 generalize (List.range s.length).foldl (andS (l.drop s.length)) s = x at *
 generalize (List.range s.length).foldl (andS (l.drop s.length)) (l.take s.length) = y at *
 unfold netB
 rw [decide_eq_true (by omega),Bool.true_and,Bool.eq_iff_iff,beq_iff_eq,List.all_eq_true]
 have ht : ∀ j,j < s.length→(l.take s.length).getD j 0 = l.getD j 0 := by
  intro j hj
  rw [List.getD_eq_getElem?_getD,List.getD_eq_getElem?_getD,List.getElem?_take_of_lt hj]
 have hd : ∀ j,(l.drop s.length).getD j 0 = l.getD (s.length + j) 0 := by
  intro j
  rw [List.getD_eq_getElem?_getD,List.getD_eq_getElem?_getD,List.getElem?_drop]
 constructor
 ·intro e j hj
  have hj := List.mem_range.1 hj
  have a1 := h1 j
  have a2 := h2 j
  rw [if_pos hj] at a1 a2
  rw [ht j hj] at a2
  rw [e,a2,hd j] at a1
  unfold netI
  rw [and_eq8,beq_iff_eq]
  exact a1.symm
 ·intro h
  apply List.ext_getElem (by omega)
  intro j h3 h4
  have hj : j < s.length := by omega
  have a1 := h1 j
  have a2 := h2 j
  rw [if_pos hj] at a1 a2
  rw [ht j hj] at a2
  rw [hd j] at a1 a2
  have := h j (List.mem_range.2 hj)
  unfold netI at this
  rw [and_eq8,beq_iff_eq] at this
  rw [List.getD_eq_getElem?_getD,List.getElem?_eq_getElem h3] at a1
  rw [List.getD_eq_getElem?_getD,List.getElem?_eq_getElem h4] at a2
  simp only [Option.getD_some] at a1 a2
  rw [a1,a2,this]
def R10 : List (Nat × Option (Bool × Nat) × PK) := [(4,none,.other)]
def V10 (n : Nat) (i : Nat) : List (Nat × MV) := [(21,.own 0 n),(22,.own 1 n),(23,.own 2 n),(156,.int .i64 (n : Int)),(157,.int .i64 (i : Int))]
def O10 (la lb m : List UInt8) : List (Nat × Obj) := [(0,.byt la false),(1,.byt lb false),(2,.byt m false)]
noncomputable def S10 (K : List Item) (m : List UInt8) (n : Nat) (p : List UInt8 × List UInt8) (i : Nat) : Option MV := fin R10 (RunL Q m24k0 m24b0 (.blk 1 :: K) ⟨V10 n i,[],O10 p.1 p.2 m,4⟩)
theorem c10_step (K : List Item) (m : List UInt8) (n : Nat) (hm : m.length = n) (hn : n < 1000000) (p : List UInt8 × List UInt8) (i j : Nat) (hp : p.1.length = n ∧ p.2.length = n) (hg : (List.range n)[i]? = some j) :
  After (γ := Empty) (fun p _=>p.1.length = n ∧ p.2.length = n) (S10 K m n) (fun c=>nomatch c) (S10 K m n p i) (i + 1) (.inl (andS m p.1 j,andS m p.2 j)) := by
 obtain ⟨hi,hij⟩ := List.getElem?_eq_some_iff.1 hg
 simp only [List.length_range] at hi
 simp only [List.getElem_range] at hij
 subst hij
 obtain ⟨la,lb⟩ := p
 obtain ⟨ha,hb⟩ := hp
 simp only at ha hb
 refine ⟨⟨by simp [andS,ha],by simp [andS,hb]⟩,?_⟩
 have ga := getD_some (l := la) (i := i) (by omega)
 have gb := getD_some (l := lb) (i := i) (by omega)
 have gm := getD_some (l := m) (i := i) (by omega)
 unfold S10 andS
 obtain ⟨b',hb'⟩ : ∃ b',b' = m24b0 := ⟨_,rfl⟩
 rw [RunL_eq,show Item.lp m24k0 m24b0 = Item.lp m24k0 b' by rw [hb']]
 apply hide; intro rhs hrhs
 simp (maxSteps := 4000000) (disch := first | omega | exact ok_of (by kernel_rfl) | decide) only [bA.u,seval,cut,if_pos,if_neg,m24b0,V10,R10,O10,ha,hb,hm,ga,gb,gm]
 repeat' ((with_reducible first | refine sp ?_ ?_ | fail) <;> intro hx <;> (try simp only [bI.u] at hx) <;> (try simp (maxSteps := 4000000) (disch := first | omega | exact ok_of (by kernel_rfl) | decide) only [bA.u,seval,cut,if_pos,if_neg,hx,m24b0,V10,R10,O10,ha,hb,hm,ga,gb,gm]))
 all_goals first | (exfalso; omega) | (subst hrhs; (subst hb'; refine (congrArg (fin _) (Run_lp Q _ _ _ _)).trans ?_; exact congrArg (fin R10) (RunL_canon (canon_cong (by kernel_rfl) (by kernel_rfl) (by kernel_rfl)))))
theorem c10_fold (m : List UInt8) : ∀ (r : List Nat) (p : List UInt8 × List UInt8),r.foldl (fun p j=>(andS m p.1 j,andS m p.2 j)) p = (r.foldl (andS m) p.1,r.foldl (andS m) p.2)
 | [],p=>rfl
 | j :: r,p=>by rw [List.foldl_cons,c10_fold m r]; rfl
theorem c10_net (K : List Item) (s l : List UInt8) (hl : l.length = 2 * s.length) (hs : s.length < 1000000) :
  S10 K (l.drop s.length) s.length (s,l.take s.length) 0 = S10 K (l.drop s.length) s.length ((List.range s.length).foldl (andS (l.drop s.length)) s,(List.range s.length).foldl (andS (l.drop s.length)) (l.take s.length)) s.length := by
 have key := loopI (γ := Empty) (List.range s.length) (fun p j=>.inl (andS (l.drop s.length) p.1 j,andS (l.drop s.length) p.2 j)) (S10 K (l.drop s.length) s.length) (fun c=>nomatch c) (fun p _=>p.1.length = s.length ∧ p.2.length = s.length)
  (fun p i j hp hg=>c10_step K _ _ (by rw [List.length_drop]; omega) hs p i j hp hg) (s,l.take s.length) ⟨rfl,by rw [List.length_take]; omega⟩
 rw [foldE_inl,c10_fold,List.length_range] at key
 exact key.2
end Go.Mini.Nm
namespace Go.Mini.Nm
open Go Go.Mini Go.Proofs.YtaehaajckndejaaGreatDoor
set_option maxRecDepth 100000
set_option maxHeartbeats 4000000
theorem valE_right {k : Int} {t : List UInt8} {d : Dn} {lim : Bool} (h : valE k t d lim = 0) : rightB k t d lim = true ∧ kindB k = true := by
 unfold valE at h
 split at h
 ·cases h
 ·rename_i hk
  have hkk : kindB k = true := by
   cases hq : kindB k
   ·rw [hq] at hk; simp at hk
   ·rfl
  split at h
  ·split at h
   ·split at h
    ·rename_i hr; exact ⟨hr,hkk⟩
    ·cases h
   ·cases h
  ·split at h
   ·rename_i hr; exact ⟨hr,hkk⟩
   ·cases h
theorem valE_text {k : Int} {t : List UInt8} {d : Dn} {lim : Bool} (h : valE k t d lim = 0) (h4 : k ≠ 4) (h7 : k ≠ 7) : t.length ≤ 64 ∧ t.any high = false := by
 have := (valE_right h).1
 unfold rightB at this
 rw [if_neg h4,if_neg h7] at this
 simp only [Bool.and_eq_true,decide_eq_true_eq,Bool.not_eq_true'] at this
 exact ⟨this.1.2,this.2⟩
theorem any_drop {P : UInt8→Bool} {t : List UInt8} (h : t.any P = false) (n : Nat) : (t.drop n).any P = false := by
 rw [List.any_eq_false] at h ⊢
 exact fun x hx=>h x (List.mem_of_mem_drop hx)
theorem any_take {P : UInt8→Bool} {t : List UInt8} (h : t.any P = false) (n : Nat) : (t.take n).any P = false := by
 rw [List.any_eq_false] at h ⊢
 exact fun x hx=>h x (List.mem_of_mem_take hx)
theorem ascii_any {t : List UInt8} (h : t.any high = false) : ascii t = true := by
 unfold ascii
 rw [List.any_eq_false] at h
 rw [List.all_eq_true]
 intro x hx
 have := h x hx
 unfold high at this
 simp at this ⊢
 omega
theorem c31 (s sep : List UInt8) (hs : s.length < 1000000) : Call Q 39 [.str s,.str sep] = some (.tup [.str (Lib.cut s sep).1,.str (Lib.cut s sep).2.1,.bool (Lib.cut s sep).2.2]) := by
 rw [Call_prim Q (g := pCut) rfl]
 unfold pCut
 simp only
 rw [if_pos (by omega)]
theorem c33 (s cs : List UInt8) (hs : s.length < 1000000) (hc : cs.length < 1000000) (ha : ascii s = true) (hb : ascii cs = true) : Call Q 41 [.str s,.str cs] = some (.int .i64 (Lib.indexAny s cs)) := by
 rw [Call_prim Q (g := pIndexAny) rfl]
 unfold pIndexAny
 simp only
 rw [if_pos ⟨by omega,by omega,ha,hb⟩]
theorem c24d (a b : Dn) (ha : a.length < 1000000) (hb : b.length < 1000000) (x y : MV) (hx : isDir x a) (hy : isDir y b) : Call Q 29 [x,y] = some (.bool (decide (a = b))) := by
 have h := c24 a b ha hb
 rw [Call_fn Q (m := m29) rfl rfl] at h ⊢
 rcases hx with rfl | ⟨rfl,rfl⟩ <;> rcases hy with rfl | ⟨rfl,rfl⟩ <;> exact h
theorem c10_no (k k2 : Int) (t : List UInt8) (dv : MV) (d : Dn) (t2 : List UInt8) (dv2 : MV) (d2 : Dn) (hdv : isDir dv d) (hdv2 : isDir dv2 d2) (ht : t.length < 1000000 ∧ okLens d) (ht2 : t2.length < 1000000 ∧ okLens d2) (hn : ¬ (valE k t d false = 0 ∧ valE k2 t2 d2 true = 0 ∧ k = k2)) : Call Q 24 [gM k t dv,gM k2 t2 dv2] = some (.bool false) := by
 obtain ⟨x1,x2,x3,x4,x5,q1⟩ := valR_shape k t d false
 obtain ⟨y1,y2,y3,y4,y5,q2⟩ := valR_shape k2 t2 d2 true
 have h1 := c14 k t dv d hdv ht.1 ht.2 false
 have h2 := c14 k2 t2 dv2 d2 hdv2 ht2.1 ht2.2 true
 rw [q1] at h1
 rw [q2] at h2
 unfold gM at h1 h2 ⊢
 rw [Call_fn Q (m := m24) rfl rfl]
 generalize valE k t d false = e1 at h1 hn
 generalize valE k2 t2 d2 true = e2 at h2 hn
 rcases hdv with rfl | ⟨rfl,rfl⟩ <;> rcases hdv2 with rfl | ⟨rfl,rfl⟩
 all_goals (
  apply hide; intro rhs hrhs
  simp (maxSteps := 4000000) (disch := first | omega | exact ok_of (by kernel_rfl) | decide) only [bA.u,seval,cut,if_pos,if_neg,m24,h1,h2]
  repeat' ((with_reducible first | refine sp ?_ ?_ | fail) <;> intro hx <;> (try simp only [bI.u] at hx) <;> (try simp (maxSteps := 4000000) (disch := first | omega | exact ok_of (by kernel_rfl) | decide) only [bA.u,seval,cut,if_pos,if_neg,hx,m24,h1,h2]))
  all_goals first | (exfalso; omega) | (subst hrhs; first | rfl | (exfalso; simp_all)))
theorem c10_2 (k : Int) (hk : k = 2) (t : List UInt8) (dv : MV) (d : Dn) (t2 : List UInt8) (dv2 : MV) (d2 : Dn) (hdv : isDir dv d) (hdv2 : isDir dv2 d2) (ht : t.length < 1000000 ∧ okLens d) (ht2 : t2.length < 1000000 ∧ okLens d2) (hE : valE k t d false = 0) (hF : valE k t2 d2 true = 0) : Call Q 24 [gM k t dv,gM k t2 dv2] = some (.bool (withK k t d t2 d2)) := by
 obtain ⟨x1,x2,x3,x4,x5,q1⟩ := valR_shape k t d false
 obtain ⟨y1,y2,y3,y4,y5,q2⟩ := valR_shape k t2 d2 true
 have h1 := c14 k t dv d hdv ht.1 ht.2 false
 have h2 := c14 k t2 dv2 d2 hdv2 ht2.1 ht2.2 true
 rw [q1] at h1
 rw [q2] at h2
 unfold gM at h1 h2 ⊢
 rw [Call_fn Q (m := m24) rfl rfl]
 subst hk
 rw [hE] at h1
 rw [hF] at h2
 obtain ⟨l1,a1⟩ := valE_text hE (by decide) (by decide)
 obtain ⟨l2,a2⟩ := valE_text hF (by decide) (by decide)
 have h28 := c28 t (by omega) a1
 have h29 := c29 t (by omega)
 have h29' := c29 t2 (by omega)
 have h30 := c30 t (46 :: t2) (by omega) (by simp; omega)
 rcases hdv with rfl | ⟨rfl,rfl⟩ <;> rcases hdv2 with rfl | ⟨rfl,rfl⟩
 all_goals (
  apply hide; intro rhs hrhs
  simp (maxSteps := 4000000) (disch := first | omega | exact ok_of (by kernel_rfl) | decide) only [bA.u,seval,cut,if_pos,if_neg,m24,h1,h2,h28,h29,h29',h30]
  repeat' ((with_reducible first | refine sp ?_ ?_ | fail) <;> intro hx <;> (try simp only [bI.u] at hx) <;> (try simp (maxSteps := 4000000) (disch := first | omega | exact ok_of (by kernel_rfl) | decide) only [bA.u,seval,cut,if_pos,if_neg,hx,m24,h1,h2,h28,h29,h29',h30]))
  all_goals first | (exfalso; omega) | (subst hrhs; simp_all [withK,alikeB]))
theorem c10_1 (k : Int) (hk : k = 1) (t : List UInt8) (dv : MV) (d : Dn) (t2 : List UInt8) (dv2 : MV) (d2 : Dn) (hdv : isDir dv d) (hdv2 : isDir dv2 d2) (ht : t.length < 1000000 ∧ okLens d) (ht2 : t2.length < 1000000 ∧ okLens d2) (hE : valE k t d false = 0) (hF : valE k t2 d2 true = 0) : Call Q 24 [gM k t dv,gM k t2 dv2] = some (.bool (withK k t d t2 d2)) := by
 obtain ⟨x1,x2,x3,x4,x5,q1⟩ := valR_shape k t d false
 obtain ⟨y1,y2,y3,y4,y5,q2⟩ := valR_shape k t2 d2 true
 have h1 := c14 k t dv d hdv ht.1 ht.2 false
 have h2 := c14 k t2 dv2 d2 hdv2 ht2.1 ht2.2 true
 rw [q1] at h1
 rw [q2] at h2
 unfold gM at h1 h2 ⊢
 rw [Call_fn Q (m := m24) rfl rfl]
 subst hk
 rw [hE] at h1
 rw [hF] at h2
 obtain ⟨l1,a1⟩ := valE_text hE (by decide) (by decide)
 obtain ⟨l2,a2⟩ := valE_text hF (by decide) (by decide)
 have h31 := c31 t [64] (by omega)
 have h31' := c31 t2 [64] (by omega)
 rw [cut_at] at h31 h31'
 show _ = some (MV.bool (mailB t t2))
 unfold mailB
 rcases atB_range t 64 0 with e1 | ⟨i,e1,i1,_⟩
 ·rw [e1] at h31 ⊢
  simp only at h31
  rcases hdv with rfl | ⟨rfl,rfl⟩ <;> rcases hdv2 with rfl | ⟨rfl,rfl⟩
  all_goals (
   apply hide; intro rhs hrhs
   simp (maxSteps := 4000000) (disch := first | omega | exact ok_of (by kernel_rfl) | decide) only [bA.u,seval,cut,if_pos,if_neg,m24,h1,h2,h31]
   repeat' ((with_reducible first | refine sp ?_ ?_ | fail) <;> intro hx <;> (try simp only [bI.u] at hx) <;> (try simp (maxSteps := 4000000) (disch := first | omega | exact ok_of (by kernel_rfl) | decide) only [bA.u,seval,cut,if_pos,if_neg,hx,m24,h1,h2,h31]))
   all_goals first | (exfalso; omega) | (subst hrhs; rfl))
 ·rw [Nat.zero_add] at e1
  rw [e1] at h31 ⊢
  cases i with
  | zero =>
   have h31 : Call Q 39 [.str t,.str [64]] = some (.tup [.str [],.str (t.drop 1),.bool true]) := h31
   rcases hdv with rfl | ⟨rfl,rfl⟩ <;> rcases hdv2 with rfl | ⟨rfl,rfl⟩
   all_goals (
    apply hide; intro rhs hrhs
    simp (maxSteps := 4000000) (disch := first | omega | exact ok_of (by kernel_rfl) | decide) only [bA.u,seval,cut,if_pos,if_neg,m24,h1,h2,h31]
    repeat' ((with_reducible first | refine sp ?_ ?_ | fail) <;> intro hx <;> (try simp only [bI.u] at hx) <;> (try simp (maxSteps := 4000000) (disch := first | omega | exact ok_of (by kernel_rfl) | decide) only [bA.u,seval,cut,if_pos,if_neg,hx,m24,h1,h2,h31]))
    all_goals first | (exfalso; omega) | (subst hrhs; rfl))
  | succ i =>
   have h31 : Call Q 39 [.str t,.str [64]] = some (.tup [.str (t.take (i + 1)),.str (t.drop (i + 2)),.bool true]) := h31
   have hne : (t.take (i + 1) == []) = false := by
    rw [beq_eq_false_iff_ne]
    intro e
    have := congrArg List.length e
    rw [List.length_take,List.length_nil] at this
    omega
   have hlen : (t.drop (i + 2)).length < 1000 := by rw [List.length_drop]; omega
   have h28 := c28 (t.drop (i + 2)) (by omega) (any_drop a1 _)
   have h32 := c32 (t.drop (i + 2)) t2 (by omega) (by omega) (any_drop a1 _)
   have h29 := c29 (t.drop (i + 2)) (by omega)
   show _ = some (MV.bool (machB (t.drop (i + 2)) && _))
   rcases atB_range t2 64 0 with e2 | ⟨j,e2,j1,_⟩
   ·rw [e2] at h31' ⊢
    simp only at h31'
    rcases hdv with rfl | ⟨rfl,rfl⟩ <;> rcases hdv2 with rfl | ⟨rfl,rfl⟩
    all_goals (
     apply hide; intro rhs hrhs
     simp (maxSteps := 4000000) (disch := first | omega | exact ok_of (by kernel_rfl) | decide) only [bA.u,seval,cut,if_pos,if_neg,m24,h1,h2,h31,h31',hne,h28,h32]
     repeat' ((with_reducible first | refine sp ?_ ?_ | fail) <;> intro hx <;> (try simp only [bI.u] at hx) <;> (try simp (maxSteps := 4000000) (disch := first | omega | exact ok_of (by kernel_rfl) | decide) only [bA.u,seval,cut,if_pos,if_neg,hx,m24,h1,h2,h31,h31',hne,h28,h32]))
     all_goals first | (exfalso; omega) | (subst hrhs; simp_all))
   ·rw [Nat.zero_add] at e2
    rw [e2] at h31' ⊢
    have h31' : Call Q 39 [.str t2,.str [64]] = some (.tup [.str (t2.take j),.str (t2.drop (j + 1)),.bool true]) := h31'
    have h29' := c29 (t2.drop (j + 1)) (by rw [List.length_drop]; omega)
    show _ = some (MV.bool (machB (t.drop (i + 2)) && (decide (t2.take j = t.take (i + 1)) && alikeB (t2.drop (j + 1)) (t.drop (i + 2)))))
    rcases hdv with rfl | ⟨rfl,rfl⟩ <;> rcases hdv2 with rfl | ⟨rfl,rfl⟩
    all_goals (
     apply hide; intro rhs hrhs
     simp (maxSteps := 4000000) (disch := first | omega | exact ok_of (by kernel_rfl) | decide) only [bA.u,seval,cut,if_pos,if_neg,m24,h1,h2,h31,h31',hne,h28,h29,h29']
     repeat' ((with_reducible first | refine sp ?_ ?_ | fail) <;> intro hx <;> (try simp only [bI.u] at hx) <;> (try simp (maxSteps := 4000000) (disch := first | omega | exact ok_of (by kernel_rfl) | decide) only [bA.u,seval,cut,if_pos,if_neg,hx,m24,h1,h2,h31,h31',hne,h28,h29,h29']))
     all_goals first | (exfalso; omega) | (subst hrhs; (simp_all [alikeB,eqStr])))
theorem c10_6 (k : Int) (hk : k = 6) (t : List UInt8) (dv : MV) (d : Dn) (t2 : List UInt8) (dv2 : MV) (d2 : Dn) (hdv : isDir dv d) (hdv2 : isDir dv2 d2) (ht : t.length < 1000000 ∧ okLens d) (ht2 : t2.length < 1000000 ∧ okLens d2) (hE : valE k t d false = 0) (hF : valE k t2 d2 true = 0) : Call Q 24 [gM k t dv,gM k t2 dv2] = some (.bool (withK k t d t2 d2)) := by
 obtain ⟨x1,x2,x3,x4,x5,q1⟩ := valR_shape k t d false
 obtain ⟨y1,y2,y3,y4,y5,q2⟩ := valR_shape k t2 d2 true
 have h1 := c14 k t dv d hdv ht.1 ht.2 false
 have h2 := c14 k t2 dv2 d2 hdv2 ht2.1 ht2.2 true
 rw [q1] at h1
 rw [q2] at h2
 unfold gM at h1 h2 ⊢
 rw [Call_fn Q (m := m24) rfl rfl]
 subst hk
 rw [hE] at h1
 rw [hF] at h2
 obtain ⟨l1,a1⟩ := valE_text hE (by decide) (by decide)
 obtain ⟨l2,a2⟩ := valE_text hF (by decide) (by decide)
 have h31 := c31 t [58,47,47] (by omega)
 have hge := Lib.index_ge t [58,47,47]
 show _ = some (MV.bool (uriB t t2))
 unfold uriB
 unfold Lib.cut at h31
 by_cases hx : Lib.index t [58,47,47] = -1
 ·rw [if_pos hx]
  rw [if_neg (by omega)] at h31
  have h33 := c33 [] [47,58,63,35] (by simp) (by simp) rfl rfl
  have h33 : Call Q 41 [.str [],.str [47,58,63,35]] = some (.int .i64 (-1)) := h33
  rcases hdv with rfl | ⟨rfl,rfl⟩ <;> rcases hdv2 with rfl | ⟨rfl,rfl⟩
  all_goals (
   apply hide; intro rhs hrhs
   simp (maxSteps := 4000000) (disch := first | omega | exact ok_of (by kernel_rfl) | decide) only [bA.u,seval,cut,if_pos,if_neg,m24,h1,h2,h31,h33]
   repeat' ((with_reducible first | refine sp ?_ ?_ | fail) <;> intro hx <;> (try simp only [bI.u] at hx) <;> (try simp (maxSteps := 4000000) (disch := first | omega | exact ok_of (by kernel_rfl) | decide) only [bA.u,seval,cut,if_pos,if_neg,hx,m24,h1,h2,h31,h33]))
   all_goals first | (exfalso; omega) | (subst hrhs; rfl))
 ·rw [if_neg hx]
  rw [if_pos (by omega)] at h31
  simp only [List.length_cons,List.length_nil,Nat.reduceAdd] at h31
  have hrl : (t.drop ((Lib.index t [58,47,47]).toNat + 3)).length ≤ 64 := by rw [List.length_drop]; omega
  have hra := any_drop a1 ((Lib.index t [58,47,47]).toNat + 3)
  generalize t.drop ((Lib.index t [58,47,47]).toNat + 3) = r at *
  have h33 := c33 r [47,58,63,35] (by omega) (by simp) (ascii_any hra) rfl
  have hp : Lib.indexAny r [47,58,63,35] = Lib.indexAny r [47,58,63,35] := rfl
  rw [show Lib.indexAny r [47,58,63,35] = if till r = r.length then -1 else (till r : Int) by rw [← indexAny_till]] at h33
  have htl := till_le r
  have h32 := c32 (r.take (till r)) t2 (by rw [List.length_take]; omega) (by omega) (any_take hra _)
  by_cases hm : till r = r.length
  ·rw [if_pos hm] at h33
   rw [hm,List.take_length] at h32 ⊢
   rcases hdv with rfl | ⟨rfl,rfl⟩ <;> rcases hdv2 with rfl | ⟨rfl,rfl⟩
   all_goals (
    apply hide; intro rhs hrhs
    simp (maxSteps := 4000000) (disch := first | omega | exact ok_of (by kernel_rfl) | decide) only [bA.u,seval,cut,if_pos,if_neg,m24,h1,h2,h31,h33,h32]
    repeat' ((with_reducible first | refine sp ?_ ?_ | fail) <;> intro hx <;> (try simp only [bI.u] at hx) <;> (try simp (maxSteps := 4000000) (disch := first | omega | exact ok_of (by kernel_rfl) | decide) only [bA.u,seval,cut,if_pos,if_neg,hx,m24,h1,h2,h31,h33,h32]))
    all_goals first | (exfalso; omega) | (subst hrhs; rfl))
  ·rw [if_neg hm] at h33
   have hc : cut r none (some (.int .i64 (till r : Int))) = some (r.take (till r)) := cut_to rfl (by omega)
   rcases hdv with rfl | ⟨rfl,rfl⟩ <;> rcases hdv2 with rfl | ⟨rfl,rfl⟩
   all_goals (
    apply hide; intro rhs hrhs
    simp (maxSteps := 4000000) (disch := first | omega | exact ok_of (by kernel_rfl) | decide) only [bA.u,seval,if_pos,if_neg,m24,h1,h2,h31,h33,h32,hc]
    repeat' ((with_reducible first | refine sp ?_ ?_ | fail) <;> intro hx <;> (try simp only [bI.u] at hx) <;> (try simp (maxSteps := 4000000) (disch := first | omega | exact ok_of (by kernel_rfl) | decide) only [bA.u,seval,if_pos,if_neg,hx,m24,h1,h2,h31,h33,h32,hc]))
    all_goals first | (exfalso; omega) | (subst hrhs; rfl))
theorem c10_7 (k : Int) (hk : k = 7) (t : List UInt8) (dv : MV) (d : Dn) (t2 : List UInt8) (dv2 : MV) (d2 : Dn) (hdv : isDir dv d) (hdv2 : isDir dv2 d2) (ht : t.length < 1000000 ∧ okLens d) (ht2 : t2.length < 1000000 ∧ okLens d2) (hE : valE k t d false = 0) (hF : valE k t2 d2 true = 0) : Call Q 24 [gM k t dv,gM k t2 dv2] = some (.bool (withK k t d t2 d2)) := by
 obtain ⟨x1,x2,x3,x4,x5,q1⟩ := valR_shape k t d false
 obtain ⟨y1,y2,y3,y4,y5,q2⟩ := valR_shape k t2 d2 true
 have h1 := c14 k t dv d hdv ht.1 ht.2 false
 have h2 := c14 k t2 dv2 d2 hdv2 ht2.1 ht2.2 true
 rw [q1] at h1
 rw [q2] at h2
 unfold gM at h1 h2 ⊢
 rw [Call_fn Q (m := m24) rfl rfl]
 subst hk
 rw [hE] at h1
 rw [hF] at h2
 show _ = some (MV.bool (netB t t2))
 by_cases hl : t2.length = 2 * t.length
 ·rw [← net_fold t t2 hl]
  have hn := fun K=>c10_net K t t2 hl ht.1
  have l1 := andS_len (t2.drop t.length) (List.range t.length) t
  have l2 := andS_len (t2.drop t.length) (List.range t.length) (t2.take t.length)
  rw [List.length_take,Nat.min_eq_left (by omega)] at l2
  have e3 : (t2.drop t.length).take (t2.length - t.length) = t2.drop t.length := by rw [List.take_of_length_le]; simp
  have e4 : (t2.drop t.length).length = t.length := by rw [List.length_drop]; omega
  have e5 : (t2.take t.length).length = t.length := by rw [List.length_take]; omega
  generalize hx : (List.range t.length).foldl (andS (t2.drop t.length)) t = x at *
  generalize hy : (List.range t.length).foldl (andS (t2.drop t.length)) (t2.take t.length) = y at *
  have h34 := c34 x y
  have fact : ∀ K,S10 K (t2.drop t.length) t.length (x,y) t.length = some (.bool (x == y))→True := fun _ _=>trivial
  rcases hdv with rfl | ⟨rfl,rfl⟩ <;> rcases hdv2 with rfl | ⟨rfl,rfl⟩
  all_goals (
   apply hide; intro rhs hrhs
   simp (maxSteps := 4000000) (disch := first | omega | exact ok_of (by kernel_rfl) | decide) only [bA.u,seval,cut,if_pos,if_neg,m24,h1,h2,Run_loop,e3,e4,e5,Nat.sub_zero]
   repeat' ((with_reducible first | refine sp ?_ ?_ | fail) <;> intro hx <;> (try simp only [bI.u] at hx) <;> (try simp (maxSteps := 4000000) (disch := first | omega | exact ok_of (by kernel_rfl) | decide) only [bA.u,seval,cut,if_pos,if_neg,hx,m24,h1,h2,Run_loop,e3,e4,e5,Nat.sub_zero]))
   all_goals first | (exfalso; omega) | (subst hrhs; refine (congrArg (fin R10) (RunL_canon (st' := ⟨V10 t.length 0,[],O10 t (t2.take t.length) (t2.drop t.length),4⟩) (by kernel_rfl))).trans ((hn _).trans ?_); unfold S10; obtain ⟨b',hb'⟩ : ∃ b',b' = m24b0 := ⟨_,rfl⟩; rw [RunL_eq,show Item.lp m24k0 m24b0 = Item.lp m24k0 b' by rw [hb']]; simp (maxSteps := 4000000) (disch := first | omega | exact ok_of (by kernel_rfl) | decide) only [bA.u,seval,cut,if_pos,if_neg,m24b0,V10,O10,R10,l1,l2,h34,decide_eq_false (Int.lt_irrefl _)]))
 ·have hw : netB t t2 = false := by
   unfold netB
   rw [decide_eq_false (by omega),Bool.false_and]
  rw [hw]
  rcases hdv with rfl | ⟨rfl,rfl⟩ <;> rcases hdv2 with rfl | ⟨rfl,rfl⟩
  all_goals (
   apply hide; intro rhs hrhs
   simp (maxSteps := 4000000) (disch := first | omega | exact ok_of (by kernel_rfl) | decide) only [bA.u,seval,cut,if_pos,if_neg,m24,h1,h2]
   repeat' ((with_reducible first | refine sp ?_ ?_ | fail) <;> intro hx <;> (try simp only [bI.u] at hx) <;> (try simp (maxSteps := 4000000) (disch := first | omega | exact ok_of (by kernel_rfl) | decide) only [bA.u,seval,cut,if_pos,if_neg,hx,m24,h1,h2]))
   all_goals first | (exfalso; omega) | (subst hrhs; rfl))
theorem c10_44 (k : Int) (hk : k ≠ 1 ∧ k ≠ 2 ∧ k ≠ 6 ∧ k ≠ 7) (t : List UInt8) (dv : MV) (d : Dn) (t2 : List UInt8) (dv2 : MV) (d2 : Dn) (hdv : isDir dv d) (hdv2 : isDir dv2 d2) (ht : t.length < 1000000 ∧ okLens d) (ht2 : t2.length < 1000000 ∧ okLens d2) (hE : valE k t d false = 0) (hF : valE k t2 d2 true = 0) : Call Q 24 [gM k t dv,gM k t2 dv2] = some (.bool (withK k t d t2 d2)) := by
 obtain ⟨x1,x2,x3,x4,x5,q1⟩ := valR_shape k t d false
 obtain ⟨y1,y2,y3,y4,y5,q2⟩ := valR_shape k t2 d2 true
 have h1 := c14 k t dv d hdv ht.1 ht.2 false
 have h2 := c14 k t2 dv2 d2 hdv2 ht2.1 ht2.2 true
 rw [q1] at h1
 rw [q2] at h2
 unfold gM at h1 h2 ⊢
 rw [Call_fn Q (m := m24) rfl rfl]
 obtain ⟨k1,k3,k6,k7⟩ := hk
 rw [hE] at h1
 rw [hF] at h2
 have ha := attrs_length d
 have hb := attrs_length d2
 have hl := ht.2.1
 have hl2 := ht2.2.1
 have hw : withK k t d t2 d2 = (decide (d2.length ≤ d.length) && decide (d.take d2.length = d2)) := by unfold withK; rw [if_neg k1,if_neg k3,if_neg k6,if_neg k7]
 rw [hw]
 have hpos : 0 < d.length := by
  have hr := (valE_right hE).1
  have hk := (valE_right hE).2
  unfold kindB at hk
  simp only [Bool.or_eq_true,beq_iff_eq] at hk
  have h4 : k = 4 := by omega
  unfold rightB at hr
  rw [if_pos h4,Bool.false_or,decide_eq_true_eq] at hr
  exact hr
 have hdv' : dv = .sl 2 (attrs d) := by
  rcases hdv with h | ⟨_,h⟩
  ·exact h
  ·rw [h] at hpos; cases hpos
 subst hdv'
 have hc0 : cut (attrs d) none (some (.int .i64 (0 : Int))) = some [] := cut_attrs d 0 (Nat.zero_le _)
 have h24 := c24d [] [] (by simp) (by simp) _ _ (.inl rfl) (.inr ⟨rfl,rfl⟩)
 have h24 : Call Q 29 [.sl 2 [],.nilsl] = some (.bool true) := h24
 rcases hdv2 with rfl | ⟨rfl,rfl⟩
 ·by_cases hd : d2.length ≤ d.length
  ·have hc := cut_attrs d d2.length hd
   have h24 := c24d (d.take d2.length) d2 (by rw [List.length_take]; omega) (by omega) _ _ (.inl rfl) (.inl rfl)
   apply hide; intro rhs hrhs
   simp (maxSteps := 4000000) (disch := first | omega | exact ok_of (by kernel_rfl) | decide) only [bA.u,seval,if_pos,if_neg,m24,h1,h2,ha,hb,hc,h24,k1,k3,k6,k7]
   repeat' ((with_reducible first | refine sp ?_ ?_ | fail) <;> intro hx <;> (try simp only [bI.u] at hx) <;> (try simp (maxSteps := 4000000) (disch := first | omega | exact ok_of (by kernel_rfl) | decide) only [bA.u,seval,if_pos,if_neg,hx,m24,h1,h2,ha,hb,hc,h24,k1,k3,k6,k7]))
   all_goals first | (exfalso; omega) | (subst hrhs; simp_all)
  ·skip
   apply hide; intro rhs hrhs
   simp (maxSteps := 4000000) (disch := first | omega | exact ok_of (by kernel_rfl) | decide) only [bA.u,seval,cut,if_pos,if_neg,m24,h1,h2,ha,hb,k1,k3,k6,k7]
   repeat' ((with_reducible first | refine sp ?_ ?_ | fail) <;> intro hx <;> (try simp only [bI.u] at hx) <;> (try simp (maxSteps := 4000000) (disch := first | omega | exact ok_of (by kernel_rfl) | decide) only [bA.u,seval,cut,if_pos,if_neg,hx,m24,h1,h2,ha,hb,k1,k3,k6,k7]))
   all_goals first | (exfalso; omega) | (subst hrhs; (simp_all; try (intros; omega)))
 ·skip
  apply hide; intro rhs hrhs
  simp (maxSteps := 4000000) (disch := first | omega | exact ok_of (by kernel_rfl) | decide) only [bA.u,seval,if_pos,if_neg,m24,h1,h2,ha,hb,hc0,h24,k1,k3,k6,k7]
  repeat' ((with_reducible first | refine sp ?_ ?_ | fail) <;> intro hx <;> (try simp only [bI.u] at hx) <;> (try simp (maxSteps := 4000000) (disch := first | omega | exact ok_of (by kernel_rfl) | decide) only [bA.u,seval,if_pos,if_neg,hx,m24,h1,h2,ha,hb,hc0,h24,k1,k3,k6,k7]))
  all_goals first | (exfalso; omega) | (subst hrhs; simp_all)
theorem c10 (k k2 : Int) (t : List UInt8) (dv : MV) (d : Dn) (t2 : List UInt8) (dv2 : MV) (d2 : Dn) (hdv : isDir dv d) (hdv2 : isDir dv2 d2) (ht : t.length < 1000000 ∧ okLens d) (ht2 : t2.length < 1000000 ∧ okLens d2) : Call Q 24 [gM k t dv,gM k2 t2 dv2] = some (.bool (withB k t d k2 t2 d2)) := by
 by_cases h : valE k t d false = 0 ∧ valE k2 t2 d2 true = 0 ∧ k = k2
 ·obtain ⟨hE,hF,rfl⟩ := h
  have e : withB k t d k t2 d2 = withK k t d t2 d2 := by unfold withB; rw [decide_eq_true hE,decide_eq_true hF,decide_eq_true rfl]; rfl
  rw [e]
  by_cases k1 : k = 1
  ·exact c10_1 k k1 t dv d t2 dv2 d2 hdv hdv2 ht ht2 hE hF
  by_cases k3 : k = 2
  ·exact c10_2 k k3 t dv d t2 dv2 d2 hdv hdv2 ht ht2 hE hF
  by_cases k6 : k = 6
  ·exact c10_6 k k6 t dv d t2 dv2 d2 hdv hdv2 ht ht2 hE hF
  by_cases k7 : k = 7
  ·exact c10_7 k k7 t dv d t2 dv2 d2 hdv hdv2 ht ht2 hE hF
  exact c10_44 k ⟨k1,k3,k6,k7⟩ t dv d t2 dv2 d2 hdv hdv2 ht ht2 hE hF
 ·rw [c10_no k k2 t dv d t2 dv2 d2 hdv hdv2 ht ht2 h]
  unfold withB
  by_cases hE : valE k t d false = 0
  ·by_cases hF : valE k2 t2 d2 true = 0
   ·rw [decide_eq_false (fun e=>h ⟨hE,hF,e⟩),Bool.and_false,Bool.false_and]
   ·rw [decide_eq_false hF,Bool.and_false,Bool.false_and,Bool.false_and]
  ·rw [decide_eq_false hE,Bool.false_and,Bool.false_and,Bool.false_and]
end Go.Mini.Nm

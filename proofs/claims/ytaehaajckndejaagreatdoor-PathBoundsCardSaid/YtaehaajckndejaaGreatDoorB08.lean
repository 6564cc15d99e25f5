/- no chain of more than six, no pool of more than thirty-two: the law by that interpreter (part 8): what the program's functions answer, or plain laws of it; no conditions. -/
import Derived.Test.YtaehaajckndejaaGreatDoorB04
import Derived.Test.YtaehaajckndejaaGreatDoorB02
import Derived.Test.YtaehaajckndejaaGreatDoorB07
set_option linter.all false
namespace Go.Mini
open Go Go.Proofs.YtaehaajckndejaaGreatDoor
set_option maxRecDepth 100000
set_option maxHeartbeats 4000000
theorem useK {Q : Prog} {R k b K st rhs} (h : ∀ K',K' = K→fin R (RunL Q k b K' st) = rhs) : fin R (RunL Q k b K st) = rhs := h K rfl
theorem loopR {α β γ δ : Type} {x rhs : δ} (L : List α) (g : β→α→β ⊕ γ) (S : β→Nat→δ) (T : γ→δ) (I : β→Nat→Prop) (step : ∀ b i x,I b i→L[i]? = some x→After I S T (S b i) (i + 1) (g b x)) (b : β) (h0 : I b 0)
  (hx : x = S b 0) (h1 : ∀ s,foldE g b L = .inl s→I s L.length→S s L.length = rhs) (h2 : ∀ c,foldE g b L = .inr c→T c = rhs) : x = rhs := by
 have h := loopI L g S T I step b h0
 rw [hx]
 cases hg : foldE g b L with
 | inl s=>rw [hg] at h; rw [h.2]; exact h1 s hg h.1
 | inr c=>rw [hg] at h; exact h.trans (h2 c hg)
theorem canon_cong {k : List (Nat × KMode)} {st : DS} {V : List (Nat × MV)} {O : List (Nat × Obj)} {nx : Nat} (hV : (canon k st).V = V) (hO : (canon k st).O = O) (hn : (canon k st).nx = nx) : canon k st = ⟨V,[],O,nx⟩ := by
 subst hV; subst hO; subst hn; rfl
theorem signed0 : Call Q0 30 [(MV.agg [.int .i64 0,.int .i64 0,.nilsl,.nilsl,.int .i64 0,.int .i64 0,.int .i64 0,.nilsl,.bool false,.int .i64 0,.int .i64 0,.nilsl,.nilsl,.nilsl,.nilsl]),.int .i64 0,.nilsl] = some (.bool false) := Call_iff.2 ⟨1000,by kernel_rfl⟩
theorem signed1 : Call Q 30 [(MV.agg [.int .i64 0,.int .i64 0,.nilsl,.nilsl,.int .i64 0,.int .i64 0,.int .i64 0,.nilsl,.bool false,.int .i64 0,.int .i64 0,.nilsl,.nilsl,.nilsl,.nilsl]),.int .i64 0,.nilsl] = some (.bool false) := Call_iff.2 ⟨1000,by kernel_rfl⟩
theorem same0 : Call Q0 29 [.nilsl,.nilsl] = some (.bool true) := Call_iff.2 ⟨100,by kernel_rfl⟩
theorem same1 : Call Q 29 [.nilsl,.nilsl] = some (.bool true) := Call_iff.2 ⟨100,by kernel_rfl⟩
theorem rep_get {n i : Nat} (h : i < n) : (List.replicate n zc)[i]? = some zc := by rw [List.getElem?_replicate,if_pos h]
def R_6 : List (Nat × Option (Bool × Nat) × PK) := [(6,none,.other)]
theorem issued_n (n : Nat) (hn : n < 1000000) : Call Q0 16 [(MV.agg [.int .i64 0,.int .i64 0,.nilsl,.nilsl,.int .i64 0,.int .i64 0,.int .i64 0,.nilsl,.bool false,.int .i64 0,.int .i64 0,.nilsl,.nilsl,.nilsl,.nilsl]),.sl 15 (List.replicate n zc),.int .i64 46] = some (.int .i64 (if n = 0 then 46 else 40)) := by
 have hlen : (List.replicate n zc).length = n := List.length_replicate
 rw [Call_fn Q0 (m := m16) rfl rfl]
 apply hide; intro rhs hrhs
 simp (maxSteps := 4000000) (disch := first | omega | exact ok_of (by kernel_rfl) | decide) only [bA.u,seval,cut,if_pos,if_neg,m16,Run_loop,hlen]
 refine useK fun K hK=>?_
 refine loopR (γ := Empty) (List.range n) (fun (u : Unit) _=>.inl u) (fun _ i=>fin R_6 (RunL Q0 m16k0 m16b0 K ⟨[(3,.ptr 0 0),(7,.int .i64 (if i = 0 then 46 else 40)),(11,.sl 15 (List.replicate n zc)),(12,.int .i64 n),(13,.int .i64 (i : Nat))],[],[(0,.cells [.int .i64 0,.int .i64 0,.nilsl,.nilsl,.int .i64 0,.int .i64 0,.int .i64 0,.nilsl,.bool false,.int .i64 0,.int .i64 0,.nilsl,.nilsl,.nilsl,.nilsl])],2⟩)) (fun c=>nomatch c) (fun _ _=>True) ?_ () trivial (congrArg (fin _) (RunL_canon (canon_cong (by kernel_rfl) (by kernel_rfl) (by kernel_rfl)))) ?_ (fun c=>nomatch c)
 ·intro _ i x _ hg
  have hi : i < n := by have := (List.getElem?_eq_some_iff.1 hg).1; simpa using this
  have hg' : (List.replicate n zc)[i]? = some (MV.agg [.int .i64 0,.int .i64 0,.nilsl,.nilsl,.int .i64 0,.int .i64 0,.int .i64 0,.nilsl,.bool false,.int .i64 0,.int .i64 0,.nilsl,.nilsl,.nilsl,.nilsl]) := rep_get hi
  have hlt : decide ((i : Int) < (n : Int)) = true := by simp; omega
  have e9 : ((i + 1 : Nat) : Int) = (i : Int) + 1 := rfl
  have hs := signed0
  have hd := same0
  refine ⟨trivial,?_⟩
  dsimp only
  rw [e9,if_neg (show ¬ i + 1 = 0 by omega)]
  clear hK hrhs
  obtain ⟨b',hb'⟩ : ∃ b',b' = m16b0 := ⟨_,rfl⟩
  rw [RunL_eq,show Item.lp m16k0 m16b0 = Item.lp m16k0 b' by rw [hb']]
  apply hide; intro rhs hrhs
  simp (maxSteps := 4000000) (disch := first | omega | exact ok_of (by kernel_rfl) | decide) only [bA.u,seval,cut,if_pos,if_neg,m16b0,R_6,hlt,hg',hlen,hs,hd]
  repeat' ((with_reducible first | refine sp ?_ ?_ | fail) <;> intro hx <;> (try simp only [bI.u] at hx) <;> (first | (exfalso; first | omega | with_reducible contradiction) | (try simp (maxSteps := 4000000) (disch := first | omega | exact ok_of (by kernel_rfl) | decide) only [bA.u,seval,cut,if_pos,if_neg,hx,m16b0,R_6,hlt,hg',hlen,hs,hd])))
  all_goals first | (exfalso; first | omega | with_reducible contradiction) | (subst hrhs; (subst hb'; refine (congrArg (fin _) (Run_lp Q0 _ _ _ _)).trans ?_; exact congrArg (fin R_6) (RunL_canon (canon_cong (by kernel_rfl) (by kernel_rfl) (by kernel_rfl)))))
 ·intro s _ _
  rw [List.length_range]
  subst hK
  rw [hrhs]
  have hlt : decide ((n : Int) < (n : Int)) = false := by simp
  clear hrhs
  obtain ⟨b',hb'⟩ : ∃ b',b' = m16b0 := ⟨_,rfl⟩
  rw [RunL_eq,show Item.lp m16k0 m16b0 = Item.lp m16k0 b' by rw [hb']]
  apply hide; intro rhs hrhs
  simp (maxSteps := 4000000) (disch := first | omega | exact ok_of (by kernel_rfl) | decide) only [bA.u,seval,cut,if_pos,if_neg,m16b0,R_6,hlt]
  repeat' ((with_reducible first | refine sp ?_ ?_ | fail) <;> intro hx <;> (try simp only [bI.u] at hx) <;> (first | (exfalso; first | omega | with_reducible contradiction) | (try simp (maxSteps := 4000000) (disch := first | omega | exact ok_of (by kernel_rfl) | decide) only [bA.u,seval,cut,if_pos,if_neg,hx,m16b0,R_6,hlt])))
  all_goals first | (exfalso; first | omega | with_reducible contradiction) | (subst hrhs; rfl)
end Go.Mini
namespace Go.Proofs.YtaehaajckndejaaGreatDoor
open Go Go.Mini Go.Proofs
set_option maxRecDepth 100000
theorem zcs_eq {r : MV} {n : Nat} (h : zcs r = some n) : (r = .nilsl ∧ n = 0) ∨ (r = .sl 15 (List.replicate n zc) ∧ n < 1000000) := by
 unfold zcs at h
 split at h
 ·cases h; exact .inl ⟨rfl,rfl⟩
 ·rename_i l
  split at h
  ·rename_i hl
   cases h
   exact .inr ⟨by rw [← all_zc hl.1],hl.2⟩
  ·cases h
 ·cases h
theorem pVal1_ok {args : List MV} {r : MV} (h : pVal1 args = some r) : FunOK Tryz.prog Gd 6 args r := by
 refine pVal_ok (fun m v hv=>?_) h
 have hv' : v = if m = 0 then 46 else 40 := by
  split at hv
  ·rename_i hm; cases hv; rw [if_pos hm]
  ·rename_i hm; cases hv; rw [if_neg hm]
 have hR : ∀ R,zcs R = some m→Mini.Call Q0 16 [zc,R,.int .i64 46] = some (.int .i64 v) := by
  intro R hR
  rw [hv']
  rcases zcs_eq hR with ⟨rfl,rfl⟩ | ⟨rfl,hm⟩
  ·exact Call_iff.2 ⟨300,by kernel_rfl⟩
  ·exact issued_n m hm
 refine ⟨?_,?_,?_,fun R h=>call_ok hQ0 (hR R h)⟩ <;> (rw [hv']; split <;> decide)
theorem hQ : ProgOK Tryz.prog Gd Q where
 fn f m _ h := code_ok f m h
 fnH f m h := code_ok f m h
 tab := tabs_at
 prim f g h args r hr := by
  unfold Q prims at h
  simp only at h
  split at h
  ·obtain rfl := Option.some.inj h; exact pAtoi_ok hr
  ·obtain rfl := Option.some.inj h; exact pItoa_ok hr
  ·obtain rfl := Option.some.inj h; exact pSplit_ok hr
  ·obtain rfl := Option.some.inj h; exact pValid_ok hr
  ·obtain rfl := Option.some.inj h; exact pIndexByte_ok hr
  ·obtain rfl := Option.some.inj h; exact pRepeat_ok hr
  ·obtain rfl := Option.some.inj h; exact pCut_ok hr
  ·obtain rfl := Option.some.inj h; exact pIndexAny_ok hr
  ·obtain rfl := Option.some.inj h; exact pVal1_ok hr
  ·cases h
theorem anchor_true : Mini.Call Q 5 [] = some (.bool true) := Call_iff.2 ⟨300,by kernel_rfl⟩
end Go.Proofs.YtaehaajckndejaaGreatDoor
namespace Go.Mini
open Go Go.Proofs.YtaehaajckndejaaGreatDoor
set_option maxRecDepth 100000
set_option maxHeartbeats 4000000
theorem useH {n R k b K st rhs} (h : ∀ K',K' = K→finH n R (RunL Q k b K' st) = rhs) : finH n R (RunL Q k b K st) = rhs := h K rfl
theorem rep_all (n : Nat) : (List.replicate n zc).all isZc = true := by
 rw [List.all_eq_true]
 intro x hx
 rw [List.eq_of_mem_replicate hx]
 rfl
theorem c_val (n m : Nat) (hn : n < 1000000) (hm : m < 1000000) : Call Q 6 [(.sl 15 (List.replicate n (MV.agg [.int .i64 0,.int .i64 0,.nilsl,.nilsl,.int .i64 0,.int .i64 0,.int .i64 0,.nilsl,.bool false,.int .i64 0,.int .i64 0,.nilsl,.nilsl,.nilsl,.nilsl]))),(.sl 15 (List.replicate m (MV.agg [.int .i64 0,.int .i64 0,.nilsl,.nilsl,.int .i64 0,.int .i64 0,.int .i64 0,.nilsl,.bool false,.int .i64 0,.int .i64 0,.nilsl,.nilsl,.nilsl,.nilsl]))),.int .i64 0] = some (.int .i64 (if n = 0 ∨ 6 < n then 45 else if m = 0 then 46 else 40)) := by
 refine (Call_prim Q (g := pVal1) rfl).trans ?_
 have z : ∀ k,k < 1000000→zcs (.sl 15 (List.replicate k zc)) = some k := by
  intro k hk
  show (if (List.replicate k zc).all isZc = true ∧ (List.replicate k zc).length < 1000000 then some (List.replicate k zc).length else none) = _
  rw [List.length_replicate,if_pos ⟨rep_all k,hk⟩]
 show (match zcC (.sl 15 (List.replicate n zc)),zcs (.sl 15 (List.replicate m zc)) with
  | some n,some m=>if n = 0 ∨ 6 < n then some (MV.int .i64 45) else ((if m = 0 then some 46 else some 40 : Option Int)).map (.int .i64)
  | _,_=>none) = _
 rw [show zcC (.sl 15 (List.replicate n zc)) = some n from z n hn,z m hm]
 simp only
 by_cases h1 : n = 0 ∨ 6 < n
 ·rw [if_pos h1,if_pos h1]
 ·rw [if_neg h1,if_neg h1]
  by_cases h2 : m = 0
  ·rw [if_pos h2,if_pos h2]; rfl
  ·rw [if_neg h2,if_neg h2]; rfl
theorem c_cont (i : Int) : Call Q 32 [.sl 1 [],.int .i64 i] = some (.bool false) := Call_iff.2 ⟨100,by kernel_rfl⟩
def R_f : List (Nat × Option (Bool × Nat) × PK) := [(6,none,.other)]
theorem h_from (n m : Nat) (hn : n ≤ 32) (hm : m ≤ 32) : CallH Q 20 [.ptr 0 0,.fsl 15 [(MV.agg [.int .i64 0,.int .i64 0,.nilsl,.nilsl,.int .i64 0,.int .i64 0,.int .i64 0,.nilsl,.bool false,.int .i64 0,.int .i64 0,.nilsl,.nilsl,.nilsl,.nilsl])],.nilsl] [.cells [(.sl 15 (List.replicate n (MV.agg [.int .i64 0,.int .i64 0,.nilsl,.nilsl,.int .i64 0,.int .i64 0,.int .i64 0,.nilsl,.bool false,.int .i64 0,.int .i64 0,.nilsl,.nilsl,.nilsl,.nilsl]))),(.sl 15 (List.replicate m (MV.agg [.int .i64 0,.int .i64 0,.nilsl,.nilsl,.int .i64 0,.int .i64 0,.int .i64 0,.nilsl,.bool false,.int .i64 0,.int .i64 0,.nilsl,.nilsl,.nilsl,.nilsl]))),.int .i64 0,.int .i64 0]] = some (.nilsl,[some (.cells [(.sl 15 (List.replicate n (MV.agg [.int .i64 0,.int .i64 0,.nilsl,.nilsl,.int .i64 0,.int .i64 0,.int .i64 0,.nilsl,.bool false,.int .i64 0,.int .i64 0,.nilsl,.nilsl,.nilsl,.nilsl]))),(.sl 15 (List.replicate m (MV.agg [.int .i64 0,.int .i64 0,.nilsl,.nilsl,.int .i64 0,.int .i64 0,.int .i64 0,.nilsl,.bool false,.int .i64 0,.int .i64 0,.nilsl,.nilsl,.nilsl,.nilsl]))),.int .i64 0,.int .i64 1])]) := by
 have hlen : (List.replicate n (MV.agg [.int .i64 0,.int .i64 0,.nilsl,.nilsl,.int .i64 0,.int .i64 0,.int .i64 0,.nilsl,.bool false,.int .i64 0,.int .i64 0,.nilsl,.nilsl,.nilsl,.nilsl])).length = n := List.length_replicate
 have hv0 : Call Q 6 [.fsl 15 [(MV.agg [.int .i64 0,.int .i64 0,.nilsl,.nilsl,.int .i64 0,.int .i64 0,.int .i64 0,.nilsl,.bool false,.int .i64 0,.int .i64 0,.nilsl,.nilsl,.nilsl,.nilsl])],(.sl 15 (List.replicate m (MV.agg [.int .i64 0,.int .i64 0,.nilsl,.nilsl,.int .i64 0,.int .i64 0,.int .i64 0,.nilsl,.bool false,.int .i64 0,.int .i64 0,.nilsl,.nilsl,.nilsl,.nilsl]))),.int .i64 0] = Call Q 6 [.sl 15 (List.replicate 1 (MV.agg [.int .i64 0,.int .i64 0,.nilsl,.nilsl,.int .i64 0,.int .i64 0,.int .i64 0,.nilsl,.bool false,.int .i64 0,.int .i64 0,.nilsl,.nilsl,.nilsl,.nilsl])),(.sl 15 (List.replicate m (MV.agg [.int .i64 0,.int .i64 0,.nilsl,.nilsl,.int .i64 0,.int .i64 0,.int .i64 0,.nilsl,.bool false,.int .i64 0,.int .i64 0,.nilsl,.nilsl,.nilsl,.nilsl]))),.int .i64 0] := by
  rw [Call_prim Q (g := pVal1) rfl,Call_prim Q (g := pVal1) rfl]; rfl
 have hv1 := c_val 1 m (by decide) (by omega)
 unfold zc at hv1
 replace hv0 := hv0.trans (c_val 1 m (by decide) (by omega))
 clear hv1
 obtain ⟨e,he,hv⟩ : ∃ e : Int,(e == 0) = false ∧ Call Q 6 [.fsl 15 [(MV.agg [.int .i64 0,.int .i64 0,.nilsl,.nilsl,.int .i64 0,.int .i64 0,.int .i64 0,.nilsl,.bool false,.int .i64 0,.int .i64 0,.nilsl,.nilsl,.nilsl,.nilsl])],(.sl 15 (List.replicate m (MV.agg [.int .i64 0,.int .i64 0,.nilsl,.nilsl,.int .i64 0,.int .i64 0,.int .i64 0,.nilsl,.bool false,.int .i64 0,.int .i64 0,.nilsl,.nilsl,.nilsl,.nilsl]))),.int .i64 0] = some (.int .i64 e) := by
  refine ⟨_,?_,hv0⟩
  rw [if_neg (by decide)]
  split <;> rfl
 clear hv0
 rw [CallH_fn Q (m := m20) rfl]
 apply hide; intro rhs hrhs
 simp (maxSteps := 4000000) (disch := first | omega | exact ok_of (by kernel_rfl) | decide) only [bA.u,seval,cut,if_pos,if_neg,m20,Run_loop,hlen,hv,he,Run_nil,reach]
 refine useH fun K hK=>?_
 refine loopR (γ := Empty) (List.range n) (fun (u : Unit) _=>.inl u) (fun _ i=>finH 1 R_f (RunL Q m20k0 m20b0 K ⟨[(0,.ptr 0 0),(1,.fsl 15 [(MV.agg [.int .i64 0,.int .i64 0,.nilsl,.nilsl,.int .i64 0,.int .i64 0,.int .i64 0,.nilsl,.bool false,.int .i64 0,.int .i64 0,.nilsl,.nilsl,.nilsl,.nilsl])]),(2,.sl 1 []),(7,.ptr 1 0),(47,(.sl 15 (List.replicate n (MV.agg [.int .i64 0,.int .i64 0,.nilsl,.nilsl,.int .i64 0,.int .i64 0,.int .i64 0,.nilsl,.bool false,.int .i64 0,.int .i64 0,.nilsl,.nilsl,.nilsl,.nilsl])))),(48,.int .i64 n),(49,.int .i64 (i : Nat))],[],[(0,.cells [(.sl 15 (List.replicate n (MV.agg [.int .i64 0,.int .i64 0,.nilsl,.nilsl,.int .i64 0,.int .i64 0,.int .i64 0,.nilsl,.bool false,.int .i64 0,.int .i64 0,.nilsl,.nilsl,.nilsl,.nilsl]))),(.sl 15 (List.replicate m (MV.agg [.int .i64 0,.int .i64 0,.nilsl,.nilsl,.int .i64 0,.int .i64 0,.int .i64 0,.nilsl,.bool false,.int .i64 0,.int .i64 0,.nilsl,.nilsl,.nilsl,.nilsl]))),.int .i64 0,.int .i64 1]),(1,.cells [.int .i64 0,.int .i64 0,.nilsl,.nilsl,.int .i64 0,.int .i64 0,.int .i64 0,.nilsl,.bool false,.int .i64 0,.int .i64 0,.nilsl,.nilsl,.nilsl,.nilsl])],3⟩)) (fun c=>nomatch c) (fun _ _=>True) ?_ () trivial (congrArg (finH _ _) (RunL_canon (canon_cong (by kernel_rfl) (by kernel_rfl) (by kernel_rfl)))) ?_ (fun c=>nomatch c)
 ·intro _ i x _ hg
  have hi : i < n := by have := (List.getElem?_eq_some_iff.1 hg).1; simpa using this
  have hg' : (List.replicate n (MV.agg [.int .i64 0,.int .i64 0,.nilsl,.nilsl,.int .i64 0,.int .i64 0,.int .i64 0,.nilsl,.bool false,.int .i64 0,.int .i64 0,.nilsl,.nilsl,.nilsl,.nilsl]))[i]? = some (MV.agg [.int .i64 0,.int .i64 0,.nilsl,.nilsl,.int .i64 0,.int .i64 0,.int .i64 0,.nilsl,.bool false,.int .i64 0,.int .i64 0,.nilsl,.nilsl,.nilsl,.nilsl]) := rep_get hi
  have hlt : decide ((i : Int) < (n : Int)) = true := by simp; omega
  have e9 : ((i + 1 : Nat) : Int) = (i : Int) + 1 := rfl
  have hs := signed1
  have hd := same1
  have hc := c_cont (i : Int)
  refine ⟨trivial,?_⟩
  dsimp only
  rw [e9]
  clear hK hrhs
  obtain ⟨b',hb'⟩ : ∃ b',b' = m20b0 := ⟨_,rfl⟩
  rw [RunL_eq,show Item.lp m20k0 m20b0 = Item.lp m20k0 b' by rw [hb']]
  apply hide; intro rhs hrhs
  simp (maxSteps := 4000000) (disch := first | omega | exact ok_of (by kernel_rfl) | decide) only [bA.u,seval,cut,if_pos,if_neg,m20b0,R_f,hlt,hg',hlen,hs,hd,hc,Run_nil,reach]
  repeat' ((with_reducible first | refine sp ?_ ?_ | fail) <;> intro hx <;> (try simp only [bI.u] at hx) <;> (first | (exfalso; first | omega | with_reducible contradiction) | (try simp (maxSteps := 4000000) (disch := first | omega | exact ok_of (by kernel_rfl) | decide) only [bA.u,seval,cut,if_pos,if_neg,hx,m20b0,R_f,hlt,hg',hlen,hs,hd,hc,Run_nil,reach])))
  all_goals first | (exfalso; first | omega | with_reducible contradiction) | (subst hrhs; (subst hb'; refine (congrArg (finH _ _) (Run_lp Q _ _ _ _)).trans ?_; exact congrArg (finH 1 R_f) (RunL_canon (canon_cong (by kernel_rfl) (by kernel_rfl) (by kernel_rfl)))))
 ·intro s _ _
  rw [List.length_range]
  subst hK
  rw [hrhs]
  have hlt : decide ((n : Int) < (n : Int)) = false := by simp
  clear hrhs
  obtain ⟨b',hb'⟩ : ∃ b',b' = m20b0 := ⟨_,rfl⟩
  rw [RunL_eq,show Item.lp m20k0 m20b0 = Item.lp m20k0 b' by rw [hb']]
  apply hide; intro rhs hrhs
  simp (maxSteps := 4000000) (disch := first | omega | exact ok_of (by kernel_rfl) | decide) only [bA.u,seval,cut,if_pos,if_neg,m20b0,R_f,hlt,Run_nil,reach]
  repeat' ((with_reducible first | refine sp ?_ ?_ | fail) <;> intro hx <;> (try simp only [bI.u] at hx) <;> (first | (exfalso; first | omega | with_reducible contradiction) | (try simp (maxSteps := 4000000) (disch := first | omega | exact ok_of (by kernel_rfl) | decide) only [bA.u,seval,cut,if_pos,if_neg,hx,m20b0,R_f,hlt,Run_nil,reach])))
  all_goals first | (exfalso; first | omega | with_reducible contradiction) | (subst hrhs; rfl)
theorem c_build (n m : Nat) (hn : n < 1000) (hm : m < 1000) : Call Q 7 [(MV.agg [.int .i64 0,.int .i64 0,.nilsl,.nilsl,.int .i64 0,.int .i64 0,.int .i64 0,.nilsl,.bool false,.int .i64 0,.int .i64 0,.nilsl,.nilsl,.nilsl,.nilsl]),(.sl 15 (List.replicate n (MV.agg [.int .i64 0,.int .i64 0,.nilsl,.nilsl,.int .i64 0,.int .i64 0,.int .i64 0,.nilsl,.bool false,.int .i64 0,.int .i64 0,.nilsl,.nilsl,.nilsl,.nilsl]))),(.sl 15 (List.replicate m (MV.agg [.int .i64 0,.int .i64 0,.nilsl,.nilsl,.int .i64 0,.int .i64 0,.int .i64 0,.nilsl,.bool false,.int .i64 0,.int .i64 0,.nilsl,.nilsl,.nilsl,.nilsl]))),.int .i64 0] = some (.tup [.sl 15 [],.int .i64 (if 32 < n ∨ 32 < m then 26 else 46)]) := by
 have hlen : (List.replicate n (MV.agg [.int .i64 0,.int .i64 0,.nilsl,.nilsl,.int .i64 0,.int .i64 0,.int .i64 0,.nilsl,.bool false,.int .i64 0,.int .i64 0,.nilsl,.nilsl,.nilsl,.nilsl])).length = n := List.length_replicate
 have hlem : (List.replicate m (MV.agg [.int .i64 0,.int .i64 0,.nilsl,.nilsl,.int .i64 0,.int .i64 0,.int .i64 0,.nilsl,.bool false,.int .i64 0,.int .i64 0,.nilsl,.nilsl,.nilsl,.nilsl])).length = m := List.length_replicate
 rw [Call_fn Q (m := m7) rfl rfl]
 by_cases h1 : 32 < n
 ·have h1' : decide (32 < (n : Int)) = true := by simp; omega
  rw [if_pos (.inl h1)]
  apply hide; intro rhs hrhs
  simp (maxSteps := 4000000) (disch := first | omega | exact ok_of (by kernel_rfl) | decide) only [bA.u,seval,cut,if_pos,if_neg,m7,hlen,hlem,h1',Run_nil,reach]
  repeat' ((with_reducible first | refine sp ?_ ?_ | fail) <;> intro hx <;> (try simp only [bI.u] at hx) <;> (first | (exfalso; first | omega | with_reducible contradiction) | (try simp (maxSteps := 4000000) (disch := first | omega | exact ok_of (by kernel_rfl) | decide) only [bA.u,seval,cut,if_pos,if_neg,hx,m7,hlen,hlem,h1',Run_nil,reach])))
  all_goals first | (exfalso; first | omega | with_reducible contradiction) | (subst hrhs; rfl)
 have h1' : decide (32 < (n : Int)) = false := by simp; omega
 by_cases h2 : 32 < m
 ·have h2' : decide (32 < (m : Int)) = true := by simp; omega
  rw [if_pos (.inr h2)]
  apply hide; intro rhs hrhs
  simp (maxSteps := 4000000) (disch := first | omega | exact ok_of (by kernel_rfl) | decide) only [bA.u,seval,cut,if_pos,if_neg,m7,hlen,hlem,h1',h2',Run_nil,reach]
  repeat' ((with_reducible first | refine sp ?_ ?_ | fail) <;> intro hx <;> (try simp only [bI.u] at hx) <;> (first | (exfalso; first | omega | with_reducible contradiction) | (try simp (maxSteps := 4000000) (disch := first | omega | exact ok_of (by kernel_rfl) | decide) only [bA.u,seval,cut,if_pos,if_neg,hx,m7,hlen,hlem,h1',h2',Run_nil,reach])))
  all_goals first | (exfalso; first | omega | with_reducible contradiction) | (subst hrhs; rfl)
 have h2' : decide (32 < (m : Int)) = false := by simp; omega
 have hf := h_from n m (by omega) (by omega)
 rw [if_neg (by omega)]
 apply hide; intro rhs hrhs
 simp (maxSteps := 4000000) (disch := first | omega | exact ok_of (by kernel_rfl) | decide) only [bA.u,seval,cut,if_pos,if_neg,m7,hlen,hlem,h1',h2',hf,Run_nil,reach]
 repeat' ((with_reducible first | refine sp ?_ ?_ | fail) <;> intro hx <;> (try simp only [bI.u] at hx) <;> (first | (exfalso; first | omega | with_reducible contradiction) | (try simp (maxSteps := 4000000) (disch := first | omega | exact ok_of (by kernel_rfl) | decide) only [bA.u,seval,cut,if_pos,if_neg,hx,m7,hlen,hlem,h1',h2',hf,Run_nil,reach])))
 all_goals first | (exfalso; first | omega | with_reducible contradiction) | (subst hrhs; rfl)
end Go.Mini
namespace Go.Mini
open Go Go.Proofs.YtaehaajckndejaaGreatDoor
set_option maxRecDepth 100000
set_option maxHeartbeats 4000000
theorem c3n (n m : Nat) (hn : n ≤ 50) (hm : m ≤ 50) : Call Q 3 [.int .i64 n,.int .i64 m] = some (.bool true) := by
 have h5 := anchor_true
 have hv := c_val n m (by omega) (by omega)
 have hb := c_build n m (by omega) (by omega)
 have n0 : decide ((n : Int) < 0) = false := by rw [decide_eq_false_iff_not]; omega
 have n50 : decide (50 < (n : Int)) = false := by rw [decide_eq_false_iff_not]; omega
 have m0 : decide ((m : Int) < 0) = false := by rw [decide_eq_false_iff_not]; omega
 have m50 : decide (50 < (m : Int)) = false := by rw [decide_eq_false_iff_not]; omega
 have tn : (n : Int).toNat = n := by omega
 have tm : (m : Int).toNat = m := by omega
 have hlen : (List.replicate n (MV.agg [.int .i64 0,.int .i64 0,.nilsl,.nilsl,.int .i64 0,.int .i64 0,.int .i64 0,.nilsl,.bool false,.int .i64 0,.int .i64 0,.nilsl,.nilsl,.nilsl,.nilsl])).length = n := List.length_replicate
 have hlem : (List.replicate m (MV.agg [.int .i64 0,.int .i64 0,.nilsl,.nilsl,.int .i64 0,.int .i64 0,.int .i64 0,.nilsl,.bool false,.int .i64 0,.int .i64 0,.nilsl,.nilsl,.nilsl,.nilsl])).length = m := List.length_replicate
 rw [Call_fn Q (m := m3) rfl rfl]
 by_cases a1 : n = 0
 ·have q1 : ((n : Int) == 0) = true := by rw [a1]; rfl
  rw [if_pos (.inl a1)] at hv
  by_cases a3 : 32 < m
  ·have q3 : decide (32 < (m : Int)) = true := by rw [decide_eq_true_eq]; omega
   have q4 : decide (32 < (n : Int)) = false := by rw [decide_eq_false_iff_not]; omega
   rw [if_pos (.inr a3)] at hb
   apply hide; intro rhs hrhs
   simp (maxSteps := 4000000) (disch := first | omega | exact ok_of (by kernel_rfl) | decide) only [bA.u,seval,cut,if_pos,if_neg,m3,h5,hv,hb,n0,n50,m0,m50,tn,tm,hlen,hlem,q1,q3,q4]
   repeat' ((with_reducible first | refine sp ?_ ?_ | fail) <;> intro hx <;> (try simp only [bI.u] at hx) <;> (first | (exfalso; first | omega | with_reducible contradiction) | (try simp (maxSteps := 4000000) (disch := first | omega | exact ok_of (by kernel_rfl) | decide) only [bA.u,seval,cut,if_pos,if_neg,hx,m3,h5,hv,hb,n0,n50,m0,m50,tn,tm,hlen,hlem,q1,q3,q4])))
   all_goals first | (exfalso; first | omega | with_reducible contradiction) | (subst hrhs; rfl)
  ·have q3 : decide (32 < (m : Int)) = false := by rw [decide_eq_false_iff_not]; omega
   have q4 : decide (32 < (n : Int)) = false := by rw [decide_eq_false_iff_not]; omega
   rw [if_neg (by omega)] at hb
   apply hide; intro rhs hrhs
   simp (maxSteps := 4000000) (disch := first | omega | exact ok_of (by kernel_rfl) | decide) only [bA.u,seval,cut,if_pos,if_neg,m3,h5,hv,hb,n0,n50,m0,m50,tn,tm,hlen,hlem,q1,q3,q4]
   repeat' ((with_reducible first | refine sp ?_ ?_ | fail) <;> intro hx <;> (try simp only [bI.u] at hx) <;> (first | (exfalso; first | omega | with_reducible contradiction) | (try simp (maxSteps := 4000000) (disch := first | omega | exact ok_of (by kernel_rfl) | decide) only [bA.u,seval,cut,if_pos,if_neg,hx,m3,h5,hv,hb,n0,n50,m0,m50,tn,tm,hlen,hlem,q1,q3,q4])))
   all_goals first | (exfalso; first | omega | with_reducible contradiction) | (subst hrhs; rfl)
 have q1 : ((n : Int) == 0) = false := by rw [beq_eq_false_iff_ne]; omega
 by_cases a2 : 6 < n
 ·have q2 : decide (6 < (n : Int)) = true := by rw [decide_eq_true_eq]; omega
  rw [if_pos (.inr a2)] at hv
  by_cases a4 : 32 < n
  ·have q4 : decide (32 < (n : Int)) = true := by rw [decide_eq_true_eq]; omega
   rw [if_pos (.inl a4)] at hb
   apply hide; intro rhs hrhs
   simp (maxSteps := 4000000) (disch := first | omega | exact ok_of (by kernel_rfl) | decide) only [bA.u,seval,cut,if_pos,if_neg,m3,h5,hv,hb,n0,n50,m0,m50,tn,tm,hlen,hlem,q1,q2,q4]
   repeat' ((with_reducible first | refine sp ?_ ?_ | fail) <;> intro hx <;> (try simp only [bI.u] at hx) <;> (first | (exfalso; first | omega | with_reducible contradiction) | (try simp (maxSteps := 4000000) (disch := first | omega | exact ok_of (by kernel_rfl) | decide) only [bA.u,seval,cut,if_pos,if_neg,hx,m3,h5,hv,hb,n0,n50,m0,m50,tn,tm,hlen,hlem,q1,q2,q4])))
   all_goals first | (exfalso; first | omega | with_reducible contradiction) | (subst hrhs; rfl)
  have q4 : decide (32 < (n : Int)) = false := by rw [decide_eq_false_iff_not]; omega
  by_cases a3 : 32 < m
  ·have q3 : decide (32 < (m : Int)) = true := by rw [decide_eq_true_eq]; omega
   rw [if_pos (.inr a3)] at hb
   apply hide; intro rhs hrhs
   simp (maxSteps := 4000000) (disch := first | omega | exact ok_of (by kernel_rfl) | decide) only [bA.u,seval,cut,if_pos,if_neg,m3,h5,hv,hb,n0,n50,m0,m50,tn,tm,hlen,hlem,q1,q2,q3,q4]
   repeat' ((with_reducible first | refine sp ?_ ?_ | fail) <;> intro hx <;> (try simp only [bI.u] at hx) <;> (first | (exfalso; first | omega | with_reducible contradiction) | (try simp (maxSteps := 4000000) (disch := first | omega | exact ok_of (by kernel_rfl) | decide) only [bA.u,seval,cut,if_pos,if_neg,hx,m3,h5,hv,hb,n0,n50,m0,m50,tn,tm,hlen,hlem,q1,q2,q3,q4])))
   all_goals first | (exfalso; first | omega | with_reducible contradiction) | (subst hrhs; rfl)
  have q3 : decide (32 < (m : Int)) = false := by rw [decide_eq_false_iff_not]; omega
  rw [if_neg (by omega)] at hb
  apply hide; intro rhs hrhs
  simp (maxSteps := 4000000) (disch := first | omega | exact ok_of (by kernel_rfl) | decide) only [bA.u,seval,cut,if_pos,if_neg,m3,h5,hv,hb,n0,n50,m0,m50,tn,tm,hlen,hlem,q1,q2,q3,q4]
  repeat' ((with_reducible first | refine sp ?_ ?_ | fail) <;> intro hx <;> (try simp only [bI.u] at hx) <;> (first | (exfalso; first | omega | with_reducible contradiction) | (try simp (maxSteps := 4000000) (disch := first | omega | exact ok_of (by kernel_rfl) | decide) only [bA.u,seval,cut,if_pos,if_neg,hx,m3,h5,hv,hb,n0,n50,m0,m50,tn,tm,hlen,hlem,q1,q2,q3,q4])))
  all_goals first | (exfalso; first | omega | with_reducible contradiction) | (subst hrhs; rfl)
 have q2 : decide (6 < (n : Int)) = false := by rw [decide_eq_false_iff_not]; omega
 have q4 : decide (32 < (n : Int)) = false := by rw [decide_eq_false_iff_not]; omega
 rw [if_neg (by omega)] at hv
 obtain ⟨e,he,hv⟩ : ∃ e : Int,(e = 46 ∨ e = 40) ∧ Call Q 6 [(.sl 15 (List.replicate n (MV.agg [.int .i64 0,.int .i64 0,.nilsl,.nilsl,.int .i64 0,.int .i64 0,.int .i64 0,.nilsl,.bool false,.int .i64 0,.int .i64 0,.nilsl,.nilsl,.nilsl,.nilsl]))),(.sl 15 (List.replicate m (MV.agg [.int .i64 0,.int .i64 0,.nilsl,.nilsl,.int .i64 0,.int .i64 0,.int .i64 0,.nilsl,.bool false,.int .i64 0,.int .i64 0,.nilsl,.nilsl,.nilsl,.nilsl]))),.int .i64 0] = some (.int .i64 e) := ⟨_,by split <;> simp,hv⟩
 by_cases a3 : 32 < m
 ·have q3 : decide (32 < (m : Int)) = true := by rw [decide_eq_true_eq]; omega
  rw [if_pos (.inr a3)] at hb
  rcases he with rfl | rfl
  all_goals (
   apply hide; intro rhs hrhs
   simp (maxSteps := 4000000) (disch := first | omega | exact ok_of (by kernel_rfl) | decide) only [bA.u,seval,cut,if_pos,if_neg,m3,h5,hv,hb,n0,n50,m0,m50,tn,tm,hlen,hlem,q1,q2,q3,q4]
   repeat' ((with_reducible first | refine sp ?_ ?_ | fail) <;> intro hx <;> (try simp only [bI.u] at hx) <;> (first | (exfalso; first | omega | with_reducible contradiction) | (try simp (maxSteps := 4000000) (disch := first | omega | exact ok_of (by kernel_rfl) | decide) only [bA.u,seval,cut,if_pos,if_neg,hx,m3,h5,hv,hb,n0,n50,m0,m50,tn,tm,hlen,hlem,q1,q2,q3,q4])))
   all_goals first | (exfalso; first | omega | with_reducible contradiction) | (subst hrhs; rfl))
 ·have q3 : decide (32 < (m : Int)) = false := by rw [decide_eq_false_iff_not]; omega
  rw [if_neg (by omega)] at hb
  rcases he with rfl | rfl
  all_goals (
   apply hide; intro rhs hrhs
   simp (maxSteps := 4000000) (disch := first | omega | exact ok_of (by kernel_rfl) | decide) only [bA.u,seval,cut,if_pos,if_neg,m3,h5,hv,hb,n0,n50,m0,m50,tn,tm,hlen,hlem,q1,q2,q3,q4]
   repeat' ((with_reducible first | refine sp ?_ ?_ | fail) <;> intro hx <;> (try simp only [bI.u] at hx) <;> (first | (exfalso; first | omega | with_reducible contradiction) | (try simp (maxSteps := 4000000) (disch := first | omega | exact ok_of (by kernel_rfl) | decide) only [bA.u,seval,cut,if_pos,if_neg,hx,m3,h5,hv,hb,n0,n50,m0,m50,tn,tm,hlen,hlem,q1,q2,q3,q4])))
   all_goals first | (exfalso; first | omega | with_reducible contradiction) | (subst hrhs; rfl))
theorem c3 (n m : Int) : Call Q 3 [.int .i64 n,.int .i64 m] = some (.bool true) := by
 have h5 := anchor_true
 by_cases h : 0 ≤ n ∧ n ≤ 50 ∧ 0 ≤ m ∧ m ≤ 50
 ·obtain ⟨a,b,c,d⟩ := h
  obtain ⟨n,rfl⟩ := Int.eq_ofNat_of_zero_le a
  obtain ⟨m,rfl⟩ := Int.eq_ofNat_of_zero_le c
  exact c3n n m (by omega) (by omega)
 rw [Call_fn Q (m := m3) rfl rfl]
 by_cases a1 : n < 0
 ·have q1 : decide (n < 0) = true := by simpa using a1
  apply hide; intro rhs hrhs
  simp (maxSteps := 4000000) (disch := first | omega | exact ok_of (by kernel_rfl) | decide) only [bA.u,seval,cut,if_pos,if_neg,m3,h5,q1]
  repeat' ((with_reducible first | refine sp ?_ ?_ | fail) <;> intro hx <;> (try simp only [bI.u] at hx) <;> (first | (exfalso; first | omega | with_reducible contradiction) | (try simp (maxSteps := 4000000) (disch := first | omega | exact ok_of (by kernel_rfl) | decide) only [bA.u,seval,cut,if_pos,if_neg,hx,m3,h5,q1])))
  all_goals first | (exfalso; first | omega | with_reducible contradiction) | (subst hrhs; rfl)
 have q1 : decide (n < 0) = false := by simpa using a1
 by_cases a2 : 50 < n
 ·have q2 : decide (50 < n) = true := by simpa using a2
  apply hide; intro rhs hrhs
  simp (maxSteps := 4000000) (disch := first | omega | exact ok_of (by kernel_rfl) | decide) only [bA.u,seval,cut,if_pos,if_neg,m3,h5,q1,q2]
  repeat' ((with_reducible first | refine sp ?_ ?_ | fail) <;> intro hx <;> (try simp only [bI.u] at hx) <;> (first | (exfalso; first | omega | with_reducible contradiction) | (try simp (maxSteps := 4000000) (disch := first | omega | exact ok_of (by kernel_rfl) | decide) only [bA.u,seval,cut,if_pos,if_neg,hx,m3,h5,q1,q2])))
  all_goals first | (exfalso; first | omega | with_reducible contradiction) | (subst hrhs; rfl)
 have q2 : decide (50 < n) = false := by simpa using a2
 by_cases a3 : m < 0
 ·have q3 : decide (m < 0) = true := by simpa using a3
  apply hide; intro rhs hrhs
  simp (maxSteps := 4000000) (disch := first | omega | exact ok_of (by kernel_rfl) | decide) only [bA.u,seval,cut,if_pos,if_neg,m3,h5,q1,q2,q3]
  repeat' ((with_reducible first | refine sp ?_ ?_ | fail) <;> intro hx <;> (try simp only [bI.u] at hx) <;> (first | (exfalso; first | omega | with_reducible contradiction) | (try simp (maxSteps := 4000000) (disch := first | omega | exact ok_of (by kernel_rfl) | decide) only [bA.u,seval,cut,if_pos,if_neg,hx,m3,h5,q1,q2,q3])))
  all_goals first | (exfalso; first | omega | with_reducible contradiction) | (subst hrhs; rfl)
 have q3 : decide (m < 0) = false := by simpa using a3
 have q4 : decide (50 < m) = true := by simp; omega
 apply hide; intro rhs hrhs
 simp (maxSteps := 4000000) (disch := first | omega | exact ok_of (by kernel_rfl) | decide) only [bA.u,seval,cut,if_pos,if_neg,m3,h5,q1,q2,q3,q4]
 repeat' ((with_reducible first | refine sp ?_ ?_ | fail) <;> intro hx <;> (try simp only [bI.u] at hx) <;> (first | (exfalso; first | omega | with_reducible contradiction) | (try simp (maxSteps := 4000000) (disch := first | omega | exact ok_of (by kernel_rfl) | decide) only [bA.u,seval,cut,if_pos,if_neg,hx,m3,h5,q1,q2,q3,q4])))
 all_goals first | (exfalso; first | omega | with_reducible contradiction) | (subst hrhs; rfl)
end Go.Mini

/- a certificate's names keep to limits as the document says: the law by that interpreter (part 16): what the program's functions answer, or plain laws of it; no conditions. -/
import Derived.Test.YtaehaajckndejaaGreatDoorA11
set_option linter.all false
namespace Go.Mini.Nm
open Go Go.Mini Go.Proofs.YtaehaajckndejaaGreatDoor
set_option maxRecDepth 100000
set_option maxHeartbeats 4000000
theorem useK {R k b K st rhs} (h : ∀ K',K' = K→fin R (RunL Q k b K' st) = rhs) : fin R (RunL Q k b K st) = rhs := h K rfl
theorem loopR {α β γ δ : Type} {x rhs : δ} (L : List α) (g : β→α→β ⊕ γ) (S : β→Nat→δ) (T : γ→δ) (I : β→Nat→Prop) (step : ∀ b i x,I b i→L[i]? = some x→After I S T (S b i) (i + 1) (g b x)) (b : β) (h0 : I b 0)
  (hx : x = S b 0) (h1 : ∀ s,foldE g b L = .inl s→I s L.length→S s L.length = rhs) (h2 : ∀ c,foldE g b L = .inr c→T c = rhs) : x = rhs := by
 have h := loopI L g S T I step b h0
 rw [hx]
 cases hg : foldE g b L with
 | inl s=>rw [hg] at h; rw [h.2]; exact h1 s hg h.1
 | inr c=>rw [hg] at h; exact h.trans (h2 c hg)
def gAll {α : Type} (p : α→Bool) (_ : Unit) (x : α) : Unit ⊕ Unit := if p x = true then .inl () else .inr ()
theorem gAll_fold {α : Type} (p : α→Bool) : ∀ L : List α,foldE (gAll p) () L = if L.all p = true then .inl () else .inr ()
 | []=>rfl
 | x :: r=>by
  rw [foldE_cons,List.all_cons]
  cases h : p x with
  | false=>rw [show gAll p () x = .inr () by unfold gAll; rw [h]; rfl]; rfl
  | true=>rw [show gAll p () x = .inl () by unfold gAll; rw [h]; rfl,Bool.true_and]; exact gAll_fold p r
abbrev Gn := Int × List UInt8 × Bool × Dn
def dvOf (b : Bool) (d : Dn) : MV := if b = true ∧ d = [] then .nilsl else .sl 2 (attrs d)
theorem dvOf_dir (b : Bool) (d : Dn) : isDir (dvOf b d) d := by
 unfold dvOf
 split
 ·rename_i h; exact .inr ⟨rfl,h.2⟩
 ·exact .inl rfl
def gV (g : Gn) : MV := gM g.1 g.2.1 (dvOf g.2.2.1 g.2.2.2)
def gR (g : Gn) : MV := gM g.1 g.2.1 (.sl 2 (attrs g.2.2.2))
def okG (g : Gn) : Prop := g.2.1.length < 1000000 ∧ okLens g.2.2.2
def wiB (n l : Gn) : Bool := withB n.1 n.2.1 n.2.2.2 l.1 l.2.1 l.2.2.2
theorem gV_get {L : List Gn} {i : Nat} {g : Gn} (h : L[i]? = some g) : (L.map gV)[i]? = some (gV g) := by rw [List.getElem?_map,h]; rfl
theorem gR_get {L : List Gn} {i : Nat} {g : Gn} (h : L[i]? = some g) : (L.map gR)[i]? = some (gR g) := by rw [List.getElem?_map,h]; rfl
theorem mapV_length (L : List Gn) : (L.map gV).length = L.length := by simp
theorem mapR_length (L : List Gn) : (L.map gR).length = L.length := by simp
def ltA (a : List UInt8 × List UInt8) : Bool := decide ((a.1.length : Int) + (a.2.length : Int) ≤ 200)
def ltB (g : Gn) : Bool := decide (g.2.1.length ≤ 200) && (decide (g.2.2.2.length ≤ 20) && g.2.2.2.all ltA)
def R_l : List (Nat × Option (Bool × Nat) × PK) := [(2,none,.other)]
def bigG (g : Gn) : Prop := bigN g.2.1 g.2.2.2
def st_in (LV : List MV) (n i : Int) (dv : MV) (m j : Int) : DS := ⟨[(7,.sl 3 LV),(8,.int .i64 n),(9,.int .i64 i),(24,dv),(25,.int .i64 m),(26,.int .i64 j)],[],[],1⟩
theorem lt_in (d : Dn) (hd : ∀ a ∈ d,a.1.length < big ∧ a.2.length < big) (hd2 : d.length < big) (LV : List MV) (n i : Int) (dv : MV) (hdv : isDir dv d) (K : List Item) (rhs : Option MV)
  (hk : ∀ nx,fin R_l (Run Q K ⟨[(27,.bool false),(7,.sl 3 LV),(8,.int .i64 n),(9,.int .i64 i),(24,dv),(25,.int .i64 d.length),(26,.int .i64 (d.length : Nat))],[],[],nx⟩) = rhs) :
  fin R_l (RunL Q m8k1 m8b1 (.blk 2 :: K) (st_in LV n i dv d.length (0 : Nat))) = if d.all ltA = true then rhs else some (.bool false) := by
 refine loopR d (gAll ltA) (fun _ j=>fin R_l (RunL Q m8k1 m8b1 (.blk 2 :: K) (st_in LV n i dv d.length (j : Nat)))) (fun _=>some (.bool false)) (fun _ _=>True) ?_ () trivial rfl ?_ ?_
 ·intro _ j a _ hg
  have hj := (List.getElem?_eq_some_iff.1 hg).1
  have hg' := attrs_get hg
  have hlt : decide ((j : Int) < (d.length : Int)) = true := by simp; omega
  have hal := attrs_length d
  have lens := hd a (List.mem_of_getElem? hg)
  unfold big at lens hd2
  have e9 : ((j + 1 : Nat) : Int) = (j : Int) + 1 := rfl
  have hlta : ltA a = decide ((a.1.length : Int) + (a.2.length : Int) ≤ 200) := rfl
  unfold gAll
  rw [hlta]
  rcases hdv with rfl | ⟨rfl,rfl⟩
  rotate_left
  ·simp at hj
  by_cases h2 : (a.1.length : Int) + (a.2.length : Int) ≤ 200
  ·have h2' : decide (200 < (a.1.length : Int) + (a.2.length : Int)) = false := by simp; omega
   rw [if_pos (by simpa using h2)]
   refine ⟨trivial,?_⟩
   dsimp only
   rw [e9]
   unfold st_in
   obtain ⟨b',hb'⟩ : ∃ b',b' = m8b1 := ⟨_,rfl⟩
   rw [RunL_eq,show Item.lp m8k1 m8b1 = Item.lp m8k1 b' by rw [hb']]
   apply hide; intro rhs hrhs
   simp (maxSteps := 4000000) (disch := first | omega | exact ok_of (by kernel_rfl) | decide) only [bA.u,seval,cut,if_pos,if_neg,m8b1,R_l,hlt,hg',hal,h2']
   repeat' ((with_reducible first | refine sp ?_ ?_ | fail) <;> intro hx <;> (try simp only [bI.u] at hx) <;> (first | (exfalso; first | omega | with_reducible contradiction) | (try simp (maxSteps := 4000000) (disch := first | omega | exact ok_of (by kernel_rfl) | decide) only [bA.u,seval,cut,if_pos,if_neg,hx,m8b1,R_l,hlt,hg',hal,h2'])))
   all_goals first | (exfalso; first | omega | with_reducible contradiction) | (subst hrhs; (subst hb'; refine (congrArg (fin _) (Run_lp Q _ _ _ _)).trans ?_; exact congrArg (fin R_l) (RunL_canon (canon_cong (by kernel_rfl) (by kernel_rfl) (by kernel_rfl)))))
  ·have h2' : decide (200 < (a.1.length : Int) + (a.2.length : Int)) = true := by simp; omega
   rw [if_neg (by simpa using h2)]
   show _ = some (MV.bool false)
   unfold st_in
   obtain ⟨b',hb'⟩ : ∃ b',b' = m8b1 := ⟨_,rfl⟩
   rw [RunL_eq,show Item.lp m8k1 m8b1 = Item.lp m8k1 b' by rw [hb']]
   apply hide; intro rhs hrhs
   simp (maxSteps := 4000000) (disch := first | omega | exact ok_of (by kernel_rfl) | decide) only [bA.u,seval,cut,if_pos,if_neg,m8b1,R_l,hlt,hg',hal,h2']
   repeat' ((with_reducible first | refine sp ?_ ?_ | fail) <;> intro hx <;> (try simp only [bI.u] at hx) <;> (first | (exfalso; first | omega | with_reducible contradiction) | (try simp (maxSteps := 4000000) (disch := first | omega | exact ok_of (by kernel_rfl) | decide) only [bA.u,seval,cut,if_pos,if_neg,hx,m8b1,R_l,hlt,hg',hal,h2'])))
   all_goals first | (exfalso; first | omega | with_reducible contradiction) | (subst hrhs; rfl)
 ·intro s hf _
  rw [gAll_fold] at hf
  split at hf
  ·rename_i ha
   rw [if_pos ha]
   have hlt : decide ((d.length : Int) < (d.length : Int)) = false := by simp
   unfold st_in
   obtain ⟨b',hb'⟩ : ∃ b',b' = m8b1 := ⟨_,rfl⟩
   rw [RunL_eq,show Item.lp m8k1 m8b1 = Item.lp m8k1 b' by rw [hb']]
   apply hide; intro rhs hrhs
   simp (maxSteps := 4000000) (disch := first | omega | exact ok_of (by kernel_rfl) | decide) only [bA.u,seval,cut,if_pos,if_neg,m8b1,hlt]
   repeat' ((with_reducible first | refine sp ?_ ?_ | fail) <;> intro hx <;> (try simp only [bI.u] at hx) <;> (first | (exfalso; first | omega | with_reducible contradiction) | (try simp (maxSteps := 4000000) (disch := first | omega | exact ok_of (by kernel_rfl) | decide) only [bA.u,seval,cut,if_pos,if_neg,hx,m8b1,hlt])))
   all_goals first | (exfalso; first | omega | with_reducible contradiction) | (subst hrhs; exact hk _)
  ·cases hf
 ·intro c hf
  rw [gAll_fold] at hf
  split at hf
  ·cases hf
  ·rename_i ha
   rw [if_neg ha]
theorem c_light (L : List Gn) (hL : ∀ g ∈ L,bigG g) (hl : L.length < 1000000) : Call Q 8 [.sl 3 (L.map gV)] = some (.bool (L.all ltB)) := by
 have hml := mapV_length L
 rw [Call_fn Q (m := m8) rfl rfl]
 apply hide; intro rhs hrhs
 simp (maxSteps := 4000000) (disch := first | omega | exact ok_of (by kernel_rfl) | decide) only [bA.u,seval,cut,if_pos,if_neg,m8,Run_loop,hml]
 refine useK fun K hK=>?_
 refine loopR L (gAll ltB) (fun _ i=>fin R_l (RunL Q m8k0 m8b0 K ⟨[(7,.sl 3 (L.map gV)),(8,.int .i64 L.length),(9,.int .i64 (i : Nat))],[],[],1⟩)) (fun _=>some (.bool false)) (fun _ _=>True) ?_ () trivial (congrArg (fin _) (RunL_canon (canon_cong (by kernel_rfl) (by kernel_rfl) (by kernel_rfl)))) ?_ ?_
 ·intro _ i g _ hg
  have hi := (List.getElem?_eq_some_iff.1 hg).1
  have hg' := gV_get hg
  have hlt : decide ((i : Int) < (L.length : Int)) = true := by simp; omega
  have e9 : ((i + 1 : Nat) : Int) = (i : Int) + 1 := rfl
  have hb := hL g (List.mem_of_getElem? hg)
  obtain ⟨k,t,b,d⟩ := g
  have hdv := dvOf_dir b d
  have hb1 : t.length < big := hb.1
  have hb2 : d.length < big := hb.2.1
  unfold big at hb1 hb2
  have e1 : gV (k,t,b,d) = .agg [.int .i64 k,.str t,dvOf b d] := rfl
  rw [e1] at hg'
  clear hK
  have hltb : ltB (k,t,b,d) = (decide (t.length ≤ 200) && (decide (d.length ≤ 20) && d.all ltA)) := rfl
  unfold gAll
  rw [hltb]
  generalize dvOf b d = dv at hdv hg'
  have hin := lt_in d hb.2.2 hb.2.1 (L.map gV) (L.length : Int) (i : Int) dv hdv
  have hal := attrs_length d
  by_cases h1 : t.length ≤ 200
  rotate_left
  ·have h1' : decide (200 < (t.length : Int)) = true := by simp; omega
   rw [decide_eq_false h1,Bool.false_and,if_neg (by simp)]
   show _ = some (MV.bool false)
   obtain ⟨b',hb'⟩ : ∃ b',b' = m8b0 := ⟨_,rfl⟩
   rw [RunL_eq,show Item.lp m8k0 m8b0 = Item.lp m8k0 b' by rw [hb']]
   apply hide; intro rhs hrhs
   simp (maxSteps := 4000000) (disch := first | omega | exact ok_of (by kernel_rfl) | decide) only [bA.u,seval,cut,if_pos,if_neg,m8b0,R_l,hlt,hg',hml,h1']
   repeat' ((with_reducible first | refine sp ?_ ?_ | fail) <;> intro hx <;> (try simp only [bI.u] at hx) <;> (first | (exfalso; first | omega | with_reducible contradiction) | (try simp (maxSteps := 4000000) (disch := first | omega | exact ok_of (by kernel_rfl) | decide) only [bA.u,seval,cut,if_pos,if_neg,hx,m8b0,R_l,hlt,hg',hml,h1'])))
   all_goals first | (exfalso; first | omega | with_reducible contradiction) | (subst hrhs; rfl)
  have h1' : decide (200 < (t.length : Int)) = false := by simp; omega
  rw [decide_eq_true h1,Bool.true_and]
  by_cases h2 : d.length ≤ 20
  rotate_left
  ·have h2' : decide (20 < (d.length : Int)) = true := by simp; omega
   rw [decide_eq_false h2,Bool.false_and,if_neg (by simp)]
   show _ = some (MV.bool false)
   rcases hdv with rfl | ⟨rfl,rfl⟩
   rotate_left
   ·simp at h2
   obtain ⟨b',hb'⟩ : ∃ b',b' = m8b0 := ⟨_,rfl⟩
   rw [RunL_eq,show Item.lp m8k0 m8b0 = Item.lp m8k0 b' by rw [hb']]
   apply hide; intro rhs hrhs
   simp (maxSteps := 4000000) (disch := first | omega | exact ok_of (by kernel_rfl) | decide) only [bA.u,seval,cut,if_pos,if_neg,m8b0,R_l,hlt,hg',hml,hal,h1',h2']
   repeat' ((with_reducible first | refine sp ?_ ?_ | fail) <;> intro hx <;> (try simp only [bI.u] at hx) <;> (first | (exfalso; first | omega | with_reducible contradiction) | (try simp (maxSteps := 4000000) (disch := first | omega | exact ok_of (by kernel_rfl) | decide) only [bA.u,seval,cut,if_pos,if_neg,hx,m8b0,R_l,hlt,hg',hml,hal,h1',h2'])))
   all_goals first | (exfalso; first | omega | with_reducible contradiction) | (subst hrhs; rfl)
  have h2' : decide (20 < (d.length : Int)) = false := by simp; omega
  rw [decide_eq_true h2,Bool.true_and]
  obtain ⟨b',hb'⟩ : ∃ b',b' = m8b0 := ⟨_,rfl⟩
  have key : fin R_l (RunL Q m8k0 m8b0 K ⟨[(7,.sl 3 (L.map gV)),(8,.int .i64 L.length),(9,.int .i64 (i : Nat))],[],[],1⟩) = if d.all ltA = true then fin R_l (RunL Q m8k0 m8b0 K ⟨[(7,.sl 3 (L.map gV)),(8,.int .i64 L.length),(9,.int .i64 (i + 1 : Nat))],[],[],1⟩) else some (.bool false) := by
   rw [RunL_eq,show Item.lp m8k0 m8b0 = Item.lp m8k0 b' by rw [hb']]
   rcases hdv with rfl | ⟨rfl,rfl⟩
   ·apply hide; intro rhs hrhs
    simp (maxSteps := 4000000) (disch := first | omega | exact ok_of (by kernel_rfl) | decide) only [bA.u,seval,cut,if_pos,if_neg,m8b0,R_l,Run_loop,hlt,hg',hml,hal,h1',h2']
    subst hrhs
    refine Eq.trans (congrArg (fin _) (RunL_canon (canon_cong (by kernel_rfl) (by kernel_rfl) (by kernel_rfl)))) (hin _ _ ?_)
    intro nx
    rw [e9]
    apply hide; intro rhs hrhs
    simp (maxSteps := 4000000) (disch := first | omega | exact ok_of (by kernel_rfl) | decide) only [bA.u,seval,cut,if_pos,if_neg,R_l]
    subst hrhs
    (subst hb'; refine (congrArg (fin _) (Run_lp Q _ _ _ _)).trans ?_; exact congrArg (fin R_l) (RunL_canon (canon_cong (by kernel_rfl) (by kernel_rfl) (by kernel_rfl))))
   ·apply hide; intro rhs hrhs
    simp (maxSteps := 4000000) (disch := first | omega | exact ok_of (by kernel_rfl) | decide) only [bA.u,seval,cut,if_pos,if_neg,m8b0,R_l,Run_loop,hlt,hg',hml,h1',h2']
    subst hrhs
    refine Eq.trans (congrArg (fin _) (RunL_canon (canon_cong (by kernel_rfl) (by kernel_rfl) (by kernel_rfl)))) (hin _ _ ?_)
    intro nx
    rw [e9]
    apply hide; intro rhs hrhs
    simp (maxSteps := 4000000) (disch := first | omega | exact ok_of (by kernel_rfl) | decide) only [bA.u,seval,cut,if_pos,if_neg,R_l]
    subst hrhs
    (subst hb'; refine (congrArg (fin _) (Run_lp Q _ _ _ _)).trans ?_; exact congrArg (fin R_l) (RunL_canon (canon_cong (by kernel_rfl) (by kernel_rfl) (by kernel_rfl))))
  rw [key]
  cases hda : d.all ltA
  ·rw [if_neg (by simp),if_neg (by simp)]; rfl
  ·rw [if_pos rfl,if_pos rfl]; exact ⟨trivial,rfl⟩
 ·intro s hf _
  rw [gAll_fold] at hf
  split at hf
  ·rename_i ha
   rw [hrhs,ha]
   subst hK
   have hlt : decide ((L.length : Int) < (L.length : Int)) = false := by simp
   clear hrhs
   obtain ⟨b',hb'⟩ : ∃ b',b' = m8b0 := ⟨_,rfl⟩
   rw [RunL_eq,show Item.lp m8k0 m8b0 = Item.lp m8k0 b' by rw [hb']]
   apply hide; intro rhs hrhs
   simp (maxSteps := 4000000) (disch := first | omega | exact ok_of (by kernel_rfl) | decide) only [bA.u,seval,cut,if_pos,if_neg,m8b0,R_l,hlt]
   repeat' ((with_reducible first | refine sp ?_ ?_ | fail) <;> intro hx <;> (try simp only [bI.u] at hx) <;> (first | (exfalso; first | omega | with_reducible contradiction) | (try simp (maxSteps := 4000000) (disch := first | omega | exact ok_of (by kernel_rfl) | decide) only [bA.u,seval,cut,if_pos,if_neg,hx,m8b0,R_l,hlt])))
   all_goals first | (exfalso; first | omega | with_reducible contradiction) | (subst hrhs; rfl)
  ·cases hf
 ·intro c hf
  rw [gAll_fold] at hf
  split at hf
  ·cases hf
  ·rename_i ha
   rw [hrhs]
   simp only [Bool.not_eq_true] at ha
   rw [ha]
end Go.Mini.Nm
namespace Go.Mini.Nm
open Go Go.Mini Go.Proofs.YtaehaajckndejaaGreatDoor
set_option maxRecDepth 100000
set_option maxHeartbeats 4000000
def R_g : List (Nat × Option (Bool × Nat) × PK) := [(2,none,.el 3)]
def V_g (L : List Gn) (a i : Nat) : List (Nat × MV) := [(3,.own a i),(6,.sl 3 (L.map gV)),(7,.int .i64 (L.length : Int)),(8,.int .i64 (i : Int))]
def O_g (l : List MV) (a : Nat) : List (Nat × Obj) := [(a,.el 3 l false)]
def K_g : List Item := [.blk 0,.code (.seq (.rg [oT 24 (.mv (.v 3)),
  oV 2 (.mv (.t 24))])
  (.ret))]
noncomputable def S_g (L : List Gn) (l : List MV) (i : Nat) : Option MV := fin R_g (RunL Q m11k0 m11b0 K_g ⟨V_g L (if i = 0 then 1 else 0) i,[],O_g l (if i = 0 then 1 else 0),2⟩)
theorem S_g_step (L : List Gn) (hb : L.length < 1000000) (l : List MV) (i : Nat) (g : Gn) (hok : okG g) (hl : l.length = i) (hg : L[i]? = some g) : S_g L l i = S_g L (l ++ [gR g]) (i + 1) := by
 have hi := (List.getElem?_eq_some_iff.1 hg).1
 have hg' := gV_get hg
 have hml := mapV_length L
 obtain ⟨k,t,b,d⟩ := g
 have hdv := dvOf_dir b d
 have e1 : gV (k,t,b,d) = .agg [.int .i64 k,.str t,dvOf b d] := rfl
 have e2 : gR (k,t,b,d) = .agg [.int .i64 k,.str t,.sl 2 (attrs d)] := rfl
 rw [e1] at hg'
 rw [e2]
 have h22 := c21 (dvOf b d) d hdv hok.2.1
 generalize dvOf b d = dv at hdv hg' h22
 subst hl
 unfold S_g
 rw [if_neg (show ¬ l.length + 1 = 0 by omega)]
 rcases hdv with rfl | ⟨rfl,rfl⟩
 all_goals (
  split
  ·rename_i h0
   rw [h0] at hi hg' ⊢
   have : l = [] := List.length_eq_zero_iff.1 h0
   subst this
   obtain ⟨b',hb'⟩ : ∃ b',b' = m11b0 := ⟨_,rfl⟩
   rw [RunL_eq,show Item.lp m11k0 m11b0 = Item.lp m11k0 b' by rw [hb']]
   apply hide; intro rhs hrhs
   simp (maxSteps := 4000000) (disch := first | omega | exact ok_of (by kernel_rfl) | decide) only [bA.u,seval,cut,if_pos,if_neg,m11b0,V_g,K_g,R_g,O_g,hg',hml,h22]
   repeat' ((with_reducible first | refine sp ?_ ?_ | fail) <;> intro hx <;> (try simp only [bI.u] at hx) <;> (first | (exfalso; first | omega | with_reducible contradiction) | (try simp (maxSteps := 4000000) (disch := first | omega | exact ok_of (by kernel_rfl) | decide) only [bA.u,seval,cut,if_pos,if_neg,hx,m11b0,V_g,K_g,R_g,O_g,hg',hml,h22])))
   all_goals first | (exfalso; first | omega | with_reducible contradiction) | (subst hrhs; (subst hb'; refine (congrArg (fin _) (Run_lp Q _ _ _ _)).trans ?_; exact congrArg (fin R_g) (RunL_canon (canon_cong (by kernel_rfl) (by kernel_rfl) (by kernel_rfl)))))
  ·rename_i h0
   obtain ⟨b',hb'⟩ : ∃ b',b' = m11b0 := ⟨_,rfl⟩
   rw [RunL_eq,show Item.lp m11k0 m11b0 = Item.lp m11k0 b' by rw [hb']]
   apply hide; intro rhs hrhs
   simp (maxSteps := 4000000) (disch := first | omega | exact ok_of (by kernel_rfl) | decide) only [bA.u,seval,cut,if_pos,if_neg,m11b0,V_g,K_g,R_g,O_g,hg',hml,h22]
   repeat' ((with_reducible first | refine sp ?_ ?_ | fail) <;> intro hx <;> (try simp only [bI.u] at hx) <;> (first | (exfalso; first | omega | with_reducible contradiction) | (try simp (maxSteps := 4000000) (disch := first | omega | exact ok_of (by kernel_rfl) | decide) only [bA.u,seval,cut,if_pos,if_neg,hx,m11b0,V_g,K_g,R_g,O_g,hg',hml,h22])))
   all_goals first | (exfalso; first | omega | with_reducible contradiction) | (subst hrhs; (subst hb'; refine (congrArg (fin _) (Run_lp Q _ _ _ _)).trans ?_; exact congrArg (fin R_g) (RunL_canon (canon_cong (by kernel_rfl) (by kernel_rfl) (by kernel_rfl))))))
theorem S_g_end (L : List Gn) (l : List MV) (hl : l.length = L.length) : S_g L l L.length = some (.sl 3 l) := by
 have hlt : decide ((L.length : Int) < (L.length : Int)) = false := by simp
 unfold S_g
 split
 ·rename_i h0
  rw [h0] at hl ⊢
  have hz : l = [] := List.length_eq_zero_iff.1 hl
  subst hz
  obtain ⟨b',hb'⟩ : ∃ b',b' = m11b0 := ⟨_,rfl⟩
  rw [RunL_eq,show Item.lp m11k0 m11b0 = Item.lp m11k0 b' by rw [hb']]
  apply hide; intro rhs hrhs
  simp (maxSteps := 4000000) (disch := first | omega | exact ok_of (by kernel_rfl) | decide) only [bA.u,seval,cut,if_pos,if_neg,m11b0,V_g,K_g,R_g,O_g,hlt,hl]
  repeat' ((with_reducible first | refine sp ?_ ?_ | fail) <;> intro hx <;> (try simp only [bI.u] at hx) <;> (first | (exfalso; first | omega | with_reducible contradiction) | (try simp (maxSteps := 4000000) (disch := first | omega | exact ok_of (by kernel_rfl) | decide) only [bA.u,seval,cut,if_pos,if_neg,hx,m11b0,V_g,K_g,R_g,O_g,hlt,hl])))
  all_goals first | (exfalso; first | omega | with_reducible contradiction) | (subst hrhs; rfl)
 ·rename_i h0
  obtain ⟨b',hb'⟩ : ∃ b',b' = m11b0 := ⟨_,rfl⟩
  rw [RunL_eq,show Item.lp m11k0 m11b0 = Item.lp m11k0 b' by rw [hb']]
  apply hide; intro rhs hrhs
  simp (maxSteps := 4000000) (disch := first | omega | exact ok_of (by kernel_rfl) | decide) only [bA.u,seval,cut,if_pos,if_neg,m11b0,V_g,K_g,R_g,O_g,hlt,hl]
  repeat' ((with_reducible first | refine sp ?_ ?_ | fail) <;> intro hx <;> (try simp only [bI.u] at hx) <;> (first | (exfalso; first | omega | with_reducible contradiction) | (try simp (maxSteps := 4000000) (disch := first | omega | exact ok_of (by kernel_rfl) | decide) only [bA.u,seval,cut,if_pos,if_neg,hx,m11b0,V_g,K_g,R_g,O_g,hlt,hl])))
  all_goals first | (exfalso; first | omega | with_reducible contradiction) | (subst hrhs; rfl)
theorem c_gens (L : List Gn) (hL : ∀ g ∈ L,okG g) (hb : L.length < 1000000) : Call Q 11 [.sl 3 (L.map gV)] = some (.sl 3 (L.map gR)) := by
 have hml := mapV_length L
 have key : S_g L [] 0 = some (.sl 3 (L.map gR)) := (loopM L gR (S_g L) (fun l i x hl hg=>S_g_step L hb l i x (hL x (List.mem_of_getElem? hg)) hl hg)).trans (S_g_end L _ (by simp))
 unfold S_g at key
 rw [if_pos rfl] at key
 rw [Call_fn Q (m := m11) rfl rfl]
 refine Eq.trans ?_ key
 apply hide; intro rhs hrhs
 simp (maxSteps := 4000000) (disch := first | omega | exact ok_of (by kernel_rfl) | decide) only [bA.u,seval,cut,if_pos,if_neg,m11,Run_loop,hml]
 repeat' ((with_reducible first | refine sp ?_ ?_ | fail) <;> intro hx <;> (try simp only [bI.u] at hx) <;> (first | (exfalso; first | omega | with_reducible contradiction) | (try simp (maxSteps := 4000000) (disch := first | omega | exact ok_of (by kernel_rfl) | decide) only [bA.u,seval,cut,if_pos,if_neg,hx,m11,Run_loop,hml])))
 all_goals first | (exfalso; first | omega | with_reducible contradiction) | (subst hrhs; exact congrArg (fin R_g) (RunL_canon (canon_cong (by kernel_rfl) (by kernel_rfl) (by kernel_rfl))))
end Go.Mini.Nm
namespace Go.Mini.Nm
open Go Go.Mini Go.Proofs.YtaehaajckndejaaGreatDoor
set_option maxRecDepth 100000
set_option maxHeartbeats 4000000
def crN (alt subj : List MV) : MV := .agg [.int .i64 0,.int .i64 0,.nilsl,.sl 2 subj,.int .i64 0,.int .i64 0,.int .i64 0,.nilsl,.bool false,.int .i64 0,.int .i64 0,.sl 3 alt,.nilsl,.nilsl,.nilsl]
def crL (permit exclude : List MV) : MV := .agg [.int .i64 0,.int .i64 0,.nilsl,.nilsl,.int .i64 0,.int .i64 0,.int .i64 0,.nilsl,.bool false,.int .i64 0,.int .i64 0,.nilsl,.sl 3 permit,.sl 3 exclude,.nilsl]
theorem c_clone (l : List MV) (hl : l.length < 1000000) : Call Q 21 [.sl 3 l] = some (.fel 3 l) := by
 have h : pClone [.sl 3 l] = some (.fel 3 l) := by
  show (if l.length < 1000000 then some (MV.fel 3 l) else none) = _
  rw [if_pos hl]
 exact (Call_prim Q (g := pClone) rfl).trans h
theorem c_names (alt : List MV) (subj : Dn) (hl : alt.length < 1000) (hs : subj.length < 1000) : Call Q 10 [crN alt (attrs subj)] = some (.sl 3 (if 0 < subj.length then alt ++ [gM 4 [] (.sl 2 (attrs subj))] else alt)) := by
 have hal := attrs_length subj
 have hc := c_clone alt (by omega)
 unfold crN gM
 rw [Call_fn Q (m := m10) rfl rfl]
 by_cases h0 : 0 < subj.length
 ·have h0' : decide (0 < (subj.length : Int)) = true := by simp; omega
  rw [if_pos h0]
  apply hide; intro rhs hrhs
  simp (maxSteps := 4000000) (disch := first | omega | exact ok_of (by kernel_rfl) | decide) only [bA.u,seval,cut,if_pos,if_neg,m10,hc,hal,h0']
  repeat' ((with_reducible first | refine sp ?_ ?_ | fail) <;> intro hx <;> (try simp only [bI.u] at hx) <;> (first | (exfalso; first | omega | with_reducible contradiction) | (try simp (maxSteps := 4000000) (disch := first | omega | exact ok_of (by kernel_rfl) | decide) only [bA.u,seval,cut,if_pos,if_neg,hx,m10,hc,hal,h0'])))
  all_goals first | (exfalso; first | omega | with_reducible contradiction) | (subst hrhs; rfl)
 ·have h0' : decide (0 < (subj.length : Int)) = false := by rw [decide_eq_false_iff_not]; omega
  rw [if_neg h0]
  apply hide; intro rhs hrhs
  simp (maxSteps := 4000000) (disch := first | omega | exact ok_of (by kernel_rfl) | decide) only [bA.u,seval,cut,if_pos,if_neg,m10,hc,hal,h0']
  repeat' ((with_reducible first | refine sp ?_ ?_ | fail) <;> intro hx <;> (try simp only [bI.u] at hx) <;> (first | (exfalso; first | omega | with_reducible contradiction) | (try simp (maxSteps := 4000000) (disch := first | omega | exact ok_of (by kernel_rfl) | decide) only [bA.u,seval,cut,if_pos,if_neg,hx,m10,hc,hal,h0'])))
  all_goals first | (exfalso; first | omega | with_reducible contradiction) | (subst hrhs; rfl)
theorem c_dn (s : List UInt8) (hs : s.length < 1000) : Call Q 9 [.str s] = some (.sl 2 (attrs (if s = [] then [] else [([50,46,53,46,52,46,51],s)]))) := by
 rw [Call_fn Q (m := m9) rfl rfl]
 by_cases h : s = []
 ·subst h
  rw [if_pos rfl]
  apply hide; intro rhs hrhs
  simp (maxSteps := 4000000) (disch := first | omega | exact ok_of (by kernel_rfl) | decide) only [bA.u,seval,cut,if_pos,if_neg,m9]
  repeat' ((with_reducible first | refine sp ?_ ?_ | fail) <;> intro hx <;> (try simp only [bI.u] at hx) <;> (first | (exfalso; first | omega | with_reducible contradiction) | (try simp (maxSteps := 4000000) (disch := first | omega | exact ok_of (by kernel_rfl) | decide) only [bA.u,seval,cut,if_pos,if_neg,hx,m9])))
  all_goals first | (exfalso; first | omega | with_reducible contradiction) | (subst hrhs; rfl)
 ·have h' : (s == []) = false := by rw [beq_eq_false_iff_ne]; exact h
  rw [if_neg h]
  apply hide; intro rhs hrhs
  simp (maxSteps := 4000000) (disch := first | omega | exact ok_of (by kernel_rfl) | decide) only [bA.u,seval,cut,if_pos,if_neg,m9,h']
  repeat' ((with_reducible first | refine sp ?_ ?_ | fail) <;> intro hx <;> (try simp only [bI.u] at hx) <;> (first | (exfalso; first | omega | with_reducible contradiction) | (try simp (maxSteps := 4000000) (disch := first | omega | exact ok_of (by kernel_rfl) | decide) only [bA.u,seval,cut,if_pos,if_neg,hx,m9,h'])))
  all_goals first | (exfalso; first | omega | with_reducible contradiction) | (subst hrhs; rfl)
end Go.Mini.Nm
namespace Go.Mini.Nm
open Go Go.Mini Go.Proofs.YtaehaajckndejaaGreatDoor
set_option maxRecDepth 100000
set_option maxHeartbeats 4000000
abbrev boxN (k : Int) (t : List UInt8) (dv : MV) : List Obj := [.cells [.int .i64 k,.str t,dv]]
theorem h_within (k : Int) (t : List UInt8) (dv : MV) (d : Dn) (hdv : isDir dv d) (ht : t.length < 1000000 ∧ okLens d) (l : Gn) (hl : okG l) : CallH Q 23 [gV l,.ptr 0 0] (boxN k t dv) = some (.bool (withB k t d l.1 l.2.1 l.2.2.2),[some (.cells [.int .i64 k,.str t,dv])]) := by
 obtain ⟨k2,t2,b2,d2⟩ := l
 have hdv2 := dvOf_dir b2 d2
 have h10 := c10 k k2 t dv d t2 (dvOf b2 d2) d2 hdv hdv2 ht hl
 have e1 : gV (k2,t2,b2,d2) = .agg [.int .i64 k2,.str t2,dvOf b2 d2] := rfl
 rw [e1]
 unfold gM at h10
 generalize dvOf b2 d2 = dv2 at hdv2 h10
 rw [CallH_fn Q (m := m23) rfl]
 rcases hdv with rfl | ⟨rfl,rfl⟩ <;> rcases hdv2 with rfl | ⟨rfl,rfl⟩
 all_goals (
  apply hide; intro rhs hrhs
  simp (maxSteps := 4000000) (disch := first | omega | exact ok_of (by kernel_rfl) | decide) only [bA.u,seval,cut,if_pos,if_neg,m23,h10,Run_nil,reach]
  repeat' ((with_reducible first | refine sp ?_ ?_ | fail) <;> intro hx <;> (try simp only [bI.u] at hx) <;> (first | (exfalso; first | omega | with_reducible contradiction) | (try simp (maxSteps := 4000000) (disch := first | omega | exact ok_of (by kernel_rfl) | decide) only [bA.u,seval,cut,if_pos,if_neg,hx,m23,h10,Run_nil,reach])))
  all_goals first | (exfalso; first | omega | with_reducible contradiction) | (subst hrhs; rfl))
theorem h_kind (k : Int) (t : List UInt8) (dv : MV) (d : Dn) (hdv : isDir dv d) (l : Gn) : CallH Q 25 [gV l,.ptr 0 0] (boxN k t dv) = some (.bool (l.1 == k),[some (.cells [.int .i64 k,.str t,dv])]) := by
 obtain ⟨k2,t2,b2,d2⟩ := l
 have hdv2 := dvOf_dir b2 d2
 have e1 : gV (k2,t2,b2,d2) = .agg [.int .i64 k2,.str t2,dvOf b2 d2] := rfl
 rw [e1]
 generalize dvOf b2 d2 = dv2 at hdv2
 rw [CallH_fn Q (m := m25) rfl]
 rcases hdv with rfl | ⟨rfl,rfl⟩ <;> rcases hdv2 with rfl | ⟨rfl,rfl⟩
 all_goals (
  apply hide; intro rhs hrhs
  simp (maxSteps := 4000000) (disch := first | omega | exact ok_of (by kernel_rfl) | decide) only [bA.u,seval,cut,if_pos,if_neg,m25,Run_nil,reach]
  repeat' ((with_reducible first | refine sp ?_ ?_ | fail) <;> intro hx <;> (try simp only [bI.u] at hx) <;> (first | (exfalso; first | omega | with_reducible contradiction) | (try simp (maxSteps := 4000000) (disch := first | omega | exact ok_of (by kernel_rfl) | decide) only [bA.u,seval,cut,if_pos,if_neg,hx,m25,Run_nil,reach])))
  all_goals first | (exfalso; first | omega | with_reducible contradiction) | (subst hrhs; rfl))
theorem useH {n R k b K st rhs} (h : ∀ K',K' = K→finH n R (RunL Q k b K' st) = rhs) : finH n R (RunL Q k b K st) = rhs := h K rfl
def gInd (p : Gn→Bool) (j : Nat) (x : Gn) : Nat ⊕ Nat := if p x = true then .inr j else .inl (j + 1)
def R_i : List (Nat × Option (Bool × Nat) × PK) := [(4,none,.other)]
theorem gInd_fold (p : Gn→Bool) : ∀ (L : List Gn) (j : Nat),(∃ i,foldE (gInd p) j L = .inr i ∧ L.any p = true) ∨ (foldE (gInd p) j L = .inl (j + L.length) ∧ L.any p = false)
 | [],j=>.inr ⟨rfl,rfl⟩
 | x :: r,j=>by
  rw [foldE_cons,List.any_cons]
  cases h : p x with
  | true=>exact .inl ⟨j,by rw [show gInd p j x = .inr j by unfold gInd; rw [h]; rfl],rfl⟩
  | false =>
   rw [show gInd p j x = .inl (j + 1) by unfold gInd; rw [h]; rfl,Bool.false_or]
   simp only [List.length_cons]
   have := gInd_fold p r (j + 1)
   rw [show j + (r.length + 1) = j + 1 + r.length by omega]
   exact this
theorem h_index (f : FuncId) (p : Gn→Bool) (k : Int) (t : List UInt8) (dv : MV) (d : Dn) (hdv : isDir dv d) (L : List Gn) (hlen : L.length < 1000000)
  (hf : ∀ l ∈ L,CallH Q f [gV l,.ptr 0 0] (boxN k t dv) = some (.bool (p l),[some (.cells [.int .i64 k,.str t,dv])])) :
  ∃ i : Int,CallH Q 43 [.sl 3 (L.map gV),.fn f [.ptr 0 0]] (boxN k t dv) = some (.int .i64 i,[some (.cells [.int .i64 k,.str t,dv])]) ∧ decide (0 ≤ i) = L.any p := by
 have hml := mapV_length L
 have key : CallH Q 43 [.sl 3 (L.map gV),.fn f [.ptr 0 0]] (boxN k t dv) = match foldE (gInd p) 0 L with
   | .inl _=>some (.int .i64 (-1),[some (.cells [.int .i64 k,.str t,dv])])
   | .inr j=>some (.int .i64 (j : Nat),[some (.cells [.int .i64 k,.str t,dv])]) := by
  rw [CallH_fn Q (m := m43) rfl]
  rcases hdv with rfl | ⟨rfl,rfl⟩
  ·apply hide; intro rhs hrhs
   simp (maxSteps := 4000000) (disch := first | omega | exact ok_of (by kernel_rfl) | decide) only [bA.u,seval,cut,if_pos,if_neg,m43,Run_loop,hml,Run_nil,reach]
   refine useH fun K hK=>?_
   refine loopR L (gInd p) (fun j i=>finH 1 R_i (RunL Q m43k0 m43b0 K ⟨[(0,.sl 3 (L.map gV)),(1,.fn f [.ptr 0 0]),(7,.int .i64 L.length),(8,.int .i64 (i : Nat))],[],[(0,.cells [.int .i64 k,.str t,(.sl 2 (attrs d))])],2⟩)) (fun j=>some (.int .i64 (j : Nat),[some (.cells [.int .i64 k,.str t,(.sl 2 (attrs d))])])) (fun j i=>j = i) ?_ 0 rfl (congrArg (finH _ _) (RunL_canon (canon_cong (by kernel_rfl) (by kernel_rfl) (by kernel_rfl)))) ?_ ?_
   ·rintro j i g rfl hg
    have hi := (List.getElem?_eq_some_iff.1 hg).1
    have hg' := gV_get hg
    have hlt : decide ((j : Int) < (L.length : Int)) = true := by simp; omega
    have e9 : ((j + 1 : Nat) : Int) = (j : Int) + 1 := rfl
    have hq := hf g (List.mem_of_getElem? hg)
    obtain ⟨k2,t2,b2,d2⟩ := g
    have hdv2 := dvOf_dir b2 d2
    have e1 : gV (k2,t2,b2,d2) = .agg [.int .i64 k2,.str t2,dvOf b2 d2] := rfl
    rw [e1] at hg' hq
    unfold gInd
    generalize dvOf b2 d2 = dv2 at hdv2 hg' hq
    clear hK hrhs
    cases hp : p (k2,t2,b2,d2)
    ·rw [if_neg (by decide)]
     rw [hp] at hq
     refine ⟨rfl,?_⟩
     dsimp only
     rw [e9]
     rcases hdv2 with rfl | ⟨rfl,rfl⟩
     all_goals (
      obtain ⟨b',hb'⟩ : ∃ b',b' = m43b0 := ⟨_,rfl⟩
      rw [RunL_eq,show Item.lp m43k0 m43b0 = Item.lp m43k0 b' by rw [hb']]
      apply hide; intro rhs hrhs
      simp (maxSteps := 4000000) (disch := first | omega | exact ok_of (by kernel_rfl) | decide) only [bA.u,seval,cut,if_pos,if_neg,m43b0,R_i,hlt,hg',hq,hml,Run_nil,reach]
      repeat' ((with_reducible first | refine sp ?_ ?_ | fail) <;> intro hx <;> (try simp only [bI.u] at hx) <;> (first | (exfalso; first | omega | with_reducible contradiction) | (try simp (maxSteps := 4000000) (disch := first | omega | exact ok_of (by kernel_rfl) | decide) only [bA.u,seval,cut,if_pos,if_neg,hx,m43b0,R_i,hlt,hg',hq,hml,Run_nil,reach])))
      all_goals first | (exfalso; first | omega | with_reducible contradiction) | (subst hrhs; (subst hb'; refine (congrArg (finH _ _) (Run_lp Q _ _ _ _)).trans ?_; exact congrArg (finH 1 R_i) (RunL_canon (canon_cong (by kernel_rfl) (by kernel_rfl) (by kernel_rfl))))))
    ·rw [if_pos rfl]
     rw [hp] at hq
     show _ = some (MV.int .i64 (j : Nat),_)
     rcases hdv2 with rfl | ⟨rfl,rfl⟩
     all_goals (
      obtain ⟨b',hb'⟩ : ∃ b',b' = m43b0 := ⟨_,rfl⟩
      rw [RunL_eq,show Item.lp m43k0 m43b0 = Item.lp m43k0 b' by rw [hb']]
      apply hide; intro rhs hrhs
      simp (maxSteps := 4000000) (disch := first | omega | exact ok_of (by kernel_rfl) | decide) only [bA.u,seval,cut,if_pos,if_neg,m43b0,R_i,hlt,hg',hq,hml,Run_nil,reach]
      repeat' ((with_reducible first | refine sp ?_ ?_ | fail) <;> intro hx <;> (try simp only [bI.u] at hx) <;> (first | (exfalso; first | omega | with_reducible contradiction) | (try simp (maxSteps := 4000000) (disch := first | omega | exact ok_of (by kernel_rfl) | decide) only [bA.u,seval,cut,if_pos,if_neg,hx,m43b0,R_i,hlt,hg',hq,hml,Run_nil,reach])))
      all_goals first | (exfalso; first | omega | with_reducible contradiction) | (subst hrhs; rfl))
   ·intro s hfo hs
    subst hK
    rw [hrhs,hfo]
    have hlt : decide ((L.length : Int) < (L.length : Int)) = false := by simp
    clear hrhs
    obtain ⟨b',hb'⟩ : ∃ b',b' = m43b0 := ⟨_,rfl⟩
    rw [RunL_eq,show Item.lp m43k0 m43b0 = Item.lp m43k0 b' by rw [hb']]
    apply hide; intro rhs hrhs
    simp (maxSteps := 4000000) (disch := first | omega | exact ok_of (by kernel_rfl) | decide) only [bA.u,seval,cut,if_pos,if_neg,m43b0,R_i,hlt,Run_nil,reach]
    repeat' ((with_reducible first | refine sp ?_ ?_ | fail) <;> intro hx <;> (try simp only [bI.u] at hx) <;> (first | (exfalso; first | omega | with_reducible contradiction) | (try simp (maxSteps := 4000000) (disch := first | omega | exact ok_of (by kernel_rfl) | decide) only [bA.u,seval,cut,if_pos,if_neg,hx,m43b0,R_i,hlt,Run_nil,reach])))
    all_goals first | (exfalso; first | omega | with_reducible contradiction) | (subst hrhs; rfl)
   ·intro c hfo
    rw [hrhs,hfo]
  ·apply hide; intro rhs hrhs
   simp (maxSteps := 4000000) (disch := first | omega | exact ok_of (by kernel_rfl) | decide) only [bA.u,seval,cut,if_pos,if_neg,m43,Run_loop,hml,Run_nil,reach]
   refine useH fun K hK=>?_
   refine loopR L (gInd p) (fun j i=>finH 1 R_i (RunL Q m43k0 m43b0 K ⟨[(0,.sl 3 (L.map gV)),(1,.fn f [.ptr 0 0]),(7,.int .i64 L.length),(8,.int .i64 (i : Nat))],[],[(0,.cells [.int .i64 k,.str t,.nilsl])],2⟩)) (fun j=>some (.int .i64 (j : Nat),[some (.cells [.int .i64 k,.str t,.nilsl])])) (fun j i=>j = i) ?_ 0 rfl (congrArg (finH _ _) (RunL_canon (canon_cong (by kernel_rfl) (by kernel_rfl) (by kernel_rfl)))) ?_ ?_
   ·rintro j i g rfl hg
    have hi := (List.getElem?_eq_some_iff.1 hg).1
    have hg' := gV_get hg
    have hlt : decide ((j : Int) < (L.length : Int)) = true := by simp; omega
    have e9 : ((j + 1 : Nat) : Int) = (j : Int) + 1 := rfl
    have hq := hf g (List.mem_of_getElem? hg)
    obtain ⟨k2,t2,b2,d2⟩ := g
    have hdv2 := dvOf_dir b2 d2
    have e1 : gV (k2,t2,b2,d2) = .agg [.int .i64 k2,.str t2,dvOf b2 d2] := rfl
    rw [e1] at hg' hq
    unfold gInd
    generalize dvOf b2 d2 = dv2 at hdv2 hg' hq
    clear hK hrhs
    cases hp : p (k2,t2,b2,d2)
    ·rw [if_neg (by decide)]
     rw [hp] at hq
     refine ⟨rfl,?_⟩
     dsimp only
     rw [e9]
     rcases hdv2 with rfl | ⟨rfl,rfl⟩
     all_goals (
      obtain ⟨b',hb'⟩ : ∃ b',b' = m43b0 := ⟨_,rfl⟩
      rw [RunL_eq,show Item.lp m43k0 m43b0 = Item.lp m43k0 b' by rw [hb']]
      apply hide; intro rhs hrhs
      simp (maxSteps := 4000000) (disch := first | omega | exact ok_of (by kernel_rfl) | decide) only [bA.u,seval,cut,if_pos,if_neg,m43b0,R_i,hlt,hg',hq,hml,Run_nil,reach]
      repeat' ((with_reducible first | refine sp ?_ ?_ | fail) <;> intro hx <;> (try simp only [bI.u] at hx) <;> (first | (exfalso; first | omega | with_reducible contradiction) | (try simp (maxSteps := 4000000) (disch := first | omega | exact ok_of (by kernel_rfl) | decide) only [bA.u,seval,cut,if_pos,if_neg,hx,m43b0,R_i,hlt,hg',hq,hml,Run_nil,reach])))
      all_goals first | (exfalso; first | omega | with_reducible contradiction) | (subst hrhs; (subst hb'; refine (congrArg (finH _ _) (Run_lp Q _ _ _ _)).trans ?_; exact congrArg (finH 1 R_i) (RunL_canon (canon_cong (by kernel_rfl) (by kernel_rfl) (by kernel_rfl))))))
    ·rw [if_pos rfl]
     rw [hp] at hq
     show _ = some (MV.int .i64 (j : Nat),_)
     rcases hdv2 with rfl | ⟨rfl,rfl⟩
     all_goals (
      obtain ⟨b',hb'⟩ : ∃ b',b' = m43b0 := ⟨_,rfl⟩
      rw [RunL_eq,show Item.lp m43k0 m43b0 = Item.lp m43k0 b' by rw [hb']]
      apply hide; intro rhs hrhs
      simp (maxSteps := 4000000) (disch := first | omega | exact ok_of (by kernel_rfl) | decide) only [bA.u,seval,cut,if_pos,if_neg,m43b0,R_i,hlt,hg',hq,hml,Run_nil,reach]
      repeat' ((with_reducible first | refine sp ?_ ?_ | fail) <;> intro hx <;> (try simp only [bI.u] at hx) <;> (first | (exfalso; first | omega | with_reducible contradiction) | (try simp (maxSteps := 4000000) (disch := first | omega | exact ok_of (by kernel_rfl) | decide) only [bA.u,seval,cut,if_pos,if_neg,hx,m43b0,R_i,hlt,hg',hq,hml,Run_nil,reach])))
      all_goals first | (exfalso; first | omega | with_reducible contradiction) | (subst hrhs; rfl))
   ·intro s hfo hs
    subst hK
    rw [hrhs,hfo]
    have hlt : decide ((L.length : Int) < (L.length : Int)) = false := by simp
    clear hrhs
    obtain ⟨b',hb'⟩ : ∃ b',b' = m43b0 := ⟨_,rfl⟩
    rw [RunL_eq,show Item.lp m43k0 m43b0 = Item.lp m43k0 b' by rw [hb']]
    apply hide; intro rhs hrhs
    simp (maxSteps := 4000000) (disch := first | omega | exact ok_of (by kernel_rfl) | decide) only [bA.u,seval,cut,if_pos,if_neg,m43b0,R_i,hlt,Run_nil,reach]
    repeat' ((with_reducible first | refine sp ?_ ?_ | fail) <;> intro hx <;> (try simp only [bI.u] at hx) <;> (first | (exfalso; first | omega | with_reducible contradiction) | (try simp (maxSteps := 4000000) (disch := first | omega | exact ok_of (by kernel_rfl) | decide) only [bA.u,seval,cut,if_pos,if_neg,hx,m43b0,R_i,hlt,Run_nil,reach])))
    all_goals first | (exfalso; first | omega | with_reducible contradiction) | (subst hrhs; rfl)
   ·intro c hfo
    rw [hrhs,hfo]
 rcases gInd_fold p L 0 with ⟨i,h1,h2⟩ | ⟨h1,h2⟩
 ·exact ⟨i,by rw [key,h1],by rw [h2]; simp⟩
 ·exact ⟨-1,by rw [key,h1],by rw [h2]; rfl⟩
theorem h_contains (f : FuncId) (p : Gn→Bool) (k : Int) (t : List UInt8) (dv : MV) (d : Dn) (hdv : isDir dv d) (L : List Gn) (hlen : L.length < 1000000)
  (hf : ∀ l ∈ L,CallH Q f [gV l,.ptr 0 0] (boxN k t dv) = some (.bool (p l),[some (.cells [.int .i64 k,.str t,dv])])) :
  CallH Q 26 [.sl 3 (L.map gV),.fn f [.ptr 0 0]] (boxN k t dv) = some (.bool (L.any p),[some (.cells [.int .i64 k,.str t,dv])]) := by
 obtain ⟨i,h43,hi⟩ := h_index f p k t dv d hdv L hlen hf
 rw [← hi]
 rw [CallH_fn Q (m := m26) rfl]
 rcases hdv with rfl | ⟨rfl,rfl⟩
 ·apply hide; intro rhs hrhs
  simp (maxSteps := 4000000) (disch := first | omega | exact ok_of (by kernel_rfl) | decide) only [bA.u,seval,cut,if_pos,if_neg,m26,h43,Run_nil,reach]
  repeat' ((with_reducible first | refine sp ?_ ?_ | fail) <;> intro hx <;> (try simp only [bI.u] at hx) <;> (first | (exfalso; first | omega | with_reducible contradiction) | (try simp (maxSteps := 4000000) (disch := first | omega | exact ok_of (by kernel_rfl) | decide) only [bA.u,seval,cut,if_pos,if_neg,hx,m26,h43,Run_nil,reach])))
  all_goals first | (exfalso; first | omega | with_reducible contradiction) | (subst hrhs; rfl)
 ·apply hide; intro rhs hrhs
  simp (maxSteps := 4000000) (disch := first | omega | exact ok_of (by kernel_rfl) | decide) only [bA.u,seval,cut,if_pos,if_neg,m26,h43,Run_nil,reach]
  repeat' ((with_reducible first | refine sp ?_ ?_ | fail) <;> intro hx <;> (try simp only [bI.u] at hx) <;> (first | (exfalso; first | omega | with_reducible contradiction) | (try simp (maxSteps := 4000000) (disch := first | omega | exact ok_of (by kernel_rfl) | decide) only [bA.u,seval,cut,if_pos,if_neg,hx,m26,h43,Run_nil,reach])))
  all_goals first | (exfalso; first | omega | with_reducible contradiction) | (subst hrhs; rfl)
end Go.Mini.Nm

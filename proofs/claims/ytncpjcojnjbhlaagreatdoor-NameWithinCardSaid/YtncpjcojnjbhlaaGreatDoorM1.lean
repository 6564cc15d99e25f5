/- Mini: a deterministic interpreter with pure data over the model's code, and that it is sound (part 1). -/
import Derived.Test.YtncpjcojnjbhlaaGreatDoorM0
import Derived.Laws.StructEq
import Derived.Orders
import Derived.Scope
import Derived.Laws.ResultCell
import Derived.ProofKit
import Derived.OpenShut
import Derived.SizedLaws
import Derived.Below
import Derived.Sort.Grow
import Derived.Deep.Draws
import Derived.KernelRfl
import Derived.Laws.BitsLemmas
/- Mini against the model: == of values that aren't numbers or texts alone. -/
namespace Go.Mini
open Go Go.RowKit
variable {P : Program} {own : Nat → Prop} {tm : Nat → Bool} {E : Env} {st : DS} {a : Act} {nm : Nat} {o : Oper}
theorem live_hdr (hi : Inv own tm E st a.tmps) {p n : Nat} {x : Value} (hr : RelV E (.own p (n + 1)) x) (hl : live p (n + 1) st = true) : ∃ b, x = .slice (some ⟨b, 0, none⟩) (n + 1) (E.cap p) := by
  unfold live at hl
  cases hr with
  | own hb _ hh =>
    split at hl
    · rename_i l bb ho
      have hn : l.length = n + 1 := by simpa using hl
      have hx := hh (by rw [hi.len, ho]; exact congrArg some hn)
      have ok := hi.objs p _ ho
      cases ok with
      | byt0 => simp at hn
      | byt k1 => exact ⟨_, by rw [hx]; unfold hdr; rw [k1]⟩
    · rename_i s l bb ho
      have hn : l.length = n + 1 := by simpa using hl
      have hx := hh (by rw [hi.len, ho]; exact congrArg some hn)
      have ok := hi.objs p _ ho
      cases ok with
      | el0 => simp at hn
      | el k1 => exact ⟨_, by rw [hx]; unfold hdr; rw [k1]⟩
    · cases hl
theorem ba_beq (a b : List UInt8) : ((⟨a.toArray⟩ : ByteArray).toList == (⟨b.toArray⟩ : ByteArray).toList) = (a == b) := by
  rw [ByteArray.toList_mk, ByteArray.toList_mk]
theorem ba_beq2 (a b : List UInt8) : ((⟨a.toArray⟩ : ByteArray) == (⟨b.toArray⟩ : ByteArray)) = (a == b) := by
  rw [beq_toListBytes, ba_beq]
theorem equal_of {P : Program} {t : TypeId} {x y : Value} {r : Bool} {w : World} (h : ∀ d, (Op.equalIn (d + 1) t x y).run P w = .ok r w) : (Op.equal t x y).run P w = .ok r w := h 9999
theorem part_one {P : Program} {t : TypeId} {vs : List Value} {i : Nat} {x : Value} (hu : (∃ k, P.underlying t = some (.int k)) ∨ P.underlying t = some .bool ∨ P.underlying t = some .string) (hx : vs[i]? = some x) (w : World) :
    (part t vs.toArray i).run P w = .ok x w := by
  have ha : (isAgg t).run P w = .ok false w := by
    rcases hu with ⟨k, hu⟩ | hu | hu <;> simp [isAgg, under_run hu]
  simp only [part, Sem.run_bind, ha, Result.andThen_ok, Bool.false_eq_true, if_false, List.getElem?_toArray, hx, Sem.run_pure]
theorem eqFields_ok {P : Program} {d : Nat} {E : Env} {vs ws : List Value} (w : World) : ∀ (fs : List Field) (i : Nat) {ks : List FK} {l m : List MV} {r : Bool}, eqFieldsK P i fs = some ks → eqCells ks l m = some r →
    RelL E l (vs.drop i) → RelL E m (ws.drop i) → (Op.eqFields (d + 1) vs.toArray ws.toArray fs).run P w = .ok r w
  | [], i, ks, l, m, r, hf, h, _, _ => by
    simp only [eqFieldsK, Option.some.injEq] at hf
    subst hf
    unfold eqCells at h
    split at h <;> first | (cases h; rfl) | (simp at *; done)
  | f :: fs, i, ks, l, m, r, hf, h, hv, hw => by
    simp only [eqFieldsK] at hf
    split at hf
    · rename_i hc
      obtain ⟨hoff, hname⟩ := hc
      split at hf
      · rename_i k ks' hk hks
        cases hf
        have rest : ∀ {c e : MV} {x' y' : List MV}, l = c :: x' → m = e :: y' → ∀ r', eqCells ks' x' y' = some r' → ∀ b,
            (∀ x y, RelV E c x → RelV E e y → (Op.equalIn (d + 1) f.type x y).run P w = .ok b w) → r = (b && r') →
            ((∃ k, P.underlying f.type = some (.int k)) ∨ P.underlying f.type = some .bool ∨ P.underlying f.type = some .string) → (Op.eqFields (d + 1) vs.toArray ws.toArray (f :: fs)).run P w = .ok r w := by
          rintro c e x' y' rfl rfl r' hr' b hb rfl hu
          cases hvd : vs.drop i with
          | nil => rw [hvd] at hv; cases hv
          | cons x xs =>
          cases hwd : ws.drop i with
          | nil => rw [hwd] at hw; cases hw
          | cons y ys =>
          have hxi : vs[i]? = some x := by have := List.getElem?_drop (xs := vs) (i := i) (j := 0); rw [hvd] at this; simpa using this.symm
          have hyi : ws[i]? = some y := by have := List.getElem?_drop (xs := ws) (i := i) (j := 0); rw [hwd] at this; simpa using this.symm
          have hxd : vs.drop (i + 1) = xs := by rw [← List.drop_drop, hvd]; rfl
          have hyd : ws.drop (i + 1) = ys := by rw [← List.drop_drop, hwd]; rfl
          rw [hvd] at hv
          rw [hwd] at hw
          cases hv with
          | cons h1 h2 =>
          cases hw with
          | cons k1 k2 =>
          have p1 := part_one hu hxi w
          have p2 := part_one hu hyi w
          simp only [Op.eqFields, if_pos hname, Sem.run_bind, hoff, p1, p2, Result.andThen_ok, hb x y h1 k1]
          have ih := eqFields_ok (d := d) w fs (i + 1) (l := x') (m := y') (r := r') hks hr' (by rw [hxd]; exact h2) (by rw [hyd]; exact k2)
          cases b
          · simp
          · simp [ih]
        unfold eqCells at h
        split at h
        · simp at *
        · rename_i e1
          cases e1
          split at h
          · rename_i hkk
            subst hkk
            simp only [Option.map_eq_some_iff] at h
            obtain ⟨r', hr', rfl⟩ := h
            split at hk <;> cases hk
            rename_i hu
            refine rest rfl rfl r' hr' _ (fun x y hx hy => ?_) rfl (.inl ⟨_, hu⟩)
            cases hx; cases hy
            simp [Op.equalIn, under_run hu]
          · cases h
        · rename_i e1
          cases e1
          simp only [Option.map_eq_some_iff] at h
          obtain ⟨r', hr', rfl⟩ := h
          split at hk <;> cases hk
          rename_i hu
          refine rest rfl rfl r' hr' _ (fun x y hx hy => ?_) rfl (.inr (.inl hu))
          cases hx; cases hy
          simp [Op.equalIn, under_run hu]
        · rename_i e1
          cases e1
          simp only [Option.map_eq_some_iff] at h
          obtain ⟨r', hr', rfl⟩ := h
          split at hk <;> cases hk
          rename_i hu
          refine rest rfl rfl r' hr' _ (fun x y hx hy => ?_) rfl (.inr (.inr hu))
          cases hx; cases hy
          simp [Op.equalIn, under_run hu, ba_beq2]
        · cases h
      · cases hf
    · cases hf
theorem eq_gives {op : BinOp} {neq : Bool} {t t' : TypeId} {x y : Operand} (ho : o.op = .binOp op t x y t') (hop : (op = .eql ∧ neq = false) ∨ (op = .neq ∧ neq = true)) (hi : Inv own tm E st a.tmps) {r : Bool}
    (hg : (eqGuard op t x y (a.eval x) (a.eval y)).run P E.w = .ok () E.w) (he : (Op.equal t (a.eval x) (a.eval y)).run P E.w = .ok r E.w)
    (hb : Go.binOp .eql t (a.eval x) (a.eval y) = (do pure (.bool (← Op.equal t (a.eval x) (a.eval y))))) (hb2 : Go.binOp .neq t (a.eval x) (a.eval y) = (do pure (.bool (!(← Op.equal t (a.eval x) (a.eval y)))))) :
    OpOK P own tm nm E a o st (.bool (if neq then !r else r)) := by
  refine OpOK.gives hi (s := (do eqGuard op t x y (a.eval x) (a.eval y); Go.binOp op t (a.eval x) (a.eval y))) ?_ (by unfold execOp; rw [ho])
  rcases hop with ⟨rfl, rfl⟩ | ⟨rfl, rfl⟩
  · exact ⟨.bool r, by simp only [Sem.run_bind, hg, Result.andThen_ok, hb, he, Sem.run_pure], .bool⟩
  · exact ⟨.bool !r, by simp only [Sem.run_bind, hg, Result.andThen_ok, hb2, he, Sem.run_pure], .bool⟩
theorem op_eqs (hi : Inv own tm E st a.tmps) {op : BinOp} {neq : Bool} {k : EqK} {d : TypeDesc} {t t' : TypeId} {x y : Operand} {x' y' : X} (hx : trX tm x = some x') (hy : trX tm y = some y') (ho : o.op = .binOp op t x y t')
    (hop : (op = .eql ∧ neq = false) ∨ (op = .neq ∧ neq = true)) (hu : P.underlying t = some d) (hk : trEq P t d = some k) (hif : k = .iface → ∃ c, y = .const c)
    {r : Bool} (h : eqV (fun o n => live o n st) k (st.rd x') (st.rd y') = some r) : OpOK P own tm nm E a o st (.bool (if neq then !r else r)) := by
  have rx := rd_ok hi hx
  have ry := rd_ok hi hy
  generalize st.rd x' = mx at h rx
  generalize st.rd y' = my at h ry
  have G := eq_gives (P := P) (nm := nm) ho hop hi (r := r)
  generalize hvx : a.eval x = vx at rx G
  generalize hvy : a.eval y = vy at ry G
  have ug := under_run hu
  have ug := under_run hu
  have iface : k = .iface → ∃ ms, d = .interface ms := by
    rintro rfl; unfold trEq at hk; split at hk <;> first | exact ⟨_, rfl⟩ | cases hk | (split at hk <;> first | cases hk | (split at hk <;> cases hk))
  have slice : k = .slice → ∃ e, d = .slice e := by
    rintro rfl; unfold trEq at hk; split at hk <;> first | exact ⟨_, rfl⟩ | cases hk | (split at hk <;> first | cases hk | (split at hk <;> cases hk))
  have ptr : k = .ptr → ∃ e, d = .pointer e := by
    rintro rfl; unfold trEq at hk; split at hk <;> first | exact ⟨_, rfl⟩ | cases hk | (split at hk <;> first | cases hk | (split at hk <;> cases hk))
  have fn : k = .fn → ∃ p q r, d = .func p q r := by
    rintro rfl; unfold trEq at hk; split at hk <;> first | exact ⟨_, _, _, rfl⟩ | cases hk | (split at hk <;> first | cases hk | (split at hk <;> cases hk))
  unfold eqV at h
  split at h
  · -- bool
    cases h; cases rx; cases ry
    have : d = .bool := by unfold trEq at hk; split at hk <;> first | rfl | cases hk | (split at hk <;> first | cases hk | (split at hk <;> cases hk))
    subst this
    exact G (eqGuard_run _ _ _ _ _ (.inl (by simp)) (by simp)) (equal_of fun d => by simp [Op.equalIn, ug]) rfl rfl
  · -- nil, nil
    cases h; cases rx; cases ry
    obtain ⟨ms, rfl⟩ := iface rfl
    obtain ⟨c, rfl⟩ := hif rfl
    refine G ?_ (equal_of fun d => by simp [Op.equalIn, ug]) rfl rfl
    rcases hop with ⟨rfl, _⟩ | ⟨rfl, _⟩ <;> simp [eqGuard]
  · cases h; cases rx; cases ry
    obtain ⟨ms, rfl⟩ := iface rfl
    exact G (eqGuard_run _ _ _ _ _ (.inr (by simp)) (by simp)) (equal_of fun d => by simp [Op.equalIn, ug]) rfl rfl
  · cases h; cases rx; cases ry
    obtain ⟨ms, rfl⟩ := iface rfl
    exact G (eqGuard_run _ _ _ _ _ (.inl (by simp)) (by simp)) (equal_of fun d => by simp [Op.equalIn, ug]) rfl rfl
  · cases h; cases rx; cases ry
    obtain ⟨e, rfl⟩ := slice rfl
    exact G (eqGuard_run _ _ _ _ _ (.inl (by simp)) (by simp)) (equal_of fun d => by simp [Op.equalIn, ug]) rfl rfl
  · cases h; cases ry
    obtain ⟨e, rfl⟩ := slice rfl
    cases rx with
    | bs hc hl hh =>
      obtain ⟨ad, rfl, _⟩ := hh (by simp)
      exact G (eqGuard_run _ _ _ _ _ (.inl (by simp)) (by simp)) (equal_of fun d => by simp [Op.equalIn, ug]) rfl rfl
  · cases h; cases ry
    obtain ⟨e, rfl⟩ := slice rfl
    cases rx with
    | sl hc hl h0 hs hr hh =>
      obtain ⟨ad, rfl, _⟩ := hh (by simp)
      exact G (eqGuard_run _ _ _ _ _ (.inl (by simp)) (by simp)) (equal_of fun d => by simp [Op.equalIn, ug]) rfl rfl
  · cases ry
    obtain ⟨e, rfl⟩ := slice rfl
    split at h
    · rename_i hl
      cases h
      obtain ⟨b, hb⟩ := live_hdr hi rx hl
      subst hb
      exact G (eqGuard_run _ _ _ _ _ (.inl (by simp)) (by simp)) (equal_of fun d => by simp [Op.equalIn, ug]) rfl rfl
    · cases h
  · cases h; cases rx; cases ry
    obtain ⟨e, rfl⟩ := ptr rfl
    exact G (eqGuard_run _ _ _ _ _ (.inl (by simp)) (by simp)) (equal_of fun d => by simp [Op.equalIn, ug]) rfl rfl
  · cases h; cases rx; cases ry
    obtain ⟨e, rfl⟩ := ptr rfl
    exact G (eqGuard_run _ _ _ _ _ (.inl (by simp)) (by simp)) (equal_of fun d => by simp [Op.equalIn, ug]) rfl rfl
  · cases h; cases rx; cases ry
    obtain ⟨p, q, r, rfl⟩ := fn rfl
    exact G (eqGuard_run _ _ _ _ _ (.inl (by simp)) (by simp)) (equal_of fun d => by simp [Op.equalIn, ug]) rfl rfl
  · cases h; cases rx; cases ry
    obtain ⟨p, q, r, rfl⟩ := fn rfl
    exact G (eqGuard_run _ _ _ _ _ (.inl (by simp)) (by simp)) (equal_of fun d => by simp [Op.equalIn, ug]) rfl rfl
  · rename_i ks l m
    have : ∃ fs, d = .struct fs ∧ P.eqGuardType P.depth t = false ∧ P.stoodInHeld t = false ∧ eqFieldsK P 0 fs.toList = some ks := by
      unfold trEq at hk; split at hk <;> first | cases hk | skip
      split at hk
      · rename_i hh
        split at hk
        · rename_i hks; cases hk; exact ⟨_, rfl, hh.1, hh.2, hks⟩
        · cases hk
      · cases hk
    obtain ⟨fs, rfl, h1, h2, h3⟩ := this
    have hfo : P.fieldsOf t = fs := by simp [Program.fieldsOf, hu]
    cases rx with
    | agg hr hc =>
    cases ry with
    | agg kr kc =>
    rename_i vs ws
    refine G (run_eqGuard_agg _ _ _ _ _ _ _ h1) ?_ rfl rfl
    show (Op.equalIn (9998 + 1 + 1) t _ _).run P E.w = _
    rw [run_equalIn_struct E.w _ t _ _ (by rw [hu, hfo]) h2, hfo]
    exact eqFields_ok E.w fs.toList 0 h3 h (by simpa using hr) (by simpa using kr)
  · cases h
end Go.Mini
/- Mini against the model: calls. -/
namespace Go.Mini
open Go Go.RowKit
variable {P : Program} {own : Nat → Prop} {tm : Nat → Bool} {E : Env} {st : DS} {a : Act} {nm : Nat} {o : Oper}
theorem Cells.same {E E' : Env} (hC : E'.C = E.C) (hw : E'.w = E.w) {ad : Addr} {vs : List Value} (h : Cells E ad vs) : Cells E' ad vs :=
  ⟨h.spot, by rw [hC]; exact h.com, by rw [hw]; exact h.cell⟩
theorem Pure.cells {v : MV} (h : Pure v) : ∀ c ∈ v.cells, Pure c := by
  cases h with
  | agg h => exact h
  | int => simp [MV.cells]; exact .int
  | bool => simp [MV.cells]; exact .bool
  | str => simp [MV.cells]; exact .str
  | nilsl => simp [MV.cells]; exact .nilsl
  | bs => simp [MV.cells]; exact .bs
  | sl h => simp [MV.cells]; exact .sl h
  | tup h => simp [MV.cells]; exact .tup h
  | nilptr => simp [MV.cells]; exact .nilptr
  | nilfn => simp [MV.cells]; exact .nilfn
  | nilif => simp [MV.cells]; exact .nilif
  | iface h => simp [MV.cells]; exact .iface h
  | fn h => simp [MV.cells]; exact .fn h
  | cptr h => simp [MV.cells]; exact .cptr h
mutual
theorem RelV.bare {E E' : Env} (hC : E'.C = E.C) (hw : E'.w = E.w) : ∀ {v : MV} {x : Value}, RelV E v x → Pure v → RelV E' v x
  | _, _, .int h0 h1, _ => .int h0 h1
  | _, _, .bool, _ => .bool
  | _, _, .str h, _ => .str h
  | _, _, .nilsl, _ => .nilsl
  | _, _, .bs hc hl h, _ => .bs hc hl fun hn => let ⟨ad, e, hh⟩ := h hn; ⟨ad, e, hh.same hC hw⟩
  | _, _, .sl hc hl h0 hs hr h, _ => .sl hc hl h0 hs (RelL.bare hC hw hr fun c hc => by
      obtain ⟨e, he, hce⟩ := List.mem_flatMap.1 hc
      exact (hs e he).2.2.cells c hce) fun hn => let ⟨ad, e, hh⟩ := h hn; ⟨ad, e, hh.same hC hw⟩
  | _, _, .agg hr hc, _ => .agg (RelL.bare hC hw hr fun c h => (hc c h).2) hc
  | _, _, .tup hr, p => .tup (RelL.bare hC hw hr (by cases p with | tup h => exact h))
  | _, _, .nilptr, _ => .nilptr
  | _, _, .nilfn, _ => .nilfn
  | _, _, .nilif, _ => .nilif
  | _, _, .iface hr hp, _ => .iface (RelV.bare hC hw hr hp) hp
  | _, _, .fn hr, p => .fn (RelL.bare hC hw hr (by cases p with | fn h => exact h))
  | _, _, .own .., p => by cases p
  | _, _, .ptr .., p => by cases p
  | _, _, .eptr .., p => by cases p
  | _, _, .cptr hr hc h, _ => .cptr (RelL.bare hC hw hr fun c h => (hc c h).2) hc (h.same hC hw)
  | _, _, .undef, p => by cases p
theorem RelL.bare {E E' : Env} (hC : E'.C = E.C) (hw : E'.w = E.w) : ∀ {l : List MV} {vs : List Value}, RelL E l vs → (∀ e ∈ l, Pure e) → RelL E' l vs
  | _, _, .nil, _ => .nil
  | _, _, .cons h r, p => .cons (RelV.bare hC hw h (p _ (by simp))) (RelL.bare hC hw r fun e he => p e (by simp [he]))
end
inductive RetV (E : Env) (lo : Nat) : MV → Value → Option Nat → Prop
  | pure {v x} (h : RelV E v x) (p : Pure v) : RetV E lo v x none
  | fby0 : RetV E lo (.fby []) (.slice none 0 0) none
  | fby {l b cap} (hlo : lo ≤ b) (hc : l.length ≤ cap) (hl : l.length < 2 ^ 62) (hr : Row E b cap 1 (l.map byteV) false) : RetV E lo (.fby l) (.slice (some ⟨b, 0, none⟩) l.length cap) (some b)
  | fel0 {s} (h0 : 0 < s) : RetV E lo (.fel s []) (.slice none 0 0) none
  | fel {s l b cap vs} (hlo : lo ≤ b) (h0 : 0 < s) (hc : l.length ≤ cap) (hl : l.length < 2 ^ 62) (hu : Uni s l) (hv : RelL E (l.flatMap MV.cells) vs) (hr : Row E b cap s vs false) : RetV E lo (.fel s l) (.slice (some ⟨b, 0, none⟩) l.length cap) (some b)
inductive RetL (E : Env) (lo : Nat) : List MV → List Value → List Nat → Prop
  | nil : RetL E lo [] [] []
  | cons {v x l xs bs} {b : Option Nat} (h : RetV E lo v x b) (r : RetL E lo l xs bs) (hb : ∀ k, b = some k → k ∉ bs) : RetL E lo (v :: l) (x :: xs) (b.toList ++ bs)
def Ret (E : Env) (lo : Nat) (r : MV) (x : Value) : Prop :=
  match r with
  | .tup l => ∃ xs bs, x = .tuple xs.toArray ∧ RetL E lo l xs bs
  | r => ∃ b, RetV E lo r x b
def CallK (P : Program) (f : FuncId) (vs : Array Value) (w : World) (K : Value → World → Prop) : Prop :=
  ((callFunc f vs).run P w = .ok (.enter f vs) w ∧ Calls P f vs w (fun e w' => ∃ x, e = .returned x ∧ K x w')) ∨ ∃ x w', (callFunc f vs).run P w = .ok (.value x) w' ∧ K x w'
structure Ground where
  lim : Nat
  G : Env → Prop
  lo : ∀ E, G E → lim ≤ E.w.heap.size
  st : ∀ E E' : Env, (∀ b, E.C b ≤ E'.C b) → (∀ b i, i < E.C b → E'.w.cell? ⟨b, i, none⟩ = E.w.cell? ⟨b, i, none⟩) → (∀ k, k < lim → E'.w.heap[k]? = E.w.heap[k]?) → E.w.heap.size ≤ E'.w.heap.size → G E → G E'
def Ground.On (Gd : Ground) (own : Nat → Prop) (E : Env) : Prop := Gd.G E ∧ ∀ k, own k → Gd.lim ≤ k
theorem Ground.move (Gd : Ground) {own : Nat → Prop} {E E' : Env} (m : Move own E E') (h : Gd.On own E) : Gd.On own E' :=
  ⟨Gd.st E E' m.C m.cell (fun k hk => m.block k (Nat.lt_of_lt_of_le hk (Gd.lo E h.1)) fun ho => absurd (h.2 k ho) (by omega)) m.size h.1, h.2⟩
theorem Ground.same (Gd : Ground) {own : Nat → Prop} {E E' : Env} (hC : E'.C = E.C) (hw : E'.w = E.w) (h : Gd.On own E) : Gd.On own E' :=
  ⟨Gd.st E E' (fun b => by rw [hC]; exact Nat.le_refl _) (fun b i _ => by rw [hw]) (fun k _ => by rw [hw]) (by rw [hw]; exact Nat.le_refl _) h.1, h.2⟩
def Env.next (E : Env) (C : Nat → Nat) (w : World) : Env := { E with C := C, w := w }
def FunOK (P : Program) (Gd : Ground) (f : FuncId) (args : List MV) (r : MV) : Prop :=
  ∀ (E : Env) (vs : List Value), Gd.G E → (∀ b, 0 < E.C b → b < E.w.heap.size) → RelL E args vs → (∀ v ∈ args, Pure v) →
    CallK P f vs.toArray E.w fun x w' => ∃ C, Move (fun k => E.w.heap.size ≤ k) E (E.next C w') ∧ (∀ b, 0 < C b → b < w'.heap.size) ∧ Ret (E.next C w') E.w.heap.size r x
def COK (P : Program) (Gd : Ground) (C : CallT) : Prop := ∀ f args r, C f args = some r → FunOK P Gd f args r
theorem Inv.lo {tmps} (h : Inv own tm E st tmps) {k : Nat} (hk : ¬ own k) : k < E.w.heap.size := by
  rcases Nat.lt_or_ge k E.w.heap.size with h' | h'
  · exact h'
  · exact (hk (h.base k h')).elim
theorem Inv.called {tmps} (h : Inv own tm E st tmps) {C : Nat → Nat} {w' : World} (mv : Move (fun k => E.w.heap.size ≤ k) E (E.next C w')) (hg : ∀ b, 0 < C b → b < w'.heap.size) :
    Move own E (E.next C w') ∧ Inv own tm (E.next C w') st tmps := by
  have m : Move own E (E.next C w') := ⟨mv.toExt, mv.os, mv.tape, mv.output, mv.size, fun k hk _ => mv.block k hk (by omega), fun k hk => mv.com k (by have := h.lo hk; omega)⟩
  refine ⟨m, h.change m rfl rfl h.len ?_ h.sep h.ownb hg h.born⟩
  intro p x hp
  refine (h.objs p x hp).ext mv.toExt rfl rfl rfl fun b hb => ?_
  have := h.lt hp hb
  exact ⟨mv.block b this (by omega), mv.com b (by omega)⟩
def Env.adopt (E : Env) (n b k cap sz : Nat) : Env :=
  { C := E.C, w := E.w, born := fun p => E.born p ∨ p = n, len := upd E.len n (some k), blk := upd E.blk n (some b), cap := upd E.cap n cap, sz := upd E.sz n sz }
theorem Move.adopt {n : Nat} (hn : ¬ E.born n) (b k cap sz : Nat) : Move own E (E.adopt n b k cap sz) where
  C _ := Nat.le_refl _
  cell _ _ _ := rfl
  born _ h := .inl h
  len p hp m hm := by
    have hne : p ≠ n := by rintro rfl; exact hn hp
    have hm : upd E.len n (some k) p = some m := hm
    rw [upd_other _ _ hne] at hm
    exact ⟨hm, upd_other _ _ hne, upd_other _ _ hne, upd_other _ _ hne⟩
  os := rfl
  tape := rfl
  output := rfl
  size := Nat.le_refl _
  block _ _ _ := rfl
  com _ _ := rfl
theorem Inv.adopt {tmps} (h : Inv own tm E st tmps) {n : Nat} (hn : ¬ E.born n) {b cap sz : Nat} {ob : Obj} (hb : own b) (hne : ∀ p, look st.O p ≠ none → E.blk p ≠ some b) (hx : ObjOK (E.adopt n b ob.len cap sz) n ob) :
    Inv own tm (E.adopt n b ob.len cap sz) { st with O := put st.O n ob } tmps := by
  have old : ∀ {r}, r ≠ n → look (put st.O n ob) r = look st.O r := fun hr => by rw [look_put, if_neg (Ne.symm hr)]
  refine h.change (Move.adopt hn _ _ _ _) rfl rfl ?_ ?_ ?_ ?_ h.good ?_
  · intro p
    show upd E.len n _ p = _
    rw [look_put]
    by_cases hp : p = n
    · subst hp; simp [upd_same]
    · rw [upd_other _ _ hp, if_neg (Ne.symm hp), h.len]
  · intro p x hp
    have hp : look (put st.O n ob) p = some x := hp
    by_cases hpn : p = n
    · subst hpn; rw [look_put_same] at hp; cases hp; exact hx
    · rw [old hpn] at hp
      exact (h.objs p x hp).ext (Move.adopt (own := own) hn _ _ _ _).toExt (upd_other _ _ hpn) (upd_other _ _ hpn) (upd_other _ _ hpn) fun b hb => ⟨rfl, rfl⟩
  · intro p q c hp hq hpb hqb
    have hp : look (put st.O n ob) p ≠ none := hp
    have hq : look (put st.O n ob) q ≠ none := hq
    have hpb : upd E.blk n (some b) p = some c := hpb
    have hqb : upd E.blk n (some b) q = some c := hqb
    by_cases h1 : p = n
    · by_cases h2 : q = n
      · rw [h1, h2]
      · rw [h1, upd_same] at hpb; cases hpb
        rw [old h2] at hq; rw [upd_other _ _ h2] at hqb
        exact (hne q hq hqb).elim
    · rw [old h1] at hp; rw [upd_other _ _ h1] at hpb
      by_cases h2 : q = n
      · rw [h2, upd_same] at hqb; cases hqb
        exact (hne p hp hpb).elim
      · rw [old h2] at hq; rw [upd_other _ _ h2] at hqb
        exact h.sep p q c hp hq hpb hqb
  · intro p c hp hpb
    have hp : look (put st.O n ob) p ≠ none := hp
    have hpb : upd E.blk n (some b) p = some c := hpb
    by_cases h1 : p = n
    · rw [h1, upd_same] at hpb; cases hpb; exact hb
    · rw [old h1] at hp
      rw [upd_other _ _ h1] at hpb
      exact h.ownb p c hp hpb
  · intro p hp
    have hp : look (put st.O n ob) p ≠ none := hp
    by_cases h1 : p = n
    · exact .inr h1
    · rw [old h1] at hp; exact .inl (h.born p hp)
theorem RetV.blk {lo : Nat} {v : MV} {x : Value} {b : Option Nat} (h : RetV E lo v x b) : ∀ k, b = some k → lo ≤ k := by
  intro k hk
  cases h <;> first | (cases hk; done) | (cases hk; assumption)
theorem inst_pure {v : MV} (h : Pure v) (nm : Nat) (st : DS) : inst nm v st = (v, st) := by
  cases h <;> rfl
theorem pure_fit_cases {v : MV} (h : Pure v) : (∀ l, v ≠ .fby l) ∧ ∀ s l, v ≠ .fel s l := by
  cases h <;> exact ⟨by simp, by simp⟩
theorem inst_ok {tmps} (h : Inv own tm E st tmps) {lo : Nat} (hlo : ∀ k, lo ≤ k → own k) {n : Nat} (hn : ¬ E.born n) {v : MV} {x : Value} {b : Option Nat} (hr : RetV E lo v x b)
    (hb : ∀ k, b = some k → ∀ p, look st.O p ≠ none → E.blk p ≠ some k) :
    ∃ E', Move own E E' ∧ E'.w = E.w ∧ E'.C = E.C ∧ (∀ p, E'.born p → E.born p ∨ p = n) ∧ Inv own tm E' (inst n v st).2 tmps ∧ RelV E' (inst n v st).1 x ∧ (inst n v st).2.T = st.T ∧ (inst n v st).2.V = st.V ∧ (inst n v st).2.nx = st.nx ∧
      (∀ k, (∀ p, look st.O p ≠ none → E.blk p ≠ some k) → b ≠ some k → ∀ p, look (inst n v st).2.O p ≠ none → E'.blk p ≠ some k) := by
  cases hr with
  | pure hr hp =>
    rw [inst_pure hp]
    exact ⟨E, Move.refl _ _, rfl, rfl, fun _ h => .inl h, h, hr, rfl, rfl, rfl, fun k hk _ => hk⟩
  | fby0 =>
    refine ⟨E.nul n 1, Move.nul hn 1, rfl, rfl, fun p h => h, Inv.nul h hn rfl (.byt0 (upd_same _ _ _) (upd_same _ _ _)), .own (.inr rfl) rfl fun _ => ?_, rfl, rfl, rfl, ?_⟩
    · unfold hdr; rw [show (E.nul n 1).blk n = none from upd_same _ _ _]
    · intro k hk _ p hp hpb
      have hp : look (put st.O n (.byt [] false)) p ≠ none := hp
      have hpb : upd E.blk n none p = some k := hpb
      by_cases h1 : p = n
      · subst h1; rw [upd_same] at hpb; cases hpb
      · rw [look_put, if_neg (Ne.symm h1)] at hp; rw [upd_other _ _ h1] at hpb; exact hk p hp hpb
  | fel0 h0 =>
    rename_i s
    refine ⟨E.nul n s, Move.nul hn s, rfl, rfl, fun p h => h, Inv.nul h hn rfl (.el0 (upd_same _ _ _) (upd_same _ _ _) h0), .own (.inr rfl) rfl fun _ => ?_, rfl, rfl, rfl, ?_⟩
    · unfold hdr; rw [show (E.nul n s).blk n = none from upd_same _ _ _]
    · intro k hk _ p hp hpb
      have hp : look (put st.O n (.el s [] false)) p ≠ none := hp
      have hpb : upd E.blk n none p = some k := hpb
      by_cases h1 : p = n
      · subst h1; rw [upd_same] at hpb; cases hpb
      · rw [look_put, if_neg (Ne.symm h1)] at hp; rw [upd_other _ _ h1] at hpb; exact hk p hp hpb
  | fby hlo' hc hl hr =>
    rename_i l b cap
    refine ⟨E.adopt n b l.length cap 1, Move.adopt hn _ _ _ _, rfl, rfl, fun p h => h, Inv.adopt h hn (ob := .byt l false) (hlo _ hlo') (hb b rfl) ?_, .own (.inr rfl) rfl fun _ => ?_, rfl, rfl, rfl, ?_⟩
    · refine .byt (upd_same _ _ _) (upd_same _ _ _) (by show _ ≤ upd E.cap n _ n; rw [upd_same]; exact hc) hl ?_
      rw [show (E.adopt n b (Obj.byt l false).len cap 1).cap n = cap from upd_same _ _ _]
      exact ⟨hr.row, hr.com, hr.not⟩
    · unfold hdr; rw [show (E.adopt n b l.length cap 1).blk n = some b from upd_same _ _ _, show (E.adopt n b l.length cap 1).cap n = cap from upd_same _ _ _]
    · intro k hk hbk p hp hpb
      have hp : look (put st.O n (.byt l false)) p ≠ none := hp
      have hpb : upd E.blk n (some b) p = some k := hpb
      by_cases h1 : p = n
      · subst h1; rw [upd_same] at hpb; exact hbk hpb
      · rw [look_put, if_neg (Ne.symm h1)] at hp; rw [upd_other _ _ h1] at hpb; exact hk p hp hpb
  | fel hlo' h0 hc hl hu hv hr =>
    rename_i s l b cap vs
    refine ⟨E.adopt n b l.length cap s, Move.adopt hn _ _ _ _, rfl, rfl, fun p h => h, Inv.adopt h hn (ob := .el s l false) (hlo _ hlo') (hb b rfl) ?_, .own (.inr rfl) rfl fun _ => ?_, rfl, rfl, rfl, ?_⟩
    · refine .el (upd_same _ _ _) (upd_same _ _ _) h0 (by show _ ≤ upd E.cap n _ n; rw [upd_same]; exact hc) hl hu (hv.ext (Move.adopt (own := own) hn _ _ _ _).toExt) ?_
      rw [show (E.adopt n b (Obj.el s l false).len cap s).cap n = cap from upd_same _ _ _]
      exact ⟨hr.row, hr.com, hr.not⟩
    · unfold hdr; rw [show (E.adopt n b l.length cap s).blk n = some b from upd_same _ _ _, show (E.adopt n b l.length cap s).cap n = cap from upd_same _ _ _]
    · intro k hk hbk p hp hpb
      have hp : look (put st.O n (.el s l false)) p ≠ none := hp
      have hpb : upd E.blk n (some b) p = some k := hpb
      by_cases h1 : p = n
      · subst h1; rw [upd_same] at hpb; exact hbk hpb
      · rw [look_put, if_neg (Ne.symm h1)] at hp; rw [upd_other _ _ h1] at hpb; exact hk p hp hpb
theorem RetV.same {E E' : Env} (hC : E'.C = E.C) (hw : E'.w = E.w) (x : Ext E E') {lo : Nat} {v : MV} {y : Value} {b : Option Nat} (h : RetV E lo v y b) : RetV E' lo v y b := by
  have row : ∀ {b cap s vs lent}, Row E b cap s vs lent → Row E' b cap s vs lent := fun h => ⟨by rw [hw]; exact h.row, by rw [hC]; exact h.com, by rw [hC]; exact h.not⟩
  cases h with
  | pure h p => exact .pure (h.ext x) p
  | fby0 => exact .fby0
  | fby h1 h2 h3 h4 => exact .fby h1 h2 h3 (row h4)
  | fel0 h => exact .fel0 h
  | fel h1 h2 h3 h4 h5 h6 h7 => exact .fel h1 h2 h3 h4 h5 (h6.ext x) (row h7)
theorem RetL.same {E E' : Env} (hC : E'.C = E.C) (hw : E'.w = E.w) (x : Ext E E') {lo : Nat} : ∀ {l : List MV} {ys : List Value} {bs : List Nat}, RetL E lo l ys bs → RetL E' lo l ys bs
  | _, _, _, .nil => .nil
  | _, _, _, .cons h r hb => .cons (h.same hC hw x) (RetL.same hC hw x r) hb
theorem insts_ok : ∀ {l : List MV} {E : Env} {st : DS} {tmps : Array Value} {lo : Nat} {n : Nat} {xs : List Value} {bs : List Nat}, Inv own tm E st tmps → (∀ k, lo ≤ k → own k) → (∀ p, n ≤ p → p < n + l.length → ¬ E.born p) → RetL E lo l xs bs →
    (∀ k ∈ bs, ∀ p, look st.O p ≠ none → E.blk p ≠ some k) →
    ∃ E', Move own E E' ∧ E'.w = E.w ∧ (∀ p, E'.born p → E.born p ∨ (n ≤ p ∧ p < n + l.length)) ∧ Inv own tm E' (insts n l st).2 tmps ∧ RelL E' (insts n l st).1 xs ∧ (insts n l st).2.T = st.T ∧ (insts n l st).2.V = st.V ∧ (insts n l st).2.nx = st.nx
  | [], E, st, tmps, lo, n, xs, bs, h, hlo, hn, hr, hb => by
    cases hr
    exact ⟨E, Move.refl _ _, rfl, fun _ h => .inl h, h, .nil, rfl, rfl, rfl⟩
  | v :: l, E, st, tmps, lo, n, xs, bs, h, hlo, hn, hr, hb => by
    cases hr with
    | cons h1 h2 h3 =>
      rename_i x xs bs b
      obtain ⟨E1, m1, w1, c1, b1, i1, r1, t1, v1, n1, s1⟩ := inst_ok h hlo (hn n (Nat.le_refl _) (by simp)) h1 (fun k hk => hb k (by simp [hk]))
      obtain ⟨E2, m2, w2, b2, i2, r2, t2, v2, n2⟩ := insts_ok i1 hlo (n := n + 1) (fun p hp hp2 hpb => by
        rcases b1 p hpb with hpb | rfl
        · exact hn p (by omega) (by simp only [List.length_cons]; omega) hpb
        · omega) (h2.same c1 w1 m1.toExt) (fun k hk => s1 k (hb k (by simp [hk])) (fun e => h3 k e hk))
      refine ⟨E2, m1.trans m2, w2.trans w1, ?_, i2, .cons (r1.ext m2.toExt) r2, t2.trans t1, v2.trans v1, n2.trans n1⟩
      intro p hp
      simp only [List.length_cons]
      rcases b2 p hp with hp | hp
      · rcases b1 p hp with hp | rfl
        · exact .inl hp
        · exact .inr ⟨by omega, by omega⟩
      · exact .inr ⟨by omega, by omega⟩
theorem instR_ok {tmps} (h : Inv own tm E st tmps) {lo : Nat} (hlo : ∀ k, lo ≤ k → own k) (hl2 : ∀ p b, look st.O p ≠ none → E.blk p = some b → b < lo) (hn : ∀ p, nm ≤ p → p < nm + 4 → ¬ E.born p) {r : MV} {x : Value} (hw : r.width ≤ 4) (hr : Ret E lo r x) :
    ∃ E', Move own E E' ∧ E'.w = E.w ∧ (∀ p, E'.born p → E.born p ∨ (nm ≤ p ∧ p < nm + 4)) ∧ Inv own tm E' (instR nm r st).2 tmps ∧ RelV E' (instR nm r st).1 x := by
  by_cases ht : ∃ l, r = .tup l
  · obtain ⟨l, rfl⟩ := ht
    obtain ⟨xs, bs, rfl, hr⟩ := hr
    have hlow : ∀ {l : List MV} {xs : List Value} {bs : List Nat}, RetL E lo l xs bs → ∀ k ∈ bs, lo ≤ k := by
      intro l
      induction l with
      | nil => intro xs bs h k hk; cases h; cases hk
      | cons v l ih =>
        intro xs bs h k hk
        cases h with
        | cons h1 h2 h3 =>
          rcases List.mem_append.1 hk with hk | hk
          · exact h1.blk k (by simpa using hk)
          · exact ih h2 k hk
    have hw : l.length ≤ 4 := hw
    obtain ⟨E', m, w, b, i, rr, t, v, n⟩ := insts_ok h hlo (n := nm) (fun p h1 h2 => hn p h1 (by omega)) hr (fun k hk p hp hpb => by have := hl2 p k hp hpb; have := hlow hr k hk; omega)
    refine ⟨E', m, w, fun p hp => ?_, i, .tup rr⟩
    rcases b p hp with h | h
    · exact .inl h
    · exact .inr ⟨h.1, by omega⟩
  · have e : instR nm r st = inst nm r st := by
      cases r <;> first | rfl | exact (ht ⟨_, rfl⟩).elim
    have hr : ∃ b, RetV E lo r x b := by
      cases r <;> first | exact hr | exact (ht ⟨_, rfl⟩).elim
    obtain ⟨b, hr⟩ := hr
    obtain ⟨E', m, w, c, b, i, rr, t, v, n, s⟩ := inst_ok h hlo (hn nm (Nat.le_refl _) (by omega)) hr (fun k hk p hp hpb => by have := hl2 p k hp hpb; have := hr.blk k hk; omega)
    rw [e]
    refine ⟨E', m, w, fun p hp => ?_, i, rr⟩
    rcases b p hp with h | rfl
    · exact .inl h
    · exact .inr ⟨Nat.le_refl _, by omega⟩
theorem dCall_ok {Gd : Ground} {C : CallT} (hC : COK P Gd C) (hG : Gd.On own E) (hi : Inv own tm E st a.tmps) (hn : ∀ p, nm ≤ p → p < nm + 4 → ¬ E.born p) {f : FuncId} {args : List MV} {vs : List Value} (hr : RelL E args vs)
    (hx : (execOp a.eval o).run P E.w = (callFunc f vs.toArray).run P E.w) {v : MV} {st' : DS} (h : dCall C nm f args st = some (v, st')) : OpOK P own tm nm E a o st' v := by
  unfold dCall at h
  split at h
  · rename_i as st1 h1
    split at h
    · rename_i r hr'
      split at h
      · rename_i hwid
        have hv : (instR nm r st1).1 = v ∧ (instR nm r st1).2 = st' := by
          cases hh : instR nm r st1 with
          | mk p q => rw [hh] at h; cases h; exact ⟨rfl, rfl⟩
        obtain ⟨E1, m1, w1, b1, i1, rl, pl, _, t1, v1, n1⟩ := lends_sound hi hr h1
        have ok := hC f as r hr' E1 vs (Gd.move m1 hG).1 i1.good rl pl
        rw [w1] at ok
        have fin : ∀ (x : Value) (w' : World), (∃ C, Move (fun k => E.w.heap.size ≤ k) E1 (E1.next C w') ∧ (∀ b, 0 < C b → b < w'.heap.size) ∧ Ret (E1.next C w') E.w.heap.size r x) →
            ∃ E3, Move own E E3 ∧ E3.w = w' ∧ (∀ p, E3.born p → E.born p ∨ (nm ≤ p ∧ p < nm + 4)) ∧ Inv own tm E3 st' a.tmps ∧ RelV E3 v x := by
          rintro x w' ⟨C', mv, hg, hret⟩
          rw [← w1] at mv
          obtain ⟨m2, i2⟩ := i1.called mv hg
          obtain ⟨E3, m3, w3, b3, i3, r3⟩ := instR_ok (nm := nm) i2 (lo := E.w.heap.size) (fun k hk => hi.base k hk) (fun p b hp hb => by
            obtain ⟨ob, hob⟩ := Option.ne_none_iff_exists'.1 hp
            have := i1.lt hob hb
            rw [w1] at this; exact this) (fun p h1 h2 hb => by
            have hb : E1.born p := hb
            rw [b1] at hb; exact hn p h1 h2 hb) hwid hret
          rw [hv.1] at r3
          rw [hv.2] at i3
          refine ⟨E3, (m1.trans m2).trans m3, w3, fun p hp => ?_, i3, r3⟩
          rcases b3 p hp with hp | hp
          · have hp : E1.born p := hp
            rw [b1] at hp; exact .inl hp
          · exact .inr hp
        intro next Q hnext
        unfold Oper.wp
        rw [hx]
        rcases ok with ⟨hrun, hcalls⟩ | ⟨x, w', hrun, hk⟩
        · rw [hrun]
          refine Calls.mono hcalls ?_
          rintro e w' ⟨x, rfl, hk⟩
          obtain ⟨E3, m, w, b, i, r⟩ := fin x w' hk
          subst w
          exact hnext E3 x m b i r
        · rw [hrun]
          obtain ⟨E3, m, w, b, i, r⟩ := fin x w' hk
          subst w
          exact hnext E3 x m b i r
      · cases h
    · cases h
  · cases h
theorem op_call {Gd : Ground} {C : CallT} (hC : COK P Gd C) (hG : Gd.On own E) (hi : Inv own tm E st a.tmps) (hn : ∀ p, nm ≤ p → p < nm + 4 → ¬ E.born p) {f : FuncId} {args : Array Operand} {ats : Array TypeId} {ys : List X}
    (hx : trXs tm args.toList = some ys) (ho : o.op = .call { callee := .value (.func f), args, argTypes := ats }) {v : MV} {st' : DS} (h : dCall C nm f (ys.map st.rd) st = some (v, st')) : OpOK P own tm nm E a o st' v := by
  refine dCall_ok hC hG hi hn (rds_ok hi hx) ?_ h
  unfold execOp
  rw [ho]
  simp [resolve, Act.eval, Deferred.ofValue, invoke, ← Array.toList_map]
theorem op_callv {Gd : Ground} {C : CallT} (hC : COK P Gd C) (hG : Gd.On own E) (hi : Inv own tm E st a.tmps) (hn : ∀ p, nm ≤ p → p < nm + 4 → ¬ E.born p) {f : Operand} {f' : X} {args : Array Operand} {ats : Array TypeId} {ys : List X}
    (hf : trX tm f = some f') (hx : trXs tm args.toList = some ys) (ho : o.op = .call { callee := .value f, args, argTypes := ats }) {g : FuncId} {caps : List MV} (hg : st.rd f' = .fn g caps) {v : MV} {st' : DS}
    (h : dCall C nm g (ys.map st.rd ++ caps) st = some (v, st')) : OpOK P own tm nm E a o st' v := by
  have rf := rd_ok hi hf
  rw [hg] at rf
  generalize hvf : a.eval f = vf at rf
  cases rf with
  | fn hcaps =>
    refine dCall_ok hC hG hi hn ((rds_ok hi hx).append hcaps) ?_ h
    unfold execOp
    rw [ho]
    simp only [resolve, hvf, Deferred.ofValue, Sem.run_bind, Sem.run_pure, Result.andThen_ok, invoke, Array.empty_append]
    congr 2
    rw [← Array.toList_map]
    simp
theorem freeze_row {w : World} {b n : Nat} {c : Array Value} {e : TypeId} {fr : Nat × Nat} (h : w.heap[b]? = some (.cells c e fr)) :
    w.freeze ⟨b, n, none⟩ 1 = putRow w b (.cells c e (if fr.1 == fr.2 then (n, n + 1) else (min fr.1 n, max fr.2 (n + 1)))) := by
  have hlt := (Array.getElem?_eq_some_iff.1 h).1
  obtain ⟨x, y⟩ := fr
  unfold World.freeze putRow
  simp only [Nat.one_ne_zero, if_false]
  congr 1
  apply Array.ext_getElem?
  intro i
  rw [Array.getElem?_modify]
  by_cases hi : b = i
  · subst hi
    rw [if_pos rfl, h]
    simp [hlt]
  · rw [if_neg hi, Array.getElem?_setIfInBounds_ne hi]
theorem op_mark (hi : Inv own tm E st a.tmps) {s e : TypeId} {x : Operand} {x' : X} (hx : trX tm x = some x') (ho : o.op = .convert s s x) (hs : P.underlying s = some (.slice e)) (he : isByteT P e = true)
    {p n : Nat} {l : List UInt8} {bb : Bool} (hr : st.rd x' = .own p n) (hl : look st.O p = some (.byt l bb)) (hn : l.length = n ∧ 0 < n) : OpOK P own tm nm E a o st (.own p n) := by
  have rx := rd_ok hi hx
  rw [hr] at rx
  generalize hvx : a.eval x = vx at rx
  have hx0 : vx = hdr E p n := by
    cases rx with
    | own hb h1 hh => exact hh (by rw [hi.len, hl]; exact congrArg some hn.1)
  have ok := hi.objs p _ hl
  cases ok with
  | byt0 => simp at hn; omega
  | byt k1 k2 k3 k4 k5 =>
    rename_i b
    have hv : vx = .slice (some ⟨b, 0, none⟩) n (E.cap p) := by rw [hx0]; unfold hdr; rw [k1]
    obtain ⟨c, te, fr, hh, hcs, hf, hpre⟩ := k5.row
    have hlt := hi.lt hl k1
    have hown := hi.ownb p b (by rw [hl]; simp) k1
    let G : Go.Obj := .cells c te (if fr.1 == fr.2 then (c.size, c.size + 1) else (min fr.1 c.size, max fr.2 (c.size + 1)))
    have hc : ∀ i, i < E.C b → (putRow E.w b G).cell? ⟨b, i, none⟩ = E.w.cell? ⟨b, i, none⟩ := by
      intro i _
      unfold World.cell?
      rw [putRow_same _ hlt, hh]
    have hfree : Free c.size (if fr.1 == fr.2 then (c.size, c.size + 1) else (min fr.1 c.size, max fr.2 (c.size + 1))) := by
      split
      · exact .inr (Nat.le_refl _)
      · rename_i hne
        rcases hf with hf | hf
        · exact (hne (by simpa using hf)).elim
        · exact .inr (by simp only; omega)
    have mv := Move.write (E := E) (G := G) hown hlt hc
    have i' := Inv.write hi hl k1 (ob' := .byt l bb) rfl hc (.byt k1 k2 k3 k4 ⟨⟨c, te, _, putRow_same _ hlt, hcs, hfree, hpre⟩, k5.com, k5.not⟩)
    have i2 : Inv own tm { E with w := putRow E.w b G } st a.tmps := by
      have lk : ∀ q, look (put st.O p (.byt l bb)) q = look st.O q := by
        intro q
        rw [look_put]
        split
        · rename_i h; subst h; exact hl.symm
        · rfl
      exact { len := fun q => by rw [i'.len]; exact congrArg _ (lk q), objs := fun q y hy => i'.objs q y (by rw [← lk] at hy; exact hy), sep := fun q r b h1 h2 => i'.sep q r b (by rw [← lk] at h1; exact h1) (by rw [← lk] at h2; exact h2),
              ownb := fun q b h1 => i'.ownb q b (by rw [← lk] at h1; exact h1), good := i'.good, born := fun q h1 => i'.born q (by rw [← lk] at h1; exact h1), base := i'.base, T := i'.T, V := i'.V }
    refine OpOK.val (E' := { E with w := putRow E.w b G }) (x := vx) ?_ mv (fun _ h => .inl h) i2 (rx.ext mv.toExt)
    have hsh : E.w.shape? b = some (te, c.size) := by unfold World.shape?; rw [hh]
    have hu8 := isByteT_ok he
    unfold execOp
    rw [ho]
    simp only [hvx, hv]
    simp only [Go.convert, Sem.run_bind, under_run hs, under_run hu8, Result.andThen_ok, markStringish, run_shape, hsh, run_freeze, freeze_row hh, Sem.run_pure, beq_self_eq_true]
    rfl
end Go.Mini
/- Mini against the model: ranges over texts. -/
namespace Go.Mini
open Go Go.RowKit
variable {P : Program} {own : Nat → Prop} {tm : Nat → Bool} {E : Env} {st : DS} {a : Act} {nm : Nat} {o : Oper}
theorem decode_lt (s : ByteArray) (i : Nat) : (Utf8.decode s i).1 < 2 ^ 21 := by
  unfold Utf8.decode Utf8.runeError
  dsimp only
  repeat' split
  all_goals (dsimp only; omega)
theorem op_rng (hi : Inv own tm E st a.tmps) (hn : ¬ E.born nm) {t : TypeId} {x : Operand} {x' : X} (hx : trX tm x = some x') (ho : o.op = .range t x) (ht : P.underlying t = some .string) {s : List UInt8} (hs : st.rd x' = .str s) :
    OpOK P own tm nm E a o { st with O := put st.O nm (.iter s 0) } (.ptr nm 0) := by
  have rx := rd_ok hi hx
  rw [hs] at rx
  generalize hvx : a.eval x = vx at rx
  cases rx with
  | str hl =>
    have hg := Grows.alloc E.w (.stringIter ⟨s.toArray⟩ 0)
    have i' := Inv.add hi hg hn (cap := 0) (sz := 0) (ob := .iter s 0) (.iter (upd_same _ _ _) hg.new hl hi.com0)
    refine OpOK.val (E' := E.add nm (E.w.alloc (.stringIter ⟨s.toArray⟩ 0)) 0 0 0) (x := .pointer (some ⟨E.w.heap.size, 0, none⟩)) ?_ (Move.add hi hg hn _ _ _) (born_add rfl) i' (.ptr (.inr rfl) rfl fun _ => ⟨_, upd_same _ _ _, rfl⟩)
    unfold execOp
    rw [ho]
    simp only [hvx, Instr.range, Sem.run_bind, under_run ht, Result.andThen_ok, Sem.run_pure, run_newObj]
    rfl
theorem getObj_iter {w : World} {b pos : Nat} {s : ByteArray} (h : w.heap[b]? = some (.stringIter s pos)) : (getObj b).run P w = .ok (.stringIter s pos) w := by
  simp only [getObj, Sem.run, h]
theorem setObj_iter {w : World} {b pos : Nat} {s : ByteArray} {G : Go.Obj} (h : w.heap[b]? = some (.stringIter s pos)) : (setObj b G).run P w = .ok () (putRow w b G) := by
  simp only [setObj, Sem.run, h]
  rfl
theorem op_nxt (hi : Inv own tm E st a.tmps) {x : Operand} {x' : X} (hx : trX tm x = some x') (ho : o.op = .next x true) {p pos : Nat} {s : List UInt8} (hp : st.rd x' = .ptr p 0) (hl : look st.O p = some (.iter s pos)) :
    if pos < s.length then OpOK P own tm nm E a o { st with O := put st.O p (.iter s (pos + (Utf8.decode ⟨s.toArray⟩ pos).2)) } (.tup [.bool true, .int .i64 pos, .int .i32 (Utf8.decode ⟨s.toArray⟩ pos).1])
    else OpOK P own tm nm E a o st (.tup [.bool false]) := by
  have rx := rd_ok hi hx
  rw [hp] at rx
  generalize hvx : a.eval x = vx at rx
  have ok := hi.objs p _ hl
  cases ok with
  | iter k1 k2 k3 k4 =>
    rename_i b
    have hv : vx = .pointer (some ⟨b, 0, none⟩) := by
      cases rx with
      | ptr hb h1 hh =>
        obtain ⟨b', e1, e2⟩ := hh (by rw [hi.len, hl]; simp)
        rw [k1] at e1; cases e1; exact e2
    have hlt := hi.lt hl k1
    have hown := hi.ownb p b (by rw [hl]; simp) k1
    split
    · rename_i hpos
      generalize hdc : Utf8.decode ⟨s.toArray⟩ pos = dc
      obtain ⟨c, wd⟩ := dc
      have hc : ∀ i, i < E.C b → (putRow E.w b (.stringIter ⟨s.toArray⟩ (pos + wd))).cell? ⟨b, i, none⟩ = E.w.cell? ⟨b, i, none⟩ := by
        intro i hi; rw [k4] at hi; omega
      have mv := Move.write (E := E) (G := .stringIter ⟨s.toArray⟩ (pos + wd)) hown hlt hc
      have i' := Inv.write hi hl k1 (ob' := .iter s (pos + wd)) rfl hc (.iter k1 (putRow_same _ hlt) k3 k4)
      have e1 : IntKind.i64.min = -9223372036854775808 := by decide
      have e2 : IntKind.i64.max = 9223372036854775807 := by decide
      have e3 : IntKind.i32.min = -2147483648 := by decide
      have e4 : IntKind.i32.max = 2147483647 := by decide
      have hcl : c < 2 ^ 21 := by have := decode_lt ⟨s.toArray⟩ pos; rw [hdc] at this; exact this
      refine OpOK.val (E' := { E with w := putRow E.w b (.stringIter ⟨s.toArray⟩ (pos + wd)) }) (x := .tuple #[.bool true, goInt pos, .int .i32 c]) ?_ mv (fun _ h => .inl h) i'
        (.tup (.cons .bool (.cons (.int (by rw [e1]; omega) (by rw [e2]; omega)) (.cons (.int (by rw [e3]; omega) (by rw [e4]; omega)) .nil))))
      have hpos' : pos < (ByteArray.mk s.toArray).size := hpos
      unfold execOp
      rw [ho]
      simp only [hvx, hv, Instr.next, Sem.run_bind, getObj_iter k2, Result.andThen_ok, hpos', if_true, hdc, setObj_iter k2, Sem.run_pure]
    · rename_i hpos
      refine OpOK.val (E' := E) (x := .tuple #[.bool false]) ?_ (Move.refl _ _) (fun _ h => .inl h) hi (.tup (.cons .bool .nil))
      have hpos' : ¬ pos < (ByteArray.mk s.toArray).size := hpos
      unfold execOp
      rw [ho]
      simp only [hvx, hv, Instr.next, Sem.run_bind, getObj_iter k2, Result.andThen_ok, hpos', if_false, Sem.run_pure]
theorem op_nilck (hi : Inv own tm E st a.tmps) {x : Operand} {x' : X} (hx : trX tm x = some x') (ho : o.op = .nilCheck x) {v : MV} {C : CallT} {st' : DS} (h : dOp C nm (.nilck x') st = some (v, st')) : OpOK P own tm nm E a o st' v := by
  have rx := rd_ok hi hx
  generalize hvx : a.eval x = vx at rx
  simp only [dOp] at h
  split at h
  · rename_i q j hq
    split at h
    · rename_i hl
      cases h
      rw [hq] at rx
      have hne : E.len q ≠ none := by
        unfold liveC at hl
        split at hl
        · rename_i l hl'; rw [hi.len, hl']; simp
        · cases hl
      cases rx with
      | ptr hb h1 hh =>
        obtain ⟨b, e1, e2⟩ := hh hne
        subst e2
        refine OpOK.val (E' := E) (x := .pointer (some ⟨b, j, none⟩)) ?_ (Move.refl _ _) (fun _ h => .inl h) hi (.ptr hb h1 hh)
        unfold execOp
        rw [ho]
        simp only [hvx, Sem.run_pure]
    · cases h
  · rename_i l hq
    cases h
    rw [hq] at rx
    cases rx with
    | cptr hr hc hh =>
      rename_i vs ad
      refine OpOK.val (E' := E) (x := .pointer (some ad)) ?_ (Move.refl _ _) (fun _ h => .inl h) hi (.cptr hr hc hh)
      unfold execOp
      rw [ho]
      simp only [hvx, Sem.run_pure]
  · rename_i f caps hq
    cases h
    rw [hq] at rx
    cases rx with
    | fn hcaps =>
      rename_i vs
      refine OpOK.val (E' := E) (x := .func (.func f) #[] vs.toArray) ?_ (Move.refl _ _) (fun _ h => .inl h) hi (.fn hcaps)
      unfold execOp
      rw [ho]
      simp only [hvx, Sem.run_pure]
  · cases h
end Go.Mini
/- Mini against the model: an operation, whatever it is. -/
namespace Go.Mini
open Go Go.RowKit
variable {P : Program} {own : Nat → Prop} {tm : Nat → Bool} {E : Env} {st : DS} {a : Act} {nm : Nat} {o : Oper}
theorem appT_of {t u e : TypeId} {s w : Nat} {z : MV} {du : TypeDesc} (ht : P.underlying t = some (.slice e)) (hu : P.underlying u = some du) (hs : sizeT P e = some s) (hw : bytesT P e = some w) (hz : zeroT P e = some z)
    (hd : isIntD du = false) (h0 : 0 < s) (hzs : z.cells.length = s) : ∃ zv, AppT P t u e s w zv ∧ ofValue zv = some z := by
  obtain ⟨zv, hrun, hzv⟩ := zeroT_run hz
  obtain ⟨hr, hp, hf⟩ := ofValue_rel (E := ⟨fun _ => 0, default, fun _ => False, fun _ => none, fun _ => none, fun _ => 0, fun _ => 0⟩) hzv
  have hl := (hr.cells hf).1.length
  refine ⟨zv, ⟨ht, ⟨du, hu, ?_⟩, hs, hw, h0, hrun, by rw [hzs] at hl; simpa using hl.symm⟩, hzv⟩
  rintro k rfl
  cases hd
set_option maxHeartbeats 1000000 in
theorem dOp_ok {Gd : Ground} {C : CallT} (hC : COK P Gd C) (hG : Gd.On own E) (hi : Inv own tm E st a.tmps) (hn : ∀ p, nm ≤ p → p < nm + 4 → ¬ E.born p) {op : MOp} (ht : trOp P tm o = some op) {v : MV} {st' : DS} (h : dOp C nm op st = some (v, st')) :
    OpOK P own tm nm E a o st' v := by
  have hn0 : ¬ E.born nm := hn nm (Nat.le_refl _) (by omega)
  cases hop : o.op with
  | move x =>
    simp only [trOp, hop, Option.map_eq_some_iff] at ht
    obtain ⟨x', hx, rfl⟩ := ht
    simp only [dOp, Option.some.injEq, Prod.mk.injEq] at h
    obtain ⟨rfl, rfl⟩ := h
    exact op_mv hi hx (.inl hop)
  | assign x =>
    simp only [trOp, hop, Option.map_eq_some_iff] at ht
    obtain ⟨x', hx, rfl⟩ := ht
    simp only [dOp, Option.some.injEq, Prod.mk.injEq] at h
    obtain ⟨rfl, rfl⟩ := h
    exact op_mv hi hx (.inr hop)
  | pick c x y =>
    simp only [trOp, hop] at ht
    split at ht
    · rename_i c' x' y' hc hx hy
      cases ht
      simp only [dOp] at h
      split at h
      · rename_i t hct
        cases h
        exact op_pick hi hc hx hy hop hct
      · cases h
    · cases ht
  | box t x =>
    simp only [trOp, hop, Option.map_eq_some_iff] at ht
    obtain ⟨x', hx, rfl⟩ := ht
    simp only [dOp] at h
    split at h
    · rename_i hf
      cases h
      exact op_box hi hn0 hx hop hf
    · cases h
  | alloc t =>
    simp only [trOp, hop] at ht
    split at ht
    · rename_i z hz
      cases ht
      simp only [dOp, Option.some.injEq, Prod.mk.injEq] at h
      obtain ⟨rfl, rfl⟩ := h
      exact op_alloc hi hn0 hz hop
    · cases ht
  | build t ps =>
    simp only [trOp, hop] at ht
    split at ht
    · rename_i z fs hz hu
      split at ht
      · rename_i pl hpl
        split at ht
        · rename_i l hl
          cases ht
          simp only [dOp] at h
          split at h
          · rename_i l' st1 hp
            cases h
            refine op_build hi hz hl hop (fun w zv cells hzr hf => ?_) hp
            exact build_struct hu hpl hzr (by simpa using hf)
          · cases h
        · cases ht
      · cases ht
    · rename_i z n e hz hu
      split at ht
      · rename_i s hs
        split at ht
        · rename_i l hl
          cases ht
          simp only [dOp] at h
          split at h
          · rename_i l' st1 hp
            cases h
            refine op_build hi hz hl hop (fun w zv cells hzr hf => ?_) hp
            exact build_array hu hs hzr (by simpa using hf)
          · cases h
        · cases ht
      · cases ht
    · cases ht
  | buildSlice t n ps =>
    simp only [trOp, hop] at ht
    split at ht
    · rename_i e hu
      split at ht
      · rename_i s z l hs hz hl
        split at ht
        · rename_i hc
          split at ht
          · rename_i hb
            split at ht
            · split at ht
              · rename_i h1
                cases ht
                subst h1
                simp only [dOp] at h
                split at h
                · rename_i r hr
                  cases h
                  exact op_bslB hi hn0 hop hu hs hz hl hc.2 hr
                · cases h
              · cases ht
            · cases ht
          · split at ht
            · rename_i hzs
              cases ht
              simp only [dOp] at h
              split at h
              · rename_i r st1 hr
                cases h
                exact op_bslE hi hn0 hop hu hs hc.1 hz hzs hl hc.2 hr
              · cases h
            · cases ht
        · cases ht
      · cases ht
    · cases ht
  | load t x =>
    simp only [trOp, hop] at ht
    split at ht
    · rename_i x' g s hx ha hs
      cases ht
      exact op_load hi hx hop ha hs h
    · cases ht
  | store t x y =>
    simp only [trOp, hop] at ht
    split at ht
    · rename_i x' y' s hx hy hs
      cases ht
      obtain ⟨rfl, hh⟩ := op_store hi hx hy hop hs h
      exact hh
    · cases ht
  | binOp op t x y t' =>
    simp only [trOp, hop] at ht
    split at ht
    · rename_i x' y' k hx hy hu
      cases ht
      simp only [dOp] at h
      split at h
      · rename_i v' hv; cases h; exact op_bin hi hx hy hop hv
      · cases h
    · rename_i x' y' hx hy hu
      cases ht
      simp only [dOp] at h
      split at h
      · rename_i v' hv; cases h; exact op_bin hi hx hy hop hv
      · cases h
    · rename_i x' y' d hx hy hu
      split at ht
      · rename_i n k hn' hk
        have hopn : (op = .eql ∧ n = false) ∨ (op = .neq ∧ n = true) := by
          cases op <;> simp at hn' <;> simp [hn']
        split at ht
        · rename_i hif
          cases ht
          simp only [dOp] at h
          split at h
          · rename_i r hr
            cases h
            refine op_eqs hi hx hy hop hopn hu hk ?_ hr
            rintro rfl
            cases y <;> first | exact ⟨_, rfl⟩ | cases hif
          · cases h
        · cases ht
      · cases ht
    · cases ht
  | unOp op t x =>
    simp only [trOp, hop, Option.map_eq_some_iff] at ht
    obtain ⟨x', hx, rfl⟩ := ht
    simp only [dOp] at h
    split at h
    · rename_i v' hv; cases h; exact op_un hi hx hop hv
    · cases h
  | convert s d x =>
    simp only [trOp, hop] at ht
    split at ht
    · rename_i k' k x' hs hd hx
      cases ht
      simp only [dOp] at h
      split at h
      · rename_i q n hq; cases h; exact op_conv hi hx hop hs hd hq
      · cases h
    · rename_i x' hs hd hx
      cases ht
      simp only [dOp] at h
      split at h
      · rename_i l hl; cases h; exact op_same hi hx hop hs hd hl
      · cases h
    · rename_i e x' hs hd hx
      split at ht
      · rename_i hb
        cases ht
        simp only [dOp] at h
        split at h
        · rename_i l hl; cases h; exact op_s2b hi hn0 hx hop hs hd hb.1 hl
        · cases h
      · cases ht
    · rename_i e x' hs hd hx
      split at ht
      · rename_i hb
        cases ht
        simp only [dOp] at h
        split at h
        · cases h
        · rename_i hne
          split at h
          · rename_i l hl; cases h; exact op_b2s hi hx hop hs hd hb hne hl
          · cases h
      · cases ht
    · rename_i e e' x' hs hd hx
      split at ht
      · rename_i hb
        obtain ⟨rfl, hb⟩ := hb
        cases ht
        simp only [dOp] at h
        split at h
        · rename_i p n hr
          split at h
          · rename_i l bb hl
            split at h
            · rename_i hn; cases h; exact op_mark hi hx hop hs hb hr hl hn
            · cases h
          · cases h
        · cases h
      · cases ht
    · cases ht
  | fieldAddr t x i =>
    simp only [trOp, hop] at ht
    split at ht
    · rename_i f x' hf hx
      split at ht
      · rename_i s hs
        cases ht
        simp only [dOp] at h
        split at h
        · rename_i v' hv; cases h; exact op_fad hi hx hop hf hs hv
        · cases h
      · cases ht
    · cases ht
  | field t x i =>
    simp only [trOp, hop] at ht
    split at ht
    · rename_i f x' hf hx
      split at ht
      · rename_i g s ha hs
        cases ht
        simp only [dOp] at h
        split at h
        · rename_i l hl
          split at h
          · rename_i v' hv; cases h; exact op_fld hi hx hop hf ha hs hl hv
          · cases h
        · cases h
      · cases ht
    · cases ht
  | indexAddr t x i =>
    simp only [trOp, hop] at ht
    split at ht
    · rename_i e x' i' hu hx hii
      split at ht
      · rename_i s hs
        split at ht
        · rename_i h0
          cases ht
          simp only [dOp] at h
          split at h
          · rename_i v' hv; cases h; exact op_iad hi hx hii hop hu hs h0 hv
          · cases h
        · cases ht
      · cases ht
    · rename_i n e x' i' hu hx hii
      split at ht
      · rename_i s hs
        cases ht
        simp only [dOp] at h
        split at h
        · rename_i v' hv; cases h; exact op_aad hi hx hii hop hu hs hv
        · cases h
      · cases ht
    · cases ht
  | index t x i =>
    simp only [trOp, hop] at ht
    split at ht
    · rename_i x' i' hu hx hii
      cases ht
      simp only [dOp] at h
      split at h
      · rename_i l k n hl hk
        split at h
        · rename_i hc; cases h; exact op_idxS hi hx hii hop hu hl hk hc
        · cases h
      · cases h
    · rename_i n e x' i' hu hx hii
      split at ht
      · rename_i g s ha hs
        cases ht
        simp only [dOp] at h
        split at h
        · rename_i l k m hl hk
          split at h
          · rename_i hc
            split at h
            · rename_i v' hv; cases h; exact op_idxA hi hx hii hop hu ha hs hl hk hc hv
            · cases h
          · cases h
        · cases h
      · cases ht
    · cases ht
  | slice t x lo hh mx =>
    cases mx with
    | some m => simp [trOp, hop] at ht
    | none =>
      simp only [trOp, hop] at ht
      split at ht
      · rename_i x' lo' hi' hu hx hl hhi
        cases ht
        exact op_slc (str := true) hi hx hl hhi hop hu h
      · rename_i e x' lo' hi' hu hx hl hhi
        split at ht
        · rename_i s hs
          cases ht
          exact op_slc (str := false) hi hx hl hhi hop ⟨e, hu, hs⟩ h
        · cases ht
      · cases ht
  | range t x =>
    simp only [trOp, hop] at ht
    split at ht
    · rename_i x' hx hu
      cases ht
      simp only [dOp] at h
      split at h
      · rename_i l hl; cases h; exact op_rng hi hn0 hx hop hu hl
      · cases h
    · cases ht
  | next x b =>
    cases b with
    | false => simp [trOp, hop] at ht
    | true =>
      simp only [trOp, hop, Option.map_eq_some_iff] at ht
      obtain ⟨x', hx, rfl⟩ := ht
      simp only [dOp] at h
      split at h
      · rename_i q hq
        split at h
        · rename_i s pos hl
          have ok := op_nxt (P := P) (nm := nm) hi hx hop hq hl
          split at h
          · rename_i hp; cases h; rw [if_pos hp] at ok; exact ok
          · rename_i hp; cases h; rw [if_neg hp] at ok; exact ok
        · cases h
      · cases h
  | nilCheck x =>
    simp only [trOp, hop, Option.map_eq_some_iff] at ht
    obtain ⟨x', hx, rfl⟩ := ht
    exact op_nilck hi hx hop h
  | extract x i =>
    simp only [trOp, hop, Option.map_eq_some_iff] at ht
    obtain ⟨x', hx, rfl⟩ := ht
    simp only [dOp] at h
    split at h
    · rename_i l hl
      split at h
      · rename_i v' hv; cases h; exact op_ext hi hx hop hl hv
      · cases h
    · cases h
  | makeFunc f first caps =>
    cases f with
    | func f =>
      simp only [trOp, hop] at ht
      split at ht
      · rename_i l hf hl
        cases ht
        simp only [dOp, Option.some.injEq, Prod.mk.injEq] at h
        obtain ⟨rfl, rfl⟩ := h
        have : first = #[] := by rw [← Array.toList_inj]; simpa using hf
        subst this
        exact op_mkfn hi hl hop
      · cases ht
    | _ => simp [trOp, hop] at ht
  | makeInterface t x =>
    simp only [trOp, hop] at ht
    split at ht
    · cases ht
    · rename_i x' d hne hx hu
      cases ht
      simp only [dOp] at h
      split at h
      · rename_i v' st1 hv
        cases h
        exact op_mkif hi hx hop hu (fun ms hd => by subst hd; exact hne ms rfl) hv
      · cases h
    · cases ht
  | makeSlice t n c =>
    simp only [trOp, hop] at ht
    split at ht
    · rename_i e n' c' hu hx hy
      split at ht
      · rename_i s w z hs hw hz
        split at ht
        · rename_i h0
          split at ht
          · rename_i hb
            split at ht
            · split at ht
              · rename_i h1
                obtain ⟨rfl, rfl⟩ := h1
                cases ht
                simp only [dOp] at h
                split at h
                · rename_i k p k' q hp hq
                  split at h
                  · rename_i hc; cases h; exact op_mksB hi hn0 hx hy hop hu hs hw hz hp hq hc
                  · cases h
                · cases h
              · cases ht
            · cases ht
          · split at ht
            · rename_i hzs
              cases ht
              simp only [dOp] at h
              split at h
              · rename_i k p k' q hp hq
                split at h
                · rename_i hc; cases h; exact op_mksE hi hn0 hx hy hop hu hs hw h0 hz hzs hp hq hc
                · cases h
              · cases h
            · cases ht
        · cases ht
      · cases ht
    · cases ht
  | call c =>
    obtain ⟨callee, args, ats⟩ := c
    cases callee with
    | value f =>
      have cv : ∀ {f' : X} {l : List X}, trX tm f = some f' → trXs tm args.toList = some l → dOp C nm (.callv f' l) st = some (v, st') → OpOK P own tm nm E a o st' v := by
        intro f' l hf hl h
        simp only [dOp] at h
        split at h
        · rename_i g caps hg
          exact op_callv hC hG hi hn hf hl hop hg h
        · cases h
      cases f with
      | func f =>
        simp only [trOp, hop] at ht
        split at ht
        · rename_i l hl
          cases ht
          exact op_call hC hG hi hn hl hop h
        · cases ht
      | tmp n =>
        simp only [trOp, hop] at ht
        split at ht
        · rename_i f' l hf hl
          cases ht
          exact cv hf hl h
        · cases ht
      | const c =>
        simp only [trOp, hop] at ht
        split at ht
        · rename_i f' l hf hl
          cases ht
          exact cv hf hl h
        · cases ht
      | global g => simp [trOp, hop, trX] at ht
    | builtin b =>
      cases b
      case len =>
        simp only [trOp, hop] at ht
        split at ht
        · rename_i x t ts ha hts
          have h0 : ats[0]? = some t := by rw [← Array.getElem?_toList, hts]; rfl
          split at ht
          · rename_i x' hx hu
            cases ht
            simp only [dOp] at h
            split at h
            · rename_i v' hv; cases h; exact op_len (str := true) hi hx hop ha h0 hu hv
            · cases h
          · rename_i x' e hx hu
            cases ht
            simp only [dOp] at h
            split at h
            · rename_i v' hv; cases h; exact op_len (str := false) hi hx hop ha h0 ⟨e, hu⟩ hv
            · cases h
          · cases ht
        · cases ht
      case append =>
        simp only [trOp, hop] at ht
        split at ht
        · rename_i d x t u ha hts
          have ha : args = #[d, x] := by rw [← Array.toList_inj]; simpa using ha
          have hat : ats = #[t, u] := by rw [← Array.toList_inj]; simpa using hts
          split at ht
          · rename_i d' x' e du hd hx hu hdu
            split at ht
            · rename_i s w z hs hw hz
              split at ht
              · rename_i hc
                obtain ⟨h1, h2, h3, h4, h5⟩ := hc
                cases ht
                obtain ⟨zv, T, hzv⟩ := appT_of hu hdu hs hw hz h1 h2 h4
                simp only [dOp] at h
                split at h
                · rename_i hb
                  obtain rfl := h5 hb
                  exact op_appB hi hn0 T h3 hop hd hx ha hat h
                · exact op_appE hi hn0 T h3 hop hd hx ha hat h
              · cases ht
            · cases ht
          · cases ht
        · cases ht
      case min =>
        simp only [trOp, hop] at ht
        split at ht
        · rename_i l hl
          cases ht
          simp only [dOp] at h
          split at h
          · cases h
          · split at h
            · rename_i v' hv; cases h; exact op_minmax (mx := false) hi hl hop rfl hv
            · cases h
        · cases ht
      case max =>
        simp only [trOp, hop] at ht
        split at ht
        · rename_i l hl
          cases ht
          simp only [dOp] at h
          split at h
          · cases h
          · split at h
            · rename_i v' hv; cases h; exact op_minmax (mx := true) hi hl hop rfl hv
            · cases h
        · cases ht
      all_goals simp [trOp, hop] at ht
    | invoke r m => simp [trOp, hop] at ht
  | _ => simp [trOp, hop] at ht
end Go.Mini
/- Mini against the model: regions. -/
namespace Go.Mini
open Go Go.RowKit
variable {P : Program} {own : Nat → Prop} {tm : Nat → Bool} {E : Env} {st : DS} {a : Act} {nm nt : Nat} {o : Oper} {ops : Array Oper}
theorem Act.put_size (a : Act) (d : Option Tmp) (x : Value) : (a.put d x).tmps.size = a.tmps.size := by
  cases d <;> simp [Act.put]
theorem Act.put_defers' (a : Act) (d : Option Tmp) (x : Value) : (a.put d x).defers = a.defers := by
  cases d <;> rfl
theorem Inv.wr (h : Inv own tm E st a.tmps) (hs : nt ≤ a.tmps.size) {d : Option Tmp} {d' : Option X} (hd : trDst tm nt d = some d') {v : MV} {x : Value} (hr : RelV E v x) :
    Inv own tm E (st.wr d' v) (a.put d x).tmps := by
  cases d with
  | none =>
    simp only [trDst, Option.some.injEq] at hd
    subst hd
    exact h
  | some n =>
    simp only [trDst] at hd
    split at hd
    · rename_i hlt
      simp only [Option.some.injEq] at hd
      have get : ∀ m, (a.put (some n) x).tmps[m]? = if n = m then some x else a.tmps[m]? := by
        intro m
        simp only [Act.put]
        by_cases hm : n = m
        · subst hm; simp [Nat.lt_of_lt_of_le hlt hs]
        · rw [Array.getElem?_setIfInBounds_ne hm, if_neg hm]
      by_cases ht : tm n = true
      · rw [if_pos ht] at hd
        subst hd
        refine { h with T := fun m y hm => ?_, V := fun m y hm => ?_ }
        · have hm : look (put st.T n v) m = some y := hm
          rw [look_put] at hm
          rw [get]
          by_cases hnm : n = m
          · subst hnm
            simp only [if_true, Option.some.injEq] at hm
            subst hm
            exact ⟨ht, x, by simp, hr⟩
          · rw [if_neg hnm] at hm ⊢
            exact h.T m y hm
        · obtain ⟨h1, z, h2, h3⟩ := h.V m y hm
          refine ⟨h1, z, ?_, h3⟩
          rw [get, if_neg]
          · exact h2
          · rintro rfl; rw [ht] at h1; cases h1
      · rw [if_neg ht] at hd
        subst hd
        have ht : tm n = false := by simpa using ht
        refine { h with T := fun m y hm => ?_, V := fun m y hm => ?_ }
        · obtain ⟨h1, z, h2, h3⟩ := h.T m y hm
          refine ⟨h1, z, ?_, h3⟩
          rw [get, if_neg]
          · exact h2
          · rintro rfl; rw [ht] at h1; cases h1
        · have hm : look (put st.V n v) m = some y := hm
          rw [look_put] at hm
          rw [get]
          by_cases hnm : n = m
          · subst hnm
            simp only [if_true, Option.some.injEq] at hm
            subst hm
            exact ⟨ht, x, by simp, hr⟩
          · rw [if_neg hnm] at hm ⊢
            exact h.V m y hm
    · cases hd
theorem Inv.drew {tmps} (h : Inv own tm E st tmps) : Move own E { E with w := { E.w with drawn := E.w.drawn + 1 } } ∧ Inv own tm { E with w := { E.w with drawn := E.w.drawn + 1 } } st tmps := by
  have m : Move own E { E with w := { E.w with drawn := E.w.drawn + 1 } } :=
    ⟨⟨fun _ => Nat.le_refl _, fun _ _ _ => rfl, fun _ h => h, fun _ _ _ h => ⟨h, rfl, rfl, rfl⟩⟩, rfl, rfl, rfl, Nat.le_refl _, fun _ _ _ => rfl, fun _ _ => rfl⟩
  exact ⟨m, h.change m rfl rfl h.len (fun o x hx => (h.objs o x hx).ext m.toExt rfl rfl rfl fun b _ => ⟨rfl, rfl⟩) h.sep h.ownb h.good h.born⟩
theorem slot_ok (hi : Inv own tm E st a.tmps) {n : Nat} {v : MV} (h : st.rd (if tm n = true then .t n else .v n) = v) (hv : v ≠ .undef) : ∃ x, a.tmps[n]? = some x ∧ RelV E v x := by
  by_cases ht : tm n = true
  · rw [if_pos ht] at h
    simp only [DS.rd] at h
    cases hl : look st.T n with
    | none => rw [hl] at h; exact (hv h.symm).elim
    | some y =>
      rw [hl] at h
      obtain ⟨_, z, hz, hr⟩ := hi.T n y hl
      exact ⟨z, hz, by rw [← h]; exact hr⟩
  · rw [if_neg ht] at h
    simp only [DS.rd] at h
    cases hl : look st.V n with
    | none => rw [hl] at h; exact (hv h.symm).elim
    | some y =>
      rw [hl] at h
      obtain ⟨_, z, hz, hr⟩ := hi.V n y hl
      exact ⟨z, hz, by rw [← h]; exact hr⟩
def Next (own : Nat → Prop) (tm : Nat → Bool) (lo hi : Nat) (E : Env) (a : Act) (st' : DS) (K : Act → World → Prop) : Prop :=
  ∀ E' a', Move own E E' → (∀ p, E'.born p → E.born p ∨ (lo ≤ p ∧ p < hi)) → Inv own tm E' st' a'.tmps → a'.tmps.size = a.tmps.size → a'.defers = a.defers → K a' E'.w
theorem dOper_ok {Gd : Ground} {C : CallT} (hC : COK P Gd C) (hG : Gd.On own E) (hi : Inv own tm E st a.tmps) (hs : nt ≤ a.tmps.size) (hn : ∀ p, nm ≤ p → p < nm + 4 → ¬ E.born p) {i : Nat} (hop : ops[i]? = some o) {mo : MOper} (ht : trOper P tm nt ops o = some mo)
    {st' : DS} (h : dOper C nm mo st = some st') {Q : Exit → Act → World → Prop} {K : Act → World → Prop} (hK : Next own tm nm (nm + 4) E a st' K) : wpOp P ops Q i K a E.w := by
  unfold trOper at ht
  split at ht
  · rename_i d g hd hg
    cases ht
    generalize hto : trOpB P tm o = op at h
    have want : ∀ b, wanted ⟨d, op, g⟩ st = some b → Region.wanted o (yielded ops a.tmps) = b := by
      intro b hb
      unfold wanted at hb
      unfold Region.wanted
      split at hg
      · rename_i hgo
        simp only [Option.some.injEq] at hg
        subst hg
        simp only [Option.some.injEq] at hb
        rw [hgo]
        simpa using hb
      · rename_i j w hgo
        rw [hgo]
        split at hg
        · rename_i t htd
          simp only [Option.some.injEq] at hg
          subst hg
          simp only at hb
          have hy : ∀ x, a.tmps[t]? = some x → yielded ops a.tmps j = match x with | .bool b => some b | _ => none := by
            intro x hx
            unfold yielded
            rw [htd]
            simp only [Option.bind_some, hx]
            cases x <;> rfl
          split at hb
          · rename_i c hc
            obtain ⟨x, hx, hr⟩ := slot_ok hi hc (by simp)
            cases hr
            simp only [Option.some.injEq] at hb
            show (yielded ops a.tmps j == some w) = b
            rw [hy _ hx, ← hb]
            cases c <;> cases w <;> rfl
          · rename_i l hc
            obtain ⟨x, hx, hr⟩ := slot_ok hi hc (by simp)
            cases hr
            simp only [Option.some.injEq] at hb
            show (yielded ops a.tmps j == some w) = b
            rw [hy _ hx, ← hb]
            cases w <;> rfl
          · cases hb
        · cases hg
    unfold wpOp
    rw [hop]
    unfold dOper at h
    split at h
    · rename_i hw
      split at h
      · rename_i v st1 hv
        cases h
        have hw' := want true hw
        simp only [hw', if_true]
        have hto : trOp P tm o = some op := by
          unfold trOpB at hto
          split at hto
          · rename_i op' e; rw [e, hto]
          · subst hto; simp [dOp] at hv
        refine .inl (dOp_ok hC hG hi hn hto hv _ _ fun E' x mv hb inv hr => ?_)
        exact hK E' _ mv hb (inv.wr hs hd hr) (Act.put_size ..) (Act.put_defers' ..)
      · cases h
    · rename_i hw
      cases h
      have hw' := want false hw
      simp only [hw', Bool.false_eq_true, if_false]
      exact hK E _ (Move.refl _ _) (fun _ h => .inl h) (hi.wr hs hd (.tup .nil)) (Act.put_size ..) (Act.put_defers' ..)
    · cases h
  · cases ht
def dSched (C : CallT) (nx : Nat) (mops : List MOper) : List Nat → DS → Option DS
  | [], st => some st
  | i :: l, st => match mops[i]? with
    | some mo => match dOper C (nx + 4 * i) mo st with
      | some st1 => dSched C nx mops l st1
      | none => none
    | none => dSched C nx mops l st
theorem trOpers_get : ∀ {l : List Oper} {ms : List MOper}, trOpers P tm nt ops l = some ms → ms.length = l.length ∧ ∀ (i : Nat) (o : Oper), l[i]? = some o → ∃ mo, ms[i]? = some mo ∧ trOper P tm nt ops o = some mo
  | [], ms, h => by simp only [trOpers, Option.some.injEq] at h; subst h; simp
  | o :: l, ms, h => by
    simp only [trOpers] at h
    split at h
    · rename_i y hy
      split at h
      · rename_i r hr
        cases h
        obtain ⟨hl, hg⟩ := trOpers_get hr
        refine ⟨by simp [hl], fun i o' ho' => ?_⟩
        cases i with
        | zero => simp at ho'; subst ho'; exact ⟨y, rfl, hy⟩
        | succ i => exact hg i o' (by simpa using ho')
      · cases h
    · cases h
theorem sched_ok {Gd : Ground} {C : CallT} (hC : COK P Gd C) {ms : List MOper} (ht : trOpers P tm nt ops ops.toList = some ms) {nx : Nat} {Q : Exit → Act → World → Prop} : ∀ {l : List Nat} {E : Env} {st st' : DS} {a : Act}, Gd.On own E → Inv own tm E st a.tmps → nt ≤ a.tmps.size → l.Nodup → (∀ i ∈ l, i < ops.size) →
    (∀ i ∈ l, ∀ p, nx + 4 * i ≤ p → p < nx + 4 * i + 4 → ¬ E.born p) → dSched C nx ms l st = some st' → Next own tm nx (nx + 4 * ops.size) E a st' (Q .normal) → wpOps P ops Q l a E.w
  | [], E, st, st', a, hG, hi, hs, _, _, _, h, hK => by
    simp only [dSched, Option.some.injEq] at h
    subst h
    exact hK E a (Move.refl _ _) (fun _ h => .inl h) hi rfl rfl
  | i :: l, E, st, st', a, hG, hi, hs, hnd, hlt, hn, h, hK => by
    have hil := hlt i (by simp)
    have ho : ops[i]? = some ops[i] := Array.getElem?_eq_getElem hil
    obtain ⟨_, hg⟩ := trOpers_get ht
    obtain ⟨mo, hmo, htr⟩ := hg i _ (by rw [Array.getElem?_toList]; exact ho)
    simp only [dSched, hmo] at h
    split at h
    · rename_i st1 h1
      rw [wpOps_cons]
      refine dOper_ok hC hG hi hs (hn i (by simp)) ho htr h1 fun E1 a1 m1 b1 i1 s1 d1 => ?_
      obtain ⟨hni, hnd⟩ := List.nodup_cons.1 hnd
      refine sched_ok hC ht (Gd.move m1 hG) i1 (s1 ▸ hs) hnd (fun j hj => hlt j (by simp [hj])) (fun j hj p hp hp2 hb => ?_) h fun E2 a2 m2 b2 i2 s2 d2 => ?_
      · rcases b1 p hb with hb | ⟨hb, hb2⟩
        · exact hn j (by simp [hj]) p hp hp2 hb
        · have : i ≠ j := by rintro rfl; exact hni hj
          omega
      · refine hK E2 a2 (m1.trans m2) (fun p hp => ?_) i2 (s2.trans s1) (d2.trans d1)
        rcases b2 p hp with hp | hp
        · rcases b1 p hp with hp | hp
          · exact .inl hp
          · exact .inr ⟨by omega, by omega⟩
        · exact .inr hp
    · cases h
theorem dOps_sched (C : CallT) (nx : Nat) (ms : List MOper) : ∀ (k : Nat) (st : DS), k ≤ ms.length → dOps C (nx + 4 * (ms.length - k)) (ms.drop (ms.length - k)) st = dSched C nx ms (List.range' (ms.length - k) k) st
  | 0, st, _ => by simp [dOps, dSched]
  | k + 1, st, hk => by
    have hlt : ms.length - (k + 1) < ms.length := by omega
    rw [List.drop_eq_getElem_cons hlt, List.range'_succ]
    simp only [dOps, dSched, List.getElem?_eq_getElem hlt]
    have e : ms.length - (k + 1) + 1 = ms.length - k := by omega
    cases h1 : dOper C (nx + 4 * (ms.length - (k + 1))) ms[ms.length - (k + 1)] st with
    | none => rfl
    | some st1 =>
      have := dOps_sched C nx ms k st1 (by omega)
      simp only [e, ← this]
      congr 1
      omega
theorem region_ok {Gd : Ground} {C : CallT} (hC : COK P Gd C) (hG : Gd.On own E) {ms : List MOper} (ht : trOpers P tm nt ops ops.toList = some ms) {id : Nat} {Q : Exit → Act → World → Prop} (hi : Inv own tm E st a.tmps) (hs : nt ≤ a.tmps.size) {nx : Nat} (hn : ∀ p, E.born p → p < nx)
    {st' : DS} (h : dOps C nx ms st = some st') (hK : Next own tm nx (nx + 4 * ops.size) E a st' (Q .normal)) : (Code.region id ops false).wp P Q a E.w := by
  refine wp_region ?_
  have hl : ms.length = ops.size := by simpa using (trOpers_get ht).1
  have e := dOps_sched C nx ms ms.length st (Nat.le_refl _)
  simp only [Nat.sub_self, Nat.mul_zero, Nat.add_zero, List.drop_zero] at e
  rw [e] at h
  rw [List.range_eq_range', ← hl]
  refine sched_ok hC ht hG hi hs List.nodup_range' (fun i hi => ?_) (fun i _ p hp _ hb => ?_) h hK
  · rw [← hl]; simpa using hi
  · have := hn p hb; omega
end Go.Mini
/- Mini against the model: the head of a loop. -/
namespace Go.Mini
open Go Go.RowKit
variable {P : Program} {own : Nat → Prop} {tm : Nat → Bool} {E : Env} {st : DS} {a : Act} {nm nt : Nat} {o : Oper} {ops : Array Oper}
structure Fr (own : Nat → Prop) (E E' : Env) : Prop where
  C : ∀ b, E.C b ≤ E'.C b
  cell : ∀ b i, i < E.C b → E'.w.cell? ⟨b, i, none⟩ = E.w.cell? ⟨b, i, none⟩
  os : E'.w.os = E.w.os
  tape : E'.w.tape = E.w.tape
  output : E'.w.output = E.w.output
  size : E.w.heap.size ≤ E'.w.heap.size
  block : ∀ k, k < E.w.heap.size → ¬ own k → E'.w.heap[k]? = E.w.heap[k]?
  com : ∀ k, ¬ own k → E'.C k = E.C k
theorem Fr.refl (own) (E : Env) : Fr own E E := ⟨fun _ => Nat.le_refl _, fun _ _ _ => rfl, rfl, rfl, rfl, Nat.le_refl _, fun _ _ _ => rfl, fun _ _ => rfl⟩
theorem Fr.trans {A B D : Env} (h : Fr own A B) (k : Fr own B D) : Fr own A D where
  C b := Nat.le_trans (h.C b) (k.C b)
  cell b i hi := (k.cell b i (Nat.lt_of_lt_of_le hi (h.C b))).trans (h.cell b i hi)
  os := k.os.trans h.os
  tape := k.tape.trans h.tape
  output := k.output.trans h.output
  size := Nat.le_trans h.size k.size
  block i hi hn := (k.block i (Nat.lt_of_lt_of_le hi h.size) hn).trans (h.block i hi hn)
  com i hn := (k.com i hn).trans (h.com i hn)
theorem Move.fr {E E' : Env} (h : Move own E E') : Fr own E E' := ⟨h.C, h.cell, h.os, h.tape, h.output, h.size, h.block, h.com⟩
theorem Fr.same {E E' : Env} (hC : E'.C = E.C) (hw : E'.w = E.w) : Fr own E E' :=
  ⟨fun b => by rw [hC]; exact Nat.le_refl _, fun b i _ => by rw [hw], by rw [hw], by rw [hw], by rw [hw], by rw [hw]; exact Nat.le_refl _, fun _ _ _ => by rw [hw], fun _ _ => by rw [hC]⟩
theorem has_iff : ∀ {l : List Nat} {a : Nat}, has l a = true ↔ a ∈ l
  | [], a => by simp [has]
  | b :: l, a => by
    simp only [has]
    split
    · rename_i h; simp [h]
    · rename_i h; rw [has_iff]; simp [Ne.symm h]
theorem nub_nodup : ∀ {l acc : List Nat}, acc.Nodup → (nub acc l).Nodup
  | [], acc, h => by simp only [nub]; exact (List.reverse_perm acc).nodup_iff.2 h
  | a :: l, acc, h => by
    simp only [nub]
    split
    · exact nub_nodup h
    · rename_i hn
      refine nub_nodup (List.nodup_cons.2 ⟨?_, h⟩)
      rw [← has_iff]; exact hn
theorem liveNames_nodup (st : DS) (keep : List (Nat × KMode)) : (liveNames st keep).Nodup := nub_nodup List.nodup_nil
theorem place_get : ∀ {l : List Nat} {o j i : Nat}, place l o j = some i → j ≤ i ∧ l[i - j]? = some o
  | [], o, j, i, h => by simp [place] at h
  | a :: l, o, j, i, h => by
    simp only [place] at h
    split at h
    · rename_i ha; cases h; exact ⟨Nat.le_refl _, by simp [ha]⟩
    · obtain ⟨h1, h2⟩ := place_get h
      refine ⟨by omega, ?_⟩
      have : i - j = (i - (j + 1)) + 1 := by omega
      rw [this]; simpa using h2
theorem look_newObjs {O : List (Nat × Obj)} {ns : List Nat} : ∀ {l : List Nat} {j i : Nat}, look (newObjs O ns j l) i = if i < j then none else (l[i - j]?).bind fun o => (look O o).map (renObj ns)
  | [], j, i => by simp [newObjs, look]
  | a :: l, j, i => by
    have rest := look_newObjs (O := O) (ns := ns) (l := l) (j := j + 1) (i := i)
    have step : ∀ h : j < i, (a :: l)[i - j]? = l[i - (j + 1)]? := fun h => by
      have : i - j = (i - (j + 1)) + 1 := by omega
      rw [this]; simp
    simp only [newObjs]
    cases hl : look O a with
    | none =>
      simp only
      rw [rest]
      by_cases h1 : i < j
      · rw [if_pos (by omega), if_pos h1]
      · by_cases h2 : i = j
        · subst h2; rw [if_pos (by omega), if_neg h1]; simp [hl]
        · rw [if_neg (by omega), if_neg h1, step (by omega)]
    | some x =>
      simp only [look]
      by_cases h2 : j = i
      · subst h2; rw [if_pos rfl, if_neg (by omega)]; simp [hl]
      · rw [if_neg h2, rest]
        by_cases h1 : i < j
        · rw [if_pos (by omega), if_pos h1]
        · rw [if_neg (by omega), if_neg h1, step (by omega)]
theorem look_append {α : Type} (l m : List (Nat × α)) (n : Nat) : look (l ++ m) n = (look l n).or (look m n) := by
  induction l with
  | nil => simp [look]
  | cons x l ih =>
    obtain ⟨k, v⟩ := x
    simp only [List.cons_append, look]
    split
    · simp
    · exact ih
def Fresh (O : List (Nat × Obj)) (p : Nat) : Prop := look O p = some (.byt [] false) ∨ ∃ s, 0 < s ∧ look O p = some (.el s [] false)
theorem keepV_ok {V : List (Nat × MV)} {ns : List Nat} : ∀ {keep : List (Nat × KMode)} {nx : Nat} {O : List (Nat × Obj)}, (∀ k ∈ keep, ∀ s, k.2 = .ownE s → 0 < s) → (∀ p, nx ≤ p → look O p = none) →
    nx ≤ (keepV V ns keep nx O).2.2 ∧ (∀ p, p < nx → look (keepV V ns keep nx O).2.1 p = look O p) ∧ (∀ p, (keepV V ns keep nx O).2.2 ≤ p → look (keepV V ns keep nx O).2.1 p = none) ∧
    (∀ p, nx ≤ p → p < (keepV V ns keep nx O).2.2 → Fresh (keepV V ns keep nx O).2.1 p) ∧
    (∀ k v, look (keepV V ns keep nx O).1 k = some v → (∃ m, (k, m) ∈ keep) ∧ (v = ren ns ((look V k).getD .undef) ∨ ∃ p, nx ≤ p ∧ p < (keepV V ns keep nx O).2.2 ∧ v = .own p 0 ∧ look V k = some .nilsl))
  | [], nx, O, _, hO => ⟨Nat.le_refl _, fun _ _ => rfl, hO, fun p h1 h2 => by simp only [keepV] at h2; omega, fun k v h => by simp [keepV, look] at h⟩
  | (k, m) :: r, nx, O, hs, hO => by
    have plain : keepV V ns ((k, m) :: r) nx O = ((k, ren ns ((look V k).getD .undef)) :: (keepV V ns r nx O).1, (keepV V ns r nx O).2.1, (keepV V ns r nx O).2.2) →
        nx ≤ (keepV V ns ((k, m) :: r) nx O).2.2 ∧ (∀ p, p < nx → look (keepV V ns ((k, m) :: r) nx O).2.1 p = look O p) ∧ (∀ p, (keepV V ns ((k, m) :: r) nx O).2.2 ≤ p → look (keepV V ns ((k, m) :: r) nx O).2.1 p = none) ∧
        (∀ p, nx ≤ p → p < (keepV V ns ((k, m) :: r) nx O).2.2 → Fresh (keepV V ns ((k, m) :: r) nx O).2.1 p) ∧
        (∀ k' v, look (keepV V ns ((k, m) :: r) nx O).1 k' = some v → (∃ m', (k', m') ∈ (k, m) :: r) ∧ (v = ren ns ((look V k').getD .undef) ∨ ∃ p, nx ≤ p ∧ p < (keepV V ns ((k, m) :: r) nx O).2.2 ∧ v = .own p 0 ∧ look V k' = some .nilsl)) := by
      intro e
      rw [e]
      obtain ⟨h1, h2, h3, h4, h5⟩ := keepV_ok (V := V) (ns := ns) (keep := r) (nx := nx) (O := O) (fun k hk => hs k (by simp [hk])) hO
      refine ⟨h1, h2, h3, h4, fun k' v hv => ?_⟩
      simp only [look] at hv
      split at hv
      · rename_i hk
        subst hk
        cases hv
        exact ⟨⟨m, by simp⟩, .inl rfl⟩
      · obtain ⟨⟨m', hm⟩, h6⟩ := h5 k' v hv
        exact ⟨⟨m', by simp [hm]⟩, h6⟩
    have made : ∀ x : Obj, (x = .byt [] false ∨ ∃ s, 0 < s ∧ x = .el s [] false) → look V k = some .nilsl →
        keepV V ns ((k, m) :: r) nx O = ((k, .own nx 0) :: (keepV V ns r (nx + 1) (O ++ [(nx, x)])).1, (keepV V ns r (nx + 1) (O ++ [(nx, x)])).2.1, (keepV V ns r (nx + 1) (O ++ [(nx, x)])).2.2) →
        nx ≤ (keepV V ns ((k, m) :: r) nx O).2.2 ∧ (∀ p, p < nx → look (keepV V ns ((k, m) :: r) nx O).2.1 p = look O p) ∧ (∀ p, (keepV V ns ((k, m) :: r) nx O).2.2 ≤ p → look (keepV V ns ((k, m) :: r) nx O).2.1 p = none) ∧
        (∀ p, nx ≤ p → p < (keepV V ns ((k, m) :: r) nx O).2.2 → Fresh (keepV V ns ((k, m) :: r) nx O).2.1 p) ∧
        (∀ k' v, look (keepV V ns ((k, m) :: r) nx O).1 k' = some v → (∃ m', (k', m') ∈ (k, m) :: r) ∧ (v = ren ns ((look V k').getD .undef) ∨ ∃ p, nx ≤ p ∧ p < (keepV V ns ((k, m) :: r) nx O).2.2 ∧ v = .own p 0 ∧ look V k' = some .nilsl)) := by
      intro x hx hk e
      rw [e]
      obtain ⟨h1, h2, h3, h4, h5⟩ := keepV_ok (V := V) (ns := ns) (keep := r) (nx := nx + 1) (O := O ++ [(nx, x)]) (fun k hk => hs k (by simp [hk])) (fun p hp => by
        rw [look_append, hO p (by omega)]; simp only [look, Option.none_or]; rw [if_neg (by omega)])
      have hnx : look (keepV V ns r (nx + 1) (O ++ [(nx, x)])).2.1 nx = some x := by
        rw [h2 nx (by omega), look_append, hO nx (Nat.le_refl _)]; simp [look]
      refine ⟨Nat.le_of_succ_le h1, fun p hp => ?_, h3, fun p hp hp2 => ?_, fun k' v hv => ?_⟩
      · rw [h2 p (by omega), look_append]
        simp only [look]
        rw [if_neg (by omega)]
        simp
      · by_cases hpn : p = nx
        · subst hpn
          rcases hx with rfl | ⟨s, h0, rfl⟩
          · exact .inl hnx
          · exact .inr ⟨s, h0, hnx⟩
        · exact h4 p (by omega) hp2
      · simp only [look] at hv
        split at hv
        · rename_i hkk
          subst hkk
          cases hv
          exact ⟨⟨m, by simp⟩, .inr ⟨nx, Nat.le_refl _, Nat.lt_of_succ_le h1, rfl, hk⟩⟩
        · obtain ⟨⟨m', hm⟩, h6⟩ := h5 k' v hv
          refine ⟨⟨m', by simp [hm]⟩, ?_⟩
          rcases h6 with h6 | ⟨p, p1, p2, p3⟩
          · exact .inl h6
          · exact .inr ⟨p, by omega, p2, p3⟩
    cases hv : look V k with
    | none =>
      refine plain ?_
      cases m <;> simp [keepV, hv]
    | some v =>
      by_cases hn : v = .nilsl
      · subst hn
        cases m with
        | plain => exact plain (by simp [keepV, hv])
        | ownB => exact made _ (.inl rfl) hv (by simp [keepV, hv])
        | ownE s => exact made (.el s [] false) (.inr ⟨s, hs (k, .ownE s) (by simp) s rfl, rfl⟩) hv (by simp [keepV, hv])
      · refine plain ?_
        cases m with
        | plain => simp [keepV, hv]
        | ownB => cases v <;> first | exact (hn rfl).elim | simp [keepV, hv]
        | ownE s => cases v <;> first | exact (hn rfl).elim | simp [keepV, hv]
def Env.ren (E : Env) (ns : List Nat) (O : List (Nat × Obj)) (nx : Nat) : Env :=
  { C := E.C, w := E.w, born := fun p => p < nx, len := fun p => (look O p).map Obj.len, blk := fun p => (ns[p]?).bind E.blk
    cap := fun p => match ns[p]? with | some o => E.cap o | .none => 0
    sz := fun p => match ns[p]? with | some o => E.sz o | .none => match look O p with | some (.el s _ _) => s | _ => 1 }
theorem renObj_len (ns : List Nat) (x : Obj) : (renObj ns x).len = x.len := by
  cases x <;> simp [renObj, Obj.len]
theorem ren_cell {ns : List Nat} {v : MV} (h : v.cell = true) : (ren ns v).cell = true := by
  cases v <;> first | rfl | cases h
section
variable {ns : List Nat} {O' : List (Nat × Obj)} {nx : Nat} {tmps : Array Value}
  (h : Inv own tm E st tmps) (hO : ∀ p, p < ns.length + 1 → look O' p = (ns[p]?).bind fun o => (look st.O o).map (renObj ns)) (hnx : ns.length < nx)
include h hO hnx
theorem name_ok (o : Nat) : (E.ren ns O' nx).born (nameOf ns o) ∧ ∀ n, (E.ren ns O' nx).len (nameOf ns o) = some n → E.len o = some n ∧ (E.ren ns O' nx).blk (nameOf ns o) = E.blk o ∧ (E.ren ns O' nx).cap (nameOf ns o) = E.cap o := by
  unfold nameOf
  cases hp : place ns o 0 with
  | none =>
    refine ⟨hnx, fun n hn => ?_⟩
    have hn : (look O' ns.length).map Obj.len = some n := hn
    rw [hO _ (by omega)] at hn
    simp at hn
  | some i =>
    obtain ⟨_, hi⟩ := place_get hp
    simp only [Nat.sub_zero] at hi
    have hlt := (List.getElem?_eq_some_iff.1 hi).1
    refine ⟨by show i < nx; omega, fun n hn => ?_⟩
    have hn : (look O' i).map Obj.len = some n := hn
    rw [hO i (by omega), hi] at hn
    simp only [Option.bind_some] at hn
    refine ⟨?_, ?_, ?_⟩
    · rw [h.len]
      cases hl : look st.O o with
      | none => rw [hl] at hn; simp at hn
      | some x => rw [hl] at hn; simpa [renObj_len] using hn
    · show (ns[i]?).bind E.blk = E.blk o
      rw [hi]; rfl
    · show (match ns[i]? with | some o => E.cap o | none => 0) = E.cap o
      rw [hi]
theorem renRef_ok {v : MV} {x : Value} (hr : RelV E v x) : RelV (E.ren ns O' nx) (renRef ns v) x := by
  have bare : ∀ {v : MV} {x : Value}, RelV E v x → Pure v → RelV (E.ren ns O' nx) v x := fun h p => RelV.bare (E := E) (E' := E.ren ns O' nx) rfl rfl h p
  cases hr with
  | int h0 h1 => exact .int h0 h1
  | bool => exact .bool
  | str h => exact .str h
  | nilsl => exact .nilsl
  | bs a b c => exact bare (.bs a b c) .bs
  | sl a b c d e f => exact bare (.sl a b c d e f) (.sl fun e he => (d e he).2.2)
  | agg a b => exact bare (.agg a b) (.agg fun e he => (b e he).2)
  | tup a => exact .undef
  | nilptr => exact .nilptr
  | nilfn => exact .nilfn
  | nilif => exact .nilif
  | iface a b => exact bare (.iface a b) (.iface b)
  | fn a =>
    simp only [renRef]
    split
    · rename_i f caps vs hp
      refine bare (.fn a) ?_
      have : ∀ {l : List MV} {vs : List Value}, RelL E l vs → l.all MV.pureHead = true → ∀ c ∈ l, Pure c := by
        intro l
        induction l with
        | nil => intro vs _ _ c hc; cases hc
        | cons y l ih =>
          intro vs hr ha c hc
          cases hr with
          | cons h1 h2 =>
            simp only [List.all_cons, Bool.and_eq_true] at ha
            rcases List.mem_cons.1 hc with rfl | hc
            · exact pureHead_pure ha.1 h1
            · exact ih h2 ha.2 c hc
      exact .fn (this a hp)
    · exact .undef
  | own hb h1 hh =>
    rename_i o n
    obtain ⟨b1, b2⟩ := name_ok h hO hnx o
    refine .own b1 h1 fun hn => ?_
    obtain ⟨a, b, c⟩ := b2 n hn
    rw [hh a]
    unfold hdr
    rw [b, c]
  | ptr hb h1 hh =>
    rename_i o j
    obtain ⟨b1, b2⟩ := name_ok h hO hnx o
    refine .ptr b1 h1 fun hn => ?_
    obtain ⟨n, hn⟩ := Option.ne_none_iff_exists'.1 hn
    obtain ⟨a, b, c⟩ := b2 n hn
    obtain ⟨bb, k1, k2⟩ := hh (by rw [a]; simp)
    exact ⟨bb, b.trans k1, k2⟩
  | eptr => exact .undef
  | cptr a b c => exact bare (.cptr a b c) (.cptr fun e he => (b e he).2)
  | undef => exact .undef
theorem ren_ok {v : MV} {x : Value} (hr : RelV E v x) : RelV (E.ren ns O' nx) (Mini.ren ns v) x := by
  by_cases hf : ∃ f caps, v = .fn f caps
  · obtain ⟨f, caps, rfl⟩ := hf
    cases hr with
    | fn a =>
      refine .fn ?_
      have : ∀ {l : List MV} {vs : List Value}, RelL E l vs → RelL (E.ren ns O' nx) (l.map (renRef ns)) vs := by
        intro l
        induction l with
        | nil => intro vs h; cases h; exact .nil
        | cons y l ih =>
          intro vs hr
          cases hr with
          | cons h1 h2 => exact .cons (renRef_ok h hO hnx h1) (ih h2)
      exact this a
  · have : Mini.ren ns v = renRef ns v := by
      cases v <;> first | rfl | exact (hf ⟨_, _, rfl⟩).elim
    rw [this]
    exact renRef_ok h hO hnx hr
theorem rens_ok {l : List MV} : ∀ {vs : List Value}, RelL E l vs → RelL (E.ren ns O' nx) (l.map (Mini.ren ns)) vs := by
  induction l with
  | nil => intro vs h; cases h; exact .nil
  | cons y l ih =>
    intro vs hr
    cases hr with
    | cons h1 h2 => exact .cons (ren_ok h hO hnx h1) (ih h2)
theorem renObj_ok {i o : Nat} (hi : ns[i]? = some o) {x : Obj} (hx : ObjOK E o x) : ObjOK (E.ren ns O' nx) i (renObj ns x) := by
  have hb : ∀ {b}, E.blk o = b → (E.ren ns O' nx).blk i = b := fun e => by show (ns[i]?).bind E.blk = _; rw [hi]; exact e
  have hc : (E.ren ns O' nx).cap i = E.cap o := by show (match ns[i]? with | some o => E.cap o | none => 0) = _; rw [hi]
  have hs : (E.ren ns O' nx).sz i = E.sz o := by
    show (match ns[i]? with | some o => E.sz o | none => _) = _; rw [hi]
  cases hx with
  | cells h1 hh hr hc' h0 => exact .cells (hb h1) hh (rens_ok h hO hnx hr) (fun c hcm => by
      obtain ⟨d, hd, rfl⟩ := List.mem_map.1 hcm
      exact ren_cell (hc' d hd)) h0
  | iter h1 hh hl h0 => exact .iter (hb h1) hh hl h0
  | byt0 h1 h2 => exact .byt0 (hb h1) (hs.trans h2)
  | byt h1 h2 h3 h4 h5 => exact .byt (hb h1) (hs.trans h2) (by rw [hc]; exact h3) h4 ⟨by rw [hc]; exact h5.row, h5.com, h5.not⟩
  | el0 h1 h2 h3 => exact .el0 (hb h1) (hs.trans h2) h3
  | el h1 h2 h3 h4 h5 h6 h7 h8 => exact .el (hb h1) (hs.trans h2) h3 (by rw [hc]; exact h4) h5 h6 (RelL.bare (E := E) (E' := E.ren ns O' nx) rfl rfl h7 fun c hc => by
      obtain ⟨e, he, hce⟩ := List.mem_flatMap.1 hc
      exact (h6 e he).2.2.cells c hce) ⟨by rw [hc]; exact h8.row, h8.com, h8.not⟩
end
theorem canon_ok {keep : List (Nat × KMode)} {tmps : Array Value} (h : Inv own tm E st tmps) (hk : (keep.all fun k => decide (k.1 < nt) && !tm k.1 && (match k.2 with | .ownE s => decide (0 < s) | _ => true)) = true) (hs : nt ≤ tmps.size) :
    ∃ E', E'.w = E.w ∧ E'.C = E.C ∧ Inv own tm E' (canon keep st) tmps ∧ ∀ p, E'.born p → p < (canon keep st).nx := by
  have hkeep : ∀ k ∈ keep, k.1 < nt ∧ tm k.1 = false ∧ ∀ s, k.2 = .ownE s → 0 < s := by
    intro k hkm
    have := List.all_eq_true.1 hk k hkm
    simp only [Bool.and_eq_true, decide_eq_true_eq, Bool.not_eq_true'] at this
    refine ⟨this.1.1, this.1.2, fun s hs => ?_⟩
    have h2 := this.2
    rw [hs] at h2
    simpa using h2
  have hnd := liveNames_nodup st keep
  generalize hns : liveNames st keep = ns at hnd
  have hbase : ∀ p, ns.length + 1 ≤ p → look (newObjs st.O ns 0 ns) p = none := by
    intro p hp
    rw [look_newObjs, if_neg (by omega), List.getElem?_eq_none (by omega)]
    rfl
  obtain ⟨k1, k2, k3, k4, k5⟩ := keepV_ok (V := st.V) (ns := ns) (keep := keep) (nx := ns.length + 1) (O := newObjs st.O ns 0 ns) (fun k hkm s hs => (hkeep k hkm).2.2 s hs) hbase
  have e1 : canon keep st = { V := (keepV st.V ns keep (ns.length + 1) (newObjs st.O ns 0 ns)).1, T := [], O := (keepV st.V ns keep (ns.length + 1) (newObjs st.O ns 0 ns)).2.1, nx := (keepV st.V ns keep (ns.length + 1) (newObjs st.O ns 0 ns)).2.2 } := by
    unfold canon
    simp only [hns]
  rw [e1]
  generalize (keepV st.V ns keep (ns.length + 1) (newObjs st.O ns 0 ns)).1 = V' at k5
  generalize (keepV st.V ns keep (ns.length + 1) (newObjs st.O ns 0 ns)).2.1 = O' at k2 k3 k4
  generalize (keepV st.V ns keep (ns.length + 1) (newObjs st.O ns 0 ns)).2.2 = nx at k1 k3 k4 k5
  have hO : ∀ p, p < ns.length + 1 → look O' p = (ns[p]?).bind fun o => (look st.O o).map (renObj ns) := by
    intro p hp
    rw [k2 p hp, look_newObjs, if_neg (by omega)]
    simp
  have hnx : ns.length < nx := by omega
  have split : ∀ p x, look O' p = some x → (∃ o y, ns[p]? = some o ∧ look st.O o = some y ∧ x = renObj ns y) ∨ (ns[p]? = none ∧ p < nx ∧ Fresh O' p) := by
    intro p x hp
    by_cases h1 : p < ns.length + 1
    · rw [hO p h1] at hp
      cases ho : ns[p]? with
      | none => rw [ho] at hp; simp at hp
      | some o =>
        rw [ho] at hp
        simp only [Option.bind_some, Option.map_eq_some_iff] at hp
        obtain ⟨y, hy, rfl⟩ := hp
        exact .inl ⟨o, y, rfl, hy, rfl⟩
    · by_cases h2 : p < nx
      · exact .inr ⟨List.getElem?_eq_none (by omega), h2, k4 p (by omega) h2⟩
      · rw [k3 p (by omega)] at hp; cases hp
  refine ⟨E.ren ns O' nx, rfl, rfl, ?_, fun p hp => hp⟩
  have hfresh : ∀ p, Fresh O' p → ns[p]? = none → ∀ x, look O' p = some x → ObjOK (E.ren ns O' nx) p x := by
    intro p hf hn x hx
    have hb : (E.ren ns O' nx).blk p = none := by show (ns[p]?).bind E.blk = none; rw [hn]; rfl
    rcases hf with hf | ⟨s, h0, hf⟩
    · rw [hf] at hx; cases hx
      exact .byt0 hb (by show (match ns[p]? with | some o => E.sz o | none => match look O' p with | some (.el s _ _) => s | _ => 1) = 1; rw [hn, hf])
    · rw [hf] at hx; cases hx
      exact .el0 hb (by show (match ns[p]? with | some o => E.sz o | none => match look O' p with | some (.el s _ _) => s | _ => 1) = s; rw [hn, hf]) h0
  refine { len := fun p => rfl, objs := fun p x hp => ?_, sep := fun p q b hp hq hpb hqb => ?_, ownb := fun p b hp hpb => ?_, good := h.good, born := fun p hp => ?_, base := h.base, T := fun n v hn => by simp [look] at hn, V := fun k v hv => ?_ }
  · rcases split p x hp with ⟨o, y, h1, h2, rfl⟩ | ⟨h1, h2, h3⟩
    · exact renObj_ok h hO hnx h1 (h.objs o y h2)
    · exact hfresh p h3 h1 x hp
  · have hpb : (ns[p]?).bind E.blk = some b := hpb
    have hqb : (ns[q]?).bind E.blk = some b := hqb
    obtain ⟨x, hx⟩ := Option.ne_none_iff_exists'.1 hp
    obtain ⟨y, hy⟩ := Option.ne_none_iff_exists'.1 hq
    rcases split p x hx with ⟨o, x', h1, h2, rfl⟩ | ⟨h1, _⟩
    · rcases split q y hy with ⟨o', y', h3, h4, rfl⟩ | ⟨h3, _⟩
      · rw [h1] at hpb; rw [h3] at hqb
        have := h.sep o o' b (by rw [h2]; simp) (by rw [h4]; simp) hpb hqb
        subst this
        obtain ⟨l1, e1⟩ := List.getElem?_eq_some_iff.1 h1
        obtain ⟨l2, e2⟩ := List.getElem?_eq_some_iff.1 h3
        exact (List.getElem_inj hnd).1 (e1.trans e2.symm)
      · rw [h3] at hqb; cases hqb
    · rw [h1] at hpb; cases hpb
  · have hpb : (ns[p]?).bind E.blk = some b := hpb
    obtain ⟨x, hx⟩ := Option.ne_none_iff_exists'.1 hp
    rcases split p x hx with ⟨o, x', h1, h2, rfl⟩ | ⟨h1, _⟩
    · rw [h1] at hpb
      exact h.ownb o b (by rw [h2]; simp) hpb
    · rw [h1] at hpb; cases hpb
  · show p < nx
    by_cases h2 : p < nx
    · exact h2
    · exact (hp (k3 p (by omega))).elim
  · obtain ⟨⟨m, hm⟩, h6⟩ := k5 k v hv
    obtain ⟨hlt, htm, _⟩ := hkeep _ hm
    refine ⟨htm, ?_⟩
    rcases h6 with rfl | ⟨p, p1, p2, rfl, p4⟩
    · cases hl : look st.V k with
      | none => exact ⟨tmps[k]'(by omega), by rw [Array.getElem?_eq_getElem], .undef⟩
      | some y =>
        obtain ⟨_, x, hx, hr⟩ := h.V k y hl
        exact ⟨x, hx, by simpa using ren_ok h hO hnx hr⟩
    · obtain ⟨_, x, hx, hr⟩ := h.V k _ p4
      cases hr
      refine ⟨_, hx, .own p2 rfl fun _ => ?_⟩
      unfold hdr
      have : (E.ren ns O' nx).blk p = none := by
        show (ns[p]?).bind E.blk = none
        rw [List.getElem?_eq_none (by omega)]; rfl
      rw [this]
end Go.Mini
/- Mini: what an operation looks at, what it turns. -/
namespace Go.Mini
open Go
def setLent : Obj → Obj
  | .byt l _ => .byt l true
  | .el s l _ => .el s l true
  | x => x
def unfl : Obj → Obj
  | .byt l _ => .byt l false
  | .el s l _ => .el s l false
  | x => x
def lentIf (b : Bool) (x : Option Obj) : Option Obj := if b then x.map setLent else x
theorem unfl_setLent (x : Obj) : unfl (setLent x) = unfl x := by cases x <;> rfl
theorem unfl_lentIf (b : Bool) (x : Option Obj) : (lentIf b x).map unfl = x.map unfl := by
  cases b <;> cases x <;> simp [lentIf, unfl_setLent]
theorem lentIf_or (a b : Bool) (x : Option Obj) : lentIf b (lentIf a x) = lentIf (a || b) x := by
  have : ∀ x, setLent (setLent x) = setLent x := fun x => by cases x <;> rfl
  cases a <;> cases b <;> cases x <;> simp [lentIf, this]
theorem lentIf_comm (a b : Bool) (x : Option Obj) : lentIf b (lentIf a x) = lentIf a (lentIf b x) := by
  rw [lentIf_or, lentIf_or, Bool.or_comm]
theorem lentIf_false (x : Option Obj) : lentIf false x = x := rfl
structure Agree (F W : Nat → Prop) (st st' : DS) : Prop where
  F : ∀ o, F o → (look st.O o).map unfl = (look st'.O o).map unfl
  W : ∀ o, W o → look st.O o = look st'.O o
structure Quiet (F : Nat → Prop) (b : Nat → Bool) (st st1 : DS) : Prop where
  bF : ∀ o, b o = true → F o
  O : ∀ o, look st1.O o = lentIf (b o) (look st.O o)
  T : st1.T = st.T
  V : st1.V = st.V
theorem Quiet.refl (F) (st : DS) : Quiet F (fun _ => false) st st := ⟨fun _ h => Bool.noConfusion h, fun _ => rfl, rfl, rfl⟩
theorem Quiet.trans {F b c} {s0 s1 s2 : DS} (h : Quiet F b s0 s1) (k : Quiet F c s1 s2) : Quiet F (fun o => b o || c o) s0 s2 where
  bF o ho := by
    simp only [Bool.or_eq_true] at ho
    exact ho.elim (h.bF o) (k.bF o)
  O o := by rw [k.O, h.O, lentIf_or]
  T := k.T.trans h.T
  V := k.V.trans h.V
theorem Agree.quiet {F W G b} {st st' st1 st1' : DS} (h : Agree F W st st') (q : Quiet G b st st1) (q' : Quiet G b st' st1') : Agree F W st1 st1' :=
  ⟨fun o ho => by rw [q.O, q'.O, unfl_lentIf, unfl_lentIf]; exact h.F o ho, fun o ho => by rw [q.O, q'.O, h.W o ho]⟩
section
variable {F W : Nat → Prop} {st st' : DS}
theorem Agree.cells (h : Agree F W st st') {o l} (ho : F o) (hl : look st.O o = some (.cells l)) : look st'.O o = some (.cells l) := by
  have := h.F o ho
  rw [hl] at this
  cases h' : look st'.O o with
  | none => rw [h'] at this; cases this
  | some x =>
    rw [h'] at this
    cases x <;> simp [unfl] at this
    simp [this]
theorem Agree.byt (h : Agree F W st st') {o l b} (ho : F o) (hl : look st.O o = some (.byt l b)) : ∃ b', look st'.O o = some (.byt l b') := by
  have := h.F o ho
  rw [hl] at this
  cases h' : look st'.O o with
  | none => rw [h'] at this; cases this
  | some x =>
    rw [h'] at this
    cases x <;> simp [unfl] at this
    simp [this]
theorem Agree.el (h : Agree F W st st') {o s l b} (ho : F o) (hl : look st.O o = some (.el s l b)) : ∃ b', look st'.O o = some (.el s l b') := by
  have := h.F o ho
  rw [hl] at this
  cases h' : look st'.O o with
  | none => rw [h'] at this; cases this
  | some x =>
    rw [h'] at this
    cases x <;> simp [unfl] at this
    simp [this]
theorem Agree.live (h : Agree F W st st') {o n} (ho : F o) : live o n st' = live o n st := by
  unfold Mini.live
  have := h.F o ho
  cases h1 : look st.O o with
  | none => rw [h1] at this; cases h2 : look st'.O o with | none => rfl | some y => rw [h2] at this; cases this
  | some x =>
    rw [h1] at this
    cases h2 : look st'.O o with
    | none => rw [h2] at this; cases this
    | some y => rw [h2] at this; cases x <;> cases y <;> simp [unfl] at this <;> simp [this]
theorem Agree.liveS (h : Agree F W st st') {o n s} (ho : F o) : liveS o n s st' = liveS o n s st := by
  unfold Mini.liveS
  have := h.F o ho
  cases h1 : look st.O o with
  | none => rw [h1] at this; cases h2 : look st'.O o with | none => rfl | some y => rw [h2] at this; cases this
  | some x =>
    rw [h1] at this
    cases h2 : look st'.O o with
    | none => rw [h2] at this; cases this
    | some y => rw [h2] at this; cases x <;> cases y <;> simp [unfl] at this <;> simp [this]
theorem Agree.liveC (h : Agree F W st st') {o} (ho : F o) : liveC o st' = liveC o st := by
  unfold Mini.liveC
  have := h.F o ho
  cases h1 : look st.O o with
  | none => rw [h1] at this; cases h2 : look st'.O o with | none => rfl | some y => rw [h2] at this; cases this
  | some x =>
    rw [h1] at this
    cases h2 : look st'.O o with
    | none => rw [h2] at this; cases this
    | some y => rw [h2] at this; cases x <;> cases y <;> simp [unfl] at this <;> simp [this]
def QL {α : Type} (F : Nat → Prop) (f : DS → Option (α × DS)) (st : DS) (r : α × DS) : Prop :=
  ∃ b, Quiet F b st r.2 ∧ ∀ W st', Agree F W st st' → ∃ st1', f st' = some (r.1, st1') ∧ Quiet F b st' st1'
theorem QL.pure {α : Type} {F : Nat → Prop} {f : DS → Option (α × DS)} {a : α} (h : ∀ W st', Agree F W st st' → f st' = some (a, st')) : QL F f st (a, st) :=
  ⟨_, Quiet.refl F st, fun W st' ha => ⟨st', h W st' ha, Quiet.refl F st'⟩⟩
def own1 : MV → List Nat
  | .own o _ => [o]
  | _ => []
theorem lend_loc {v : MV} {r : MV × DS} (hF : ∀ o ∈ own1 v, F o) (h : lend v st = some r) : QL F (lend v) st r := by
  cases v
  case own o n =>
    have ho : F o := hF o (by simp [own1])
    have q : ∀ (ob ob' : Obj) (s : DS), look s.O o = some ob → ob' = setLent ob → Quiet F (fun p => decide (o = p)) s { s with O := put s.O o ob' } := by
      intro ob ob' s hob hob'
      refine ⟨fun p hp => ?_, fun p => ?_, rfl, rfl⟩
      · simp at hp; subst hp; exact ho
      · show look (put s.O o ob') p = _
        rw [look_put]
        by_cases hp : o = p
        · subst hp; simp [lentIf, hob, hob']
        · simp [hp, lentIf]
    simp only [lend] at h
    split at h
    · rename_i l b hl
      split at h
      · rename_i hn
        cases h
        refine ⟨_, q _ (.byt l true) st hl rfl, fun W st' ha => ?_⟩
        obtain ⟨b', hl'⟩ := ha.byt ho hl
        exact ⟨_, by simp only [lend, hl', if_pos hn], q _ (.byt l true) st' hl' rfl⟩
      · cases h
    · rename_i s l b hl
      split at h
      · rename_i hn
        cases h
        refine ⟨_, q _ (.el s l true) st hl rfl, fun W st' ha => ?_⟩
        obtain ⟨b', hl'⟩ := ha.el ho hl
        exact ⟨_, by simp only [lend, hl', if_pos hn], q _ (.el s l true) st' hl' rfl⟩
      · cases h
    · cases h
  case fn f caps =>
    simp only [lend] at h
    split at h
    · rename_i hc; cases h; exact .pure fun W st' _ => by simp only [lend, if_pos hc]
    · cases h
  all_goals first | (simp only [lend, Option.some.injEq] at h; subst h; exact .pure fun W st' _ => rfl) | cases h
theorem lends_loc : ∀ {l : List MV} {st : DS} {r : List MV × DS}, (∀ v ∈ l, ∀ o ∈ own1 v, F o) → lends l st = some r → QL F (lends l) st r
  | [], st, r, _, h => by simp only [lends, Option.some.injEq] at h; subst h; exact .pure fun W st' _ => rfl
  | v :: l, st, r, hF, h => by
    simp only [lends] at h
    split at h
    · rename_i v' st1 h1
      split at h
      · rename_i r' st2 h2
        cases h
        obtain ⟨b, q, k⟩ := lend_loc (hF v (by simp)) h1
        obtain ⟨c, q2, k2⟩ := lends_loc (fun w hw => hF w (by simp [hw])) h2
        refine ⟨_, q.trans q2, fun W st' ha => ?_⟩
        obtain ⟨s1, e1, p1⟩ := k W st' ha
        obtain ⟨s2, e2, p2⟩ := k2 W s1 (ha.quiet q p1)
        exact ⟨s2, by simp only [lends, e1, e2], p1.trans p2⟩
      · cases h
    · cases h
def RdEq (xs : List X) (st st' : DS) : Prop := ∀ x ∈ xs, st'.rd x = st.rd x
theorem rd_eq {s s' : DS} (hT : s'.T = s.T) (hV : s'.V = s.V) (x : X) : s'.rd x = s.rd x := by
  cases x <;> simp [DS.rd, hT, hV]
theorem Quiet.rd {b} {s s1 : DS} (q : Quiet F b s s1) (x : X) : s1.rd x = s.rd x := rd_eq q.T q.V x
theorem placeAll_loc : ∀ {ps : List (Nat × Nat × X)} {l : List MV} {st : DS} {r : List MV × DS}, (∀ p ∈ ps, ∀ o ∈ own1 (st.rd p.2.2), F o) → placeAll st l ps = some r →
    ∃ b, Quiet F b st r.2 ∧ ∀ W st', RdEq (ps.map (·.2.2)) st st' → Agree F W st st' → ∃ st1', placeAll st' l ps = some (r.1, st1') ∧ Quiet F b st' st1'
  | [], l, st, r, _, h => by
    simp only [placeAll, Option.some.injEq] at h
    subst h
    exact ⟨_, Quiet.refl F st, fun W st' _ _ => ⟨st', rfl, Quiet.refl F st'⟩⟩
  | (off, size, x) :: ps, l, st, r, hF, h => by
    simp only [placeAll] at h
    split at h
    · rename_i v st1 h1
      split at h
      · rename_i hc
        obtain ⟨b, q, k⟩ := lend_loc (hF (off, size, x) (by simp)) h1
        obtain ⟨c, q2, k2⟩ := placeAll_loc (st := st1) (fun p hp => by rw [q.rd]; exact hF p (by simp [hp])) h
        refine ⟨_, q.trans q2, fun W st' hr ha => ?_⟩
        obtain ⟨s1, e1, p1⟩ := k W st' ha
        obtain ⟨s2, e2, p2⟩ := k2 W s1 (fun y hy => by rw [q.rd, p1.rd]; exact hr y (by simp at hy ⊢; exact .inr hy)) (ha.quiet q p1)
        exact ⟨s2, by simp only [placeAll, hr x (by simp), e1, if_pos hc, e2], p1.trans p2⟩
      · cases h
    · cases h
theorem elParts_loc {s : Nat} : ∀ {ps : List (Nat × X)} {l : List MV} {st : DS} {r : List MV × DS}, (∀ p ∈ ps, ∀ o ∈ own1 (st.rd p.2), F o) → elParts s st l ps = some r →
    ∃ b, Quiet F b st r.2 ∧ ∀ W st', RdEq (ps.map (·.2)) st st' → Agree F W st st' → ∃ st1', elParts s st' l ps = some (r.1, st1') ∧ Quiet F b st' st1'
  | [], l, st, r, _, h => by
    simp only [elParts, Option.some.injEq] at h
    subst h
    exact ⟨_, Quiet.refl F st, fun W st' _ _ => ⟨st', rfl, Quiet.refl F st'⟩⟩
  | (i, x) :: ps, l, st, r, hF, h => by
    simp only [elParts] at h
    split at h
    · rename_i v st1 h1
      split at h
      · rename_i hc
        obtain ⟨b, q, k⟩ := lend_loc (hF (i, x) (by simp)) h1
        obtain ⟨c, q2, k2⟩ := elParts_loc (st := st1) (fun p hp => by rw [q.rd]; exact hF p (by simp [hp])) h
        refine ⟨_, q.trans q2, fun W st' hr ha => ?_⟩
        obtain ⟨s1, e1, p1⟩ := k W st' ha
        obtain ⟨s2, e2, p2⟩ := k2 W s1 (fun y hy => by rw [q.rd, p1.rd]; exact hr y (by simp at hy ⊢; exact .inr hy)) (ha.quiet q p1)
        exact ⟨s2, by simp only [elParts, hr x (by simp), e1, if_pos hc, e2], p1.trans p2⟩
      · cases h
    · cases h
theorem byteParts_loc : ∀ {ps : List (Nat × X)} {l : List UInt8} {st' : DS}, RdEq (ps.map (·.2)) st st' → byteParts st' l ps = byteParts st l ps
  | [], l, st', _ => rfl
  | (i, x) :: ps, l, st', h => by
    simp only [byteParts, h x (by simp)]
    split
    · split
      · exact byteParts_loc fun y hy => h y (by simp at hy ⊢; exact .inr hy)
      · rfl
    · rfl
theorem foldMM_loc {mx : Bool} : ∀ {xs : List X} {v : MV} {st' : DS}, RdEq xs st st' → foldMM mx st' v xs = foldMM mx st v xs
  | [], v, st', _ => rfl
  | x :: xs, v, st', h => by
    simp only [foldMM, h x (by simp)]
    split
    · exact foldMM_loc fun y hy => h y (by simp [hy])
    · rfl
end
end Go.Mini
/- Mini: what an operation looks at, what it turns: one by one. -/
namespace Go.Mini
open Go
structure Eff (F W : Nat → Prop) (nm : Nat) (K b : Nat → Bool) (M : Nat → Option Obj) (st st1 : DS) : Prop where
  KF : ∀ o, K o = true → (nm ≤ o ∧ o < nm + 4) ∨ W o
  bF : ∀ o, b o = true → F o
  O : ∀ o, look st1.O o = if K o = true then M o else lentIf (b o) (look st.O o)
  T : st1.T = st.T
  V : st1.V = st.V
def OpLoc (C : CallT) (nm : Nat) (op : MOp) (F W : Nat → Prop) (st : DS) (v : MV) : Prop :=
  ∃ K b M, ∀ st', RdEq op.xs st st' → Agree F W st st' → ∃ st1', dOp C nm op st' = some (v, st1') ∧ Eff F W nm K b M st' st1'
section
variable {C : CallT} {nm : Nat} {F W : Nat → Prop} {st : DS} {op : MOp} {v : MV}
theorem Quiet.eff {b} {s s1 : DS} (q : Quiet F b s s1) : Eff F W nm (fun _ => false) b (fun _ => none) s s1 :=
  ⟨fun _ h => Bool.noConfusion h, q.bF, fun o => by simp [q.O], q.T, q.V⟩
theorem Quiet.made {b} {s s1 : DS} (q : Quiet F b s s1) (ob : Obj) : Eff F W nm (fun o => decide (nm = o)) b (fun _ => some ob) s { s1 with O := put s1.O nm ob } := by
  refine ⟨fun o h => ?_, q.bF, fun o => ?_, q.T, q.V⟩
  · simp at h; subst h; exact .inl ⟨Nat.le_refl _, by omega⟩
  · show look (put s1.O nm ob) o = _
    rw [look_put]
    by_cases ho : nm = o
    · simp [ho]
    · simp [ho, q.O]
theorem OpLoc.pure (h : ∀ st', RdEq op.xs st st' → Agree F W st st' → dOp C nm op st' = some (v, st')) : OpLoc C nm op F W st v :=
  ⟨_, _, _, fun st' hr ha => ⟨st', h st' hr ha, (Quiet.refl F st').eff⟩⟩
theorem OpLoc.new {ob : Obj} (h : ∀ st', RdEq op.xs st st' → Agree F W st st' → dOp C nm op st' = some (v, { st' with O := put st'.O nm ob })) : OpLoc C nm op F W st v :=
  ⟨_, _, _, fun st' hr ha => ⟨_, h st' hr ha, (Quiet.refl F st').made ob⟩⟩
theorem OpLoc.lent {b} {s1 : DS} (_ : Quiet F b st s1) (h : ∀ st', RdEq op.xs st st' → Agree F W st st' → ∃ st1', dOp C nm op st' = some (v, st1') ∧ Quiet F b st' st1') : OpLoc C nm op F W st v :=
  ⟨_, _, _, fun st' hr ha => let ⟨s, e, q⟩ := h st' hr ha; ⟨s, e, q.eff⟩⟩
theorem OpLoc.lentNew {b} {s1 : DS} {ob : Obj} (_ : Quiet F b st s1) (h : ∀ st', RdEq op.xs st st' → Agree F W st st' → ∃ st1', dOp C nm op st' = some (v, { st1' with O := put st1'.O nm ob }) ∧ Quiet F b st' st1') : OpLoc C nm op F W st v :=
  ⟨_, _, _, fun st' hr ha => let ⟨s, e, q⟩ := h st' hr ha; ⟨_, e, q.made ob⟩⟩
theorem offV_loc {off : Nat} {x r : MV} {st' : DS} (hF : ∀ o ∈ x.names2, F o) (ha : Agree F W st st') (h : offV off x st = some r) : offV off x st' = some r := by
  cases x
  case ptr o j => simp only [offV] at h ⊢; rw [ha.liveC (hF o (by simp [MV.names2, MV.names]))]; exact h
  case eptr o i j n => simp only [offV] at h ⊢; rw [ha.live (hF o (by simp [MV.names2]))]; exact h
  all_goals exact h
theorem indexV_loc {s : Nat} {x i r : MV} {st' : DS} (hF : ∀ o ∈ x.names2, F o) (ha : Agree F W st st') (h : indexV s x i st = some r) : indexV s x i st' = some r := by
  cases i
  case int k i =>
    cases x
    case own o n => simp only [indexV] at h ⊢; rw [ha.liveS (hF o (by simp [MV.names2, MV.names]))]; exact h
    all_goals exact h
  all_goals cases h
theorem aindexV_loc {s n : Nat} {x i r : MV} {st' : DS} (hF : ∀ o ∈ x.names2, F o) (ha : Agree F W st st') (h : aindexV s n x i st = some r) : aindexV s n x i st' = some r := by
  cases i
  case int k i =>
    simp only [aindexV] at h ⊢
    split at h
    · rename_i hc; rw [if_pos hc]; exact offV_loc hF ha h
    · cases h
  all_goals cases h
theorem lenV_loc {b : Bool} {x r : MV} {st' : DS} (hF : ∀ o ∈ x.names2, F o) (ha : Agree F W st st') (h : lenV b x st = some r) : lenV b x st' = some r := by
  cases b <;> cases x
  case false.own o n => simp only [lenV] at h ⊢; rw [ha.live (hF o (by simp [MV.names2, MV.names]))]; exact h
  all_goals exact h
theorem bytesOf_loc {x : MV} {r : List UInt8} {st' : DS} (hF : ∀ o ∈ x.names2, F o) (ha : Agree F W st st') (h : bytesOf x st = some r) : bytesOf x st' = some r := by
  cases x
  case own o n =>
    simp only [bytesOf] at h ⊢
    split at h
    · rename_i l b hl
      obtain ⟨b', hl'⟩ := ha.byt (hF o (by simp [MV.names2, MV.names])) hl
      rw [hl']; exact h
    · cases h
  all_goals exact h
theorem elemsOf_loc {s : Nat} {x : MV} {r : List MV} {st' : DS} (hF : ∀ o ∈ x.names2, F o) (ha : Agree F W st st') (h : elemsOf s x st = some r) : elemsOf s x st' = some r := by
  cases x
  case own o n =>
    simp only [elemsOf] at h ⊢
    split at h
    · rename_i s' l b hl
      obtain ⟨b', hl'⟩ := ha.el (hF o (by simp [MV.names2, MV.names])) hl
      rw [hl']; exact h
    · cases h
  all_goals exact h
theorem eqV_loc {k : EqK} {x y : MV} {r : Bool} {st' : DS} (hF : ∀ o ∈ x.names2, F o) (ha : Agree F W st st') (h : eqV (fun o n => live o n st) k x y = some r) : eqV (fun o n => live o n st') k x y = some r := by
  unfold eqV at h ⊢
  split at h <;> first | exact h | skip
  rename_i o m
  show (if live o (m + 1) st' = true then some false else none) = some r
  rw [ha.live (hF o (by simp [MV.names2, MV.names]))]
  exact h
theorem loadV_loc {g : Bool} {s : Nat} {x : MV} {r : MV × DS} (hF : ∀ o ∈ x.names2, F o) (hF2 : ∀ o ∈ x.names2, ∀ ob, look st.O o = some ob → ∀ p ∈ ob.names, F p) (h : loadV g s x st = some r) :
    ∃ b, Quiet F b st r.2 ∧ ∀ st', Agree F W st st' → ∃ st1', loadV g s x st' = some (r.1, st1') ∧ Quiet F b st' st1' := by
  have same : (∀ st', Agree F W st st' → loadV g s x st' = some (r.1, st')) → r.2 = st → ∃ b, Quiet F b st r.2 ∧ ∀ st', Agree F W st st' → ∃ st1', loadV g s x st' = some (r.1, st1') ∧ Quiet F b st' st1' := by
    intro h1 h2
    rw [h2]
    exact ⟨_, Quiet.refl F st, fun st' ha => ⟨st', h1 st' ha, Quiet.refl F st'⟩⟩
  cases x
  case ptr o j =>
    have ho : F o := hF o (by simp [MV.names2, MV.names])
    simp only [loadV] at h
    split at h
    · rename_i l hl
      split at h
      · rename_i hg
        split at h
        · rename_i hj
          split at h
          · rename_i l' st1 h1
            cases h
            obtain ⟨b, q, k⟩ := lends_loc (F := F) (fun w hw p hp => hF2 o (by simp [MV.names2, MV.names]) _ hl p (by
              simp only [Obj.names, List.mem_flatMap]
              refine ⟨w, List.mem_of_mem_drop (List.mem_of_mem_take hw), ?_⟩
              cases w <;> simp [own1] at hp
              simp [MV.names, hp])) h1
            refine ⟨b, q, fun st' ha => ?_⟩
            obtain ⟨s1, e1, p1⟩ := k W st' ha
            exact ⟨s1, by simp only [loadV, ha.cells ho hl, hg, if_true, if_pos hj, e1], p1⟩
          · cases h
        · cases h
      · rename_i hg
        split at h
        · rename_i v hv
          cases h
          exact same (fun st' ha => by simp only [loadV, ha.cells ho hl, hg, if_false, hv, Bool.false_eq_true]) rfl
        · cases h
    · cases h
  case eptr o i j n =>
    have ho : F o := hF o (by simp [MV.names2])
    simp only [loadV] at h
    split at h
    · rename_i s' l b hl
      split at h
      · rename_i hn
        split at h
        · rename_i e he
          split at h
          · rename_i v hv
            cases h
            refine same (fun st' ha => ?_) rfl
            obtain ⟨b', hl'⟩ := ha.el ho hl
            simp only [loadV, hl', if_pos hn, he, hv]
          · cases h
        · cases h
      · cases h
    · rename_i l b hl
      split at h
      · rename_i hn
        split at h
        · rename_i e he
          cases h
          refine same (fun st' ha => ?_) rfl
          obtain ⟨b', hl'⟩ := ha.byt ho hl
          simp only [loadV, hl', if_pos hn, he]
        · cases h
      · cases h
    · cases h
  case cptr l =>
    simp only [loadV] at h
    split at h
    · rename_i v hv
      cases h
      exact same (fun st' ha => by simp only [loadV, hv]) rfl
    · cases h
  all_goals cases h
theorem sliceV_loc {g : Bool} {s : Nat} {x : MV} {lo hi : Option MV} {r : MV × DS} (hF : ∀ o ∈ x.names2, F o) (h : sliceV g s x lo hi st = some r) :
    ∃ b, Quiet F b st r.2 ∧ ∀ st', Agree F W st st' → ∃ st1', sliceV g s x lo hi st' = some (r.1, st1') ∧ Quiet F b st' st1' := by
  have same : (∀ st', sliceV g s x lo hi st' = some (r.1, st')) → r.2 = st → ∃ b, Quiet F b st r.2 ∧ ∀ st', Agree F W st st' → ∃ st1', sliceV g s x lo hi st' = some (r.1, st1') ∧ Quiet F b st' st1' := by
    intro h1 h2
    rw [h2]
    exact ⟨_, Quiet.refl F st, fun st' ha => ⟨st', h1 st', Quiet.refl F st'⟩⟩
  cases g <;> cases x <;> simp only [sliceV] at h <;> try (cases h; done)
  case false.bs l =>
    split at h
    · rename_i hs
      split at h
      · rename_i r' hc; cases h; exact same (fun st' => by simp only [sliceV, if_pos hs, hc]) rfl
      · cases h
    · cases h
  case false.sl s' l =>
    split at h
    · rename_i hs
      split at h
      · rename_i r' hc; cases h; exact same (fun st' => by simp only [sliceV, if_pos hs, hc]) rfl
      · cases h
    · cases h
  case true.str l =>
    split at h
    · rename_i r' hc; cases h; exact same (fun st' => by simp only [sliceV, hc]) rfl
    · cases h
  case false.own o n =>
    have hh : ∀ p ∈ own1 (.own o n), F p := fun p hp => hF p (by simpa [own1, MV.names2, MV.names] using hp)
    split at h
    · rename_i l st1 h1
      obtain ⟨b, q, k⟩ := lend_loc hh h1
      split at h
      · rename_i hs
        split at h
        · rename_i r' hc
          cases h
          refine ⟨b, q, fun st' ha => ?_⟩
          obtain ⟨s1, e1, p1⟩ := k W st' ha
          exact ⟨s1, by simp only [sliceV, e1, if_pos hs, hc], p1⟩
        · cases h
      · cases h
    · rename_i s' l st1 h1
      obtain ⟨b, q, k⟩ := lend_loc hh h1
      split at h
      · rename_i hs
        split at h
        · rename_i r' hc
          cases h
          refine ⟨b, q, fun st' ha => ?_⟩
          obtain ⟨s1, e1, p1⟩ := k W st' ha
          exact ⟨s1, by simp only [sliceV, e1, if_pos hs, hc], p1⟩
        · cases h
      · cases h
    · cases h
end
end Go.Mini
/- Mini: what an operation looks at, what it turns: joined. -/
namespace Go.Mini
open Go
section
variable {C : CallT} {nm : Nat} {F W : Nat → Prop} {st : DS} {op : MOp} {v : MV}
theorem own1_names2 {v : MV} {o : Nat} (h : o ∈ own1 v) : o ∈ v.names2 := by
  cases v <;> simp [own1] at h
  simp [MV.names2, MV.names, h]
theorem storeV_loc {size : Nat} {p x v : MV} {r : DS} (hF : ∀ o ∈ own1 x, F o) (hW : ∀ o ∈ p.names2, W o) (h : storeV size p x st = some (v, r)) :
    ∃ K b M, ∀ st', Agree F W st st' → ∃ st1', storeV size p x st' = some (v, st1') ∧ Eff F W nm K b M st' st1' := by
  have put1 : ∀ {b} {s s1 : DS} {o : Nat} (ob : Obj), W o → Quiet F b s s1 → Eff F W nm (fun p => decide (o = p)) b (fun _ => some ob) s { s1 with O := put s1.O o ob } := by
    intro b s s1 o ob hw q
    refine ⟨fun p hp => ?_, q.bF, fun p => ?_, q.T, q.V⟩
    · simp at hp; subst hp; exact .inr hw
    · show look (put s1.O o ob) p = _
      rw [look_put]
      by_cases ho : o = p
      · simp [ho]
      · simp [ho, q.O]
  cases p
  case ptr o j =>
    have hw : W o := hW o (by simp [MV.names2, MV.names])
    simp only [storeV] at h
    split at h
    · rename_i l hl
      split at h
      · rename_i hc
        cases h
        refine ⟨_, _, _, fun st' ha => ⟨_, ?_, put1 (.cells (setCells l j x.cells)) hw (Quiet.refl F st')⟩⟩
        rw [ha.W o hw] at hl
        simp only [storeV, hl, if_pos hc]
      · cases h
    · cases h
  case eptr o i j n =>
    have hw : W o := hW o (by simp [MV.names2])
    simp only [storeV] at h
    split at h
    · rename_i v' st1 h1
      obtain ⟨b, q, k⟩ := lend_loc (F := F) hF h1
      split at h
      · rename_i s l hl
        split at h
        · rename_i e he
          split at h
          · rename_i hc
            cases h
            refine ⟨fun p => decide (o = p), b, fun _ => some (.el s (l.set i (if s = 1 then v' else .agg (setCells e.cells j v'.cells))) false), fun st' ha => ?_⟩
            obtain ⟨s1, e1, p1⟩ := k W st' ha
            refine ⟨_, ?_, put1 (.el s (l.set i (if s = 1 then v' else .agg (setCells e.cells j v'.cells))) false) hw p1⟩
            have hl' := hl
            rw [(ha.quiet q p1).W o hw] at hl'
            simp only [storeV, e1, hl', he, if_pos hc]
          · cases h
        · cases h
      · rename_i l hl
        split at h
        · rename_i bb hb
          split at h
          · rename_i hc
            cases h
            refine ⟨fun p => decide (o = p), b, fun _ => some (.byt (l.set i bb) false), fun st' ha => ?_⟩
            obtain ⟨s1, e1, p1⟩ := k W st' ha
            refine ⟨_, ?_, put1 (.byt (l.set i bb) false) hw p1⟩
            have hl' := hl
            rw [(ha.quiet q p1).W o hw] at hl'
            simp only [storeV, e1, hl', hb, if_pos hc]
          · cases h
        · cases h
      · cases h
    · cases h
  all_goals cases h
theorem swapped {s : DS} {o nm : Nat} (ob : Obj) (hw : W o) : Eff F W nm (fun p => decide (nm = p) || decide (o = p)) (fun _ => false) (fun p => if nm = p then some ob else none) s { s with O := put (drop s.O o) nm ob } := by
  refine ⟨fun p hp => ?_, fun _ h => Bool.noConfusion h, fun p => ?_, rfl, rfl⟩
  · simp at hp
    rcases hp with rfl | rfl
    · exact .inl ⟨Nat.le_refl _, by omega⟩
    · exact .inr hw
  · show look (put (drop s.O o) nm ob) p = _
    rw [look_put, look_drop]
    by_cases h1 : nm = p
    · simp [h1]
    · by_cases h2 : o = p
      · simp [h1, h2]
      · simp [h1, h2, lentIf]
theorem appB_loc {w : Nat} {d x v : MV} {r : DS} (hF : ∀ o ∈ x.names2, F o) (hW : ∀ o ∈ d.names2, W o) (h : appB nm w d x st = some (v, r)) :
    ∃ K b M, ∀ st', Agree F W st st' → ∃ st1', appB nm w d x st' = some (v, st1') ∧ Eff F W nm K b M st' st1' := by
  unfold appB at h
  split at h
  · cases h
  · rename_i xs hxs
    split at h
    · split at h
      · rename_i hc
        cases h
        refine ⟨_, _, _, fun st' ha => ⟨_, ?_, (Quiet.refl F st').made (.byt xs false)⟩⟩
        simp only [appB, bytesOf_loc hF ha hxs, if_pos hc]
      · cases h
    · rename_i o n
      have hw : W o := hW o (by simp [MV.names2, MV.names])
      split at h
      · rename_i l b hl
        split at h
        · rename_i hc
          cases h
          refine ⟨_, _, _, fun st' ha => ⟨_, ?_, swapped (.byt (l ++ xs) b) hw⟩⟩
          rw [ha.W o hw] at hl
          simp only [appB, bytesOf_loc hF ha hxs, hl, if_pos hc]
        · cases h
      · cases h
    · cases h
theorem appE_loc {s w : Nat} {d x v : MV} {r : DS} (hF : ∀ o ∈ x.names2, F o) (hW : ∀ o ∈ d.names2, W o) (h : appE nm s w d x st = some (v, r)) :
    ∃ K b M, ∀ st', Agree F W st st' → ∃ st1', appE nm s w d x st' = some (v, st1') ∧ Eff F W nm K b M st' st1' := by
  unfold appE at h
  split at h
  · cases h
  · rename_i xs hxs
    split at h
    · split at h
      · rename_i hc
        cases h
        refine ⟨_, _, _, fun st' ha => ⟨_, ?_, (Quiet.refl F st').made (.el s xs false)⟩⟩
        simp only [appE, elemsOf_loc hF ha hxs, if_pos hc]
      · cases h
    · rename_i o n
      have hw : W o := hW o (by simp [MV.names2, MV.names])
      split at h
      · rename_i s' l b hl
        split at h
        · rename_i hc
          cases h
          refine ⟨_, _, _, fun st' ha => ⟨_, ?_, swapped (.el s (l ++ xs) b) hw⟩⟩
          rw [ha.W o hw] at hl
          simp only [appE, elemsOf_loc hF ha hxs, hl, if_pos hc]
        · cases h
      · cases h
    · cases h
theorem inst_loc (n : Nat) (v : MV) : ∃ (u : MV) (K : Nat → Bool) (M : Nat → Option Obj), (∀ o, K o = true → o = n) ∧ ∀ s : DS, (inst n v s).1 = u ∧ (inst n v s).2.T = s.T ∧ (inst n v s).2.V = s.V ∧ ∀ o, look (inst n v s).2.O o = if K o = true then M o else look s.O o := by
  have none : (∀ s, inst n v s = (v, s)) → ∃ (u : MV) (K : Nat → Bool) (M : Nat → Option Obj), (∀ o, K o = true → o = n) ∧ ∀ s : DS, (inst n v s).1 = u ∧ (inst n v s).2.T = s.T ∧ (inst n v s).2.V = s.V ∧ ∀ o, look (inst n v s).2.O o = if K o = true then M o else look s.O o :=
    fun h => ⟨v, fun _ => false, fun _ => Option.none, fun _ h => Bool.noConfusion h, fun s => by rw [h]; exact ⟨rfl, rfl, rfl, fun o => rfl⟩⟩
  cases v
  case fby l =>
    refine ⟨.own n l.length, fun o => decide (n = o), fun _ => some (.byt l false), fun o h => by simp at h; exact h.symm, fun s => ⟨rfl, rfl, rfl, fun o => ?_⟩⟩
    show look (put s.O n (.byt l false)) o = _
    rw [look_put]
    by_cases h : n = o <;> simp [h]
  case fel k l =>
    refine ⟨.own n l.length, fun o => decide (n = o), fun _ => some (.el k l false), fun o h => by simp at h; exact h.symm, fun s => ⟨rfl, rfl, rfl, fun o => ?_⟩⟩
    show look (put s.O n (.el k l false)) o = _
    rw [look_put]
    by_cases h : n = o <;> simp [h]
  all_goals exact none fun s => rfl
theorem insts_loc : ∀ (l : List MV) (n : Nat), ∃ (u : List MV) (K : Nat → Bool) (M : Nat → Option Obj), (∀ o, K o = true → n ≤ o ∧ o < n + l.length) ∧ ∀ s : DS, (insts n l s).1 = u ∧ (insts n l s).2.T = s.T ∧ (insts n l s).2.V = s.V ∧ ∀ o, look (insts n l s).2.O o = if K o = true then M o else look s.O o
  | [], n => ⟨[], fun _ => false, fun _ => none, fun _ h => Bool.noConfusion h, fun s => ⟨rfl, rfl, rfl, fun o => rfl⟩⟩
  | v :: l, n => by
    obtain ⟨u, K, M, h1, h2⟩ := inst_loc n v
    obtain ⟨us, K', M', h3, h4⟩ := insts_loc l (n + 1)
    refine ⟨u :: us, fun o => K' o || K o, fun o => if K' o = true then M' o else M o, fun o ho => ?_, fun s => ?_⟩
    · simp only [Bool.or_eq_true] at ho
      simp only [List.length_cons]
      rcases ho with ho | ho
      · have := h3 o ho; omega
      · have := h1 o ho; omega
    · obtain ⟨a1, a2, a3, a4⟩ := h2 s
      obtain ⟨b1, b2, b3, b4⟩ := h4 (inst n v s).2
      refine ⟨by simp only [insts]; rw [a1, b1], b2.trans a2, b3.trans a3, fun o => ?_⟩
      show look (insts (n + 1) l (inst n v s).2).2.O o = _
      rw [b4, a4]
      cases h5 : K' o <;> simp [h5]
theorem instR_loc (n : Nat) (v : MV) (hw : v.width ≤ 4) : ∃ (u : MV) (K : Nat → Bool) (M : Nat → Option Obj), (∀ o, K o = true → n ≤ o ∧ o < n + 4) ∧ ∀ s : DS, (instR n v s).1 = u ∧ (instR n v s).2.T = s.T ∧ (instR n v s).2.V = s.V ∧ ∀ o, look (instR n v s).2.O o = if K o = true then M o else look s.O o := by
  by_cases ht : ∃ l, v = .tup l
  · obtain ⟨l, rfl⟩ := ht
    obtain ⟨u, K, M, h1, h2⟩ := insts_loc l n
    have hw : l.length ≤ 4 := hw
    refine ⟨.tup u, K, M, fun o ho => by have := h1 o ho; omega, fun s => ?_⟩
    obtain ⟨a, b, c, d⟩ := h2 s
    exact ⟨by simp only [instR]; rw [a], b, c, d⟩
  · obtain ⟨u, K, M, h1, h2⟩ := inst_loc n v
    have e : ∀ s, instR n v s = inst n v s := fun s => by cases v <;> first | rfl | exact (ht ⟨_, rfl⟩).elim
    refine ⟨u, K, M, fun o ho => by have := h1 o ho; omega, fun s => ?_⟩
    rw [e]; exact h2 s
theorem dCall_loc {f : FuncId} {args : List MV} {r : DS} (hF : ∀ x ∈ args, ∀ o ∈ own1 x, F o) (h : dCall C nm f args st = some (v, r)) :
    ∃ K b M, ∀ st', Agree F W st st' → ∃ st1', dCall C nm f args st' = some (v, st1') ∧ Eff F W nm K b M st' st1' := by
  unfold dCall at h
  split at h
  · rename_i as st1 h1
    split at h
    · rename_i y hy
      split at h
      · rename_i hw
        obtain ⟨b, q, k⟩ := lends_loc hF h1
        obtain ⟨u, K, M, h2, h3⟩ := instR_loc nm y hw
        simp only [Option.some.injEq] at h
        have hu : u = v := by rw [← (h3 st1).1, h]
        refine ⟨K, b, M, fun st' ha => ?_⟩
        obtain ⟨s1, e1, p1⟩ := k W st' ha
        obtain ⟨a1, a2, a3, a4⟩ := h3 s1
        refine ⟨(instR nm y s1).2, ?_, ⟨fun o ho => .inl (h2 o ho), p1.bF, fun o => by rw [a4, p1.O], a2.trans p1.T, a3.trans p1.V⟩⟩
        simp only [dCall, e1, hy, if_pos hw]
        rw [← hu, ← a1]
      · cases h
    · cases h
  · cases h
theorem foot_names {x : X} (hx : x ∈ op.xs) {o : Nat} (ho : o ∈ (st.rd x).names2) : o ∈ foot op st :=
  List.mem_append_left _ (List.mem_flatMap.2 ⟨x, hx, ho⟩)
theorem foot_inner {x : X} (hx : x ∈ op.xs) {o : Nat} (ho : o ∈ (st.rd x).names2) {ob : Obj} (hob : look st.O o = some ob) {p : Nat} (hp : p ∈ ob.names) : p ∈ foot op st :=
  List.mem_append_right _ (List.mem_flatMap.2 ⟨o, List.mem_flatMap.2 ⟨x, hx, ho⟩, by rw [hob]; exact hp⟩)
set_option maxHeartbeats 1000000 in
theorem dOp_loc {r : DS} (h : dOp C nm op st = some (v, r)) : OpLoc C nm op (fun o => o ∈ foot op st) (fun o => o ∈ loud op st) st v := by
  have fn : ∀ {x : X}, x ∈ op.xs → ∀ o ∈ (st.rd x).names2, o ∈ foot op st := fun hx o ho => foot_names hx ho
  have f1 : ∀ {x : X}, x ∈ op.xs → ∀ o ∈ own1 (st.rd x), o ∈ foot op st := fun hx o ho => foot_names hx (own1_names2 ho)
  cases op with
  | mv x =>
    cases h
    exact .pure fun st' hr ha => by simp only [dOp, hr x (by simp [MOp.xs])]
  | pick c a b =>
    simp only [dOp] at h
    split at h
    · rename_i t ht
      cases h
      refine .pure fun st' hr ha => ?_
      simp only [dOp, hr c (by simp [MOp.xs]), hr a (by simp [MOp.xs]), hr b (by simp [MOp.xs]), ht]
    · cases h
  | box x =>
    simp only [dOp] at h
    split at h
    · rename_i hc
      cases h
      refine .new (ob := .cells (st.rd x).cells) fun st' hr ha => ?_
      simp only [dOp, hr x (by simp [MOp.xs]), if_pos hc]
    · cases h
  | alloc z =>
    cases h
    exact .new (ob := .cells z) fun st' hr ha => rfl
  | build z ps =>
    simp only [dOp] at h
    split at h
    · rename_i l st1 h1
      cases h
      obtain ⟨b, q, k⟩ := placeAll_loc (F := fun o => o ∈ foot (.build z ps) st) (fun p hp => f1 (by simp only [MOp.xs, List.mem_map]; exact ⟨p, hp, rfl⟩)) h1
      refine .lent q fun st' hr ha => ?_
      obtain ⟨s1, e1, p1⟩ := k _ st' hr ha
      exact ⟨s1, by simp only [dOp, e1], p1⟩
    · cases h
  | bslB n ps =>
    simp only [dOp] at h
    split at h
    · rename_i l h1
      cases h
      refine .new (ob := .byt l false) fun st' hr ha => ?_
      simp only [dOp, byteParts_loc (st := st) hr, h1]
    · cases h
  | bslE s z n ps =>
    simp only [dOp] at h
    split at h
    · rename_i l st1 h1
      cases h
      obtain ⟨b, q, k⟩ := elParts_loc (F := fun o => o ∈ foot (.bslE s z n ps) st) (fun p hp => f1 (by simp only [MOp.xs, List.mem_map]; exact ⟨p, hp, rfl⟩)) h1
      refine .lentNew (ob := .el s l false) q fun st' hr ha => ?_
      obtain ⟨s1, e1, p1⟩ := k _ st' hr ha
      exact ⟨s1, by simp only [dOp, e1], p1⟩
    · cases h
  | load g s x =>
    have hx : x ∈ (MOp.load g s x).xs := by simp [MOp.xs]
    obtain ⟨b, q, k⟩ := loadV_loc (F := fun o => o ∈ foot (.load g s x) st) (W := fun o => o ∈ loud (.load g s x) st) (fn hx) (fun o ho ob hob p hp => foot_inner hx ho hob hp) h
    refine .lent q fun st' hr ha => ?_
    obtain ⟨s1, e1, p1⟩ := k st' ha
    exact ⟨s1, by simp only [dOp, hr x hx, e1], p1⟩
  | store s x y =>
    have hx : x ∈ (MOp.store s x y).xs := by simp [MOp.xs]
    have hy : y ∈ (MOp.store s x y).xs := by simp [MOp.xs]
    obtain ⟨K, b, M, k⟩ := storeV_loc (nm := nm) (F := fun o => o ∈ foot (.store s x y) st) (W := fun o => o ∈ loud (.store s x y) st) (f1 hy) (fun o ho => ho) h
    refine ⟨K, b, M, fun st' hr ha => ?_⟩
    obtain ⟨s1, e1, p1⟩ := k st' ha
    exact ⟨s1, by simp only [dOp, hr x hx, hr y hy, e1], p1⟩
  | bin o x y =>
    simp only [dOp] at h
    split at h
    · rename_i r hr'
      cases h
      refine .pure fun st' hr ha => ?_
      simp only [dOp, hr x (by simp [MOp.xs]), hr y (by simp [MOp.xs]), hr']
    · cases h
  | eqs k n x y =>
    simp only [dOp] at h
    split at h
    · rename_i r hr'
      cases h
      refine .pure fun st' hr ha => ?_
      have hx : x ∈ (MOp.eqs k n x y).xs := by simp [MOp.xs]
      simp only [dOp, hr x hx, hr y (by simp [MOp.xs]), eqV_loc (fn hx) ha hr']
    · cases h
  | un o x =>
    simp only [dOp] at h
    split at h
    · rename_i r hr'
      cases h
      refine .pure fun st' hr ha => ?_
      simp only [dOp, hr x (by simp [MOp.xs]), hr']
    · cases h
  | conv k x =>
    simp only [dOp] at h
    split at h
    · rename_i q n hq
      cases h
      refine .pure fun st' hr ha => ?_
      simp only [dOp, hr x (by simp [MOp.xs]), hq]
    · cases h
  | same x =>
    simp only [dOp] at h
    split at h
    · rename_i q hq
      cases h
      refine .pure fun st' hr ha => ?_
      simp only [dOp, hr x (by simp [MOp.xs]), hq]
    · cases h
  | s2b x =>
    simp only [dOp] at h
    split at h
    · rename_i q hq
      cases h
      refine .new (ob := .byt q false) fun st' hr ha => ?_
      simp only [dOp, hr x (by simp [MOp.xs]), hq]
    · cases h
  | b2s x =>
    simp only [dOp] at h
    split at h
    · cases h
    · rename_i hne
      split at h
      · rename_i q hq
        cases h
        refine .pure fun st' hr ha => ?_
        have hx : x ∈ (MOp.b2s x).xs := by simp [MOp.xs]
        simp only [dOp, hr x hx, bytesOf_loc (fn hx) ha hq]
      · cases h
  | i2s x => cases h
  | bad => cases h
  | rng x =>
    simp only [dOp] at h
    split at h
    · rename_i q hq
      cases h
      refine .new (ob := .iter q 0) fun st' hr ha => ?_
      simp only [dOp, hr x (by simp [MOp.xs]), hq]
    · cases h
  | nilck x =>
    have hx : x ∈ (MOp.nilck x).xs := by simp [MOp.xs]
    simp only [dOp] at h
    split at h
    · rename_i q j hq
      split at h
      · rename_i hl
        cases h
        refine .pure fun st' hr ha => ?_
        have hl' : liveC q st' = true := (ha.liveC (fn hx q (by rw [hq]; simp [MV.names2, MV.names]))).trans hl
        simp only [dOp, hr x hx, hq, hl', if_true]
      · cases h
    · rename_i l hq
      cases h
      exact .pure fun st' hr ha => by simp only [dOp, hr x hx, hq]
    · rename_i f caps hq
      cases h
      exact .pure fun st' hr ha => by simp only [dOp, hr x hx, hq]
    · cases h
  | nxt x =>
    have hx : x ∈ (MOp.nxt x).xs := by simp [MOp.xs]
    simp only [dOp] at h
    split at h
    · rename_i q hq
      have hw : q ∈ loud (.nxt x) st := by simp [loud, hq, MV.names2, MV.names]
      split at h
      · rename_i s pos hl
        split at h
        · rename_i hp
          cases h
          refine ⟨fun p => decide (q = p), fun _ => false, fun _ => some (.iter s (pos + (Utf8.decode ⟨s.toArray⟩ pos).2)), fun st' hr ha => ?_⟩
          have hl' := hl
          rw [ha.W q hw] at hl'
          refine ⟨{ st' with O := put st'.O q (.iter s (pos + (Utf8.decode ⟨s.toArray⟩ pos).2)) }, by simp only [dOp, hr x hx, hq, hl', if_pos hp], ?_⟩
          refine ⟨fun p hp => ?_, fun _ h => Bool.noConfusion h, fun p => ?_, rfl, rfl⟩
          · simp at hp; subst hp; exact .inr hw
          · show look (put st'.O q _) p = _
            rw [look_put]
            by_cases ho : q = p
            · simp [ho]
            · simp [ho, lentIf]
        · rename_i hp
          cases h
          refine .pure fun st' hr ha => ?_
          have hl' := hl
          rw [ha.W q hw] at hl'
          simp only [dOp, hr x hx, hq, hl', if_neg hp]
      · cases h
    · cases h
  | mark x =>
    simp only [dOp] at h
    split at h
    · rename_i p n hp
      split at h
      · rename_i l bb hl
        split at h
        · rename_i hc
          cases h
          refine .pure fun st' hr ha => ?_
          have hx : x ∈ (MOp.mark x).xs := by simp [MOp.xs]
          obtain ⟨b', hl'⟩ := ha.byt (fn hx p (by rw [hp]; simp [MV.names2, MV.names])) hl
          simp only [dOp, hr x hx, hp, hl', if_pos hc]
        · cases h
      · cases h
    · cases h
  | fad off x =>
    simp only [dOp] at h
    split at h
    · rename_i r hr'
      cases h
      refine .pure fun st' hr ha => ?_
      have hx : x ∈ (MOp.fad off x).xs := by simp [MOp.xs]
      have := offV_loc (fn hx) ha hr'
      simp only [dOp, hr x hx, fieldV, this]
    · cases h
  | fld g off s x =>
    simp only [dOp] at h
    split at h
    · rename_i l hl
      split at h
      · rename_i r hr'
        cases h
        refine .pure fun st' hr ha => ?_
        simp only [dOp, hr x (by simp [MOp.xs]), hl, hr']
      · cases h
    · cases h
  | iad s x i =>
    simp only [dOp] at h
    split at h
    · rename_i r hr'
      cases h
      refine .pure fun st' hr ha => ?_
      have hx : x ∈ (MOp.iad s x i).xs := by simp [MOp.xs]
      simp only [dOp, hr x hx, hr i (by simp [MOp.xs]), indexV_loc (fn hx) ha hr']
    · cases h
  | aad s n x i =>
    simp only [dOp] at h
    split at h
    · rename_i r hr'
      cases h
      refine .pure fun st' hr ha => ?_
      have hx : x ∈ (MOp.aad s n x i).xs := by simp [MOp.xs]
      simp only [dOp, hr x hx, hr i (by simp [MOp.xs]), aindexV_loc (fn hx) ha hr']
    · cases h
  | idxS x i =>
    simp only [dOp] at h
    split at h
    · rename_i l k n hl hk
      split at h
      · rename_i hc
        cases h
        refine .pure fun st' hr ha => ?_
        simp only [dOp, hr x (by simp [MOp.xs]), hr i (by simp [MOp.xs]), hl, hk, if_pos hc]
      · cases h
    · cases h
  | idxA g s n x i =>
    simp only [dOp] at h
    split at h
    · rename_i l k m hl hk
      split at h
      · rename_i hc
        split at h
        · rename_i r hr'
          cases h
          refine .pure fun st' hr ha => ?_
          simp only [dOp, hr x (by simp [MOp.xs]), hr i (by simp [MOp.xs]), hl, hk, if_pos hc, hr']
        · cases h
      · cases h
    · cases h
  | slc g s x lo hi =>
    have hx : x ∈ (MOp.slc g s x lo hi).xs := by simp [MOp.xs]
    obtain ⟨b, q, k⟩ := sliceV_loc (F := fun o => o ∈ foot (.slc g s x lo hi) st) (W := fun o => o ∈ loud (.slc g s x lo hi) st) (fn hx) h
    refine .lent q fun st' hr ha => ?_
    obtain ⟨s1, e1, p1⟩ := k st' ha
    have h1 : lo.map st'.rd = lo.map st.rd := by
      cases lo with
      | none => rfl
      | some y => exact congrArg some (hr y (by simp [MOp.xs, optX]))
    have h2 : hi.map st'.rd = hi.map st.rd := by
      cases hi with
      | none => rfl
      | some y => exact congrArg some (hr y (by simp [MOp.xs, optX]))
    exact ⟨s1, by simp only [dOp, hr x hx, h1, h2, e1], p1⟩
  | ext i x =>
    simp only [dOp] at h
    split at h
    · rename_i l hl
      split at h
      · rename_i r hr'
        cases h
        refine .pure fun st' hr ha => ?_
        simp only [dOp, hr x (by simp [MOp.xs]), hl, hr']
      · cases h
    · cases h
  | call f args =>
    obtain ⟨K, b, M, k⟩ := dCall_loc (F := fun o => o ∈ foot (.call f args) st) (W := fun o => o ∈ loud (.call f args) st) (fun x hx => by
      obtain ⟨y, hy, rfl⟩ := List.mem_map.1 hx
      exact f1 (by simpa [MOp.xs] using hy)) h
    refine ⟨K, b, M, fun st' hr ha => ?_⟩
    obtain ⟨s1, e1, p1⟩ := k st' ha
    have : args.map st'.rd = args.map st.rd := List.map_congr_left fun y hy => hr y (by simpa [MOp.xs] using hy)
    exact ⟨s1, by simp only [dOp, this, e1], p1⟩
  | callv f args =>
    simp only [dOp] at h
    split at h
    · rename_i g caps hg
      have hf : f ∈ (MOp.callv f args).xs := by simp [MOp.xs]
      obtain ⟨K, b, M, k⟩ := dCall_loc (F := fun o => o ∈ foot (.callv f args) st) (W := fun o => o ∈ loud (.callv f args) st) (fun x hx => by
        rcases List.mem_append.1 hx with hx | hx
        · obtain ⟨y, hy, rfl⟩ := List.mem_map.1 hx
          exact f1 (by simp [MOp.xs, hy])
        · intro o ho
          refine fn hf o ?_
          rw [hg]
          simp only [MV.names2, MV.names, List.mem_flatMap]
          refine ⟨x, hx, ?_⟩
          cases x <;> simp [own1] at ho
          simp [ho]) h
      refine ⟨K, b, M, fun st' hr ha => ?_⟩
      obtain ⟨s1, e1, p1⟩ := k st' ha
      have : args.map st'.rd = args.map st.rd := List.map_congr_left fun y hy => hr y (by simp [MOp.xs, hy])
      exact ⟨s1, by simp only [dOp, hr f hf, hg, this, e1], p1⟩
    · cases h
  | len b x =>
    simp only [dOp] at h
    split at h
    · rename_i r hr'
      cases h
      refine .pure fun st' hr ha => ?_
      have hx : x ∈ (MOp.len b x).xs := by simp [MOp.xs]
      simp only [dOp, hr x hx, lenV_loc (fn hx) ha hr']
    · cases h
  | app g s w d x =>
    have hd : d ∈ (MOp.app g s w d x).xs := by simp [MOp.xs]
    have hx : x ∈ (MOp.app g s w d x).xs := by simp [MOp.xs]
    simp only [dOp] at h
    split at h
    · rename_i hg
      obtain ⟨K, b, M, k⟩ := appB_loc (F := fun o => o ∈ foot (.app g s w d x) st) (W := fun o => o ∈ loud (.app g s w d x) st) (fn hx) (fun o ho => ho) h
      refine ⟨K, b, M, fun st' hr ha => ?_⟩
      obtain ⟨s1, e1, p1⟩ := k st' ha
      exact ⟨s1, by simp only [dOp, hr d hd, hr x hx, if_pos hg, e1], p1⟩
    · rename_i hg
      obtain ⟨K, b, M, k⟩ := appE_loc (F := fun o => o ∈ foot (.app g s w d x) st) (W := fun o => o ∈ loud (.app g s w d x) st) (fn hx) (fun o ho => ho) h
      refine ⟨K, b, M, fun st' hr ha => ?_⟩
      obtain ⟨s1, e1, p1⟩ := k st' ha
      exact ⟨s1, by simp only [dOp, hr d hd, hr x hx, if_neg hg, e1], p1⟩
  | mkfn f caps =>
    cases h
    refine .pure fun st' hr ha => ?_
    have : caps.map st'.rd = caps.map st.rd := List.map_congr_left fun y hy => hr y (by simpa [MOp.xs] using hy)
    simp only [dOp, this]
  | mkif t x =>
    simp only [dOp] at h
    split at h
    · rename_i u st1 h1
      cases h
      have hx : x ∈ (MOp.mkif t x).xs := by simp [MOp.xs]
      obtain ⟨b, q, k⟩ := lend_loc (F := fun o => o ∈ foot (.mkif t x) st) (f1 hx) h1
      refine .lent q fun st' hr ha => ?_
      obtain ⟨s1, e1, p1⟩ := k _ st' ha
      exact ⟨s1, by simp only [dOp, hr x hx, e1], p1⟩
    · cases h
  | mksB n c =>
    simp only [dOp] at h
    split at h
    · rename_i k p k' q hp hq
      split at h
      · rename_i hc
        cases h
        refine .new (ob := .byt (List.replicate p.toNat 0) false) fun st' hr ha => ?_
        simp only [dOp, hr n (by simp [MOp.xs]), hr c (by simp [MOp.xs]), hp, hq, if_pos hc]
      · cases h
    · cases h
  | mksE s w z n c =>
    simp only [dOp] at h
    split at h
    · rename_i k p k' q hp hq
      split at h
      · rename_i hc
        cases h
        refine .new (ob := .el s (List.replicate p.toNat z) false) fun st' hr ha => ?_
        simp only [dOp, hr n (by simp [MOp.xs]), hr c (by simp [MOp.xs]), hp, hq, if_pos hc]
      · cases h
    · cases h
  | minmax mx xs =>
    simp only [dOp] at h
    split at h
    · cases h
    · rename_i x r
      split at h
      · rename_i u hu
        cases h
        refine .pure fun st' hr ha => ?_
        have : RdEq r st st' := fun y hy => hr y (by simp [MOp.xs, hy])
        simp only [dOp, hr x (by simp [MOp.xs]), foldMM_loc this, hu]
      · cases h
  | copyB d s => cases h
theorem dOper_loc {o : MOper} {r : DS} (h : dOper C nm o st = some r) : ∃ v K b M, ∀ st', RdEq o.reads st st' → Agree (fun p => p ∈ foot o.op st) (fun p => p ∈ loud o.op st) st st' →
    ∃ s1, dOper C nm o st' = some (s1.wr o.dst v) ∧ Eff (fun p => p ∈ foot o.op st) (fun p => p ∈ loud o.op st) nm K b M st' s1 := by
  have hreads : ∀ {st'}, RdEq o.reads st st' → RdEq o.op.xs st st' ∧ wanted o st' = wanted o st := by
    intro st' hr
    unfold MOper.reads at hr
    unfold wanted
    cases hg : o.guard with
    | none => rw [hg] at hr; exact ⟨hr, rfl⟩
    | some g =>
      obtain ⟨x, w⟩ := g
      rw [hg] at hr
      refine ⟨fun y hy => hr y (by simp [hy]), ?_⟩
      simp only [hr x (by simp)]
  unfold dOper at h
  split at h
  · rename_i hw
    split at h
    · rename_i v s1 h1
      obtain ⟨K, b, M, k⟩ := dOp_loc h1
      refine ⟨v, K, b, M, fun st' hr ha => ?_⟩
      obtain ⟨hr1, hr2⟩ := hreads hr
      obtain ⟨s2, e2, f2⟩ := k st' hr1 ha
      exact ⟨s2, by simp only [dOper, hr2, hw, e2], f2⟩
    · cases h
  · rename_i hw
    refine ⟨.tup [], _, _, _, fun st' hr ha => ⟨st', ?_, (Quiet.refl _ st').eff⟩⟩
    simp only [dOper, (hreads hr).2, hw]
  · cases h
end
end Go.Mini
/- Mini: regions that draw their order. -/
namespace Go.Mini
open Go Go.RowKit
structure Like (s s' : DS) : Prop where
  V : ∀ n, look s.V n = look s'.V n
  T : ∀ n, look s.T n = look s'.T n
  O : ∀ n, look s.O n = look s'.O n
theorem Like.refl (s : DS) : Like s s := ⟨fun _ => rfl, fun _ => rfl, fun _ => rfl⟩
theorem Like.symm {s s' : DS} (h : Like s s') : Like s' s := ⟨fun n => (h.V n).symm, fun n => (h.T n).symm, fun n => (h.O n).symm⟩
theorem Like.trans {a b c : DS} (h : Like a b) (k : Like b c) : Like a c := ⟨fun n => (h.V n).trans (k.V n), fun n => (h.T n).trans (k.T n), fun n => (h.O n).trans (k.O n)⟩
theorem Like.rd {s s' : DS} (h : Like s s') (x : X) : s'.rd x = s.rd x := by
  cases x <;> simp [DS.rd, h.T, h.V]
theorem Inv.like {own tm E st tmps} (h : Inv own tm E st tmps) {st' : DS} (l : Like st st') : Inv own tm E st' tmps where
  len o := by rw [h.len, l.O]
  objs o x hx := h.objs o x (by rw [l.O]; exact hx)
  sep o o' b h1 h2 := h.sep o o' b (by rw [l.O]; exact h1) (by rw [l.O]; exact h2)
  ownb o b h1 := h.ownb o b (by rw [l.O]; exact h1)
  good := h.good
  born o h1 := h.born o (by rw [l.O]; exact h1)
  base := h.base
  T n v hn := h.T n v (by rw [l.T]; exact hn)
  V n v hn := h.V n v (by rw [l.V]; exact hn)
structure Rec (C : CallT) (nm : Nat) (o : MOper) where
  on : Bool
  r : DS
  v : MV
  K : Nat → Bool
  b : Nat → Bool
  M : Nat → Option Obj
  run : on = true → ∀ st', RdEq o.reads r st' → Agree (fun p => p ∈ foot o.op r) (fun p => p ∈ loud o.op r) r st' →
    ∃ s1, dOper C nm o st' = some (s1.wr o.dst v) ∧ Eff (fun p => p ∈ foot o.op r) (fun p => p ∈ loud o.op r) nm K b M st' s1
section
variable {C : CallT} {nm nm' : Nat} {o o' : MOper}
def Rec.At (R : Rec C nm o) (s : DS) : Prop := R.on = true ∧ RdEq o.reads R.r s ∧ Agree (fun p => p ∈ foot o.op R.r) (fun p => p ∈ loud o.op R.r) R.r s
structure Rec.To (R : Rec C nm o) (s s1 : DS) : Prop where
  O : ∀ p, look s1.O p = if R.K p = true then R.M p else lentIf (R.b p) (look s.O p)
  V : ∀ n, look s1.V n = look (s.wr o.dst R.v).V n
  T : ∀ n, look s1.T n = look (s.wr o.dst R.v).T n
def Rec.mark (R : Rec C nm o) (i : Nat) : Mark := ⟨i, nm, o.reads, o.dst, foot o.op R.r, loud o.op R.r⟩
theorem wr_O (s : DS) (d : Option X) (v : MV) : (s.wr d v).O = s.O := by
  cases d with
  | none => rfl
  | some x => cases x <;> rfl
theorem wr_like {s s' : DS} (hT : ∀ n, look s.T n = look s'.T n) (hV : ∀ n, look s.V n = look s'.V n) (d : Option X) (v : MV) :
    (∀ n, look (s.wr d v).T n = look (s'.wr d v).T n) ∧ ∀ n, look (s.wr d v).V n = look (s'.wr d v).V n := by
  cases d with
  | none => exact ⟨hT, hV⟩
  | some x =>
    cases x with
    | t k => exact ⟨fun n => by show look (put s.T k v) n = look (put s'.T k v) n; rw [look_put, look_put, hT], hV⟩
    | v k => exact ⟨hT, fun n => by show look (put s.V k v) n = look (put s'.V k v) n; rw [look_put, look_put, hV]⟩
    | c x => exact ⟨hT, hV⟩
theorem Rec.step (R : Rec C nm o) {s : DS} (h : R.At s) : ∃ s1, dOper C nm o s = some s1 ∧ R.To s s1 ∧ (∀ p, R.K p = true → (nm ≤ p ∧ p < nm + 4) ∨ p ∈ loud o.op R.r) ∧ ∀ p, R.b p = true → p ∈ foot o.op R.r := by
  obtain ⟨s1, e, f⟩ := R.run h.1 s h.2.1 h.2.2
  refine ⟨_, e, ⟨fun p => by rw [wr_O]; exact f.O p, ?_, ?_⟩, f.KF, f.bF⟩
  · exact (wr_like (fun n => by rw [f.T]) (fun n => by rw [f.V]) o.dst R.v).2
  · exact (wr_like (fun n => by rw [f.T]) (fun n => by rw [f.V]) o.dst R.v).1
theorem Rec.At.like {R : Rec C nm o} {s s' : DS} (h : R.At s) (l : Like s s') : R.At s' :=
  ⟨h.1, fun x hx => (l.rd x).trans (h.2.1 x hx), ⟨fun p hp => by rw [← l.O]; exact h.2.2.F p hp, fun p hp => by rw [← l.O]; exact h.2.2.W p hp⟩⟩
theorem Rec.To.like {R : Rec C nm o} {s s' s1 s1' : DS} (h : R.To s s1) (l : Like s s') (l1 : Like s1 s1') : R.To s' s1' := by
  obtain ⟨a, b⟩ := wr_like l.T l.V o.dst R.v
  exact ⟨fun p => by rw [← l1.O, h.O, l.O], fun n => by rw [← l1.V, h.V, b], fun n => by rw [← l1.T, h.T, a]⟩
theorem Rec.To.det {R : Rec C nm o} {s s1 s1' : DS} (h : R.To s s1) (k : R.To s s1') : Like s1 s1' :=
  ⟨fun n => by rw [h.V, k.V], fun n => by rw [h.T, k.T], fun p => by rw [h.O, k.O]⟩
theorem sameX_ne {x y : X} (h : sameX x y = false) (s : DS) (v : MV) : (s.wr (some x) v).rd y = s.rd y := by
  cases x <;> cases y <;> simp only [sameX, decide_eq_false_iff_not] at h <;> simp [DS.wr, DS.rd, look_put, h]
theorem noX_rd {d : Option X} {l : List X} (h : noX d l = true) (s : DS) (v : MV) {y : X} (hy : y ∈ l) : (s.wr d v).rd y = s.rd y := by
  cases d with
  | none => rfl
  | some x =>
    simp only [noX, List.all_eq_true, Bool.not_eq_true'] at h
    exact sameX_ne (h y hy) s v
theorem rd_like {s s' : DS} (hT : ∀ n, look s.T n = look s'.T n) (hV : ∀ n, look s.V n = look s'.V n) (x : X) : s.rd x = s'.rd x := by
  cases x <;> simp [DS.rd, hT, hV]
theorem apart_at {A : Rec C nm o} {B : Rec C nm' o'} {i j : Nat} (h : ((A.mark i).apart1 (B.mark j)) = true) {s s1 : DS} (t : A.To s s1)
    (hK : ∀ p, A.K p = true → (nm ≤ p ∧ p < nm + 4) ∨ p ∈ loud o.op A.r) (hb : ∀ p, A.b p = true → p ∈ foot o.op A.r) (hW : ∀ p ∈ foot o.op A.r, p ∉ loud o'.op B.r) (hWF : ∀ p ∈ loud o'.op B.r, p ∈ foot o'.op B.r) : B.At s1 ↔ B.At s := by
  simp only [Mark.apart1, Rec.mark, Bool.and_eq_true, List.all_eq_true, Bool.not_eq_true', Bool.and_eq_false_iff, decide_eq_false_iff_not] at h
  obtain ⟨h1, h2⟩ := h
  have hn : ∀ p ∈ foot o'.op B.r, A.K p = false := by
    intro p hp
    obtain ⟨a, b⟩ := h2 p hp
    cases hk : A.K p with
    | false => rfl
    | true =>
      rcases hK p hk with hk | hk
      · rcases a with a | a
        · exact (of_decide_eq_false a hk.1).elim
        · exact (of_decide_eq_false a hk.2).elim
      · rw [← has_iff] at hk; rw [hk] at b; cases b
  have hrd : ∀ x ∈ o'.reads, s1.rd x = s.rd x := by
    intro x hx
    rw [rd_like (s' := s.wr o.dst A.v) t.T t.V]
    exact noX_rd h1 s A.v (List.mem_append_left _ hx)
  have hF : ∀ p ∈ foot o'.op B.r, (look s1.O p).map unfl = (look s.O p).map unfl := by
    intro p hp
    rw [t.O, hn p hp]
    simp [unfl_lentIf]
  have hWW : ∀ p ∈ loud o'.op B.r, look s1.O p = look s.O p := by
    intro p hp
    rw [t.O, hn p (hWF p hp)]
    have : A.b p = false := by
      cases hbp : A.b p with
      | false => rfl
      | true => exact (hW p (hb p hbp) hp).elim
    simp [this, lentIf]
  constructor
  · rintro ⟨on, a, b⟩
    exact ⟨on, fun x hx => (hrd x hx).symm.trans (a x hx), ⟨fun p hp => (b.F p hp).trans (hF p hp), fun p hp => (b.W p hp).trans (hWW p hp)⟩⟩
  · rintro ⟨on, a, b⟩
    exact ⟨on, fun x hx => (hrd x hx).trans (a x hx), ⟨fun p hp => (b.F p hp).trans (hF p hp).symm, fun p hp => (b.W p hp).trans (hWW p hp).symm⟩⟩
theorem wr_comm {d d' : Option X} (h : noX d (optX d') = true) (s : DS) (v v' : MV) (n : Nat) :
    look ((s.wr d v).wr d' v').V n = look ((s.wr d' v').wr d v).V n ∧ look ((s.wr d v).wr d' v').T n = look ((s.wr d' v').wr d v).T n := by
  cases d with
  | none => exact ⟨rfl, rfl⟩
  | some x =>
    cases d' with
    | none => exact ⟨rfl, rfl⟩
    | some y =>
      simp only [noX, optX, List.all_cons, List.all_nil, Bool.and_true, Bool.not_eq_true'] at h
      cases x <;> cases y <;> simp only [sameX, decide_eq_false_iff_not] at h <;> simp only [DS.wr, look_put, true_and, and_true]
      · split <;> split <;> first | rfl | (rename_i a b; exact (h (b.trans a.symm)).elim)
      · split <;> split <;> first | rfl | (rename_i a b; exact (h (b.trans a.symm)).elim)
end
theorem loud_foot (o : MOp) (st : DS) : ∀ p ∈ loud o st, p ∈ foot o st := by
  intro p hp
  cases o <;> simp only [loud, List.not_mem_nil] at hp
  all_goals exact foot_names (by simp [MOp.xs]) hp
theorem swap {C : CallT} {nm nm' : Nat} {o o' : MOper} {A : Rec C nm o} {B : Rec C nm' o'} {i j : Nat} (hd : nm + 4 ≤ nm' ∨ nm' + 4 ≤ nm) (h : (A.mark i).apart (B.mark j) = true) {s s1 s2 : DS} (hA : A.At s) (tA : A.To s s1) (hB : B.At s1) (tB : B.To s1 s2) :
    B.At s ∧ ∃ t1, dOper C nm' o' s = some t1 ∧ B.To s t1 ∧ A.At t1 ∧ A.To t1 s2 := by
  simp only [Mark.apart, Bool.and_eq_true] at h
  obtain ⟨hab, hba⟩ := h
  obtain ⟨sa, ea, ta, KA, bA⟩ := A.step hA
  obtain ⟨sb, eb, tb, KB, bB⟩ := B.step hB
  have wAB : ∀ p ∈ foot o.op A.r, p ∉ loud o'.op B.r := by
    intro p hp hq
    simp only [Mark.apart1, Rec.mark, Bool.and_eq_true, List.all_eq_true, Bool.not_eq_true'] at hba
    have := (hba.2 p hp).2
    rw [has_iff.2 hq] at this; cases this
  have wBA : ∀ p ∈ foot o'.op B.r, p ∉ loud o.op A.r := by
    intro p hp hq
    simp only [Mark.apart1, Rec.mark, Bool.and_eq_true, List.all_eq_true, Bool.not_eq_true'] at hab
    have := (hab.2 p hp).2
    rw [has_iff.2 hq] at this; cases this
  have hBs : B.At s := (apart_at hab tA KA bA wAB (loud_foot _ _)).1 hB
  obtain ⟨t1, e1, f1, _, _⟩ := B.step hBs
  have hAt : A.At t1 := (apart_at hba f1 KB bB wBA (loud_foot _ _)).2 hA
  refine ⟨hBs, t1, e1, f1, hAt, ⟨fun p => ?_, fun n => ?_, fun n => ?_⟩⟩
  · -- objects
    rw [tB.O, tA.O, f1.O]
    have nf : ∀ {nm nm' : Nat} {o o' : MOper} {A : Rec C nm o} {B : Rec C nm' o'} {i j : Nat}, (A.mark i).apart1 (B.mark j) = true → (∀ p, A.K p = true → (nm ≤ p ∧ p < nm + 4) ∨ p ∈ loud o.op A.r) → ∀ p ∈ foot o'.op B.r, A.K p = false := by
      intro nm nm' o o' A B i j h hK p hp
      simp only [Mark.apart1, Rec.mark, Bool.and_eq_true, List.all_eq_true, Bool.not_eq_true', Bool.and_eq_false_iff, decide_eq_false_iff_not] at h
      obtain ⟨a, b⟩ := h.2 p hp
      cases hk : A.K p with
      | false => rfl
      | true =>
        rcases hK p hk with hk | hk
        · rcases a with a | a
          · exact (of_decide_eq_false a hk.1).elim
          · exact (of_decide_eq_false a hk.2).elim
        · rw [← has_iff] at hk; rw [hk] at b; cases b
    have a1 := nf hab KA p
    have a2 := nf hba KB p
    cases hka : A.K p with
    | true =>
      have hbf : B.b p = false := by
        cases hbp : B.b p with
        | false => rfl
        | true => have := a1 (bB p hbp); rw [hka] at this; cases this
      cases hkb : B.K p with
      | true =>
        rcases KA p hka with h1 | h1
        · rcases KB p hkb with h2 | h2
          · omega
          · have := a1 (loud_foot _ _ p h2); rw [hka] at this; cases this
        · have := a2 (loud_foot _ _ p h1); rw [hkb] at this; cases this
      | false => simp [hbf, lentIf]
    | false =>
      cases hkb : B.K p with
      | true =>
        have haf : A.b p = false := by
          cases hbp : A.b p with
          | false => rfl
          | true => have := a2 (bA p hbp); rw [hkb] at this; cases this
        simp [haf, lentIf]
      | false => simp [lentIf_comm]
  · have hx : noX o.dst (optX o'.dst) = true := by
      simp only [Mark.apart1, Rec.mark, Bool.and_eq_true] at hab
      cases hd : o.dst with
      | none => rfl
      | some x =>
        have := hab.1
        rw [hd] at this
        simp only [noX, List.all_append, Bool.and_eq_true] at this
        exact this.2
    rw [tB.V, (wr_like tA.T tA.V o'.dst B.v).2, (wr_comm hx s A.v B.v n).1, ← (wr_like f1.T f1.V o.dst A.v).2]
  · have hx : noX o.dst (optX o'.dst) = true := by
      simp only [Mark.apart1, Rec.mark, Bool.and_eq_true] at hab
      cases hd : o.dst with
      | none => rfl
      | some x =>
        have := hab.1
        rw [hd] at this
        simp only [noX, List.all_append, Bool.and_eq_true] at this
        exact this.2
    rw [tB.T, (wr_like tA.T tA.V o'.dst B.v).1, (wr_comm hx s A.v B.v n).2, ← (wr_like f1.T f1.V o.dst A.v).1]
inductive Chain {C : CallT} {nx : Nat} {ms : Nat → MOper} (R : ∀ i, Rec C (nx + 4 * i) (ms i)) : List Nat → DS → DS → Prop
  | nil {s s'} (h : Like s s') : Chain R [] s s'
  | cons {i l s s1 s'} (ha : (R i).At s) (ht : (R i).To s s1) (h : Chain R l s1 s') : Chain R (i :: l) s s'
section
variable {C : CallT} {nx : Nat} {ms : Nat → MOper} {R : ∀ i, Rec C (nx + 4 * i) (ms i)}
theorem Chain.like {l : List Nat} {s t s' : DS} (h : Chain R l s s') (k : Like s t) : Chain R l t s' := by
  cases h with
  | nil h => exact .nil (k.symm.trans h)
  | cons ha ht h => exact .cons (ha.like k) (ht.like k (Like.refl _)) h
theorem Chain.pull {i : Nat} : ∀ {l1 : List Nat} {l2 : List Nat} {s s' : DS}, Chain R (l1 ++ i :: l2) s s' → (∀ k ∈ l1, k ≠ i ∧ ((R k).mark k).apart ((R i).mark i) = true) →
    (R i).At s ∧ ∃ s1, (R i).To s s1 ∧ Chain R (l1 ++ l2) s1 s'
  | [], l2, s, s', h, _ => by
    cases h with
    | cons ha ht h => exact ⟨ha, _, ht, h⟩
  | k :: l1, l2, s, s', h, hk => by
    cases h with
    | cons ha ht h =>
      obtain ⟨hi, s2, hti, hc⟩ := Chain.pull h (fun j hj => hk j (by simp [hj]))
      obtain ⟨hne, hap⟩ := hk k (by simp)
      obtain ⟨h1, t1, _, h3, h4, h5⟩ := swap (by omega) hap ha ht hi hti
      exact ⟨h1, t1, h3, .cons h4 h5 hc⟩
end
end Go.Mini
/- Mini: regions that draw their order: any order. -/
namespace Go.Mini
open Go Go.RowKit
section
variable {C : CallT} {nx : Nat} {ms : Nat → MOper}
theorem Chain.congr {R R' : ∀ i, Rec C (nx + 4 * i) (ms i)} : ∀ {l : List Nat} {s s' : DS}, (∀ i ∈ l, R' i = R i) → Chain R l s s' → Chain R' l s s'
  | [], s, s', _, h => by
    cases h with
    | nil h => exact .nil h
  | i :: l, s, s', hR, h => by
    cases h with
    | cons ha ht h => exact .cons (by rw [hR i (by simp)]; exact ha) (by rw [hR i (by simp)]; exact ht) (Chain.congr (fun j hj => hR j (by simp [hj])) h)
def Rec.none (nm : Nat) (o : MOper) : Rec C nm o := ⟨false, ⟨[], [], [], 0⟩, .undef, fun _ => false, fun _ => false, fun _ => .none, fun h => Bool.noConfusion h⟩
theorem draw_chain {pre : Nat → List Nat} : ∀ {ops : List MOper} {i : Nat} {marks : List Mark} {st st' : DS}, (∀ j, ops[j]? = none ∨ ops[j]? = some (ms (i + j))) → dDraw C pre i (nx + 4 * i) marks ops st = some st' →
    ∃ R : ∀ i, Rec C (nx + 4 * i) (ms i), Chain R (List.range' i ops.length) st st' ∧ (∀ j ∈ List.range' i ops.length, ∀ m ∈ marks, has (pre j) m.i = true ∨ m.apart ((R j).mark j) = true) ∧
      ∀ j ∈ List.range' i ops.length, ∀ k ∈ List.range' i ops.length, j < k → has (pre k) j = true ∨ ((R j).mark j).apart ((R k).mark k) = true
  | [], i, marks, st, st', _, h => by
    simp only [dDraw, Option.some.injEq] at h
    subst h
    exact ⟨fun i => Rec.none _ _, .nil (Like.refl _), by simp, by simp⟩
  | o :: ops, i, marks, st, st', hms, h => by
    have ho : o = ms i := by
      rcases hms 0 with h | h
      · simp at h
      · simpa using h
    subst ho
    simp only [dDraw] at h
    split at h
    · rename_i hall
      split at h
      · rename_i st1 h1
        obtain ⟨v, K, b, M, run⟩ := dOper_loc h1
        let Ri : Rec C (nx + 4 * i) (ms i) := ⟨true, st, v, K, b, M, fun _ => run⟩
        have hat : Ri.At st := ⟨rfl, fun _ _ => rfl, ⟨fun _ _ => rfl, fun _ _ => rfl⟩⟩
        obtain ⟨s1, e1, t1, _, _⟩ := Ri.step hat
        obtain rfl : s1 = st1 := Option.some.inj (e1.symm.trans h1)
        obtain ⟨R', c1, c2, c3⟩ := draw_chain (ops := ops) (i := i + 1) (fun j => by
          rcases hms (j + 1) with h | h
          · exact .inl (by simpa using h)
          · exact .inr (by simpa [Nat.add_assoc, Nat.add_comm 1 j] using h)) (show dDraw C pre (i + 1) (nx + 4 * (i + 1)) _ ops s1 = some st' from h)
        refine ⟨fun j => if hj : j = i then hj ▸ Ri else R' j, ?_, ?_, ?_⟩
        · rw [List.length_cons, List.range'_succ]
          refine .cons (s1 := s1) ?_ ?_ (Chain.congr (fun j hj => ?_) c1)
          · simp only [dif_pos]; exact hat
          · simp only [dif_pos]; exact t1
          · have : j ≠ i := by have := List.mem_range'_1.1 hj; omega
            simp only [dif_neg this]
        · intro j hj m hm
          rw [List.length_cons, List.range'_succ] at hj
          rcases List.mem_cons.1 hj with rfl | hj
          · simp only [dif_pos]
            have := List.all_eq_true.1 hall m hm
            rw [Bool.or_eq_true] at this
            exact this
          · have : j ≠ i := by have := List.mem_range'_1.1 hj; omega
            simp only [dif_neg this]
            exact c2 j hj m (by simp [hm])
        · intro j hj k hk hjk
          rw [List.length_cons, List.range'_succ] at hj hk
          rcases List.mem_cons.1 hk with rfl | hk
          · rcases List.mem_cons.1 hj with rfl | hj
            · omega
            · have := List.mem_range'_1.1 hj; omega
          · have hki : k ≠ i := by have := List.mem_range'_1.1 hk; omega
            rcases List.mem_cons.1 hj with rfl | hj
            · simp only [dif_pos, dif_neg hki]
              exact c2 k hk (Ri.mark j) (by simp [Ri, Rec.mark])
            · have hji : j ≠ i := by have := List.mem_range'_1.1 hj; omega
              simp only [dif_neg hji, dif_neg hki]
              exact c3 j hj k hk hjk
      · cases h
    · cases h
end
section
variable {P : Program} {own : Nat → Prop} {tm : Nat → Bool} {nt : Nat} {ops : Array Oper} {C : CallT} {nx : Nat} {ml : List MOper} {pre : List (List Nat)}
theorem preOKs_get : ∀ {l : List Oper} {i : Nat}, preOKs pre i l = true → ∀ j o, l[j]? = some o → preOK1 pre (i + j) o = true
  | [], i, _, j, o, ho => by simp at ho
  | a :: l, i, h, j, o, ho => by
    simp only [preOKs, Bool.and_eq_true] at h
    cases j with
    | zero => simp at ho; subst ho; exact h.1
    | succ j =>
      have := preOKs_get h.2 j o (by simpa using ho)
      rw [show i + (j + 1) = i + 1 + j by omega]
      exact this
theorem any_ok {Gd : Ground} (hC : COK P Gd C) (ht : trOpers P tm nt ops ops.toList = some ml) (hp : preOKs pre 0 ops.toList = true) {R : ∀ i, Rec C (nx + 4 * i) ((ml[i]?).getD default)}
    (hR : ∀ j < ops.size, ∀ k < ops.size, j < k → has (preOf pre k) j = true ∨ ((R j).mark j).apart ((R k).mark k) = true) {Q : Exit → Act → World → Prop} {s' : DS} :
    ∀ {fuel : Nat} {rem : List Nat} {listed : Array Bool} {E : Env} {st : DS} {a : Act}, listed.size = ops.size → rem.Pairwise (· < ·) → (∀ j, j ∈ rem ↔ j < ops.size ∧ listed.getD j true = false) → fuel = rem.length →
      (∀ j, listed.getD j false = true → ∀ k ∈ preOf pre j, listed.getD k false = true) → Chain R rem st s' → Gd.On own E → Inv own tm E st a.tmps → nt ≤ a.tmps.size → (∀ i ∈ rem, ∀ p, nx + 4 * i ≤ p → p < nx + 4 * i + 4 → ¬ E.born p) →
      Next own tm nx (nx + 4 * ops.size) E a s' (Q .normal) → wpAny P .any ops Q fuel listed a E.w
  | 0, rem, listed, E, st, a, hls, hsort, hrem, hf, hcl, hch, hG, hi, hs, hn, hK => by
    have hr0 : rem = [] := List.eq_nil_of_length_eq_zero hf.symm
    subst hr0
    cases hch with
    | nil hl =>
      refine ⟨?_, hK E a (Move.refl _ _) (fun _ h => .inl h) (hi.like hl) rfl rfl⟩
      rw [List.eq_nil_iff_forall_not_mem]
      intro j hj
      obtain ⟨h1, o, ho, _⟩ := mem_ready.1 hj
      have := (hrem j).2 ⟨(Array.getElem?_eq_some_iff.1 ho).1, h1⟩
      cases this
  | fuel + 1, rem, listed, E, st, a, hls, hsort, hrem, hf, hcl, hch, hG, hi, hs, hn, hK => by
    have hgd : ∀ j, j < ops.size → (listed.getD j true = false ↔ ¬ listed.getD j false = true) := by
      intro j hj
      have : j < listed.size := by omega
      simp [this]
    constructor
    · intro h0
      exfalso
      cases rem with
      | nil => simp at hf
      | cons i0 l =>
        obtain ⟨hlt, hun⟩ := (hrem i0).1 (by simp)
        have ho : ops[i0]? = some ops[i0] := Array.getElem?_eq_getElem hlt
        have hpo := preOKs_get hp i0 ops[i0] (by rw [Array.getElem?_toList]; exact ho)
        rw [Nat.zero_add] at hpo
        simp only [preOK1, Bool.and_eq_true, List.all_eq_true] at hpo
        have : i0 ∈ Region.ready .any ops listed := by
          refine mem_ready.2 ⟨hun, _, ho, fun e he hb => ?_⟩
          have h1 := hpo.1 e (by simpa using he)
          simp only [bindsAny, hb, Bool.not_true, Bool.false_or, decide_eq_true_eq] at h1
          have hlt' : e.on < ops.size := by omega
          cases hx : listed.getD e.on false with
          | true => rfl
          | false =>
            have hmem := (hrem e.on).2 ⟨hlt', (hgd _ hlt').2 (by rw [hx]; simp)⟩
            rcases List.mem_cons.1 hmem with h2 | h2
            · omega
            · have := (List.pairwise_cons.1 hsort).1 e.on h2; omega
        rw [h0] at this; cases this
    · intro i hir
      obtain ⟨hun, o, ho, hall⟩ := mem_ready.1 hir
      have hlt := (Array.getElem?_eq_some_iff.1 ho).1
      have him := (hrem i).2 ⟨hlt, hun⟩
      obtain ⟨l1, l2, rfl⟩ := List.append_of_mem him
      have hpo := preOKs_get hp i o (by rw [Array.getElem?_toList]; exact ho)
      rw [Nat.zero_add] at hpo
      simp only [preOK1, Bool.and_eq_true, List.all_eq_true, List.any_eq_true, Bool.or_eq_true, decide_eq_true_eq] at hpo
      have hpre : ∀ k ∈ preOf pre i, listed.getD k false = true := by
        intro k hk
        obtain ⟨e, he, hb, h2⟩ := hpo.2 k hk
        have hl := hall e (by simpa using he) hb
        rcases h2 with h2 | h2
        · rw [← h2]; exact hl
        · exact hcl e.on hl k (has_iff.1 h2)
      have hsort2 := List.pairwise_append.1 hsort
      obtain ⟨hat, s1, hto, hch'⟩ := Chain.pull hch fun k hk => by
        have hki : k < i := hsort2.2.2 k hk i (by simp)
        refine ⟨by omega, ?_⟩
        have hkm := (hrem k).1 (by simp [hk])
        rcases hR k hkm.1 i hlt hki with h | h
        · exact ((hgd k hkm.1).1 hkm.2 (hpre k (has_iff.1 h))).elim
        · exact h
      obtain ⟨st1, hst1, hto1, _, _⟩ := (R i).step hat
      have hch1 := hch'.like (hto.det hto1)
      obtain ⟨_, hg⟩ := trOpers_get ht
      obtain ⟨mo, hmo, htr⟩ := hg i o (by rw [Array.getElem?_toList]; exact ho)
      have hmo' : (ml[i]?).getD default = mo := by rw [hmo]; rfl
      rw [hmo'] at hst1
      refine dOper_ok hC hG hi hs (hn i (by simp)) ho htr hst1 fun E1 a1 m1 b1 i1 sz1 d1 => ?_
      have hnot : ∀ j ∈ l1 ++ l2, j ≠ i := by
        intro j hj
        rcases List.mem_append.1 hj with hj | hj
        · have := hsort2.2.2 j hj i (by simp); omega
        · have := (List.pairwise_cons.1 hsort2.2.1).1 j hj; omega
      have hset : ∀ j d, j ≠ i → (listed.setIfInBounds i true).getD j d = listed.getD j d := fun j d hj => getD_set_ne d (Ne.symm hj)
      have hseti : (listed.setIfInBounds i true).getD i false = true := by
        have : i < listed.size := by omega
        simp [this]
      have hset1 : ∀ j, listed.getD j false = true → (listed.setIfInBounds i true).getD j false = true := fun j hj => getD_set_true hj
      refine any_ok hC ht hp hR (by simp [hls]) ?_ (fun j => ?_) ?_ ?_ hch1 (Gd.move m1 hG) i1 (sz1 ▸ hs) ?_ ?_
      · refine List.pairwise_append.2 ⟨hsort2.1, (List.pairwise_cons.1 hsort2.2.1).2, fun x hx y hy => hsort2.2.2 x hx y (by simp [hy])⟩
      · constructor
        · intro hj
          have hji := hnot j hj
          have := (hrem j).1 (by
            rcases List.mem_append.1 hj with hj | hj
            · simp [hj]
            · simp [hj])
          rw [hset j true hji]; exact this
        · rintro ⟨h1, h2⟩
          by_cases hji : j = i
          · subst hji
            have : j < listed.size := by omega
            simp [this] at h2
          · rw [hset j true hji] at h2
            have := (hrem j).2 ⟨h1, h2⟩
            rcases List.mem_append.1 this with h | h
            · simp [h]
            · rcases List.mem_cons.1 h with h | h
              · exact (hji h).elim
              · simp [h]
      · simp only [List.length_append, List.length_cons] at hf ⊢; omega
      · intro j hj k hk
        by_cases hji : j = i
        · subst hji; exact hset1 k (hpre k hk)
        · rw [hset j false hji] at hj
          exact hset1 k (hcl j hj k hk)
      · intro j hj p h1 h2 hb
        have hji := hnot j hj
        rcases b1 p hb with hb | hb
        · exact hn j (by
            rcases List.mem_append.1 hj with hj | hj
            · simp [hj]
            · simp [hj]) p h1 h2 hb
        · omega
      · intro E2 a2 m2 b2 i2 sz2 d2
        refine hK E2 a2 (m1.trans m2) (fun p hp => ?_) i2 (sz2.trans sz1) (d2.trans d1)
        rcases b2 p hp with hp | hp
        · rcases b1 p hp with hp | hp
          · exact .inl hp
          · exact .inr ⟨by omega, by omega⟩
        · exact .inr hp
theorem regionD_ok {Gd : Ground} {E : Env} {st : DS} {a : Act} (hC : COK P Gd C) (ht : trOpers P tm nt ops ops.toList = some ml) (hp : preOKs pre 0 ops.toList = true) (hm : P.follows .mixedOrders = true) {id : Nat} {Q : Exit → Act → World → Prop}
    (hG : Gd.On own { E with w := { E.w with drawn := E.w.drawn + 1 } }) (hi : Inv own tm { E with w := { E.w with drawn := E.w.drawn + 1 } } st a.tmps) (hs : nt ≤ a.tmps.size) (hn : ∀ p, E.born p → p < nx)
    {st' : DS} (h : dDraw C (preOf pre) 0 nx [] ml st = some st') (hK : Next own tm nx (nx + 4 * ops.size) { E with w := { E.w with drawn := E.w.drawn + 1 } } a st' (Q .normal)) : (Code.region id ops true).wp P Q a E.w := by
  refine wp_region_any hm ?_
  have hl : ml.length = ops.size := by simpa using (trOpers_get ht).1
  obtain ⟨R, c1, _, c3⟩ := draw_chain (C := C) (nx := nx) (ms := fun i => (ml[i]?).getD default) (pre := preOf pre) (ops := ml) (i := 0) (marks := []) (st := st) (st' := st') (fun j => by
    rw [Nat.zero_add]
    cases h : ml[j]? with
    | none => exact .inl rfl
    | some o => exact .inr rfl) h
  rw [hl] at c1 c3
  refine any_ok (E := { E with w := { E.w with drawn := E.w.drawn + 1 } }) hC ht hp (R := R) (fun j hj k hk hjk => c3 j (List.mem_range'_1.2 ⟨by omega, by omega⟩) k (List.mem_range'_1.2 ⟨by omega, by omega⟩) hjk) (by simp) (List.pairwise_lt_range') (fun j => ?_) (by simp) (fun j hj => ?_) c1 hG hi hs (fun i _ p h1 h2 hb => ?_) hK
  · simp only [List.mem_range'_1, Nat.zero_le, true_and, Nat.zero_add]
    constructor
    · intro hj; exact ⟨hj, by simp [hj]⟩
    · exact fun h => h.1
  · by_cases hjl : j < ops.size
    · simp [hjl] at hj
    · simp [hjl] at hj
  · have hb : E.born p := hb
    have := hn p hb
    omega
end
end Go.Mini
/- Mini against the model: code. -/
namespace Go.Mini
open Go Go.RowKit
variable {P : Program} {own : Nat → Prop} {tm : Nat → Bool} {nt : Nat} {Q : Prog}
def keepOK (tm : Nat → Bool) (nt : Nat) (keep : List (Nat × KMode)) : Prop :=
  (keep.all fun k => decide (k.1 < nt) && !tm k.1 && (match k.2 with | .ownE s => decide (0 < s) | _ => true)) = true
inductive Its (P : Program) (tm : Nat → Bool) (nt : Nat) : List Go.Item → List Item → Prop
  | nil : Its P tm nt [] []
  | code {c m k l} (h : trCode P tm nt c m) (r : Its P tm nt k l) : Its P tm nt (.code c :: k) (.code m :: l)
  | blk {id k l} (r : Its P tm nt k l) : Its P tm nt (.inBlock id :: k) (.blk id :: l)
  | lp {c keep b k l} (hk : keepOK tm nt keep) (h : trCode P tm nt c b) (r : Its P tm nt k l) : Its P tm nt (.inLoop c :: k) (.lp keep b :: l)
  | scope {c k l} (r : Its P tm nt k l) : Its P tm nt (.inScope c :: k) l
theorem Its.peel : ∀ {k l}, Its P tm nt k l → ∃ k', Its P tm nt k' l ∧ (∀ c r, k' ≠ .inScope c :: r) ∧ ∀ (b : Frame) (a : Act) (cs : List Frame) (w : World), Steps P (lone (b.at a k) cs w) (lone (b.at a k') cs w)
  | _, _, .nil => ⟨_, .nil, by simp, fun _ _ _ _ => Steps.refl _ _⟩
  | _, _, .code h r => ⟨_, .code h r, by simp, fun _ _ _ _ => Steps.refl _ _⟩
  | _, _, .blk r => ⟨_, .blk r, by simp, fun _ _ _ _ => Steps.refl _ _⟩
  | _, _, .lp hk h r => ⟨_, .lp hk h r, by simp, fun _ _ _ _ => Steps.refl _ _⟩
  | _, _, .scope r => by
    obtain ⟨k', h1, h2, h3⟩ := Its.peel r
    exact ⟨k', h1, h2, fun b a cs w => .head step_inScope (h3 b a cs w)⟩
theorem Its.exit {id : Nat} : ∀ {k l l'}, Its P tm nt k l → unwind id l = some l' → ∃ k', exitTo id k = some k' ∧ Its P tm nt k' l'
  | _, _, _, .nil, h => by simp [unwind] at h
  | _, _, _, .code _ r, h => by
    obtain ⟨k', h1, h2⟩ := Its.exit r (by simpa [unwind] using h)
    exact ⟨k', by simpa [exitTo] using h1, h2⟩
  | _, _, _, .blk (id := i) (k := k) (l := l) r, h => by
    simp only [unwind] at h
    split at h
    · rename_i hi
      cases h
      exact ⟨k, by simp [exitTo, hi], r⟩
    · rename_i hi
      obtain ⟨k', h1, h2⟩ := Its.exit r h
      refine ⟨k', ?_, h2⟩
      have : (i == id) = false := by simpa using hi
      simp [exitTo, this, h1]
  | _, _, _, .lp _ _ r, h => by
    obtain ⟨k', h1, h2⟩ := Its.exit r (by simpa [unwind] using h)
    exact ⟨k', by simpa [exitTo] using h1, h2⟩
  | _, _, _, .scope r, h => by
    obtain ⟨k', h1, h2⟩ := Its.exit r h
    exact ⟨k', by simpa [exitTo] using h1, h2⟩
def Ends (P : Program) (own : Nat → Prop) (tm : Nat → Bool) (nt : Nat) (k : List Go.Item) (E : Env) (a : Act) (st' : DS) : Prop :=
  ∀ (b : Frame) (cs : List Frame), ∃ todo a' E', Steps P (lone (b.at a k) cs E.w) (lone { b.at a' todo with mode := .returning } cs E'.w) ∧ Fr own E E' ∧ Inv own tm E' st' a'.tmps ∧ nt ≤ a'.tmps.size ∧ a'.defers = a.defers
theorem Ends.steps {k k' : List Go.Item} {E E' : Env} {a a' : Act} {st' : DS} (h : ∀ (b : Frame) (cs : List Frame), Steps P (lone (b.at a k) cs E.w) (lone (b.at a' k') cs E'.w)) (f : Fr own E E') (hd : a'.defers = a.defers)
    (e : Ends P own tm nt k' E' a' st') : Ends P own tm nt k E a st' := by
  intro b cs
  obtain ⟨todo, a2, E2, s, f2, i, n, d⟩ := e b cs
  exact ⟨todo, a2, E2, (h b cs).trans s, f.trans f2, i, n, d.trans hd⟩
theorem region_steps {id : Nat} {ops : Array Oper} {dr : Bool} {E : Env} {a : Act} {lo hi : Nat} {st1 : DS}
    (h : ∀ {Q : Exit → Act → World → Prop}, Next own tm lo hi E a st1 (Q .normal) → (Code.region id ops dr).wp P Q a E.w) (hs : nt ≤ a.tmps.size) :
    ∀ (k : List Go.Item) (b : Frame) (cs : List Frame), ∃ E' a', Move own E E' ∧ (∀ p, E'.born p → E.born p ∨ (lo ≤ p ∧ p < hi)) ∧ Inv own tm E' st1 a'.tmps ∧ nt ≤ a'.tmps.size ∧ a'.defers = a.defers ∧
      Steps P (lone (b.at a (.code (.region id ops dr) :: k)) cs E.w) (lone (b.at a' k) cs E'.w) := by
  intro k b cs
  have := h (Q := fun e a' w' => e = .normal ∧ ∃ E', E'.w = w' ∧ Move own E E' ∧ (∀ p, E'.born p → E.born p ∨ (lo ≤ p ∧ p < hi)) ∧ Inv own tm E' st1 a'.tmps ∧ nt ≤ a'.tmps.size ∧ a'.defers = a.defers)
    (fun E' a' m bo i sz d => ⟨rfl, E', rfl, m, bo, i, sz ▸ hs, d⟩)
  obtain ⟨e, a', w', ⟨rfl, E', rfl, m, bo, i, sz, d⟩, harr⟩ := this b k cs
  exact ⟨E', a', m, bo, i, sz, d, harr⟩
theorem Inv.clear {tmps} {E : Env} {st : DS} (h : Inv own tm E st tmps) (nx : Nat) : Inv own tm E { st with T := [], nx := nx } tmps :=
  { h with T := fun n v hn => by simp [look] at hn }
theorem sim {Gd : Ground} : ∀ (n : Nat), (∀ m, m < n → COK P Gd (callF Q m)) → ∀ {k : List Go.Item} {l : List Item} {st st' : DS} {E : Env} {a : Act}, run Q n l st = some st' → Its P tm nt k l → Gd.On own E → Inv own tm E st a.tmps → nt ≤ a.tmps.size → (∀ p, E.born p → p < st.nx) →
    Ends P own tm nt k E a st'
  | 0, _, k, l, st, st', E, a, h, _, _, _, _, _ => by simp [run] at h
  | n + 1, hC, k, l, st, st', E, a, h, hits, hG, hi, hs, hb => by
    have ih := fun {k l st st' E a} => sim n (fun m hm => hC m (by omega)) (k := k) (l := l) (st := st) (st' := st') (E := E) (a := a)
    obtain ⟨k', hits, hns, hsteps⟩ := hits.peel
    refine Ends.steps (E' := E) (a' := a) (k' := k') (fun b cs => hsteps b a cs E.w) (Fr.refl _ _) rfl ?_
    have one : ∀ {k1 : List Go.Item} {l1 : List Item}, (∀ (b : Frame) (cs : List Frame), step P (lone (b.at a k') cs E.w) = .next (lone (b.at a k1) cs E.w)) → Its P tm nt k1 l1 → run Q n l1 st = some st' → Ends P own tm nt k' E a st' :=
      fun h1 h2 h3 => Ends.steps (fun b cs => .one (h1 b cs)) (Fr.refl _ _) rfl (ih h3 h2 hG hi hs hb)
    have head : ∀ {k1 : List Go.Item} {l1 : List Item} {keep : List (Nat × KMode)}, keepOK tm nt keep → (∀ (b : Frame) (cs : List Frame), step P (lone (b.at a k') cs E.w) = .next (lone (b.at a k1) cs E.w)) → Its P tm nt k1 l1 → run Q n l1 (canon keep st) = some st' → Ends P own tm nt k' E a st' := by
      intro k1 l1 keep hk h1 h2 h3
      obtain ⟨E', w', c', i', b'⟩ := canon_ok hi hk hs
      have e := ih h3 h2 (Gd.same c' w' hG) i' hs b'
      refine Ends.steps (E' := E') (a' := a) (fun b cs => ?_) (Fr.same c' w') rfl e
      rw [w']; exact .one (h1 b cs)
    cases hits with
    | scope r => exact (hns _ _ rfl).elim
    | nil =>
      simp only [run, Option.some.injEq] at h
      subst h
      exact fun b cs => ⟨[], a, E, .one step_end, Fr.refl _ _, hi, hs, rfl⟩
    | blk r =>
      simp only [run] at h
      exact one (fun b cs => step_inBlock) r h
    | lp hk ht r =>
      simp only [run] at h
      exact head hk (fun b cs => step_inLoop) (.code ht (.lp hk ht r)) h
    | code ht r =>
      rename_i c m k0 l0
      cases m with
      | skip =>
        simp only [run] at h
        cases c with
        | skip => exact one (fun b cs => step_skip) r h
        | label => exact one (fun b cs => step_label) r h
        | region id' ops' dr => cases dr <;> exact ht.elim
        | _ => exact ht.elim
      | rg ops =>
        simp only [run] at h
        split at h
        · rename_i st1 h1
          unfold dRegion at h1
          split at h1
          · rename_i st2 h2
            cases h1
            cases c with
            | region id ops' dr =>
              cases dr with
              | false =>
                simp only [trCode] at ht
                have hl : ops.length = ops'.size := by simpa using (trOpers_get ht).1
                intro b cs
                obtain ⟨E1, a1, m1, b1, i1, s1, d1, hst⟩ := region_steps (hi := st.nx + 4 * ops'.size) (fun hK => region_ok (hC n (by omega)) hG ht hi hs hb h2 hK) hs k0 b cs
                have e := ih h r (Gd.move m1 hG) (i1.clear _) s1 (fun p hp => by
                  show p < st.nx + 4 * ops.length
                  rcases b1 p hp with hp | hp
                  · have := hb p hp; omega
                  · omega)
                obtain ⟨todo, a2, E2, s2, f2, i2, n2, d2⟩ := e b cs
                exact ⟨todo, a2, E2, hst.trans s2, m1.fr.trans f2, i2, n2, d2.trans d1⟩
              | true => exact ht.elim
            | _ => exact ht.elim
          · cases h1
        · cases h
      | rgd ops pre =>
        simp only [run] at h
        split at h
        · rename_i st1 h1
          unfold dRegionD at h1
          split at h1
          · rename_i st2 h2
            cases h1
            cases c with
            | region id ops' dr =>
              cases dr with
              | true =>
                simp only [trCode] at ht
                obtain ⟨ht, hp, hm⟩ := ht
                have hl : ops.length = ops'.size := by simpa using (trOpers_get ht).1
                obtain ⟨md, hid⟩ := hi.drew
                intro b cs
                have reg : ∃ E' a', Move own { E with w := { E.w with drawn := E.w.drawn + 1 } } E' ∧ (∀ p, E'.born p → E.born p ∨ (st.nx ≤ p ∧ p < st.nx + 4 * ops'.size)) ∧ Inv own tm E' st2 a'.tmps ∧ nt ≤ a'.tmps.size ∧ a'.defers = a.defers ∧
                    Steps P (lone (b.at a (.code (.region id ops' true) :: k0)) cs E.w) (lone (b.at a' k0) cs E'.w) := by
                  have := regionD_ok (E := E) (id := id) (Q := fun e a' w' => e = .normal ∧ ∃ E', E'.w = w' ∧ Move own { E with w := { E.w with drawn := E.w.drawn + 1 } } E' ∧ (∀ p, E'.born p → E.born p ∨ (st.nx ≤ p ∧ p < st.nx + 4 * ops'.size)) ∧ Inv own tm E' st2 a'.tmps ∧ nt ≤ a'.tmps.size ∧ a'.defers = a.defers)
                    (hC n (by omega)) ht hp hm (Gd.move md hG) hid hs hb h2 (fun E' a' m bo i sz d => ⟨rfl, E', rfl, m, bo, i, sz ▸ hs, d⟩)
                  obtain ⟨e, a', w', ⟨rfl, E', rfl, m, bo, i, sz, d⟩, harr⟩ := this b k0 cs
                  exact ⟨E', a', m, bo, i, sz, d, harr⟩
                obtain ⟨E1, a1, m1, b1, i1, s1, d1, hst⟩ := reg
                have e := ih h r (Gd.move m1 (Gd.move md hG)) (i1.clear _) s1 (fun p hp => by
                  show p < st.nx + 4 * ops.length
                  rcases b1 p hp with hp | hp
                  · have := hb p hp; omega
                  · omega)
                obtain ⟨todo, a2, E2, s2, f2, i2, n2, d2⟩ := e b cs
                exact ⟨todo, a2, E2, hst.trans s2, (md.trans m1).fr.trans f2, i2, n2, d2.trans d1⟩
              | false => exact ht.elim
            | _ => exact ht.elim
          · cases h1
        · cases h
      | seq x y =>
        simp only [run] at h
        cases c with
        | seq x' y' =>
          simp only [trCode] at ht
          exact one (fun b cs => step_seq) (.code ht.1 (.code ht.2 r)) h
        | region id' ops' dr => cases dr <;> exact ht.elim
        | _ => exact ht.elim
      | cond q x y =>
        simp only [run] at h
        split at h
        · rename_i t hq
          cases c with
          | cond q' x' y' =>
            simp only [trCode] at ht
            have hr := rd_ok hi ht.1
            rw [hq] at hr
            generalize hv : a.eval q' = v at hr
            cases hr
            refine one (k1 := .code (if t then x' else y') :: k0) (fun b cs => step_cond hv) (.code ?_ r) h
            cases t
            · exact ht.2.2
            · exact ht.2.1
          | region id' ops' dr => cases dr <;> exact ht.elim
          | _ => exact ht.elim
        · cases h
      | block id x =>
        simp only [run] at h
        cases c with
        | block id' x' =>
          simp only [trCode] at ht
          obtain ⟨rfl, ht⟩ := ht
          exact one (fun b cs => step_block) (.code ht (.blk r)) h
        | region id' ops' dr => cases dr <;> exact ht.elim
        | _ => exact ht.elim
      | loop keep x =>
        simp only [run] at h
        cases c with
        | loop x' =>
          simp only [trCode] at ht
          exact head ht.1 (fun b cs => step_loop) (.code ht.2 (.lp ht.1 ht.2 r)) h
        | region id' ops' dr => cases dr <;> exact ht.elim
        | _ => exact ht.elim
      | exit id =>
        simp only [run] at h
        split at h
        · rename_i l1 hu
          cases c with
          | exit id' =>
            simp only [trCode] at ht
            subst ht
            obtain ⟨k1, h1, h2⟩ := Its.exit r hu
            exact one (fun b cs => step_exit h1) h2 h
          | region id' ops' dr => cases dr <;> exact ht.elim
          | _ => exact ht.elim
        · cases h
      | scope x =>
        simp only [run] at h
        cases c with
        | scope x' =>
          simp only [trCode] at ht
          exact one (fun b cs => step_scope) (.code ht (.scope r)) h
        | region id' ops' dr => cases dr <;> exact ht.elim
        | _ => exact ht.elim
      | ret =>
        simp only [run, Option.some.injEq] at h
        subst h
        cases c with
        | ret => exact fun b cs => ⟨_, a, E, .one step_ret, Fr.refl _ _, hi, hs, rfl⟩
        | region id' ops' dr => cases dr <;> exact ht.elim
        | _ => exact ht.elim
end Go.Mini
/- Mini against the model: functions. -/
namespace Go.Mini
open Go Go.RowKit
variable {P : Program} {own : Nat → Prop} {tm : Nat → Bool} {nt : Nat} {Q : Prog}
def pkOK : PK → Prop
  | .el s => 0 < s
  | .ownE s => 0 < s
  | _ => True
def resOK (P : Program) (tm : Nat → Bool) : List ResultVar → List (Nat × Option (Bool × Nat) × PK) → Prop
  | [], [] => True
  | .tmp t :: r, (n, none, k) :: l => t = n ∧ tm n = false ∧ pkOK k ∧ resOK P tm r l
  | .cell a t :: r, (n, some (g, s), k) :: l => a = n ∧ tm n = false ∧ aggT P t = some g ∧ sizeT P t = some s ∧ pkOK k ∧ resOK P tm r l
  | _, _ => False
def resF (tmps : Array Value) : ResultVar → Sem Value
  | .tmp t => pure (tmps.getD t undef)
  | .cell a t => do loadVar t (← asAddr (tmps.getD a undef))
def Env.forget (E : Env) (o : Nat) : Env := { E with len := fun p => if p = o then .none else E.len p }
theorem Inv.forget {E : Env} {st : DS} {tmps} (h : Inv own tm E st tmps) {o : Nat} {ob : Obj} (ho : look st.O o = some ob) :
    Move own E (E.forget o) ∧ Inv (fun k => own k ∧ E.blk o ≠ some k) tm (E.forget o) { st with O := drop st.O o } tmps := by
  have x : Ext E (E.forget o) := by
    refine ⟨fun _ => Nat.le_refl _, fun _ _ _ => rfl, fun _ h => h, fun p _ n hn => ?_⟩
    have hn : (if p = o then none else E.len p) = some n := hn
    split at hn
    · cases hn
    · exact ⟨hn, rfl, rfl, rfl⟩
  have m : Move own E (E.forget o) := ⟨x, rfl, rfl, rfl, Nat.le_refl _, fun _ _ _ => rfl, fun _ _ => rfl⟩
  have lk : ∀ p, look (drop st.O o) p = if o = p then none else look st.O p := look_drop st.O o
  have ne : ∀ {p}, look (drop st.O o) p ≠ none → p ≠ o ∧ look st.O p ≠ none := by
    intro p hp
    rw [lk] at hp
    split at hp
    · exact (hp rfl).elim
    · rename_i h1; exact ⟨Ne.symm h1, hp⟩
  refine ⟨m, ?_⟩
  refine { len := fun p => ?_, objs := fun p y hp => ?_, sep := fun p q b hp hq => h.sep p q b (ne hp).2 (ne hq).2, ownb := fun p b hp hpb => ⟨h.ownb p b (ne hp).2 hpb, fun hob => ?_⟩, good := h.good, born := fun p hp => h.born p (ne hp).2, base := fun k hk => ⟨h.base k hk, fun hob => ?_⟩, T := fun n v hn => ?_, V := fun n v hn => ?_ }
  · show (if p = o then none else E.len p) = (look (drop st.O o) p).map Obj.len
    rw [lk]
    by_cases hp : p = o
    · simp [hp]
    · rw [if_neg hp, if_neg (Ne.symm hp), h.len]
  · have hp : look (drop st.O o) p = some y := hp
    rw [lk] at hp
    split at hp
    · cases hp
    · exact (h.objs p y hp).ext x rfl rfl rfl fun b _ => ⟨rfl, rfl⟩
  · exact (ne hp).1 (h.sep p o b (ne hp).2 (by rw [ho]; simp) hpb hob)
  · have := h.lt ho hob
    have hk : E.w.heap.size ≤ k := hk
    omega
  · obtain ⟨a, y, b, c⟩ := h.T n v hn; exact ⟨a, y, b, c.ext x⟩
  · obtain ⟨a, y, b, c⟩ := h.V n v hn; exact ⟨a, y, b, c.ext x⟩
theorem Inv.len_own {E : Env} {st : DS} {tmps} (h : Inv own tm E st tmps) {o n : Nat} {x : Value} (hr : RelV E (.own o n) x) {ob : Obj} (ho : look st.O o = some ob) (hn : ob.len = n) : x = hdr E o n := by
  cases hr with
  | own hb h1 hh => exact hh (by rw [h.len, ho]; exact congrArg some hn)
theorem leaveOne_ok {E : Env} {st st' : DS} {tmps} (h : Inv own tm E st tmps) {lo : Nat} (hlo : ∀ k, own k → lo ≤ k) {k : PK} (hk : pkOK k) {v y : MV} {x : Value} (hr : RelV E v x) (e : leaveOne k v st = some (y, st')) :
    ∃ E' b, E'.w = E.w ∧ Move own E E' ∧ Inv (fun k => own k ∧ b ≠ some k) tm E' st' tmps ∧ RetV E' lo y x b ∧ (∀ k, b = some k → own k) := by
  have plain : lend v st = some (y, st') → ∃ E' b, E'.w = E.w ∧ Move own E E' ∧ Inv (fun k => own k ∧ b ≠ some k) tm E' st' tmps ∧ RetV E' lo y x b ∧ (∀ k, b = some k → own k) := by
    intro e
    obtain ⟨E', m, w, _, i, r, p, _⟩ := lend_sound h hr e
    refine ⟨E', none, w, m, ?_, .pure r p, by simp⟩
    have : (fun k => own k ∧ (none : Option Nat) ≠ some k) = own := by funext k; simp
    rw [this]; exact i
  have same : st' = st → RetV E lo y x none → ∃ E' b, E'.w = E.w ∧ Move own E E' ∧ Inv (fun k => own k ∧ b ≠ some k) tm E' st' tmps ∧ RetV E' lo y x b ∧ (∀ k, b = some k → own k) := by
    rintro rfl hr
    refine ⟨E, none, rfl, Move.refl _ _, ?_, hr, by simp⟩
    have : (fun k => own k ∧ (none : Option Nat) ≠ some k) = own := by funext k; simp
    rw [this]; exact h
  unfold leaveOne at e
  split at e
  · cases e; cases hr; exact same rfl (.pure (.bs (Nat.le_refl _) (by simp) fun hn => (hn rfl).elim) .bs)
  · cases e; cases hr; exact same rfl (.pure (.sl (Nat.le_refl _) (by simp) hk (fun e he => by cases he) .nil fun hn => (hn rfl).elim) (.sl fun e he => by cases he))
  · cases e; cases hr; exact same rfl .fby0
  · cases e; cases hr; exact same rfl (.fel0 hk)
  · rename_i o n
    split at e
    · rename_i l ho
      split at e
      · rename_i hn
        cases e
        have hx := h.len_own hr ho hn
        obtain ⟨m, i⟩ := h.forget ho
        have ok := h.objs o _ ho
        subst hn
        cases ok with
        | byt0 k1 k2 =>
          have : x = .slice none 0 0 := by rw [hx]; unfold hdr; rw [k1]; 
          subst this
          refine ⟨E.forget o, none, rfl, m, ?_, .fby0, by simp⟩
          rw [k1] at i; exact i
        | byt k1 k2 k3 k4 k5 =>
          rename_i b
          have : x = .slice (some ⟨b, 0, none⟩) l.length (E.cap o) := by rw [hx]; unfold hdr; rw [k1]
          subst this
          have hob := h.ownb o b (by rw [ho]; simp) k1
          refine ⟨E.forget o, some b, rfl, m, ?_, .fby (hlo b hob) k3 k4 ⟨k5.row, k5.com, k5.not⟩, fun k hk => by cases hk; exact hob⟩
          rw [k1] at i; exact i
      · cases e
    · cases e
  · rename_i s o n
    split at e
    · rename_i s' l ho
      split at e
      · rename_i hc
        obtain ⟨hn, hs⟩ := hc
        cases e
        have hx := h.len_own hr ho hn
        obtain ⟨m, i⟩ := h.forget ho
        have ok := h.objs o _ ho
        subst hn; subst hs
        cases ok with
        | el0 k1 k2 k3 =>
          have : x = .slice none 0 0 := by rw [hx]; unfold hdr; rw [k1]; 
          subst this
          refine ⟨E.forget o, none, rfl, m, ?_, .fel0 k3, by simp⟩
          rw [k1] at i; exact i
        | el k1 k2 k3 k4 k5 k6 k7 k8 =>
          rename_i b vs
          have : x = .slice (some ⟨b, 0, none⟩) l.length (E.cap o) := by rw [hx]; unfold hdr; rw [k1]
          subst this
          have hob := h.ownb o b (by rw [ho]; simp) k1
          refine ⟨E.forget o, some b, rfl, m, ?_, .fel (hlo b hob) k3 k4 k5 k6 (k7.ext m.toExt) ⟨k8.row, k8.com, k8.not⟩, fun k hk => by cases hk; exact hob⟩
          rw [k1] at i; exact i
      · cases e
    · cases e
  · exact plain e
theorem Fr.widen {E E' : Env} {own' : Nat → Prop} (h : Fr own' E E') (hw : ∀ k, own' k → own k) : Fr own E E' :=
  ⟨h.C, h.cell, h.os, h.tape, h.output, h.size, fun k hk hn => h.block k hk fun h' => hn (hw k h'), fun k hn => h.com k fun h' => hn (hw k h')⟩
theorem slotV {E : Env} {st : DS} {tmps : Array Value} (h : Inv own tm E st tmps) {n : Nat} (_ : tm n = false) : RelV E ((look st.V n).getD .undef) (tmps.getD n undef) := by
  cases hl : look st.V n with
  | none => exact .undef
  | some v =>
    obtain ⟨_, x, hx, hr⟩ := h.V n v hl
    have : tmps.getD n undef = x := by simp [Array.getD_eq_getD_getElem?, hx]
    rw [this]; exact hr
def leaveGet (c : Option (Bool × Nat)) (v : MV) (st : DS) : Option (MV × DS) :=
  match c with
  | none => some (v, st)
  | some (g, s) => loadV g s v st
theorem leave_ok {lo : Nat} {tmps : Array Value} : ∀ {res : List ResultVar} {rs : List (Nat × Option (Bool × Nat) × PK)} {own : Nat → Prop} {E : Env} {st : DS} {ys : List MV}, resOK P tm res rs → Inv own tm E st tmps → (∀ k, own k → lo ≤ k) → leave rs st = some ys →
    ∃ E' xs bs, (res.mapM (resF tmps)).run P E.w = .ok xs E.w ∧ E'.w = E.w ∧ Fr own E E' ∧ (∀ b, 0 < E'.C b → b < E'.w.heap.size) ∧ RetL E' lo ys xs bs ∧ ∀ b ∈ bs, own b
  | [], [], own, E, st, ys, _, hi, _, h => by
    simp only [leave, Option.some.injEq] at h
    subst h
    exact ⟨E, [], [], rfl, rfl, Fr.refl _ _, hi.good, .nil, by simp⟩
  | rv :: res, (n, c, k) :: rs, own, E, st, ys, hr, hi, hlo, h => by
    simp only [leave] at h
    have item : ∀ {v : MV} {st1 : DS}, leaveGet c ((look st.V n).getD .undef) st = some (v, st1) →
        ∃ E1 x, (resF tmps rv).run P E.w = .ok x E.w ∧ E1.w = E.w ∧ Move own E E1 ∧ Inv own tm E1 st1 tmps ∧ RelV E1 v x ∧ pkOK k ∧ resOK P tm res rs := by
      intro v st1 hv
      cases rv with
      | tmp t =>
        cases c with
        | some c => exact hr.elim
        | none =>
          obtain ⟨rfl, htm, hpk, hrest⟩ := hr
          cases hv
          exact ⟨E, _, rfl, rfl, Move.refl _ _, hi, slotV hi htm, hpk, hrest⟩
      | cell a t =>
        cases c with
        | none => exact hr.elim
        | some c =>
          obtain ⟨g, s⟩ := c
          obtain ⟨rfl, htm, ha, hs, hpk, hrest⟩ := hr
          obtain ⟨E', y, hrun, m, w', b1, i', r, _⟩ := load_ok (P := P) (a := { tmps := tmps, defers := [] }) hi ha hs (slotV hi htm) hv
          refine ⟨E', y, ?_, w', m, i', r, hpk, hrest⟩
          show (do loadVar t (← asAddr (tmps.getD a undef)) : Sem Value).run P E.w = _
          generalize tmps.getD a undef = vx at hrun
          cases vx with
          | pointer ad =>
            cases ad with
            | none => simp [Instr.loadAt, Instr.sureAddr, runtimePanic] at hrun
            | some ad =>
              simp only [Instr.loadAt, Instr.sureAddr, Sem.run_bind, Sem.run_pure, Result.andThen_ok] at hrun
              simp only [asAddr, Sem.run_bind, Sem.run_pure, Result.andThen_ok]
              exact hrun
          | _ => simp [Instr.loadAt, Instr.sureAddr, stuck] at hrun
    split at h
    · rename_i v st1 h1
      obtain ⟨E1, x, hrun, w1, m1, i1, r1, hpk, hrest⟩ := item (by cases c <;> exact h1)
      split at h
      · rename_i y st2 h2
        split at h
        · rename_i ys' h3
          cases h
          obtain ⟨E2, b, w2, m2, i2, r2, hb⟩ := leaveOne_ok i1 hlo hpk r1 h2
          obtain ⟨E3, xs, bs, hrun3, w3, f3, g3, r3, hbs⟩ := leave_ok hrest i2 (fun k hk => hlo k hk.1) h3
          have hww : E2.w = E.w := w2.trans w1
          rw [hww] at hrun3
          refine ⟨E3, x :: xs, b.toList ++ bs, ?_, w3.trans hww, (m1.fr.trans m2.fr).trans (f3.widen fun k hk => hk.1), g3, .cons ?_ r3 (fun k hk hkb => ?_), ?_⟩
          · rw [List.mapM_cons]
            simp only [Sem.run_bind, hrun, Result.andThen_ok, hrun3, Sem.run_pure]
          · have xx : ∀ {v : MV} {x : Value}, RelV E2 v x → Pure v → RelV E3 v x := by
              intro v x hv hp
              have : Ext { E2 with born := fun _ => False, len := fun _ => none } { E3 with born := fun _ => False, len := fun _ => none } := ⟨f3.C, f3.cell, fun _ h => h, fun _ h => h.elim⟩
              have h1 := RelV.bare (E := E2) (E' := { E2 with born := fun _ => False, len := fun _ => none }) rfl rfl hv hp
              exact RelV.bare (E := { E3 with born := fun _ => False, len := fun _ => none }) (E' := E3) rfl rfl (h1.ext this) hp
            have xl : ∀ {l : List MV} {vs : List Value}, RelL E2 l vs → (∀ e ∈ l, Pure e) → RelL E3 l vs := by
              intro l
              induction l with
              | nil => intro vs h _; cases h; exact .nil
              | cons e l ih => intro vs h hp; cases h with | cons h1 h2 => exact .cons (xx h1 (hp e (by simp))) (ih h2 fun e he => hp e (by simp [he]))
            have row : ∀ {b' cap s vs}, b = some b' → Row E2 b' cap s vs false → Row E3 b' cap s vs false := by
              intro b' cap s vs hbb hrow
              have hc : E3.C b' = E2.C b' := f3.com b' (fun h => h.2 hbb)
              exact ⟨by rw [w3]; exact hrow.row, by rw [hc]; exact hrow.com, by rw [hc]; exact hrow.not⟩
            cases r2 with
            | pure h p => exact .pure (xx h p) p
            | fby0 => exact .fby0
            | fby a1 a2 a3 a4 => exact .fby a1 a2 a3 (row rfl a4)
            | fel0 a => exact .fel0 a
            | fel a1 a2 a3 a4 a5 a6 a7 => exact .fel a1 a2 a3 a4 a5 (xl a6 fun c hc => by
                obtain ⟨e, he, hce⟩ := List.mem_flatMap.1 hc
                exact (a5 e he).2.2.cells c hce) (row rfl a7)
          · exact (hbs k hkb).2 hk
          · intro k hk
            rcases List.mem_append.1 hk with hk | hk
            · exact hb k (by simpa using hk)
            · exact (hbs k hk).1
        · cases h
      · cases h
    · cases h
  | [], _ :: _, _, _, _, _, hr, _, _, _ => hr.elim
  | .tmp _ :: _, [], _, _, _, _, hr, _, _, _ => hr.elim
  | .cell _ _ :: _, [], _, _, _, _, hr, _, _, _ => hr.elim
end Go.Mini
/- Mini against the model: what Mini answers, the model's function does. -/
namespace Go.Mini
open Go Go.RowKit
variable {P : Program} {own : Nat → Prop} {tm : Nat → Bool} {nt : Nat} {Q : Prog}
theorem enter_ok {E : Env} {tmps : Array Value} : ∀ {ps : List PK} {vs : List MV} {i : Nat} {st st' : DS} {xs : List Value}, Inv own tm E st tmps → RelL E vs xs → (∀ v ∈ vs, Pure v) → (∀ p ∈ ps, pkOK p) → (∀ j x, xs[j]? = some x → tmps[i + j]? = some x) →
    (∀ j, j < vs.length → tm (i + j) = false) → enter i ps vs st = some st' → Inv own tm E st' tmps
  | [], [], i, st, st', xs, hi, _, _, _, _, _, h => by simp only [enter, Option.some.injEq] at h; subst h; exact hi
  | p :: ps, [], i, st, st', xs, hi, _, _, _, _, _, h => by simp [enter] at h
  | ps, v :: vs, i, st, st', xs, hi, hr, hp, hk, ht, hm, h => by
    cases hr with
    | cons hv hr =>
      rename_i x xs
      have step : ∀ {v' : MV} {ps' : List PK}, RelV E v' x → Pure v' → (∀ p ∈ ps', pkOK p) → enter (i + 1) ps' vs { (inst i v' st).2 with V := put (inst i v' st).2.V i (inst i v' st).1, nx := i + 1 } = some st' → Inv own tm E st' tmps := by
        intro v' ps' hv' hp' hk' h
        rw [inst_pure hp'] at h
        refine enter_ok (i := i + 1) ?_ hr (fun w hw => hp w (by simp [hw])) hk' (fun j y hj => ?_) (fun j hj => ?_) h
        · refine { hi with T := hi.T, V := fun n w hn => ?_ }
          have hn : look (put st.V i v') n = some w := hn
          rw [look_put] at hn
          by_cases hin : i = n
          · subst hin
            simp only [if_true, Option.some.injEq] at hn
            subst hn
            exact ⟨by have := hm 0 (by simp); simpa using this, x, by have := ht 0 x (by simp); simpa using this, hv'⟩
          · rw [if_neg hin] at hn
            exact hi.V n w hn
        · have := ht (j + 1) y (by simpa using hj)
          rw [show i + 1 + j = i + (j + 1) by omega]; exact this
        · have := hm (j + 1) (by simp; omega)
          rw [show i + 1 + j = i + (j + 1) by omega]; exact this
      cases ps with
      | nil =>
        simp only [enter] at h
        exact step hv (hp v (by simp)) (by simp) h
      | cons p ps =>
        simp only [enter] at h
        have hkp := hk p (by simp)
        refine step ?_ ?_ (fun q hq => hk q (by simp [hq])) h
        · cases p <;> cases v <;> first | exact hv | skip
          · cases hv; exact .bs (Nat.le_refl _) (by simp) fun hn => (hn rfl).elim
          · cases hv; exact .sl (Nat.le_refl _) (by simp) hkp (fun e he => by cases he) .nil fun hn => (hn rfl).elim
        · have := hp v (by simp)
          cases p <;> cases v <;> first | exact this | exact .bs | exact .sl fun e he => by cases he
structure FnOK (P : Program) (f : FuncId) (m : MFunc) (fn : Func) (c : Code) (tm : Nat → Bool) : Prop where
  hfn : P.funcs[f]? = some fn
  name : (fn.name == "runtime.NumGoroutine") = false
  body : fn.body = some c
  code : trCode P tm fn.ntmps c m.body
  res : resOK P tm fn.results.toList m.results
  par : ∀ p ∈ m.params, pkOK p
  tm : ∀ n, tm n = true → m.nargs ≤ n
theorem RetV.bare {E E' : Env} (hC : E'.C = E.C) (hw : E'.w = E.w) {lo : Nat} {v : MV} {x : Value} {b : Option Nat} (h : RetV E lo v x b) : RetV E' lo v x b := by
  have row : ∀ {b cap s vs lent}, Row E b cap s vs lent → Row E' b cap s vs lent := fun h => ⟨by rw [hw]; exact h.row, by rw [hC]; exact h.com, by rw [hC]; exact h.not⟩
  cases h with
  | pure h p => exact .pure (h.bare hC hw p) p
  | fby0 => exact .fby0
  | fby h1 h2 h3 h4 => exact .fby h1 h2 h3 (row h4)
  | fel0 h => exact .fel0 h
  | fel h1 h2 h3 h4 h5 h6 h7 => exact .fel h1 h2 h3 h4 h5 (RelL.bare hC hw h6 fun c hc => by
      obtain ⟨e, he, hce⟩ := List.mem_flatMap.1 hc
      exact (h5 e he).2.2.cells c hce) (row h7)
theorem RetL.bare {E E' : Env} (hC : E'.C = E.C) (hw : E'.w = E.w) {lo : Nat} : ∀ {l : List MV} {ys : List Value} {bs : List Nat}, RetL E lo l ys bs → RetL E' lo l ys bs
  | _, _, _, .nil => .nil
  | _, _, _, .cons h r hb => .cons (h.bare hC hw) (RetL.bare hC hw r) hb
theorem RetV.ret {E : Env} {lo : Nat} {v : MV} {x : Value} {b : Option Nat} (h : RetV E lo v x b) : Ret E lo v x := by
  by_cases ht : ∃ l, v = .tup l
  · obtain ⟨l, rfl⟩ := ht
    cases h with
    | pure h p =>
      cases h with
      | tup hr =>
        rename_i vs
        have hp : ∀ e ∈ l, Pure e := by cases p with | tup h => exact h
        refine ⟨vs, [], rfl, ?_⟩
        clear p
        induction hr using RelL.rec (motive_1 := fun _ _ _ => True) with
        | nil => exact .nil
        | cons h1 h2 _ ih => exact .cons (b := none) (.pure h1 (hp _ (by simp))) (ih (fun e he => hp e (by simp [he]))) (by simp)
        | _ => trivial
  · cases v <;> first | exact (ht ⟨_, rfl⟩).elim | exact ⟨b, h⟩
theorem mapM_array {α β : Type} (f : α → Sem β) (a : Array α) {l : List β} {w : World} (h : (a.toList.mapM f).run P w = .ok l w) : (a.mapM f).run P w = .ok l.toArray w := by
  rw [Array.mapM_eq_mapM_toList]
  simp only [map_eq_pure_bind, Sem.run_bind, h, Result.andThen_ok, Sem.run_pure]
theorem fun_ok {Gd : Ground} {f : FuncId} {m : MFunc} {fn : Func} {c : Code} (hf : FnOK P f m fn c tm) {n : Nat} (hC : ∀ k, k < n → COK P Gd (callF Q k)) {args : List MV} {st st1 : DS} {l : List MV} (h1 : entry m args = some st) (h2 : run Q n [.code m.body] st = some st1) (h3 : leave m.results st1 = some l) :
    FunOK P Gd f args (result l) := by
  intro E vs hG good hr hp
  have hlen := hr.length
  refine .inl ⟨?_, ?_⟩
  · have hb : fn.body ≠ none := by rw [hf.body]; simp
    have hn : fn.name ≠ "runtime.NumGoroutine" := by simpa using hf.name
    simp [callFunc, hf.hfn, hn, hb]
  · intro cs
    let E0 : Env := { C := E.C, w := E.w, born := fun _ => False, len := fun _ => none, blk := fun _ => none, cap := fun _ => 0, sz := fun _ => 0 }
    let tmps : Array Value := vs.toArray ++ Array.replicate (fn.ntmps - vs.toArray.size) undef
    unfold entry at h1
    split at h1
    · rename_i hn
      have i0 : Inv (fun k => E.w.heap.size ≤ k) tm E0 ⟨[], [], [], 0⟩ tmps :=
        { len := fun o => rfl, objs := fun o x hx => by simp [look] at hx, sep := fun o o' b h => by simp [look] at h, ownb := fun o b h => by simp [look] at h, good := good, born := fun o h => by simp [look] at h, base := fun k hk => hk, T := fun n v h => by simp [look] at h, V := fun n v h => by simp [look] at h }
      have i1 := enter_ok i0 (RelL.bare (E := E) (E' := E0) rfl rfl hr hp) hp hf.par (fun j x hj => by
        rw [Nat.zero_add]
        have hlt : j < vs.toArray.size := by simpa using (List.getElem?_eq_some_iff.1 hj).1
        show (vs.toArray ++ Array.replicate (fn.ntmps - vs.toArray.size) undef)[j]? = some x
        rw [Array.getElem?_append_left hlt]
        simpa using hj) (fun j hj => by
        rw [Nat.zero_add]
        cases htj : tm j with
        | false => rfl
        | true => have := hf.tm j htj; omega) h1
      let b : Frame := { (default : Frame) with fn := f, kind := .normal }
      have henter : Frame.enter P f vs.toArray .normal = b.at { tmps := tmps, defers := [] } [.code c] := by
        simp [Frame.enter, Frame.at, hf.hfn, hf.body, b, tmps]
      have hsz : fn.ntmps ≤ tmps.size := by
        show fn.ntmps ≤ (vs.toArray ++ Array.replicate (fn.ntmps - vs.toArray.size) undef).size
        simp; omega
      obtain ⟨todo, a', E', hst, hfr, i2, hs2, hd⟩ := sim n hC (E := E0) (a := { tmps := tmps, defers := [] }) h2 (.code hf.code .nil) (Gd.same (own := fun k => E.w.heap.size ≤ k) (E := E) (E' := E0) rfl rfl ⟨hG, fun k hk => Nat.le_trans (Gd.lo E hG) hk⟩) i1 hsz (fun p hp => hp.elim) b cs
      obtain ⟨E2, xs, bs, hrun, hw2, f2, g2, r2, hbs⟩ := leave_ok hf.res i2 (lo := E.w.heap.size) (fun k hk => hk) h3
      have hw : E2.w = E'.w := hw2
      have hfr2 := hfr.trans f2
      have hres := mapM_array (P := P) (resF a'.tmps) fn.results hrun
      refine ⟨.returned (if h : xs.toArray.size = 1 then xs.toArray[0] else .tuple xs.toArray), E'.w, { b.at a' todo with mode := .returning }, ⟨_, rfl, E2.C, ?_, ?_, ?_⟩, ?_, rfl, ?_⟩
      · refine ⟨⟨hfr2.C, fun b i h => ?_, fun _ h => h, fun _ _ _ h => ⟨h, rfl, rfl, rfl⟩⟩, ?_, ?_, ?_, ?_, fun k hk hn => ?_, hfr2.com⟩
        · have := hfr2.cell b i h; rw [hw] at this; exact this
        · have := hfr2.os; rw [hw] at this; exact this
        · have := hfr2.tape; rw [hw] at this; exact this
        · have := hfr2.output; rw [hw] at this; exact this
        · have := hfr2.size; rw [hw] at this; exact this
        · have := hfr2.block k hk hn; rw [hw] at this; exact this
      · intro k hk
        have := g2 k hk
        rw [hw] at this; exact this
      · have r3 : RetL (E.next E2.C E'.w) E.w.heap.size l xs bs := r2.bare (E := E2) (E' := E.next E2.C E'.w) rfl hw.symm
        cases r3 with
        | nil => exact ⟨[], [], rfl, .nil⟩
        | cons ha hb hc =>
          cases hb with
          | nil => simpa [result] using ha.ret
          | cons hb1 hb2 hb3 =>
            refine ⟨_, _, ?_, .cons ha (.cons hb1 hb2 hb3) hc⟩
            simp
      · rw [henter]; exact hst
      · refine ⟨rfl, hd, rfl, fn, hf.hfn, ?_⟩
        show (results fn a'.tmps).run P E'.w = _
        have e : results fn a'.tmps = (do let vs ← fn.results.mapM (resF a'.tmps); pure (if h : vs.size = 1 then vs[0] else .tuple vs)) := rfl
        rw [e]
        simp only [Sem.run_bind, hres, Result.andThen_ok, Sem.run_pure]
    · cases h1
structure ProgOK (P : Program) (Gd : Ground) (Q : Prog) : Prop where
  fn : ∀ f m, Q.prim f = none → Q.fn f = some m → ∃ fn c tm, FnOK P f m fn c tm
  prim : ∀ f g, Q.prim f = some g → ∀ args r, g args = some r → FunOK P Gd f args r
theorem cok {Gd : Ground} (hQ : ProgOK P Gd Q) (n : Nat) : COK P Gd (callF Q n) := by
  induction n using Nat.strongRecOn with
  | _ n ih =>
    intro f args r h
    cases n with
    | zero => simp [callF] at h
    | succ n =>
      simp only [callF] at h
      split at h
      · rename_i g hg
        exact hQ.prim f g hg args r h
      · rename_i hp
        split at h
        · cases h
        · rename_i m hm
          obtain ⟨fn, c, tm, hf⟩ := hQ.fn f m hp hm
          split at h
          · cases h
          · rename_i st h1
            split at h
            · cases h
            · rename_i st1 h2
              split at h
              · rename_i l h3
                cases h
                exact fun_ok hf (fun k hk => ih k (by omega)) h1 h2 h3
              · cases h
theorem call_ok {Gd : Ground} (hQ : ProgOK P Gd Q) {f : FuncId} {args : List MV} {r : MV} (h : Call Q f args = some r) : FunOK P Gd f args r := by
  obtain ⟨n, hn⟩ := Call_iff.1 h
  exact cok hQ n f args r hn
end Go.Mini
/- Mini against the model: is it this function? One closed fact a function. -/
namespace Go.Mini
open Go
section
variable (P : Program) (tm : Nat → Bool) (nt : Nat)
def keepB (keep : List (Nat × KMode)) : Bool :=
  keep.all fun k => decide (k.1 < nt) && !tm k.1 && (match k.2 with | .ownE s => decide (0 < s) | _ => true)
abbrev Ks := List (List (Nat × KMode))
abbrev Ps := List (List (List Nat))
def trC : Ks → Ps → Code → Option (MCode × Ks × Ps)
  | ks, ps, .skip => some (.skip, ks, ps)
  | ks, ps, .label _ => some (.skip, ks, ps)
  | ks, ps, .region _ ops false => match trOpers P tm nt ops ops.toList with
    | some l => some (.rg l, ks, ps)
    | none => none
  | ks, p :: ps, .region _ ops true => match preOKs p 0 ops.toList && P.follows .mixedOrders, trOpers P tm nt ops ops.toList with
    | true, some l => some (.rgd l p, ks, ps)
    | _, _ => none
  | ks, ps, .seq a b => match trC ks ps a with
    | some (a', ks1, ps1) => match trC ks1 ps1 b with
      | some (b', ks2, ps2) => some (.seq a' b', ks2, ps2)
      | none => none
    | none => none
  | ks, ps, .cond c a b => match trX tm c, trC ks ps a with
    | some c', some (a', ks1, ps1) => match trC ks1 ps1 b with
      | some (b', ks2, ps2) => some (.cond c' a' b', ks2, ps2)
      | none => none
    | _, _ => none
  | ks, ps, .block i b => match trC ks ps b with
    | some (b', ks1, ps1) => some (.block i b', ks1, ps1)
    | none => none
  | k :: ks, ps, .loop b => match keepB tm nt k, trC ks ps b with
    | true, some (b', ks1, ps1) => some (.loop k b', ks1, ps1)
    | _, _ => none
  | ks, ps, .exit i => some (.exit i, ks, ps)
  | ks, ps, .scope b => match trC ks ps b with
    | some (b', ks1, ps1) => some (.scope b', ks1, ps1)
    | none => none
  | ks, ps, .ret => some (.ret, ks, ps)
  | _, _, _ => none
theorem trC_ok : ∀ {c : Code} {ks : Ks} {ps : Ps} {m : MCode} {ks' : Ks} {ps' : Ps}, trC P tm nt ks ps c = some (m, ks', ps') → trCode P tm nt c m := by
  intro c
  induction c with
  | skip => intro ks ps m ks' ps' h; simp only [trC, Option.some.injEq, Prod.mk.injEq] at h; rw [← h.1]; trivial
  | label l => intro ks ps m ks' ps' h; simp only [trC, Option.some.injEq, Prod.mk.injEq] at h; rw [← h.1]; trivial
  | region id ops dr =>
    intro ks ps m ks' ps' h
    cases dr with
    | false =>
      simp only [trC] at h
      split at h
      · rename_i l hl; simp only [Option.some.injEq, Prod.mk.injEq] at h; rw [← h.1]; exact hl
      · cases h
    | true =>
      cases ps with
      | nil => simp [trC] at h
      | cons p ps =>
        simp only [trC] at h
        split at h
        · rename_i l hp hl
          simp only [Option.some.injEq, Prod.mk.injEq] at h
          rw [← h.1]
          simp only [Bool.and_eq_true] at hp
          exact ⟨hl, hp.1, hp.2⟩
        · cases h
  | seq a b iha ihb =>
    intro ks ps m ks' ps' h
    simp only [trC] at h
    split at h
    · rename_i a' ks1 ps1 ha
      split at h
      · rename_i b' ks2 ps2 hb
        simp only [Option.some.injEq, Prod.mk.injEq] at h
        rw [← h.1]
        exact ⟨iha ha, ihb hb⟩
      · cases h
    · cases h
  | cond c a b iha ihb =>
    intro ks ps m ks' ps' h
    simp only [trC] at h
    split at h
    · rename_i c' a' ks1 ps1 hc ha
      split at h
      · rename_i b' ks2 ps2 hb
        simp only [Option.some.injEq, Prod.mk.injEq] at h
        rw [← h.1]
        exact ⟨hc, iha ha, ihb hb⟩
      · cases h
    · cases h
  | block i b ih =>
    intro ks ps m ks' ps' h
    simp only [trC] at h
    split at h
    · rename_i b' ks1 ps1 hb
      simp only [Option.some.injEq, Prod.mk.injEq] at h
      rw [← h.1]
      exact ⟨rfl, ih hb⟩
    · cases h
  | loop b ih =>
    intro ks ps m ks' ps' h
    cases ks with
    | nil => simp [trC] at h
    | cons k ks =>
      simp only [trC] at h
      split at h
      · rename_i b' ks1 ps1 hk hb
        simp only [Option.some.injEq, Prod.mk.injEq] at h
        rw [← h.1]
        exact ⟨hk, ih hb⟩
      · cases h
  | exit i => intro ks ps m ks' ps' h; simp only [trC, Option.some.injEq, Prod.mk.injEq] at h; rw [← h.1]; exact rfl
  | scope b ih =>
    intro ks ps m ks' ps' h
    simp only [trC] at h
    split at h
    · rename_i b' ks1 ps1 hb
      simp only [Option.some.injEq, Prod.mk.injEq] at h
      rw [← h.1]
      exact ih hb
    · cases h
  | ret => intro ks ps m ks' ps' h; simp only [trC, Option.some.injEq, Prod.mk.injEq] at h; rw [← h.1]; trivial
  | _ => intro ks ps m ks' ps' h; simp [trC] at h
end
def pkB : PK → Bool
  | .el s => decide (0 < s)
  | .ownE s => decide (0 < s)
  | _ => true
def resB (P : Program) (tm : Nat → Bool) : List ResultVar → List (Nat × Option (Bool × Nat) × PK) → Bool
  | [], [] => true
  | .tmp t :: r, (n, none, k) :: l => decide (t = n) && !tm n && pkB k && resB P tm r l
  | .cell a t :: r, (n, some (g, s), k) :: l => decide (a = n) && !tm n && (match aggT P t with | some g' => g' == g | none => false) && (match sizeT P t with | some s' => decide (s' = s) | none => false) && pkB k && resB P tm r l
  | _, _ => false
theorem pkB_ok {k : PK} (h : pkB k = true) : pkOK k := by
  cases k <;> first | trivial | simpa [pkB, pkOK] using h
theorem resB_ok {P : Program} {tm : Nat → Bool} : ∀ {res : List ResultVar} {rs : List (Nat × Option (Bool × Nat) × PK)}, resB P tm res rs = true → resOK P tm res rs
  | [], [], _ => trivial
  | .tmp t :: r, (n, none, k) :: l, h => by
    simp only [resB, Bool.and_eq_true, decide_eq_true_eq, Bool.not_eq_true'] at h
    exact ⟨h.1.1.1, h.1.1.2, pkB_ok h.1.2, resB_ok h.2⟩
  | .cell a t :: r, (n, some (g, s), k) :: l, h => by
    simp only [resB, Bool.and_eq_true, decide_eq_true_eq, Bool.not_eq_true'] at h
    obtain ⟨⟨⟨⟨⟨h1, h2⟩, h3⟩, h4⟩, h5⟩, h6⟩ := h
    refine ⟨h1, h2, ?_, ?_, pkB_ok h5, resB_ok h6⟩
    · split at h3
      · rename_i g' hg; rw [hg]; simpa using h3
      · cases h3
    · split at h4
      · rename_i s' hs; rw [hs]; simpa using h4
      · cases h4
  | [], _ :: _, h => by simp [resB] at h
  | .tmp _ :: _, [], h => by simp [resB] at h
  | .cell _ _ :: _, [], h => by simp [resB] at h
  | .tmp _ :: _, (_, some _, _) :: _, h => by simp [resB] at h
  | .cell _ _ :: _, (_, none, _) :: _, h => by simp [resB] at h
def okFn (P : Program) (f : FuncId) (T : List Nat) (ks : Ks) (ps : Ps) (nargs : Nat) (params : List PK) (results : List (Nat × Option (Bool × Nat) × PK)) : Option MCode :=
  match P.funcs[f]? with
  | none => none
  | some fn => match fn.body with
    | none => none
    | some c => match !(fn.name == "runtime.NumGoroutine") && resB P (has T) fn.results.toList results && params.all pkB && T.all (fun n => decide (nargs ≤ n)) with
      | true => match trC P (has T) fn.ntmps ks ps c with
        | some (m, _, _) => some m
        | none => none
      | false => none
theorem okFn_ok {P : Program} {f : FuncId} {T : List Nat} {ks : Ks} {ps : Ps} {m : MFunc} (h : okFn P f T ks ps m.nargs m.params m.results = some m.body) : ∃ fn c tm, FnOK P f m fn c tm := by
  unfold okFn at h
  split at h
  · cases h
  · rename_i fn hf
    split at h
    · cases h
    · rename_i c hc
      split at h
      · rename_i hb
        split at h
        · rename_i b ks' ps' ht
          simp only [Option.some.injEq] at h
          subst h
          simp only [Bool.and_eq_true, Bool.not_eq_true', List.all_eq_true, decide_eq_true_eq] at hb
          obtain ⟨⟨⟨h1, h2⟩, h3⟩, h4⟩ := hb
          exact ⟨fn, c, has T, hf, h1, hc, trC_ok P _ _ ht, resB_ok h2, fun p hp => pkB_ok (h3 p hp), fun n hn => h4 n (has_iff.1 hn)⟩
        · cases h
      · cases h
def MCode.keeps : MCode → Ks
  | .seq a b => a.keeps ++ b.keeps
  | .cond _ a b => a.keeps ++ b.keeps
  | .block _ b => b.keeps
  | .loop k b => k :: b.keeps
  | .scope b => b.keeps
  | _ => []
def MCode.pres : MCode → Ps
  | .rgd _ p => [p]
  | .seq a b => a.pres ++ b.pres
  | .cond _ a b => a.pres ++ b.pres
  | .block _ b => b.pres
  | .loop _ b => b.pres
  | .scope b => b.pres
  | _ => []
def dstT (o : MOper) : List Nat := match o.dst with
  | some (.t n) => [n]
  | _ => []
def MCode.temps : MCode → List Nat
  | .rg l => l.flatMap dstT
  | .rgd l _ => l.flatMap dstT
  | .seq a b => a.temps ++ b.temps
  | .cond _ a b => a.temps ++ b.temps
  | .block _ b => b.temps
  | .loop _ b => b.temps
  | .scope b => b.temps
  | _ => []
def okE (P : Program) (f : FuncId) (m : MFunc) : Option MCode := okFn P f m.body.temps m.body.keeps m.body.pres m.nargs m.params m.results
theorem okE_ok {P : Program} {f : FuncId} {m : MFunc} (h : okE P f m = some m.body) : ∃ fn c tm, FnOK P f m fn c tm := okFn_ok h
end Go.Mini
/- Mini's values out of what a row's arguments read as. -/
namespace Go.Mini
open Go Go.RowKit
inductive CTy where
  | int (k : IntKind) | bool | str | bytes | sl (agg : Bool) (es : List CTy)
mutual
inductive HasC : CTy → MV → Prop
  | int {k n} (h0 : k.min ≤ n) (h1 : n ≤ k.max) : HasC (.int k) (.int k n)
  | bool {b} : HasC .bool (.bool b)
  | str {s} (h : s.length ≤ reachBytes) : HasC .str (.str s)
  | bnil : HasC .bytes .nilsl
  | bytes {l} (h : l.length ≤ reachBytes) : HasC .bytes (.bs l)
  | snil {g es} : HasC (.sl g es) .nilsl
  | sl {g es l} (h : l.length ≤ reachBytes) (hl : ∀ e ∈ l, HasE g es e) : HasC (.sl g es) (.sl es.length l)
inductive HasE : Bool → List CTy → MV → Prop
  | one {c v} (h : HasC c v) : HasE false [c] v
  | agg {es l} (h : HasL es l) : HasE true es (.agg l)
inductive HasL : List CTy → List MV → Prop
  | nil : HasL [] []
  | cons {c v cs vs} (h : HasC c v) (r : HasL cs vs) : HasL (c :: cs) (v :: vs)
end
theorem HasL.length : ∀ {cs vs}, HasL cs vs → vs.length = cs.length
  | _, _, .nil => rfl
  | _, _, .cons _ r => by simp [r.length]
theorem HasL.append : ∀ {cs vs ds us}, HasL cs vs → HasL ds us → HasL (cs ++ ds) (vs ++ us)
  | _, _, _, _, .nil, h => h
  | _, _, _, _, .cons h r, k => .cons h (r.append k)
mutual
theorem HasC.ok : ∀ {c v}, HasC c v → v.cell = true ∧ Pure v
  | _, _, .int _ _ => ⟨rfl, .int⟩
  | _, _, .bool => ⟨rfl, .bool⟩
  | _, _, .str _ => ⟨rfl, .str⟩
  | _, _, .bnil => ⟨rfl, .nilsl⟩
  | _, _, .bytes _ => ⟨rfl, .bs⟩
  | _, _, .snil => ⟨rfl, .nilsl⟩
  | _, _, .sl _ hl => ⟨rfl, .sl fun e he => HasE.pure (hl e he)⟩
theorem HasE.pure : ∀ {g es e}, HasE g es e → Pure e
  | _, _, _, .one h => (HasC.ok h).2
  | _, _, _, .agg h => .agg (HasL.pure h)
theorem HasL.pure : ∀ {cs vs}, HasL cs vs → ∀ v ∈ vs, Pure v
  | _, _, .nil => by simp
  | _, _, .cons h r => by
    intro v hv
    rcases List.mem_cons.1 hv with rfl | hv
    · exact (HasC.ok h).2
    · exact HasL.pure r v hv
end
theorem HasL.cell : ∀ {cs vs}, HasL cs vs → ∀ v ∈ vs, v.cell = true
  | _, _, .nil => by simp
  | _, _, .cons h r => by
    intro v hv
    rcases List.mem_cons.1 hv with rfl | hv
    · exact h.ok.1
    · exact r.cell v hv
theorem HasE.cells : ∀ {g es e}, HasE g es e → HasL es e.cells
  | _, _, _, .one h => by rw [MV.cells_cell h.ok.1]; exact .cons h .nil
  | _, _, _, .agg h => h
def ctysF (P : Program) (g : TypeId → Option (List CTy)) : Nat → List Field → Option (List CTy)
  | _, [] => some []
  | off, f :: r => if f.offset = off then match g f.type with
      | some es => if P.cellsOf f.type = es.length then match ctysF P g (off + es.length) r with
          | some l => some (es ++ l)
          | none => none
        else none
      | none => none
    else none
def ctys (P : Program) : Nat → TypeId → Option (List CTy)
  | 0, _ => none
  | n + 1, t => match P.underlying t with
    | some (.int k) => some [.int k]
    | some .bool => some [.bool]
    | some .string => some [.str]
    | some (.slice e) => if isByteT P e = true then (if P.cellsOf e = 1 ∧ 0 < P.bytesOf e then some [.bytes] else none)
      else match ctys P n e, aggT P e with
        | some es, some true => if P.cellsOf e = es.length ∧ 0 < es.length ∧ 0 < P.bytesOf e then some [.sl true es] else none
        | some [c], some false => if P.cellsOf e = 1 ∧ 0 < P.bytesOf e then some [.sl false [c]] else none
        | _, _ => none
    | some (.struct fs) => match ctysF P (ctys P n) 0 fs.toList with
      | some l => if P.cellsOf t = l.length then some l else none
      | none => none
    | some (.array m e) => match ctys P n e with
      | some es => if P.cellsOf e = es.length ∧ P.cellsOf t = m * es.length then some (List.replicate m es).flatten else none
      | none => none
    | _ => none
section
variable {H : Type} {enc : TypeId × Value → H} {P : Program} {E : Env} {base : Nat} {sp : Nat → Bool} {held : Bool}
def Env.whole (E : Env) : Prop := ∀ (b : Nat) (c : Array Value) e fr, E.w.heap[b]? = some (.cells c e fr) → c.size ≤ E.C b
theorem cells_get {w : World} {a : Addr} {n : Nat} {cs : List Value} (h : w.cells? base a n = some cs) : cs.length = n ∧ ∀ (i : Nat) (v : Value), cs[i]? = some v → w.cell? (a.add i) = some v := by
  unfold World.cells? at h
  split at h
  · have key : ∀ (k m : Nat) {l : List Value}, (List.range' k m).mapM (fun i => w.cell? (a.add i)) = some l → l.length = m ∧ ∀ (i : Nat) (v : Value), l[i]? = some v → w.cell? (a.add (k + i)) = some v := by
      intro k m
      induction m generalizing k with
      | zero => intro l h; simp at h; subst h; simp
      | succ m ih =>
        intro l h
        rw [List.range'_succ, List.mapM_cons] at h
        simp only [Option.pure_def, Option.bind_eq_bind, Option.bind_eq_some_iff] at h
        obtain ⟨x, hx, r, hr, h⟩ := h
        cases h
        obtain ⟨h1, h2⟩ := ih (k + 1) hr
        refine ⟨by simp [h1], fun i v hv => ?_⟩
        cases i with
        | zero => simp at hv; subst hv; exact hx
        | succ i =>
          have := h2 i v (by simpa using hv)
          rw [show k + (i + 1) = k + 1 + i by omega]; exact this
    rw [List.range_eq_range'] at h
    obtain ⟨h1, h2⟩ := key 0 n h
    exact ⟨h1, fun i v hv => by have := h2 i v hv; simpa using this⟩
  · cases h
theorem cell_inside {w : World} {a : Addr} {v : Value} (h : w.cell? a = some v) : a.spot = none ∧ ∃ c e fr, w.heap[a.block]? = some (.cells c e fr) ∧ a.off < c.size := by
  obtain ⟨b, o, s⟩ := a
  unfold World.cell? at h
  simp only at h ⊢
  cases hh : w.heap[b]? with
  | none => rw [hh] at h; cases h
  | some ob =>
    rw [hh] at h
    cases ob with
    | cells c e fr =>
      obtain ⟨x, y⟩ := fr
      simp only at h
      cases s with
      | some s => simp at h
      | none =>
        simp only [Option.isSome_none, Bool.false_eq_true, if_false] at h
        exact ⟨rfl, c, e, (x, y), rfl, (Array.getElem?_eq_some_iff.1 h).1⟩
    | _ => cases h
theorem cells_whole (hE : E.whole) {a : Addr} {vs : List Value} (hne : vs ≠ []) (h : ∀ (i : Nat) (v : Value), vs[i]? = some v → E.w.cell? (a.add i) = some v) : Cells E a vs := by
  have hp : 0 < vs.length := List.length_pos_iff.2 hne
  have h0 := cell_inside (h 0 _ (List.getElem?_eq_getElem hp))
  have hl := cell_inside (h (vs.length - 1) _ (List.getElem?_eq_getElem (by omega)))
  obtain ⟨b, o, s⟩ := a
  have hspot : s = none := by have := h0.1; simpa [Addr.add] using this
  subst hspot
  obtain ⟨_, c, e, fr, hh, hlt⟩ := hl
  rw [add_mk] at hh hlt
  have := hE _ c e fr hh
  refine ⟨rfl, ?_, fun i v hv => ?_⟩
  · show o + vs.length ≤ E.C b
    simp only at hlt this
    omega
  · have := h i v hv
    rw [add_mk] at this; exact this
theorem elem_of {g : Bool} {es : List CTy} {ms : List MV} (h : HasL es ms) (hg : g = true ∨ ∃ c, es = [c]) : ∃ e, HasE g es e ∧ e.cells = ms := by
  cases g with
  | true => exact ⟨.agg ms, .agg h, rfl⟩
  | false =>
    rcases hg with hg | ⟨c, rfl⟩
    · cases hg
    · cases h with
      | cons h1 h2 =>
        cases h2
        exact ⟨_, .one h1, MV.cells_cell h1.ok.1⟩
theorem rows_ok {w : World} {a : Addr} {s len : Nat} {css : List (List Value)} (hl : css.length = len) (h : ∀ i cs, css[i]? = some cs → cs.length = s ∧ ∀ (j : Nat) (v : Value), cs[j]? = some v → w.cell? ((a.add (i * s)).add j) = some v) (hs : a.spot = none) :
    ∀ (k : Nat) (v : Value), css.flatten[k]? = some v → w.cell? (a.add k) = some v := by
  obtain ⟨b, o, sp⟩ := a
  simp at hs
  subst hs
  have key : ∀ (css : List (List Value)) (i0 : Nat), (∀ i cs, css[i]? = some cs → cs.length = s ∧ ∀ (j : Nat) (v : Value), cs[j]? = some v → w.cell? ⟨b, o + (i0 + i) * s + j, none⟩ = some v) →
      ∀ (k : Nat) (v : Value), css.flatten[k]? = some v → w.cell? ⟨b, o + i0 * s + k, none⟩ = some v := by
    intro css
    induction css with
    | nil => intro i0 _ k v hv; simp at hv
    | cons cs r ih =>
      intro i0 h k v hv
      obtain ⟨h1, h2⟩ := h 0 cs rfl
      rw [List.flatten_cons, List.getElem?_append] at hv
      split at hv
      · have := h2 k v hv; simpa using this
      · rename_i hk
        have := ih (i0 + 1) (fun i cs' hcs => by
          obtain ⟨a1, a2⟩ := h (i + 1) cs' (by simpa using hcs)
          refine ⟨a1, fun j v hv => ?_⟩
          have := a2 j v hv
          rw [show i0 + (i + 1) = i0 + 1 + i by omega] at this; exact this) (k - cs.length) v hv
        rw [Nat.add_mul, Nat.one_mul] at this
        rw [h1] at this hk
        rw [show o + (i0 * s + s) + (k - s) = o + i0 * s + k by omega] at this
        exact this
  intro k v hv
  rw [add_mk]
  have := key css 0 (fun i cs hcs => by
    obtain ⟨a1, a2⟩ := h i cs hcs
    refine ⟨a1, fun j v hv => ?_⟩
    have := a2 j v hv
    rw [add_mk, add_mk] at this
    simpa using this) k v hv
  simpa using this
theorem choose_list {X : Type} {p : Nat → X → Prop} : ∀ (n : Nat), (∀ i, i < n → ∃ x, p i x) → ∃ l : List X, l.length = n ∧ ∀ (i : Nat) (x : X), l[i]? = some x → p i x
  | 0, _ => ⟨[], rfl, by simp⟩
  | n + 1, h => by
    obtain ⟨l, hl, hp⟩ := choose_list n fun i hi => h i (by omega)
    obtain ⟨x, hx⟩ := h n (by omega)
    refine ⟨l ++ [x], by simp [hl], fun i y hy => ?_⟩
    rw [List.getElem?_append] at hy
    split at hy
    · exact hp i y hy
    · rename_i hi
      have hin : i = n := by
        have := (List.getElem?_eq_some_iff.1 hy).1
        simp at this
        omega
      subst hin
      simp [hl] at hy
      subst hy; exact hx
theorem bytes_weight {P : Program} {t e : TypeId} {elems spare : List (DataW H)} (ht : P.underlying t = some (.slice e)) (hb : 0 < P.bytesOf e) (hw : ∀ m ∈ (DataW.slice elems spare).weights P t, m ≤ reachBytes) : elems.length ≤ reachBytes := by
  have h1 := hw ((elems.length + spare.length) * P.bytesOf e) (by simp [DataW.weights, ht])
  have : elems.length ≤ (elems.length + spare.length) * P.bytesOf e := Nat.le_trans (Nat.le_add_right _ _) (Nat.le_mul_of_pos_right _ hb)
  omega
theorem elem_weight {P : Program} {t e : TypeId} {elems spare : List (DataW H)} (ht : P.underlying t = some (.slice e)) (hw : ∀ m ∈ (DataW.slice elems spare).weights P t, m ≤ reachBytes) {d : DataW H} (hd : d ∈ elems) : ∀ m ∈ d.weights P e, m ≤ reachBytes := by
  intro m hm
  refine hw m ?_
  simp only [DataW.weights, ht]
  refine List.mem_cons_of_mem _ (List.mem_append_left _ ?_)
  clear hw
  induction elems with
  | nil => cases hd
  | cons x r ih =>
    simp only [DataW.weightsAll]
    rcases List.mem_cons.1 hd with rfl | hd
    · exact List.mem_append_left _ hm
    · exact List.mem_append_right _ (ih hd)
theorem reach62 {n : Nat} (h : n ≤ reachBytes) : n < 2 ^ 62 := by
  have : reachBytes = 140737488351232 := by decide
  omega
theorem open_elems (hE : E.whole) {a : Addr} {len cap : Nat} {g : Bool} {es : List CTy} (h0 : 0 < es.length) (hcap : len ≤ cap) (hlen : len ≤ reachBytes)
    (h : ∀ i, i < len → ∃ x : List Value × MV, E.w.cells? base (a.add (i * es.length)) es.length = some x.1 ∧ RelL E x.2.cells x.1 ∧ HasE g es x.2) :
    ∃ ms, RelL E ms [.slice (some a) len cap] ∧ HasL [.sl g es] ms := by
  obtain ⟨l, hl, hp⟩ := choose_list len h
  have hle : (l.map (·.2)).length = len := by simp [hl]
  have hu : Uni es.length (l.map (·.2)) := by
    intro e he
    obtain ⟨x, hx, rfl⟩ := List.mem_map.1 he
    obtain ⟨i, hi, hxi⟩ := List.mem_iff_getElem.1 hx
    obtain ⟨_, _, h3⟩ := hp i x (by rw [List.getElem?_eq_getElem hi, hxi])
    exact ⟨h3.cells.length, h3.cells.cell, h3.pure⟩
  have hr : RelL E ((l.map (·.2)).flatMap MV.cells) (l.map (·.1)).flatten := by
    have : ∀ (l : List (List Value × MV)), (∀ x ∈ l, RelL E x.2.cells x.1) → RelL E ((l.map (·.2)).flatMap MV.cells) (l.map (·.1)).flatten := by
      intro l
      induction l with
      | nil => intro _; exact .nil
      | cons x r ih => intro h; exact (h x (by simp)).append (ih fun y hy => h y (by simp [hy]))
    refine this l fun x hx => ?_
    obtain ⟨i, hi, hxi⟩ := List.mem_iff_getElem.1 hx
    exact (hp i x (by rw [List.getElem?_eq_getElem hi, hxi])).2.1
  refine ⟨[.sl es.length (l.map (·.2))], .cons ?_ .nil, .cons (.sl (by rw [hle]; exact hlen) fun e he => ?_) .nil⟩
  · rw [← hle]
    refine .sl (by rw [hle]; exact hcap) (by rw [hle]; exact reach62 hlen) h0 hu hr fun hne => ⟨a, rfl, ?_⟩
    have hlen0 : 0 < l.length := by
      cases l with
      | nil => exact (hne rfl).elim
      | cons => simp
    have hrow : ∀ i cs, (l.map (·.1))[i]? = some cs → cs.length = es.length ∧ ∀ (j : Nat) (v : Value), cs[j]? = some v → E.w.cell? ((a.add (i * es.length)).add j) = some v := by
      intro i cs hcs
      rw [List.getElem?_map] at hcs
      cases hx : l[i]? with
      | none => rw [hx] at hcs; cases hcs
      | some x =>
        rw [hx] at hcs
        cases hcs
        exact cells_get (hp i x hx).1
    have hspot : a.spot = none := by
      obtain ⟨h1, h2⟩ := hrow 0 (l[0].1) (by rw [List.getElem?_map, List.getElem?_eq_getElem hlen0]; rfl)
      have hc : 0 < l[0].1.length := by omega
      have := (cell_inside (h2 0 _ (List.getElem?_eq_getElem hc))).1
      obtain ⟨b, o, s⟩ := a
      simpa [Addr.add] using this
    refine cells_whole hE ?_ (rows_ok (len := l.length) (by simp) hrow hspot)
    intro hnil
    have := hr.length
    rw [hnil, flat_len fun e he => (hu e he).1] at this
    simp only [List.length_nil, List.length_map] at this
    have := Nat.mul_pos hlen0 h0
    omega
  · obtain ⟨x, hx, rfl⟩ := List.mem_map.1 he
    obtain ⟨i, hi, hxi⟩ := List.mem_iff_getElem.1 hx
    exact (hp i x (by rw [List.getElem?_eq_getElem hi, hxi])).2.2
theorem open_bytes (hE : E.whole) {a : Addr} {len cap : Nat} (hcap : len ≤ cap) (hlen : len ≤ reachBytes) (h : ∀ i, i < len → ∃ b, E.w.cell? (a.add i) = some (byteV b)) :
    ∃ ms, RelL E ms [.slice (some a) len cap] ∧ HasL [.bytes] ms := by
  obtain ⟨l, hl, hp⟩ := choose_list len h
  refine ⟨[.bs l], .cons ?_ .nil, .cons (.bytes (by omega)) .nil⟩
  rw [← hl]
  refine .bs (by omega) (reach62 (by omega)) fun hne => ⟨a, rfl, cells_whole hE (by simpa using hne) fun i v hv => ?_⟩
  rw [List.getElem?_map] at hv
  cases hx : l[i]? with
  | none => rw [hx] at hv; cases hv
  | some b => rw [hx] at hv; cases hv; exact hp i b hx
end
end Go.Mini
/- Mini's values out of what a row's arguments read as: any plain data. -/
namespace Go.Mini
open Go Go.RowKit
section
variable {H : Type} {enc : TypeId × Value → H} {P : Program} {E : Env} {base : Nat} {sp : Nat → Bool} {held : Bool}
theorem byte_of {n : Int} (h : (Lit.int .u8 n).wf = true) : ∃ b : UInt8, Value.int .u8 n = byteV b := by
  simp only [Lit.wf, Bool.and_eq_true, decide_eq_true_eq, IntKind.min, IntKind.max, IntKind.signed, IntKind.bits] at h
  refine ⟨UInt8.ofNat n.toNat, ?_⟩
  have h1 : 0 ≤ n ∧ n ≤ 255 := by simpa using h
  unfold byteV
  congr 1
  rw [UInt8.toNat_ofNat']
  omega
theorem wf_range {k : IntKind} {n : Int} (h : (Lit.int k n).wf = true) : k.min ≤ n ∧ n ≤ k.max := by
  simpa [Lit.wf] using h
theorem take_drop_split {vs : List Value} {off s : Nat} : vs.drop off = (vs.drop off).take s ++ vs.drop (off + s) := by
  rw [← List.drop_drop]; exact (List.take_append_drop s _).symm
theorem open_fields {n : Nat} (ih : ∀ {t : TypeId} {cts : List CTy}, ctys P n t = some cts → ∀ {fuel : Nat} {cs : List Value} {d : DataW H} {ps : List MemPlace}, DataW.trod enc P E.w base sp held fuel t cs = some (d, ps) → (∀ m ∈ d.weights P t, m ≤ reachBytes) → ∃ ms, RelL E ms cs ∧ HasL cts ms)
    {cs : List Value} {fuel : Nat} : ∀ {fs : List Field} {off : Nat} {l : List CTy} {xs : List (DataW H × List MemPlace)}, ctysF P (ctys P n) off fs = some l → xs.length = fs.length → cs.length = off + l.length →
      (∀ (i : Nat) (f : Field), fs[i]? = some f → DataW.trod enc P E.w base sp held fuel f.type ((cs.drop f.offset).take (P.cellsOf f.type)) = xs[i]?) →
      (∀ m ∈ DataW.weightsEach P (fs.map (·.type)) (xs.map (·.1)), m ≤ reachBytes) → ∃ ms, RelL E ms (cs.drop off) ∧ HasL l ms
  | [], off, l, xs, h, _, hc, _, _ => by
    simp only [ctysF, Option.some.injEq] at h
    subst h
    have : cs.drop off = [] := List.drop_eq_nil_of_le (by simp at hc; omega)
    rw [this]
    exact ⟨[], .nil, .nil⟩
  | f :: fs, off, l, xs, h, hx, hc, ht, hw => by
    simp only [ctysF] at h
    split at h
    · rename_i hoff
      split at h
      · rename_i es hes
        split at h
        · rename_i hcell
          split at h
          · rename_i r hr
            cases h
            cases xs with
            | nil => simp at hx
            | cons x xs =>
              have h0 := ht 0 f rfl
              simp only [List.getElem?_cons_zero] at h0
              simp only [List.map_cons, DataW.weightsEach] at hw
              obtain ⟨ms, hm, hl⟩ := ih hes (d := x.1) (ps := x.2) h0 (fun m hm => hw m (List.mem_append_left _ hm))
              obtain ⟨ms', hm', hl'⟩ := open_fields ih (fs := fs) (off := off + es.length) (l := r) (xs := xs) hr (by simpa using hx) (by rw [hc, List.length_append]; omega) (fun i f' hf' => by
                have := ht (i + 1) f' (by simpa using hf')
                simpa using this) (fun m hm => hw m (List.mem_append_right _ hm))
              refine ⟨ms ++ ms', ?_, hl.append hl'⟩
              rw [take_drop_split (s := es.length)]
              rw [hoff, hcell] at hm
              exact hm.append hm'
          · cases h
        · cases h
      · cases h
    · cases h
theorem open_array {n : Nat} (ih : ∀ {t : TypeId} {cts : List CTy}, ctys P n t = some cts → ∀ {fuel : Nat} {cs : List Value} {d : DataW H} {ps : List MemPlace}, DataW.trod enc P E.w base sp held fuel t cs = some (d, ps) → (∀ m ∈ d.weights P t, m ≤ reachBytes) → ∃ ms, RelL E ms cs ∧ HasL cts ms)
    {cs : List Value} {fuel : Nat} {e : TypeId} {es : List CTy} (he : ctys P n e = some es) (hs : P.cellsOf e = es.length) : ∀ {m k : Nat} {xs : List (DataW H × List MemPlace)}, xs.length = m → cs.length = (k + m) * es.length →
      (∀ (i : Nat), i < m → DataW.trod enc P E.w base sp held fuel e ((cs.drop ((k + i) * es.length)).take es.length) = xs[i]?) →
      (∀ w ∈ DataW.weightsAll P e (xs.map (·.1)), w ≤ reachBytes) → ∃ ms, RelL E ms (cs.drop (k * es.length)) ∧ HasL (List.replicate m es).flatten ms
  | 0, k, xs, hx, hc, _, _ => by
    have : cs.drop (k * es.length) = [] := List.drop_eq_nil_of_le (by simp at hc; omega)
    rw [this]
    exact ⟨[], .nil, .nil⟩
  | m + 1, k, xs, hx, hc, ht, hw => by
    cases xs with
    | nil => simp at hx
    | cons x xs =>
      have h0 := ht 0 (by omega)
      simp only [List.getElem?_cons_zero, Nat.add_zero] at h0
      simp only [List.map_cons, DataW.weightsAll] at hw
      obtain ⟨ms, hm, hl⟩ := ih he (d := x.1) (ps := x.2) h0 (fun m hm => hw m (List.mem_append_left _ hm))
      obtain ⟨ms', hm', hl'⟩ := open_array ih he hs (m := m) (k := k + 1) (xs := xs) (by simpa using hx) (by rw [hc]; congr 1; omega) (fun i hi => by
        have := ht (i + 1) (by omega)
        rw [show k + (i + 1) = k + 1 + i by omega] at this
        simpa using this) (fun m hm => hw m (List.mem_append_right _ hm))
      refine ⟨ms ++ ms', ?_, ?_⟩
      · rw [take_drop_split (s := es.length)]
        rw [Nat.add_mul, Nat.one_mul] at hm'
        exact hm.append hm'
      · rw [List.replicate_succ, List.flatten_cons]
        exact hl.append hl'
theorem open_ok (hE : E.whole) : ∀ (n : Nat) {t : TypeId} {cts : List CTy}, ctys P n t = some cts → ∀ {fuel : Nat} {cs : List Value} {d : DataW H} {ps : List MemPlace}, DataW.trod enc P E.w base sp held fuel t cs = some (d, ps) → (∀ m ∈ d.weights P t, m ≤ reachBytes) →
    ∃ ms, RelL E ms cs ∧ HasL cts ms
  | 0, t, cts, h, fuel, cs, d, ps, _, _ => by simp [ctys] at h
  | n + 1, t, cts, h, fuel, cs, d, ps, ht, hw => by
    have ih := fun {t cts} (h : ctys P n t = some cts) {fuel cs d ps} => open_ok hE n h (fuel := fuel) (cs := cs) (d := d) (ps := ps)
    simp only [ctys] at h
    split at h
    · rename_i k hu
      cases h
      obtain ⟨m, rfl, hx, hwf⟩ := DataW.trod_int hu ht
      obtain ⟨a, b⟩ := wf_range hwf
      exact ⟨[.int k m], .cons (.int a b) .nil, .cons (.int a b) .nil⟩
    · rename_i hu
      cases h
      obtain ⟨b, rfl, hx⟩ := DataW.trod_bool hu ht
      exact ⟨[.bool b], .cons .bool .nil, .cons .bool .nil⟩
    · rename_i hu
      cases h
      obtain ⟨s, rfl, hx, _⟩ := DataW.trod_string hu ht
      cases hx
      have hl : s.data.toList.length ≤ reachBytes := hw _ (by simp [DataW.weights])
      refine ⟨[.str s.data.toList], .cons ?_ .nil, .cons (.str hl) .nil⟩
      have := RelV.str (E := E) (s := s.data.toList) (reach62 hl)
      simpa using this
    · rename_i e hu
      split at h
      · rename_i hb
        split at h
        · rename_i hc
          cases h
          rcases DataW.trod_slice hu ht with ⟨rfl, hx⟩ | ⟨a, len, cap, elems, rest, m, rfl, rfl, hx, _, hcap, _, hlen, hel, _, _⟩
          · exact ⟨[.nilsl], .cons .nilsl .nil, .cons .bnil .nil⟩
          · cases hx
            have hl := bytes_weight hu hc.2 hw
            rw [List.length_map, hlen] at hl
            refine open_bytes hE hcap hl fun i hi => ?_
            have h1 := hel i hi
            rw [hc.1, Nat.mul_one] at h1
            obtain ⟨x, hx⟩ : ∃ x, elems[i]? = some x := ⟨_, List.getElem?_eq_getElem (by omega)⟩
            rw [hx, Option.bind_eq_some_iff] at h1
            obtain ⟨cs, h2, h3⟩ := h1
            obtain ⟨v, rfl, _, hwf⟩ := DataW.trod_int (isByteT_ok hb) h3
            obtain ⟨b, hb⟩ := byte_of hwf
            have := (cells_get h2).2 0 _ rfl
            refine ⟨b, ?_⟩
            rw [hb] at this
            simpa [Addr.add] using this
        · cases h
      · have main : ∀ {g : Bool} {es : List CTy}, ctys P n e = some es → P.cellsOf e = es.length → 0 < es.length → 0 < P.bytesOf e → (g = true ∨ ∃ c, es = [c]) → ∃ ms, RelL E ms cs ∧ HasL [.sl g es] ms := by
          intro g es hes hcs h0 hb hg
          rcases DataW.trod_slice hu ht with ⟨rfl, hx⟩ | ⟨a, len, cap, elems, rest, m, rfl, rfl, hx, _, hcap, _, hlen, hel, _, _⟩
          · exact ⟨[.nilsl], .cons .nilsl .nil, .cons .snil .nil⟩
          · cases hx
            have hl := bytes_weight hu hb hw
            rw [List.length_map, hlen] at hl
            refine open_elems (base := base) hE h0 hcap hl fun i hi => ?_
            have h1 := hel i hi
            rw [hcs] at h1
            have hlt : i < elems.length := by omega
            rw [List.getElem?_eq_getElem hlt, Option.bind_eq_some_iff] at h1
            obtain ⟨cs, h2, h3⟩ := h1
            obtain ⟨ms, hm, hl⟩ := ih hes (d := elems[i].1) (ps := elems[i].2) h3 (elem_weight hu hw (List.mem_map.2 ⟨_, List.getElem_mem hlt, rfl⟩))
            obtain ⟨el, he, hce⟩ := elem_of hl hg
            exact ⟨(cs, el), h2, by rw [hce]; exact hm, he⟩
        split at h
        · rename_i es hes ha
          split at h
          · rename_i hc; cases h; exact main hes hc.1 hc.2.1 hc.2.2 (.inl rfl)
          · cases h
        · rename_i c hes ha
          split at h
          · rename_i hc; cases h; exact main hes (by simpa using hc.1) (by simp) hc.2 (.inr ⟨c, rfl⟩)
          · cases h
        · cases h
    · rename_i fs hu
      split at h
      · rename_i l hl
        split at h
        · rename_i hc
          cases h
          obtain ⟨xs, m, rfl, hx, hcl, hxl, hf⟩ := DataW.trod_struct hu ht
          cases hx
          have := open_fields ih (cs := cs) (fuel := m) (fs := fs.toList) (off := 0) (xs := xs) hl (by simpa using hxl) (by rw [hcl, hc]; simp) (fun i f hfi => hf i f (by simpa using hfi)) (fun w hwm => hw w (by simp only [DataW.weights, hu]; exact hwm))
          simpa using this
        · cases h
      · cases h
    · rename_i m e hu
      split at h
      · rename_i es hes
        split at h
        · rename_i hc
          cases h
          obtain ⟨xs, q, rfl, hx, hcl, hxl, hf⟩ := DataW.trod_array hu ht
          cases hx
          have := open_array ih (cs := cs) (fuel := q) hes hc.1 (m := m) (k := 0) (xs := xs) hxl (by rw [hcl, hc.2]; simp) (fun i hi => by have := hf i hi; rw [hc.1] at this; simpa using this) (fun w hwm => hw w (by simp only [DataW.weights, hu]; exact hwm))
          simpa using this
        · cases h
      · cases h
    · cases h
end
end Go.Mini
/- Mini: a law that Mini answers 'true' is a row that holds: the contract. -/
namespace Go.Mini
open Go Go.RowKit Go.ChangeShapes
section
variable {H : Type} {enc : TypeId × Value → H} {P : Program} {E : Env} {base : Nat} {sp : Nat → Bool} {held : Bool} {Q : Prog}
theorem open_arg (hE : E.whole) {b0 n : Nat} {t : TypeId} {v : Value} {d : DataW H} {ps : List MemPlace} {cts : List CTy} {g : Bool} (hval : Value.okWide P E.w .any b0 t v) (h : DataW.Trod enc P E.w base sp held t v d ps)
    (hw : ∀ m ∈ d.weights P t, m ≤ reachBytes) (hc : ctys P n t = some cts) (hg : aggT P t = some g) : ∃ m, RelV E m v ∧ HasE g cts m := by
  obtain ⟨fuel, ht⟩ := h
  obtain ⟨ms, hr, hl⟩ := open_ok hE n hc ht hw
  have agg : ∀ {cs : Array Value}, v = .agg cs → ∃ m, RelV E m v ∧ HasE true cts m := by
    rintro cs rfl
    refine ⟨.agg ms, ?_, .agg hl⟩
    have := RelV.agg (E := E) hr (fun c hc => ⟨hl.cell c hc, hl.pure c hc⟩)
    simpa [Value.cells] using this
  have one : (∀ cs, v ≠ .agg cs) → (∃ c, cts = [c]) → ∃ m, RelV E m v ∧ HasE false cts m := by
    rintro hv ⟨c, rfl⟩
    cases hl with
    | cons h1 h2 =>
      cases h2
      have hcs : v.cells = #[v] := by cases v <;> first | rfl | exact (hv _ rfl).elim
      rw [hcs] at hr
      cases hr with
      | cons k1 k2 => exact ⟨_, k1, .one h1⟩
  unfold Value.okWide at hval
  unfold aggT at hg
  cases n with
  | zero => simp [ctys] at hc
  | succ n =>
    simp only [ctys] at hc
    cases hu : P.underlying t with
    | none => rw [hu] at hg; cases hg
    | some dsc =>
      rw [hu] at hg hc hval
      cases dsc <;> simp only [Option.some.injEq] at hg <;> subst hg <;> simp only at hc hval <;> try (cases hc; done)
      · exact one (by rintro cs rfl; simp [Cell.okWide, Cell.ok, hu] at hval) (by cases hc; exact ⟨_, rfl⟩)
      · exact one (by rintro cs rfl; simp [Cell.okWide, Cell.ok, hu] at hval) (by cases hc; exact ⟨_, rfl⟩)
      · exact one (by rintro cs rfl; simp [Cell.okWide, Cell.ok, hu] at hval) (by cases hc; exact ⟨_, rfl⟩)
      · refine one (by rintro cs rfl; simp [Cell.okWide, Cell.ok, hu] at hval) ?_
        split at hc
        · split at hc
          · cases hc; exact ⟨_, rfl⟩
          · cases hc
        · split at hc
          · split at hc
            · cases hc; exact ⟨_, rfl⟩
            · cases hc
          · split at hc
            · cases hc; exact ⟨_, rfl⟩
            · cases hc
          · cases hc
      · obtain ⟨cs, hv, _⟩ := hval; exact agg hv
      · obtain ⟨cs, hv, _⟩ := hval; exact agg hv
def argTys (P : Program) (n : Nat) : List TypeId → Option (List (Bool × List CTy))
  | [] => some []
  | t :: ts => match ctys P n t, aggT P t, argTys P n ts with
    | some c, some g, some l => some ((g, c) :: l)
    | _, _, _ => none
inductive HasArgs : List (Bool × List CTy) → List MV → Prop
  | nil : HasArgs [] []
  | cons {g c l m ms} (h : HasE g c m) (r : HasArgs l ms) : HasArgs ((g, c) :: l) (m :: ms)
theorem HasArgs.pure : ∀ {l ms}, HasArgs l ms → ∀ m ∈ ms, Pure m
  | _, _, .nil => by simp
  | _, _, .cons h r => by
    intro m hm
    rcases List.mem_cons.1 hm with rfl | hm
    · exact h.pure
    · exact r.pure m hm
theorem open_args (hE : E.whole) {b0 n : Nat} : ∀ {ts : List TypeId} {l : List (Bool × List CTy)} {vs : List Value} {ds : List (DataW H)} {p : List MemPlace}, argTys P n ts = some l → DataW.TrodAll enc P E.w base sp held ts vs ds p →
    (∀ (j : Nat) t v, ts[j]? = some t → vs[j]? = some v → Value.okWide P E.w .any b0 t v) → (∀ m ∈ DataW.weightsEach P ts ds, m ≤ reachBytes) → ∃ ms, RelL E ms vs ∧ HasArgs l ms
  | [], l, vs, ds, p, h, ht, _, _ => by
    simp only [argTys, Option.some.injEq] at h
    subst h
    obtain ⟨rfl, rfl, _⟩ := trodAll_nil ht
    exact ⟨[], .nil, .nil⟩
  | t :: ts, l, vs, ds, p, h, ht, hv, hw => by
    simp only [argTys] at h
    split at h
    · rename_i c g l' hc hg hl
      cases h
      obtain ⟨v, vs, d, ds, a, b, rfl, rfl, rfl, h1, h2⟩ := trodAll_cons ht
      simp only [DataW.weightsEach] at hw
      obtain ⟨m, k1, k2⟩ := open_arg hE (hv 0 t v rfl rfl) h1 (fun m hm => hw m (List.mem_append_left _ hm)) hc hg
      obtain ⟨ms, k3, k4⟩ := open_args hE hl h2 (fun j t v h1 h2 => hv (j + 1) t v (by simpa using h1) (by simpa using h2)) (fun m hm => hw m (List.mem_append_right _ hm))
      exact ⟨m :: ms, .cons k1 k3, .cons k2 k4⟩
    · cases h
theorem trodAll_below (hlo : laidOutB P = true) {W W' : World} (hb : Below W.heap.size W W') : ∀ {ts : List TypeId} {vs : List Value} {ds : List (DataW H)} {p : List MemPlace}, (∀ t ∈ ts, P.readableRec t = true ∧ t < P.types.size) →
    DataW.TrodAll enc P W 0 (fun _ => true) true ts vs ds p → (∀ x ∈ p, x.block < W.heap.size) → DataW.TrodAll enc P W' 0 (fun b => decide (b < W.heap.size)) true ts vs ds p
  | [], vs, ds, p, _, h, _ => by
    obtain ⟨rfl, rfl, rfl⟩ := trodAll_nil h
    rfl
  | t :: ts, vs, ds, p, ht, h, hlt => by
    obtain ⟨v, vs, d, ds, a, b, rfl, rfl, rfl, h1, h2⟩ := trodAll_cons h
    refine ⟨a, b, Below.trod hlo (ht t (by simp)).1 (ht t (by simp)).2 h1 hb (fun x hx => hlt x (by simp [hx])), trodAll_below hlo hb (fun t' h' => ht t' (by simp [h'])) h2 (fun x hx => hlt x (by simp [hx])), rfl⟩
theorem weights_more {ts us : List TypeId} {ds : List (DataW H)} : ∀ m ∈ DataW.weightsEach P ts ds, m ∈ DataW.weightsEach P (ts ++ us) ds := by
  induction ts generalizing ds with
  | nil => intro m hm; cases ds <;> simp [DataW.weightsEach] at hm
  | cons t ts ih =>
    intro m hm
    cases ds with
    | nil => simp [DataW.weightsEach] at hm
    | cons d ds =>
      simp only [List.cons_append, DataW.weightsEach, List.mem_append] at hm ⊢
      exact hm.imp id (ih m)
theorem HasArgs.length : ∀ {l ms}, HasArgs l ms → ms.length = l.length
  | _, _, .nil => rfl
  | _, _, .cons _ r => by simp [r.length]
theorem trodAll_length {w : World} : ∀ {ts : List TypeId} {vs : List Value} {ds : List (DataW H)} {p : List MemPlace}, DataW.TrodAll enc P w base sp held ts vs ds p → ds.length = vs.length
  | [], vs, ds, p, h => by
    obtain ⟨rfl, rfl, _⟩ := trodAll_nil h
    rfl
  | t :: ts, vs, ds, p, h => by
    obtain ⟨v, vs, d, ds, a, b, rfl, rfl, rfl, h1, h2⟩ := trodAll_cons h
    simp [trodAll_length h2]
def wholeEnv (W : World) : Env :=
  { C := fun b => match W.heap[b]? with | some (.cells c _ _) => c.size | _ => 0, w := W, born := fun _ => False, len := fun _ => none, blk := fun _ => none, cap := fun _ => 0, sz := fun _ => 0 }
theorem wholeEnv_whole (W : World) : (wholeEnv W).whole := by
  intro b c e fr h
  show c.size ≤ (match W.heap[b]? with | some (.cells c _ _) => c.size | _ => 0)
  have h : W.heap[b]? = some (.cells c e fr) := h
  rw [h]
  exact Nat.le_refl _
theorem law_contract {Gd : Ground} (hQ : ProgOK P Gd Q) (hlo : laidOutB P = true) {f : FuncId} {fn : Func} (hf : P.funcs[f]? = some fn) (hbody : fn.body ≠ none) (hname : fn.name ≠ "runtime.NumGoroutine") {s : ChangeSpec} {n : Nat} {l : List (Bool × List CTy)}
    (hargs : argTys P n fn.params.toList = some l) (hrd : ∀ t ∈ fn.params.toList, P.readableRec t = true ∧ t < P.types.size) {tb : TypeId} (hres : fn.resultTypes = #[tb]) (htb : P.underlying tb = some .bool) (hsv : s.vars = [])
    (hs : ∀ (ds : List (DataW H)), ds.length = l.length → s.fn H ds = { results := [.lit (.bool true)], args := ds }) (law : ∀ ms, HasArgs l ms → Call Q f ms = some (.bool true))
    {W : World} (hG : Gd.G (wholeEnv W)) {b0 : Nat} {args : Array Value} {ds gs : List (DataW H)} {before : List MemPlace} (hval : ∀ (j : Nat) t v, fn.params[j]? = some t → args[j]? = some v → Value.okWide P W .any b0 t v)
    (hW : DataW.Whole enc P fn.params.toList s.vars false W args.toList ds gs before) (hwt : (DataW.weightsEach P (fn.params.toList ++ s.plain.varTypes P) (ds ++ gs)).all (· ≤ reachBytes) = true) :
    Calls P f args W fun e W' => ∃ v, e = .returned v ∧ s.post enc P fn false true false false W args v W' := by
  have hW' := hW
  obtain ⟨p, q, hA, hV, rfl, hfz, hnd⟩ := hW
  rw [hsv] at hV
  obtain ⟨rfl, rfl⟩ := trodVars_none hV
  simp only [List.append_nil, List.all_eq_true, decide_eq_true_eq] at hwt
  obtain ⟨ms, hr, ha⟩ := open_args (E := wholeEnv W) (wholeEnv_whole W) hargs hA (fun j t v h1 h2 => hval j t v (by simpa using h1) (by simpa using h2)) (fun m hm => hwt m (weights_more m hm))
  have good : ∀ b, 0 < (wholeEnv W).C b → b < (wholeEnv W).w.heap.size := by
    intro b hb
    have hb : 0 < (match W.heap[b]? with | some (.cells c _ _) => c.size | _ => 0) := hb
    show b < W.heap.size
    rcases Nat.lt_or_ge b W.heap.size with h | h
    · exact h
    · rw [Array.getElem?_eq_none h] at hb; simp at hb
  have ok := call_ok hQ (law ms ha) (wholeEnv W) args.toList hG good hr ha.pure
  have hdl : ds.length = l.length := by rw [trodAll_length hA, ← hr.length, ha.length]
  rcases ok with ⟨hrun, hcalls⟩ | ⟨x, w', hrun, _⟩
  · refine Calls.mono hcalls ?_
    rintro e w' ⟨x, rfl, C, mv, hg, b, ret⟩
    have hx : x = .bool true := by
      cases ret with
      | pure h p => cases h; rfl
    subst hx
    have hb : Below W.heap.size W w' := ⟨mv.os, mv.tape, mv.output, mv.size, fun k hk => mv.block k hk (by show ¬ W.heap.size ≤ k; omega)⟩
    have hlt := hW'.lt
    refine ⟨_, rfl, ds, [], p ++ [], [], p, [], hW', ?_, ?_, ?_, hb.frame _, fun h => Bool.noConfusion h⟩
    · simp only [List.append_nil]
      rw [hs ds hdl, hres]
      exact trodAll_mk1 (shut_bool htb true)
    · simp only [List.append_nil]
      rw [hs ds hdl]
      exact trodAll_below hlo hb hrd hA (fun x hx => hlt x (by simpa using hx))
    · simp only [List.append_nil]
      rw [hs ds hdl, hsv]
      rfl
  · exfalso
    have : (callFunc f args.toList.toArray).run P W = .ok (.enter f args.toList.toArray) W := by simp [callFunc, hf, hname, hbody]
    have h2 : (callFunc f args.toList.toArray).run P W = .ok (.value x) w' := hrun
    rw [this] at h2
    cases h2
end
end Go.Mini
/- Mini: library functions met by their contracts. -/
namespace Go.Mini
open Go Go.RowKit
variable {P : Program}
structure Kept (w w' : World) : Prop where
  os : w'.os = w.os
  tape : w'.tape = w.tape
  output : w'.output = w.output
  size : w.heap.size ≤ w'.heap.size
  block : ∀ k, k < w.heap.size → w'.heap[k]? = w.heap[k]?
theorem Kept.refl (w : World) : Kept w w := ⟨rfl, rfl, rfl, Nat.le_refl _, fun _ _ => rfl⟩
theorem Kept.trans {a b c : World} (h : Kept a b) (k : Kept b c) : Kept a c :=
  ⟨k.os.trans h.os, k.tape.trans h.tape, k.output.trans h.output, Nat.le_trans h.size k.size, fun i hi => (k.block i (Nat.lt_of_lt_of_le hi h.size)).trans (h.block i hi)⟩
theorem Kept.drew (w : World) : Kept w w.drew := ⟨rfl, rfl, rfl, Nat.le_refl _, fun _ _ => rfl⟩
theorem Kept.drewN (w : World) (k : Nat) : Kept w (w.drewN k) := ⟨rfl, rfl, rfl, Nat.le_refl _, fun _ _ => rfl⟩
theorem Kept.below {w w' : World} (h : Below w.heap.size w w') : Kept w w' := ⟨h.os, h.tape, h.output, h.size, h.block⟩
theorem Kept.alloc (w : World) (G : Go.Obj) : Kept w (w.alloc G) := ⟨rfl, rfl, rfl, by show _ ≤ (w.heap.push G).size; rw [Array.size_push]; omega, fun k hk => by
  show (w.heap.push G)[k]? = _
  rw [Array.getElem?_push, if_neg (by omega)]⟩
theorem Kept.grow (w : World) (os : Array Go.Obj) : Kept w (Sort.grow w os) := by
  refine ⟨rfl, rfl, rfl, ?_, fun k hk => ?_⟩
  · show _ ≤ (w.heap ++ os).size; simp
  · show (w.heap ++ os)[k]? = _
    rw [Array.getElem?_append_left hk]
theorem Kept.move {E : Env} (good : ∀ b, 0 < E.C b → b < E.w.heap.size) {w' : World} (h : Kept E.w w') {C : Nat → Nat} (h1 : ∀ b, b < E.w.heap.size → C b = E.C b) : Move (fun k => E.w.heap.size ≤ k) E (E.next C w') where
  C b := by
    rcases Nat.lt_or_ge b E.w.heap.size with hb | hb
    · show _ ≤ C b; rw [h1 b hb]; exact Nat.le_refl _
    · have : ¬ 0 < E.C b := fun h => by have := good b h; omega
      omega
  cell b i hi := by
    have hb := good b (by omega)
    show w'.cell? _ = E.w.cell? _
    unfold World.cell?
    simp only
    rw [h.block b hb]
  born _ h := h
  len _ _ _ hn := ⟨hn, rfl, rfl, rfl⟩
  os := h.os
  tape := h.tape
  output := h.output
  size := h.size
  block k hk _ := h.block k hk
  com k hk := h1 k (by simpa using hk)
theorem FunOK.pure {Gd : Ground} {f : FuncId} {args : List MV} {r : MV} (hr : ∀ l, r ≠ .tup l) (hp : Pure r)
    (h : ∀ (E : Env) (vs : List Value), Gd.G E → (∀ b, 0 < E.C b → b < E.w.heap.size) → RelL E args vs → CallK P f vs.toArray E.w fun x w' => Kept E.w w' ∧ RelV E r x) : FunOK P Gd f args r := by
  intro E vs hG good hrel _
  have fin : ∀ x w', Kept E.w w' ∧ RelV E r x → ∃ C, Move (fun k => E.w.heap.size ≤ k) E (E.next C w') ∧ (∀ b, 0 < C b → b < w'.heap.size) ∧ Ret (E.next C w') E.w.heap.size r x := by
    rintro x w' ⟨hk, hx⟩
    have mv := hk.move good (C := E.C) fun _ _ => rfl
    refine ⟨E.C, mv, fun b hb => Nat.lt_of_lt_of_le (good b hb) hk.size, ?_⟩
    cases r <;> first | exact ⟨none, .pure (hx.ext mv.toExt) hp⟩ | exact (hr _ rfl).elim
  rcases h E vs hG good hrel with ⟨h1, h2⟩ | ⟨x, w', h1, h2⟩
  · refine .inl ⟨h1, Calls.mono h2 ?_⟩
    rintro e w' ⟨x, rfl, hx⟩
    exact ⟨x, rfl, fin x w' hx⟩
  · exact .inr ⟨x, w', h1, fin x w' h2⟩
theorem FunOK.pures {Gd : Ground} {f : FuncId} {args : List MV} {l : List MV} (hp : ∀ v ∈ l, Pure v)
    (h : ∀ (E : Env) (vs : List Value), Gd.G E → (∀ b, 0 < E.C b → b < E.w.heap.size) → RelL E args vs → CallK P f vs.toArray E.w fun x w' => Kept E.w w' ∧ ∃ xs, x = .tuple xs.toArray ∧ RelL E l xs) : FunOK P Gd f args (.tup l) := by
  intro E vs hG good hrel _
  have fin : ∀ x w', (Kept E.w w' ∧ ∃ xs, x = .tuple xs.toArray ∧ RelL E l xs) → ∃ C, Move (fun k => E.w.heap.size ≤ k) E (E.next C w') ∧ (∀ b, 0 < C b → b < w'.heap.size) ∧ Ret (E.next C w') E.w.heap.size (.tup l) x := by
    rintro x w' ⟨hk, xs, rfl, hx⟩
    have mv := hk.move good (C := E.C) fun _ _ => rfl
    refine ⟨E.C, mv, fun b hb => Nat.lt_of_lt_of_le (good b hb) hk.size, ?_⟩
    have key : ∀ {l : List MV} {xs : List Value}, (∀ v ∈ l, Pure v) → RelL (E.next E.C w') l xs → RetL (E.next E.C w') E.w.heap.size l xs [] := by
      intro l
      induction l with
      | nil => intro xs _ h; cases h; exact .nil
      | cons v l ih =>
        intro xs hp h
        cases h with
        | cons h1 h2 => exact .cons (b := none) (.pure h1 (hp _ (by simp))) (ih (fun u hu => hp u (by simp [hu])) h2) (fun k hk => by cases hk)
    exact ⟨xs, [], rfl, key hp (hx.ext mv.toExt)⟩
  rcases h E vs hG good hrel with ⟨h1, h2⟩ | ⟨x, w', h1, h2⟩
  · refine .inl ⟨h1, Calls.mono h2 ?_⟩
    rintro e w' ⟨x, rfl, hx⟩
    exact ⟨x, rfl, fin x w' hx⟩
  · exact .inr ⟨x, w', h1, fin x w' h2⟩
theorem FunOK.newCells {Gd : Ground} {f : FuncId} {args : List MV} {s : Nat} {l : List MV} (h0 : 0 < s) (hu : Uni s l) (hl : l.length < 2 ^ 62)
    (h : ∀ (E : Env) (vs : List Value), Gd.G E → (∀ b, 0 < E.C b → b < E.w.heap.size) → RelL E args vs → CallK P f vs.toArray E.w fun x w' => Kept E.w w' ∧ ∃ b o cap xs, x = .slice (some ⟨b, o, none⟩) l.length cap ∧ l.length ≤ cap ∧ E.w.heap.size ≤ b ∧ b < w'.heap.size ∧
      RelL E (l.flatMap MV.cells) xs ∧ ∀ (i : Nat) (v : Value), xs[i]? = some v → w'.cell? ⟨b, o + i, none⟩ = some v) : FunOK P Gd f args (.sl s l) := by
  intro E vs hG good hrel _
  have fin : ∀ x w', (Kept E.w w' ∧ ∃ b o cap xs, x = .slice (some ⟨b, o, none⟩) l.length cap ∧ l.length ≤ cap ∧ E.w.heap.size ≤ b ∧ b < w'.heap.size ∧
      RelL E (l.flatMap MV.cells) xs ∧ ∀ (i : Nat) (v : Value), xs[i]? = some v → w'.cell? ⟨b, o + i, none⟩ = some v) → ∃ C, Move (fun k => E.w.heap.size ≤ k) E (E.next C w') ∧ (∀ b, 0 < C b → b < w'.heap.size) ∧ Ret (E.next C w') E.w.heap.size (.sl s l) x := by
    rintro x w' ⟨hk, b, o, cap, xs, rfl, hcap, hb, hb', hx, hc⟩
    let C : Nat → Nat := upd E.C b (o + xs.length)
    have mv := hk.move good (C := C) fun k hk => upd_other _ _ (by omega)
    refine ⟨C, mv, fun k hk' => ?_, none, .pure (.sl hcap hl h0 hu (hx.ext mv.toExt) fun _ => ⟨_, rfl, rfl, ?_, hc⟩) (.sl fun e he => (hu e he).2.2)⟩
    · by_cases hkb : k = b
      · subst hkb; exact hb'
      · have : C k = E.C k := upd_other _ _ hkb
        rw [this] at hk'
        exact Nat.lt_of_lt_of_le (good k hk') hk.size
    · show _ ≤ C b
      rw [show C b = _ from upd_same _ _ _]
      exact Nat.le_refl _
  rcases h E vs hG good hrel with ⟨h1, h2⟩ | ⟨x, w', h1, h2⟩
  · refine .inl ⟨h1, Calls.mono h2 ?_⟩
    rintro e w' ⟨x, rfl, hx⟩
    exact ⟨x, rfl, fin x w' hx⟩
  · exact .inr ⟨x, w', h1, fin x w' h2⟩
end Go.Mini
/- Mini: reckoning with symbols: regions that draw their order; numbers. -/
namespace Go.Mini
open Go
def chk (pre : Nat → List Nat) (ms : List Mark) (m : Mark) : Bool := ms.all fun k => has (pre m.i) k.i || k.apart m
def OK (b : Bool) : Prop := b = true
theorem ok_of {b : Bool} (h : b = true) : OK b := h
noncomputable def RdV (Q : Prog) (k : List Item) (nx : Nat) (pre : Nat → List Nat) (i nm : Nat) (ms : List Mark) (os : List MOper) (d : Option X) : Option (MV × DS) → Option DS
  | some (v, st) => Rd Q k nx pre i nm ms os (st.wr d v)
  | none => none
noncomputable def RdB (Q : Prog) (k : List Item) (nx : Nat) (pre : Nat → List Nat) (i nm : Nat) (ms : List Mark) (os : List MOper) (d : Option X) (op : MOp) (st : DS) : Bool → Option DS
  | true => RdV Q k nx pre i (nm + 4) ms os d (dOp (Call Q) nm op st)
  | false => Rd Q k nx pre i (nm + 4) ms os (st.wr d (.tup []))
noncomputable def RdG (Q : Prog) (k : List Item) (nx : Nat) (pre : Nat → List Nat) (i nm : Nat) (ms : List Mark) (os : List MOper) (d : Option X) (op : MOp) (st : DS) (want : Bool) : MV → Option DS
  | .bool b => RdB Q k nx pre i nm ms os d op st (b == want)
  | .tup _ => Rd Q k nx pre i (nm + 4) ms os (st.wr d (.tup []))
  | _ => none
variable (Q : Prog)
theorem Rd_nil (k nx pre i nm ms) (st : DS) : Rd Q k nx pre i nm ms [] st = Run Q k ⟨st.V, [], st.O, nx⟩ := rfl
theorem Rd_cons (k nx pre i nm ms d op os) (st : DS) (h : OK (chk pre ms ⟨i, nm, op.xs, d, foot op st, loud op st⟩)) :
    Rd Q k nx pre i nm ms (⟨d, op, none⟩ :: os) st = RdV Q k nx pre (i + 1) (nm + 4) (⟨i, nm, op.xs, d, foot op st, loud op st⟩ :: ms) os d (dOp (Call Q) nm op st) := by
  unfold OK chk at h
  unfold Rd RdV
  rw [show dDraw (Call Q) pre i nm ms (⟨d, op, none⟩ :: os) st = match dOper (Call Q) nm ⟨d, op, none⟩ st with
    | some st1 => dDraw (Call Q) pre (i + 1) (nm + 4) (⟨i, nm, op.xs, d, foot op st, loud op st⟩ :: ms) os st1
    | none => none from if_pos h]
  unfold dOper wanted
  simp only
  cases dOp (Call Q) nm op st <;> rfl
theorem Rd_guard (k nx pre i nm ms d op os x want) (st : DS) (h : OK (chk pre ms ⟨i, nm, x :: op.xs, d, foot op st, loud op st⟩)) :
    Rd Q k nx pre i nm ms (⟨d, op, some (x, want)⟩ :: os) st = RdG Q k nx pre (i + 1) nm (⟨i, nm, x :: op.xs, d, foot op st, loud op st⟩ :: ms) os d op st want (st.rd x) := by
  unfold OK chk at h
  unfold RdG Rd
  rw [show dDraw (Call Q) pre i nm ms (⟨d, op, some (x, want)⟩ :: os) st = match dOper (Call Q) nm ⟨d, op, some (x, want)⟩ st with
    | some st1 => dDraw (Call Q) pre (i + 1) (nm + 4) (⟨i, nm, x :: op.xs, d, foot op st, loud op st⟩ :: ms) os st1
    | none => none from if_pos h]
  unfold dOper wanted
  cases hx : st.rd x
  case bool b =>
    simp only [hx]
    cases hb : (b == want)
    · simp only [RdB, Rd]
    · simp only [RdB, RdV, Rd]
      cases dOp (Call Q) nm op st <;> rfl
  all_goals simp only [hx, Rd]
theorem RdV_some (k nx pre i nm ms os d v) (st : DS) : RdV Q k nx pre i nm ms os d (some (v, st)) = Rd Q k nx pre i nm ms os (st.wr d v) := rfl
theorem RdG_bool (k nx pre i nm ms os d op st want b) : RdG Q k nx pre i nm ms os d op st want (.bool b) = RdB Q k nx pre i nm ms os d op st (b == want) := rfl
theorem RdG_tup (k nx pre i nm ms os d op st want l) : RdG Q k nx pre i nm ms os d op st want (.tup l) = Rd Q k nx pre i (nm + 4) ms os (st.wr d (.tup [])) := rfl
theorem RdB_true (k nx pre i nm ms os d op st) : RdB Q k nx pre i nm ms os d op st true = RdV Q k nx pre i (nm + 4) ms os d (dOp (Call Q) nm op st) := rfl
theorem RdB_false (k nx pre i nm ms os d op st) : RdB Q k nx pre i nm ms os d op st false = Rd Q k nx pre i (nm + 4) ms os (st.wr d (.tup [])) := rfl
noncomputable def CallV (nm : Nat) (st : DS) : Option MV → Option (MV × DS)
  | some r => if r.width ≤ 4 then some (instR nm r st) else none
  | none => none
theorem dCall_eq (C : CallT) (nm f args) (st : DS) : dCall C nm f args st = match lends args st with
    | some (as, st1) => CallV nm st1 (C f as)
    | none => none := by
  unfold dCall CallV
  cases lends args st with
  | none => rfl
  | some p =>
    obtain ⟨as, st1⟩ := p
    cases h : C f as <;> simp only [h]
theorem CallV_some (nm r) (st : DS) : CallV nm st (some r) = if r.width ≤ 4 then some (instR nm r st) else none := rfl
theorem look_hit {α : Type} (n : Nat) (v : α) (l : List (Nat × α)) : look ((n, v) :: l) n = some v := by simp [look]
theorem look_miss {α : Type} {k n : Nat} (h : k ≠ n) (v : α) (l : List (Nat × α)) : look ((k, v) :: l) n = look l n := by
  simp [look, h]
theorem look_nil {α : Type} (n : Nat) : look ([] : List (Nat × α)) n = none := rfl
theorem RunL_canon {Q : Prog} {keep b k} {st st' : DS} (h : canon keep st = st') : RunL Q keep b k (canon keep st) = RunL Q keep b k st' := by rw [h]
theorem w64 {x : Int} (h1 : -9223372036854775808 ≤ x) (h2 : x ≤ 9223372036854775807) : IntKind.i64.wrap x = x := by
  rw [IntKind.wrap_i64]; omega
theorem w8 {x : Int} (h1 : 0 ≤ x) (h2 : x < 256) : IntKind.u8.wrap x = x := by
  rw [IntKind.wrap_u8]; omega
theorem tdivE {a b : Int} (h : 0 ≤ a) : a.tdiv b = a / b := Int.tdiv_eq_ediv_of_nonneg h
theorem tmodE {a b : Int} (h : 0 ≤ a) : a.tmod b = a % b := Int.tmod_eq_emod_of_nonneg h
theorem bv8 (x : UInt8) : BitVec.ofInt 8 (x.toNat : Int) = x.toBitVec := by
  rw [BitVec.ofInt_natCast]
  apply BitVec.eq_of_toNat_eq
  simp
theorem and8 (x y : UInt8) : IntKind.u8.wrap ((BitVec.ofInt IntKind.u8.bits (x.toNat : Int) &&& BitVec.ofInt IntKind.u8.bits (y.toNat : Int)).toNat : Int) = ((x &&& y).toNat : Int) := by
  show IntKind.u8.wrap ((BitVec.ofInt 8 (x.toNat : Int) &&& BitVec.ofInt 8 (y.toNat : Int)).toNat : Int) = _
  rw [bv8, bv8, w8 (by omega) (by have := (x.toBitVec &&& y.toBitVec).isLt; omega)]
  rfl
theorem or8 (x y : UInt8) : IntKind.u8.wrap ((BitVec.ofInt IntKind.u8.bits (x.toNat : Int) ||| BitVec.ofInt IntKind.u8.bits (y.toNat : Int)).toNat : Int) = ((x ||| y).toNat : Int) := by
  show IntKind.u8.wrap ((BitVec.ofInt 8 (x.toNat : Int) ||| BitVec.ofInt 8 (y.toNat : Int)).toNat : Int) = _
  rw [bv8, bv8, w8 (by omega) (by have := (x.toBitVec ||| y.toBitVec).isLt; omega)]
  rfl
theorem xor8 (x y : UInt8) : IntKind.u8.wrap ((BitVec.ofInt IntKind.u8.bits (x.toNat : Int) ^^^ BitVec.ofInt IntKind.u8.bits (y.toNat : Int)).toNat : Int) = ((x ^^^ y).toNat : Int) := by
  show IntKind.u8.wrap ((BitVec.ofInt 8 (x.toNat : Int) ^^^ BitVec.ofInt 8 (y.toNat : Int)).toNat : Int) = _
  rw [bv8, bv8, w8 (by omega) (by have := (x.toBitVec ^^^ y.toBitVec).isLt; omega)]
  rfl
theorem and8_1 (x : UInt8) : IntKind.u8.wrap ((BitVec.ofInt IntKind.u8.bits (x.toNat : Int) &&& BitVec.ofInt IntKind.u8.bits 1).toNat : Int) = ((x &&& 1).toNat : Int) := and8 x 1
theorem and8_127 (x : UInt8) : IntKind.u8.wrap ((BitVec.ofInt IntKind.u8.bits (x.toNat : Int) &&& BitVec.ofInt IntKind.u8.bits 127).toNat : Int) = ((x &&& 127).toNat : Int) := and8 x 127
theorem eq8_1 (x : UInt8) : ((x.toNat : Int) == 1) = (x == 1) := by
  rw [Bool.eq_iff_iff]
  simp only [beq_iff_eq]
  constructor
  · intro h; apply UInt8.toNat_inj.1; show x.toNat = 1; omega
  · rintro rfl; rfl
theorem eq8_0 (x : UInt8) : ((x.toNat : Int) == 0) = (x == 0) := by
  rw [Bool.eq_iff_iff]
  simp only [beq_iff_eq]
  constructor
  · intro h; apply UInt8.toNat_inj.1; show x.toNat = 0; omega
  · rintro rfl; rfl
theorem eq8 (x y : UInt8) : ((x.toNat : Int) == (y.toNat : Int)) = (x == y) := by
  rw [Bool.eq_iff_iff]
  simp only [beq_iff_eq]
  constructor
  · intro h; apply UInt8.toNat_inj.1; omega
  · rintro rfl; rfl
theorem shr8_fin : ∀ (m : Fin 8), UInt8.ofNat m.val % 8 = UInt8.ofNat m.val ∧ (UInt8.ofNat m.val).toNat = m.val := by decide
theorem shr8 (x : UInt8) {b : Int} (h0 : 0 ≤ b) (h1 : b < 8) : shiftI .shr .u8 (x.toNat : Int) b = some (.int .u8 ((x >>> UInt8.ofNat b.toNat).toNat : Int)) := by
  obtain ⟨m, rfl⟩ := Int.eq_ofNat_of_zero_le h0
  have hm : m < 8 := by omega
  unfold shiftI
  rw [if_neg (by omega)]
  simp only [Int.toNat_natCast]
  have e : min m IntKind.u8.bits = m := by show min m 8 = m; omega
  rw [e]
  congr 2
  have h2 := shr8_fin ⟨m, hm⟩
  rw [UInt8.toNat_shiftRight]
  simp only at h2
  rw [h2.2, Nat.mod_eq_of_lt hm, Nat.shiftRight_eq_div_pow]
  rw [show ((2 : Int) ^ m) = ((2 ^ m : Nat) : Int) by simp]
  rw [Int.fdiv_eq_ediv_of_nonneg _ (Int.natCast_nonneg _)]; exact (Int.natCast_ediv _ _).symm
theorem fin_some (R) (st : DS) : fin R (some st) = match leave R st with
    | some l => some (result l)
    | none => none := rfl
theorem shr8_128 {b : Int} (h0 : 0 ≤ b) (h1 : b < 8) : shiftI .shr .u8 128 b = some (.int .u8 (((128 : UInt8) >>> UInt8.ofNat b.toNat).toNat : Int)) := shr8 128 h0 h1
theorem asB (x : UInt8) : UInt8.ofNat (Int.toNat (x.toNat : Int)) = x := by simp
theorem getD_some {l : List UInt8} {i : Nat} (h : i < l.length) : l[i]? = some (l.getD i 0) := by
  rw [List.getElem?_eq_getElem h, List.getD_eq_getElem?_getD, List.getElem?_eq_getElem h]; rfl
noncomputable def RunX (st : DS) : Option (List Item) → Option DS
  | some k => Run Q k st
  | none => none
theorem Run_exitX (id k) (st : DS) : Run Q (.code (.exit id) :: k) st = RunX Q st (unwind id k) := by
  cases h : unwind id k with
  | none => exact Run_end Q fun n => by simp [run, h, RunX]
  | some k' => exact Run_exit Q id k st h
theorem RunX_some (k) (st : DS) : RunX Q st (some k) = Run Q k st := rfl
end Go.Mini
/- Mini: conditions as ifs; loops over lists. -/
namespace Go.Mini
open Go
variable (Q : Prog)
section
variable {Q : Prog} {R : List (Nat × Option (Bool × Nat) × PK)} {k : List Item} {a b : MCode} {st : DS} {t : Bool} {rhs : Option MV} {r : Option DS} {nx nm i : Nat} {os : List MOper} {d : Option X} {op : MOp} {pre : Nat → List Nat} {ms : List Mark}
theorem finB (h1 : t = true → fin R (Run Q (.code a :: k) st) = rhs) (h2 : t = false → fin R (Run Q (.code b :: k) st) = rhs) : fin R (RunB Q k a b st t) = rhs := by
  cases t
  · exact h2 rfl
  · exact h1 rfl
theorem runB (h1 : t = true → Run Q (.code a :: k) st = r) (h2 : t = false → Run Q (.code b :: k) st = r) : RunB Q k a b st t = r := by
  cases t
  · exact h2 rfl
  · exact h1 rfl
theorem finG (h1 : t = true → fin R (RgV Q k nx (nm + 4) os d (dOp (Call Q) nm op st)) = rhs) (h2 : t = false → fin R (Rg Q k nx (nm + 4) os (st.wr d (.tup []))) = rhs) : fin R (RgB Q k nx nm os d op st t) = rhs := by
  cases t
  · exact h2 rfl
  · exact h1 rfl
theorem runG (h1 : t = true → RgV Q k nx (nm + 4) os d (dOp (Call Q) nm op st) = r) (h2 : t = false → Rg Q k nx (nm + 4) os (st.wr d (.tup [])) = r) : RgB Q k nx nm os d op st t = r := by
  cases t
  · exact h2 rfl
  · exact h1 rfl
theorem finD (h1 : t = true → fin R (RdV Q k nx pre i (nm + 4) ms os d (dOp (Call Q) nm op st)) = rhs) (h2 : t = false → fin R (Rd Q k nx pre i (nm + 4) ms os (st.wr d (.tup []))) = rhs) : fin R (RdB Q k nx pre i nm ms os d op st t) = rhs := by
  cases t
  · exact h2 rfl
  · exact h1 rfl
theorem runD (h1 : t = true → RdV Q k nx pre i (nm + 4) ms os d (dOp (Call Q) nm op st) = r) (h2 : t = false → Rd Q k nx pre i (nm + 4) ms os (st.wr d (.tup [])) = r) : RdB Q k nx pre i nm ms os d op st t = r := by
  cases t
  · exact h2 rfl
  · exact h1 rfl
end
theorem beqt (b : Bool) : (b == true) = b := by cases b <;> rfl
theorem beqf (b : Bool) : (b == false) = !b := by cases b <;> rfl
variable {α β γ δ : Type}
theorem hide {a b : α} (h : ∀ z, z = b → a = z) : a = b := h b rfl
def foldE (g : β → α → β ⊕ γ) : β → List α → β ⊕ γ
  | b, [] => .inl b
  | b, x :: r => match g b x with
    | .inl b' => foldE g b' r
    | .inr c => .inr c
def After (I : β → Nat → Prop) (S : β → Nat → δ) (T : γ → δ) (x : δ) (i : Nat) : β ⊕ γ → Prop
  | .inl b => I b i ∧ x = S b i
  | .inr c => x = T c
theorem loopI_from (L : List α) (g : β → α → β ⊕ γ) (S : β → Nat → δ) (T : γ → δ) (I : β → Nat → Prop) (step : ∀ b i x, I b i → L[i]? = some x → After I S T (S b i) (i + 1) (g b x)) :
    ∀ (r : List α) (b : β) (i : Nat), L.drop i = r → i + r.length = L.length → I b i → After I S T (S b i) L.length (foldE g b r)
  | [], b, i, _, hi, h0 => by
    have : i = L.length := by simpa using hi
    subst this
    exact ⟨h0, rfl⟩
  | x :: r, b, i, hd, hi, h0 => by
    have hg : L[i]? = some x := by
      have := congrArg (·[0]?) hd
      simpa [List.getElem?_drop] using this
    have hd' : L.drop (i + 1) = r := by
      have := congrArg (List.drop 1) hd
      simpa [List.drop_drop] using this
    have hs := step b i x h0 hg
    unfold foldE
    cases hx : g b x with
    | inr c => rw [hx] at hs; exact hs
    | inl b' =>
      rw [hx] at hs
      simp only [List.length_cons] at hi
      have ih := loopI_from L g S T I step r b' (i + 1) hd' (by omega) hs.1
      rw [hs.2]
      exact ih
theorem loopI (L : List α) (g : β → α → β ⊕ γ) (S : β → Nat → δ) (T : γ → δ) (I : β → Nat → Prop) (step : ∀ b i x, I b i → L[i]? = some x → After I S T (S b i) (i + 1) (g b x)) (b : β) (h0 : I b 0) :
    After I S T (S b 0) L.length (foldE g b L) := loopI_from L g S T I step L b 0 rfl (by simp) h0
theorem foldE_cons (g : β → α → β ⊕ γ) (b : β) (x : α) (r : List α) : foldE g b (x :: r) = match g b x with | .inl b' => foldE g b' r | .inr c => .inr c := rfl
theorem foldE_inl (f : β → α → β) : ∀ (L : List α) (b : β), foldE (γ := γ) (fun b x => .inl (f b x)) b L = .inl (L.foldl f b)
  | [], _ => rfl
  | x :: r, b => by
    unfold foldE
    exact foldE_inl f r (f b x)
theorem foldl_snoc (f : α → β) : ∀ (L : List α) (b : List β), L.foldl (fun l x => l ++ [f x]) b = b ++ L.map f
  | [], b => by simp
  | x :: r, b => by rw [List.foldl_cons, foldl_snoc f r]; simp
theorem loopM (L : List α) (f : α → β) (S : List β → Nat → δ) (step : ∀ l i x, l.length = i → L[i]? = some x → S l i = S (l ++ [f x]) (i + 1)) : S [] 0 = S (L.map f) L.length := by
  have h := loopI (γ := Empty) L (fun b x => .inl (b ++ [f x])) S (fun c => nomatch c) (fun l i => l.length = i) (fun b i x hb hg => ⟨by simp [hb], step b i x hb hg⟩) [] rfl
  rw [foldE_inl, foldl_snoc, List.nil_append] at h
  exact h.2
end Go.Mini

/- the interpreter is sound, operation by operation; no conditions. -/
import Derived.Test.YtaehaajckndejaaGreatDoorB00
import Derived.Laws.StructEq
import Derived.Orders
import Derived.Scope
set_option linter.all false
namespace Go.Mini
open Go Go.RowKit
variable {P : Program} {own : Nat→Prop} {tm : Nat→Bool} {E : Env} {st : DS} {a : Act} {nm : Nat} {o : Oper}
def Env.take (E : Env) (p n b : Nat) (w' : World) (k cap s : Nat) : Env :=
 { C := E.C,w := w',born := fun q=>E.born q ∨ q = n,len := fun q=>if q = n then some k else if q = p then none else E.len q,blk := upd E.blk n (some b),cap := upd E.cap n cap,sz := upd E.sz n s }
def Env.move (E : Env) (p n : Nat) (w' : World) (k cap s : Nat) : Env := E.take p n E.w.heap.size w' k cap s
def Env.none (E : Env) (p n s : Nat) : Env :=
 { C := E.C,w := E.w,born := fun q=>E.born q ∨ q = n,len := fun q=>if q = n then some 0 else if q = p then .none else E.len q,blk := upd E.blk n .none,cap := E.cap,sz := upd E.sz n s }
theorem Ext.take' {E' : Env} {p n : Nat} (hn : ¬ E.born n) (hC : E'.C = E.C) (hb : ∀ q,E.born q→E'.born q) (hl : ∀ q,q ≠ n→∀ m,E'.len q = some m→E.len q = some m) (hbk : ∀ q,q ≠ n→E'.blk q = E.blk q) (hcp : ∀ q,q ≠ n→E'.cap q = E.cap q) (hsz : ∀ q,q ≠ n→E'.sz q = E.sz q)
  (hcell : ∀ b i,i < E.C b→E'.w.cell? ⟨b,i,Option.none⟩ = E.w.cell? ⟨b,i,Option.none⟩) : Ext E E' where
 C _ := by rw [hC]; exact Nat.le_refl _
 cell := hcell
 born := hb
 len q hq m hm := by
  have hne : q ≠ n := by rintro rfl; exact hn hq
  exact ⟨hl q hne m hm,hbk q hne,hcp q hne,hsz q hne⟩
theorem Grows.cell {w w' : World} {G : Go.Obj} (h : Grows w w' G) {b i : Nat} (hb : b < w.heap.size) : w'.cell? ⟨b,i,Option.none⟩ = w.cell? ⟨b,i,Option.none⟩ := by
 unfold World.cell?
 rw [h.old hb]
theorem swap_take {tmps} (h : Inv own tm E st tmps) {p : Nat} {ob ob' : Obj} {b s : Nat} {G : Go.Obj} (hp : look st.O p = some ob) (hb : E.blk p = some b) (hn : ¬ E.born nm) (hc : ∀ i,i < E.C b→(putRow E.w b G).cell? ⟨b,i,Option.none⟩ = E.w.cell? ⟨b,i,Option.none⟩)
  (hx : ∀ E',E' = E.take p nm b (putRow E.w b G) ob'.len (E.cap p) s→Ext E E'→ObjOK E' nm ob') :
  Move own E (E.take p nm b (putRow E.w b G) ob'.len (E.cap p) s) ∧ Inv own tm (E.take p nm b (putRow E.w b G) ob'.len (E.cap p) s) { st with O := put (drop st.O p) nm ob' } tmps := by
 have hlt := h.lt hp hb
 have hown := h.ownb p b (by rw [hp]; simp) hb
 have hpn : p ≠ nm := by rintro rfl; exact hn (h.born p (by rw [hp]; simp))
 have m0 := Move.write (own := own) (G := G) hown hlt hc
 have ext : Ext E (E.take p nm b (putRow E.w b G) ob'.len (E.cap p) s) := by
  refine Ext.take' (p := p) hn rfl (fun _ h=>.inl h) (fun q hq m hm=>?_) (fun q hq=>upd_other _ _ hq) (fun q hq=>upd_other _ _ hq) (fun q hq=>upd_other _ _ hq) m0.cell
  have hm : (if q = nm then some ob'.len else if q = p then Option.none else E.len q) = some m := hm
  rw [if_neg hq] at hm
  split at hm
  ·cases hm
  ·exact hm
 have mv : Move own E (E.take p nm b (putRow E.w b G) ob'.len (E.cap p) s) := ⟨ext,m0.os,m0.tape,m0.output,m0.size,m0.block,fun _ _=>rfl⟩
 refine ⟨mv,h.swap hp hn mv (fun q=>Iff.rfl) (fun q=>rfl) (fun q hq=>upd_other _ _ hq) (fun q hq=>upd_other _ _ hq) (fun q hq=>upd_other _ _ hq) ?_ ?_ ?_ (hx _ rfl ext)⟩
 ·intro b' hb'
  have hb' : upd E.blk nm (some b) nm = some b' := hb'
  rw [upd_same] at hb'
  cases hb'
  exact ⟨hown,fun q hq hq2 hqb=>hq (h.sep q p b hq2 (by rw [hp]; simp) hqb hb)⟩
 ·intro q b' hq hq2 hqb
  refine ⟨putRow_other _ ?_,rfl⟩
  rintro rfl
  exact hq (h.sep q p b' hq2 (by rw [hp]; simp) hqb hb)
 ·intro k hk
  show k < (putRow E.w b G).heap.size
  rw [putRow_size]; exact h.good k hk
theorem swap_move {tmps} (h : Inv own tm E st tmps) {p : Nat} {ob ob' : Obj} {s cap : Nat} {G : Go.Obj} {w' : World} (hp : look st.O p = some ob) (hn : ¬ E.born nm) (hg : Grows E.w w' G)
  (hx : ∀ E',E' = E.move p nm w' ob'.len cap s→Ext E E'→ObjOK E' nm ob') :
  Move own E (E.move p nm w' ob'.len cap s) ∧ Inv own tm (E.move p nm w' ob'.len cap s) { st with O := put (drop st.O p) nm ob' } tmps := by
 have hsz := hg.size
 have ext : Ext E (E.move p nm w' ob'.len cap s) := by
  refine Ext.take' (p := p) hn rfl (fun _ h=>.inl h) (fun q hq m hm=>?_) (fun q hq=>upd_other _ _ hq) (fun q hq=>upd_other _ _ hq) (fun q hq=>upd_other _ _ hq) (fun b i hi=>hg.cell (h.good b (by omega)))
  have hm : (if q = nm then some ob'.len else if q = p then Option.none else E.len q) = some m := hm
  rw [if_neg hq] at hm
  split at hm
  ·cases hm
  ·exact hm
 have mv : Move own E (E.move p nm w' ob'.len cap s) := ⟨ext,hg.os,hg.tape,hg.output,by show _ ≤ w'.heap.size; omega,fun k hk _=>hg.old hk,fun _ _=>rfl⟩
 refine ⟨mv,h.swap hp hn mv (fun q=>Iff.rfl) (fun q=>rfl) (fun q hq=>upd_other _ _ hq) (fun q hq=>upd_other _ _ hq) (fun q hq=>upd_other _ _ hq) ?_ ?_ ?_ (hx _ rfl ext)⟩
 ·intro b' hb'
  have hb' : upd E.blk nm (some E.w.heap.size) nm = some b' := hb'
  rw [upd_same] at hb'
  cases hb'
  refine ⟨h.base _ (Nat.le_refl _),fun q hq hq2 hqb=>?_⟩
  obtain ⟨x,hx⟩ := Option.ne_none_iff_exists'.1 hq2
  have := h.lt hx hqb
  omega
 ·intro q b' hq hq2 hqb
  obtain ⟨x,hx⟩ := Option.ne_none_iff_exists'.1 hq2
  exact ⟨hg.old (h.lt hx hqb),rfl⟩
 ·intro k hk
  show k < w'.heap.size
  have := h.good k hk
  omega
theorem swap_none {tmps} (h : Inv own tm E st tmps) {p : Nat} {ob ob' : Obj} {s : Nat} (hp : look st.O p = some ob) (hn : ¬ E.born nm) (h0 : ob'.len = 0)
  (hx : ObjOK (E.none p nm s) nm ob') : Move own E (E.none p nm s) ∧ Inv own tm (E.none p nm s) { st with O := put (drop st.O p) nm ob' } tmps := by
 have ext : Ext E (E.none p nm s) := by
  refine Ext.take' (p := p) hn rfl (fun _ h=>.inl h) (fun q hq m hm=>?_) (fun q hq=>upd_other _ _ hq) (fun q hq=>rfl) (fun q hq=>upd_other _ _ hq) (fun b i hi=>rfl)
  have hm : (if q = nm then some 0 else if q = p then Option.none else E.len q) = some m := hm
  rw [if_neg hq] at hm
  split at hm
  ·cases hm
  ·exact hm
 have mv : Move own E (E.none p nm s) := ⟨ext,rfl,rfl,rfl,Nat.le_refl _,fun k hk _=>rfl,fun _ _=>rfl⟩
 refine ⟨mv,h.swap hp hn mv (fun q=>Iff.rfl) (fun q=>by show (if q = nm then some 0 else _) = _; rw [h0]) (fun q hq=>upd_other _ _ hq) (fun q hq=>rfl) (fun q hq=>upd_other _ _ hq) ?_ (fun _ _ _ _ _=>⟨rfl,rfl⟩) h.good hx⟩
 intro b' hb'
 have hb' : upd E.blk nm Option.none nm = some b' := hb'
 rw [upd_same] at hb'
 cases hb'
theorem born_take {p n b : Nat} {w' : World} {k cap s nm : Nat} (h : n = nm) : ∀ q,(E.take p n b w' k cap s).born q→E.born q ∨ (nm ≤ q ∧ q < nm + 4) := by
 subst h
 rintro q (hq | rfl)
 ·exact .inl hq
 ·exact .inr ⟨Nat.le_refl _,by omega⟩
theorem born_none {p n s nm : Nat} (h : n = nm) : ∀ q,(E.none p n s).born q→E.born q ∨ (nm ≤ q ∧ q < nm + 4) := by
 subst h
 rintro q (hq | rfl)
 ·exact .inl hq
 ·exact .inr ⟨Nat.le_refl _,by omega⟩
theorem app_exec {d x : Operand} {args : Array Operand} {ats : Array TypeId} (ho : o.op = .call { callee := .builtin .append,args,argTypes := ats }) (ha : args = #[d,x]) {y : Value} {w' : World}
  (hrun : (Builtin.append_ ats o.type #[a.eval d,a.eval x]).run P E.w = .ok y w') : (execOp a.eval o).run P E.w = .ok (.value y) w' := by
 unfold execOp
 rw [ho,ha]
 simp [resolve,invoke,builtin,hrun]
theorem lay_append {pre vs : List Value} {c : List Value} (h : pre.length + vs.length ≤ c.length) (hp : ∀ (i : Nat) (v : Value),pre[i]? = some v→c[i]? = some v) :
  ∀ (i : Nat) (v : Value),(pre ++ vs)[i]? = some v→(layV c pre.length vs)[i]? = some v := by
 induction vs generalizing pre c with
 | nil=>intro i v hv; rw [List.append_nil] at hv; exact hp i v hv
 | cons x vs ih =>
  simp only [List.length_cons] at h
  intro i v hv
  have := ih (pre := pre ++ [x]) (c := c.set pre.length x) (by simp; omega) (fun i v hv=>by
   rw [List.getElem?_set]
   by_cases hi : pre.length = i
   ·subst hi
    rw [List.getElem?_append_right (Nat.le_refl _)] at hv
    simp at hv
    subst hv
    simp; omega
   ·rw [if_neg hi]
    refine hp i v ?_
    rw [List.getElem?_append] at hv
    split at hv
    ·exact hv
    ·rename_i h1
     have : i - pre.length ≠ 0 := by omega
     obtain ⟨q,hq⟩ := Nat.exists_eq_succ_of_ne_zero this
     rw [hq] at hv; simp at hv) i v (by simpa using hv)
  simpa [layV] using this
theorem op_appB (hi : Inv own tm E st a.tmps) (hn : ¬ E.born nm) {d x : Operand} {d' x' : X} {args : Array Operand} {ats : Array TypeId} {t u e : TypeId} {w : Nat} {zv : Value} (T : AppT P t u e 1 w zv) (hw : 0 < w)
  (ho : o.op = .call { callee := .builtin .append,args,argTypes := ats }) (hd : trX tm d = some d') (hx : trX tm x = some x') (ha : args = #[d,x]) (hat : ats = #[t,u])
  {v : MV} {st' : DS} (h : appB nm w (st.rd d') (st.rd x') st = some (v,st')) : OpOK P own tm nm E a o st' v := by
 have rd := rd_ok hi hd
 have rx := rd_ok hi hx
 generalize st.rd d' = md at h rd
 generalize st.rd x' = mx at h rx
 unfold appB at h
 split at h
 ·cases h
 ·rename_i xs hxs
  obtain ⟨S,hxl⟩ := src_bytes (P := P) hi rx hxs
  have hsrc := S.cells
  split at h
  ·-- onto nil
   split at h
   ·rename_i hlim
    cases h
    generalize hvd : a.eval d = vd at rd
    cases rd
    by_cases h0 : xs.length = 0
    ·have hxs0 : xs = [] := List.eq_nil_of_length_eq_zero h0
     subst hxs0
     have hrun := append_place (m := 0) (cap := 0) (base := Option.none) T S (by simp) (w' := E.w) (ty := o.type) hat (fun ad h=>by cases h) (fun _=>rfl)
     have i' := Inv.nul hi hn (sz := 1) (ob := .byt [] false) rfl (.byt0 (upd_same _ _ _) (upd_same _ _ _))
     refine OpOK.val (E' := E.nul nm 1) (app_exec ho ha (by rw [hvd]; exact hrun)) (Move.nul hn 1) (born_nul rfl) i' (.own (.inr rfl) rfl fun _=>?_)
     unfold hdr
     rw [show (E.nul nm 1).blk nm = Option.none from upd_same _ _ _]
     simp
    ·obtain ⟨cap',w',rest,hrun,hle,hrl,hg⟩ := append_grow (m := 0) (cap := 0) (base := Option.none) (old := []) T S (by omega) (by simpa using hlim) hw (ty := o.type) hat (fun _ _=>rfl) hsrc (by simp)
     have hsz : ([] ++ xs.map byteV ++ rest).toArray.size = cap' := by simp [hrl]; omega
     obtain ⟨i',r⟩ := new_bytes (l := xs) hi hn hg hxl (by rw [hsz]; omega) (fun i v hv=>by
      rw [List.getElem?_toArray,List.nil_append,List.getElem?_append_left (List.getElem?_eq_some_iff.1 hv).1]; exact hv) (free_new _)
     rw [hsz] at i' r
     rw [Nat.zero_add] at hrun
     exact OpOK.val (app_exec ho ha (by rw [hvd]; exact hrun)) (Move.add hi hg hn _ _ _) (born_add rfl) i' r
   ·cases h
  ·-- onto what is of one's own
   rename_i p n
   split at h
   ·rename_i l b hl
    split at h
    ·rename_i hc
     obtain ⟨hnn,hlim⟩ := hc
     cases h
     subst hnn
     generalize hvd : a.eval d = vd at rd
     cases rd with
     | own hb _ hh =>
      have hx := hh (by rw [hi.len,hl]; rfl)
      subst hx
      have ok := hi.objs p _ hl
      cases ok with
      | byt0 k1 k2 =>
       have hhd : hdr E p 0 = .slice Option.none 0 0 := by unfold hdr; rw [k1]
       simp only [List.length_nil,Nat.zero_add,List.nil_append] at hlim hvd ⊢
       rw [hhd] at hvd
       by_cases h0 : xs.length = 0
       ·have hxs0 : xs = [] := List.eq_nil_of_length_eq_zero h0
        subst hxs0
        have hrun := append_place (m := 0) (cap := 0) (base := Option.none) T S (by simp) (w' := E.w) (ty := o.type) hat (fun ad h=>by cases h) (fun _=>rfl)
        obtain ⟨mv,i'⟩ := swap_none (s := 1) (ob' := .byt [] b) hi hl hn rfl (.byt0 (upd_same _ _ _) (upd_same _ _ _))
        refine OpOK.val (E' := E.none p nm 1) (app_exec ho ha (by rw [hvd]; exact hrun)) mv (born_none rfl) i' (.own (.inr rfl) rfl fun _=>?_)
        unfold hdr
        rw [show (E.none p nm 1).blk nm = Option.none from upd_same _ _ _]
        simp
       ·obtain ⟨cap',w',rest,hrun,hle,hrl,hg⟩ := append_grow (m := 0) (cap := 0) (base := Option.none) (old := []) T S (by omega) (by simpa using hlim) hw (ty := o.type) hat (fun _ _=>rfl) hsrc (by simp)
        have hsz : ([] ++ xs.map byteV ++ rest).toArray.size = cap' := by simp [hrl]; omega
        obtain ⟨mv,i'⟩ := swap_move (s := 1) (cap := cap') (ob' := .byt xs b) hi hl hn hg (fun E' hE ext=>by
         subst hE
         refine .byt (upd_same _ _ _) (upd_same _ _ _) (by show _ ≤ upd E.cap nm _ nm; rw [upd_same]; omega) hxl ⟨⟨_,_,_,hg.new,?_,free_new _,?_⟩,?_,fun _=>hi.com0⟩
         ·rw [hsz]; show _ = upd E.cap nm _ nm * 1; rw [upd_same]; omega
         ·intro i v hv
          rw [List.getElem?_toArray,List.nil_append,List.getElem?_append_left (List.getElem?_eq_some_iff.1 hv).1]; exact hv
         ·rw [show (E.move p nm w' (Obj.byt xs b).len cap' 1).C E.w.heap.size = 0 from hi.com0]; omega)
        rw [Nat.zero_add] at hrun
        refine OpOK.val (app_exec ho ha (by rw [hvd]; exact hrun)) mv (born_take rfl) i' (.own (.inr rfl) rfl fun _=>?_)
        unfold hdr
        rw [show (E.move p nm w' (Obj.byt xs b).len cap' 1).blk nm = some E.w.heap.size from upd_same _ _ _]
        show _ = Value.slice _ _ (upd E.cap nm _ nm)
        rw [upd_same]
      | byt k1 k2 k3 k4 k5 =>
       rename_i bb
       have hhd : hdr E p l.length = .slice (some ⟨bb,0,Option.none⟩) l.length (E.cap p) := by unfold hdr; rw [k1]
       rw [hhd] at hvd
       obtain ⟨c,te,fr,hh',hcs,hf,hpre⟩ := k5.row
       have hlen2 : (l ++ xs).length < 2 ^ 62 := by
        rw [List.length_append]
        have : l.length + xs.length ≤ (l.length + xs.length) * w := Nat.le_mul_of_pos_right _ hw
        omega
       by_cases hin : l.length + xs.length ≤ E.cap p
       ·-- in place
        have hst := storeCells_run (P := P) (e := te) (fr := fr) (b := bb) (j := l.length * 1) (xs.map byteV) 0 E.w c hh' hf (by rw [hcs]; simp; omega) S.one
        simp only [Nat.mul_one,Nat.add_zero] at hst
        have hrun := append_place (m := l.length) (cap := E.cap p) (base := some ⟨bb,0,Option.none⟩) T S hin (w' := putRow E.w bb (.cells (layV c.toList l.length (xs.map byteV)).toArray te fr)) (ty := o.type) hat
         (fun ad h=>by cases h; rw [add_mk]; simpa using hst) (fun h=>by cases h)
        have hcom : ∀ i,i < E.C bb→(putRow E.w bb (.cells (layV c.toList l.length (xs.map byteV)).toArray te fr)).cell? ⟨bb,i,Option.none⟩ = E.w.cell? ⟨bb,i,Option.none⟩ := by
         intro i hi'
         have hil : i < l.length := by have := k5.com; simp at this; omega
         unfold World.cell?
         rw [putRow_same _ (hi.lt hl k1),hh']
         simp only [Option.isSome_none,Bool.false_eq_true,if_false,List.getElem?_toArray,lay_get_other hil]
         simp
        obtain ⟨mv,i'⟩ := swap_take (s := 1) (ob' := .byt (l ++ xs) b) hi hl k1 hn hcom (fun E' hE ext=>by
         subst hE
         refine .byt (upd_same _ _ _) (upd_same _ _ _) (by show _ ≤ upd E.cap nm _ nm; rw [upd_same]; simpa using hin) hlen2 ⟨⟨_,te,fr,putRow_same _ (hi.lt hl k1),?_,?_,?_⟩,?_,k5.not⟩
         ·show _ = upd E.cap nm _ nm * 1; rw [upd_same]; simp [lay_length,hcs]
         ·simpa [lay_length] using hf
         ·intro i v hv
          rw [List.getElem?_toArray]
          have := lay_append (pre := l.map byteV) (vs := xs.map byteV) (c := c.toList) (by simp [hcs]; omega) (fun i v hv=>by simpa using hpre i v hv) i v (by simpa using hv)
          simpa using this
         ·have := k5.com
          show E.C bb ≤ _
          simp at this ⊢; omega)
        refine OpOK.val (app_exec ho ha (by rw [hvd]; exact hrun)) mv (born_take rfl) i' (.own (.inr rfl) rfl fun _=>?_)
        unfold hdr
        rw [show (E.take p nm bb (putRow E.w bb (.cells (layV c.toList l.length (xs.map byteV)).toArray te fr)) (Obj.byt (l ++ xs) b).len (E.cap p) 1).blk nm = some bb from upd_same _ _ _]
        show _ = Value.slice _ _ (upd E.cap nm _ nm)
        rw [upd_same]
       ·-- moved
        have hold : ∀ wd,wd.heap = E.w.heap→(Builtin.firstCells 1 l.length (.slice (some ⟨bb,0,Option.none⟩) l.length (E.cap p))).run P wd = .ok (l.map byteV).toArray wd := by
         intro wd hwd
         have := run_loadCells_list (P := P) wd ⟨bb,0,Option.none⟩ (l.map byteV) (fun j v hj=>by
          rw [add_mk,Nat.zero_add]
          have := k5.cell hj
          unfold World.cell? at this ⊢
          rw [hwd]; exact this)
         simp only [List.length_map] at this
         simpa [Builtin.firstCells] using this
        obtain ⟨cap',w',rest,hrun,hle,hrl,hg⟩ := append_grow (m := l.length) (cap := E.cap p) (base := some ⟨bb,0,Option.none⟩) (old := l.map byteV) T S hin hlim hw (ty := o.type) hat hold hsrc (by simp)
        have hsz : (l.map byteV ++ xs.map byteV ++ rest).toArray.size = cap' := by simp [hrl]; omega
        obtain ⟨mv,i'⟩ := swap_move (s := 1) (cap := cap') (ob' := .byt (l ++ xs) b) hi hl hn hg (fun E' hE ext=>by
         subst hE
         refine .byt (upd_same _ _ _) (upd_same _ _ _) (by show _ ≤ upd E.cap nm _ nm; rw [upd_same]; simpa using hle) hlen2 ⟨⟨_,_,_,hg.new,?_,free_new _,?_⟩,?_,fun _=>hi.com0⟩
         ·rw [hsz]; show _ = upd E.cap nm _ nm * 1; rw [upd_same]; omega
         ·intro i v hv
          rw [List.getElem?_toArray,List.getElem?_append_left (by have := (List.getElem?_eq_some_iff.1 hv).1; simpa using this)]
          simpa using hv
         ·rw [show (E.move p nm w' (Obj.byt (l ++ xs) b).len cap' 1).C E.w.heap.size = 0 from hi.com0]; omega)
        refine OpOK.val (app_exec ho ha (by rw [hvd]; exact hrun)) mv (born_take rfl) i' (.own (.inr rfl) rfl fun _=>?_)
        unfold hdr
        rw [show (E.move p nm w' (Obj.byt (l ++ xs) b).len cap' 1).blk nm = some E.w.heap.size from upd_same _ _ _]
        show _ = Value.slice _ _ (upd E.cap nm _ nm)
        rw [upd_same]
    ·cases h
   ·cases h
  ·cases h
end Go.Mini
namespace Go.Mini
open Go Go.RowKit
variable {P : Program} {own : Nat→Prop} {tm : Nat→Bool} {E : Env} {st : DS} {a : Act} {nm : Nat} {o : Oper}
theorem Uni.append {s : Nat} {l l' : List MV} (h : Uni s l) (h' : Uni s l') : Uni s (l ++ l') := by
 intro e he
 rcases List.mem_append.1 he with he | he
 ·exact h e he
 ·exact h' e he
structure AppSrc (P : Program) (E : Env) (s w n : Nat) (e : TypeId) (ats : Array TypeId) (x : Value) (vs : List Value) : Prop where
 place : ∀ {m cap : Nat} {base : Option Addr} {w' : World} {ty : TypeId},m + n ≤ cap→(m + n) * w ≤ 2 ^ 47→(∀ ad,base = some ad→(storeCells (ad.add (m * s)) vs).run P E.w = .ok () w')→(base = Option.none→w' = E.w) →
  (Builtin.append_ ats ty #[.slice base m cap,x]).run P E.w = .ok (.slice base (m + n) cap) w'
 grow : ∀ {m cap : Nat} {base : Option Addr} {old : List Value} {ty : TypeId},¬ m + n ≤ cap→(m + n) * w ≤ 2 ^ 47→(∀ wd,wd.heap = E.w.heap→(Builtin.firstCells s m (.slice base m cap)).run P wd = .ok old.toArray wd)→old.length = m * s →
  ∃ cap' w' rest,(Builtin.append_ ats ty #[.slice base m cap,x]).run P E.w = .ok (.slice (some ⟨E.w.heap.size,0,Option.none⟩) (m + n) cap') w' ∧ m + n ≤ cap' ∧ rest.length = (cap' - (m + n)) * s ∧ Grows E.w w' (.cells (old ++ vs ++ rest).toArray e)
theorem op_appG (hi : Inv own tm E st a.tmps) (hn : ¬ E.born nm) {d x : Operand} {d' : X} {args : Array Operand} {ats : Array TypeId} {e : TypeId} {s w : Nat} (h0s : 0 < s) (hw : 0 < w)
  (ho : o.op = .call { callee := .builtin .append,args,argTypes := ats }) (hd : trX tm d = some d') (ha : args = #[d,x]) {xs : List MV} {vs : List Value} (A : AppSrc P E s w xs.length e ats (a.eval x) vs)
  (hxl : xs.length < 2 ^ 62) (hrl : RelL E (xs.flatMap MV.cells) vs) (hu : Uni s xs) (hvl : vs.length = xs.length * s) (hone : ∀ v ∈ vs,v.oneCell' = true)
  {v : MV} {st' : DS} (h : appE nm s w (st.rd d') (.sl s xs) st = some (v,st')) : OpOK P own tm nm E a o st' v := by
 have rd := rd_ok hi hd
 generalize st.rd d' = md at h rd
 unfold appE at h
 simp only [elemsOf,if_true] at h
 split at h
 ·-- onto nil
  split at h
  ·rename_i hlim
   cases h
   generalize hvd : a.eval d = vd at rd
   cases rd
   by_cases h0 : xs.length = 0
   ·have hxs0 : xs = [] := List.eq_nil_of_length_eq_zero h0
    subst hxs0
    have hrun := A.place (m := 0) (cap := 0) (base := Option.none) (ty := o.type) (by simp) (by simpa using hlim) (w' := E.w) (fun ad h=>by cases h) (fun _=>rfl)
    have i' := Inv.nul hi hn (sz := s) (ob := .el s [] false) rfl (.el0 (upd_same _ _ _) (upd_same _ _ _) h0s)
    refine OpOK.val (E' := E.nul nm s) (app_exec ho ha (by rw [hvd]; exact hrun)) (Move.nul hn s) (born_nul rfl) i' (.own (.inr rfl) rfl fun _=>?_)
    unfold hdr
    rw [show (E.nul nm s).blk nm = Option.none from upd_same _ _ _]
    simp
   ·obtain ⟨cap',w',rest,hrun,hle,hrest,hg⟩ := A.grow (m := 0) (cap := 0) (base := Option.none) (old := []) (ty := o.type) (by omega) (by simpa using hlim) (fun _ _=>rfl) (by simp)
    have hsz : ([] ++ vs ++ rest).toArray.size = cap' * s := by
     simp only [List.nil_append,List.size_toArray,List.length_append,hrest,hvl,Nat.zero_add]
     rw [← Nat.add_mul]; congr 1; omega
    obtain ⟨i',r⟩ := new_elems (l := xs) (cap := cap') hi hn hg h0s hxl (by omega) hsz hu hrl (fun i v hv=>by
     rw [List.getElem?_toArray,List.nil_append,List.getElem?_append_left (List.getElem?_eq_some_iff.1 hv).1]; exact hv) (free_new _)
    rw [Nat.zero_add] at hrun
    exact OpOK.val (app_exec ho ha (by rw [hvd]; exact hrun)) (Move.add hi hg hn _ _ _) (born_add rfl) i' r
  ·cases h
 ·-- onto what is of one's own
  rename_i p n
  split at h
  ·rename_i s' l b hl
   split at h
   ·rename_i hc
    obtain ⟨hnn,hss,hlim⟩ := hc
    cases h
    subst hnn; subst hss
    generalize hvd : a.eval d = vd at rd
    cases rd with
    | own hb _ hh =>
     have hx := hh (by rw [hi.len,hl]; rfl)
     subst hx
     have ok := hi.objs p _ hl
     have hlen2 : (l ++ xs).length < 2 ^ 62 := by
      rw [List.length_append]
      have : l.length + xs.length ≤ (l.length + xs.length) * w := Nat.le_mul_of_pos_right _ hw
      omega
     cases ok with
     | el0 k1 k2 k3 =>
      have hhd : hdr E p 0 = .slice Option.none 0 0 := by unfold hdr; rw [k1]
      simp only [List.length_nil,Nat.zero_add,List.nil_append] at hlim hvd ⊢
      rw [hhd] at hvd
      by_cases h0 : xs.length = 0
      ·have hxs0 : xs = [] := List.eq_nil_of_length_eq_zero h0
       subst hxs0
       have hrun := A.place (m := 0) (cap := 0) (base := Option.none) (ty := o.type) (by simp) (by simpa using hlim) (w' := E.w) (fun ad h=>by cases h) (fun _=>rfl)
       obtain ⟨mv,i'⟩ := swap_none (s := s') (ob' := .el s' [] b) hi hl hn rfl (.el0 (upd_same _ _ _) (upd_same _ _ _) h0s)
       refine OpOK.val (E' := E.none p nm s') (app_exec ho ha (by rw [hvd]; exact hrun)) mv (born_none rfl) i' (.own (.inr rfl) rfl fun _=>?_)
       unfold hdr
       rw [show (E.none p nm s').blk nm = Option.none from upd_same _ _ _]
       simp
      ·obtain ⟨cap',w',rest,hrun,hle,hrest,hg⟩ := A.grow (m := 0) (cap := 0) (base := Option.none) (old := []) (ty := o.type) (by omega) (by simpa using hlim) (fun _ _=>rfl) (by simp)
       have hsz : ([] ++ vs ++ rest).toArray.size = cap' * s' := by
        simp only [List.nil_append,List.size_toArray,List.length_append,hrest,hvl,Nat.zero_add]
        rw [← Nat.add_mul]; congr 1; omega
       obtain ⟨mv,i'⟩ := swap_move (s := s') (cap := cap') (ob' := .el s' xs b) hi hl hn hg (fun E' hE ext=>by
        subst hE
        refine .el (upd_same _ _ _) (upd_same _ _ _) h0s (by show _ ≤ upd E.cap nm _ nm; rw [upd_same]; omega) hxl hu (hrl.ext ext) ⟨⟨_,_,_,hg.new,?_,free_new _,?_⟩,?_,fun _=>hi.com0⟩
        ·rw [hsz]; show _ = upd E.cap nm _ nm * s'; rw [upd_same]
        ·intro i v hv
         rw [List.getElem?_toArray,List.nil_append,List.getElem?_append_left (List.getElem?_eq_some_iff.1 hv).1]; exact hv
        ·rw [show (E.move p nm w' (Obj.el s' xs b).len cap' s').C E.w.heap.size = 0 from hi.com0]; omega)
       rw [Nat.zero_add] at hrun
       refine OpOK.val (app_exec ho ha (by rw [hvd]; exact hrun)) mv (born_take rfl) i' (.own (.inr rfl) rfl fun _=>?_)
       unfold hdr
       rw [show (E.move p nm w' (Obj.el s' xs b).len cap' s').blk nm = some E.w.heap.size from upd_same _ _ _]
       show _ = Value.slice _ _ (upd E.cap nm _ nm)
       rw [upd_same]
     | el k1 k2 k3 k4 k5 k6 k7 k8 =>
      rename_i bb ov
      have hovl : ov.length = l.length * s' := by rw [← k7.length,flat_len fun e he=>(k6 e he).1]
      have hhd : hdr E p l.length = .slice (some ⟨bb,0,Option.none⟩) l.length (E.cap p) := by unfold hdr; rw [k1]
      rw [hhd] at hvd
      obtain ⟨c,te,fr,hh',hcs,hf,hpre⟩ := k8.row
      have hrr : RelL E ((l ++ xs).flatMap MV.cells) (ov ++ vs) := by
       rw [List.flatMap_append]; exact k7.append hrl
      by_cases hin : l.length + xs.length ≤ E.cap p
      ·-- in place
       have hroom : l.length * s' + xs.length * s' ≤ E.cap p * s' := by rw [← Nat.add_mul]; exact Nat.mul_le_mul_right _ hin
       have hst := storeCells_run (P := P) (e := te) (fr := fr) (b := bb) (j := l.length * s') vs 0 E.w c hh' hf (by rw [hcs,hvl]; omega) hone
       simp only [Nat.add_zero] at hst
       have hrun := A.place (m := l.length) (cap := E.cap p) (base := some ⟨bb,0,Option.none⟩) (ty := o.type) hin hlim (w' := putRow E.w bb (.cells (layV c.toList (l.length * s') vs).toArray te fr))
        (fun ad h=>by cases h; rw [add_mk]; simpa using hst) (fun h=>by cases h)
       have hcom : ∀ i,i < E.C bb→(putRow E.w bb (.cells (layV c.toList (l.length * s') vs).toArray te fr)).cell? ⟨bb,i,Option.none⟩ = E.w.cell? ⟨bb,i,Option.none⟩ := by
        intro i hi'
        have hil : i < l.length * s' := by have := k8.com; omega
        unfold World.cell?
        rw [putRow_same _ (hi.lt hl k1),hh']
        simp only [Option.isSome_none,Bool.false_eq_true,if_false,List.getElem?_toArray,lay_get_other hil]
        simp
       obtain ⟨mv,i'⟩ := swap_take (s := s') (ob' := .el s' (l ++ xs) b) hi hl k1 hn hcom (fun E' hE ext=>by
        subst hE
        refine .el (upd_same _ _ _) (upd_same _ _ _) h0s (by show _ ≤ upd E.cap nm _ nm; rw [upd_same]; simpa using hin) hlen2 (k6.append hu) (hrr.ext ext) ⟨⟨_,te,fr,putRow_same _ (hi.lt hl k1),?_,?_,?_⟩,?_,k8.not⟩
        ·show _ = upd E.cap nm _ nm * s'; rw [upd_same]; simp [lay_length,hcs]
        ·simpa [lay_length] using hf
        ·intro i v hv
         rw [List.getElem?_toArray]
         have := lay_append (pre := ov) (vs := vs) (c := c.toList) (by simp [hcs]; omega) (fun i v hv=>by simpa using hpre i v hv) i v (by simpa using hv)
         rw [hovl] at this
         simpa using this
        ·have := k8.com
         show E.C bb ≤ _
         simp; omega)
       refine OpOK.val (app_exec ho ha (by rw [hvd]; exact hrun)) mv (born_take rfl) i' (.own (.inr rfl) rfl fun _=>?_)
       unfold hdr
       rw [show (E.take p nm bb (putRow E.w bb (.cells (layV c.toList (l.length * s') vs).toArray te fr)) (Obj.el s' (l ++ xs) b).len (E.cap p) s').blk nm = some bb from upd_same _ _ _]
       show _ = Value.slice _ _ (upd E.cap nm _ nm)
       rw [upd_same]
      ·-- moved
       have hold : ∀ wd,wd.heap = E.w.heap→(Builtin.firstCells s' l.length (.slice (some ⟨bb,0,Option.none⟩) l.length (E.cap p))).run P wd = .ok ov.toArray wd := by
        intro wd hwd
        have := run_loadCells_list (P := P) wd ⟨bb,0,Option.none⟩ ov (fun j v hj=>by
         rw [add_mk,Nat.zero_add,cell_heap hwd]
         exact k8.cell hj)
        rw [hovl] at this
        simpa [Builtin.firstCells] using this
       obtain ⟨cap',w',rest,hrun,hle,hrest,hg⟩ := A.grow (m := l.length) (cap := E.cap p) (base := some ⟨bb,0,Option.none⟩) (old := ov) (ty := o.type) hin hlim hold hovl
       have hsz : (ov ++ vs ++ rest).toArray.size = cap' * s' := by
        simp only [List.size_toArray,List.length_append,hrest,hvl,hovl]
        rw [← Nat.add_mul,← Nat.add_mul]; congr 1; omega
       obtain ⟨mv,i'⟩ := swap_move (s := s') (cap := cap') (ob' := .el s' (l ++ xs) b) hi hl hn hg (fun E' hE ext=>by
        subst hE
        refine .el (upd_same _ _ _) (upd_same _ _ _) h0s (by show _ ≤ upd E.cap nm _ nm; rw [upd_same]; simpa using hle) hlen2 (k6.append hu) (hrr.ext ext) ⟨⟨_,_,_,hg.new,?_,free_new _,?_⟩,?_,fun _=>hi.com0⟩
        ·rw [hsz]; show _ = upd E.cap nm _ nm * s'; rw [upd_same]
        ·intro i v hv
         rw [List.getElem?_toArray,List.getElem?_append_left (List.getElem?_eq_some_iff.1 hv).1]
         exact hv
        ·rw [show (E.move p nm w' (Obj.el s' (l ++ xs) b).len cap' s').C E.w.heap.size = 0 from hi.com0]; omega)
       refine OpOK.val (app_exec ho ha (by rw [hvd]; exact hrun)) mv (born_take rfl) i' (.own (.inr rfl) rfl fun _=>?_)
       unfold hdr
       rw [show (E.move p nm w' (Obj.el s' (l ++ xs) b).len cap' s').blk nm = some E.w.heap.size from upd_same _ _ _]
       show _ = Value.slice _ _ (upd E.cap nm _ nm)
       rw [upd_same]
   ·cases h
  ·cases h
 ·-- onto what is full
  rename_i s' l
  split at h
  ·rename_i hc
   obtain ⟨hss,hpos,hlim⟩ := hc
   cases h
   subst hss
   generalize hvd : a.eval d = vd at rd
   obtain ⟨old,S,hll,hol,huo⟩ := src_elems (P := P) hi rd (s := s') (l := l) (by simp [elemsOf]) h0s
   cases rd with
   | fsl rd =>
    rename_i base
    have hlen2 : (l ++ xs).length < 2 ^ 62 := by
     rw [List.length_append]
     have : l.length + xs.length ≤ (l.length + xs.length) * w := Nat.le_mul_of_pos_right _ hw
     omega
    obtain ⟨cap',w',rest,hrun,hle,hrest,hg⟩ := A.grow (m := l.length) (cap := l.length) (base := base) (old := old) (ty := o.type) (by omega) hlim S.cells S.size
    have hsz : (old ++ vs ++ rest).toArray.size = cap' * s' := by
     simp only [List.size_toArray,List.length_append,hrest,hvl,S.size]
     rw [← Nat.add_mul,← Nat.add_mul]; congr 1; omega
    obtain ⟨i',r⟩ := new_elems (l := l ++ xs) (cap := cap') hi hn hg h0s hlen2 (by rw [List.length_append]; omega) hsz (huo.append hu) (by rw [List.flatMap_append]; exact hol.append hrl) (fun i v hv=>by
     rw [List.getElem?_toArray,List.getElem?_append_left (List.getElem?_eq_some_iff.1 hv).1]; exact hv) (free_new _)
    rw [List.length_append] at r
    exact OpOK.val (app_exec ho ha (by rw [hvd]; exact hrun)) (Move.add hi hg hn _ _ _) (born_add rfl) i' (by rw [List.length_append]; exact r)
  ·cases h
 ·cases h
theorem op_appE (hi : Inv own tm E st a.tmps) (hn : ¬ E.born nm) {d x : Operand} {d' x' : X} {args : Array Operand} {ats : Array TypeId} {t u e : TypeId} {s w : Nat} {zv : Value} (T : AppT P t u e s w zv) (hw : 0 < w)
  (ho : o.op = .call { callee := .builtin .append,args,argTypes := ats }) (hd : trX tm d = some d') (hx : trX tm x = some x') (ha : args = #[d,x]) (hat : ats = #[t,u])
  {v : MV} {st' : DS} (h : appE nm s w (st.rd d') (st.rd x') st = some (v,st')) : OpOK P own tm nm E a o st' v := by
 have h0s := T.h0
 have rx := rd_ok hi hx
 generalize st.rd x' = mx at h rx
 have hh := h
 unfold appE at hh
 split at hh
 ·cases hh
 ·rename_i xs hxs
  obtain ⟨vs,S,hxl,hrl,hu⟩ := src_elems (P := P) hi rx hxs h0s
  refine op_appG hi hn h0s hw ho hd ha (xs := xs) (vs := vs) ⟨fun hc _ hst hn=>append_place T S hc hat hst hn,fun hc hlim hold hol=>append_grow T S hc hlim hw hat hold S.cells hol⟩ hxl hrl hu S.size S.one ?_
  rw [← h]
  have : elemsOf s (.sl s xs) st = some xs := by simp [elemsOf]
  unfold appE
  rw [this,hxs]
theorem op_appZ (hi : Inv own tm E st a.tmps) (hn : ¬ E.born nm) {d x : Operand} {d' x' : X} {args : Array Operand} {ats : Array TypeId} {t u e : TypeId} {s w : Nat} {zv : Value} {z : MV} (T : AppZ P t u e s w zv) (hzv : ofValue zv = some z) (hzs : z.cells.length = s) (hw : 0 < w)
  (ho : o.op = .call { callee := .builtin .append,args,argTypes := ats }) (hd : trX tm d = some d') (hx : trX tm x = some x') (ha : args = #[d,x]) (hat : ats = #[t,u]) {k : IntKind} {n : Int} (hxv : st.rd x' = .int k n) (hn0 : 0 ≤ n ∧ n < 2 ^ 47)
  {v : MV} {st' : DS} (h : appE nm s w (st.rd d') (.sl s (List.replicate n.toNat z)) st = some (v,st')) : OpOK P own tm nm E a o st' v := by
 have h0s := T.h0
 have rx := rd_ok hi hx
 rw [hxv] at rx
 obtain ⟨hr0,pz,fz⟩ := ofValue_rel (E := E) hzv
 obtain ⟨rz,cz⟩ := hr0.cells fz
 have hn62 : n.toNat < 2 ^ 62 := by omega
 have hlen : (List.replicate n.toNat z).length = n.toNat := by simp
 have hvl : (List.replicate n.toNat zv.cells.toList).flatten.length = n.toNat * s := by simp [T.hzs]
 have hrl := rel_zeros rz n.toNat
 have hu := uni_zeros hzs cz pz n.toNat
 have hxe : a.eval x = .int k (n.toNat : Int) := by
  generalize a.eval x = vx at rx
  cases rx
  rw [Int.toNat_of_nonneg hn0.1]
 refine op_appG (e := e) hi hn h0s hw ho hd ha (xs := List.replicate n.toNat z) (vs := (List.replicate n.toNat zv.cells.toList).flatten) ?_ (by rw [hlen]; exact hn62) hrl hu (by rw [hlen]; exact hvl) ?_ h
 ·rw [hlen,hxe]
  exact ⟨fun hc hlim hst hn=>append_placeZ T hn62 hlim hc hat hst hn,fun hc hlim hold hol=>append_growZ T hn62 hc hlim hw hat hold hol⟩
 ·refine hrl.one fun c hc=>?_
  obtain ⟨e,he,hce⟩ := List.mem_flatMap.1 hc
  exact (hu e he).2.1 c hce
end Go.Mini
namespace Go.Mini
open Go Go.RowKit
variable {P : Program} {own : Nat→Prop} {tm : Nat→Bool} {E : Env} {st : DS} {a : Act} {nm : Nat} {o : Oper}
theorem live_hdr (hi : Inv own tm E st a.tmps) {p n : Nat} {x : Value} (hr : RelV E (.own p (n + 1)) x) (hl : live p (n + 1) st = true) : ∃ b,x = .slice (some ⟨b,0,none⟩) (n + 1) (E.cap p) := by
 unfold live at hl
 cases hr with
 | own hb _ hh =>
  split at hl
  ·rename_i l bb ho
   have hn : l.length = n + 1 := by simpa using hl
   have hx := hh (by rw [hi.len,ho]; exact congrArg some hn)
   have ok := hi.objs p _ ho
   cases ok with
   | byt0=>simp at hn
   | byt k1=>exact ⟨_,by rw [hx]; unfold hdr; rw [k1]⟩
  ·rename_i s l bb ho
   have hn : l.length = n + 1 := by simpa using hl
   have hx := hh (by rw [hi.len,ho]; exact congrArg some hn)
   have ok := hi.objs p _ ho
   cases ok with
   | el0=>simp at hn
   | el k1=>exact ⟨_,by rw [hx]; unfold hdr; rw [k1]⟩
  ·cases hl
theorem ba_beq (a b : List UInt8) : ((⟨a.toArray⟩ : ByteArray).toList == (⟨b.toArray⟩ : ByteArray).toList) = (a == b) := by
 rw [ByteArray.toList_mk,ByteArray.toList_mk]
theorem ba_beq2 (a b : List UInt8) : ((⟨a.toArray⟩ : ByteArray) == (⟨b.toArray⟩ : ByteArray)) = (a == b) := by
 rw [beq_toListBytes,ba_beq]
theorem equal_of {P : Program} {t : TypeId} {x y : Value} {r : Bool} {w : World} (h : ∀ d,(Op.equalIn (d + 1) t x y).run P w = .ok r w) : (Op.equal t x y).run P w = .ok r w := h 9999
theorem part_one {P : Program} {t : TypeId} {vs : List Value} {i : Nat} {x : Value} (hu : (∃ k,P.underlying t = some (.int k)) ∨ P.underlying t = some .bool ∨ P.underlying t = some .string) (hx : vs[i]? = some x) (w : World) :
  (part t vs.toArray i).run P w = .ok x w := by
 have ha : (isAgg t).run P w = .ok false w := by
  rcases hu with ⟨k,hu⟩ | hu | hu <;> simp [isAgg,under_run hu]
 simp only [part,Sem.run_bind,ha,Result.andThen_ok,Bool.false_eq_true,if_false,List.getElem?_toArray,hx,Sem.run_pure]
theorem eqFields_ok {P : Program} {d : Nat} {E : Env} {vs ws : List Value} (w : World) : ∀ (fs : List Field) (i : Nat) {ks : List FK} {l m : List MV} {r : Bool},eqFieldsK P i fs = some ks→eqCells ks l m = some r →
  RelL E l (vs.drop i)→RelL E m (ws.drop i)→(Op.eqFields (d + 1) vs.toArray ws.toArray fs).run P w = .ok r w
 | [],i,ks,l,m,r,hf,h,_,_=>by
  simp only [eqFieldsK,Option.some.injEq] at hf
  subst hf
  unfold eqCells at h
  split at h <;> first | (cases h; rfl) | (simp at *; done)
 | f :: fs,i,ks,l,m,r,hf,h,hv,hw=>by
  simp only [eqFieldsK] at hf
  split at hf
  ·rename_i hc
   obtain ⟨hoff,hname⟩ := hc
   split at hf
   ·rename_i k ks' hk hks
    cases hf
    have rest : ∀ {c e : MV} {x' y' : List MV},l = c :: x'→m = e :: y'→∀ r',eqCells ks' x' y' = some r'→∀ b,
      (∀ x y,RelV E c x→RelV E e y→(Op.equalIn (d + 1) f.type x y).run P w = .ok b w)→r = (b && r') →
      ((∃ k,P.underlying f.type = some (.int k)) ∨ P.underlying f.type = some .bool ∨ P.underlying f.type = some .string)→(Op.eqFields (d + 1) vs.toArray ws.toArray (f :: fs)).run P w = .ok r w := by
     rintro c e x' y' rfl rfl r' hr' b hb rfl hu
     cases hvd : vs.drop i with
     | nil=>rw [hvd] at hv; cases hv
     | cons x xs =>
     cases hwd : ws.drop i with
     | nil=>rw [hwd] at hw; cases hw
     | cons y ys =>
     have hxi : vs[i]? = some x := by have := List.getElem?_drop (xs := vs) (i := i) (j := 0); rw [hvd] at this; simpa using this.symm
     have hyi : ws[i]? = some y := by have := List.getElem?_drop (xs := ws) (i := i) (j := 0); rw [hwd] at this; simpa using this.symm
     have hxd : vs.drop (i + 1) = xs := by rw [← List.drop_drop,hvd]; rfl
     have hyd : ws.drop (i + 1) = ys := by rw [← List.drop_drop,hwd]; rfl
     rw [hvd] at hv
     rw [hwd] at hw
     cases hv with
     | cons h1 h2 =>
     cases hw with
     | cons k1 k2 =>
     have p1 := part_one hu hxi w
     have p2 := part_one hu hyi w
     simp only [Op.eqFields,if_pos hname,Sem.run_bind,hoff,p1,p2,Result.andThen_ok,hb x y h1 k1]
     have ih := eqFields_ok (d := d) w fs (i + 1) (l := x') (m := y') (r := r') hks hr' (by rw [hxd]; exact h2) (by rw [hyd]; exact k2)
     cases b
     ·simp
     ·simp [ih]
    unfold eqCells at h
    split at h
    ·simp at *
    ·rename_i e1
     cases e1
     split at h
     ·rename_i hkk
      subst hkk
      simp only [Option.map_eq_some_iff] at h
      obtain ⟨r',hr',rfl⟩ := h
      split at hk <;> cases hk
      rename_i hu
      refine rest rfl rfl r' hr' _ (fun x y hx hy=>?_) rfl (.inl ⟨_,hu⟩)
      cases hx; cases hy
      simp [Op.equalIn,under_run hu]
     ·cases h
    ·rename_i e1
     cases e1
     simp only [Option.map_eq_some_iff] at h
     obtain ⟨r',hr',rfl⟩ := h
     split at hk <;> cases hk
     rename_i hu
     refine rest rfl rfl r' hr' _ (fun x y hx hy=>?_) rfl (.inr (.inl hu))
     cases hx; cases hy
     simp [Op.equalIn,under_run hu]
    ·rename_i e1
     cases e1
     simp only [Option.map_eq_some_iff] at h
     obtain ⟨r',hr',rfl⟩ := h
     split at hk <;> cases hk
     rename_i hu
     refine rest rfl rfl r' hr' _ (fun x y hx hy=>?_) rfl (.inr (.inr hu))
     cases hx; cases hy
     simp [Op.equalIn,under_run hu,ba_beq2]
    ·cases h
   ·cases hf
  ·cases hf
theorem eq_gives {op : BinOp} {neq : Bool} {t t' : TypeId} {x y : Operand} (ho : o.op = .binOp op t x y t') (hop : (op = .eql ∧ neq = false) ∨ (op = .neq ∧ neq = true)) (hi : Inv own tm E st a.tmps) {r : Bool}
  (hg : (eqGuard op t x y (a.eval x) (a.eval y)).run P E.w = .ok () E.w) (he : (Op.equal t (a.eval x) (a.eval y)).run P E.w = .ok r E.w)
  (hb : Go.binOp .eql t (a.eval x) (a.eval y) = (do pure (.bool (← Op.equal t (a.eval x) (a.eval y))))) (hb2 : Go.binOp .neq t (a.eval x) (a.eval y) = (do pure (.bool (!(← Op.equal t (a.eval x) (a.eval y)))))) :
  OpOK P own tm nm E a o st (.bool (if neq then !r else r)) := by
 refine OpOK.gives hi (s := (do eqGuard op t x y (a.eval x) (a.eval y); Go.binOp op t (a.eval x) (a.eval y))) ?_ (by unfold execOp; rw [ho])
 rcases hop with ⟨rfl,rfl⟩ | ⟨rfl,rfl⟩
 ·exact ⟨.bool r,by simp only [Sem.run_bind,hg,Result.andThen_ok,hb,he,Sem.run_pure],.bool⟩
 ·exact ⟨.bool !r,by simp only [Sem.run_bind,hg,Result.andThen_ok,hb2,he,Sem.run_pure],.bool⟩
theorem op_eqs (hi : Inv own tm E st a.tmps) {op : BinOp} {neq : Bool} {k : EqK} {d : TypeDesc} {t t' : TypeId} {x y : Operand} {x' y' : X} (hx : trX tm x = some x') (hy : trX tm y = some y') (ho : o.op = .binOp op t x y t')
  (hop : (op = .eql ∧ neq = false) ∨ (op = .neq ∧ neq = true)) (hu : P.underlying t = some d) (hk : trEq P t d = some k) (hif : k = .iface→∃ c,y = .const c)
  {r : Bool} (h : eqV (fun o n=>live o n st) k (st.rd x') (st.rd y') = some r) : OpOK P own tm nm E a o st (.bool (if neq then !r else r)) := by
 have rx := rd_ok hi hx
 have ry := rd_ok hi hy
 generalize st.rd x' = mx at h rx
 generalize st.rd y' = my at h ry
 have G := eq_gives (P := P) (nm := nm) ho hop hi (r := r)
 generalize hvx : a.eval x = vx at rx G
 generalize hvy : a.eval y = vy at ry G
 have ug := under_run hu
 have ug := under_run hu
 have iface : k = .iface→∃ ms,d = .interface ms := by
  rintro rfl; unfold trEq at hk; split at hk <;> first | exact ⟨_,rfl⟩ | cases hk | (split at hk <;> first | cases hk | (split at hk <;> cases hk))
 have slice : k = .slice→∃ e,d = .slice e := by
  rintro rfl; unfold trEq at hk; split at hk <;> first | exact ⟨_,rfl⟩ | cases hk | (split at hk <;> first | cases hk | (split at hk <;> cases hk))
 have ptr : k = .ptr→∃ e,d = .pointer e := by
  rintro rfl; unfold trEq at hk; split at hk <;> first | exact ⟨_,rfl⟩ | cases hk | (split at hk <;> first | cases hk | (split at hk <;> cases hk))
 have fn : k = .fn→∃ p q r,d = .func p q r := by
  rintro rfl; unfold trEq at hk; split at hk <;> first | exact ⟨_,_,_,rfl⟩ | cases hk | (split at hk <;> first | cases hk | (split at hk <;> cases hk))
 unfold eqV at h
 split at h
 ·-- bool
  cases h; cases rx; cases ry
  have : d = .bool := by unfold trEq at hk; split at hk <;> first | rfl | cases hk | (split at hk <;> first | cases hk | (split at hk <;> cases hk))
  subst this
  exact G (eqGuard_run _ _ _ _ _ (.inl (by simp)) (by simp)) (equal_of fun d=>by simp [Op.equalIn,ug]) rfl rfl
 ·-- nil,nil
  cases h; cases rx; cases ry
  obtain ⟨ms,rfl⟩ := iface rfl
  obtain ⟨c,rfl⟩ := hif rfl
  refine G ?_ (equal_of fun d=>by simp [Op.equalIn,ug]) rfl rfl
  rcases hop with ⟨rfl,_⟩ | ⟨rfl,_⟩ <;> simp [eqGuard]
 ·cases h; cases rx; cases ry
  obtain ⟨ms,rfl⟩ := iface rfl
  exact G (eqGuard_run _ _ _ _ _ (.inr (by simp)) (by simp)) (equal_of fun d=>by simp [Op.equalIn,ug]) rfl rfl
 ·cases h; cases rx; cases ry
  obtain ⟨ms,rfl⟩ := iface rfl
  exact G (eqGuard_run _ _ _ _ _ (.inl (by simp)) (by simp)) (equal_of fun d=>by simp [Op.equalIn,ug]) rfl rfl
 ·cases h; cases rx; cases ry
  obtain ⟨e,rfl⟩ := slice rfl
  exact G (eqGuard_run _ _ _ _ _ (.inl (by simp)) (by simp)) (equal_of fun d=>by simp [Op.equalIn,ug]) rfl rfl
 ·cases h; cases ry
  obtain ⟨e,rfl⟩ := slice rfl
  cases rx with
  | bs hc hl hh =>
   obtain ⟨ad,rfl,_⟩ := hh (by simp)
   exact G (eqGuard_run _ _ _ _ _ (.inl (by simp)) (by simp)) (equal_of fun d=>by simp [Op.equalIn,ug]) rfl rfl
 ·cases h; cases ry
  obtain ⟨e,rfl⟩ := slice rfl
  cases rx with
  | sl hc hl h0 hs hr hh =>
   obtain ⟨ad,rfl,_⟩ := hh (by simp)
   exact G (eqGuard_run _ _ _ _ _ (.inl (by simp)) (by simp)) (equal_of fun d=>by simp [Op.equalIn,ug]) rfl rfl
 ·cases ry
  obtain ⟨e,rfl⟩ := slice rfl
  split at h
  ·rename_i hl
   cases h
   obtain ⟨b,hb⟩ := live_hdr hi rx hl
   subst hb
   exact G (eqGuard_run _ _ _ _ _ (.inl (by simp)) (by simp)) (equal_of fun d=>by simp [Op.equalIn,ug]) rfl rfl
  ·cases h
 ·cases h; cases rx; cases ry
  obtain ⟨e,rfl⟩ := ptr rfl
  exact G (eqGuard_run _ _ _ _ _ (.inl (by simp)) (by simp)) (equal_of fun d=>by simp [Op.equalIn,ug]) rfl rfl
 ·cases h; cases rx; cases ry
  obtain ⟨e,rfl⟩ := ptr rfl
  exact G (eqGuard_run _ _ _ _ _ (.inl (by simp)) (by simp)) (equal_of fun d=>by simp [Op.equalIn,ug]) rfl rfl
 ·cases h; cases rx; cases ry
  obtain ⟨p,q,r,rfl⟩ := fn rfl
  exact G (eqGuard_run _ _ _ _ _ (.inl (by simp)) (by simp)) (equal_of fun d=>by simp [Op.equalIn,ug]) rfl rfl
 ·cases h; cases rx; cases ry
  obtain ⟨p,q,r,rfl⟩ := fn rfl
  exact G (eqGuard_run _ _ _ _ _ (.inl (by simp)) (by simp)) (equal_of fun d=>by simp [Op.equalIn,ug]) rfl rfl
 ·rename_i ks l m
  have : ∃ fs,d = .struct fs ∧ P.eqGuardType P.depth t = false ∧ P.stoodInHeld t = false ∧ eqFieldsK P 0 fs.toList = some ks := by
   unfold trEq at hk; split at hk <;> first | cases hk | skip
   split at hk
   ·rename_i hh
    split at hk
    ·rename_i hks; cases hk; exact ⟨_,rfl,hh.1,hh.2,hks⟩
    ·cases hk
   ·cases hk
  obtain ⟨fs,rfl,h1,h2,h3⟩ := this
  have hfo : P.fieldsOf t = fs := by simp [Program.fieldsOf,hu]
  cases rx with
  | agg hr hc =>
  cases ry with
  | agg kr kc =>
  rename_i vs ws
  refine G (run_eqGuard_agg _ _ _ _ _ _ _ h1) ?_ rfl rfl
  show (Op.equalIn (9998 + 1 + 1) t _ _).run P E.w = _
  rw [run_equalIn_struct E.w _ t _ _ (by rw [hu,hfo]) h2,hfo]
  exact eqFields_ok E.w fs.toList 0 h3 h (by simpa using hr) (by simpa using kr)
 ·cases h
end Go.Mini
namespace Go.Mini
open Go Go.RowKit
variable {P : Program} {own : Nat→Prop} {tm : Nat→Bool} {E : Env} {st : DS} {a : Act} {nm : Nat}
theorem Pure.cells {v : MV} (h : Pure v) : ∀ c ∈ v.cells,Pure c := by
 cases h with
 | agg h=>exact h
 | int=>simp [MV.cells]; exact .int
 | bool=>simp [MV.cells]; exact .bool
 | str=>simp [MV.cells]; exact .str
 | nilsl=>simp [MV.cells]; exact .nilsl
 | bs=>simp [MV.cells]; exact .bs
 | sl h=>simp [MV.cells]; exact .sl h
 | fsl h=>simp [MV.cells]; exact .fsl h
 | tup h=>simp [MV.cells]; exact .tup h
 | nilptr=>simp [MV.cells]; exact .nilptr
 | nilfn=>simp [MV.cells]; exact .nilfn
 | nilif=>simp [MV.cells]; exact .nilif
 | iface h=>simp [MV.cells]; exact .iface h
 | fn h=>simp [MV.cells]; exact .fn h
 | cptr h=>simp [MV.cells]; exact .cptr h
mutual
theorem RelV.bare {E E' : Env} (hC : E'.C = E.C) (hw : E'.w = E.w) : ∀ {v : MV} {x : Value},RelV E v x→Pure v→RelV E' v x
 | _,_,.int h0 h1,_=>.int h0 h1
 | _,_,.bool,_=>.bool
 | _,_,.str h,_=>.str h
 | _,_,.nilsl,_=>.nilsl
 | _,_,.bs hc hl h,_=>.bs hc hl fun hn=>let ⟨ad,e,hh⟩ := h hn; ⟨ad,e,hh.same hC hw⟩
 | _,_,.sl hc hl h0 hs hr h,_=>.sl hc hl h0 hs (RelL.bare hC hw hr fun c hc=>by
   obtain ⟨e,he,hce⟩ := List.mem_flatMap.1 hc
   exact (hs e he).2.2.cells c hce) fun hn=>let ⟨ad,e,hh⟩ := h hn; ⟨ad,e,hh.same hC hw⟩
 | _,_,.fsl h,p=>.fsl (RelV.bare hC hw h (by cases p with | fsl h=>exact .sl h))
 | _,_,.agg hr hc,_=>.agg (RelL.bare hC hw hr fun c h=>(hc c h).2) hc
 | _,_,.tup hr,p=>.tup (RelL.bare hC hw hr (by cases p with | tup h=>exact h))
 | _,_,.nilptr,_=>.nilptr
 | _,_,.nilfn,_=>.nilfn
 | _,_,.nilif,_=>.nilif
 | _,_,.iface hr hp,_=>.iface (RelV.bare hC hw hr hp) hp
 | _,_,.fn hr,p=>.fn (RelL.bare hC hw hr (by cases p with | fn h=>exact h))
 | _,_,.own ..,p=>by cases p
 | _,_,.ptr ..,p=>by cases p
 | _,_,.eptr ..,p=>by cases p
 | _,_,.cptr hr hc h,_=>.cptr (RelL.bare hC hw hr fun c h=>(hc c h).2) hc (h.same hC hw)
 | _,_,.undef,p=>by cases p
theorem RelL.bare {E E' : Env} (hC : E'.C = E.C) (hw : E'.w = E.w) : ∀ {l : List MV} {vs : List Value},RelL E l vs→(∀ e ∈ l,Pure e)→RelL E' l vs
 | _,_,.nil,_=>.nil
 | _,_,.cons h r,p=>.cons (RelV.bare hC hw h (p _ (by simp))) (RelL.bare hC hw r fun e he=>p e (by simp [he]))
end
structure MapOK (E E' : Env) (f : Nat→Nat) : Prop where
 C : E'.C = E.C
 w : E'.w = E.w
 nm : ∀ o,E.born o→E'.born (f o) ∧ ∀ n,E'.len (f o) = some n→E.len o = some n ∧ E'.blk (f o) = E.blk o ∧ E'.cap (f o) = E.cap o
section
variable {E E' : Env} {f : Nat→Nat} (m : MapOK E E' f)
include m
theorem mapRef_ok {v : MV} {x : Value} (hr : RelV E v x) : RelV E' (mapRef f v) x := by
 have bare : ∀ {v : MV} {x : Value},RelV E v x→Pure v→RelV E' v x := fun h p=>RelV.bare (E := E) (E' := E') m.C m.w h p
 cases hr with
 | int h0 h1=>exact .int h0 h1
 | bool=>exact .bool
 | str h=>exact .str h
 | nilsl=>exact .nilsl
 | bs a b c=>exact bare (.bs a b c) .bs
 | sl a b c d e f=>exact bare (.sl a b c d e f) (.sl fun e he=>(d e he).2.2)
 | fsl h=>cases h with | sl a b c d e f=>exact bare (.fsl (.sl a b c d e f)) (.fsl fun e he=>(d e he).2.2)
 | agg a b=>exact bare (.agg a b) (.agg fun e he=>(b e he).2)
 | tup a=>exact .undef
 | nilptr=>exact .nilptr
 | nilfn=>exact .nilfn
 | nilif=>exact .nilif
 | iface a b=>exact bare (.iface a b) (.iface b)
 | fn a =>
  simp only [mapRef]
  split
  ·rename_i g caps vs hp
   refine bare (.fn a) ?_
   have : ∀ {l : List MV} {vs : List Value},RelL E l vs→l.all MV.pureHead = true→∀ c ∈ l,Pure c := by
    intro l
    induction l with
    | nil=>intro vs _ _ c hc; cases hc
    | cons y l ih =>
     intro vs hr ha c hc
     cases hr with
     | cons h1 h2 =>
      simp only [List.all_cons,Bool.and_eq_true] at ha
      rcases List.mem_cons.1 hc with rfl | hc
      ·exact pureHead_pure ha.1 h1
      ·exact ih h2 ha.2 c hc
   exact .fn (this a hp)
  ·exact .undef
 | own hb h1 hh =>
  rename_i o n
  obtain ⟨b1,b2⟩ := m.nm o hb
  refine .own b1 h1 fun hn=>?_
  obtain ⟨a,b,c⟩ := b2 n hn
  rw [hh a]
  unfold hdr
  rw [b,c]
 | ptr hb h1 hh =>
  rename_i o j
  obtain ⟨b1,b2⟩ := m.nm o hb
  refine .ptr b1 h1 fun hn=>?_
  obtain ⟨n,hn⟩ := Option.ne_none_iff_exists'.1 hn
  obtain ⟨a,b,c⟩ := b2 n hn
  obtain ⟨bb,k1,k2⟩ := hh (by rw [a]; simp)
  exact ⟨bb,b.trans k1,k2⟩
 | eptr=>exact .undef
 | cptr a b c=>exact bare (.cptr a b c) (.cptr fun e he=>(b e he).2)
 | undef=>exact .undef
theorem mapV_ok {v : MV} {x : Value} (hr : RelV E v x) : RelV E' (mapV f v) x := by
 by_cases hf : ∃ g caps,v = .fn g caps
 ·obtain ⟨g,caps,rfl⟩ := hf
  cases hr with
  | fn a =>
   refine .fn ?_
   have : ∀ {l : List MV} {vs : List Value},RelL E l vs→RelL E' (l.map (mapRef f)) vs := by
    intro l
    induction l with
    | nil=>intro vs h; cases h; exact .nil
    | cons y l ih =>
     intro vs hr
     cases hr with
     | cons h1 h2=>exact .cons (mapRef_ok m h1) (ih h2)
   exact this a
 ·have : mapV f v = mapRef f v := by
   cases v <;> first | rfl | exact (hf ⟨_,_,rfl⟩).elim
  rw [this]
  exact mapRef_ok m hr
theorem mapVs_ok {l : List MV} : ∀ {vs : List Value},RelL E l vs→RelL E' (l.map (mapV f)) vs := by
 induction l with
 | nil=>intro vs h; cases h; exact .nil
 | cons y l ih =>
  intro vs hr
  cases hr with
  | cons h1 h2=>exact .cons (mapV_ok m h1) (ih h2)
theorem mapR_ok {v : MV} {x : Value} (hr : RelV E v x) : RelV E' (mapR f v) x := by
 by_cases hf : ∃ l,v = .tup l
 ·obtain ⟨l,rfl⟩ := hf
  cases hr with
  | tup a=>exact .tup (mapVs_ok m a)
 ·have : mapR f v = mapV f v := by
   cases v <;> first | rfl | exact (hf ⟨_,rfl⟩).elim
  rw [this]
  exact mapV_ok m hr
end
theorem mapObj_len (f : Nat→Nat) (x : Obj) : (mapObj f x).len = x.len := by
 cases x <;> simp [mapObj,Obj.len]
theorem mapV_cell {f : Nat→Nat} {v : MV} (h : v.cell = true) : (mapV f v).cell = true := by
 cases v with
 | fn g caps=>rfl
 | _=>first | rfl | cases h
theorem mapObj_ok {E E' : Env} {f : Nat→Nat} (m : MapOK E E' f) {i o : Nat} (hb : E'.blk i = E.blk o) (hc : E'.cap i = E.cap o) (hs : E'.sz i = E.sz o) {x : Obj} (hx : ObjOK E o x) : ObjOK E' i (mapObj f x) := by
 cases hx with
 | cells h1 hh hr hc' h0=>exact .cells (hb.trans h1) (by rw [m.w]; exact hh) (mapVs_ok m hr) (fun c hcm=>by
   obtain ⟨d,hd,rfl⟩ := List.mem_map.1 hcm
   exact mapV_cell (hc' d hd)) (by rw [m.C]; exact h0)
 | iter h1 hh hl h0=>exact .iter (hb.trans h1) (by rw [m.w]; exact hh) hl (by rw [m.C]; exact h0)
 | byt0 h1 h2=>exact .byt0 (hb.trans h1) (hs.trans h2)
 | byt h1 h2 h3 h4 h5=>exact .byt (hb.trans h1) (hs.trans h2) (by rw [hc]; exact h3) h4 ⟨by rw [hc,m.w]; exact h5.row,by rw [m.C]; exact h5.com,by rw [m.C]; exact h5.not⟩
 | el0 h1 h2 h3=>exact .el0 (hb.trans h1) (hs.trans h2) h3
 | el h1 h2 h3 h4 h5 h6 h7 h8=>exact .el (hb.trans h1) (hs.trans h2) h3 (by rw [hc]; exact h4) h5 h6 (RelL.bare (E := E) (E' := E') m.C m.w h7 fun c hc=>by
   obtain ⟨e,he,hce⟩ := List.mem_flatMap.1 hc
   exact (h6 e he).2.2.cells c hce) ⟨by rw [hc,m.w]; exact h8.row,by rw [m.C]; exact h8.com,by rw [m.C]; exact h8.not⟩
structure Fr (own : Nat→Prop) (E E' : Env) : Prop where
 C : ∀ b,E.C b ≤ E'.C b
 cell : ∀ b i,i < E.C b→E'.w.cell? ⟨b,i,none⟩ = E.w.cell? ⟨b,i,none⟩
 os : E'.w.os = E.w.os
 tape : E'.w.tape = E.w.tape
 output : E'.w.output = E.w.output
 size : E.w.heap.size ≤ E'.w.heap.size
 block : ∀ k,k < E.w.heap.size→¬ own k→E'.w.heap[k]? = E.w.heap[k]?
 com : ∀ k,¬ own k→E'.C k = E.C k
theorem Fr.refl (own) (E : Env) : Fr own E E := ⟨fun _=>Nat.le_refl _,fun _ _ _=>rfl,rfl,rfl,rfl,Nat.le_refl _,fun _ _ _=>rfl,fun _ _=>rfl⟩
theorem Fr.trans {A B D : Env} (h : Fr own A B) (k : Fr own B D) : Fr own A D where
 C b := Nat.le_trans (h.C b) (k.C b)
 cell b i hi := (k.cell b i (Nat.lt_of_lt_of_le hi (h.C b))).trans (h.cell b i hi)
 os := k.os.trans h.os
 tape := k.tape.trans h.tape
 output := k.output.trans h.output
 size := Nat.le_trans h.size k.size
 block i hi hn := (k.block i (Nat.lt_of_lt_of_le hi h.size) hn).trans (h.block i hi hn)
 com i hn := (k.com i hn).trans (h.com i hn)
theorem Move.fr {E E' : Env} (h : Move own E E') : Fr own E E' := ⟨h.C,h.cell,h.os,h.tape,h.output,h.size,h.block,h.com⟩
theorem Fr.same {E E' : Env} (hC : E'.C = E.C) (hw : E'.w = E.w) : Fr own E E' :=
 ⟨fun b=>by rw [hC]; exact Nat.le_refl _,fun b i _=>by rw [hw],by rw [hw],by rw [hw],by rw [hw],by rw [hw]; exact Nat.le_refl _,fun _ _ _=>by rw [hw],fun _ _=>by rw [hC]⟩
theorem has_iff : ∀ {l : List Nat} {a : Nat},has l a = true ↔ a ∈ l
 | [],a=>by simp [has]
 | b :: l,a=>by
  simp only [has]
  split
  ·rename_i h; simp [h]
  ·rename_i h; rw [has_iff]; simp [Ne.symm h]
theorem nub_nodup : ∀ {l acc : List Nat},acc.Nodup→(nub acc l).Nodup
 | [],acc,h=>by simp only [nub]; exact (List.reverse_perm acc).nodup_iff.2 h
 | a :: l,acc,h=>by
  simp only [nub]
  split
  ·exact nub_nodup h
  ·rename_i hn
   refine nub_nodup (List.nodup_cons.2 ⟨?_,h⟩)
   rw [← has_iff]; exact hn
theorem reach_nodup {O : List (Nat × Obj)} : ∀ (n : Nat) {l : List Nat},l.Nodup→(reach O n l).Nodup
 | 0,_,h=>h
 | n + 1,_,_=>reach_nodup n (nub_nodup List.nodup_nil)
theorem nub_prefix : ∀ {l acc : List Nat},∃ r,nub acc l = acc.reverse ++ r
 | [],acc=>⟨[],by simp [nub]⟩
 | a :: l,acc=>by
  simp only [nub]
  split
  ·exact nub_prefix
  ·obtain ⟨r,hr⟩ := nub_prefix (l := l) (acc := a :: acc)
   exact ⟨a :: r,by rw [hr]; simp⟩
theorem nub_front : ∀ {p l acc : List Nat},(acc.reverse ++ p).Nodup→∃ r,nub acc (p ++ l) = acc.reverse ++ p ++ r
 | [],l,acc,_=>by
  obtain ⟨r,hr⟩ := nub_prefix (l := l) (acc := acc)
  exact ⟨r,by simpa using hr⟩
 | a :: p,l,acc,h=>by
  have hn : ¬ has acc a = true := by
   rw [has_iff]
   intro hm
   rw [List.nodup_append] at h
   exact h.2.2 a (by simpa using hm) a (by simp) rfl
  simp only [List.cons_append,nub,if_neg hn]
  obtain ⟨r,hr⟩ := nub_front (p := p) (l := l) (acc := a :: acc) (by simpa using h)
  exact ⟨r,by rw [hr]; simp⟩
theorem reach_front {O : List (Nat × Obj)} : ∀ (n : Nat) {p r : List Nat},p.Nodup→∃ r',reach O n (p ++ r) = p ++ r'
 | 0,p,r,_=>⟨r,rfl⟩
 | n + 1,p,r,h=>by
  have key : ∀ q,∃ r1,nub [] (p ++ q) = p ++ r1 := fun q=>by
   obtain ⟨r1,h1⟩ := nub_front (p := p) (l := q) (acc := []) (by simpa using h)
   exact ⟨r1,by simpa using h1⟩
  have step : ∀ q r2,nub [] (p ++ q) = p ++ r2→reach O n (nub [] (p ++ q)) = reach O n (p ++ r2) := fun q r2 h=>by rw [h]
  simp only [reach]
  rw [List.append_assoc]
  obtain ⟨r1,h1⟩ := key (r ++ (p ++ r).flatMap (inner O))
  obtain ⟨r',hr⟩ := reach_front (O := O) n (r := r1) h
  exact ⟨r',(step _ r1 h1).trans hr⟩
theorem place_get : ∀ {l : List Nat} {o j i : Nat},place l o j = some i→j ≤ i ∧ l[i - j]? = some o
 | [],o,j,i,h=>by simp [place] at h
 | a :: l,o,j,i,h=>by
  simp only [place] at h
  split at h
  ·rename_i ha; cases h; exact ⟨Nat.le_refl _,by simp [ha]⟩
  ·obtain ⟨h1,h2⟩ := place_get h
   refine ⟨by omega,?_⟩
   have : i - j = (i - (j + 1)) + 1 := by omega
   rw [this]; simpa using h2
theorem objsOf_get {O : List (Nat × Obj)} : ∀ {l : List Nat} {r : List Obj},objsOf O l = some r→r.length = l.length ∧ ∀ (i o : Nat),l[i]? = some o→∃ x,look O o = some x ∧ r[i]? = some x
 | [],r,h=>by simp only [objsOf,Option.some.injEq] at h; subst h; simp
 | a :: l,r,h=>by
  simp only [objsOf] at h
  split at h
  ·rename_i x q hx hq
   cases h
   obtain ⟨h1,h2⟩ := objsOf_get hq
   refine ⟨by simp [h1],fun i o hi=>?_⟩
   cases i with
   | zero=>simp at hi; subst hi; exact ⟨x,hx,rfl⟩
   | succ i=>simpa using h2 i o (by simpa using hi)
  ·cases h
theorem look_idx {α : Type} : ∀ {l : List α} {j i : Nat},look (idx j l) i = if i < j then none else l[i - j]?
 | [],j,i=>by simp [idx,look]
 | x :: l,j,i=>by
  simp only [idx,look]
  by_cases h : j = i
  ·subst h; simp
  ·rw [if_neg h,look_idx]
   by_cases h1 : i < j
   ·rw [if_pos h1,if_pos (by omega)]
   ·rw [if_neg h1,if_neg (by omega)]
    have : i - j = (i - (j + 1)) + 1 := by omega
    rw [this]; simp
def idxO : Nat→List (Option Obj)→List (Nat × Obj)
 | _,[]=>[]
 | i,some x :: r=>(i,x) :: idxO (i + 1) r
 | i,none :: r=>idxO (i + 1) r
theorem look_idxO : ∀ {l : List (Option Obj)} {j i : Nat},look (idxO j l) i = if i < j then none else (l[i - j]?).join
 | [],j,i=>by simp [idxO,look]
 | some x :: l,j,i=>by
  simp only [idxO,look]
  by_cases h : j = i
  ·subst h; simp
  ·rw [if_neg h,look_idxO]
   by_cases h1 : i < j
   ·rw [if_pos h1,if_pos (by omega)]
   ·rw [if_neg h1,if_neg (by omega)]
    have : i - j = (i - (j + 1)) + 1 := by omega
    rw [this]; simp
 | none :: l,j,i=>by
  simp only [idxO]
  rw [look_idxO]
  by_cases h1 : i < j
  ·rw [if_pos h1,if_pos (by omega)]
  ·rw [if_neg h1]
   by_cases h : j = i
   ·subst h; rw [if_pos (by omega)]; simp
   ·rw [if_neg (by omega)]
    have : i - j = (i - (j + 1)) + 1 := by omega
    rw [this]; simp
theorem putBack_out {f : Nat→Nat} {p : Nat} : ∀ {L : List (Option Obj)} {j : Nat} {O : List (Nat × Obj)},(∀ i,i < L.length→f (j + i) ≠ p)→look (putBack f j L O) p = look O p
 | [],j,O,_=>rfl
 | x :: L,j,O,h=>by
  have h0 : f j ≠ p := by simpa using h 0 (by simp)
  have hr : ∀ i,i < L.length→f (j + 1 + i) ≠ p := fun i hi=>by
   have := h (i + 1) (by simpa using hi)
   rw [show j + (i + 1) = j + 1 + i by omega] at this; exact this
  cases x with
  | some x=>simp only [putBack]; rw [putBack_out hr,look_put,if_neg h0]
  | none=>simp only [putBack]; rw [putBack_out hr,look_drop,if_neg h0]
theorem putBack_in {f : Nat→Nat} : ∀ {L : List (Option Obj)} {j i : Nat} {O : List (Nat × Obj)} {x : Option Obj},L[i]? = some x→(∀ i i',i < L.length→i' < L.length→f (j + i) = f (j + i')→i = i')→look (putBack f j L O) (f (j + i)) = x.map (mapObj f)
 | [],j,i,O,x,h,_=>by simp at h
 | y :: L,j,i,O,x,h,inj=>by
  have inj' : ∀ i i',i < L.length→i' < L.length→f (j + 1 + i) = f (j + 1 + i')→i = i' := fun i i' hi hi' e=>by
   have := inj (i + 1) (i' + 1) (by simpa using hi) (by simpa using hi') (by rw [show j + (i + 1) = j + 1 + i by omega,show j + (i' + 1) = j + 1 + i' by omega]; exact e)
   omega
  cases i with
  | zero =>
   simp only [List.getElem?_cons_zero,Option.some.injEq] at h
   subst h
   have hout : ∀ i,i < L.length→f (j + 1 + i) ≠ f j := fun i hi e=>by
    have := inj (i + 1) 0 (by simpa using hi) (by simp) (by rw [show j + (i + 1) = j + 1 + i by omega]; exact e)
    omega
   cases y with
   | some y=>simp only [putBack,Nat.add_zero]; rw [putBack_out hout,look_put_same]; rfl
   | none=>simp only [putBack,Nat.add_zero]; rw [putBack_out hout,look_drop,if_pos rfl]; rfl
  | succ i =>
   simp only [List.getElem?_cons_succ] at h
   have e : j + (i + 1) = j + 1 + i := by omega
   rw [e]
   cases y with
   | some y=>simp only [putBack]; exact putBack_in h inj'
   | none=>simp only [putBack]; exact putBack_in h inj'
end Go.Mini
namespace Go.Mini
open Go Go.RowKit
variable {P : Program} {own : Nat→Prop} {tm : Nat→Bool} {E : Env} {st : DS} {a : Act} {nm : Nat} {o : Oper}
inductive RetV (E : Env) (lo : Nat) : MV→Value→Option Nat→Prop
 | pure {v x} (h : RelV E v x) (p : Pure v) : RetV E lo v x none
 | fby0 : RetV E lo (.fby []) (.slice none 0 0) none
 | fby {l b cap} (hlo : lo ≤ b) (hc : l.length ≤ cap) (hl : l.length < 2 ^ 62) (hr : Row E b cap 1 (l.map byteV) false) : RetV E lo (.fby l) (.slice (some ⟨b,0,none⟩) l.length cap) (some b)
 | fel0 {s} (h0 : 0 < s) : RetV E lo (.fel s []) (.slice none 0 0) none
 | fel {s l b cap vs} (hlo : lo ≤ b) (h0 : 0 < s) (hc : l.length ≤ cap) (hl : l.length < 2 ^ 62) (hu : Uni s l) (hv : RelL E (l.flatMap MV.cells) vs) (hr : Row E b cap s vs false) : RetV E lo (.fel s l) (.slice (some ⟨b,0,none⟩) l.length cap) (some b)
inductive RetL (E : Env) (lo : Nat) : List MV→List Value→List Nat→Prop
 | nil : RetL E lo [] [] []
 | cons {v x l xs bs} {b : Option Nat} (h : RetV E lo v x b) (r : RetL E lo l xs bs) (hb : ∀ k,b = some k→k ∉ bs) : RetL E lo (v :: l) (x :: xs) (b.toList ++ bs)
def Ret (E : Env) (lo : Nat) (r : MV) (x : Value) : Prop :=
 match r with
 | .tup l=>∃ xs bs,x = .tuple xs.toArray ∧ RetL E lo l xs bs
 | r=>∃ b,RetV E lo r x b
def CallK (P : Program) (f : FuncId) (vs : Array Value) (w : World) (K : Value→World→Prop) : Prop :=
 ((callFunc f vs).run P w = .ok (.enter f vs) w ∧ Calls P f vs w (fun e w'=>∃ x,e = .returned x ∧ K x w')) ∨ ∃ x w',(callFunc f vs).run P w = .ok (.value x) w' ∧ K x w'
structure Ground where
 lim : Nat
 G : Env→Prop
 lo : ∀ E,G E→lim ≤ E.w.heap.size
 st : ∀ E E' : Env,(∀ b,E.C b ≤ E'.C b)→(∀ b i,i < E.C b→E'.w.cell? ⟨b,i,none⟩ = E.w.cell? ⟨b,i,none⟩)→(∀ k,k < lim→E'.w.heap[k]? = E.w.heap[k]?)→E.w.heap.size ≤ E'.w.heap.size→G E→G E'
def Ground.On (Gd : Ground) (own : Nat→Prop) (E : Env) : Prop := Gd.G E ∧ ∀ k,own k→Gd.lim ≤ k
theorem Ground.move (Gd : Ground) {own : Nat→Prop} {E E' : Env} (m : Move own E E') (h : Gd.On own E) : Gd.On own E' :=
 ⟨Gd.st E E' m.C m.cell (fun k hk=>m.block k (Nat.lt_of_lt_of_le hk (Gd.lo E h.1)) fun ho=>absurd (h.2 k ho) (by omega)) m.size h.1,h.2⟩
theorem Ground.same (Gd : Ground) {own : Nat→Prop} {E E' : Env} (hC : E'.C = E.C) (hw : E'.w = E.w) (h : Gd.On own E) : Gd.On own E' :=
 ⟨Gd.st E E' (fun b=>by rw [hC]; exact Nat.le_refl _) (fun b i _=>by rw [hw]) (fun k _=>by rw [hw]) (by rw [hw]; exact Nat.le_refl _) h.1,h.2⟩
def Env.next (E : Env) (C : Nat→Nat) (w : World) : Env := { E with C := C,w := w }
def FunOK (P : Program) (Gd : Ground) (f : FuncId) (args : List MV) (r : MV) : Prop :=
 ∀ (E : Env) (vs : List Value),Gd.G E→(∀ b,0 < E.C b→b < E.w.heap.size)→RelL E args vs→(∀ v ∈ args,Pure v) →
  CallK P f vs.toArray E.w fun x w'=>∃ C,Move (fun k=>E.w.heap.size ≤ k) E (E.next C w') ∧ (∀ b,0 < C b→b < w'.heap.size) ∧ Ret (E.next C w') E.w.heap.size r x
abbrev InvO (own : Nat→Prop) (E : Env) (O : List (Nat × Obj)) : Prop := Inv own (fun _=>false) E ⟨[],[],O,0⟩ #[]
def FunOKh (P : Program) (Gd : Ground) (f : FuncId) (args : List MV) (L : List Obj) (r : MV) (L' : List (Option Obj)) : Prop :=
 ∀ (own : Nat→Prop) (E : Env) (vs : List Value),Gd.On own E→InvO own E (idx 0 L)→(∀ p,E.born p→p ≤ L.length)→(∀ p,p ≤ L.length→E.born p)→RelL E args vs →
  CallK P f vs.toArray E.w fun x w'=>∃ E',E'.w = w' ∧ Fr own E E' ∧ InvO own E' (idxO 0 L') ∧ (∀ p,E'.born p→p ≤ L'.length) ∧ RelV E' r x ∧
   ∀ i,i < L.length→∀ n,E'.len i = some n→E.len i = some n ∧ E'.blk i = E.blk i ∧ E'.cap i = E.cap i ∧ E'.sz i = E.sz i
structure COK (P : Program) (Gd : Ground) (C : CallT) : Prop where
 p : ∀ f args r,C.p f args = some r→FunOK P Gd f args r
 h : ∀ f args L r L',C.h f args L = some (r,L')→FunOKh P Gd f args L r L'
theorem Inv.lo {tmps} (h : Inv own tm E st tmps) {k : Nat} (hk : ¬ own k) : k < E.w.heap.size := by
 rcases Nat.lt_or_ge k E.w.heap.size with h' | h'
 ·exact h'
 ·exact (hk (h.base k h')).elim
theorem Inv.called {tmps} (h : Inv own tm E st tmps) {C : Nat→Nat} {w' : World} (mv : Move (fun k=>E.w.heap.size ≤ k) E (E.next C w')) (hg : ∀ b,0 < C b→b < w'.heap.size) :
  Move own E (E.next C w') ∧ Inv own tm (E.next C w') st tmps := by
 have m : Move own E (E.next C w') := ⟨mv.toExt,mv.os,mv.tape,mv.output,mv.size,fun k hk _=>mv.block k hk (by omega),fun k hk=>mv.com k (by have := h.lo hk; omega)⟩
 refine ⟨m,h.change m rfl rfl h.len ?_ h.sep h.ownb hg h.born⟩
 intro p x hp
 refine (h.objs p x hp).ext mv.toExt rfl rfl rfl fun b hb=>?_
 have := h.lt hp hb
 exact ⟨mv.block b this (by omega),mv.com b (by omega)⟩
def Env.adopt (E : Env) (n b k cap sz : Nat) : Env :=
 { C := E.C,w := E.w,born := fun p=>E.born p ∨ p = n,len := upd E.len n (some k),blk := upd E.blk n (some b),cap := upd E.cap n cap,sz := upd E.sz n sz }
theorem Move.adopt {n : Nat} (hn : ¬ E.born n) (b k cap sz : Nat) : Move own E (E.adopt n b k cap sz) where
 C _ := Nat.le_refl _
 cell _ _ _ := rfl
 born _ h := .inl h
 len p hp m hm := by
  have hne : p ≠ n := by rintro rfl; exact hn hp
  have hm : upd E.len n (some k) p = some m := hm
  rw [upd_other _ _ hne] at hm
  exact ⟨hm,upd_other _ _ hne,upd_other _ _ hne,upd_other _ _ hne⟩
 os := rfl
 tape := rfl
 output := rfl
 size := Nat.le_refl _
 block _ _ _ := rfl
 com _ _ := rfl
theorem Inv.adopt {tmps} (h : Inv own tm E st tmps) {n : Nat} (hn : ¬ E.born n) {b cap sz : Nat} {ob : Obj} (hb : own b) (hne : ∀ p,look st.O p ≠ none→E.blk p ≠ some b) (hx : ObjOK (E.adopt n b ob.len cap sz) n ob) :
  Inv own tm (E.adopt n b ob.len cap sz) { st with O := put st.O n ob } tmps := by
 have old : ∀ {r},r ≠ n→look (put st.O n ob) r = look st.O r := fun hr=>by rw [look_put,if_neg (Ne.symm hr)]
 refine h.change (Move.adopt hn _ _ _ _) rfl rfl ?_ ?_ ?_ ?_ h.good ?_
 ·intro p
  show upd E.len n _ p = _
  rw [look_put]
  by_cases hp : p = n
  ·subst hp; simp [upd_same]
  ·rw [upd_other _ _ hp,if_neg (Ne.symm hp),h.len]
 ·intro p x hp
  have hp : look (put st.O n ob) p = some x := hp
  by_cases hpn : p = n
  ·subst hpn; rw [look_put_same] at hp; cases hp; exact hx
  ·rw [old hpn] at hp
   exact (h.objs p x hp).ext (Move.adopt (own := own) hn _ _ _ _).toExt (upd_other _ _ hpn) (upd_other _ _ hpn) (upd_other _ _ hpn) fun b hb=>⟨rfl,rfl⟩
 ·intro p q c hp hq hpb hqb
  have hp : look (put st.O n ob) p ≠ none := hp
  have hq : look (put st.O n ob) q ≠ none := hq
  have hpb : upd E.blk n (some b) p = some c := hpb
  have hqb : upd E.blk n (some b) q = some c := hqb
  by_cases h1 : p = n
  ·by_cases h2 : q = n
   ·rw [h1,h2]
   ·rw [h1,upd_same] at hpb; cases hpb
    rw [old h2] at hq; rw [upd_other _ _ h2] at hqb
    exact (hne q hq hqb).elim
  ·rw [old h1] at hp; rw [upd_other _ _ h1] at hpb
   by_cases h2 : q = n
   ·rw [h2,upd_same] at hqb; cases hqb
    exact (hne p hp hpb).elim
   ·rw [old h2] at hq; rw [upd_other _ _ h2] at hqb
    exact h.sep p q c hp hq hpb hqb
 ·intro p c hp hpb
  have hp : look (put st.O n ob) p ≠ none := hp
  have hpb : upd E.blk n (some b) p = some c := hpb
  by_cases h1 : p = n
  ·rw [h1,upd_same] at hpb; cases hpb; exact hb
  ·rw [old h1] at hp
   rw [upd_other _ _ h1] at hpb
   exact h.ownb p c hp hpb
 ·intro p hp
  have hp : look (put st.O n ob) p ≠ none := hp
  by_cases h1 : p = n
  ·exact .inr h1
  ·rw [old h1] at hp; exact .inl (h.born p hp)
theorem RetV.blk {lo : Nat} {v : MV} {x : Value} {b : Option Nat} (h : RetV E lo v x b) : ∀ k,b = some k→lo ≤ k := by
 intro k hk
 cases h <;> first | (cases hk; done) | (cases hk; assumption)
theorem inst_pure {v : MV} (h : Pure v) (nm : Nat) (st : DS) : inst nm v st = (v,st) := by
 cases h <;> rfl
theorem inst_ok {tmps} (h : Inv own tm E st tmps) {lo : Nat} (hlo : ∀ k,lo ≤ k→own k) {n : Nat} (hn : ¬ E.born n) {v : MV} {x : Value} {b : Option Nat} (hr : RetV E lo v x b)
  (hb : ∀ k,b = some k→∀ p,look st.O p ≠ none→E.blk p ≠ some k) :
  ∃ E',Move own E E' ∧ E'.w = E.w ∧ E'.C = E.C ∧ (∀ p,E'.born p→E.born p ∨ p = n) ∧ Inv own tm E' (inst n v st).2 tmps ∧ RelV E' (inst n v st).1 x ∧ (inst n v st).2.T = st.T ∧ (inst n v st).2.V = st.V ∧ (inst n v st).2.nx = st.nx ∧
   (∀ k,(∀ p,look st.O p ≠ none→E.blk p ≠ some k)→b ≠ some k→∀ p,look (inst n v st).2.O p ≠ none→E'.blk p ≠ some k) := by
 cases hr with
 | pure hr hp =>
  rw [inst_pure hp]
  exact ⟨E,Move.refl _ _,rfl,rfl,fun _ h=>.inl h,h,hr,rfl,rfl,rfl,fun k hk _=>hk⟩
 | fby0 =>
  refine ⟨E.nul n 1,Move.nul hn 1,rfl,rfl,fun p h=>h,Inv.nul h hn rfl (.byt0 (upd_same _ _ _) (upd_same _ _ _)),.own (.inr rfl) rfl fun _=>?_,rfl,rfl,rfl,?_⟩
  ·unfold hdr; rw [show (E.nul n 1).blk n = none from upd_same _ _ _]
  ·intro k hk _ p hp hpb
   have hp : look (put st.O n (.byt [] false)) p ≠ none := hp
   have hpb : upd E.blk n none p = some k := hpb
   by_cases h1 : p = n
   ·subst h1; rw [upd_same] at hpb; cases hpb
   ·rw [look_put,if_neg (Ne.symm h1)] at hp; rw [upd_other _ _ h1] at hpb; exact hk p hp hpb
 | fel0 h0 =>
  rename_i s
  refine ⟨E.nul n s,Move.nul hn s,rfl,rfl,fun p h=>h,Inv.nul h hn rfl (.el0 (upd_same _ _ _) (upd_same _ _ _) h0),.own (.inr rfl) rfl fun _=>?_,rfl,rfl,rfl,?_⟩
  ·unfold hdr; rw [show (E.nul n s).blk n = none from upd_same _ _ _]
  ·intro k hk _ p hp hpb
   have hp : look (put st.O n (.el s [] false)) p ≠ none := hp
   have hpb : upd E.blk n none p = some k := hpb
   by_cases h1 : p = n
   ·subst h1; rw [upd_same] at hpb; cases hpb
   ·rw [look_put,if_neg (Ne.symm h1)] at hp; rw [upd_other _ _ h1] at hpb; exact hk p hp hpb
 | fby hlo' hc hl hr =>
  rename_i l b cap
  refine ⟨E.adopt n b l.length cap 1,Move.adopt hn _ _ _ _,rfl,rfl,fun p h=>h,Inv.adopt h hn (ob := .byt l false) (hlo _ hlo') (hb b rfl) ?_,.own (.inr rfl) rfl fun _=>?_,rfl,rfl,rfl,?_⟩
  ·refine .byt (upd_same _ _ _) (upd_same _ _ _) (by show _ ≤ upd E.cap n _ n; rw [upd_same]; exact hc) hl ?_
   rw [show (E.adopt n b (Obj.byt l false).len cap 1).cap n = cap from upd_same _ _ _]
   exact ⟨hr.row,hr.com,hr.not⟩
  ·unfold hdr; rw [show (E.adopt n b l.length cap 1).blk n = some b from upd_same _ _ _,show (E.adopt n b l.length cap 1).cap n = cap from upd_same _ _ _]
  ·intro k hk hbk p hp hpb
   have hp : look (put st.O n (.byt l false)) p ≠ none := hp
   have hpb : upd E.blk n (some b) p = some k := hpb
   by_cases h1 : p = n
   ·subst h1; rw [upd_same] at hpb; exact hbk hpb
   ·rw [look_put,if_neg (Ne.symm h1)] at hp; rw [upd_other _ _ h1] at hpb; exact hk p hp hpb
 | fel hlo' h0 hc hl hu hv hr =>
  rename_i s l b cap vs
  refine ⟨E.adopt n b l.length cap s,Move.adopt hn _ _ _ _,rfl,rfl,fun p h=>h,Inv.adopt h hn (ob := .el s l false) (hlo _ hlo') (hb b rfl) ?_,.own (.inr rfl) rfl fun _=>?_,rfl,rfl,rfl,?_⟩
  ·refine .el (upd_same _ _ _) (upd_same _ _ _) h0 (by show _ ≤ upd E.cap n _ n; rw [upd_same]; exact hc) hl hu (hv.ext (Move.adopt (own := own) hn _ _ _ _).toExt) ?_
   rw [show (E.adopt n b (Obj.el s l false).len cap s).cap n = cap from upd_same _ _ _]
   exact ⟨hr.row,hr.com,hr.not⟩
  ·unfold hdr; rw [show (E.adopt n b l.length cap s).blk n = some b from upd_same _ _ _,show (E.adopt n b l.length cap s).cap n = cap from upd_same _ _ _]
  ·intro k hk hbk p hp hpb
   have hp : look (put st.O n (.el s l false)) p ≠ none := hp
   have hpb : upd E.blk n (some b) p = some k := hpb
   by_cases h1 : p = n
   ·subst h1; rw [upd_same] at hpb; exact hbk hpb
   ·rw [look_put,if_neg (Ne.symm h1)] at hp; rw [upd_other _ _ h1] at hpb; exact hk p hp hpb
theorem RetV.same {E E' : Env} (hC : E'.C = E.C) (hw : E'.w = E.w) (x : Ext E E') {lo : Nat} {v : MV} {y : Value} {b : Option Nat} (h : RetV E lo v y b) : RetV E' lo v y b := by
 have row : ∀ {b cap s vs lent},Row E b cap s vs lent→Row E' b cap s vs lent := fun h=>⟨by rw [hw]; exact h.row,by rw [hC]; exact h.com,by rw [hC]; exact h.not⟩
 cases h with
 | pure h p=>exact .pure (h.ext x) p
 | fby0=>exact .fby0
 | fby h1 h2 h3 h4=>exact .fby h1 h2 h3 (row h4)
 | fel0 h=>exact .fel0 h
 | fel h1 h2 h3 h4 h5 h6 h7=>exact .fel h1 h2 h3 h4 h5 (h6.ext x) (row h7)
theorem RetL.same {E E' : Env} (hC : E'.C = E.C) (hw : E'.w = E.w) (x : Ext E E') {lo : Nat} : ∀ {l : List MV} {ys : List Value} {bs : List Nat},RetL E lo l ys bs→RetL E' lo l ys bs
 | _,_,_,.nil=>.nil
 | _,_,_,.cons h r hb=>.cons (h.same hC hw x) (RetL.same hC hw x r) hb
theorem insts_ok : ∀ {l : List MV} {E : Env} {st : DS} {tmps : Array Value} {lo : Nat} {n : Nat} {xs : List Value} {bs : List Nat},Inv own tm E st tmps→(∀ k,lo ≤ k→own k)→(∀ p,n ≤ p→p < n + l.length→¬ E.born p)→RetL E lo l xs bs →
  (∀ k ∈ bs,∀ p,look st.O p ≠ none→E.blk p ≠ some k) →
  ∃ E',Move own E E' ∧ E'.w = E.w ∧ (∀ p,E'.born p→E.born p ∨ (n ≤ p ∧ p < n + l.length)) ∧ Inv own tm E' (insts n l st).2 tmps ∧ RelL E' (insts n l st).1 xs ∧ (insts n l st).2.T = st.T ∧ (insts n l st).2.V = st.V ∧ (insts n l st).2.nx = st.nx
 | [],E,st,tmps,lo,n,xs,bs,h,hlo,hn,hr,hb=>by
  cases hr
  exact ⟨E,Move.refl _ _,rfl,fun _ h=>.inl h,h,.nil,rfl,rfl,rfl⟩
 | v :: l,E,st,tmps,lo,n,xs,bs,h,hlo,hn,hr,hb=>by
  cases hr with
  | cons h1 h2 h3 =>
   rename_i x xs bs b
   obtain ⟨E1,m1,w1,c1,b1,i1,r1,t1,v1,n1,s1⟩ := inst_ok h hlo (hn n (Nat.le_refl _) (by simp)) h1 (fun k hk=>hb k (by simp [hk]))
   obtain ⟨E2,m2,w2,b2,i2,r2,t2,v2,n2⟩ := insts_ok i1 hlo (n := n + 1) (fun p hp hp2 hpb=>by
    rcases b1 p hpb with hpb | rfl
    ·exact hn p (by omega) (by simp only [List.length_cons]; omega) hpb
    ·omega) (h2.same c1 w1 m1.toExt) (fun k hk=>s1 k (hb k (by simp [hk])) (fun e=>h3 k e hk))
   refine ⟨E2,m1.trans m2,w2.trans w1,?_,i2,.cons (r1.ext m2.toExt) r2,t2.trans t1,v2.trans v1,n2.trans n1⟩
   intro p hp
   simp only [List.length_cons]
   rcases b2 p hp with hp | hp
   ·rcases b1 p hp with hp | rfl
    ·exact .inl hp
    ·exact .inr ⟨by omega,by omega⟩
   ·exact .inr ⟨by omega,by omega⟩
theorem instR_ok {tmps} (h : Inv own tm E st tmps) {lo : Nat} (hlo : ∀ k,lo ≤ k→own k) (hl2 : ∀ p b,look st.O p ≠ none→E.blk p = some b→b < lo) (hn : ∀ p,nm ≤ p→p < nm + 4→¬ E.born p) {r : MV} {x : Value} (hw : r.width ≤ 4) (hr : Ret E lo r x) :
  ∃ E',Move own E E' ∧ E'.w = E.w ∧ (∀ p,E'.born p→E.born p ∨ (nm ≤ p ∧ p < nm + 4)) ∧ Inv own tm E' (instR nm r st).2 tmps ∧ RelV E' (instR nm r st).1 x := by
 by_cases ht : ∃ l,r = .tup l
 ·obtain ⟨l,rfl⟩ := ht
  obtain ⟨xs,bs,rfl,hr⟩ := hr
  have hlow : ∀ {l : List MV} {xs : List Value} {bs : List Nat},RetL E lo l xs bs→∀ k ∈ bs,lo ≤ k := by
   intro l
   induction l with
   | nil=>intro xs bs h k hk; cases h; cases hk
   | cons v l ih =>
    intro xs bs h k hk
    cases h with
    | cons h1 h2 h3 =>
     rcases List.mem_append.1 hk with hk | hk
     ·exact h1.blk k (by simpa using hk)
     ·exact ih h2 k hk
  have hw : l.length ≤ 4 := hw
  obtain ⟨E',m,w,b,i,rr,t,v,n⟩ := insts_ok h hlo (n := nm) (fun p h1 h2=>hn p h1 (by omega)) hr (fun k hk p hp hpb=>by have := hl2 p k hp hpb; have := hlow hr k hk; omega)
  refine ⟨E',m,w,fun p hp=>?_,i,.tup rr⟩
  rcases b p hp with h | h
  ·exact .inl h
  ·exact .inr ⟨h.1,by omega⟩
 ·have e : instR nm r st = inst nm r st := by
   cases r <;> first | rfl | exact (ht ⟨_,rfl⟩).elim
  have hr : ∃ b,RetV E lo r x b := by
   cases r <;> first | exact hr | exact (ht ⟨_,rfl⟩).elim
  obtain ⟨b,hr⟩ := hr
  obtain ⟨E',m,w,c,b,i,rr,t,v,n,s⟩ := inst_ok h hlo (hn nm (Nat.le_refl _) (by omega)) hr (fun k hk p hp hpb=>by have := hl2 p k hp hpb; have := hr.blk k hk; omega)
  rw [e]
  refine ⟨E',m,w,fun p hp=>?_,i,rr⟩
  rcases b p hp with h | rfl
  ·exact .inl h
  ·exact .inr ⟨Nat.le_refl _,by omega⟩
theorem dCall_ok {Gd : Ground} {C : CallT} (hC : COK P Gd C) (hG : Gd.On own E) (hi : Inv own tm E st a.tmps) (hn : ∀ p,nm ≤ p→p < nm + 4→¬ E.born p) {f : FuncId} {args : List MV} {vs : List Value} (hr : RelL E args vs)
  (hx : (execOp a.eval o).run P E.w = (callFunc f vs.toArray).run P E.w) {v : MV} {st' : DS} (h : dCall C nm f args st = some (v,st')) : OpOK P own tm nm E a o st' v := by
 unfold dCall at h
 split at h
 ·rename_i as st1 h1
  split at h
  ·rename_i r hr'
   split at h
   ·rename_i hwid
    have hv : (instR nm r st1).1 = v ∧ (instR nm r st1).2 = st' := by
     cases hh : instR nm r st1 with
     | mk p q=>rw [hh] at h; cases h; exact ⟨rfl,rfl⟩
    obtain ⟨E1,m1,w1,b1,i1,rl,pl,_,t1,v1,n1⟩ := lends_sound hi hr h1
    have ok := hC.p f as r hr' E1 vs (Gd.move m1 hG).1 i1.good rl pl
    rw [w1] at ok
    have fin : ∀ (x : Value) (w' : World),(∃ C,Move (fun k=>E.w.heap.size ≤ k) E1 (E1.next C w') ∧ (∀ b,0 < C b→b < w'.heap.size) ∧ Ret (E1.next C w') E.w.heap.size r x) →
      ∃ E3,Move own E E3 ∧ E3.w = w' ∧ (∀ p,E3.born p→E.born p ∨ (nm ≤ p ∧ p < nm + 4)) ∧ Inv own tm E3 st' a.tmps ∧ RelV E3 v x := by
     rintro x w' ⟨C',mv,hg,hret⟩
     rw [← w1] at mv
     obtain ⟨m2,i2⟩ := i1.called mv hg
     obtain ⟨E3,m3,w3,b3,i3,r3⟩ := instR_ok (nm := nm) i2 (lo := E.w.heap.size) (fun k hk=>hi.base k hk) (fun p b hp hb=>by
      obtain ⟨ob,hob⟩ := Option.ne_none_iff_exists'.1 hp
      have := i1.lt hob hb
      rw [w1] at this; exact this) (fun p h1 h2 hb=>by
      have hb : E1.born p := hb
      rw [b1] at hb; exact hn p h1 h2 hb) hwid hret
     rw [hv.1] at r3
     rw [hv.2] at i3
     refine ⟨E3,(m1.trans m2).trans m3,w3,fun p hp=>?_,i3,r3⟩
     rcases b3 p hp with hp | hp
     ·have hp : E1.born p := hp
      rw [b1] at hp; exact .inl hp
     ·exact .inr hp
    intro next Q hnext
    unfold Oper.wp
    rw [hx]
    rcases ok with ⟨hrun,hcalls⟩ | ⟨x,w',hrun,hk⟩
    ·rw [hrun]
     refine Calls.mono hcalls ?_
     rintro e w' ⟨x,rfl,hk⟩
     obtain ⟨E3,m,w,b,i,r⟩ := fin x w' hk
     subst w
     exact hnext E3 x m b i r
    ·rw [hrun]
     obtain ⟨E3,m,w,b,i,r⟩ := fin x w' hk
     subst w
     exact hnext E3 x m b i r
   ·cases h
  ·cases h
 ·cases h
theorem op_call {Gd : Ground} {C : CallT} (hC : COK P Gd C) (hG : Gd.On own E) (hi : Inv own tm E st a.tmps) (hn : ∀ p,nm ≤ p→p < nm + 4→¬ E.born p) {f : FuncId} {args : Array Operand} {ats : Array TypeId} {ys : List X}
  (hx : trXs tm args.toList = some ys) (ho : o.op = .call { callee := .value (.func f),args,argTypes := ats }) {v : MV} {st' : DS} (h : dCall C nm f (ys.map st.rd) st = some (v,st')) : OpOK P own tm nm E a o st' v := by
 refine dCall_ok hC hG hi hn (rds_ok hi hx) ?_ h
 unfold execOp
 rw [ho]
 simp [resolve,Act.eval,Deferred.ofValue,invoke,← Array.toList_map]
theorem op_callv {Gd : Ground} {C : CallT} (hC : COK P Gd C) (hG : Gd.On own E) (hi : Inv own tm E st a.tmps) (hn : ∀ p,nm ≤ p→p < nm + 4→¬ E.born p) {f : Operand} {f' : X} {args : Array Operand} {ats : Array TypeId} {ys : List X}
  (hf : trX tm f = some f') (hx : trXs tm args.toList = some ys) (ho : o.op = .call { callee := .value f,args,argTypes := ats }) {g : FuncId} {caps : List MV} (hg : st.rd f' = .fn g caps) {v : MV} {st' : DS}
  (h : dCall C nm g (ys.map st.rd ++ caps) st = some (v,st')) : OpOK P own tm nm E a o st' v := by
 have rf := rd_ok hi hf
 rw [hg] at rf
 generalize hvf : a.eval f = vf at rf
 cases rf with
 | fn hcaps =>
  refine dCall_ok hC hG hi hn ((rds_ok hi hx).append hcaps) ?_ h
  unfold execOp
  rw [ho]
  simp only [resolve,hvf,Deferred.ofValue,Sem.run_bind,Sem.run_pure,Result.andThen_ok,invoke,Array.empty_append]
  congr 2
  rw [← Array.toList_map]
  simp
theorem freeze_row {w : World} {b n : Nat} {c : Array Value} {e : TypeId} {fr : Nat × Nat} (h : w.heap[b]? = some (.cells c e fr)) :
  w.freeze ⟨b,n,none⟩ 1 = putRow w b (.cells c e (if fr.1 == fr.2 then (n,n + 1) else (min fr.1 n,max fr.2 (n + 1)))) := by
 have hlt := (Array.getElem?_eq_some_iff.1 h).1
 obtain ⟨x,y⟩ := fr
 unfold World.freeze putRow
 simp only [Nat.one_ne_zero,if_false]
 congr 1
 apply Array.ext_getElem?
 intro i
 rw [Array.getElem?_modify]
 by_cases hi : b = i
 ·subst hi
  rw [if_pos rfl,h]
  simp [hlt]
 ·rw [if_neg hi,Array.getElem?_setIfInBounds_ne hi]
theorem op_mark (hi : Inv own tm E st a.tmps) {s e : TypeId} {x : Operand} {x' : X} (hx : trX tm x = some x') (ho : o.op = .convert s s x) (hs : P.underlying s = some (.slice e)) (he : isByteT P e = true)
  {p n : Nat} {l : List UInt8} {bb : Bool} (hr : st.rd x' = .own p n) (hl : look st.O p = some (.byt l bb)) (hn : l.length = n ∧ 0 < n) : OpOK P own tm nm E a o st (.own p n) := by
 have rx := rd_ok hi hx
 rw [hr] at rx
 generalize hvx : a.eval x = vx at rx
 have hx0 : vx = hdr E p n := by
  cases rx with
  | own hb h1 hh=>exact hh (by rw [hi.len,hl]; exact congrArg some hn.1)
 have ok := hi.objs p _ hl
 cases ok with
 | byt0=>simp at hn; omega
 | byt k1 k2 k3 k4 k5 =>
  rename_i b
  have hv : vx = .slice (some ⟨b,0,none⟩) n (E.cap p) := by rw [hx0]; unfold hdr; rw [k1]
  obtain ⟨c,te,fr,hh,hcs,hf,hpre⟩ := k5.row
  have hlt := hi.lt hl k1
  have hown := hi.ownb p b (by rw [hl]; simp) k1
  let G : Go.Obj := .cells c te (if fr.1 == fr.2 then (c.size,c.size + 1) else (min fr.1 c.size,max fr.2 (c.size + 1)))
  have hc : ∀ i,i < E.C b→(putRow E.w b G).cell? ⟨b,i,none⟩ = E.w.cell? ⟨b,i,none⟩ := by
   intro i _
   unfold World.cell?
   rw [putRow_same _ hlt,hh]
  have hfree : Free c.size (if fr.1 == fr.2 then (c.size,c.size + 1) else (min fr.1 c.size,max fr.2 (c.size + 1))) := by
   split
   ·exact .inr (Nat.le_refl _)
   ·rename_i hne
    rcases hf with hf | hf
    ·exact (hne (by simpa using hf)).elim
    ·exact .inr (by simp only; omega)
  have mv := Move.write (E := E) (G := G) hown hlt hc
  have i' := Inv.write hi hl k1 (ob' := .byt l bb) rfl hc (.byt k1 k2 k3 k4 ⟨⟨c,te,_,putRow_same _ hlt,hcs,hfree,hpre⟩,k5.com,k5.not⟩)
  have i2 : Inv own tm { E with w := putRow E.w b G } st a.tmps := by
   have lk : ∀ q,look (put st.O p (.byt l bb)) q = look st.O q := by
    intro q
    rw [look_put]
    split
    ·rename_i h; subst h; exact hl.symm
    ·rfl
   exact { len := fun q => by rw [i'.len]; exact congrArg _ (lk q), objs := fun q y hy => i'.objs q y (by rw [← lk] at hy; exact hy), sep := fun q r b h1 h2 => i'.sep q r b (by rw [← lk] at h1; exact h1) (by rw [← lk] at h2; exact h2),
           ownb := fun q b h1=>i'.ownb q b (by rw [← lk] at h1; exact h1),good := i'.good,born := fun q h1=>i'.born q (by rw [← lk] at h1; exact h1),base := i'.base,tabs := i'.tabs,T := i'.T,V := i'.V }
  refine OpOK.val (E' := { E with w := putRow E.w b G }) (x := vx) ?_ mv (fun _ h=>.inl h) i2 (rx.ext mv.toExt)
  have hsh : E.w.shape? b = some (te,c.size) := by unfold World.shape?; rw [hh]
  have hu8 := isByteT_ok he
  unfold execOp
  rw [ho]
  simp only [hvx,hv]
  simp only [Go.convert,Sem.run_bind,under_run hs,under_run hu8,Result.andThen_ok,markStringish,run_shape,hsh,run_freeze,freeze_row hh,Sem.run_pure,beq_self_eq_true]
  rfl
end Go.Mini
namespace Go.Mini
open Go Go.RowKit
variable {P : Program} {own : Nat→Prop} {tm : Nat→Bool} {E : Env} {st : DS} {a : Act} {nm : Nat} {o : Oper}
def Env.sub (E : Env) (ns : List Nat) (O : List (Nat × Obj)) : Env :=
 { C := E.C, w := E.w, born := fun p => p ≤ ns.length, len := fun p => (look O p).map Obj.len, blk := fun p => (ns[p]?).bind E.blk
   cap := fun p=>match ns[p]? with | some o=>E.cap o | .none=>0
   sz := fun p=>match ns[p]? with | some o=>E.sz o | .none=>0 }
def Env.back (E E2 : Env) (k nm : Nat) (O : List (Nat × Obj)) : Env :=
 { C := E2.C, w := E2.w, born := fun p => E.born p ∨ (nm ≤ p ∧ p < nm + 4), len := fun p => (look O p).map Obj.len
   blk := fun p=>if nm ≤ p ∧ p < nm + 4 then E2.blk (k + (p - nm)) else E.blk p
   cap := fun p=>if nm ≤ p ∧ p < nm + 4 then E2.cap (k + (p - nm)) else E.cap p
   sz := fun p=>if nm ≤ p ∧ p < nm + 4 then E2.sz (k + (p - nm)) else E.sz p }
section
variable {tmps : Array Value} {ns : List Nat} {objs : List Obj}
theorem objs_at (hO : objsOf st.O ns = some objs) {i o : Nat} (hi : ns[i]? = some o) : ∃ x,look st.O o = some x ∧ look (idx 0 (objs.map (renObj ns))) i = some (renObj ns x) := by
 obtain ⟨_,h2⟩ := objsOf_get hO
 obtain ⟨x,h3,h4⟩ := h2 i o hi
 refine ⟨x,h3,?_⟩
 rw [look_idx,if_neg (by omega)]
 simp [h4]
theorem sub_map (h : Inv own tm E st tmps) (hO : objsOf st.O ns = some objs) : MapOK E (E.sub ns (idx 0 (objs.map (renObj ns)))) (nameOf ns) where
 C := rfl
 w := rfl
 nm o ho := by
  obtain ⟨hl,_⟩ := objsOf_get hO
  unfold nameOf
  cases hp : place ns o 0 with
  | none =>
   refine ⟨Nat.le_refl _,fun n hn=>?_⟩
   have hn : (look (idx 0 (objs.map (renObj ns))) ns.length).map Obj.len = some n := hn
   rw [look_idx,if_neg (by omega),List.getElem?_eq_none (by simp [hl])] at hn
   cases hn
  | some i =>
   obtain ⟨_,hi⟩ := place_get hp
   simp only [Nat.sub_zero] at hi
   have hlt := (List.getElem?_eq_some_iff.1 hi).1
   obtain ⟨x,h3,h4⟩ := objs_at hO hi
   refine ⟨Nat.le_of_lt hlt,fun n hn=>?_⟩
   have hn : (look (idx 0 (objs.map (renObj ns))) i).map Obj.len = some n := hn
   rw [h4] at hn
   refine ⟨?_,?_,?_⟩
   ·rw [h.len,h3]; simpa [renObj,mapObj_len] using hn
   ·show (ns[i]?).bind E.blk = E.blk o
    rw [hi]; rfl
   ·show (match ns[i]? with | some o=>E.cap o | none=>0) = E.cap o
    rw [hi]
def ownS (E : Env) (ns : List Nat) (k : Nat) : Prop := E.w.heap.size ≤ k ∨ ∃ o ∈ ns,E.blk o = some k
theorem sub_inv (h : Inv own tm E st tmps) (hnd : ns.Nodup) (hO : objsOf st.O ns = some objs) : InvO (ownS E ns) (E.sub ns (idx 0 (objs.map (renObj ns)))) (idx 0 (objs.map (renObj ns))) := by
 obtain ⟨hl,h2⟩ := objsOf_get hO
 have m := sub_map h hO
 have at' : ∀ p x,look (idx 0 (objs.map (renObj ns))) p = some x→∃ o y,ns[p]? = some o ∧ look st.O o = some y ∧ x = renObj ns y := by
  intro p x hp
  rw [look_idx,if_neg (by omega),Nat.sub_zero] at hp
  have hlt : p < ns.length := by
   have := (List.getElem?_eq_some_iff.1 hp).1
   simpa [hl] using this
  obtain ⟨y,h3,h4⟩ := h2 p ns[p] (List.getElem?_eq_getElem hlt)
  refine ⟨ns[p],y,List.getElem?_eq_getElem hlt,h3,?_⟩
  simpa [h4] using hp.symm
 refine { len := fun p=>rfl,objs := fun p x hp=>?_,sep := fun p q b hp hq hpb hqb=>?_,ownb := fun p b hp hpb=>?_,good := h.good,born := fun p hp=>?_,base := fun k hk=>.inl hk,tabs := fun k g hk ht=>(nomatch ht),T := fun n v hn=>by simp [look] at hn,V := fun n v hn=>by simp [look] at hn }
 ·obtain ⟨o,y,h3,h4,rfl⟩ := at' p x hp
  refine mapObj_ok m ?_ ?_ ?_ (h.objs o y h4)
  ·show (ns[p]?).bind E.blk = _; rw [h3]; rfl
  ·show (match ns[p]? with | some o=>E.cap o | none=>0) = _; rw [h3]
  ·show (match ns[p]? with | some o=>E.sz o | none=>0) = _; rw [h3]
 ·obtain ⟨x,hx⟩ := Option.ne_none_iff_exists'.1 hp
  obtain ⟨y,hy⟩ := Option.ne_none_iff_exists'.1 hq
  obtain ⟨o,x',h3,h4,rfl⟩ := at' p x hx
  obtain ⟨o',y',h5,h6,rfl⟩ := at' q y hy
  have hpb : (ns[p]?).bind E.blk = some b := hpb
  have hqb : (ns[q]?).bind E.blk = some b := hqb
  rw [h3] at hpb; rw [h5] at hqb
  have := h.sep o o' b (by rw [h4]; simp) (by rw [h6]; simp) hpb hqb
  subst this
  obtain ⟨l1,e1⟩ := List.getElem?_eq_some_iff.1 h3
  obtain ⟨l2,e2⟩ := List.getElem?_eq_some_iff.1 h5
  exact (List.getElem_inj hnd).1 (e1.trans e2.symm)
 ·obtain ⟨x,hx⟩ := Option.ne_none_iff_exists'.1 hp
  obtain ⟨o,x',h3,h4,rfl⟩ := at' p x hx
  have hpb : (ns[p]?).bind E.blk = some b := hpb
  rw [h3] at hpb
  exact .inr ⟨o,List.mem_of_getElem? h3,hpb⟩
 ·obtain ⟨x,hx⟩ := Option.ne_none_iff_exists'.1 hp
  obtain ⟨o,x',h3,_,_⟩ := at' p x hx
  exact Nat.le_of_lt (List.getElem?_eq_some_iff.1 h3).1
theorem nameB_in {i o : Nat} (hi : ns[i]? = some o) : nameB ns nm i = o := by unfold nameB; rw [hi]
theorem nameB_out {i : Nat} (hi : ns.length ≤ i) : nameB ns nm i = nm + (i - ns.length) := by unfold nameB; rw [List.getElem?_eq_none hi]
variable (h : Inv own tm E st tmps) (hnd : ns.Nodup) (hO : objsOf st.O ns = some objs) (hn : ∀ p,nm ≤ p→p < nm + 4→¬ E.born p)
include h hnd hO hn
theorem ns_born {i o : Nat} (hi : ns[i]? = some o) : E.born o := by
 obtain ⟨x,h3,_⟩ := objs_at hO hi
 exact h.born o (by rw [h3]; simp)
theorem nameB_inj {i j : Nat} (hi : i < ns.length + 4) (hj : j < ns.length + 4) (e : nameB ns nm i = nameB ns nm j) : i = j := by
 have far : ∀ {i j : Nat},i < ns.length→ns.length ≤ j→j < ns.length + 4→nameB ns nm i = nameB ns nm j→False := by
  intro i j hi hj hj2 e
  have hi' := List.getElem?_eq_getElem hi
  rw [nameB_in hi',nameB_out hj] at e
  have := ns_born h hnd hO hn hi'
  exact hn _ (by omega) (by omega) (e ▸ this)
 rcases Nat.lt_or_ge i ns.length with h1 | h1
 ·rcases Nat.lt_or_ge j ns.length with h2 | h2
  ·rw [nameB_in (List.getElem?_eq_getElem h1),nameB_in (List.getElem?_eq_getElem h2)] at e
   exact (List.getElem_inj hnd).1 e
  ·exact (far h1 h2 hj e).elim
 ·rcases Nat.lt_or_ge j ns.length with h2 | h2
  ·exact (far h2 h1 hi e.symm).elim
  ·rw [nameB_out h1,nameB_out h2] at e; omega
variable {E2 : Env} {L' : List (Option Obj)} (hlen : ns.length ≤ L'.length ∧ L'.length < ns.length + 4)
include hlen
theorem look_back {i : Nat} {x : Option Obj} (hi : L'[i]? = some x) : look (putBack (nameB ns nm) 0 L' st.O) (nameB ns nm i) = x.map (mapObj (nameB ns nm)) := by
 have := putBack_in (f := nameB ns nm) (L := L') (j := 0) (i := i) (O := st.O) hi (fun i i' h1 h2 e=>by
  rw [Nat.zero_add,Nat.zero_add] at e
  exact nameB_inj h hnd hO hn (by omega) (by omega) e)
 rwa [Nat.zero_add] at this
theorem look_else {p : Nat} (hp : ∀ i,i < L'.length→nameB ns nm i ≠ p) : look (putBack (nameB ns nm) 0 L' st.O) p = look st.O p :=
 putBack_out fun i hi=>by rw [Nat.zero_add]; exact hp i hi
theorem back_cases {p : Nat} {x : Obj} (hp : look (putBack (nameB ns nm) 0 L' st.O) p = some x) :
  (∃ i y,i < L'.length ∧ nameB ns nm i = p ∧ look (idxO 0 L') i = some y ∧ x = mapObj (nameB ns nm) y) ∨ ((∀ i,i < L'.length→nameB ns nm i ≠ p) ∧ look st.O p = some x) := by
 by_cases hx : ∃ i,i < L'.length ∧ nameB ns nm i = p
 ·obtain ⟨i,hi,rfl⟩ := hx
  rw [look_back h hnd hO hn hlen (List.getElem?_eq_getElem hi)] at hp
  cases hy : L'[i] with
  | none=>rw [hy] at hp; cases hp
  | some y =>
   rw [hy] at hp
   refine .inl ⟨i,y,hi,rfl,?_,by simpa using hp.symm⟩
   rw [look_idxO,if_neg (by omega),Nat.sub_zero,List.getElem?_eq_getElem hi,hy]
   rfl
 ·have hx : ∀ i,i < L'.length→nameB ns nm i ≠ p := fun i hi e=>hx ⟨i,hi,e⟩
  exact .inr ⟨hx,by rw [← look_else h hnd hO hn hlen hx]; exact hp⟩
variable (hfr : Fr (ownS E ns) (E.sub ns (idx 0 (objs.map (renObj ns)))) E2) (hi2 : InvO (ownS E ns) E2 (idxO 0 L')) (hb2 : ∀ p,E2.born p→p ≤ L'.length)
 (hk : ∀ i,i < ns.length→∀ n,E2.len i = some n→(E.sub ns (idx 0 (objs.map (renObj ns)))).len i = some n ∧ E2.blk i = (E.sub ns (idx 0 (objs.map (renObj ns)))).blk i ∧ E2.cap i = (E.sub ns (idx 0 (objs.map (renObj ns)))).cap i ∧ E2.sz i = (E.sub ns (idx 0 (objs.map (renObj ns)))).sz i)
include hfr hi2 hb2 hk
theorem back_at {i : Nat} (hi : i ≤ L'.length) : let E3 := E.back E2 ns.length nm (putBack (nameB ns nm) 0 L' st.O)
  E3.born (nameB ns nm i) ∧ ∀ n,E3.len (nameB ns nm i) = some n→E2.len i = some n ∧ E3.blk (nameB ns nm i) = E2.blk i ∧ E3.cap (nameB ns nm i) = E2.cap i ∧ E3.sz (nameB ns nm i) = E2.sz i := by
 intro E3
 rcases Nat.lt_or_ge i ns.length with h1 | h1
 ·have hg := List.getElem?_eq_getElem h1
  have e := nameB_in (nm := nm) hg
  have hbn := ns_born h hnd hO hn hg
  have hout : ¬ (nm ≤ ns[i] ∧ ns[i] < nm + 4) := fun hh=>hn _ hh.1 hh.2 hbn
  refine ⟨.inl (e ▸ hbn),fun n hl=>?_⟩
  have hl : (look (putBack (nameB ns nm) 0 L' st.O) (nameB ns nm i)).map Obj.len = some n := hl
  have hlt : i < L'.length := by omega
  have hl2 : E2.len i = some n := by
   rw [hi2.len]
   show (look (idxO 0 L') i).map Obj.len = some n
   rw [look_back h hnd hO hn hlen (List.getElem?_eq_getElem hlt)] at hl
   rw [look_idxO,if_neg (by omega),Nat.sub_zero,List.getElem?_eq_getElem hlt]
   cases hy : L'[i] with
   | none=>rw [hy] at hl; cases hl
   | some y=>rw [hy] at hl; simpa [mapObj_len] using hl
  obtain ⟨_,k2,k3,k4⟩ := hk i h1 n hl2
  refine ⟨hl2,?_,?_,?_⟩
  ·show (if nm ≤ nameB ns nm i ∧ nameB ns nm i < nm + 4 then _ else E.blk (nameB ns nm i)) = _
   rw [e,if_neg hout,k2]
   show _ = (ns[i]?).bind E.blk
   rw [hg]; rfl
  ·show (if nm ≤ nameB ns nm i ∧ nameB ns nm i < nm + 4 then _ else E.cap (nameB ns nm i)) = _
   rw [e,if_neg hout,k3]
   show _ = (match ns[i]? with | some o=>E.cap o | none=>0)
   rw [hg]
  ·show (if nm ≤ nameB ns nm i ∧ nameB ns nm i < nm + 4 then _ else E.sz (nameB ns nm i)) = _
   rw [e,if_neg hout,k4]
   show _ = (match ns[i]? with | some o=>E.sz o | none=>0)
   rw [hg]
 ·have e := nameB_out (nm := nm) h1
  have hin : nm ≤ nm + (i - ns.length) ∧ nm + (i - ns.length) < nm + 4 := ⟨by omega,by omega⟩
  have e2 : ns.length + (nm + (i - ns.length) - nm) = i := by omega
  refine ⟨.inr (by rw [e]; exact hin),fun n hl=>?_⟩
  have hl : (look (putBack (nameB ns nm) 0 L' st.O) (nameB ns nm i)).map Obj.len = some n := hl
  refine ⟨?_,?_,?_,?_⟩
  ·rw [hi2.len]
   show (look (idxO 0 L') i).map Obj.len = some n
   rcases Nat.lt_or_ge i L'.length with h2 | h2
   ·rw [look_back h hnd hO hn hlen (List.getElem?_eq_getElem h2)] at hl
    rw [look_idxO,if_neg (by omega),Nat.sub_zero,List.getElem?_eq_getElem h2]
    cases hy : L'[i] with
    | none=>rw [hy] at hl; cases hl
    | some y=>rw [hy] at hl; simpa [mapObj_len] using hl
   ·rw [look_else h hnd hO hn hlen (fun j hj e'=>by
     have := nameB_inj h hnd hO hn (by omega) (by omega) e'
     omega)] at hl
    cases hx : look st.O (nameB ns nm i) with
    | none=>rw [hx] at hl; cases hl
    | some x =>
     have := h.born (nameB ns nm i) (by rw [hx]; simp)
     rw [e] at this
     exact (hn _ hin.1 hin.2 this).elim
  ·show (if nm ≤ nameB ns nm i ∧ nameB ns nm i < nm + 4 then E2.blk (ns.length + (nameB ns nm i - nm)) else _) = _
   rw [e,if_pos hin,e2]
  ·show (if nm ≤ nameB ns nm i ∧ nameB ns nm i < nm + 4 then E2.cap (ns.length + (nameB ns nm i - nm)) else _) = _
   rw [e,if_pos hin,e2]
  ·show (if nm ≤ nameB ns nm i ∧ nameB ns nm i < nm + 4 then E2.sz (ns.length + (nameB ns nm i - nm)) else _) = _
   rw [e,if_pos hin,e2]
theorem back_map : MapOK E2 (E.back E2 ns.length nm (putBack (nameB ns nm) 0 L' st.O)) (nameB ns nm) where
 C := rfl
 w := rfl
 nm i hi := by
  obtain ⟨h1,h2⟩ := back_at h hnd hO hn hlen hfr hi2 hb2 hk (hb2 i hi)
  exact ⟨h1,fun n hn=>⟨(h2 n hn).1,(h2 n hn).2.1,(h2 n hn).2.2.1⟩⟩
theorem back_move : Move own E (E.back E2 ns.length nm (putBack (nameB ns nm) 0 L' st.O)) := by
 have hown : ∀ k,¬ own k→¬ ownS E ns k := by
  rintro k hk (h1 | ⟨o,ho,hb⟩)
  ·exact hk (h.base k h1)
  ·obtain ⟨i,hi⟩ := List.getElem?_of_mem ho
   obtain ⟨x,h3,_⟩ := objs_at hO hi
   exact hk (h.ownb o k (by rw [h3]; simp) hb)
 refine ⟨⟨hfr.C,hfr.cell,fun _ hb=>.inl hb,fun p hb n hl=>?_⟩,hfr.os,hfr.tape,hfr.output,hfr.size,fun k h1 h2=>hfr.block k h1 (hown k h2),fun k h1=>hfr.com k (hown k h1)⟩
 have hout : ¬ (nm ≤ p ∧ p < nm + 4) := fun hh=>hn _ hh.1 hh.2 hb
 have hl : (look (putBack (nameB ns nm) 0 L' st.O) p).map Obj.len = some n := hl
 refine ⟨?_,?_,?_,?_⟩
 ·by_cases hx : ∃ i,i < L'.length ∧ nameB ns nm i = p
  ·obtain ⟨i,hi,rfl⟩ := hx
   obtain ⟨_,h2⟩ := back_at h hnd hO hn hlen hfr hi2 hb2 hk (Nat.le_of_lt hi)
   have hl2 := (h2 n hl).1
   rcases Nat.lt_or_ge i ns.length with h1 | h1
   ·have hg := List.getElem?_eq_getElem h1
    have hs := (hk i h1 n hl2).1
    have hs : (look (idx 0 (objs.map (renObj ns))) i).map Obj.len = some n := hs
    obtain ⟨x,h3,h4⟩ := objs_at hO hg
    rw [nameB_in hg,h.len,h3]
    rw [h4] at hs
    simpa [renObj,mapObj_len] using hs
   ·rw [nameB_out h1] at hb
    exact (hn _ (by omega) (by omega) hb).elim
  ·have hx : ∀ i,i < L'.length→nameB ns nm i ≠ p := fun i hi e=>hx ⟨i,hi,e⟩
   rw [look_else h hnd hO hn hlen hx] at hl
   rw [h.len]; exact hl
 ·show (if nm ≤ p ∧ p < nm + 4 then _ else E.blk p) = _; rw [if_neg hout]
 ·show (if nm ≤ p ∧ p < nm + 4 then _ else E.cap p) = _; rw [if_neg hout]
 ·show (if nm ≤ p ∧ p < nm + 4 then _ else E.sz p) = _; rw [if_neg hout]
theorem back_inv : Inv own tm (E.back E2 ns.length nm (putBack (nameB ns nm) 0 L' st.O)) { st with O := putBack (nameB ns nm) 0 L' st.O } tmps := by
 have mv := back_move h hnd hO hn hlen hfr hi2 hb2 hk
 have mp := back_map h hnd hO hn hlen hfr hi2 hb2 hk
 have at' := fun {i} (hi : i ≤ L'.length)=>back_at h hnd hO hn hlen hfr hi2 hb2 hk hi
 have ownIn : ∀ k,ownS E ns k→own k := by
  rintro k (h1 | ⟨o,ho,hb⟩)
  ·exact h.base k h1
  ·obtain ⟨i,hi⟩ := List.getElem?_of_mem ho
   obtain ⟨x,h3,_⟩ := objs_at hO hi
   exact h.ownb o k (by rw [h3]; simp) hb
 have far : ∀ {p x b},(∀ i,i < L'.length→nameB ns nm i ≠ p)→look st.O p = some x→E.blk p = some b→¬ ownS E ns b := by
  rintro p x b hp hx hb (h1 | ⟨o,ho,hbo⟩)
  ·have := h.lt hx hb; omega
  ·obtain ⟨i,hi⟩ := List.getElem?_of_mem ho
   obtain ⟨y,h3,_⟩ := objs_at hO hi
   have := h.sep p o b (by rw [hx]; simp) (by rw [h3]; simp) hb hbo
   subst this
   have hlt := (List.getElem?_eq_some_iff.1 hi).1
   exact hp i (by omega) (nameB_in hi)
 have outB : ∀ {p x},look st.O p = some x→¬ (nm ≤ p ∧ p < nm + 4) := fun hx hh=>hn _ hh.1 hh.2 (h.born _ (by rw [hx]; simp))
 have blkOut : ∀ {p x},look st.O p = some x→(E.back E2 ns.length nm (putBack (nameB ns nm) 0 L' st.O)).blk p = E.blk p := fun {p x} hx=>by
  show (if nm ≤ p ∧ p < nm + 4 then _ else E.blk p) = _; rw [if_neg (outB hx)]
 have lenAt : ∀ {i y},look (idxO 0 L') i = some y→i < L'.length→(E.back E2 ns.length nm (putBack (nameB ns nm) 0 L' st.O)).len (nameB ns nm i) = some y.len := by
  intro i y hy hi
  show (look (putBack (nameB ns nm) 0 L' st.O) (nameB ns nm i)).map Obj.len = some y.len
  rw [look_back h hnd hO hn hlen (List.getElem?_eq_getElem hi)]
  rw [look_idxO,if_neg (by omega),Nat.sub_zero,List.getElem?_eq_getElem hi] at hy
  have hy : L'[i] = some y := hy
  rw [hy]
  simp [mapObj_len]
 refine h.change mv rfl rfl (fun p=>rfl) (fun p x hp=>?_) (fun p q b hp hq hpb hqb=>?_) (fun p b hp hpb=>?_) hi2.good (fun p hp=>?_)
 ·rcases back_cases h hnd hO hn hlen hp with ⟨i,y,hi,rfl,hy,rfl⟩ | ⟨h1,h2⟩
  ·obtain ⟨_,hh⟩ := at' (Nat.le_of_lt hi)
   obtain ⟨_,k2,k3,k4⟩ := hh _ (lenAt hy hi)
   exact mapObj_ok mp k2 k3 k4 (hi2.objs i y hy)
  ·refine (h.objs p x h2).ext mv.toExt (blkOut h2) ?_ ?_ fun b hb=>?_
   ·show (if nm ≤ p ∧ p < nm + 4 then _ else E.cap p) = _; rw [if_neg (outB h2)]
   ·show (if nm ≤ p ∧ p < nm + 4 then _ else E.sz p) = _; rw [if_neg (outB h2)]
   ·exact ⟨hfr.block b (h.lt h2 hb) (far h1 h2 hb),hfr.com b (far h1 h2 hb)⟩
 ·obtain ⟨x,hx⟩ := Option.ne_none_iff_exists'.1 hp
  obtain ⟨y,hy⟩ := Option.ne_none_iff_exists'.1 hq
  rcases back_cases h hnd hO hn hlen hx with ⟨i,x',hi,rfl,hx',rfl⟩ | ⟨h1,h2⟩
  ·obtain ⟨_,hh⟩ := at' (Nat.le_of_lt hi)
   rw [(hh _ (lenAt hx' hi)).2.1] at hpb
   rcases back_cases h hnd hO hn hlen hy with ⟨j,y',hj,rfl,hy',rfl⟩ | ⟨h3,h4⟩
   ·obtain ⟨_,hh'⟩ := at' (Nat.le_of_lt hj)
    rw [(hh' _ (lenAt hy' hj)).2.1] at hqb
    have := hi2.sep i j b (by show look (idxO 0 L') i ≠ none; rw [hx']; simp) (by show look (idxO 0 L') j ≠ none; rw [hy']; simp) hpb hqb
    rw [this]
   ·rw [blkOut h4] at hqb
    exact (far h3 h4 hqb (hi2.ownb i b (by show look (idxO 0 L') i ≠ none; rw [hx']; simp) hpb)).elim
  ·rw [blkOut h2] at hpb
   rcases back_cases h hnd hO hn hlen hy with ⟨j,y',hj,rfl,hy',rfl⟩ | ⟨h3,h4⟩
   ·obtain ⟨_,hh'⟩ := at' (Nat.le_of_lt hj)
    rw [(hh' _ (lenAt hy' hj)).2.1] at hqb
    exact (far h1 h2 hpb (hi2.ownb j b (by show look (idxO 0 L') j ≠ none; rw [hy']; simp) hqb)).elim
   ·rw [blkOut h4] at hqb
    exact h.sep p q b (by rw [h2]; simp) (by rw [h4]; simp) hpb hqb
 ·obtain ⟨x,hx⟩ := Option.ne_none_iff_exists'.1 hp
  rcases back_cases h hnd hO hn hlen hx with ⟨i,x',hi,rfl,hx',rfl⟩ | ⟨h1,h2⟩
  ·obtain ⟨_,hh⟩ := at' (Nat.le_of_lt hi)
   rw [(hh _ (lenAt hx' hi)).2.1] at hpb
   exact ownIn b (hi2.ownb i b (by show look (idxO 0 L') i ≠ none; rw [hx']; simp) hpb)
  ·rw [blkOut h2] at hpb
   exact h.ownb p b (by rw [h2]; simp) hpb
 ·obtain ⟨x,hx⟩ := Option.ne_none_iff_exists'.1 hp
  rcases back_cases h hnd hO hn hlen hx with ⟨i,x',hi,rfl,hx',rfl⟩ | ⟨h1,h2⟩
  ·exact (at' (Nat.le_of_lt hi)).1
  ·exact .inl (h.born p (by rw [h2]; simp))
end
theorem shared_nodup (vs : List MV) (st : DS) : (shared vs st).Nodup := reach_nodup 5 (nub_nodup List.nodup_nil)
theorem dCallH_ok {Gd : Ground} {C : CallT} (hC : COK P Gd C) (hG : Gd.On own E) (hi : Inv own tm E st a.tmps) (hn : ∀ p,nm ≤ p→p < nm + 4→¬ E.born p) {f : FuncId} {args : List MV} {vs : List Value} (hr : RelL E args vs)
  (hx : (execOp a.eval o).run P E.w = (callFunc f vs.toArray).run P E.w) {v : MV} {st' : DS} (h : dCallH C nm f args st = some (v,st')) : OpOK P own tm nm E a o st' v := by
 unfold dCallH at h
 split at h
 ·rename_i objs hO
  split at h
  ·rename_i r L hr'
   split at h
   ·rename_i hlen
    obtain ⟨rfl,rfl⟩ : _ = v ∧ _ = st' := by simpa using h
    have hnd := shared_nodup args st
    generalize hns : shared args st = ns at *
    have ok := hC.h f _ _ r L hr' (ownS E ns) (E.sub ns (idx 0 (objs.map (renObj ns)))) vs (by
     refine Gd.same (E := E) rfl rfl ⟨hG.1,fun k hk=>?_⟩
     rcases hk with hk | ⟨p,hp,hb⟩
     ·exact Nat.le_trans (Gd.lo E hG.1) hk
     ·obtain ⟨i,hi'⟩ := List.getElem?_of_mem hp
      obtain ⟨x,h3,_⟩ := objs_at hO hi'
      exact hG.2 k (hi.ownb p k (by rw [h3]; simp) hb)) (sub_inv hi hnd hO) (fun p hp=>by
     have hl := (objsOf_get hO).1
     have hp : p ≤ ns.length := hp
     simpa [hl] using hp) (fun p hp=>by
     have hl := (objsOf_get hO).1
     show p ≤ ns.length
     simpa [hl] using hp) (mapVs_ok (sub_map hi hO) hr)
    have hl := (objsOf_get hO).1
    have fin : ∀ (x : Value) (w' : World),(∃ E',E'.w = w' ∧ Fr (ownS E ns) (E.sub ns (idx 0 (objs.map (renObj ns)))) E' ∧ InvO (ownS E ns) E' (idxO 0 L) ∧ (∀ p,E'.born p→p ≤ L.length) ∧ RelV E' r x ∧
      ∀ i,i < (objs.map (renObj ns)).length→∀ n,E'.len i = some n→(E.sub ns (idx 0 (objs.map (renObj ns)))).len i = some n ∧ E'.blk i = (E.sub ns (idx 0 (objs.map (renObj ns)))).blk i ∧ E'.cap i = (E.sub ns (idx 0 (objs.map (renObj ns)))).cap i ∧ E'.sz i = (E.sub ns (idx 0 (objs.map (renObj ns)))).sz i) →
      ∃ E3,Move own E E3 ∧ E3.w = w' ∧ (∀ p,E3.born p→E.born p ∨ (nm ≤ p ∧ p < nm + 4)) ∧ Inv own tm E3 { st with O := putBack (nameB ns nm) 0 L st.O } a.tmps ∧ RelV E3 (mapR (nameB ns nm) r) x := by
     rintro x w' ⟨E',hw,hfr,hi2,hb2,hrel,hk⟩
     have hk' : ∀ i,i < ns.length→∀ n,E'.len i = some n→(E.sub ns (idx 0 (objs.map (renObj ns)))).len i = some n ∧ E'.blk i = (E.sub ns (idx 0 (objs.map (renObj ns)))).blk i ∧ E'.cap i = (E.sub ns (idx 0 (objs.map (renObj ns)))).cap i ∧ E'.sz i = (E.sub ns (idx 0 (objs.map (renObj ns)))).sz i :=
      fun i hi'=>hk i (by simpa [hl] using hi')
     exact ⟨E.back E' ns.length nm (putBack (nameB ns nm) 0 L st.O),back_move hi hnd hO hn hlen hfr hi2 hb2 hk',hw,fun p hp=>hp,back_inv hi hnd hO hn hlen hfr hi2 hb2 hk',mapR_ok (back_map hi hnd hO hn hlen hfr hi2 hb2 hk') hrel⟩
    intro next Q hnext
    unfold Oper.wp
    rw [hx]
    rcases ok with ⟨hrun,hcalls⟩ | ⟨x,w',hrun,hkk⟩
    ·have hrun : (callFunc f vs.toArray).run P E.w = .ok (.enter f vs.toArray) E.w := hrun
     rw [hrun]
     refine Calls.mono hcalls ?_
     rintro e w' ⟨x,rfl,hkk⟩
     obtain ⟨E3,m,w,b,i,r⟩ := fin x w' hkk
     subst w
     exact hnext E3 x m b i r
    ·have hrun : (callFunc f vs.toArray).run P E.w = .ok (.value x) w' := hrun
     rw [hrun]
     obtain ⟨E3,m,w,b,i,r⟩ := fin x w' hkk
     subst w
     exact hnext E3 x m b i r
   ·cases h
  ·cases h
 ·cases h
theorem op_callh {Gd : Ground} {C : CallT} (hC : COK P Gd C) (hG : Gd.On own E) (hi : Inv own tm E st a.tmps) (hn : ∀ p,nm ≤ p→p < nm + 4→¬ E.born p) {f : FuncId} {args : Array Operand} {ats : Array TypeId} {ys : List X}
  (hx : trXs tm args.toList = some ys) (ho : o.op = .call { callee := .value (.func f),args,argTypes := ats }) {v : MV} {st' : DS} (h : dCallH C nm f (ys.map st.rd) st = some (v,st')) : OpOK P own tm nm E a o st' v := by
 refine dCallH_ok hC hG hi hn (rds_ok hi hx) ?_ h
 unfold execOp
 rw [ho]
 simp [resolve,Act.eval,Deferred.ofValue,invoke,← Array.toList_map]
theorem op_callvh {Gd : Ground} {C : CallT} (hC : COK P Gd C) (hG : Gd.On own E) (hi : Inv own tm E st a.tmps) (hn : ∀ p,nm ≤ p→p < nm + 4→¬ E.born p) {f : Operand} {f' : X} {args : Array Operand} {ats : Array TypeId} {ys : List X}
  (hf : trX tm f = some f') (hx : trXs tm args.toList = some ys) (ho : o.op = .call { callee := .value f,args,argTypes := ats }) {g : FuncId} {caps : List MV} (hg : st.rd f' = .fn g caps) {v : MV} {st' : DS}
  (h : dCallH C nm g (ys.map st.rd ++ caps) st = some (v,st')) : OpOK P own tm nm E a o st' v := by
 have rf := rd_ok hi hf
 rw [hg] at rf
 generalize hvf : a.eval f = vf at rf
 cases rf with
 | fn hcaps =>
  rename_i cs
  have hrel := (rds_ok hi hx).append hcaps
  have e : args.map a.eval ++ cs.toArray = (args.toList.map a.eval ++ cs).toArray := by
   apply Array.ext'
   rw [Array.toList_append,Array.toList_map]
  have he : (execOp a.eval o).run P E.w = (callFunc g (args.toList.map a.eval ++ cs).toArray).run P E.w := by
   rw [← e]
   unfold execOp
   rw [ho]
   simp only [resolve,hvf,Deferred.ofValue,Sem.run_bind,Sem.run_pure,Result.andThen_ok,invoke,Array.empty_append]
  exact dCallH_ok hC hG hi hn hrel he h
end Go.Mini
namespace Go.Mini
open Go Go.RowKit
variable {P : Program} {own : Nat→Prop} {tm : Nat→Bool} {E : Env} {st : DS} {a : Act} {nm : Nat} {o : Oper}
theorem method_run {t : TypeId} {name : String} {f : FuncId} (h : invT P t name = some f) (n : Nat) (v : Value) (w : World) : (method (n + 1) t v name).run P w = .ok (f,v) w := by
 unfold invT at h
 split at h
 ·rename_i i hi
  split at h
  ·rename_i m hm
   split at h
   ·rename_i hp
    have hp : m.path = #[] := by simpa using hp
    have hinfo : (typeInfo t).run P w = .ok i w := by simp [typeInfo,hi]
    unfold method
    simp only [Sem.run_bind,hinfo,Result.andThen_ok,hm,hp,follow,Sem.run_pure]
    split at h
    ·cases h
    ·rename_i f' d hnp hu hd
     cases h
     simp only [hu,Sem.run_bind,receiverAt,under_run hd,Result.andThen_ok]
     cases d <;> first | (exact (hnp _ rfl).elim) | (simp only [Place.get,Sem.run_pure,Result.andThen_ok])
    ·rename_i f' e hmf hu
     cases h
     simp only [hmf,Sem.run_bind,receiverAt,under_run hu,Result.andThen_ok,Place.get,Sem.run_pure]
    ·cases h
   ·cases h
  ·cases h
 ·cases h
theorem look_invTable {name : String} : ∀ {n t f : Nat},look (invTable P name n) t = some f→invT P t name = some f
 | 0,t,f,h=>by simp [invTable,look] at h
 | n + 1,t,f,h=>by
  simp only [invTable] at h
  split at h
  ·rename_i g hg
   simp only [look] at h
   split at h
   ·rename_i he; subst he; rw [hg]; exact h
   ·exact look_invTable h
  ·exact look_invTable h
theorem op_inv {Gd : Ground} {C : CallT} (hC : COK P Gd C) (hG : Gd.On own E) (hi : Inv own tm E st a.tmps) (hn : ∀ p,nm ≤ p→p < nm + 4→¬ E.born p) {rc : Operand} {rc' : X} {name : String} {args : Array Operand} {ats : Array TypeId} {ys : List X} {n : Nat}
  (hf : trX tm rc = some rc') (hx : trXs tm args.toList = some ys) (ho : o.op = .call { callee := .invoke rc name,args,argTypes := ats }) {t : TypeId} {v0 : MV} (hv : st.rd rc' = .iface t v0) {g : FuncId} (hg : look (invTable P name n) t = some g) (b : Bool) {v : MV} {st' : DS}
  (h : (if b = true then dCallH C nm g (v0 :: ys.map st.rd) st else dCall C nm g (v0 :: ys.map st.rd) st) = some (v,st')) : OpOK P own tm nm E a o st' v := by
 have rf := rd_ok hi hf
 rw [hv] at rf
 generalize hvf : a.eval rc = vf at rf
 cases rf with
 | iface hr hp =>
  rename_i x
  have hrel : RelL E (v0 :: ys.map st.rd) (x :: args.toList.map a.eval) := .cons hr (rds_ok hi hx)
  have e : #[x] ++ args.map a.eval = (x :: args.toList.map a.eval).toArray := by
   apply Array.ext'
   simp
  have he : (execOp a.eval o).run P E.w = (callFunc g (x :: args.toList.map a.eval).toArray).run P E.w := by
   rw [← e]
   unfold execOp
   rw [ho]
   have hm : (method (P.types.size + Made.depth) t x name).run P E.w = .ok (g,x) E.w := method_run (look_invTable hg) (P.types.size + (Made.depth - 1)) x E.w
   simp only [resolve,hvf,Sem.run_bind,Sem.run_pure,Result.andThen_ok,invoke]
   have h0 : (#[Value.iface t x] ++ Array.map a.eval args)[0]? = some (Value.iface t x) := by rw [← Array.getElem?_toList,Array.toList_append]; rfl
   have h1 : (#[Value.iface t x] ++ Array.map a.eval args).extract 1 = Array.map a.eval args := by
    apply Array.ext'
    simp
    exact List.take_of_length_le (by simp)
   rw [h0]
   simp only [h1,callMethod,Sem.run_bind]
   have hp : (program : Sem Program).run P E.w = .ok P E.w := rfl
   simp only [hp,Result.andThen_ok,hm]
  split at h
  ·exact dCallH_ok hC hG hi hn hrel he h
  ·exact dCall_ok hC hG hi hn hrel he h
end Go.Mini
namespace Go.Mini
open Go Go.RowKit
variable {P : Program} {own : Nat→Prop} {tm : Nat→Bool} {E : Env} {st : DS} {a : Act} {nm : Nat} {o : Oper}
theorem decode_lt (s : ByteArray) (i : Nat) : (Utf8.decode s i).1 < 2 ^ 21 := by
 unfold Utf8.decode Utf8.runeError
 dsimp only
 repeat' split
 all_goals (dsimp only; omega)
theorem op_rng (hi : Inv own tm E st a.tmps) (hn : ¬ E.born nm) {t : TypeId} {x : Operand} {x' : X} (hx : trX tm x = some x') (ho : o.op = .range t x) (ht : P.underlying t = some .string) {s : List UInt8} (hs : st.rd x' = .str s) :
  OpOK P own tm nm E a o { st with O := put st.O nm (.iter s 0) } (.ptr nm 0) := by
 have rx := rd_ok hi hx
 rw [hs] at rx
 generalize hvx : a.eval x = vx at rx
 cases rx with
 | str hl =>
  have hg := Grows.alloc E.w (.stringIter ⟨s.toArray⟩ 0)
  have i' := Inv.add hi hg hn (cap := 0) (sz := 0) (ob := .iter s 0) (.iter (upd_same _ _ _) hg.new hl hi.com0)
  refine OpOK.val (E' := E.add nm (E.w.alloc (.stringIter ⟨s.toArray⟩ 0)) 0 0 0) (x := .pointer (some ⟨E.w.heap.size,0,none⟩)) ?_ (Move.add hi hg hn _ _ _) (born_add rfl) i' (.ptr (.inr rfl) rfl fun _=>⟨_,upd_same _ _ _,rfl⟩)
  unfold execOp
  rw [ho]
  simp only [hvx,Instr.range,Sem.run_bind,under_run ht,Result.andThen_ok,Sem.run_pure,run_newObj]
  rfl
theorem getObj_iter {w : World} {b pos : Nat} {s : ByteArray} (h : w.heap[b]? = some (.stringIter s pos)) : (getObj b).run P w = .ok (.stringIter s pos) w := by
 simp only [getObj,Sem.run,h]
theorem setObj_iter {w : World} {b pos : Nat} {s : ByteArray} {G : Go.Obj} (h : w.heap[b]? = some (.stringIter s pos)) : (setObj b G).run P w = .ok () (putRow w b G) := by
 simp only [setObj,Sem.run,h]
 rfl
theorem op_nxt (hi : Inv own tm E st a.tmps) {x : Operand} {x' : X} (hx : trX tm x = some x') (ho : o.op = .next x true) {p pos : Nat} {s : List UInt8} (hp : st.rd x' = .ptr p 0) (hl : look st.O p = some (.iter s pos)) :
  if pos < s.length then OpOK P own tm nm E a o { st with O := put st.O p (.iter s (pos + (Utf8.decode ⟨s.toArray⟩ pos).2)) } (.tup [.bool true,.int .i64 pos,.int .i32 (Utf8.decode ⟨s.toArray⟩ pos).1])
  else OpOK P own tm nm E a o st (.tup [.bool false]) := by
 have rx := rd_ok hi hx
 rw [hp] at rx
 generalize hvx : a.eval x = vx at rx
 have ok := hi.objs p _ hl
 cases ok with
 | iter k1 k2 k3 k4 =>
  rename_i b
  have hv : vx = .pointer (some ⟨b,0,none⟩) := by
   cases rx with
   | ptr hb h1 hh =>
    obtain ⟨b',e1,e2⟩ := hh (by rw [hi.len,hl]; simp)
    rw [k1] at e1; cases e1; exact e2
  have hlt := hi.lt hl k1
  have hown := hi.ownb p b (by rw [hl]; simp) k1
  split
  ·rename_i hpos
   generalize hdc : Utf8.decode ⟨s.toArray⟩ pos = dc
   obtain ⟨c,wd⟩ := dc
   have hc : ∀ i,i < E.C b→(putRow E.w b (.stringIter ⟨s.toArray⟩ (pos + wd))).cell? ⟨b,i,none⟩ = E.w.cell? ⟨b,i,none⟩ := by
    intro i hi; rw [k4] at hi; omega
   have mv := Move.write (E := E) (G := .stringIter ⟨s.toArray⟩ (pos + wd)) hown hlt hc
   have i' := Inv.write hi hl k1 (ob' := .iter s (pos + wd)) rfl hc (.iter k1 (putRow_same _ hlt) k3 k4)
   have e1 : IntKind.i64.min = -9223372036854775808 := by decide
   have e2 : IntKind.i64.max = 9223372036854775807 := by decide
   have e3 : IntKind.i32.min = -2147483648 := by decide
   have e4 : IntKind.i32.max = 2147483647 := by decide
   have hcl : c < 2 ^ 21 := by have := decode_lt ⟨s.toArray⟩ pos; rw [hdc] at this; exact this
   refine OpOK.val (E' := { E with w := putRow E.w b (.stringIter ⟨s.toArray⟩ (pos + wd)) }) (x := .tuple #[.bool true,goInt pos,.int .i32 c]) ?_ mv (fun _ h=>.inl h) i'
    (.tup (.cons .bool (.cons (.int (by rw [e1]; omega) (by rw [e2]; omega)) (.cons (.int (by rw [e3]; omega) (by rw [e4]; omega)) .nil))))
   have hpos' : pos < (ByteArray.mk s.toArray).size := hpos
   unfold execOp
   rw [ho]
   simp only [hvx,hv,Instr.next,Sem.run_bind,getObj_iter k2,Result.andThen_ok,hpos',if_true,hdc,setObj_iter k2,Sem.run_pure]
  ·rename_i hpos
   refine OpOK.val (E' := E) (x := .tuple #[.bool false]) ?_ (Move.refl _ _) (fun _ h=>.inl h) hi (.tup (.cons .bool .nil))
   have hpos' : ¬ pos < (ByteArray.mk s.toArray).size := hpos
   unfold execOp
   rw [ho]
   simp only [hvx,hv,Instr.next,Sem.run_bind,getObj_iter k2,Result.andThen_ok,hpos',if_false,Sem.run_pure]
theorem op_nilck (hi : Inv own tm E st a.tmps) {x : Operand} {x' : X} (hx : trX tm x = some x') (ho : o.op = .nilCheck x) {v : MV} {C : CallT} {st' : DS} (h : dOp C nm (.nilck x') st = some (v,st')) : OpOK P own tm nm E a o st' v := by
 have rx := rd_ok hi hx
 generalize hvx : a.eval x = vx at rx
 simp only [dOp] at h
 split at h
 ·rename_i q j hq
  split at h
  ·rename_i hl
   cases h
   rw [hq] at rx
   have hne : E.len q ≠ none := by
    unfold liveC at hl
    split at hl
    ·rename_i l hl'; rw [hi.len,hl']; simp
    ·cases hl
   cases rx with
   | ptr hb h1 hh =>
    obtain ⟨b,e1,e2⟩ := hh hne
    subst e2
    refine OpOK.val (E' := E) (x := .pointer (some ⟨b,j,none⟩)) ?_ (Move.refl _ _) (fun _ h=>.inl h) hi (.ptr hb h1 hh)
    unfold execOp
    rw [ho]
    simp only [hvx,Sem.run_pure]
  ·cases h
 ·rename_i l hq
  cases h
  rw [hq] at rx
  cases rx with
  | cptr hr hc hh =>
   rename_i vs ad
   refine OpOK.val (E' := E) (x := .pointer (some ad)) ?_ (Move.refl _ _) (fun _ h=>.inl h) hi (.cptr hr hc hh)
   unfold execOp
   rw [ho]
   simp only [hvx,Sem.run_pure]
 ·rename_i f caps hq
  cases h
  rw [hq] at rx
  cases rx with
  | fn hcaps =>
   rename_i vs
   refine OpOK.val (E' := E) (x := .func (.func f) #[] vs.toArray) ?_ (Move.refl _ _) (fun _ h=>.inl h) hi (.fn hcaps)
   unfold execOp
   rw [ho]
   simp only [hvx,Sem.run_pure]
 ·cases h
end Go.Mini
namespace Go.Mini
open Go Go.RowKit
variable {P : Program} {own : Nat→Prop} {tm : Nat→Bool} {hp : Option FuncId→Bool} {E : Env} {st : DS} {a : Act} {nm : Nat} {o : Oper}
theorem appZ_of {t u e : TypeId} {s w : Nat} {z : MV} {du : TypeDesc} (ht : P.underlying t = some (.slice e)) (hu : P.underlying u = some du) (hs : sizeT P e = some s) (hw : bytesT P e = some w) (hz : zeroT P e = some z)
  (hd : isIntD du = true) (h0 : 0 < s) (hzs : z.cells.length = s) : ∃ zv,AppZ P t u e s w zv ∧ ofValue zv = some z := by
 obtain ⟨zv,hrun,hzv⟩ := zeroT_run hz
 obtain ⟨hr,hp,hf⟩ := ofValue_rel (E := ⟨fun _=>0,default,fun _=>False,fun _=>none,fun _=>none,fun _=>0,fun _=>0⟩) hzv
 have hl := (hr.cells hf).1.length
 refine ⟨zv,⟨ht,?_,hs,hw,h0,hrun,by rw [hzs] at hl; simpa using hl.symm⟩,hzv⟩
 cases du <;> first | exact ⟨_,hu⟩ | cases hd
theorem appT_of {t u e : TypeId} {s w : Nat} {z : MV} {du : TypeDesc} (ht : P.underlying t = some (.slice e)) (hu : P.underlying u = some du) (hs : sizeT P e = some s) (hw : bytesT P e = some w) (hz : zeroT P e = some z)
  (hd : isIntD du = false) (h0 : 0 < s) (hzs : z.cells.length = s) : ∃ zv,AppT P t u e s w zv ∧ ofValue zv = some z := by
 obtain ⟨zv,hrun,hzv⟩ := zeroT_run hz
 obtain ⟨hr,hp,hf⟩ := ofValue_rel (E := ⟨fun _=>0,default,fun _=>False,fun _=>none,fun _=>none,fun _=>0,fun _=>0⟩) hzv
 have hl := (hr.cells hf).1.length
 refine ⟨zv,⟨ht,⟨du,hu,?_⟩,hs,hw,h0,hrun,by rw [hzs] at hl; simpa using hl.symm⟩,hzv⟩
 rintro k rfl
 cases hd
set_option maxHeartbeats 1000000 in
theorem dOp_ok {Gd : Ground} {C : CallT} (hC : COK P Gd C) (hG : Gd.On own E) (hi : Inv own tm E st a.tmps) (hn : ∀ p,nm ≤ p→p < nm + 4→¬ E.born p) {op : MOp} (ht : trOp P tm hp o = some op) {v : MV} {st' : DS} (h : dOp C nm op st = some (v,st')) :
  OpOK P own tm nm E a o st' v := by
 have hn0 : ¬ E.born nm := hn nm (Nat.le_refl _) (by omega)
 cases hop : o.op with
 | move x =>
  simp only [trOp,hop,Option.map_eq_some_iff] at ht
  obtain ⟨x',hx,rfl⟩ := ht
  simp only [dOp,Option.some.injEq,Prod.mk.injEq] at h
  obtain ⟨rfl,rfl⟩ := h
  exact op_mv hi hx (.inl hop)
 | assign x =>
  simp only [trOp,hop,Option.map_eq_some_iff] at ht
  obtain ⟨x',hx,rfl⟩ := ht
  simp only [dOp,Option.some.injEq,Prod.mk.injEq] at h
  obtain ⟨rfl,rfl⟩ := h
  exact op_mv hi hx (.inr hop)
 | pick c x y =>
  simp only [trOp,hop] at ht
  split at ht
  ·rename_i c' x' y' hc hx hy
   cases ht
   simp only [dOp] at h
   split at h
   ·rename_i t hct
    cases h
    exact op_pick hi hc hx hy hop hct
   ·cases h
  ·cases ht
 | box t x =>
  simp only [trOp,hop,Option.map_eq_some_iff] at ht
  obtain ⟨x',hx,rfl⟩ := ht
  simp only [dOp] at h
  split at h
  ·rename_i hf
   cases h
   exact op_box hi hn0 hx hop hf
  ·cases h
 | alloc t =>
  simp only [trOp,hop] at ht
  split at ht
  ·rename_i z hz
   cases ht
   simp only [dOp,Option.some.injEq,Prod.mk.injEq] at h
   obtain ⟨rfl,rfl⟩ := h
   exact op_alloc hi hn0 hz hop
  ·cases ht
 | build t ps =>
  simp only [trOp,hop] at ht
  split at ht
  ·rename_i z fs hz hu
   split at ht
   ·rename_i pl hpl
    split at ht
    ·rename_i l hl
     cases ht
     simp only [dOp] at h
     split at h
     ·rename_i l' st1 hp
      cases h
      refine op_build hi hz hl hop (fun w zv cells hzr hf=>?_) hp
      exact build_struct hu hpl hzr (by simpa using hf)
     ·cases h
    ·cases ht
   ·cases ht
  ·rename_i z n e hz hu
   split at ht
   ·rename_i s hs
    split at ht
    ·rename_i l hl
     cases ht
     simp only [dOp] at h
     split at h
     ·rename_i l' st1 hp
      cases h
      refine op_build hi hz hl hop (fun w zv cells hzr hf=>?_) hp
      exact build_array hu hs hzr (by simpa using hf)
     ·cases h
    ·cases ht
   ·cases ht
  ·cases ht
 | buildSlice t n ps =>
  simp only [trOp,hop] at ht
  split at ht
  ·rename_i e hu
   split at ht
   ·rename_i s z l hs hz hl
    split at ht
    ·rename_i hc
     split at ht
     ·rename_i hb
      split at ht
      ·split at ht
       ·rename_i h1
        cases ht
        subst h1
        simp only [dOp] at h
        split at h
        ·rename_i r hr
         cases h
         exact op_bslB hi hn0 hop hu hs hz hl hc.2 hr
        ·cases h
       ·cases ht
      ·cases ht
     ·split at ht
      ·rename_i hzs
       cases hfl : hp (some 1000003)
       ·rw [hfl,if_neg (by simp)] at ht
        cases ht
        simp only [dOp] at h
        split at h
        ·rename_i r st1 hr
         cases h
         exact op_bslE hi hn0 hop hu hs hc.1 hz hzs hl hc.2 hr
        ·cases h
       ·rw [hfl,if_pos rfl] at ht
        cases ht
        simp only [dOp] at h
        split at h
        ·rename_i r st1 hr
         cases h
         exact op_bslF hi hn0 hop hu hs hc.1 hz hzs hl hc.2 hr
        ·cases h
      ·cases ht
    ·cases ht
   ·cases ht
  ·cases ht
 | load t x =>
  simp only [trOp,hop] at ht
  split at ht
  ·rename_i x' g s hx ha hs
   cases ht
   exact op_load hi hx hop ha hs h
  ·cases ht
 | store t x y =>
  simp only [trOp,hop] at ht
  split at ht
  ·rename_i x' y' s hx hy hs
   cases ht
   obtain ⟨rfl,hh⟩ := op_store hi hx hy hop hs h
   exact hh
  ·cases ht
 | binOp op t x y t' =>
  simp only [trOp,hop] at ht
  split at ht
  ·rename_i x' y' k hx hy hu
   cases ht
   simp only [dOp] at h
   split at h
   ·rename_i v' hv; cases h; exact op_bin hi hx hy hop hv
   ·cases h
  ·rename_i x' y' hx hy hu
   cases ht
   simp only [dOp] at h
   split at h
   ·rename_i v' hv; cases h; exact op_bin hi hx hy hop hv
   ·cases h
  ·rename_i x' y' d hx hy hu
   split at ht
   ·rename_i n k hn' hk
    have hopn : (op = .eql ∧ n = false) ∨ (op = .neq ∧ n = true) := by
     cases op <;> simp at hn' <;> simp [hn']
    split at ht
    ·rename_i hif
     cases ht
     simp only [dOp] at h
     split at h
     ·rename_i r hr
      cases h
      refine op_eqs hi hx hy hop hopn hu hk ?_ hr
      rintro rfl
      cases y <;> first | exact ⟨_,rfl⟩ | cases hif
     ·cases h
    ·cases ht
   ·cases ht
  ·cases ht
 | unOp op t x =>
  simp only [trOp,hop,Option.map_eq_some_iff] at ht
  obtain ⟨x',hx,rfl⟩ := ht
  simp only [dOp] at h
  split at h
  ·rename_i v' hv; cases h; exact op_un hi hx hop hv
  ·cases h
 | convert s d x =>
  simp only [trOp,hop] at ht
  split at ht
  ·rename_i k' k x' hs hd hx
   cases ht
   simp only [dOp] at h
   split at h
   ·rename_i q n hq; cases h; exact op_conv hi hx hop hs hd hq
   ·cases h
  ·rename_i x' hs hd hx
   cases ht
   simp only [dOp] at h
   split at h
   ·rename_i l hl; cases h; exact op_same hi hx hop hs hd hl
   ·cases h
  ·rename_i k x' hs hd hx
   cases ht
   simp only [dOp] at h
   split at h
   ·rename_i q n hq
    split at h
    ·rename_i hn; cases h; exact op_i2s hi hx hop hs hd hq hn
    ·cases h
   ·cases h
  ·rename_i e x' hs hd hx
   split at ht
   ·rename_i hb
    cases ht
    simp only [dOp] at h
    split at h
    ·rename_i l hl; cases h; exact op_s2b hi hn0 hx hop hs hd hb.1 hl
    ·cases h
   ·cases ht
  ·rename_i e x' hs hd hx
   split at ht
   ·rename_i hb
    cases ht
    simp only [dOp] at h
    split at h
    ·cases h
    ·rename_i hne
     split at h
     ·rename_i l hl; cases h; exact op_b2s hi hx hop hs hd hb hne hl
     ·cases h
   ·cases ht
  ·rename_i e e' x' hs hd hx
   split at ht
   ·rename_i hb
    obtain ⟨rfl,hb⟩ := hb
    cases ht
    simp only [dOp] at h
    split at h
    ·rename_i p n hr
     split at h
     ·rename_i l bb hl
      split at h
      ·rename_i hn; cases h; exact op_mark hi hx hop hs hb hr hl hn
      ·cases h
     ·cases h
    ·cases h
   ·cases ht
  ·cases ht
 | fieldAddr t x i =>
  simp only [trOp,hop] at ht
  split at ht
  ·rename_i f x' hf hx
   split at ht
   ·rename_i s hs
    cases ht
    simp only [dOp] at h
    split at h
    ·rename_i v' hv; cases h; exact op_fad hi hx hop hf hs hv
    ·cases h
   ·cases ht
  ·cases ht
 | field t x i =>
  simp only [trOp,hop] at ht
  split at ht
  ·rename_i f x' hf hx
   split at ht
   ·rename_i g s ha hs
    cases ht
    simp only [dOp] at h
    split at h
    ·rename_i l hl
     split at h
     ·rename_i v' hv; cases h; exact op_fld hi hx hop hf ha hs hl hv
     ·cases h
    ·cases h
   ·cases ht
  ·cases ht
 | indexAddr t x i =>
  simp only [trOp,hop] at ht
  split at ht
  ·rename_i e x' i' hu hx hii
   split at ht
   ·rename_i s hs
    split at ht
    ·rename_i h0
     cases ht
     simp only [dOp] at h
     split at h
     ·rename_i v' hv; cases h; exact op_iad hi hx hii hop hu hs h0 hv
     ·cases h
    ·cases ht
   ·cases ht
  ·rename_i n e x' i' hu hx hii
   split at ht
   ·rename_i s hs
    cases ht
    simp only [dOp] at h
    split at h
    ·rename_i v' hv; cases h; exact op_aad hi hx hii hop hu hs hv
    ·cases h
   ·cases ht
  ·cases ht
 | index t x i =>
  simp only [trOp,hop] at ht
  split at ht
  ·rename_i x' i' hu hx hii
   cases ht
   simp only [dOp] at h
   split at h
   ·rename_i l k n hl hk
    split at h
    ·rename_i hc; cases h; exact op_idxS hi hx hii hop hu hl hk hc
    ·cases h
   ·cases h
  ·rename_i n e x' i' hu hx hii
   split at ht
   ·rename_i g s ha hs
    cases ht
    simp only [dOp] at h
    split at h
    ·rename_i l k m hl hk
     split at h
     ·rename_i hc
      split at h
      ·rename_i v' hv; cases h; exact op_idxA hi hx hii hop hu ha hs hl hk hc hv
      ·cases h
     ·cases h
    ·cases h
   ·cases ht
  ·cases ht
 | slice t x lo hh mx =>
  cases mx with
  | some m =>
   cases lo with
   | some _=>simp [trOp,hop] at ht
   | none =>
   cases hh with
   | none=>simp [trOp,hop] at ht
   | some hh =>
   simp only [trOp,hop] at ht
   split at ht
   ·rename_i e x' h' m' hu hx hh' hm'
    split at ht
    ·rename_i s hs
     cases ht
     exact op_cutF hi hx hh' hm' hop hu hs h
    ·cases ht
   ·cases ht
  | none =>
   simp only [trOp,hop] at ht
   split at ht
   ·rename_i x' lo' hi' hu hx hl hhi
    cases ht
    exact op_slc (str := true) hi hx hl hhi hop hu h
   ·rename_i e x' lo' hi' hu hx hl hhi
    split at ht
    ·rename_i s hs
     cases ht
     exact op_slc (str := false) hi hx hl hhi hop ⟨e,hu,hs⟩ h
    ·cases ht
   ·cases ht
 | range t x =>
  simp only [trOp,hop] at ht
  split at ht
  ·rename_i x' hx hu
   cases ht
   simp only [dOp] at h
   split at h
   ·rename_i l hl; cases h; exact op_rng hi hn0 hx hop hu hl
   ·cases h
  ·cases ht
 | next x b =>
  cases b with
  | false=>simp [trOp,hop] at ht
  | true =>
   simp only [trOp,hop,Option.map_eq_some_iff] at ht
   obtain ⟨x',hx,rfl⟩ := ht
   simp only [dOp] at h
   split at h
   ·rename_i q hq
    split at h
    ·rename_i s pos hl
     have ok := op_nxt (P := P) (nm := nm) hi hx hop hq hl
     split at h
     ·rename_i hp; cases h; rw [if_pos hp] at ok; exact ok
     ·rename_i hp; cases h; rw [if_neg hp] at ok; exact ok
    ·cases h
   ·cases h
 | nilCheck x =>
  simp only [trOp,hop,Option.map_eq_some_iff] at ht
  obtain ⟨x',hx,rfl⟩ := ht
  exact op_nilck hi hx hop h
 | extract x i =>
  simp only [trOp,hop,Option.map_eq_some_iff] at ht
  obtain ⟨x',hx,rfl⟩ := ht
  simp only [dOp] at h
  split at h
  ·rename_i l hl
   split at h
   ·rename_i v' hv; cases h; exact op_ext hi hx hop hl hv
   ·cases h
  ·cases h
 | makeFunc f first caps =>
  cases f with
  | func f =>
   simp only [trOp,hop] at ht
   split at ht
   ·rename_i l hf hl
    cases ht
    simp only [dOp,Option.some.injEq,Prod.mk.injEq] at h
    obtain ⟨rfl,rfl⟩ := h
    have : first = #[] := by rw [← Array.toList_inj]; simpa using hf
    subst this
    exact op_mkfn hi hl hop
   ·cases ht
  | _=>simp [trOp,hop] at ht
 | makeInterface t x =>
  simp only [trOp,hop] at ht
  split at ht
  ·cases ht
  ·rename_i x' d hne hx hu
   cases ht
   simp only [dOp] at h
   split at h
   ·rename_i v' st1 hv
    cases h
    exact op_mkif hi hx hop hu (fun ms hd=>by subst hd; exact hne ms rfl) hv
   ·cases h
  ·cases ht
 | makeSlice t n c =>
  simp only [trOp,hop] at ht
  split at ht
  ·rename_i e n' c' hu hx hy
   split at ht
   ·rename_i s w z hs hw hz
    split at ht
    ·rename_i h0
     split at ht
     ·rename_i hb
      split at ht
      ·split at ht
       ·rename_i h1
        obtain ⟨rfl,rfl⟩ := h1
        cases ht
        simp only [dOp] at h
        split at h
        ·rename_i k p k' q hp hq
         split at h
         ·rename_i hc; cases h; exact op_mksB hi hn0 hx hy hop hu hs hw hz hp hq hc
         ·cases h
        ·cases h
       ·cases ht
      ·cases ht
     ·split at ht
      ·rename_i hzs
       cases ht
       simp only [dOp] at h
       split at h
       ·rename_i k p k' q hp hq
        split at h
        ·rename_i hc; cases h; exact op_mksE hi hn0 hx hy hop hu hs hw h0 hz hzs hp hq hc
        ·cases h
       ·cases h
      ·cases ht
    ·cases ht
   ·cases ht
  ·cases ht
 | call c =>
  obtain ⟨callee,args,ats⟩ := c
  cases callee with
  | value f =>
   have cv : ∀ {f' : X} {l : List X},trX tm f = some f'→trXs tm args.toList = some l→dOp C nm (.callv f' l) st = some (v,st')→OpOK P own tm nm E a o st' v := by
    intro f' l hf hl h
    simp only [dOp] at h
    split at h
    ·rename_i g caps hg
     exact op_callv hC hG hi hn hf hl hop hg h
    ·cases h
   have cvh : ∀ {f' : X} {l : List X},trX tm f = some f'→trXs tm args.toList = some l→dOp C nm (.callvh f' l) st = some (v,st')→OpOK P own tm nm E a o st' v := by
    intro f' l hf hl h
    simp only [dOp] at h
    split at h
    ·rename_i g caps hg
     exact op_callvh hC hG hi hn hf hl hop hg h
    ·cases h
   cases f with
   | func f =>
    simp only [trOp,hop] at ht
    split at ht
    ·rename_i l hl
     simp only [Option.some.injEq] at ht
     split at ht
     ·subst ht; exact op_callh hC hG hi hn hl hop h
     ·subst ht; exact op_call hC hG hi hn hl hop h
    ·cases ht
   | tmp n =>
    simp only [trOp,hop] at ht
    split at ht
    ·rename_i f' l hf hl
     simp only [Option.some.injEq] at ht
     split at ht
     ·subst ht; exact cvh hf hl h
     ·subst ht; exact cv hf hl h
    ·cases ht
   | const c =>
    simp only [trOp,hop] at ht
    split at ht
    ·rename_i f' l hf hl
     simp only [Option.some.injEq] at ht
     split at ht
     ·subst ht; exact cvh hf hl h
     ·subst ht; exact cv hf hl h
    ·cases ht
   | global g =>
    simp only [trOp,hop] at ht
    split at ht
    ·rename_i f' l hf hl
     simp only [Option.some.injEq] at ht
     split at ht
     ·subst ht; exact cvh hf hl h
     ·subst ht; exact cv hf hl h
    ·cases ht
  | builtin b =>
   cases b
   case len =>
    simp only [trOp,hop] at ht
    split at ht
    ·rename_i x t ts ha hts
     have h0 : ats[0]? = some t := by rw [← Array.getElem?_toList,hts]; rfl
     split at ht
     ·rename_i x' hx hu
      cases ht
      simp only [dOp] at h
      split at h
      ·rename_i v' hv; cases h; exact op_len (str := true) hi hx hop ha h0 hu hv
      ·cases h
     ·rename_i x' e hx hu
      cases ht
      simp only [dOp] at h
      split at h
      ·rename_i v' hv; cases h; exact op_len (str := false) hi hx hop ha h0 ⟨e,hu⟩ hv
      ·cases h
     ·cases ht
    ·cases ht
   case append =>
    simp only [trOp,hop] at ht
    split at ht
    ·rename_i d x t u ha hts
     have ha : args = #[d,x] := by rw [← Array.toList_inj]; simpa using ha
     have hat : ats = #[t,u] := by rw [← Array.toList_inj]; simpa using hts
     split at ht
     ·rename_i d' x' e du hd hx hu hdu
      split at ht
      ·rename_i s w z hs hw hz
       split at ht
       ·rename_i h1
        split at ht
        ·rename_i hc
         obtain ⟨h2,h3,h4,h5⟩ := hc
         cases ht
         obtain ⟨zv,T,hzv⟩ := appZ_of hu hdu hs hw hz h1 h2 h4
         simp only [dOp] at h
         split at h
         ·rename_i k n hxv
          split at h
          ·rename_i hn
           exact op_appZ hi hn0 T hzv h4 h3 hop hd hx ha hat hxv hn h
          ·cases h
         ·cases h
        ·cases ht
       split at ht
       ·rename_i hc
        obtain ⟨h1,h2,h3,h4,h5⟩ := hc
        cases ht
        obtain ⟨zv,T,hzv⟩ := appT_of hu hdu hs hw hz h1 h2 h4
        simp only [dOp] at h
        split at h
        ·rename_i hb
         obtain rfl := h5 hb
         exact op_appB hi hn0 T h3 hop hd hx ha hat h
        ·exact op_appE hi hn0 T h3 hop hd hx ha hat h
       ·cases ht
      ·cases ht
     ·cases ht
    ·cases ht
   case min =>
    simp only [trOp,hop] at ht
    split at ht
    ·rename_i l hl
     cases ht
     simp only [dOp] at h
     split at h
     ·cases h
     ·split at h
      ·rename_i v' hv; cases h; exact op_minmax (mx := false) hi hl hop rfl hv
      ·cases h
    ·cases ht
   case max =>
    simp only [trOp,hop] at ht
    split at ht
    ·rename_i l hl
     cases ht
     simp only [dOp] at h
     split at h
     ·cases h
     ·split at h
      ·rename_i v' hv; cases h; exact op_minmax (mx := true) hi hl hop rfl hv
      ·cases h
    ·cases ht
   all_goals simp [trOp,hop] at ht
  | invoke r m =>
   simp only [trOp,hop] at ht
   split at ht
   ·rename_i f' l hf hl
    cases ht
    simp only [dOp] at h
    split at h
    ·rename_i t v0 hv0
     split at h
     ·rename_i g hg
      split at hg
      ·exact op_inv hC hG hi hn hf hl hop hv0 hg _ h
      ·cases hg
     ·cases h
    ·cases h
   ·cases ht
 | _=>simp [trOp,hop] at ht
end Go.Mini
namespace Go.Mini
open Go Go.RowKit
variable {P : Program} {own : Nat→Prop} {tm : Nat→Bool} {hp : Option FuncId→Bool} {E : Env} {st : DS} {a : Act} {nm nt : Nat} {o : Oper} {ops : Array Oper}
theorem Act.put_size (a : Act) (d : Option Tmp) (x : Value) : (a.put d x).tmps.size = a.tmps.size := by
 cases d <;> simp [Act.put]
theorem Act.put_defers' (a : Act) (d : Option Tmp) (x : Value) : (a.put d x).defers = a.defers := by
 cases d <;> rfl
theorem Inv.wr (h : Inv own tm E st a.tmps) (hs : nt ≤ a.tmps.size) {d : Option Tmp} {d' : Option X} (hd : trDst tm nt d = some d') {v : MV} {x : Value} (hr : RelV E v x) :
  Inv own tm E (st.wr d' v) (a.put d x).tmps := by
 cases d with
 | none =>
  simp only [trDst,Option.some.injEq] at hd
  subst hd
  exact h
 | some n =>
  simp only [trDst] at hd
  split at hd
  ·rename_i hlt
   simp only [Option.some.injEq] at hd
   have get : ∀ m,(a.put (some n) x).tmps[m]? = if n = m then some x else a.tmps[m]? := by
    intro m
    simp only [Act.put]
    by_cases hm : n = m
    ·subst hm; simp [Nat.lt_of_lt_of_le hlt hs]
    ·rw [Array.getElem?_setIfInBounds_ne hm,if_neg hm]
   by_cases ht : tm n = true
   ·rw [if_pos ht] at hd
    subst hd
    refine { h with T := fun m y hm=>?_,V := fun m y hm=>?_ }
    ·have hm : look (put st.T n v) m = some y := hm
     rw [look_put] at hm
     rw [get]
     by_cases hnm : n = m
     ·subst hnm
      simp only [if_true,Option.some.injEq] at hm
      subst hm
      exact ⟨ht,x,by simp,hr⟩
     ·rw [if_neg hnm] at hm ⊢
      exact h.T m y hm
    ·obtain ⟨h1,z,h2,h3⟩ := h.V m y hm
     refine ⟨h1,z,?_,h3⟩
     rw [get,if_neg]
     ·exact h2
     ·rintro rfl; rw [ht] at h1; cases h1
   ·rw [if_neg ht] at hd
    subst hd
    have ht : tm n = false := by simpa using ht
    refine { h with T := fun m y hm=>?_,V := fun m y hm=>?_ }
    ·obtain ⟨h1,z,h2,h3⟩ := h.T m y hm
     refine ⟨h1,z,?_,h3⟩
     rw [get,if_neg]
     ·exact h2
     ·rintro rfl; rw [ht] at h1; cases h1
    ·have hm : look (put st.V n v) m = some y := hm
     rw [look_put] at hm
     rw [get]
     by_cases hnm : n = m
     ·subst hnm
      simp only [if_true,Option.some.injEq] at hm
      subst hm
      exact ⟨ht,x,by simp,hr⟩
     ·rw [if_neg hnm] at hm ⊢
      exact h.V m y hm
  ·cases hd
theorem Inv.drew {tmps} (h : Inv own tm E st tmps) : Move own E { E with w := { E.w with drawn := E.w.drawn + 1 } } ∧ Inv own tm { E with w := { E.w with drawn := E.w.drawn + 1 } } st tmps := by
 have m : Move own E { E with w := { E.w with drawn := E.w.drawn + 1 } } :=
  ⟨⟨fun _=>Nat.le_refl _,fun _ _ _=>rfl,fun _ h=>h,fun _ _ _ h=>⟨h,rfl,rfl,rfl⟩⟩,rfl,rfl,rfl,Nat.le_refl _,fun _ _ _=>rfl,fun _ _=>rfl⟩
 exact ⟨m,h.change m rfl rfl h.len (fun o x hx=>(h.objs o x hx).ext m.toExt rfl rfl rfl fun b _=>⟨rfl,rfl⟩) h.sep h.ownb h.good h.born⟩
theorem slot_ok (hi : Inv own tm E st a.tmps) {n : Nat} {v : MV} (h : st.rd (if tm n = true then .t n else .v n) = v) (hv : v ≠ .undef) : ∃ x,a.tmps[n]? = some x ∧ RelV E v x := by
 by_cases ht : tm n = true
 ·rw [if_pos ht] at h
  simp only [DS.rd] at h
  cases hl : look st.T n with
  | none=>rw [hl] at h; exact (hv h.symm).elim
  | some y =>
   rw [hl] at h
   obtain ⟨_,z,hz,hr⟩ := hi.T n y hl
   exact ⟨z,hz,by rw [← h]; exact hr⟩
 ·rw [if_neg ht] at h
  simp only [DS.rd] at h
  cases hl : look st.V n with
  | none=>rw [hl] at h; exact (hv h.symm).elim
  | some y =>
   rw [hl] at h
   obtain ⟨_,z,hz,hr⟩ := hi.V n y hl
   exact ⟨z,hz,by rw [← h]; exact hr⟩
def Next (own : Nat→Prop) (tm : Nat→Bool) (lo hi : Nat) (E : Env) (a : Act) (st' : DS) (K : Act→World→Prop) : Prop :=
 ∀ E' a',Move own E E'→(∀ p,E'.born p→E.born p ∨ (lo ≤ p ∧ p < hi))→Inv own tm E' st' a'.tmps→a'.tmps.size = a.tmps.size→a'.defers = a.defers→K a' E'.w
theorem dOper_ok {Gd : Ground} {C : CallT} (hC : COK P Gd C) (hG : Gd.On own E) (hi : Inv own tm E st a.tmps) (hs : nt ≤ a.tmps.size) (hn : ∀ p,nm ≤ p→p < nm + 4→¬ E.born p) {i : Nat} (hop : ops[i]? = some o) {mo : MOper} (ht : trOper P tm hp nt ops o = some mo)
  {st' : DS} (h : dOper C nm mo st = some st') {Q : Exit→Act→World→Prop} {K : Act→World→Prop} (hK : Next own tm nm (nm + 4) E a st' K) : wpOp P ops Q i K a E.w := by
 unfold trOper at ht
 split at ht
 ·rename_i d g hd hg
  cases ht
  generalize hto : trOpB P tm hp o = op at h
  have want : ∀ b,wanted ⟨d,op,g⟩ st = some b→Region.wanted o (yielded ops a.tmps) = b := by
   intro b hb
   unfold wanted at hb
   unfold Region.wanted
   split at hg
   ·rename_i hgo
    simp only [Option.some.injEq] at hg
    subst hg
    simp only [Option.some.injEq] at hb
    rw [hgo]
    simpa using hb
   ·rename_i j w hgo
    rw [hgo]
    split at hg
    ·rename_i t htd
     simp only [Option.some.injEq] at hg
     subst hg
     simp only at hb
     have hy : ∀ x,a.tmps[t]? = some x→yielded ops a.tmps j = match x with | .bool b=>some b | _=>none := by
      intro x hx
      unfold yielded
      rw [htd]
      simp only [Option.bind_some,hx]
      cases x <;> rfl
     split at hb
     ·rename_i c hc
      obtain ⟨x,hx,hr⟩ := slot_ok hi hc (by simp)
      cases hr
      simp only [Option.some.injEq] at hb
      show (yielded ops a.tmps j == some w) = b
      rw [hy _ hx,← hb]
      cases c <;> cases w <;> rfl
     ·rename_i l hc
      obtain ⟨x,hx,hr⟩ := slot_ok hi hc (by simp)
      cases hr
      simp only [Option.some.injEq] at hb
      show (yielded ops a.tmps j == some w) = b
      rw [hy _ hx,← hb]
      cases w <;> rfl
     ·cases hb
    ·cases hg
  unfold wpOp
  rw [hop]
  unfold dOper at h
  split at h
  ·rename_i hw
   split at h
   ·rename_i v st1 hv
    cases h
    have hw' := want true hw
    simp only [hw',if_true]
    have hto : trOp P tm hp o = some op := by
     unfold trOpB at hto
     split at hto
     ·rename_i op' e; rw [e,hto]
     ·subst hto; simp [dOp] at hv
    refine .inl (dOp_ok hC hG hi hn hto hv _ _ fun E' x mv hb inv hr=>?_)
    exact hK E' _ mv hb (inv.wr hs hd hr) (Act.put_size ..) (Act.put_defers' ..)
   ·cases h
  ·rename_i hw
   cases h
   have hw' := want false hw
   simp only [hw',Bool.false_eq_true,if_false]
   exact hK E _ (Move.refl _ _) (fun _ h=>.inl h) (hi.wr hs hd (.tup .nil)) (Act.put_size ..) (Act.put_defers' ..)
  ·cases h
 ·cases ht
def dSched (C : CallT) (nx : Nat) (mops : List MOper) : List Nat→DS→Option DS
 | [],st=>some st
 | i :: l,st=>match mops[i]? with
  | some mo=>match dOper C (nx + 4 * i) mo st with
   | some st1=>dSched C nx mops l st1
   | none=>none
  | none=>dSched C nx mops l st
theorem trOpers_get : ∀ {l : List Oper} {ms : List MOper},trOpers P tm hp nt ops l = some ms→ms.length = l.length ∧ ∀ (i : Nat) (o : Oper),l[i]? = some o→∃ mo,ms[i]? = some mo ∧ trOper P tm hp nt ops o = some mo
 | [],ms,h=>by simp only [trOpers,Option.some.injEq] at h; subst h; simp
 | o :: l,ms,h=>by
  simp only [trOpers] at h
  split at h
  ·rename_i y hy
   split at h
   ·rename_i r hr
    cases h
    obtain ⟨hl,hg⟩ := trOpers_get hr
    refine ⟨by simp [hl],fun i o' ho'=>?_⟩
    cases i with
    | zero=>simp at ho'; subst ho'; exact ⟨y,rfl,hy⟩
    | succ i=>exact hg i o' (by simpa using ho')
   ·cases h
  ·cases h
theorem sched_ok {Gd : Ground} {C : CallT} (hC : COK P Gd C) {ms : List MOper} (ht : trOpers P tm hp nt ops ops.toList = some ms) {nx : Nat} {Q : Exit→Act→World→Prop} : ∀ {l : List Nat} {E : Env} {st st' : DS} {a : Act},Gd.On own E→Inv own tm E st a.tmps→nt ≤ a.tmps.size→l.Nodup→(∀ i ∈ l,i < ops.size) →
  (∀ i ∈ l,∀ p,nx + 4 * i ≤ p→p < nx + 4 * i + 4→¬ E.born p)→dSched C nx ms l st = some st'→Next own tm nx (nx + 4 * ops.size) E a st' (Q .normal)→wpOps P ops Q l a E.w
 | [],E,st,st',a,hG,hi,hs,_,_,_,h,hK=>by
  simp only [dSched,Option.some.injEq] at h
  subst h
  exact hK E a (Move.refl _ _) (fun _ h=>.inl h) hi rfl rfl
 | i :: l,E,st,st',a,hG,hi,hs,hnd,hlt,hn,h,hK=>by
  have hil := hlt i (by simp)
  have ho : ops[i]? = some ops[i] := Array.getElem?_eq_getElem hil
  obtain ⟨_,hg⟩ := trOpers_get ht
  obtain ⟨mo,hmo,htr⟩ := hg i _ (by rw [Array.getElem?_toList]; exact ho)
  simp only [dSched,hmo] at h
  split at h
  ·rename_i st1 h1
   rw [wpOps_cons]
   refine dOper_ok hC hG hi hs (hn i (by simp)) ho htr h1 fun E1 a1 m1 b1 i1 s1 d1=>?_
   obtain ⟨hni,hnd⟩ := List.nodup_cons.1 hnd
   refine sched_ok hC ht (Gd.move m1 hG) i1 (s1 ▸ hs) hnd (fun j hj=>hlt j (by simp [hj])) (fun j hj p hp hp2 hb=>?_) h fun E2 a2 m2 b2 i2 s2 d2=>?_
   ·rcases b1 p hb with hb | ⟨hb,hb2⟩
    ·exact hn j (by simp [hj]) p hp hp2 hb
    ·have : i ≠ j := by rintro rfl; exact hni hj
     omega
   ·refine hK E2 a2 (m1.trans m2) (fun p hp=>?_) i2 (s2.trans s1) (d2.trans d1)
    rcases b2 p hp with hp | hp
    ·rcases b1 p hp with hp | hp
     ·exact .inl hp
     ·exact .inr ⟨by omega,by omega⟩
    ·exact .inr hp
  ·cases h
theorem dOps_sched (C : CallT) (nx : Nat) (ms : List MOper) : ∀ (k : Nat) (st : DS),k ≤ ms.length→dOps C (nx + 4 * (ms.length - k)) (ms.drop (ms.length - k)) st = dSched C nx ms (List.range' (ms.length - k) k) st
 | 0,st,_=>by simp [dOps,dSched]
 | k + 1,st,hk=>by
  have hlt : ms.length - (k + 1) < ms.length := by omega
  rw [List.drop_eq_getElem_cons hlt,List.range'_succ]
  simp only [dOps,dSched,List.getElem?_eq_getElem hlt]
  have e : ms.length - (k + 1) + 1 = ms.length - k := by omega
  cases h1 : dOper C (nx + 4 * (ms.length - (k + 1))) ms[ms.length - (k + 1)] st with
  | none=>rfl
  | some st1 =>
   have := dOps_sched C nx ms k st1 (by omega)
   simp only [e,← this]
   congr 1
   omega
theorem region_ok {Gd : Ground} {C : CallT} (hC : COK P Gd C) (hG : Gd.On own E) {ms : List MOper} (ht : trOpers P tm hp nt ops ops.toList = some ms) {id : Nat} {Q : Exit→Act→World→Prop} (hi : Inv own tm E st a.tmps) (hs : nt ≤ a.tmps.size) {nx : Nat} (hn : ∀ p,E.born p→p < nx)
  {st' : DS} (h : dOps C nx ms st = some st') (hK : Next own tm nx (nx + 4 * ops.size) E a st' (Q .normal)) : (Code.region id ops false).wp P Q a E.w := by
 refine wp_region ?_
 have hl : ms.length = ops.size := by simpa using (trOpers_get ht).1
 have e := dOps_sched C nx ms ms.length st (Nat.le_refl _)
 simp only [Nat.sub_self,Nat.mul_zero,Nat.add_zero,List.drop_zero] at e
 rw [e] at h
 rw [List.range_eq_range',← hl]
 refine sched_ok hC ht hG hi hs List.nodup_range' (fun i hi=>?_) (fun i _ p hp _ hb=>?_) h hK
 ·rw [← hl]; simpa using hi
 ·have := hn p hb; omega
end Go.Mini
namespace Go.Mini
open Go Go.RowKit
variable {P : Program} {own : Nat→Prop} {tm : Nat→Bool} {E : Env} {st : DS} {a : Act} {nm nt : Nat} {o : Oper} {ops : Array Oper}
theorem liveNames_nodup (st : DS) (keep : List (Nat × KMode)) : (liveNames st keep).Nodup := reach_nodup 5 (nub_nodup List.nodup_nil)
theorem look_newObjs {O : List (Nat × Obj)} {ns : List Nat} : ∀ {l : List Nat} {j i : Nat},look (newObjs O ns j l) i = if i < j then none else (l[i - j]?).bind fun o=>(look O o).map (renObj ns)
 | [],j,i=>by simp [newObjs,look]
 | a :: l,j,i=>by
  have rest := look_newObjs (O := O) (ns := ns) (l := l) (j := j + 1) (i := i)
  have step : ∀ h : j < i,(a :: l)[i - j]? = l[i - (j + 1)]? := fun h=>by
   have : i - j = (i - (j + 1)) + 1 := by omega
   rw [this]; simp
  simp only [newObjs]
  cases hl : look O a with
  | none =>
   simp only
   rw [rest]
   by_cases h1 : i < j
   ·rw [if_pos (by omega),if_pos h1]
   ·by_cases h2 : i = j
    ·subst h2; rw [if_pos (by omega),if_neg h1]; simp [hl]
    ·rw [if_neg (by omega),if_neg h1,step (by omega)]
  | some x =>
   simp only [look]
   by_cases h2 : j = i
   ·subst h2; rw [if_pos rfl,if_neg (by omega)]; simp [hl]
   ·rw [if_neg h2,rest]
    by_cases h1 : i < j
    ·rw [if_pos (by omega),if_pos h1]
    ·rw [if_neg (by omega),if_neg h1,step (by omega)]
theorem look_append {α : Type} (l m : List (Nat × α)) (n : Nat) : look (l ++ m) n = (look l n).or (look m n) := by
 induction l with
 | nil=>simp [look]
 | cons x l ih =>
  obtain ⟨k,v⟩ := x
  simp only [List.cons_append,look]
  split
  ·simp
  ·exact ih
def Fresh (O : List (Nat × Obj)) (p : Nat) : Prop := look O p = some (.byt [] false) ∨ ∃ s,0 < s ∧ look O p = some (.el s [] false)
theorem keepV_ok {V : List (Nat × MV)} {ns : List Nat} : ∀ {keep : List (Nat × KMode)} {nx : Nat} {O : List (Nat × Obj)},(∀ k ∈ keep,∀ s,k.2 = .ownE s→0 < s)→(∀ p,nx ≤ p→look O p = none) →
  nx ≤ (keepV V ns keep nx O).2.2 ∧ (∀ p,p < nx→look (keepV V ns keep nx O).2.1 p = look O p) ∧ (∀ p,(keepV V ns keep nx O).2.2 ≤ p→look (keepV V ns keep nx O).2.1 p = none) ∧
  (∀ p,nx ≤ p→p < (keepV V ns keep nx O).2.2→Fresh (keepV V ns keep nx O).2.1 p) ∧
  (∀ k v,look (keepV V ns keep nx O).1 k = some v→(∃ m,(k,m) ∈ keep ∧ m ≠ .inh) ∧ (v = ren ns ((look V k).getD .undef) ∨ ∃ p,nx ≤ p ∧ p < (keepV V ns keep nx O).2.2 ∧ v = .own p 0 ∧ look V k = some .nilsl))
 | [],nx,O,_,hO=>⟨Nat.le_refl _,fun _ _=>rfl,hO,fun p h1 h2=>by simp only [keepV] at h2; omega,fun k v h=>by simp [keepV,look] at h⟩
 | (k,m) :: r,nx,O,hs,hO=>by
  by_cases hinh : m = .inh
  ·subst hinh
   have e : keepV V ns ((k,.inh) :: r) nx O = keepV V ns r nx O := rfl
   rw [e]
   obtain ⟨h1,h2,h3,h4,h5⟩ := keepV_ok (V := V) (ns := ns) (keep := r) (nx := nx) (O := O) (fun k hk=>hs k (by simp [hk])) hO
   exact ⟨h1,h2,h3,h4,fun k' v hv=>let ⟨⟨m',hm⟩,h6⟩ := h5 k' v hv; ⟨⟨m',by simp [hm.1],hm.2⟩,h6⟩⟩
  have plain : keepV V ns ((k,m) :: r) nx O = ((k,ren ns ((look V k).getD .undef)) :: (keepV V ns r nx O).1,(keepV V ns r nx O).2.1,(keepV V ns r nx O).2.2) →
    nx ≤ (keepV V ns ((k,m) :: r) nx O).2.2 ∧ (∀ p,p < nx→look (keepV V ns ((k,m) :: r) nx O).2.1 p = look O p) ∧ (∀ p,(keepV V ns ((k,m) :: r) nx O).2.2 ≤ p→look (keepV V ns ((k,m) :: r) nx O).2.1 p = none) ∧
    (∀ p,nx ≤ p→p < (keepV V ns ((k,m) :: r) nx O).2.2→Fresh (keepV V ns ((k,m) :: r) nx O).2.1 p) ∧
    (∀ k' v,look (keepV V ns ((k,m) :: r) nx O).1 k' = some v→(∃ m',(k',m') ∈ (k,m) :: r ∧ m' ≠ .inh) ∧ (v = ren ns ((look V k').getD .undef) ∨ ∃ p,nx ≤ p ∧ p < (keepV V ns ((k,m) :: r) nx O).2.2 ∧ v = .own p 0 ∧ look V k' = some .nilsl)) := by
   intro e
   rw [e]
   obtain ⟨h1,h2,h3,h4,h5⟩ := keepV_ok (V := V) (ns := ns) (keep := r) (nx := nx) (O := O) (fun k hk=>hs k (by simp [hk])) hO
   refine ⟨h1,h2,h3,h4,fun k' v hv=>?_⟩
   simp only [look] at hv
   split at hv
   ·rename_i hk
    subst hk
    cases hv
    exact ⟨⟨m,by simp,hinh⟩,.inl rfl⟩
   ·obtain ⟨⟨m',hm⟩,h6⟩ := h5 k' v hv
    exact ⟨⟨m',by simp [hm.1],hm.2⟩,h6⟩
  have made : ∀ x : Obj,(x = .byt [] false ∨ ∃ s,0 < s ∧ x = .el s [] false)→look V k = some .nilsl →
    keepV V ns ((k,m) :: r) nx O = ((k,.own nx 0) :: (keepV V ns r (nx + 1) (O ++ [(nx,x)])).1,(keepV V ns r (nx + 1) (O ++ [(nx,x)])).2.1,(keepV V ns r (nx + 1) (O ++ [(nx,x)])).2.2) →
    nx ≤ (keepV V ns ((k,m) :: r) nx O).2.2 ∧ (∀ p,p < nx→look (keepV V ns ((k,m) :: r) nx O).2.1 p = look O p) ∧ (∀ p,(keepV V ns ((k,m) :: r) nx O).2.2 ≤ p→look (keepV V ns ((k,m) :: r) nx O).2.1 p = none) ∧
    (∀ p,nx ≤ p→p < (keepV V ns ((k,m) :: r) nx O).2.2→Fresh (keepV V ns ((k,m) :: r) nx O).2.1 p) ∧
    (∀ k' v,look (keepV V ns ((k,m) :: r) nx O).1 k' = some v→(∃ m',(k',m') ∈ (k,m) :: r ∧ m' ≠ .inh) ∧ (v = ren ns ((look V k').getD .undef) ∨ ∃ p,nx ≤ p ∧ p < (keepV V ns ((k,m) :: r) nx O).2.2 ∧ v = .own p 0 ∧ look V k' = some .nilsl)) := by
   intro x hx hk e
   rw [e]
   obtain ⟨h1,h2,h3,h4,h5⟩ := keepV_ok (V := V) (ns := ns) (keep := r) (nx := nx + 1) (O := O ++ [(nx,x)]) (fun k hk=>hs k (by simp [hk])) (fun p hp=>by
    rw [look_append,hO p (by omega)]; simp only [look,Option.none_or]; rw [if_neg (by omega)])
   have hnx : look (keepV V ns r (nx + 1) (O ++ [(nx,x)])).2.1 nx = some x := by
    rw [h2 nx (by omega),look_append,hO nx (Nat.le_refl _)]; simp [look]
   refine ⟨Nat.le_of_succ_le h1,fun p hp=>?_,h3,fun p hp hp2=>?_,fun k' v hv=>?_⟩
   ·rw [h2 p (by omega),look_append]
    simp only [look]
    rw [if_neg (by omega)]
    simp
   ·by_cases hpn : p = nx
    ·subst hpn
     rcases hx with rfl | ⟨s,h0,rfl⟩
     ·exact .inl hnx
     ·exact .inr ⟨s,h0,hnx⟩
    ·exact h4 p (by omega) hp2
   ·simp only [look] at hv
    split at hv
    ·rename_i hkk
     subst hkk
     cases hv
     exact ⟨⟨m,by simp,hinh⟩,.inr ⟨nx,Nat.le_refl _,Nat.lt_of_succ_le h1,rfl,hk⟩⟩
    ·obtain ⟨⟨m',hm⟩,h6⟩ := h5 k' v hv
     refine ⟨⟨m',by simp [hm.1],hm.2⟩,?_⟩
     rcases h6 with h6 | ⟨p,p1,p2,p3⟩
     ·exact .inl h6
     ·exact .inr ⟨p,by omega,p2,p3⟩
  cases hv : look V k with
  | none =>
   refine plain ?_
   cases m <;> first | exact (hinh rfl).elim | simp [keepV,hv]
  | some v =>
   by_cases hn : v = .nilsl
   ·subst hn
    cases m with
    | plain=>exact plain (by simp [keepV,hv])
    | ownB=>exact made _ (.inl rfl) hv (by simp [keepV,hv])
    | inh=>exact (hinh rfl).elim
    | ownE s=>exact made (.el s [] false) (.inr ⟨s,hs (k,.ownE s) (by simp) s rfl,rfl⟩) hv (by simp [keepV,hv])
   ·refine plain ?_
    cases m with
    | plain=>simp [keepV,hv]
    | ownB=>cases v <;> first | exact (hn rfl).elim | simp [keepV,hv]
    | inh=>exact (hinh rfl).elim
    | ownE s=>cases v <;> first | exact (hn rfl).elim | simp [keepV,hv]
def Env.ren (E : Env) (ns : List Nat) (O : List (Nat × Obj)) (nx : Nat) : Env :=
 { C := E.C, w := E.w, born := fun p => p < nx, len := fun p => (look O p).map Obj.len, blk := fun p => (ns[p]?).bind E.blk
   cap := fun p=>match ns[p]? with | some o=>E.cap o | .none=>0
   sz := fun p=>match ns[p]? with | some o=>E.sz o | .none=>match look O p with | some (.el s _ _)=>s | _=>1 }
section
variable {ns : List Nat} {O' : List (Nat × Obj)} {nx : Nat} {tmps : Array Value}
 (h : Inv own tm E st tmps) (hO : ∀ p,p < ns.length + 1→look O' p = (ns[p]?).bind fun o=>(look st.O o).map (renObj ns)) (hnx : ns.length < nx)
include h hO hnx
theorem name_ok (o : Nat) : (E.ren ns O' nx).born (nameOf ns o) ∧ ∀ n,(E.ren ns O' nx).len (nameOf ns o) = some n→E.len o = some n ∧ (E.ren ns O' nx).blk (nameOf ns o) = E.blk o ∧ (E.ren ns O' nx).cap (nameOf ns o) = E.cap o := by
 unfold nameOf
 cases hp : place ns o 0 with
 | none =>
  refine ⟨hnx,fun n hn=>?_⟩
  have hn : (look O' ns.length).map Obj.len = some n := hn
  rw [hO _ (by omega)] at hn
  simp at hn
 | some i =>
  obtain ⟨_,hi⟩ := place_get hp
  simp only [Nat.sub_zero] at hi
  have hlt := (List.getElem?_eq_some_iff.1 hi).1
  refine ⟨by show i < nx; omega,fun n hn=>?_⟩
  have hn : (look O' i).map Obj.len = some n := hn
  rw [hO i (by omega),hi] at hn
  simp only [Option.bind_some] at hn
  refine ⟨?_,?_,?_⟩
  ·rw [h.len]
   cases hl : look st.O o with
   | none=>rw [hl] at hn; simp at hn
   | some x=>rw [hl] at hn; simpa [mapObj_len] using hn
  ·show (ns[i]?).bind E.blk = E.blk o
   rw [hi]; rfl
  ·show (match ns[i]? with | some o=>E.cap o | none=>0) = E.cap o
   rw [hi]
theorem ren_map : MapOK E (E.ren ns O' nx) (nameOf ns) := ⟨rfl,rfl,fun o _=>name_ok h hO hnx o⟩
theorem renObj_ok {i o : Nat} (hi : ns[i]? = some o) {x : Obj} (hx : ObjOK E o x) : ObjOK (E.ren ns O' nx) i (renObj ns x) := by
 refine mapObj_ok (ren_map h hO hnx) ?_ ?_ ?_ hx
 ·show (ns[i]?).bind E.blk = _; rw [hi]; rfl
 ·show (match ns[i]? with | some o=>E.cap o | none=>0) = _; rw [hi]
 ·show (match ns[i]? with | some o=>E.sz o | none=>_) = _; rw [hi]
end
def Inh (K : Nat) (E E' : Env) : Prop := ∀ i,i < K→E'.born i ∧ ∀ n,E'.len i = some n→E.len i = some n ∧ E'.blk i = E.blk i ∧ E'.cap i = E.cap i ∧ E'.sz i = E.sz i
theorem Inh.refl {K : Nat} {E : Env} (h : ∀ i,i < K→E.born i) : Inh K E E := fun i hi=>⟨h i hi,fun _ hn=>⟨hn,rfl,rfl,rfl⟩⟩
theorem Inh.trans {K : Nat} {A B D : Env} (h : Inh K A B) (k : Inh K B D) : Inh K A D := fun i hi=>⟨(k i hi).1,fun n hn=>by
 obtain ⟨a,b,c,d⟩ := (k i hi).2 n hn
 obtain ⟨a',b',c',d'⟩ := (h i hi).2 n a
 exact ⟨a',b.trans b',c.trans c',d.trans d'⟩⟩
theorem Move.inh {K : Nat} {E E' : Env} (m : Move own E E') (h : ∀ i,i < K→E.born i) : Inh K E E' := fun i hi=>⟨m.born i (h i hi),m.len i (h i hi)⟩
theorem Inh.born {K : Nat} {E E' : Env} (h : Inh K E E') : ∀ i,i < K→E'.born i := fun i hi=>(h i hi).1
theorem liveNames_inh (st : DS) (keep : List (Nat × KMode)) {i : Nat} (hi : i < inhOf keep) : (liveNames st keep)[i]? = some i := by
 obtain ⟨r,hr⟩ := nub_front (p := List.range (inhOf keep)) (l := keptNames st keep) (acc := []) (by simpa using List.nodup_range)
 obtain ⟨r',hr'⟩ := reach_front (O := st.O) 5 (p := List.range (inhOf keep)) (r := r) List.nodup_range
 unfold liveNames
 rw [hr]
 simp only [List.reverse_nil,List.nil_append]
 rw [hr',List.getElem?_append_left (by simpa using hi)]
 simp [hi]
theorem canon_ok {keep : List (Nat × KMode)} {tmps : Array Value} (h : Inv own tm E st tmps) (hk : keep.all (keepB tm nt) = true) (hs : nt ≤ tmps.size) :
  ∃ E',E'.w = E.w ∧ E'.C = E.C ∧ Inv own tm E' (canon keep st) tmps ∧ (∀ p,E'.born p→p < (canon keep st).nx) ∧ Inh (inhOf keep) E E' := by
 have hkeep : ∀ k ∈ keep,k.2 ≠ .inh→k.1 < nt ∧ tm k.1 = false := by
  intro k hkm hne
  have := List.all_eq_true.1 hk k hkm
  unfold keepB at this
  split at this
  ·rename_i hi; exact (hne hi).elim
  ·simp only [Bool.and_eq_true,decide_eq_true_eq,Bool.not_eq_true'] at this
   exact this.1
  ·simp only [Bool.and_eq_true,decide_eq_true_eq,Bool.not_eq_true'] at this
   exact this
 have hkeepS : ∀ k ∈ keep,∀ s,k.2 = .ownE s→0 < s := by
  intro k hkm s hs
  have := List.all_eq_true.1 hk k hkm
  unfold keepB at this
  rw [hs] at this
  simp only [Bool.and_eq_true,decide_eq_true_eq] at this
  exact this.2
 have hnd := liveNames_nodup st keep
 have hinh := fun i=>liveNames_inh st keep (i := i)
 generalize hns : liveNames st keep = ns at hnd hinh
 have hbase : ∀ p,ns.length + 1 ≤ p→look (newObjs st.O ns 0 ns) p = none := by
  intro p hp
  rw [look_newObjs,if_neg (by omega),List.getElem?_eq_none (by omega)]
  rfl
 obtain ⟨k1,k2,k3,k4,k5⟩ := keepV_ok (V := st.V) (ns := ns) (keep := keep) (nx := ns.length + 1) (O := newObjs st.O ns 0 ns) hkeepS hbase
 have e1 : canon keep st = { V := (keepV st.V ns keep (ns.length + 1) (newObjs st.O ns 0 ns)).1,T := [],O := (keepV st.V ns keep (ns.length + 1) (newObjs st.O ns 0 ns)).2.1,nx := (keepV st.V ns keep (ns.length + 1) (newObjs st.O ns 0 ns)).2.2 } := by
  unfold canon
  simp only [hns]
 rw [e1]
 generalize (keepV st.V ns keep (ns.length + 1) (newObjs st.O ns 0 ns)).1 = V' at k5
 generalize (keepV st.V ns keep (ns.length + 1) (newObjs st.O ns 0 ns)).2.1 = O' at k2 k3 k4
 generalize (keepV st.V ns keep (ns.length + 1) (newObjs st.O ns 0 ns)).2.2 = nx at k1 k3 k4 k5
 have hO : ∀ p,p < ns.length + 1→look O' p = (ns[p]?).bind fun o=>(look st.O o).map (renObj ns) := by
  intro p hp
  rw [k2 p hp,look_newObjs,if_neg (by omega)]
  simp
 have hnx : ns.length < nx := by omega
 have split : ∀ p x,look O' p = some x→(∃ o y,ns[p]? = some o ∧ look st.O o = some y ∧ x = renObj ns y) ∨ (ns[p]? = none ∧ p < nx ∧ Fresh O' p) := by
  intro p x hp
  by_cases h1 : p < ns.length + 1
  ·rw [hO p h1] at hp
   cases ho : ns[p]? with
   | none=>rw [ho] at hp; simp at hp
   | some o =>
    rw [ho] at hp
    simp only [Option.bind_some,Option.map_eq_some_iff] at hp
    obtain ⟨y,hy,rfl⟩ := hp
    exact .inl ⟨o,y,rfl,hy,rfl⟩
  ·by_cases h2 : p < nx
   ·exact .inr ⟨List.getElem?_eq_none (by omega),h2,k4 p (by omega) h2⟩
   ·rw [k3 p (by omega)] at hp; cases hp
 refine ⟨E.ren ns O' nx,rfl,rfl,?_,fun p hp=>hp,fun i hi=>?_⟩
 rotate_left
 ·have hg := hinh i hi
  have hlt := (List.getElem?_eq_some_iff.1 hg).1
  refine ⟨by show i < nx; omega,fun n hn=>?_⟩
  have hn : (look O' i).map Obj.len = some n := hn
  rw [hO i (by omega),hg] at hn
  simp only [Option.bind_some] at hn
  refine ⟨?_,?_,?_,?_⟩
  ·rw [h.len]
   cases hl : look st.O i with
   | none=>rw [hl] at hn; simp at hn
   | some x=>rw [hl] at hn; simpa [renObj,mapObj_len] using hn
  ·show (ns[i]?).bind E.blk = _; rw [hg]; rfl
  ·show (match ns[i]? with | some o=>E.cap o | none=>0) = _; rw [hg]
  ·show (match ns[i]? with | some o=>E.sz o | none=>_) = _; rw [hg]
 have hfresh : ∀ p,Fresh O' p→ns[p]? = none→∀ x,look O' p = some x→ObjOK (E.ren ns O' nx) p x := by
  intro p hf hn x hx
  have hb : (E.ren ns O' nx).blk p = none := by show (ns[p]?).bind E.blk = none; rw [hn]; rfl
  rcases hf with hf | ⟨s,h0,hf⟩
  ·rw [hf] at hx; cases hx
   exact .byt0 hb (by show (match ns[p]? with | some o=>E.sz o | none=>match look O' p with | some (.el s _ _)=>s | _=>1) = 1; rw [hn,hf])
  ·rw [hf] at hx; cases hx
   exact .el0 hb (by show (match ns[p]? with | some o=>E.sz o | none=>match look O' p with | some (.el s _ _)=>s | _=>1) = s; rw [hn,hf]) h0
 refine { len := fun p=>rfl,objs := fun p x hp=>?_,sep := fun p q b hp hq hpb hqb=>?_,ownb := fun p b hp hpb=>?_,good := h.good,born := fun p hp=>?_,base := h.base,tabs := fun k g hk ht=>Cells.same (E := E) (E' := E.ren ns O' nx) rfl rfl (h.tabs k g hk ht),T := fun n v hn=>by simp [look] at hn,V := fun k v hv=>?_ }
 ·rcases split p x hp with ⟨o,y,h1,h2,rfl⟩ | ⟨h1,h2,h3⟩
  ·exact renObj_ok h hO hnx h1 (h.objs o y h2)
  ·exact hfresh p h3 h1 x hp
 ·have hpb : (ns[p]?).bind E.blk = some b := hpb
  have hqb : (ns[q]?).bind E.blk = some b := hqb
  obtain ⟨x,hx⟩ := Option.ne_none_iff_exists'.1 hp
  obtain ⟨y,hy⟩ := Option.ne_none_iff_exists'.1 hq
  rcases split p x hx with ⟨o,x',h1,h2,rfl⟩ | ⟨h1,_⟩
  ·rcases split q y hy with ⟨o',y',h3,h4,rfl⟩ | ⟨h3,_⟩
   ·rw [h1] at hpb; rw [h3] at hqb
    have := h.sep o o' b (by rw [h2]; simp) (by rw [h4]; simp) hpb hqb
    subst this
    obtain ⟨l1,e1⟩ := List.getElem?_eq_some_iff.1 h1
    obtain ⟨l2,e2⟩ := List.getElem?_eq_some_iff.1 h3
    exact (List.getElem_inj hnd).1 (e1.trans e2.symm)
   ·rw [h3] at hqb; cases hqb
  ·rw [h1] at hpb; cases hpb
 ·have hpb : (ns[p]?).bind E.blk = some b := hpb
  obtain ⟨x,hx⟩ := Option.ne_none_iff_exists'.1 hp
  rcases split p x hx with ⟨o,x',h1,h2,rfl⟩ | ⟨h1,_⟩
  ·rw [h1] at hpb
   exact h.ownb o b (by rw [h2]; simp) hpb
  ·rw [h1] at hpb; cases hpb
 ·show p < nx
  by_cases h2 : p < nx
  ·exact h2
  ·exact (hp (k3 p (by omega))).elim
 ·obtain ⟨⟨m,hm,hne⟩,h6⟩ := k5 k v hv
  obtain ⟨hlt,htm⟩ := hkeep _ hm hne
  refine ⟨htm,?_⟩
  rcases h6 with rfl | ⟨p,p1,p2,rfl,p4⟩
  ·cases hl : look st.V k with
   | none=>exact ⟨tmps[k]'(by omega),by rw [Array.getElem?_eq_getElem],.undef⟩
   | some y =>
    obtain ⟨_,x,hx,hr⟩ := h.V k y hl
    exact ⟨x,hx,by simpa using mapV_ok (ren_map h hO hnx) hr⟩
  ·obtain ⟨_,x,hx,hr⟩ := h.V k _ p4
   cases hr
   refine ⟨_,hx,.own p2 rfl fun _=>?_⟩
   unfold hdr
   have : (E.ren ns O' nx).blk p = none := by
    show (ns[p]?).bind E.blk = none
    rw [List.getElem?_eq_none (by omega)]; rfl
   rw [this]
end Go.Mini
namespace Go.Mini
open Go
def setLent : Obj→Obj
 | .byt l _=>.byt l true
 | .el s l _=>.el s l true
 | x=>x
def unfl : Obj→Obj
 | .byt l _=>.byt l false
 | .el s l _=>.el s l false
 | x=>x
def lentIf (b : Bool) (x : Option Obj) : Option Obj := if b then x.map setLent else x
theorem unfl_setLent (x : Obj) : unfl (setLent x) = unfl x := by cases x <;> rfl
theorem unfl_lentIf (b : Bool) (x : Option Obj) : (lentIf b x).map unfl = x.map unfl := by
 cases b <;> cases x <;> simp [lentIf,unfl_setLent]
theorem lentIf_or (a b : Bool) (x : Option Obj) : lentIf b (lentIf a x) = lentIf (a || b) x := by
 have : ∀ x,setLent (setLent x) = setLent x := fun x=>by cases x <;> rfl
 cases a <;> cases b <;> cases x <;> simp [lentIf,this]
theorem lentIf_comm (a b : Bool) (x : Option Obj) : lentIf b (lentIf a x) = lentIf a (lentIf b x) := by
 rw [lentIf_or,lentIf_or,Bool.or_comm]
structure Agree (F W : Nat→Prop) (st st' : DS) : Prop where
 F : ∀ o,F o→(look st.O o).map unfl = (look st'.O o).map unfl
 W : ∀ o,W o→look st.O o = look st'.O o
structure Quiet (F : Nat→Prop) (b : Nat→Bool) (st st1 : DS) : Prop where
 bF : ∀ o,b o = true→F o
 O : ∀ o,look st1.O o = lentIf (b o) (look st.O o)
 T : st1.T = st.T
 V : st1.V = st.V
theorem Quiet.refl (F) (st : DS) : Quiet F (fun _=>false) st st := ⟨fun _ h=>Bool.noConfusion h,fun _=>rfl,rfl,rfl⟩
theorem Quiet.trans {F b c} {s0 s1 s2 : DS} (h : Quiet F b s0 s1) (k : Quiet F c s1 s2) : Quiet F (fun o=>b o || c o) s0 s2 where
 bF o ho := by
  simp only [Bool.or_eq_true] at ho
  exact ho.elim (h.bF o) (k.bF o)
 O o := by rw [k.O,h.O,lentIf_or]
 T := k.T.trans h.T
 V := k.V.trans h.V
theorem Agree.quiet {F W G b} {st st' st1 st1' : DS} (h : Agree F W st st') (q : Quiet G b st st1) (q' : Quiet G b st' st1') : Agree F W st1 st1' :=
 ⟨fun o ho=>by rw [q.O,q'.O,unfl_lentIf,unfl_lentIf]; exact h.F o ho,fun o ho=>by rw [q.O,q'.O,h.W o ho]⟩
section
variable {F W : Nat→Prop} {st st' : DS}
theorem Agree.cells (h : Agree F W st st') {o l} (ho : F o) (hl : look st.O o = some (.cells l)) : look st'.O o = some (.cells l) := by
 have := h.F o ho
 rw [hl] at this
 cases h' : look st'.O o with
 | none=>rw [h'] at this; cases this
 | some x =>
  rw [h'] at this
  cases x <;> simp [unfl] at this
  simp [this]
theorem Agree.byt (h : Agree F W st st') {o l b} (ho : F o) (hl : look st.O o = some (.byt l b)) : ∃ b',look st'.O o = some (.byt l b') := by
 have := h.F o ho
 rw [hl] at this
 cases h' : look st'.O o with
 | none=>rw [h'] at this; cases this
 | some x =>
  rw [h'] at this
  cases x <;> simp [unfl] at this
  simp [this]
theorem Agree.el (h : Agree F W st st') {o s l b} (ho : F o) (hl : look st.O o = some (.el s l b)) : ∃ b',look st'.O o = some (.el s l b') := by
 have := h.F o ho
 rw [hl] at this
 cases h' : look st'.O o with
 | none=>rw [h'] at this; cases this
 | some x =>
  rw [h'] at this
  cases x <;> simp [unfl] at this
  simp [this]
theorem Agree.live (h : Agree F W st st') {o n} (ho : F o) : live o n st' = live o n st := by
 unfold Mini.live
 have := h.F o ho
 cases h1 : look st.O o with
 | none=>rw [h1] at this; cases h2 : look st'.O o with | none=>rfl | some y=>rw [h2] at this; cases this
 | some x =>
  rw [h1] at this
  cases h2 : look st'.O o with
  | none=>rw [h2] at this; cases this
  | some y=>rw [h2] at this; cases x <;> cases y <;> simp [unfl] at this <;> simp [this]
theorem Agree.liveS (h : Agree F W st st') {o n s} (ho : F o) : liveS o n s st' = liveS o n s st := by
 unfold Mini.liveS
 have := h.F o ho
 cases h1 : look st.O o with
 | none=>rw [h1] at this; cases h2 : look st'.O o with | none=>rfl | some y=>rw [h2] at this; cases this
 | some x =>
  rw [h1] at this
  cases h2 : look st'.O o with
  | none=>rw [h2] at this; cases this
  | some y=>rw [h2] at this; cases x <;> cases y <;> simp [unfl] at this <;> simp [this]
theorem Agree.liveC (h : Agree F W st st') {o} (ho : F o) : liveC o st' = liveC o st := by
 unfold Mini.liveC
 have := h.F o ho
 cases h1 : look st.O o with
 | none=>rw [h1] at this; cases h2 : look st'.O o with | none=>rfl | some y=>rw [h2] at this; cases this
 | some x =>
  rw [h1] at this
  cases h2 : look st'.O o with
  | none=>rw [h2] at this; cases this
  | some y=>rw [h2] at this; cases x <;> cases y <;> simp [unfl] at this <;> simp [this]
def QL {α : Type} (F : Nat→Prop) (f : DS→Option (α × DS)) (st : DS) (r : α × DS) : Prop :=
 ∃ b,Quiet F b st r.2 ∧ ∀ W st',Agree F W st st'→∃ st1',f st' = some (r.1,st1') ∧ Quiet F b st' st1'
theorem QL.pure {α : Type} {F : Nat→Prop} {f : DS→Option (α × DS)} {a : α} (h : ∀ W st',Agree F W st st'→f st' = some (a,st')) : QL F f st (a,st) :=
 ⟨_,Quiet.refl F st,fun W st' ha=>⟨st',h W st' ha,Quiet.refl F st'⟩⟩
def own1 : MV→List Nat
 | .own o _=>[o]
 | _=>[]
theorem lend_loc {v : MV} {r : MV × DS} (hF : ∀ o ∈ own1 v,F o) (h : lend v st = some r) : QL F (lend v) st r := by
 cases v
 case own o n =>
  have ho : F o := hF o (by simp [own1])
  have q : ∀ (ob ob' : Obj) (s : DS),look s.O o = some ob→ob' = setLent ob→Quiet F (fun p=>decide (o = p)) s { s with O := put s.O o ob' } := by
   intro ob ob' s hob hob'
   refine ⟨fun p hp=>?_,fun p=>?_,rfl,rfl⟩
   ·simp at hp; subst hp; exact ho
   ·show look (put s.O o ob') p = _
    rw [look_put]
    by_cases hp : o = p
    ·subst hp; simp [lentIf,hob,hob']
    ·simp [hp,lentIf]
  simp only [lend] at h
  split at h
  ·rename_i l b hl
   split at h
   ·rename_i hn
    cases h
    refine ⟨_,q _ (.byt l true) st hl rfl,fun W st' ha=>?_⟩
    obtain ⟨b',hl'⟩ := ha.byt ho hl
    exact ⟨_,by simp only [lend,hl',if_pos hn],q _ (.byt l true) st' hl' rfl⟩
   ·cases h
  ·rename_i s l b hl
   split at h
   ·rename_i hn
    cases h
    refine ⟨_,q _ (.el s l true) st hl rfl,fun W st' ha=>?_⟩
    obtain ⟨b',hl'⟩ := ha.el ho hl
    exact ⟨_,by simp only [lend,hl',if_pos hn],q _ (.el s l true) st' hl' rfl⟩
   ·cases h
  ·cases h
 case fn f caps =>
  simp only [lend] at h
  split at h
  ·rename_i hc; cases h; exact .pure fun W st' _=>by simp only [lend,if_pos hc]
  ·cases h
 all_goals first | (simp only [lend,Option.some.injEq] at h; subst h; exact .pure fun W st' _=>rfl) | cases h
theorem lends_loc : ∀ {l : List MV} {st : DS} {r : List MV × DS},(∀ v ∈ l,∀ o ∈ own1 v,F o)→lends l st = some r→QL F (lends l) st r
 | [],st,r,_,h=>by simp only [lends,Option.some.injEq] at h; subst h; exact .pure fun W st' _=>rfl
 | v :: l,st,r,hF,h=>by
  simp only [lends] at h
  split at h
  ·rename_i v' st1 h1
   split at h
   ·rename_i r' st2 h2
    cases h
    obtain ⟨b,q,k⟩ := lend_loc (hF v (by simp)) h1
    obtain ⟨c,q2,k2⟩ := lends_loc (fun w hw=>hF w (by simp [hw])) h2
    refine ⟨_,q.trans q2,fun W st' ha=>?_⟩
    obtain ⟨s1,e1,p1⟩ := k W st' ha
    obtain ⟨s2,e2,p2⟩ := k2 W s1 (ha.quiet q p1)
    exact ⟨s2,by simp only [lends,e1,e2],p1.trans p2⟩
   ·cases h
  ·cases h
def RdEq (xs : List X) (st st' : DS) : Prop := ∀ x ∈ xs,st'.rd x = st.rd x
theorem rd_eq {s s' : DS} (hT : s'.T = s.T) (hV : s'.V = s.V) (x : X) : s'.rd x = s.rd x := by
 cases x <;> simp [DS.rd,hT,hV]
theorem Quiet.rd {b} {s s1 : DS} (q : Quiet F b s s1) (x : X) : s1.rd x = s.rd x := rd_eq q.T q.V x
theorem placeAll_loc : ∀ {ps : List (Nat × Nat × X)} {l : List MV} {st : DS} {r : List MV × DS},(∀ p ∈ ps,∀ o ∈ own1 (st.rd p.2.2),F o)→placeAll st l ps = some r →
  ∃ b,Quiet F b st r.2 ∧ ∀ W st',RdEq (ps.map (·.2.2)) st st'→Agree F W st st'→∃ st1',placeAll st' l ps = some (r.1,st1') ∧ Quiet F b st' st1'
 | [],l,st,r,_,h=>by
  simp only [placeAll,Option.some.injEq] at h
  subst h
  exact ⟨_,Quiet.refl F st,fun W st' _ _=>⟨st',rfl,Quiet.refl F st'⟩⟩
 | (off,size,x) :: ps,l,st,r,hF,h=>by
  simp only [placeAll] at h
  split at h
  ·rename_i v st1 h1
   split at h
   ·rename_i hc
    obtain ⟨b,q,k⟩ := lend_loc (hF (off,size,x) (by simp)) h1
    obtain ⟨c,q2,k2⟩ := placeAll_loc (st := st1) (fun p hp=>by rw [q.rd]; exact hF p (by simp [hp])) h
    refine ⟨_,q.trans q2,fun W st' hr ha=>?_⟩
    obtain ⟨s1,e1,p1⟩ := k W st' ha
    obtain ⟨s2,e2,p2⟩ := k2 W s1 (fun y hy=>by rw [q.rd,p1.rd]; exact hr y (by simp at hy ⊢; exact .inr hy)) (ha.quiet q p1)
    exact ⟨s2,by simp only [placeAll,hr x (by simp),e1,if_pos hc,e2],p1.trans p2⟩
   ·cases h
  ·cases h
theorem elParts_loc {s : Nat} : ∀ {ps : List (Nat × X)} {l : List MV} {st : DS} {r : List MV × DS},(∀ p ∈ ps,∀ o ∈ own1 (st.rd p.2),F o)→elParts s st l ps = some r →
  ∃ b,Quiet F b st r.2 ∧ ∀ W st',RdEq (ps.map (·.2)) st st'→Agree F W st st'→∃ st1',elParts s st' l ps = some (r.1,st1') ∧ Quiet F b st' st1'
 | [],l,st,r,_,h=>by
  simp only [elParts,Option.some.injEq] at h
  subst h
  exact ⟨_,Quiet.refl F st,fun W st' _ _=>⟨st',rfl,Quiet.refl F st'⟩⟩
 | (i,x) :: ps,l,st,r,hF,h=>by
  simp only [elParts] at h
  split at h
  ·rename_i v st1 h1
   split at h
   ·rename_i hc
    obtain ⟨b,q,k⟩ := lend_loc (hF (i,x) (by simp)) h1
    obtain ⟨c,q2,k2⟩ := elParts_loc (st := st1) (fun p hp=>by rw [q.rd]; exact hF p (by simp [hp])) h
    refine ⟨_,q.trans q2,fun W st' hr ha=>?_⟩
    obtain ⟨s1,e1,p1⟩ := k W st' ha
    obtain ⟨s2,e2,p2⟩ := k2 W s1 (fun y hy=>by rw [q.rd,p1.rd]; exact hr y (by simp at hy ⊢; exact .inr hy)) (ha.quiet q p1)
    exact ⟨s2,by simp only [elParts,hr x (by simp),e1,if_pos hc,e2],p1.trans p2⟩
   ·cases h
  ·cases h
theorem byteParts_loc : ∀ {ps : List (Nat × X)} {l : List UInt8} {st' : DS},RdEq (ps.map (·.2)) st st'→byteParts st' l ps = byteParts st l ps
 | [],l,st',_=>rfl
 | (i,x) :: ps,l,st',h=>by
  simp only [byteParts,h x (by simp)]
  split
  ·split
   ·exact byteParts_loc fun y hy=>h y (by simp at hy ⊢; exact .inr hy)
   ·rfl
  ·rfl
theorem foldMM_loc {mx : Bool} : ∀ {xs : List X} {v : MV} {st' : DS},RdEq xs st st'→foldMM mx st' v xs = foldMM mx st v xs
 | [],v,st',_=>rfl
 | x :: xs,v,st',h=>by
  simp only [foldMM,h x (by simp)]
  split
  ·exact foldMM_loc fun y hy=>h y (by simp [hy])
  ·rfl
end
end Go.Mini
namespace Go.Mini
open Go
structure Eff (F W : Nat→Prop) (nm : Nat) (K b : Nat→Bool) (M : Nat→Option Obj) (st st1 : DS) : Prop where
 KF : ∀ o,K o = true→(nm ≤ o ∧ o < nm + 4) ∨ W o
 bF : ∀ o,b o = true→F o
 O : ∀ o,look st1.O o = if K o = true then M o else lentIf (b o) (look st.O o)
 T : st1.T = st.T
 V : st1.V = st.V
def OpLoc (C : CallT) (nm : Nat) (op : MOp) (F W : Nat→Prop) (st : DS) (v : MV) : Prop :=
 ∃ K b M,∀ st',RdEq op.xs st st'→Agree F W st st'→∃ st1',dOp C nm op st' = some (v,st1') ∧ Eff F W nm K b M st' st1'
section
variable {C : CallT} {nm : Nat} {F W : Nat→Prop} {st : DS} {op : MOp} {v : MV}
theorem Quiet.eff {b} {s s1 : DS} (q : Quiet F b s s1) : Eff F W nm (fun _=>false) b (fun _=>none) s s1 :=
 ⟨fun _ h=>Bool.noConfusion h,q.bF,fun o=>by simp [q.O],q.T,q.V⟩
theorem Quiet.made {b} {s s1 : DS} (q : Quiet F b s s1) (ob : Obj) : Eff F W nm (fun o=>decide (nm = o)) b (fun _=>some ob) s { s1 with O := put s1.O nm ob } := by
 refine ⟨fun o h=>?_,q.bF,fun o=>?_,q.T,q.V⟩
 ·simp at h; subst h; exact .inl ⟨Nat.le_refl _,by omega⟩
 ·show look (put s1.O nm ob) o = _
  rw [look_put]
  by_cases ho : nm = o
  ·simp [ho]
  ·simp [ho,q.O]
theorem OpLoc.pure (h : ∀ st',RdEq op.xs st st'→Agree F W st st'→dOp C nm op st' = some (v,st')) : OpLoc C nm op F W st v :=
 ⟨_,_,_,fun st' hr ha=>⟨st',h st' hr ha,(Quiet.refl F st').eff⟩⟩
theorem OpLoc.new {ob : Obj} (h : ∀ st',RdEq op.xs st st'→Agree F W st st'→dOp C nm op st' = some (v,{ st' with O := put st'.O nm ob })) : OpLoc C nm op F W st v :=
 ⟨_,_,_,fun st' hr ha=>⟨_,h st' hr ha,(Quiet.refl F st').made ob⟩⟩
theorem OpLoc.lent {b} {s1 : DS} (_ : Quiet F b st s1) (h : ∀ st',RdEq op.xs st st'→Agree F W st st'→∃ st1',dOp C nm op st' = some (v,st1') ∧ Quiet F b st' st1') : OpLoc C nm op F W st v :=
 ⟨_,_,_,fun st' hr ha=>let ⟨s,e,q⟩ := h st' hr ha; ⟨s,e,q.eff⟩⟩
theorem OpLoc.lentNew {b} {s1 : DS} {ob : Obj} (_ : Quiet F b st s1) (h : ∀ st',RdEq op.xs st st'→Agree F W st st'→∃ st1',dOp C nm op st' = some (v,{ st1' with O := put st1'.O nm ob }) ∧ Quiet F b st' st1') : OpLoc C nm op F W st v :=
 ⟨_,_,_,fun st' hr ha=>let ⟨s,e,q⟩ := h st' hr ha; ⟨_,e,q.made ob⟩⟩
theorem Quiet.made2 {b} {s s1 : DS} (q : Quiet F b s s1) (ob ob2 : Obj) : Eff F W nm (fun o=>decide (nm = o)) b (fun _=>some ob2) s { s1 with O := put (put s1.O nm ob) nm ob2 } := by
 refine ⟨fun o h=>?_,q.bF,fun o=>?_,q.T,q.V⟩
 ·simp at h; subst h; exact .inl ⟨Nat.le_refl _,by omega⟩
 ·show look (put (put s1.O nm ob) nm ob2) o = _
  rw [look_put,look_put]
  by_cases ho : nm = o
  ·simp [ho]
  ·simp [ho,q.O]
theorem OpLoc.lentNew2 {b} {s1 : DS} {ob ob2 : Obj} (_ : Quiet F b st s1) (h : ∀ st',RdEq op.xs st st'→Agree F W st st'→∃ st1',dOp C nm op st' = some (v,{ st1' with O := put (put st1'.O nm ob) nm ob2 }) ∧ Quiet F b st' st1') : OpLoc C nm op F W st v :=
 ⟨_,_,_,fun st' hr ha=>let ⟨s,e,q⟩ := h st' hr ha; ⟨_,e,q.made2 ob ob2⟩⟩
theorem offV_loc {off : Nat} {x r : MV} {st' : DS} (hF : ∀ o ∈ x.names2,F o) (ha : Agree F W st st') (h : offV off x st = some r) : offV off x st' = some r := by
 cases x
 case ptr o j=>simp only [offV] at h ⊢; rw [ha.liveC (hF o (by simp [MV.names2,MV.names]))]; exact h
 case eptr o i j n=>simp only [offV] at h ⊢; rw [ha.live (hF o (by simp [MV.names2]))]; exact h
 all_goals exact h
theorem indexV_loc {s : Nat} {x i r : MV} {st' : DS} (hF : ∀ o ∈ x.names2,F o) (ha : Agree F W st st') (h : indexV s x i st = some r) : indexV s x i st' = some r := by
 cases i
 case int k i =>
  cases x
  case own o n=>simp only [indexV] at h ⊢; rw [ha.liveS (hF o (by simp [MV.names2,MV.names]))]; exact h
  all_goals exact h
 all_goals cases h
theorem aindexV_loc {s n : Nat} {x i r : MV} {st' : DS} (hF : ∀ o ∈ x.names2,F o) (ha : Agree F W st st') (h : aindexV s n x i st = some r) : aindexV s n x i st' = some r := by
 cases i
 case int k i =>
  simp only [aindexV] at h ⊢
  split at h
  ·rename_i hc; rw [if_pos hc]; exact offV_loc hF ha h
  ·cases h
 all_goals cases h
theorem lenV_loc {b : Bool} {x r : MV} {st' : DS} (hF : ∀ o ∈ x.names2,F o) (ha : Agree F W st st') (h : lenV b x st = some r) : lenV b x st' = some r := by
 cases b <;> cases x
 case false.own o n=>simp only [lenV] at h ⊢; rw [ha.live (hF o (by simp [MV.names2,MV.names]))]; exact h
 all_goals exact h
theorem bytesOf_loc {x : MV} {r : List UInt8} {st' : DS} (hF : ∀ o ∈ x.names2,F o) (ha : Agree F W st st') (h : bytesOf x st = some r) : bytesOf x st' = some r := by
 cases x
 case own o n =>
  simp only [bytesOf] at h ⊢
  split at h
  ·rename_i l b hl
   obtain ⟨b',hl'⟩ := ha.byt (hF o (by simp [MV.names2,MV.names])) hl
   rw [hl']; exact h
  ·cases h
 all_goals exact h
theorem elemsOf_loc {s : Nat} {x : MV} {r : List MV} {st' : DS} (hF : ∀ o ∈ x.names2,F o) (ha : Agree F W st st') (h : elemsOf s x st = some r) : elemsOf s x st' = some r := by
 cases x
 case own o n =>
  simp only [elemsOf] at h ⊢
  split at h
  ·rename_i s' l b hl
   obtain ⟨b',hl'⟩ := ha.el (hF o (by simp [MV.names2,MV.names])) hl
   rw [hl']; exact h
  ·cases h
 all_goals exact h
theorem eqV_loc {k : EqK} {x y : MV} {r : Bool} {st' : DS} (hF : ∀ o ∈ x.names2,F o) (ha : Agree F W st st') (h : eqV (fun o n=>live o n st) k x y = some r) : eqV (fun o n=>live o n st') k x y = some r := by
 unfold eqV at h ⊢
 split at h <;> first | exact h | skip
 rename_i o m
 show (if live o (m + 1) st' = true then some false else none) = some r
 rw [ha.live (hF o (by simp [MV.names2,MV.names]))]
 exact h
theorem loadV_loc {g : Bool} {s : Nat} {x : MV} {r : MV × DS} (hF : ∀ o ∈ x.names2,F o) (hF2 : ∀ o ∈ x.names2,∀ ob,look st.O o = some ob→∀ p ∈ ob.names,F p) (h : loadV g s x st = some r) :
  ∃ b,Quiet F b st r.2 ∧ ∀ st',Agree F W st st'→∃ st1',loadV g s x st' = some (r.1,st1') ∧ Quiet F b st' st1' := by
 have same : (∀ st',Agree F W st st'→loadV g s x st' = some (r.1,st'))→r.2 = st→∃ b,Quiet F b st r.2 ∧ ∀ st',Agree F W st st'→∃ st1',loadV g s x st' = some (r.1,st1') ∧ Quiet F b st' st1' := by
  intro h1 h2
  rw [h2]
  exact ⟨_,Quiet.refl F st,fun st' ha=>⟨st',h1 st' ha,Quiet.refl F st'⟩⟩
 cases x
 case ptr o j =>
  have ho : F o := hF o (by simp [MV.names2,MV.names])
  simp only [loadV] at h
  split at h
  ·rename_i l hl
   split at h
   ·rename_i hg
    split at h
    ·rename_i hj
     split at h
     ·rename_i l' st1 h1
      cases h
      obtain ⟨b,q,k⟩ := lends_loc (F := F) (fun w hw p hp=>hF2 o (by simp [MV.names2,MV.names]) _ hl p (by
       simp only [Obj.names,List.mem_flatMap]
       refine ⟨w,List.mem_of_mem_drop (List.mem_of_mem_take hw),?_⟩
       cases w <;> simp [own1] at hp
       simp [MV.names,hp])) h1
      refine ⟨b,q,fun st' ha=>?_⟩
      obtain ⟨s1,e1,p1⟩ := k W st' ha
      exact ⟨s1,by simp only [loadV,ha.cells ho hl,hg,if_true,if_pos hj,e1],p1⟩
     ·cases h
    ·cases h
   ·rename_i hg
    split at h
    ·rename_i v hv
     cases h
     exact same (fun st' ha=>by simp only [loadV,ha.cells ho hl,hg,if_false,hv,Bool.false_eq_true]) rfl
    ·cases h
  ·cases h
 case eptr o i j n =>
  have ho : F o := hF o (by simp [MV.names2])
  simp only [loadV] at h
  split at h
  ·rename_i s' l b hl
   split at h
   ·rename_i hn
    split at h
    ·rename_i e he
     split at h
     ·rename_i v hv
      cases h
      refine same (fun st' ha=>?_) rfl
      obtain ⟨b',hl'⟩ := ha.el ho hl
      simp only [loadV,hl',if_pos hn,he,hv]
     ·cases h
    ·cases h
   ·cases h
  ·rename_i l b hl
   split at h
   ·rename_i hn
    split at h
    ·rename_i e he
     cases h
     refine same (fun st' ha=>?_) rfl
     obtain ⟨b',hl'⟩ := ha.byt ho hl
     simp only [loadV,hl',if_pos hn,he]
    ·cases h
   ·cases h
  ·cases h
 case cptr l =>
  simp only [loadV] at h
  split at h
  ·rename_i v hv
   cases h
   exact same (fun st' ha=>by simp only [loadV,hv]) rfl
  ·cases h
 all_goals cases h
theorem sliceV_loc {g : Bool} {s : Nat} {x : MV} {lo hi : Option MV} {r : MV × DS} (hF : ∀ o ∈ x.names2,F o) (h : sliceV g s x lo hi st = some r) :
  ∃ b,Quiet F b st r.2 ∧ ∀ st',Agree F W st st'→∃ st1',sliceV g s x lo hi st' = some (r.1,st1') ∧ Quiet F b st' st1' := by
 have same : (∀ st',sliceV g s x lo hi st' = some (r.1,st'))→r.2 = st→∃ b,Quiet F b st r.2 ∧ ∀ st',Agree F W st st'→∃ st1',sliceV g s x lo hi st' = some (r.1,st1') ∧ Quiet F b st' st1' := by
  intro h1 h2
  rw [h2]
  exact ⟨_,Quiet.refl F st,fun st' ha=>⟨st',h1 st',Quiet.refl F st'⟩⟩
 cases g <;> cases x <;> simp only [sliceV] at h <;> try (cases h; done)
 case false.bs l =>
  split at h
  ·rename_i hs
   split at h
   ·rename_i r' hc; cases h; exact same (fun st'=>by simp only [sliceV,if_pos hs,hc]) rfl
   ·cases h
  ·cases h
 case false.sl s' l =>
  split at h
  ·rename_i hs
   split at h
   ·rename_i r' hc; cases h; exact same (fun st'=>by simp only [sliceV,if_pos hs,hc]) rfl
   ·cases h
  ·cases h
 case true.str l =>
  split at h
  ·rename_i r' hc; cases h; exact same (fun st'=>by simp only [sliceV,hc]) rfl
  ·cases h
 case false.nilsl =>
  split at h
  ·rename_i r' hc; cases h; exact same (fun st'=>by simp only [sliceV,hc]) rfl
  ·cases h
 case false.own o n =>
  have hh : ∀ p ∈ own1 (.own o n),F p := fun p hp=>hF p (by simpa [own1,MV.names2,MV.names] using hp)
  split at h
  ·rename_i l st1 h1
   obtain ⟨b,q,k⟩ := lend_loc hh h1
   split at h
   ·rename_i hs
    split at h
    ·rename_i r' hc
     cases h
     refine ⟨b,q,fun st' ha=>?_⟩
     obtain ⟨s1,e1,p1⟩ := k W st' ha
     exact ⟨s1,by simp only [sliceV,e1,if_pos hs,hc],p1⟩
    ·cases h
   ·cases h
  ·rename_i s' l st1 h1
   obtain ⟨b,q,k⟩ := lend_loc hh h1
   split at h
   ·rename_i hs
    split at h
    ·rename_i r' hc
     cases h
     refine ⟨b,q,fun st' ha=>?_⟩
     obtain ⟨s1,e1,p1⟩ := k W st' ha
     exact ⟨s1,by simp only [sliceV,e1,if_pos hs,hc],p1⟩
    ·cases h
   ·cases h
  ·cases h
end
end Go.Mini
namespace Go.Mini
open Go
section
variable {C : CallT} {nm : Nat} {F W : Nat→Prop} {st : DS} {op : MOp} {v : MV}
theorem own1_names2 {v : MV} {o : Nat} (h : o ∈ own1 v) : o ∈ v.names2 := by
 cases v <;> simp [own1] at h
 simp [MV.names2,MV.names,h]
theorem storeV_loc {size : Nat} {p x v : MV} {r : DS} (hF : ∀ o ∈ own1 x,F o) (hW : ∀ o ∈ p.names2,W o) (h : storeV size p x st = some (v,r)) :
  ∃ K b M,∀ st',Agree F W st st'→∃ st1',storeV size p x st' = some (v,st1') ∧ Eff F W nm K b M st' st1' := by
 have put1 : ∀ {b} {s s1 : DS} {o : Nat} (ob : Obj),W o→Quiet F b s s1→Eff F W nm (fun p=>decide (o = p)) b (fun _=>some ob) s { s1 with O := put s1.O o ob } := by
  intro b s s1 o ob hw q
  refine ⟨fun p hp=>?_,q.bF,fun p=>?_,q.T,q.V⟩
  ·simp at hp; subst hp; exact .inr hw
  ·show look (put s1.O o ob) p = _
   rw [look_put]
   by_cases ho : o = p
   ·simp [ho]
   ·simp [ho,q.O]
 cases p
 case ptr o j =>
  have hw : W o := hW o (by simp [MV.names2,MV.names])
  simp only [storeV] at h
  split at h
  ·rename_i l hl
   split at h
   ·rename_i hc
    cases h
    refine ⟨_,_,_,fun st' ha=>⟨_,?_,put1 (.cells (setCells l j x.cells)) hw (Quiet.refl F st')⟩⟩
    rw [ha.W o hw] at hl
    simp only [storeV,hl,if_pos hc]
   ·cases h
  ·cases h
 case eptr o i j n =>
  have hw : W o := hW o (by simp [MV.names2])
  simp only [storeV] at h
  split at h
  ·rename_i v' st1 h1
   obtain ⟨b,q,k⟩ := lend_loc (F := F) hF h1
   split at h
   ·rename_i s l hl
    split at h
    ·rename_i e he
     split at h
     ·rename_i hc
      cases h
      refine ⟨fun p=>decide (o = p),b,fun _=>some (.el s (l.set i (if s = 1 then v' else .agg (setCells e.cells j v'.cells))) false),fun st' ha=>?_⟩
      obtain ⟨s1,e1,p1⟩ := k W st' ha
      refine ⟨_,?_,put1 (.el s (l.set i (if s = 1 then v' else .agg (setCells e.cells j v'.cells))) false) hw p1⟩
      have hl' := hl
      rw [(ha.quiet q p1).W o hw] at hl'
      simp only [storeV,e1,hl',he,if_pos hc]
     ·cases h
    ·cases h
   ·rename_i l hl
    split at h
    ·rename_i bb hb
     split at h
     ·rename_i hc
      cases h
      refine ⟨fun p=>decide (o = p),b,fun _=>some (.byt (l.set i bb) false),fun st' ha=>?_⟩
      obtain ⟨s1,e1,p1⟩ := k W st' ha
      refine ⟨_,?_,put1 (.byt (l.set i bb) false) hw p1⟩
      have hl' := hl
      rw [(ha.quiet q p1).W o hw] at hl'
      simp only [storeV,e1,hl',hb,if_pos hc]
     ·cases h
    ·cases h
   ·cases h
  ·cases h
 all_goals cases h
theorem swapped {s : DS} {o nm : Nat} (ob : Obj) (hw : W o) : Eff F W nm (fun p=>decide (nm = p) || decide (o = p)) (fun _=>false) (fun p=>if nm = p then some ob else none) s { s with O := put (drop s.O o) nm ob } := by
 refine ⟨fun p hp=>?_,fun _ h=>Bool.noConfusion h,fun p=>?_,rfl,rfl⟩
 ·simp at hp
  rcases hp with rfl | rfl
  ·exact .inl ⟨Nat.le_refl _,by omega⟩
  ·exact .inr hw
 ·show look (put (drop s.O o) nm ob) p = _
  rw [look_put,look_drop]
  by_cases h1 : nm = p
  ·simp [h1]
  ·by_cases h2 : o = p
   ·simp [h1,h2]
   ·simp [h1,h2,lentIf]
theorem appB_loc {w : Nat} {d x v : MV} {r : DS} (hF : ∀ o ∈ x.names2,F o) (hW : ∀ o ∈ d.names2,W o) (h : appB nm w d x st = some (v,r)) :
  ∃ K b M,∀ st',Agree F W st st'→∃ st1',appB nm w d x st' = some (v,st1') ∧ Eff F W nm K b M st' st1' := by
 unfold appB at h
 split at h
 ·cases h
 ·rename_i xs hxs
  split at h
  ·split at h
   ·rename_i hc
    cases h
    refine ⟨_,_,_,fun st' ha=>⟨_,?_,(Quiet.refl F st').made (.byt xs false)⟩⟩
    simp only [appB,bytesOf_loc hF ha hxs,if_pos hc]
   ·cases h
  ·rename_i o n
   have hw : W o := hW o (by simp [MV.names2,MV.names])
   split at h
   ·rename_i l b hl
    split at h
    ·rename_i hc
     cases h
     refine ⟨_,_,_,fun st' ha=>⟨_,?_,swapped (.byt (l ++ xs) b) hw⟩⟩
     rw [ha.W o hw] at hl
     simp only [appB,bytesOf_loc hF ha hxs,hl,if_pos hc]
    ·cases h
   ·cases h
  ·cases h
theorem appE_loc {s w : Nat} {d x v : MV} {r : DS} (hF : ∀ o ∈ x.names2,F o) (hW : ∀ o ∈ d.names2,W o) (h : appE nm s w d x st = some (v,r)) :
  ∃ K b M,∀ st',Agree F W st st'→∃ st1',appE nm s w d x st' = some (v,st1') ∧ Eff F W nm K b M st' st1' := by
 unfold appE at h
 split at h
 ·cases h
 ·rename_i xs hxs
  split at h
  ·split at h
   ·rename_i hc
    cases h
    refine ⟨_,_,_,fun st' ha=>⟨_,?_,(Quiet.refl F st').made (.el s xs false)⟩⟩
    simp only [appE,elemsOf_loc hF ha hxs,if_pos hc]
   ·cases h
  ·rename_i o n
   have hw : W o := hW o (by simp [MV.names2,MV.names])
   split at h
   ·rename_i s' l b hl
    split at h
    ·rename_i hc
     cases h
     refine ⟨_,_,_,fun st' ha=>⟨_,?_,swapped (.el s (l ++ xs) b) hw⟩⟩
     rw [ha.W o hw] at hl
     simp only [appE,elemsOf_loc hF ha hxs,hl,if_pos hc]
    ·cases h
   ·cases h
  ·rename_i s' l
   split at h
   ·rename_i hc
    cases h
    refine ⟨_,_,_,fun st' ha=>⟨_,?_,(Quiet.refl F st').made (.el s (l ++ xs) false)⟩⟩
    simp only [appE,elemsOf_loc hF ha hxs,if_pos hc]
   ·cases h
  ·cases h
theorem inst_loc (n : Nat) (v : MV) : ∃ (u : MV) (K : Nat→Bool) (M : Nat→Option Obj),(∀ o,K o = true→o = n) ∧ ∀ s : DS,(inst n v s).1 = u ∧ (inst n v s).2.T = s.T ∧ (inst n v s).2.V = s.V ∧ ∀ o,look (inst n v s).2.O o = if K o = true then M o else look s.O o := by
 have none : (∀ s,inst n v s = (v,s))→∃ (u : MV) (K : Nat→Bool) (M : Nat→Option Obj),(∀ o,K o = true→o = n) ∧ ∀ s : DS,(inst n v s).1 = u ∧ (inst n v s).2.T = s.T ∧ (inst n v s).2.V = s.V ∧ ∀ o,look (inst n v s).2.O o = if K o = true then M o else look s.O o :=
  fun h=>⟨v,fun _=>false,fun _=>Option.none,fun _ h=>Bool.noConfusion h,fun s=>by rw [h]; exact ⟨rfl,rfl,rfl,fun o=>rfl⟩⟩
 cases v
 case fby l =>
  refine ⟨.own n l.length,fun o=>decide (n = o),fun _=>some (.byt l false),fun o h=>by simp at h; exact h.symm,fun s=>⟨rfl,rfl,rfl,fun o=>?_⟩⟩
  show look (put s.O n (.byt l false)) o = _
  rw [look_put]
  by_cases h : n = o <;> simp [h]
 case fel k l =>
  refine ⟨.own n l.length,fun o=>decide (n = o),fun _=>some (.el k l false),fun o h=>by simp at h; exact h.symm,fun s=>⟨rfl,rfl,rfl,fun o=>?_⟩⟩
  show look (put s.O n (.el k l false)) o = _
  rw [look_put]
  by_cases h : n = o <;> simp [h]
 all_goals exact none fun s=>rfl
theorem insts_loc : ∀ (l : List MV) (n : Nat),∃ (u : List MV) (K : Nat→Bool) (M : Nat→Option Obj),(∀ o,K o = true→n ≤ o ∧ o < n + l.length) ∧ ∀ s : DS,(insts n l s).1 = u ∧ (insts n l s).2.T = s.T ∧ (insts n l s).2.V = s.V ∧ ∀ o,look (insts n l s).2.O o = if K o = true then M o else look s.O o
 | [],n=>⟨[],fun _=>false,fun _=>none,fun _ h=>Bool.noConfusion h,fun s=>⟨rfl,rfl,rfl,fun o=>rfl⟩⟩
 | v :: l,n=>by
  obtain ⟨u,K,M,h1,h2⟩ := inst_loc n v
  obtain ⟨us,K',M',h3,h4⟩ := insts_loc l (n + 1)
  refine ⟨u :: us,fun o=>K' o || K o,fun o=>if K' o = true then M' o else M o,fun o ho=>?_,fun s=>?_⟩
  ·simp only [Bool.or_eq_true] at ho
   simp only [List.length_cons]
   rcases ho with ho | ho
   ·have := h3 o ho; omega
   ·have := h1 o ho; omega
  ·obtain ⟨a1,a2,a3,a4⟩ := h2 s
   obtain ⟨b1,b2,b3,b4⟩ := h4 (inst n v s).2
   refine ⟨by simp only [insts]; rw [a1,b1],b2.trans a2,b3.trans a3,fun o=>?_⟩
   show look (insts (n + 1) l (inst n v s).2).2.O o = _
   rw [b4,a4]
   cases h5 : K' o <;> simp [h5]
theorem instR_loc (n : Nat) (v : MV) (hw : v.width ≤ 4) : ∃ (u : MV) (K : Nat→Bool) (M : Nat→Option Obj),(∀ o,K o = true→n ≤ o ∧ o < n + 4) ∧ ∀ s : DS,(instR n v s).1 = u ∧ (instR n v s).2.T = s.T ∧ (instR n v s).2.V = s.V ∧ ∀ o,look (instR n v s).2.O o = if K o = true then M o else look s.O o := by
 by_cases ht : ∃ l,v = .tup l
 ·obtain ⟨l,rfl⟩ := ht
  obtain ⟨u,K,M,h1,h2⟩ := insts_loc l n
  have hw : l.length ≤ 4 := hw
  refine ⟨.tup u,K,M,fun o ho=>by have := h1 o ho; omega,fun s=>?_⟩
  obtain ⟨a,b,c,d⟩ := h2 s
  exact ⟨by simp only [instR]; rw [a],b,c,d⟩
 ·obtain ⟨u,K,M,h1,h2⟩ := inst_loc n v
  have e : ∀ s,instR n v s = inst n v s := fun s=>by cases v <;> first | rfl | exact (ht ⟨_,rfl⟩).elim
  refine ⟨u,K,M,fun o ho=>by have := h1 o ho; omega,fun s=>?_⟩
  rw [e]; exact h2 s
theorem dCall_loc {f : FuncId} {args : List MV} {r : DS} (hF : ∀ x ∈ args,∀ o ∈ own1 x,F o) (h : dCall C nm f args st = some (v,r)) :
  ∃ K b M,∀ st',Agree F W st st'→∃ st1',dCall C nm f args st' = some (v,st1') ∧ Eff F W nm K b M st' st1' := by
 unfold dCall at h
 split at h
 ·rename_i as st1 h1
  split at h
  ·rename_i y hy
   split at h
   ·rename_i hw
    obtain ⟨b,q,k⟩ := lends_loc hF h1
    obtain ⟨u,K,M,h2,h3⟩ := instR_loc nm y hw
    simp only [Option.some.injEq] at h
    have hu : u = v := by rw [← (h3 st1).1,h]
    refine ⟨K,b,M,fun st' ha=>?_⟩
    obtain ⟨s1,e1,p1⟩ := k W st' ha
    obtain ⟨a1,a2,a3,a4⟩ := h3 s1
    refine ⟨(instR nm y s1).2,?_,⟨fun o ho=>.inl (h2 o ho),p1.bF,fun o=>by rw [a4,p1.O],a2.trans p1.T,a3.trans p1.V⟩⟩
    simp only [dCall,e1,hy,if_pos hw]
    rw [← hu,← a1]
   ·cases h
  ·cases h
 ·cases h
theorem mem_nub {a : Nat} : ∀ {l acc : List Nat},a ∈ nub acc l ↔ a ∈ acc ∨ a ∈ l
 | [],acc=>by simp [nub]
 | b :: l,acc=>by
  simp only [nub]
  split
  ·rename_i hb
   rw [has_iff] at hb
   rw [mem_nub]
   constructor
   ·rintro (h | h)
    ·exact .inl h
    ·exact .inr (by simp [h])
   ·rintro (h | h)
    ·exact .inl h
    ·rcases List.mem_cons.1 h with rfl | h
     ·exact .inl hb
     ·exact .inr h
  ·rw [mem_nub]
   simp only [List.mem_cons]
   constructor
   ·rintro ((h | h) | h)
    ·exact .inr (.inl h)
    ·exact .inl h
    ·exact .inr (.inr h)
   ·rintro (h | h | h)
    ·exact .inl (.inr h)
    ·exact .inl (.inl h)
    ·exact .inr h
theorem reach_sub {O : List (Nat × Obj)} {a : Nat} : ∀ (n : Nat) {l : List Nat},a ∈ l→a ∈ reach O n l
 | 0,_,h=>h
 | n + 1,l,h=>reach_sub n (mem_nub.2 (.inr (List.mem_append_left _ h)))
theorem reach_eq {O O' : List (Nat × Obj)} : ∀ (n : Nat) {l : List Nat},(∀ o ∈ reach O n l,look O' o = look O o)→reach O' n l = reach O n l
 | 0,_,_=>rfl
 | n + 1,l,h=>by
  have e : l.flatMap (inner O') = l.flatMap (inner O) := by
   have hin : ∀ a ∈ l,inner O' a = inner O a := fun a ha=>by
    unfold inner
    rw [h a (reach_sub (n + 1) ha)]
   clear h
   induction l with
   | nil=>rfl
   | cons a l ih=>rw [List.flatMap_cons,List.flatMap_cons,hin a (by simp),ih fun b hb=>hin b (by simp [hb])]
  simp only [reach] at h ⊢
  rw [e]
  exact reach_eq n h
theorem shared_eq {vs : List MV} {st st' : DS} (h : ∀ o ∈ shared vs st,look st'.O o = look st.O o) : shared vs st' = shared vs st := reach_eq 5 h
theorem objsOf_eq {O O' : List (Nat × Obj)} : ∀ {l : List Nat},(∀ o ∈ l,look O' o = look O o)→objsOf O' l = objsOf O l
 | [],_=>rfl
 | a :: l,h=>by
  have := objsOf_eq (O := O) (O' := O') (l := l) (fun o ho=>h o (List.mem_cons_of_mem _ ho))
  simp only [objsOf,h a (List.mem_cons_self ..),this]
theorem putBack_same {f : Nat→Nat} {p : Nat} : ∀ {L : List (Option Obj)} {j : Nat} {O O' : List (Nat × Obj)},(∃ i,i < L.length ∧ f (j + i) = p)→look (putBack f j L O) p = look (putBack f j L O') p
 | [],j,O,O',⟨i,hi,_⟩=>by simp at hi
 | x :: L,j,O,O',⟨i,hi,e⟩=>by
  by_cases hr : ∃ i,i < L.length ∧ f (j + 1 + i) = p
  ·cases x with
   | some x=>simp only [putBack]; exact putBack_same hr
   | none=>simp only [putBack]; exact putBack_same hr
  ·have hr : ∀ i,i < L.length→f (j + 1 + i) ≠ p := fun i hi e=>hr ⟨i,hi,e⟩
   have h0 : f j = p := by
    cases i with
    | zero=>exact e
    | succ i=>exact (hr i (by simpa using hi) (by rw [show j + 1 + i = j + (i + 1) by omega]; exact e)).elim
   cases x with
   | some x=>simp only [putBack]; rw [putBack_out hr,putBack_out hr,look_put,look_put,if_pos h0,if_pos h0]
   | none=>simp only [putBack]; rw [putBack_out hr,putBack_out hr,look_drop,look_drop,if_pos h0,if_pos h0]
theorem dCallH_loc {f : FuncId} {vs : List MV} {r : DS} (hW : ∀ o ∈ shared vs st,W o) (h : dCallH C nm f vs st = some (v,r)) :
  ∃ K b M,∀ st',Agree F W st st'→∃ st1',dCallH C nm f vs st' = some (v,st1') ∧ Eff F W nm K b M st' st1' := by
 unfold dCallH at h
 split at h
 ·rename_i objs hO
  split at h
  ·rename_i y L hy
   split at h
   ·rename_i hlen
    obtain ⟨rfl,rfl⟩ : _ = v ∧ _ = r := by simpa using h
    refine ⟨fun o=>(List.range L.length).any fun i=>nameB (shared vs st) nm i == o,fun _=>false,fun o=>look (putBack (nameB (shared vs st) nm) 0 L st.O) o,fun st' ha=>?_⟩
    have hl : ∀ o ∈ shared vs st,look st'.O o = look st.O o := fun o ho=>(ha.W o (hW o ho)).symm
    have es := shared_eq hl
    refine ⟨{ st' with O := putBack (nameB (shared vs st) nm) 0 L st'.O },?_,?_⟩
    ·unfold dCallH
     rw [es,objsOf_eq hl,hO]
     simp only [hy]
     rw [if_pos hlen]
    ·refine ⟨fun o ho=>?_,fun _ hb=>Bool.noConfusion hb,fun o=>?_,rfl,rfl⟩
     ·simp only [List.any_eq_true,List.mem_range,beq_iff_eq] at ho
      obtain ⟨i,hi,rfl⟩ := ho
      unfold nameB
      split
      ·rename_i o hg; exact .inr (hW o (List.mem_of_getElem? hg))
      ·rename_i hg
       have : (shared vs st).length ≤ i := by simpa using hg
       exact .inl ⟨by omega,by omega⟩
     ·show look (putBack (nameB (shared vs st) nm) 0 L st'.O) o = _
      split
      ·rename_i ho
       simp only [List.any_eq_true,List.mem_range,beq_iff_eq] at ho
       obtain ⟨i,hi,e⟩ := ho
       exact putBack_same ⟨i,hi,by rw [Nat.zero_add]; exact e⟩
      ·rename_i ho
       rw [putBack_out fun i hi e=>ho (by
        simp only [List.any_eq_true,List.mem_range,beq_iff_eq]
        exact ⟨i,hi,by rw [Nat.zero_add] at e; exact e⟩)]
       rfl
   ·cases h
  ·cases h
 ·cases h
theorem own1_pure {v : MV} (h : v.pureHead = true) : own1 v = [] := by
 cases v <;> first | rfl | cases h
theorem nms_eq (hm : ∀ y,op ≠ .mv y) : op.nms st = op.xs.flatMap fun x=>(st.rd x).names2 := by
 cases op <;> first | rfl | exact absurd rfl (hm _)
theorem foot_names {x : X} (hx : x ∈ op.xs) {o : Nat} (ho : o ∈ (st.rd x).names2) (hm : ∀ y,op ≠ .mv y := by intro y h; cases h) : o ∈ foot op st := by
 unfold foot
 rw [nms_eq hm]
 exact List.mem_append_left _ (List.mem_append_left _ (List.mem_flatMap.2 ⟨x,hx,ho⟩))
theorem foot_inner {x : X} (hx : x ∈ op.xs) {o : Nat} (ho : o ∈ (st.rd x).names2) {ob : Obj} (hob : look st.O o = some ob) {p : Nat} (hp : p ∈ ob.names) (hm : ∀ y,op ≠ .mv y := by intro y h; cases h) : p ∈ foot op st := by
 unfold foot
 rw [nms_eq hm]
 exact List.mem_append_left _ (List.mem_append_right _ (List.mem_flatMap.2 ⟨o,List.mem_flatMap.2 ⟨x,hx,ho⟩,by rw [hob]; exact hp⟩))
set_option maxHeartbeats 1000000 in
theorem dOp_loc {r : DS} (h : dOp C nm op st = some (v,r)) : OpLoc C nm op (fun o=>o ∈ foot op st) (fun o=>o ∈ loud op st) st v := by
 by_cases hm : ∃ y,op = .mv y
 ·obtain ⟨y,rfl⟩ := hm
  cases h
  exact .pure fun st' hr ha=>by simp only [dOp,hr y (by simp [MOp.xs])]
 have hmv : ∀ y,op ≠ .mv y := fun y e=>hm ⟨y,e⟩
 have fn : ∀ {x : X},x ∈ op.xs→∀ o ∈ (st.rd x).names2,o ∈ foot op st := fun hx o ho=>foot_names hx ho hmv
 have f1 : ∀ {x : X},x ∈ op.xs→∀ o ∈ own1 (st.rd x),o ∈ foot op st := fun hx o ho=>foot_names hx (own1_names2 ho) hmv
 cases op with
 | mv x=>exact absurd rfl (hmv x)
 | pick c a b =>
  simp only [dOp] at h
  split at h
  ·rename_i t ht
   cases h
   refine .pure fun st' hr ha=>?_
   simp only [dOp,hr c (by simp [MOp.xs]),hr a (by simp [MOp.xs]),hr b (by simp [MOp.xs]),ht]
  ·cases h
 | box x =>
  simp only [dOp] at h
  split at h
  ·rename_i hc
   cases h
   refine .new (ob := .cells (st.rd x).cells) fun st' hr ha=>?_
   simp only [dOp,hr x (by simp [MOp.xs]),if_pos hc]
  ·cases h
 | alloc z =>
  cases h
  exact .new (ob := .cells z) fun st' hr ha=>rfl
 | build z ps =>
  simp only [dOp] at h
  split at h
  ·rename_i l st1 h1
   cases h
   obtain ⟨b,q,k⟩ := placeAll_loc (F := fun o=>o ∈ foot (.build z ps) st) (fun p hp=>f1 (by simp only [MOp.xs,List.mem_map]; exact ⟨p,hp,rfl⟩)) h1
   refine .lent q fun st' hr ha=>?_
   obtain ⟨s1,e1,p1⟩ := k _ st' hr ha
   exact ⟨s1,by simp only [dOp,e1],p1⟩
  ·cases h
 | bslB n ps =>
  simp only [dOp] at h
  split at h
  ·rename_i l h1
   cases h
   refine .new (ob := .byt l false) fun st' hr ha=>?_
   simp only [dOp,byteParts_loc (st := st) hr,h1]
  ·cases h
 | bslE s z n ps =>
  simp only [dOp] at h
  split at h
  ·rename_i l st1 h1
   cases h
   obtain ⟨b,q,k⟩ := elParts_loc (F := fun o=>o ∈ foot (.bslE s z n ps) st) (fun p hp=>f1 (by simp only [MOp.xs,List.mem_map]; exact ⟨p,hp,rfl⟩)) h1
   refine .lentNew (ob := .el s l false) q fun st' hr ha=>?_
   obtain ⟨s1,e1,p1⟩ := k _ st' hr ha
   exact ⟨s1,by simp only [dOp,e1],p1⟩
  ·cases h
 | bslF s z n ps =>
  simp only [dOp] at h
  split at h
  ·rename_i l st1 h1
   cases h
   obtain ⟨b,q,k⟩ := elParts_loc (F := fun o=>o ∈ foot (.bslF s z n ps) st) (fun p hp=>f1 (by simp only [MOp.xs,List.mem_map]; exact ⟨p,hp,rfl⟩)) h1
   refine .lentNew2 (ob := .el s l false) (ob2 := .el s l true) q fun st' hr ha=>?_
   obtain ⟨s1,e1,p1⟩ := k _ st' hr ha
   exact ⟨s1,by simp only [dOp,e1],p1⟩
  ·cases h
 | load g s x =>
  have hx : x ∈ (MOp.load g s x).xs := by simp [MOp.xs]
  obtain ⟨b,q,k⟩ := loadV_loc (F := fun o=>o ∈ foot (.load g s x) st) (W := fun o=>o ∈ loud (.load g s x) st) (fn hx) (fun o ho ob hob p hp=>foot_inner hx ho hob hp) h
  refine .lent q fun st' hr ha=>?_
  obtain ⟨s1,e1,p1⟩ := k st' ha
  exact ⟨s1,by simp only [dOp,hr x hx,e1],p1⟩
 | store s x y =>
  have hx : x ∈ (MOp.store s x y).xs := by simp [MOp.xs]
  have hy : y ∈ (MOp.store s x y).xs := by simp [MOp.xs]
  obtain ⟨K,b,M,k⟩ := storeV_loc (nm := nm) (F := fun o=>o ∈ foot (.store s x y) st) (W := fun o=>o ∈ loud (.store s x y) st) (f1 hy) (fun o ho=>ho) h
  refine ⟨K,b,M,fun st' hr ha=>?_⟩
  obtain ⟨s1,e1,p1⟩ := k st' ha
  exact ⟨s1,by simp only [dOp,hr x hx,hr y hy,e1],p1⟩
 | bin o x y =>
  simp only [dOp] at h
  split at h
  ·rename_i r hr'
   cases h
   refine .pure fun st' hr ha=>?_
   simp only [dOp,hr x (by simp [MOp.xs]),hr y (by simp [MOp.xs]),hr']
  ·cases h
 | eqs k n x y =>
  simp only [dOp] at h
  split at h
  ·rename_i r hr'
   cases h
   refine .pure fun st' hr ha=>?_
   have hx : x ∈ (MOp.eqs k n x y).xs := by simp [MOp.xs]
   simp only [dOp,hr x hx,hr y (by simp [MOp.xs]),eqV_loc (fn hx) ha hr']
  ·cases h
 | un o x =>
  simp only [dOp] at h
  split at h
  ·rename_i r hr'
   cases h
   refine .pure fun st' hr ha=>?_
   simp only [dOp,hr x (by simp [MOp.xs]),hr']
  ·cases h
 | conv k x =>
  simp only [dOp] at h
  split at h
  ·rename_i q n hq
   cases h
   refine .pure fun st' hr ha=>?_
   simp only [dOp,hr x (by simp [MOp.xs]),hq]
  ·cases h
 | same x =>
  simp only [dOp] at h
  split at h
  ·rename_i q hq
   cases h
   refine .pure fun st' hr ha=>?_
   simp only [dOp,hr x (by simp [MOp.xs]),hq]
  ·cases h
 | s2b x =>
  simp only [dOp] at h
  split at h
  ·rename_i q hq
   cases h
   refine .new (ob := .byt q false) fun st' hr ha=>?_
   simp only [dOp,hr x (by simp [MOp.xs]),hq]
  ·cases h
 | b2s x =>
  simp only [dOp] at h
  split at h
  ·cases h
  ·rename_i hne
   split at h
   ·rename_i q hq
    cases h
    refine .pure fun st' hr ha=>?_
    have hx : x ∈ (MOp.b2s x).xs := by simp [MOp.xs]
    simp only [dOp,hr x hx,bytesOf_loc (fn hx) ha hq]
   ·cases h
 | i2s x =>
  simp only [dOp] at h
  split at h
  ·rename_i q n hq
   split at h
   ·rename_i hn
    cases h
    refine .pure fun st' hr ha=>?_
    simp only [dOp,hr x (by simp [MOp.xs]),hq,if_pos hn]
   ·cases h
  ·cases h
 | bad=>cases h
 | rng x =>
  simp only [dOp] at h
  split at h
  ·rename_i q hq
   cases h
   refine .new (ob := .iter q 0) fun st' hr ha=>?_
   simp only [dOp,hr x (by simp [MOp.xs]),hq]
  ·cases h
 | nilck x =>
  have hx : x ∈ (MOp.nilck x).xs := by simp [MOp.xs]
  simp only [dOp] at h
  split at h
  ·rename_i q j hq
   split at h
   ·rename_i hl
    cases h
    refine .pure fun st' hr ha=>?_
    have hl' : liveC q st' = true := (ha.liveC (fn hx q (by rw [hq]; simp [MV.names2,MV.names]))).trans hl
    simp only [dOp,hr x hx,hq,hl',if_true]
   ·cases h
  ·rename_i l hq
   cases h
   exact .pure fun st' hr ha=>by simp only [dOp,hr x hx,hq]
  ·rename_i f caps hq
   cases h
   exact .pure fun st' hr ha=>by simp only [dOp,hr x hx,hq]
  ·cases h
 | nxt x =>
  have hx : x ∈ (MOp.nxt x).xs := by simp [MOp.xs]
  simp only [dOp] at h
  split at h
  ·rename_i q hq
   have hw : q ∈ loud (.nxt x) st := by simp [loud,hq,MV.names2,MV.names]
   split at h
   ·rename_i s pos hl
    split at h
    ·rename_i hp
     cases h
     refine ⟨fun p=>decide (q = p),fun _=>false,fun _=>some (.iter s (pos + (Utf8.decode ⟨s.toArray⟩ pos).2)),fun st' hr ha=>?_⟩
     have hl' := hl
     rw [ha.W q hw] at hl'
     refine ⟨{ st' with O := put st'.O q (.iter s (pos + (Utf8.decode ⟨s.toArray⟩ pos).2)) },by simp only [dOp,hr x hx,hq,hl',if_pos hp],?_⟩
     refine ⟨fun p hp=>?_,fun _ h=>Bool.noConfusion h,fun p=>?_,rfl,rfl⟩
     ·simp at hp; subst hp; exact .inr hw
     ·show look (put st'.O q _) p = _
      rw [look_put]
      by_cases ho : q = p
      ·simp [ho]
      ·simp [ho,lentIf]
    ·rename_i hp
     cases h
     refine .pure fun st' hr ha=>?_
     have hl' := hl
     rw [ha.W q hw] at hl'
     simp only [dOp,hr x hx,hq,hl',if_neg hp]
   ·cases h
  ·cases h
 | mark x =>
  simp only [dOp] at h
  split at h
  ·rename_i p n hp
   split at h
   ·rename_i l bb hl
    split at h
    ·rename_i hc
     cases h
     refine .pure fun st' hr ha=>?_
     have hx : x ∈ (MOp.mark x).xs := by simp [MOp.xs]
     obtain ⟨b',hl'⟩ := ha.byt (fn hx p (by rw [hp]; simp [MV.names2,MV.names])) hl
     simp only [dOp,hr x hx,hp,hl',if_pos hc]
    ·cases h
   ·cases h
  ·cases h
 | fad off x =>
  simp only [dOp] at h
  split at h
  ·rename_i r hr'
   cases h
   refine .pure fun st' hr ha=>?_
   have hx : x ∈ (MOp.fad off x).xs := by simp [MOp.xs]
   have := offV_loc (fn hx) ha hr'
   simp only [dOp,hr x hx,fieldV,this]
  ·cases h
 | fld g off s x =>
  simp only [dOp] at h
  split at h
  ·rename_i l hl
   split at h
   ·rename_i r hr'
    cases h
    refine .pure fun st' hr ha=>?_
    simp only [dOp,hr x (by simp [MOp.xs]),hl,hr']
   ·cases h
  ·cases h
 | iad s x i =>
  simp only [dOp] at h
  split at h
  ·rename_i r hr'
   cases h
   refine .pure fun st' hr ha=>?_
   have hx : x ∈ (MOp.iad s x i).xs := by simp [MOp.xs]
   simp only [dOp,hr x hx,hr i (by simp [MOp.xs]),indexV_loc (fn hx) ha hr']
  ·cases h
 | aad s n x i =>
  simp only [dOp] at h
  split at h
  ·rename_i r hr'
   cases h
   refine .pure fun st' hr ha=>?_
   have hx : x ∈ (MOp.aad s n x i).xs := by simp [MOp.xs]
   simp only [dOp,hr x hx,hr i (by simp [MOp.xs]),aindexV_loc (fn hx) ha hr']
  ·cases h
 | idxS x i =>
  simp only [dOp] at h
  split at h
  ·rename_i l k n hl hk
   split at h
   ·rename_i hc
    cases h
    refine .pure fun st' hr ha=>?_
    simp only [dOp,hr x (by simp [MOp.xs]),hr i (by simp [MOp.xs]),hl,hk,if_pos hc]
   ·cases h
  ·cases h
 | idxA g s n x i =>
  simp only [dOp] at h
  split at h
  ·rename_i l k m hl hk
   split at h
   ·rename_i hc
    split at h
    ·rename_i r hr'
     cases h
     refine .pure fun st' hr ha=>?_
     simp only [dOp,hr x (by simp [MOp.xs]),hr i (by simp [MOp.xs]),hl,hk,if_pos hc,hr']
    ·cases h
   ·cases h
  ·cases h
 | slc g s x lo hi =>
  have hx : x ∈ (MOp.slc g s x lo hi).xs := by simp [MOp.xs]
  obtain ⟨b,q,k⟩ := sliceV_loc (F := fun o=>o ∈ foot (.slc g s x lo hi) st) (W := fun o=>o ∈ loud (.slc g s x lo hi) st) (fn hx) h
  refine .lent q fun st' hr ha=>?_
  obtain ⟨s1,e1,p1⟩ := k st' ha
  have h1 : lo.map st'.rd = lo.map st.rd := by
   cases lo with
   | none=>rfl
   | some y=>exact congrArg some (hr y (by simp [MOp.xs,optX]))
  have h2 : hi.map st'.rd = hi.map st.rd := by
   cases hi with
   | none=>rfl
   | some y=>exact congrArg some (hr y (by simp [MOp.xs,optX]))
  exact ⟨s1,by simp only [dOp,hr x hx,h1,h2,e1],p1⟩
 | cutF s x y z =>
  have hx : x ∈ (MOp.cutF s x y z).xs := by simp [MOp.xs]
  simp only [dOp,sliceF] at h
  split at h
  ·rename_i s' l st1 hsl
   split at h
   ·rename_i k n k' n' e1 e2
    split at h
    ·rename_i hc
     cases h
     obtain ⟨b,q,k⟩ := sliceV_loc (F := fun o=>o ∈ foot (.cutF s x y z) st) (W := fun o=>o ∈ loud (.cutF s x y z) st) (fn hx) hsl
     refine .lent q fun st' hr ha=>?_
     obtain ⟨s1,e3,p1⟩ := k st' ha
     exact ⟨s1,by simp only [dOp,sliceF,hr x hx,hr y (by simp [MOp.xs]),hr z (by simp [MOp.xs]),e1,e2,e3,if_pos hc],p1⟩
    ·cases h
   ·cases h
  ·rename_i l st1 hsl
   split at h
   ·rename_i k n k' n' e1 e2
    split at h
    ·rename_i hc
     cases h
     obtain ⟨b,q,k⟩ := sliceV_loc (F := fun o=>o ∈ foot (.cutF s x y z) st) (W := fun o=>o ∈ loud (.cutF s x y z) st) (fn hx) hsl
     refine .lent q fun st' hr ha=>?_
     obtain ⟨s1,e3,p1⟩ := k st' ha
     exact ⟨s1,by simp only [dOp,sliceF,hr x hx,hr y (by simp [MOp.xs]),hr z (by simp [MOp.xs]),e1,e2,e3,if_pos hc],p1⟩
    ·cases h
   ·cases h
  ·cases h
 | ext i x =>
  simp only [dOp] at h
  split at h
  ·rename_i l hl
   split at h
   ·rename_i r hr'
    cases h
    refine .pure fun st' hr ha=>?_
    simp only [dOp,hr x (by simp [MOp.xs]),hl,hr']
   ·cases h
  ·cases h
 | call f args =>
  obtain ⟨K,b,M,k⟩ := dCall_loc (F := fun o=>o ∈ foot (.call f args) st) (W := fun o=>o ∈ loud (.call f args) st) (fun x hx=>by
   obtain ⟨y,hy,rfl⟩ := List.mem_map.1 hx
   exact f1 (by simpa [MOp.xs] using hy)) h
  refine ⟨K,b,M,fun st' hr ha=>?_⟩
  obtain ⟨s1,e1,p1⟩ := k st' ha
  have : args.map st'.rd = args.map st.rd := List.map_congr_left fun y hy=>hr y (by simpa [MOp.xs] using hy)
  exact ⟨s1,by simp only [dOp,this,e1],p1⟩
 | callh f args =>
  obtain ⟨K,b,M,k⟩ := dCallH_loc (F := fun o=>o ∈ foot (.callh f args) st) (W := fun o=>o ∈ loud (.callh f args) st) (fun o ho=>ho) h
  refine ⟨K,b,M,fun st' hr ha=>?_⟩
  obtain ⟨s1,e1,p1⟩ := k st' ha
  have : args.map st'.rd = args.map st.rd := List.map_congr_left fun y hy=>hr y (by simpa [MOp.xs] using hy)
  exact ⟨s1,by simp only [dOp,this]; exact e1,p1⟩
 | callvh f args =>
  simp only [dOp] at h
  split at h
  ·rename_i g caps hg
   have hh : handed (.callvh f args) st = args.map st.rd ++ caps := by simp only [handed,hg]
   obtain ⟨K,b,M,k⟩ := dCallH_loc (F := fun o=>o ∈ foot (.callvh f args) st) (W := fun o=>o ∈ loud (.callvh f args) st) (fun o ho=>by
    show o ∈ shared (handed (.callvh f args) st) st
    rw [hh]; exact ho) h
   refine ⟨K,b,M,fun st' hr ha=>?_⟩
   obtain ⟨s1,e1,p1⟩ := k st' ha
   have : args.map st'.rd = args.map st.rd := List.map_congr_left fun y hy=>hr y (by simp [MOp.xs,hy])
   exact ⟨s1,by simp only [dOp,hr f (by simp [MOp.xs]),hg,this,e1],p1⟩
  ·cases h
 | inv hb tbl x args =>
  simp only [dOp] at h
  split at h
  ·rename_i t v0 hv0
   split at h
   ·rename_i g hg
    have hx : x ∈ (MOp.inv hb tbl x args).xs := by simp [MOp.xs]
    have hpure : v0.pureHead = true := by
     cases hq : v0.pureHead with
     | true=>rfl
     | false=>rw [hq] at hg; cases hg
    have hmap : ∀ st',RdEq (MOp.inv hb tbl x args).xs st st'→args.map st'.rd = args.map st.rd := fun st' hr=>List.map_congr_left fun y hy=>hr y (by simp [MOp.xs,hy])
    cases hb with
    | true =>
     have hh : handed (.inv true tbl x args) st = v0 :: args.map st.rd := by simp only [handed,hv0]
     simp only [if_true] at h
     obtain ⟨K,b,M,k⟩ := dCallH_loc (F := fun o=>o ∈ foot (.inv true tbl x args) st) (W := fun o=>o ∈ loud (.inv true tbl x args) st) (fun o ho=>by
      show o ∈ shared (handed (.inv true tbl x args) st) st
      rw [hh]; exact ho) h
     refine ⟨K,b,M,fun st' hr ha=>?_⟩
     obtain ⟨s1,e1,p1⟩ := k st' ha
     exact ⟨s1,by simp only [dOp,hr x hx,hv0,hg,hmap st' hr,if_true,e1],p1⟩
    | false =>
     simp only [Bool.false_eq_true,if_false] at h
     obtain ⟨K,b,M,k⟩ := dCall_loc (F := fun o=>o ∈ foot (.inv false tbl x args) st) (W := fun o=>o ∈ loud (.inv false tbl x args) st) (fun y hy=>by
      rcases List.mem_cons.1 hy with rfl | hy
      ·rw [own1_pure hpure]; simp
      ·obtain ⟨z,hz,rfl⟩ := List.mem_map.1 hy
       exact f1 (by simp [MOp.xs,hz])) h
     refine ⟨K,b,M,fun st' hr ha=>?_⟩
     obtain ⟨s1,e1,p1⟩ := k st' ha
     exact ⟨s1,by simp only [dOp,hr x hx,hv0,hg,hmap st' hr,Bool.false_eq_true,if_false,e1],p1⟩
   ·cases h
  ·cases h
 | callv f args =>
  simp only [dOp] at h
  split at h
  ·rename_i g caps hg
   have hf : f ∈ (MOp.callv f args).xs := by simp [MOp.xs]
   obtain ⟨K,b,M,k⟩ := dCall_loc (F := fun o=>o ∈ foot (.callv f args) st) (W := fun o=>o ∈ loud (.callv f args) st) (fun x hx=>by
    rcases List.mem_append.1 hx with hx | hx
    ·obtain ⟨y,hy,rfl⟩ := List.mem_map.1 hx
     exact f1 (by simp [MOp.xs,hy])
    ·intro o ho
     refine fn hf o ?_
     rw [hg]
     simp only [MV.names2,MV.names,List.mem_flatMap]
     refine ⟨x,hx,?_⟩
     cases x <;> simp [own1] at ho
     simp [ho]) h
   refine ⟨K,b,M,fun st' hr ha=>?_⟩
   obtain ⟨s1,e1,p1⟩ := k st' ha
   have : args.map st'.rd = args.map st.rd := List.map_congr_left fun y hy=>hr y (by simp [MOp.xs,hy])
   exact ⟨s1,by simp only [dOp,hr f hf,hg,this,e1],p1⟩
  ·cases h
 | len b x =>
  simp only [dOp] at h
  split at h
  ·rename_i r hr'
   cases h
   refine .pure fun st' hr ha=>?_
   have hx : x ∈ (MOp.len b x).xs := by simp [MOp.xs]
   simp only [dOp,hr x hx,lenV_loc (fn hx) ha hr']
  ·cases h
 | app g s w d x =>
  have hd : d ∈ (MOp.app g s w d x).xs := by simp [MOp.xs]
  have hx : x ∈ (MOp.app g s w d x).xs := by simp [MOp.xs]
  simp only [dOp] at h
  split at h
  ·rename_i hg
   obtain ⟨K,b,M,k⟩ := appB_loc (F := fun o=>o ∈ foot (.app g s w d x) st) (W := fun o=>o ∈ loud (.app g s w d x) st) (fn hx) (fun o ho=>ho) h
   refine ⟨K,b,M,fun st' hr ha=>?_⟩
   obtain ⟨s1,e1,p1⟩ := k st' ha
   exact ⟨s1,by simp only [dOp,hr d hd,hr x hx,if_pos hg,e1],p1⟩
  ·rename_i hg
   obtain ⟨K,b,M,k⟩ := appE_loc (F := fun o=>o ∈ foot (.app g s w d x) st) (W := fun o=>o ∈ loud (.app g s w d x) st) (fn hx) (fun o ho=>ho) h
   refine ⟨K,b,M,fun st' hr ha=>?_⟩
   obtain ⟨s1,e1,p1⟩ := k st' ha
   exact ⟨s1,by simp only [dOp,hr d hd,hr x hx,if_neg hg,e1],p1⟩
 | appZ s w z d x =>
  have hd : d ∈ (MOp.appZ s w z d x).xs := by simp [MOp.xs]
  have hx : x ∈ (MOp.appZ s w z d x).xs := by simp [MOp.xs]
  simp only [dOp] at h
  split at h
  ·rename_i k n hxv
   split at h
   ·rename_i hg
    obtain ⟨K,b,M,k⟩ := appE_loc (F := fun o=>o ∈ foot (.appZ s w z d x) st) (W := fun o=>o ∈ loud (.appZ s w z d x) st) (by intro o ho; simp [MV.names2,MV.names] at ho) (fun o ho=>ho) h
    refine ⟨K,b,M,fun st' hr ha=>?_⟩
    obtain ⟨s1,e1,p1⟩ := k st' ha
    refine ⟨s1,?_,p1⟩
    simp only [dOp,hr d hd,hr x hx,hxv,if_pos hg,e1]
   ·cases h
  ·cases h
 | mkfn f caps =>
  cases h
  refine .pure fun st' hr ha=>?_
  have : caps.map st'.rd = caps.map st.rd := List.map_congr_left fun y hy=>hr y (by simpa [MOp.xs] using hy)
  simp only [dOp,this]
 | mkif t x =>
  simp only [dOp] at h
  split at h
  ·rename_i u st1 h1
   cases h
   have hx : x ∈ (MOp.mkif t x).xs := by simp [MOp.xs]
   obtain ⟨b,q,k⟩ := lend_loc (F := fun o=>o ∈ foot (.mkif t x) st) (f1 hx) h1
   refine .lent q fun st' hr ha=>?_
   obtain ⟨s1,e1,p1⟩ := k _ st' ha
   exact ⟨s1,by simp only [dOp,hr x hx,e1],p1⟩
  ·cases h
 | mksB n c =>
  simp only [dOp] at h
  split at h
  ·rename_i k p k' q hp hq
   split at h
   ·rename_i hc
    cases h
    refine .new (ob := .byt (List.replicate p.toNat 0) false) fun st' hr ha=>?_
    simp only [dOp,hr n (by simp [MOp.xs]),hr c (by simp [MOp.xs]),hp,hq,if_pos hc]
   ·cases h
  ·cases h
 | mksE s w z n c =>
  simp only [dOp] at h
  split at h
  ·rename_i k p k' q hp hq
   split at h
   ·rename_i hc
    cases h
    refine .new (ob := .el s (List.replicate p.toNat z) false) fun st' hr ha=>?_
    simp only [dOp,hr n (by simp [MOp.xs]),hr c (by simp [MOp.xs]),hp,hq,if_pos hc]
   ·cases h
  ·cases h
 | minmax mx xs =>
  simp only [dOp] at h
  split at h
  ·cases h
  ·rename_i x r
   split at h
   ·rename_i u hu
    cases h
    refine .pure fun st' hr ha=>?_
    have : RdEq r st st' := fun y hy=>hr y (by simp [MOp.xs,hy])
    simp only [dOp,hr x (by simp [MOp.xs]),foldMM_loc this,hu]
   ·cases h
 | copyB d s=>cases h
theorem dOper_loc {o : MOper} {r : DS} (h : dOper C nm o st = some r) : ∃ v K b M,∀ st',RdEq o.reads st st'→Agree (fun p=>p ∈ foot o.op st) (fun p=>p ∈ loud o.op st) st st' →
  ∃ s1,dOper C nm o st' = some (s1.wr o.dst v) ∧ Eff (fun p=>p ∈ foot o.op st) (fun p=>p ∈ loud o.op st) nm K b M st' s1 := by
 have hreads : ∀ {st'},RdEq o.reads st st'→RdEq o.op.xs st st' ∧ wanted o st' = wanted o st := by
  intro st' hr
  unfold MOper.reads at hr
  unfold wanted
  cases hg : o.guard with
  | none=>rw [hg] at hr; exact ⟨hr,rfl⟩
  | some g =>
   obtain ⟨x,w⟩ := g
   rw [hg] at hr
   refine ⟨fun y hy=>hr y (by simp [hy]),?_⟩
   simp only [hr x (by simp)]
 unfold dOper at h
 split at h
 ·rename_i hw
  split at h
  ·rename_i v s1 h1
   obtain ⟨K,b,M,k⟩ := dOp_loc h1
   refine ⟨v,K,b,M,fun st' hr ha=>?_⟩
   obtain ⟨hr1,hr2⟩ := hreads hr
   obtain ⟨s2,e2,f2⟩ := k st' hr1 ha
   exact ⟨s2,by simp only [dOper,hr2,hw,e2],f2⟩
  ·cases h
 ·rename_i hw
  refine ⟨.tup [],_,_,_,fun st' hr ha=>⟨st',?_,(Quiet.refl _ st').eff⟩⟩
  simp only [dOper,(hreads hr).2,hw]
 ·cases h
end
end Go.Mini
namespace Go.Mini
open Go Go.RowKit
structure Like (s s' : DS) : Prop where
 V : ∀ n,look s.V n = look s'.V n
 T : ∀ n,look s.T n = look s'.T n
 O : ∀ n,look s.O n = look s'.O n
theorem Like.refl (s : DS) : Like s s := ⟨fun _=>rfl,fun _=>rfl,fun _=>rfl⟩
theorem Like.symm {s s' : DS} (h : Like s s') : Like s' s := ⟨fun n=>(h.V n).symm,fun n=>(h.T n).symm,fun n=>(h.O n).symm⟩
theorem Like.trans {a b c : DS} (h : Like a b) (k : Like b c) : Like a c := ⟨fun n=>(h.V n).trans (k.V n),fun n=>(h.T n).trans (k.T n),fun n=>(h.O n).trans (k.O n)⟩
theorem Like.rd {s s' : DS} (h : Like s s') (x : X) : s'.rd x = s.rd x := by
 cases x <;> simp [DS.rd,h.T,h.V]
theorem Inv.like {own tm E st tmps} (h : Inv own tm E st tmps) {st' : DS} (l : Like st st') : Inv own tm E st' tmps where
 len o := by rw [h.len,l.O]
 objs o x hx := h.objs o x (by rw [l.O]; exact hx)
 sep o o' b h1 h2 := h.sep o o' b (by rw [l.O]; exact h1) (by rw [l.O]; exact h2)
 ownb o b h1 := h.ownb o b (by rw [l.O]; exact h1)
 good := h.good
 born o h1 := h.born o (by rw [l.O]; exact h1)
 base := h.base
 tabs := h.tabs
 T n v hn := h.T n v (by rw [l.T]; exact hn)
 V n v hn := h.V n v (by rw [l.V]; exact hn)
structure Rec (C : CallT) (nm : Nat) (o : MOper) where
 on : Bool
 r : DS
 v : MV
 K : Nat→Bool
 b : Nat→Bool
 M : Nat→Option Obj
 run : on = true→∀ st',RdEq o.reads r st'→Agree (fun p=>p ∈ foot o.op r) (fun p=>p ∈ loud o.op r) r st' →
  ∃ s1,dOper C nm o st' = some (s1.wr o.dst v) ∧ Eff (fun p=>p ∈ foot o.op r) (fun p=>p ∈ loud o.op r) nm K b M st' s1
section
variable {C : CallT} {nm nm' : Nat} {o o' : MOper}
def Rec.At (R : Rec C nm o) (s : DS) : Prop := R.on = true ∧ RdEq o.reads R.r s ∧ Agree (fun p=>p ∈ foot o.op R.r) (fun p=>p ∈ loud o.op R.r) R.r s
structure Rec.To (R : Rec C nm o) (s s1 : DS) : Prop where
 O : ∀ p,look s1.O p = if R.K p = true then R.M p else lentIf (R.b p) (look s.O p)
 V : ∀ n,look s1.V n = look (s.wr o.dst R.v).V n
 T : ∀ n,look s1.T n = look (s.wr o.dst R.v).T n
def Rec.mark (R : Rec C nm o) (i : Nat) : Mark := ⟨i,nm,o.reads,o.dst,foot o.op R.r,loud o.op R.r⟩
theorem wr_O (s : DS) (d : Option X) (v : MV) : (s.wr d v).O = s.O := by
 cases d with
 | none=>rfl
 | some x=>cases x <;> rfl
theorem wr_like {s s' : DS} (hT : ∀ n,look s.T n = look s'.T n) (hV : ∀ n,look s.V n = look s'.V n) (d : Option X) (v : MV) :
  (∀ n,look (s.wr d v).T n = look (s'.wr d v).T n) ∧ ∀ n,look (s.wr d v).V n = look (s'.wr d v).V n := by
 cases d with
 | none=>exact ⟨hT,hV⟩
 | some x =>
  cases x with
  | t k=>exact ⟨fun n=>by show look (put s.T k v) n = look (put s'.T k v) n; rw [look_put,look_put,hT],hV⟩
  | v k=>exact ⟨hT,fun n=>by show look (put s.V k v) n = look (put s'.V k v) n; rw [look_put,look_put,hV]⟩
  | c x=>exact ⟨hT,hV⟩
theorem Rec.step (R : Rec C nm o) {s : DS} (h : R.At s) : ∃ s1,dOper C nm o s = some s1 ∧ R.To s s1 ∧ (∀ p,R.K p = true→(nm ≤ p ∧ p < nm + 4) ∨ p ∈ loud o.op R.r) ∧ ∀ p,R.b p = true→p ∈ foot o.op R.r := by
 obtain ⟨s1,e,f⟩ := R.run h.1 s h.2.1 h.2.2
 refine ⟨_,e,⟨fun p=>by rw [wr_O]; exact f.O p,?_,?_⟩,f.KF,f.bF⟩
 ·exact (wr_like (fun n=>by rw [f.T]) (fun n=>by rw [f.V]) o.dst R.v).2
 ·exact (wr_like (fun n=>by rw [f.T]) (fun n=>by rw [f.V]) o.dst R.v).1
theorem Rec.At.like {R : Rec C nm o} {s s' : DS} (h : R.At s) (l : Like s s') : R.At s' :=
 ⟨h.1,fun x hx=>(l.rd x).trans (h.2.1 x hx),⟨fun p hp=>by rw [← l.O]; exact h.2.2.F p hp,fun p hp=>by rw [← l.O]; exact h.2.2.W p hp⟩⟩
theorem Rec.To.like {R : Rec C nm o} {s s' s1 s1' : DS} (h : R.To s s1) (l : Like s s') (l1 : Like s1 s1') : R.To s' s1' := by
 obtain ⟨a,b⟩ := wr_like l.T l.V o.dst R.v
 exact ⟨fun p=>by rw [← l1.O,h.O,l.O],fun n=>by rw [← l1.V,h.V,b],fun n=>by rw [← l1.T,h.T,a]⟩
theorem Rec.To.det {R : Rec C nm o} {s s1 s1' : DS} (h : R.To s s1) (k : R.To s s1') : Like s1 s1' :=
 ⟨fun n=>by rw [h.V,k.V],fun n=>by rw [h.T,k.T],fun p=>by rw [h.O,k.O]⟩
theorem sameX_ne {x y : X} (h : sameX x y = false) (s : DS) (v : MV) : (s.wr (some x) v).rd y = s.rd y := by
 cases x <;> cases y <;> simp only [sameX,decide_eq_false_iff_not] at h <;> simp [DS.wr,DS.rd,look_put,h]
theorem noX_rd {d : Option X} {l : List X} (h : noX d l = true) (s : DS) (v : MV) {y : X} (hy : y ∈ l) : (s.wr d v).rd y = s.rd y := by
 cases d with
 | none=>rfl
 | some x =>
  simp only [noX,List.all_eq_true,Bool.not_eq_true'] at h
  exact sameX_ne (h y hy) s v
theorem rd_like {s s' : DS} (hT : ∀ n,look s.T n = look s'.T n) (hV : ∀ n,look s.V n = look s'.V n) (x : X) : s.rd x = s'.rd x := by
 cases x <;> simp [DS.rd,hT,hV]
theorem apart_at {A : Rec C nm o} {B : Rec C nm' o'} {i j : Nat} (h : ((A.mark i).apart1 (B.mark j)) = true) {s s1 : DS} (t : A.To s s1)
  (hK : ∀ p,A.K p = true→(nm ≤ p ∧ p < nm + 4) ∨ p ∈ loud o.op A.r) (hb : ∀ p,A.b p = true→p ∈ foot o.op A.r) (hW : ∀ p ∈ foot o.op A.r,p ∉ loud o'.op B.r) (hWF : ∀ p ∈ loud o'.op B.r,p ∈ foot o'.op B.r) : B.At s1 ↔ B.At s := by
 simp only [Mark.apart1,Rec.mark,Bool.and_eq_true,List.all_eq_true,Bool.not_eq_true',Bool.and_eq_false_iff,decide_eq_false_iff_not] at h
 obtain ⟨h1,h2⟩ := h
 have hn : ∀ p ∈ foot o'.op B.r,A.K p = false := by
  intro p hp
  obtain ⟨a,b⟩ := h2 p hp
  cases hk : A.K p with
  | false=>rfl
  | true =>
   rcases hK p hk with hk | hk
   ·rcases a with a | a
    ·exact (of_decide_eq_false a hk.1).elim
    ·exact (of_decide_eq_false a hk.2).elim
   ·rw [← has_iff] at hk; rw [hk] at b; cases b
 have hrd : ∀ x ∈ o'.reads,s1.rd x = s.rd x := by
  intro x hx
  rw [rd_like (s' := s.wr o.dst A.v) t.T t.V]
  exact noX_rd h1 s A.v (List.mem_append_left _ hx)
 have hF : ∀ p ∈ foot o'.op B.r,(look s1.O p).map unfl = (look s.O p).map unfl := by
  intro p hp
  rw [t.O,hn p hp]
  simp [unfl_lentIf]
 have hWW : ∀ p ∈ loud o'.op B.r,look s1.O p = look s.O p := by
  intro p hp
  rw [t.O,hn p (hWF p hp)]
  have : A.b p = false := by
   cases hbp : A.b p with
   | false=>rfl
   | true=>exact (hW p (hb p hbp) hp).elim
  simp [this,lentIf]
 constructor
 ·rintro ⟨on,a,b⟩
  exact ⟨on,fun x hx=>(hrd x hx).symm.trans (a x hx),⟨fun p hp=>(b.F p hp).trans (hF p hp),fun p hp=>(b.W p hp).trans (hWW p hp)⟩⟩
 ·rintro ⟨on,a,b⟩
  exact ⟨on,fun x hx=>(hrd x hx).trans (a x hx),⟨fun p hp=>(b.F p hp).trans (hF p hp).symm,fun p hp=>(b.W p hp).trans (hWW p hp).symm⟩⟩
theorem wr_comm {d d' : Option X} (h : noX d (optX d') = true) (s : DS) (v v' : MV) (n : Nat) :
  look ((s.wr d v).wr d' v').V n = look ((s.wr d' v').wr d v).V n ∧ look ((s.wr d v).wr d' v').T n = look ((s.wr d' v').wr d v).T n := by
 cases d with
 | none=>exact ⟨rfl,rfl⟩
 | some x =>
  cases d' with
  | none=>exact ⟨rfl,rfl⟩
  | some y =>
   simp only [noX,optX,List.all_cons,List.all_nil,Bool.and_true,Bool.not_eq_true'] at h
   cases x <;> cases y <;> simp only [sameX,decide_eq_false_iff_not] at h <;> simp only [DS.wr,look_put,true_and,and_true]
   ·split <;> split <;> first | rfl | (rename_i a b; exact (h (b.trans a.symm)).elim)
   ·split <;> split <;> first | rfl | (rename_i a b; exact (h (b.trans a.symm)).elim)
end
theorem loud_foot (o : MOp) (st : DS) : ∀ p ∈ loud o st,p ∈ foot o st := by
 intro p hp
 have sh : p ∈ shared (handed o st) st→p ∈ foot o st := fun h=>List.mem_append_right _ h
 cases o
 case store s a v=>exact foot_names (by simp [MOp.xs]) hp
 case app b s w d x=>exact foot_names (by simp [MOp.xs]) hp
 case appZ s w z d x=>exact foot_names (by simp [MOp.xs]) hp
 case nxt x=>exact foot_names (by simp [MOp.xs]) hp
 all_goals exact sh hp
theorem swap {C : CallT} {nm nm' : Nat} {o o' : MOper} {A : Rec C nm o} {B : Rec C nm' o'} {i j : Nat} (hd : nm + 4 ≤ nm' ∨ nm' + 4 ≤ nm) (h : (A.mark i).apart (B.mark j) = true) {s s1 s2 : DS} (hA : A.At s) (tA : A.To s s1) (hB : B.At s1) (tB : B.To s1 s2) :
  B.At s ∧ ∃ t1,dOper C nm' o' s = some t1 ∧ B.To s t1 ∧ A.At t1 ∧ A.To t1 s2 := by
 simp only [Mark.apart,Bool.and_eq_true] at h
 obtain ⟨hab,hba⟩ := h
 obtain ⟨sa,ea,ta,KA,bA⟩ := A.step hA
 obtain ⟨sb,eb,tb,KB,bB⟩ := B.step hB
 have wAB : ∀ p ∈ foot o.op A.r,p ∉ loud o'.op B.r := by
  intro p hp hq
  simp only [Mark.apart1,Rec.mark,Bool.and_eq_true,List.all_eq_true,Bool.not_eq_true'] at hba
  have := (hba.2 p hp).2
  rw [has_iff.2 hq] at this; cases this
 have wBA : ∀ p ∈ foot o'.op B.r,p ∉ loud o.op A.r := by
  intro p hp hq
  simp only [Mark.apart1,Rec.mark,Bool.and_eq_true,List.all_eq_true,Bool.not_eq_true'] at hab
  have := (hab.2 p hp).2
  rw [has_iff.2 hq] at this; cases this
 have hBs : B.At s := (apart_at hab tA KA bA wAB (loud_foot _ _)).1 hB
 obtain ⟨t1,e1,f1,_,_⟩ := B.step hBs
 have hAt : A.At t1 := (apart_at hba f1 KB bB wBA (loud_foot _ _)).2 hA
 refine ⟨hBs,t1,e1,f1,hAt,⟨fun p=>?_,fun n=>?_,fun n=>?_⟩⟩
 ·-- objects
  rw [tB.O,tA.O,f1.O]
  have nf : ∀ {nm nm' : Nat} {o o' : MOper} {A : Rec C nm o} {B : Rec C nm' o'} {i j : Nat},(A.mark i).apart1 (B.mark j) = true→(∀ p,A.K p = true→(nm ≤ p ∧ p < nm + 4) ∨ p ∈ loud o.op A.r)→∀ p ∈ foot o'.op B.r,A.K p = false := by
   intro nm nm' o o' A B i j h hK p hp
   simp only [Mark.apart1,Rec.mark,Bool.and_eq_true,List.all_eq_true,Bool.not_eq_true',Bool.and_eq_false_iff,decide_eq_false_iff_not] at h
   obtain ⟨a,b⟩ := h.2 p hp
   cases hk : A.K p with
   | false=>rfl
   | true =>
    rcases hK p hk with hk | hk
    ·rcases a with a | a
     ·exact (of_decide_eq_false a hk.1).elim
     ·exact (of_decide_eq_false a hk.2).elim
    ·rw [← has_iff] at hk; rw [hk] at b; cases b
  have a1 := nf hab KA p
  have a2 := nf hba KB p
  cases hka : A.K p with
  | true =>
   have hbf : B.b p = false := by
    cases hbp : B.b p with
    | false=>rfl
    | true=>have := a1 (bB p hbp); rw [hka] at this; cases this
   cases hkb : B.K p with
   | true =>
    rcases KA p hka with h1 | h1
    ·rcases KB p hkb with h2 | h2
     ·omega
     ·have := a1 (loud_foot _ _ p h2); rw [hka] at this; cases this
    ·have := a2 (loud_foot _ _ p h1); rw [hkb] at this; cases this
   | false=>simp [hbf,lentIf]
  | false =>
   cases hkb : B.K p with
   | true =>
    have haf : A.b p = false := by
     cases hbp : A.b p with
     | false=>rfl
     | true=>have := a2 (bA p hbp); rw [hkb] at this; cases this
    simp [haf,lentIf]
   | false=>simp [lentIf_comm]
 ·have hx : noX o.dst (optX o'.dst) = true := by
   simp only [Mark.apart1,Rec.mark,Bool.and_eq_true] at hab
   cases hd : o.dst with
   | none=>rfl
   | some x =>
    have := hab.1
    rw [hd] at this
    simp only [noX,List.all_append,Bool.and_eq_true] at this
    exact this.2
  rw [tB.V,(wr_like tA.T tA.V o'.dst B.v).2,(wr_comm hx s A.v B.v n).1,← (wr_like f1.T f1.V o.dst A.v).2]
 ·have hx : noX o.dst (optX o'.dst) = true := by
   simp only [Mark.apart1,Rec.mark,Bool.and_eq_true] at hab
   cases hd : o.dst with
   | none=>rfl
   | some x =>
    have := hab.1
    rw [hd] at this
    simp only [noX,List.all_append,Bool.and_eq_true] at this
    exact this.2
  rw [tB.T,(wr_like tA.T tA.V o'.dst B.v).1,(wr_comm hx s A.v B.v n).2,← (wr_like f1.T f1.V o.dst A.v).1]
inductive Chain {C : CallT} {nx : Nat} {ms : Nat→MOper} (R : ∀ i,Rec C (nx + 4 * i) (ms i)) : List Nat→DS→DS→Prop
 | nil {s s'} (h : Like s s') : Chain R [] s s'
 | cons {i l s s1 s'} (ha : (R i).At s) (ht : (R i).To s s1) (h : Chain R l s1 s') : Chain R (i :: l) s s'
section
variable {C : CallT} {nx : Nat} {ms : Nat→MOper} {R : ∀ i,Rec C (nx + 4 * i) (ms i)}
theorem Chain.like {l : List Nat} {s t s' : DS} (h : Chain R l s s') (k : Like s t) : Chain R l t s' := by
 cases h with
 | nil h=>exact .nil (k.symm.trans h)
 | cons ha ht h=>exact .cons (ha.like k) (ht.like k (Like.refl _)) h
theorem Chain.pull {i : Nat} : ∀ {l1 : List Nat} {l2 : List Nat} {s s' : DS},Chain R (l1 ++ i :: l2) s s'→(∀ k ∈ l1,k ≠ i ∧ ((R k).mark k).apart ((R i).mark i) = true) →
  (R i).At s ∧ ∃ s1,(R i).To s s1 ∧ Chain R (l1 ++ l2) s1 s'
 | [],l2,s,s',h,_=>by
  cases h with
  | cons ha ht h=>exact ⟨ha,_,ht,h⟩
 | k :: l1,l2,s,s',h,hk=>by
  cases h with
  | cons ha ht h =>
   obtain ⟨hi,s2,hti,hc⟩ := Chain.pull h (fun j hj=>hk j (by simp [hj]))
   obtain ⟨hne,hap⟩ := hk k (by simp)
   obtain ⟨h1,t1,_,h3,h4,h5⟩ := swap (by omega) hap ha ht hi hti
   exact ⟨h1,t1,h3,.cons h4 h5 hc⟩
end
end Go.Mini
namespace Go.Mini
open Go Go.RowKit
section
variable {C : CallT} {nx : Nat} {ms : Nat→MOper}
theorem Chain.congr {R R' : ∀ i,Rec C (nx + 4 * i) (ms i)} : ∀ {l : List Nat} {s s' : DS},(∀ i ∈ l,R' i = R i)→Chain R l s s'→Chain R' l s s'
 | [],s,s',_,h=>by
  cases h with
  | nil h=>exact .nil h
 | i :: l,s,s',hR,h=>by
  cases h with
  | cons ha ht h=>exact .cons (by rw [hR i (by simp)]; exact ha) (by rw [hR i (by simp)]; exact ht) (Chain.congr (fun j hj=>hR j (by simp [hj])) h)
def Rec.none (nm : Nat) (o : MOper) : Rec C nm o := ⟨false,⟨[],[],[],0⟩,.undef,fun _=>false,fun _=>false,fun _=>.none,fun h=>Bool.noConfusion h⟩
theorem draw_chain {pre : Nat→List Nat} : ∀ {ops : List MOper} {i : Nat} {marks : List Mark} {st st' : DS},(∀ j,ops[j]? = none ∨ ops[j]? = some (ms (i + j)))→dDraw C pre i (nx + 4 * i) marks ops st = some st' →
  ∃ R : ∀ i,Rec C (nx + 4 * i) (ms i),Chain R (List.range' i ops.length) st st' ∧ (∀ j ∈ List.range' i ops.length,∀ m ∈ marks,has (pre j) m.i = true ∨ m.apart ((R j).mark j) = true) ∧
   ∀ j ∈ List.range' i ops.length,∀ k ∈ List.range' i ops.length,j < k→has (pre k) j = true ∨ ((R j).mark j).apart ((R k).mark k) = true
 | [],i,marks,st,st',_,h=>by
  simp only [dDraw,Option.some.injEq] at h
  subst h
  exact ⟨fun i=>Rec.none _ _,.nil (Like.refl _),by simp,by simp⟩
 | o :: ops,i,marks,st,st',hms,h=>by
  have ho : o = ms i := by
   rcases hms 0 with h | h
   ·simp at h
   ·simpa using h
  subst ho
  simp only [dDraw] at h
  split at h
  ·rename_i hall
   split at h
   ·rename_i st1 h1
    obtain ⟨v,K,b,M,run⟩ := dOper_loc h1
    let Ri : Rec C (nx + 4 * i) (ms i) := ⟨true,st,v,K,b,M,fun _=>run⟩
    have hat : Ri.At st := ⟨rfl,fun _ _=>rfl,⟨fun _ _=>rfl,fun _ _=>rfl⟩⟩
    obtain ⟨s1,e1,t1,_,_⟩ := Ri.step hat
    obtain rfl : s1 = st1 := Option.some.inj (e1.symm.trans h1)
    obtain ⟨R',c1,c2,c3⟩ := draw_chain (ops := ops) (i := i + 1) (fun j=>by
     rcases hms (j + 1) with h | h
     ·exact .inl (by simpa using h)
     ·exact .inr (by simpa [Nat.add_assoc,Nat.add_comm 1 j] using h)) (show dDraw C pre (i + 1) (nx + 4 * (i + 1)) _ ops s1 = some st' from h)
    refine ⟨fun j=>if hj : j = i then hj ▸ Ri else R' j,?_,?_,?_⟩
    ·rw [List.length_cons,List.range'_succ]
     refine .cons (s1 := s1) ?_ ?_ (Chain.congr (fun j hj=>?_) c1)
     ·simp only [dif_pos]; exact hat
     ·simp only [dif_pos]; exact t1
     ·have : j ≠ i := by have := List.mem_range'_1.1 hj; omega
      simp only [dif_neg this]
    ·intro j hj m hm
     rw [List.length_cons,List.range'_succ] at hj
     rcases List.mem_cons.1 hj with rfl | hj
     ·simp only [dif_pos]
      have := List.all_eq_true.1 hall m hm
      rw [Bool.or_eq_true] at this
      exact this
     ·have : j ≠ i := by have := List.mem_range'_1.1 hj; omega
      simp only [dif_neg this]
      exact c2 j hj m (by simp [hm])
    ·intro j hj k hk hjk
     rw [List.length_cons,List.range'_succ] at hj hk
     rcases List.mem_cons.1 hk with rfl | hk
     ·rcases List.mem_cons.1 hj with rfl | hj
      ·omega
      ·have := List.mem_range'_1.1 hj; omega
     ·have hki : k ≠ i := by have := List.mem_range'_1.1 hk; omega
      rcases List.mem_cons.1 hj with rfl | hj
      ·simp only [dif_pos,dif_neg hki]
       exact c2 k hk (Ri.mark j) (by simp [Ri,Rec.mark])
      ·have hji : j ≠ i := by have := List.mem_range'_1.1 hj; omega
       simp only [dif_neg hji,dif_neg hki]
       exact c3 j hj k hk hjk
   ·cases h
  ·cases h
end
section
variable {P : Program} {own : Nat→Prop} {tm : Nat→Bool} {hp : Option FuncId→Bool} {nt : Nat} {ops : Array Oper} {C : CallT} {nx : Nat} {ml : List MOper} {pre : List (List Nat)}
theorem preOKs_get : ∀ {l : List Oper} {i : Nat},preOKs pre i l = true→∀ j o,l[j]? = some o→preOK1 pre (i + j) o = true
 | [],i,_,j,o,ho=>by simp at ho
 | a :: l,i,h,j,o,ho=>by
  simp only [preOKs,Bool.and_eq_true] at h
  cases j with
  | zero=>simp at ho; subst ho; exact h.1
  | succ j =>
   have := preOKs_get h.2 j o (by simpa using ho)
   rw [show i + (j + 1) = i + 1 + j by omega]
   exact this
theorem any_ok {Gd : Ground} (hC : COK P Gd C) (ht : trOpers P tm hp nt ops ops.toList = some ml) (hp : preOKs pre 0 ops.toList = true) {R : ∀ i,Rec C (nx + 4 * i) ((ml[i]?).getD default)}
  (hR : ∀ j < ops.size,∀ k < ops.size,j < k→has (preOf pre k) j = true ∨ ((R j).mark j).apart ((R k).mark k) = true) {Q : Exit→Act→World→Prop} {s' : DS} :
  ∀ {fuel : Nat} {rem : List Nat} {listed : Array Bool} {E : Env} {st : DS} {a : Act},listed.size = ops.size→rem.Pairwise (· < ·)→(∀ j,j ∈ rem ↔ j < ops.size ∧ listed.getD j true = false)→fuel = rem.length →
   (∀ j,listed.getD j false = true→∀ k ∈ preOf pre j,listed.getD k false = true)→Chain R rem st s'→Gd.On own E→Inv own tm E st a.tmps→nt ≤ a.tmps.size→(∀ i ∈ rem,∀ p,nx + 4 * i ≤ p→p < nx + 4 * i + 4→¬ E.born p) →
   Next own tm nx (nx + 4 * ops.size) E a s' (Q .normal)→wpAny P .any ops Q fuel listed a E.w
 | 0,rem,listed,E,st,a,hls,hsort,hrem,hf,hcl,hch,hG,hi,hs,hn,hK=>by
  have hr0 : rem = [] := List.eq_nil_of_length_eq_zero hf.symm
  subst hr0
  cases hch with
  | nil hl =>
   refine ⟨?_,hK E a (Move.refl _ _) (fun _ h=>.inl h) (hi.like hl) rfl rfl⟩
   rw [List.eq_nil_iff_forall_not_mem]
   intro j hj
   obtain ⟨h1,o,ho,_⟩ := mem_ready.1 hj
   have := (hrem j).2 ⟨(Array.getElem?_eq_some_iff.1 ho).1,h1⟩
   cases this
 | fuel + 1,rem,listed,E,st,a,hls,hsort,hrem,hf,hcl,hch,hG,hi,hs,hn,hK=>by
  have hgd : ∀ j,j < ops.size→(listed.getD j true = false ↔ ¬ listed.getD j false = true) := by
   intro j hj
   have : j < listed.size := by omega
   simp [this]
  constructor
  ·intro h0
   exfalso
   cases rem with
   | nil=>simp at hf
   | cons i0 l =>
    obtain ⟨hlt,hun⟩ := (hrem i0).1 (by simp)
    have ho : ops[i0]? = some ops[i0] := Array.getElem?_eq_getElem hlt
    have hpo := preOKs_get hp i0 ops[i0] (by rw [Array.getElem?_toList]; exact ho)
    rw [Nat.zero_add] at hpo
    simp only [preOK1,Bool.and_eq_true,List.all_eq_true] at hpo
    have : i0 ∈ Region.ready .any ops listed := by
     refine mem_ready.2 ⟨hun,_,ho,fun e he hb=>?_⟩
     have h1 := hpo.1 e (by simpa using he)
     simp only [bindsAny,hb,Bool.not_true,Bool.false_or,decide_eq_true_eq] at h1
     have hlt' : e.on < ops.size := by omega
     cases hx : listed.getD e.on false with
     | true=>rfl
     | false =>
      have hmem := (hrem e.on).2 ⟨hlt',(hgd _ hlt').2 (by rw [hx]; simp)⟩
      rcases List.mem_cons.1 hmem with h2 | h2
      ·omega
      ·have := (List.pairwise_cons.1 hsort).1 e.on h2; omega
    rw [h0] at this; cases this
  ·intro i hir
   obtain ⟨hun,o,ho,hall⟩ := mem_ready.1 hir
   have hlt := (Array.getElem?_eq_some_iff.1 ho).1
   have him := (hrem i).2 ⟨hlt,hun⟩
   obtain ⟨l1,l2,rfl⟩ := List.append_of_mem him
   have hpo := preOKs_get hp i o (by rw [Array.getElem?_toList]; exact ho)
   rw [Nat.zero_add] at hpo
   simp only [preOK1,Bool.and_eq_true,List.all_eq_true,List.any_eq_true,Bool.or_eq_true,decide_eq_true_eq] at hpo
   have hpre : ∀ k ∈ preOf pre i,listed.getD k false = true := by
    intro k hk
    obtain ⟨e,he,hb,h2⟩ := hpo.2 k hk
    have hl := hall e (by simpa using he) hb
    rcases h2 with h2 | h2
    ·rw [← h2]; exact hl
    ·exact hcl e.on hl k (has_iff.1 h2)
   have hsort2 := List.pairwise_append.1 hsort
   obtain ⟨hat,s1,hto,hch'⟩ := Chain.pull hch fun k hk=>by
    have hki : k < i := hsort2.2.2 k hk i (by simp)
    refine ⟨by omega,?_⟩
    have hkm := (hrem k).1 (by simp [hk])
    rcases hR k hkm.1 i hlt hki with h | h
    ·exact ((hgd k hkm.1).1 hkm.2 (hpre k (has_iff.1 h))).elim
    ·exact h
   obtain ⟨st1,hst1,hto1,_,_⟩ := (R i).step hat
   have hch1 := hch'.like (hto.det hto1)
   obtain ⟨_,hg⟩ := trOpers_get ht
   obtain ⟨mo,hmo,htr⟩ := hg i o (by rw [Array.getElem?_toList]; exact ho)
   have hmo' : (ml[i]?).getD default = mo := by rw [hmo]; rfl
   rw [hmo'] at hst1
   refine dOper_ok hC hG hi hs (hn i (by simp)) ho htr hst1 fun E1 a1 m1 b1 i1 sz1 d1=>?_
   have hnot : ∀ j ∈ l1 ++ l2,j ≠ i := by
    intro j hj
    rcases List.mem_append.1 hj with hj | hj
    ·have := hsort2.2.2 j hj i (by simp); omega
    ·have := (List.pairwise_cons.1 hsort2.2.1).1 j hj; omega
   have hset : ∀ j d,j ≠ i→(listed.setIfInBounds i true).getD j d = listed.getD j d := fun j d hj=>getD_set_ne d (Ne.symm hj)
   have hseti : (listed.setIfInBounds i true).getD i false = true := by
    have : i < listed.size := by omega
    simp [this]
   have hset1 : ∀ j,listed.getD j false = true→(listed.setIfInBounds i true).getD j false = true := fun j hj=>getD_set_true hj
   refine any_ok hC ht hp hR (by simp [hls]) ?_ (fun j=>?_) ?_ ?_ hch1 (Gd.move m1 hG) i1 (sz1 ▸ hs) ?_ ?_
   ·refine List.pairwise_append.2 ⟨hsort2.1,(List.pairwise_cons.1 hsort2.2.1).2,fun x hx y hy=>hsort2.2.2 x hx y (by simp [hy])⟩
   ·constructor
    ·intro hj
     have hji := hnot j hj
     have := (hrem j).1 (by
      rcases List.mem_append.1 hj with hj | hj
      ·simp [hj]
      ·simp [hj])
     rw [hset j true hji]; exact this
    ·rintro ⟨h1,h2⟩
     by_cases hji : j = i
     ·subst hji
      have : j < listed.size := by omega
      simp [this] at h2
     ·rw [hset j true hji] at h2
      have := (hrem j).2 ⟨h1,h2⟩
      rcases List.mem_append.1 this with h | h
      ·simp [h]
      ·rcases List.mem_cons.1 h with h | h
       ·exact (hji h).elim
       ·simp [h]
   ·simp only [List.length_append,List.length_cons] at hf ⊢; omega
   ·intro j hj k hk
    by_cases hji : j = i
    ·subst hji; exact hset1 k (hpre k hk)
    ·rw [hset j false hji] at hj
     exact hset1 k (hcl j hj k hk)
   ·intro j hj p h1 h2 hb
    have hji := hnot j hj
    rcases b1 p hb with hb | hb
    ·exact hn j (by
      rcases List.mem_append.1 hj with hj | hj
      ·simp [hj]
      ·simp [hj]) p h1 h2 hb
    ·omega
   ·intro E2 a2 m2 b2 i2 sz2 d2
    refine hK E2 a2 (m1.trans m2) (fun p hp=>?_) i2 (sz2.trans sz1) (d2.trans d1)
    rcases b2 p hp with hp | hp
    ·rcases b1 p hp with hp | hp
     ·exact .inl hp
     ·exact .inr ⟨by omega,by omega⟩
    ·exact .inr hp
theorem regionD_ok {Gd : Ground} {E : Env} {st : DS} {a : Act} (hC : COK P Gd C) (ht : trOpers P tm hp nt ops ops.toList = some ml) (hp : preOKs pre 0 ops.toList = true) (hm : P.follows .mixedOrders = true) {id : Nat} {Q : Exit→Act→World→Prop}
  (hG : Gd.On own { E with w := { E.w with drawn := E.w.drawn + 1 } }) (hi : Inv own tm { E with w := { E.w with drawn := E.w.drawn + 1 } } st a.tmps) (hs : nt ≤ a.tmps.size) (hn : ∀ p,E.born p→p < nx)
  {st' : DS} (h : dDraw C (preOf pre) 0 nx [] ml st = some st') (hK : Next own tm nx (nx + 4 * ops.size) { E with w := { E.w with drawn := E.w.drawn + 1 } } a st' (Q .normal)) : (Code.region id ops true).wp P Q a E.w := by
 refine wp_region_any hm ?_
 have hl : ml.length = ops.size := by simpa using (trOpers_get ht).1
 obtain ⟨R,c1,_,c3⟩ := draw_chain (C := C) (nx := nx) (ms := fun i=>(ml[i]?).getD default) (pre := preOf pre) (ops := ml) (i := 0) (marks := []) (st := st) (st' := st') (fun j=>by
  rw [Nat.zero_add]
  cases h : ml[j]? with
  | none=>exact .inl rfl
  | some o=>exact .inr rfl) h
 rw [hl] at c1 c3
 refine any_ok (E := { E with w := { E.w with drawn := E.w.drawn + 1 } }) hC ht hp (R := R) (fun j hj k hk hjk=>c3 j (List.mem_range'_1.2 ⟨by omega,by omega⟩) k (List.mem_range'_1.2 ⟨by omega,by omega⟩) hjk) (by simp) (List.pairwise_lt_range') (fun j=>?_) (by simp) (fun j hj=>?_) c1 hG hi hs (fun i _ p h1 h2 hb=>?_) hK
 ·simp only [List.mem_range'_1,Nat.zero_le,true_and,Nat.zero_add]
  constructor
  ·intro hj; exact ⟨hj,by simp [hj]⟩
  ·exact fun h=>h.1
 ·by_cases hjl : j < ops.size
  ·simp [hjl] at hj
  ·simp [hjl] at hj
 ·have hb : E.born p := hb
  have := hn p hb
  omega
end
end Go.Mini
namespace Go.Mini
open Go Go.RowKit
variable {P : Program} {own : Nat→Prop} {tm : Nat→Bool} {hp : Option FuncId→Bool} {nt K : Nat} {Q : Prog}
def keepOK (tm : Nat→Bool) (nt K : Nat) (keep : List (Nat × KMode)) : Prop := keep.all (keepB tm nt) = true ∧ inhOf keep = K
inductive Its (P : Program) (tm : Nat→Bool) (hp : Option FuncId→Bool) (nt K : Nat) : List Go.Item→List Item→Prop
 | nil : Its P tm hp nt K [] []
 | code {c m k l} (h : trCode P tm hp nt c m) (hh : m.inhB K = true) (r : Its P tm hp nt K k l) : Its P tm hp nt K (.code c :: k) (.code m :: l)
 | blk {id k l} (r : Its P tm hp nt K k l) : Its P tm hp nt K (.inBlock id :: k) (.blk id :: l)
 | lp {c keep b k l} (hk : keepOK tm nt K keep) (h : trCode P tm hp nt c b) (hh : b.inhB K = true) (r : Its P tm hp nt K k l) : Its P tm hp nt K (.inLoop c :: k) (.lp keep b :: l)
 | scope {c k l} (r : Its P tm hp nt K k l) : Its P tm hp nt K (.inScope c :: k) l
theorem Its.peel : ∀ {k l},Its P tm hp nt K k l→∃ k',Its P tm hp nt K k' l ∧ (∀ c r,k' ≠ .inScope c :: r) ∧ ∀ (b : Frame) (a : Act) (cs : List Frame) (w : World),Steps P (lone (b.at a k) cs w) (lone (b.at a k') cs w)
 | _,_,.nil=>⟨_,.nil,by simp,fun _ _ _ _=>Steps.refl _ _⟩
 | _,_,.code h hh r=>⟨_,.code h hh r,by simp,fun _ _ _ _=>Steps.refl _ _⟩
 | _,_,.blk r=>⟨_,.blk r,by simp,fun _ _ _ _=>Steps.refl _ _⟩
 | _,_,.lp hk h hh r=>⟨_,.lp hk h hh r,by simp,fun _ _ _ _=>Steps.refl _ _⟩
 | _,_,.scope r=>by
  obtain ⟨k',h1,h2,h3⟩ := Its.peel r
  exact ⟨k',h1,h2,fun b a cs w=>.head step_inScope (h3 b a cs w)⟩
theorem Its.exit {id : Nat} : ∀ {k l l'},Its P tm hp nt K k l→unwind id l = some l'→∃ k',exitTo id k = some k' ∧ Its P tm hp nt K k' l'
 | _,_,_,.nil,h=>by simp [unwind] at h
 | _,_,_,.code _ _ r,h=>by
  obtain ⟨k',h1,h2⟩ := Its.exit r (by simpa [unwind] using h)
  exact ⟨k',by simpa [exitTo] using h1,h2⟩
 | _,_,_,.blk (id := i) (k := k) (l := l) r,h=>by
  simp only [unwind] at h
  split at h
  ·rename_i hi
   cases h
   exact ⟨k,by simp [exitTo,hi],r⟩
  ·rename_i hi
   obtain ⟨k',h1,h2⟩ := Its.exit r h
   refine ⟨k',?_,h2⟩
   have : (i == id) = false := by simpa using hi
   simp [exitTo,this,h1]
 | _,_,_,.lp _ _ _ r,h=>by
  obtain ⟨k',h1,h2⟩ := Its.exit r (by simpa [unwind] using h)
  exact ⟨k',by simpa [exitTo] using h1,h2⟩
 | _,_,_,.scope r,h=>by
  obtain ⟨k',h1,h2⟩ := Its.exit r h
  exact ⟨k',by simpa [exitTo] using h1,h2⟩
def Ends (P : Program) (own : Nat→Prop) (tm : Nat→Bool) (nt K : Nat) (k : List Go.Item) (E : Env) (a : Act) (st' : DS) : Prop :=
 ∀ (b : Frame) (cs : List Frame),∃ todo a' E',Steps P (lone (b.at a k) cs E.w) (lone { b.at a' todo with mode := .returning } cs E'.w) ∧ Fr own E E' ∧ Inv own tm E' st' a'.tmps ∧ nt ≤ a'.tmps.size ∧ a'.defers = a.defers ∧ Inh K E E'
theorem Ends.steps {k k' : List Go.Item} {E E' : Env} {a a' : Act} {st' : DS} (h : ∀ (b : Frame) (cs : List Frame),Steps P (lone (b.at a k) cs E.w) (lone (b.at a' k') cs E'.w)) (f : Fr own E E') (hd : a'.defers = a.defers) (hh : Inh K E E')
  (e : Ends P own tm nt K k' E' a' st') : Ends P own tm nt K k E a st' := by
 intro b cs
 obtain ⟨todo,a2,E2,s,f2,i,n,d,hh2⟩ := e b cs
 exact ⟨todo,a2,E2,(h b cs).trans s,f.trans f2,i,n,d.trans hd,hh.trans hh2⟩
theorem region_steps {id : Nat} {ops : Array Oper} {dr : Bool} {E : Env} {a : Act} {lo hi : Nat} {st1 : DS}
  (h : ∀ {Q : Exit→Act→World→Prop},Next own tm lo hi E a st1 (Q .normal)→(Code.region id ops dr).wp P Q a E.w) (hs : nt ≤ a.tmps.size) :
  ∀ (k : List Go.Item) (b : Frame) (cs : List Frame),∃ E' a',Move own E E' ∧ (∀ p,E'.born p→E.born p ∨ (lo ≤ p ∧ p < hi)) ∧ Inv own tm E' st1 a'.tmps ∧ nt ≤ a'.tmps.size ∧ a'.defers = a.defers ∧
   Steps P (lone (b.at a (.code (.region id ops dr) :: k)) cs E.w) (lone (b.at a' k) cs E'.w) := by
 intro k b cs
 have := h (Q := fun e a' w'=>e = .normal ∧ ∃ E',E'.w = w' ∧ Move own E E' ∧ (∀ p,E'.born p→E.born p ∨ (lo ≤ p ∧ p < hi)) ∧ Inv own tm E' st1 a'.tmps ∧ nt ≤ a'.tmps.size ∧ a'.defers = a.defers)
  (fun E' a' m bo i sz d=>⟨rfl,E',rfl,m,bo,i,sz ▸ hs,d⟩)
 obtain ⟨e,a',w',⟨rfl,E',rfl,m,bo,i,sz,d⟩,harr⟩ := this b k cs
 exact ⟨E',a',m,bo,i,sz,d,harr⟩
theorem Inv.clear {tmps} {E : Env} {st : DS} (h : Inv own tm E st tmps) (nx : Nat) : Inv own tm E { st with T := [],nx := nx } tmps :=
 { h with T := fun n v hn=>by simp [look] at hn }
theorem sim {Gd : Ground} : ∀ (n : Nat),(∀ m,m < n→COK P Gd (tab Q m))→∀ {k : List Go.Item} {l : List Item} {st st' : DS} {E : Env} {a : Act},run Q n l st = some st'→Its P tm hp nt K k l→Gd.On own E→Inv own tm E st a.tmps→nt ≤ a.tmps.size→(∀ p,E.born p→p < st.nx)→(∀ i,i < K→E.born i) →
  Ends P own tm nt K k E a st'
 | 0,_,k,l,st,st',E,a,h,_,_,_,_,_,_=>by simp [run] at h
 | n + 1,hC,k,l,st,st',E,a,h,hits,hG,hi,hs,hb,hK=>by
  have ih := fun {k l st st' E a}=>sim n (fun m hm=>hC m (by omega)) (k := k) (l := l) (st := st) (st' := st') (E := E) (a := a)
  obtain ⟨k',hits,hns,hsteps⟩ := hits.peel
  refine Ends.steps (E' := E) (a' := a) (k' := k') (fun b cs=>hsteps b a cs E.w) (Fr.refl _ _) rfl (Inh.refl hK) ?_
  have one : ∀ {k1 : List Go.Item} {l1 : List Item},(∀ (b : Frame) (cs : List Frame),step P (lone (b.at a k') cs E.w) = .next (lone (b.at a k1) cs E.w))→Its P tm hp nt K k1 l1→run Q n l1 st = some st'→Ends P own tm nt K k' E a st' :=
   fun h1 h2 h3=>Ends.steps (fun b cs=>.one (h1 b cs)) (Fr.refl _ _) rfl (Inh.refl hK) (ih h3 h2 hG hi hs hb hK)
  have head : ∀ {k1 : List Go.Item} {l1 : List Item} {keep : List (Nat × KMode)},keepOK tm nt K keep→(∀ (b : Frame) (cs : List Frame),step P (lone (b.at a k') cs E.w) = .next (lone (b.at a k1) cs E.w))→Its P tm hp nt K k1 l1→run Q n l1 (canon keep st) = some st'→Ends P own tm nt K k' E a st' := by
   intro k1 l1 keep hk h1 h2 h3
   obtain ⟨E',w',c',i',b',hin⟩ := canon_ok hi hk.1 hs
   rw [hk.2] at hin
   have e := ih h3 h2 (Gd.same c' w' hG) i' hs b' hin.born
   refine Ends.steps (E' := E') (a' := a) (fun b cs=>?_) (Fr.same c' w') rfl hin e
   rw [w']; exact .one (h1 b cs)
  cases hits with
  | scope r=>exact (hns _ _ rfl).elim
  | nil =>
   simp only [run,Option.some.injEq] at h
   subst h
   exact fun b cs=>⟨[],a,E,.one step_end,Fr.refl _ _,hi,hs,rfl,Inh.refl hK⟩
  | blk r =>
   simp only [run] at h
   exact one (fun b cs=>step_inBlock) r h
  | lp hk ht hh r =>
   simp only [run] at h
   exact head hk (fun b cs=>step_inLoop) (.code ht hh (.lp hk ht hh r)) h
  | code ht hh r =>
   rename_i c m k0 l0
   cases m with
   | skip =>
    simp only [run] at h
    cases c with
    | skip=>exact one (fun b cs=>step_skip) r h
    | label=>exact one (fun b cs=>step_label) r h
    | region id' ops' dr=>cases dr <;> exact ht.elim
    | _=>exact ht.elim
   | rg ops =>
    simp only [run] at h
    split at h
    ·rename_i st1 h1
     unfold dRegion at h1
     split at h1
     ·rename_i st2 h2
      cases h1
      cases c with
      | region id ops' dr =>
       cases dr with
       | false =>
        simp only [trCode] at ht
        have hl : ops.length = ops'.size := by simpa using (trOpers_get ht).1
        intro b cs
        obtain ⟨E1,a1,m1,b1,i1,s1,d1,hst⟩ := region_steps (hi := st.nx + 4 * ops'.size) (fun hK=>region_ok (hC n (by omega)) hG ht hi hs hb h2 hK) hs k0 b cs
        have e := ih h r (Gd.move m1 hG) (i1.clear _) s1 (fun p hp=>by
         show p < st.nx + 4 * ops.length
         rcases b1 p hp with hp | hp
         ·have := hb p hp; omega
         ·omega) (m1.inh hK).born
        obtain ⟨todo,a2,E2,s2,f2,i2,n2,d2,h2⟩ := e b cs
        exact ⟨todo,a2,E2,hst.trans s2,m1.fr.trans f2,i2,n2,d2.trans d1,(m1.inh hK).trans h2⟩
       | true=>exact ht.elim
      | _=>exact ht.elim
     ·cases h1
    ·cases h
   | rgd ops pre =>
    simp only [run] at h
    split at h
    ·rename_i st1 h1
     unfold dRegionD at h1
     split at h1
     ·rename_i st2 h2
      cases h1
      cases c with
      | region id ops' dr =>
       cases dr with
       | true =>
        simp only [trCode] at ht
        obtain ⟨ht,hp,hm⟩ := ht
        have hl : ops.length = ops'.size := by simpa using (trOpers_get ht).1
        obtain ⟨md,hid⟩ := hi.drew
        intro b cs
        have reg : ∃ E' a',Move own { E with w := { E.w with drawn := E.w.drawn + 1 } } E' ∧ (∀ p,E'.born p→E.born p ∨ (st.nx ≤ p ∧ p < st.nx + 4 * ops'.size)) ∧ Inv own tm E' st2 a'.tmps ∧ nt ≤ a'.tmps.size ∧ a'.defers = a.defers ∧
          Steps P (lone (b.at a (.code (.region id ops' true) :: k0)) cs E.w) (lone (b.at a' k0) cs E'.w) := by
         have := regionD_ok (E := E) (id := id) (Q := fun e a' w'=>e = .normal ∧ ∃ E',E'.w = w' ∧ Move own { E with w := { E.w with drawn := E.w.drawn + 1 } } E' ∧ (∀ p,E'.born p→E.born p ∨ (st.nx ≤ p ∧ p < st.nx + 4 * ops'.size)) ∧ Inv own tm E' st2 a'.tmps ∧ nt ≤ a'.tmps.size ∧ a'.defers = a.defers)
          (hC n (by omega)) ht hp hm (Gd.move md hG) hid hs hb h2 (fun E' a' m bo i sz d=>⟨rfl,E',rfl,m,bo,i,sz ▸ hs,d⟩)
         obtain ⟨e,a',w',⟨rfl,E',rfl,m,bo,i,sz,d⟩,harr⟩ := this b k0 cs
         exact ⟨E',a',m,bo,i,sz,d,harr⟩
        obtain ⟨E1,a1,m1,b1,i1,s1,d1,hst⟩ := reg
        have e := ih h r (Gd.move m1 (Gd.move md hG)) (i1.clear _) s1 (fun p hp=>by
         show p < st.nx + 4 * ops.length
         rcases b1 p hp with hp | hp
         ·have := hb p hp; omega
         ·omega) ((md.trans m1).inh hK).born
        obtain ⟨todo,a2,E2,s2,f2,i2,n2,d2,h2⟩ := e b cs
        exact ⟨todo,a2,E2,hst.trans s2,(md.trans m1).fr.trans f2,i2,n2,d2.trans d1,((md.trans m1).inh hK).trans h2⟩
       | false=>exact ht.elim
      | _=>exact ht.elim
     ·cases h1
    ·cases h
   | seq x y =>
    simp only [run] at h
    cases c with
    | seq x' y' =>
     simp only [trCode] at ht
     simp only [MCode.inhB,Bool.and_eq_true] at hh
     exact one (fun b cs=>step_seq) (.code ht.1 hh.1 (.code ht.2 hh.2 r)) h
    | region id' ops' dr=>cases dr <;> exact ht.elim
    | _=>exact ht.elim
   | cond q x y =>
    simp only [run] at h
    split at h
    ·rename_i t hq
     cases c with
     | cond q' x' y' =>
      simp only [trCode] at ht
      have hr := rd_ok hi ht.1
      rw [hq] at hr
      generalize hv : a.eval q' = v at hr
      cases hr
      simp only [MCode.inhB,Bool.and_eq_true] at hh
      refine one (k1 := .code (if t then x' else y') :: k0) (fun b cs=>step_cond hv) (.code ?_ ?_ r) h
      ·cases t
       ·exact ht.2.2
       ·exact ht.2.1
      ·cases t
       ·exact hh.2
       ·exact hh.1
     | region id' ops' dr=>cases dr <;> exact ht.elim
     | _=>exact ht.elim
    ·cases h
   | block id x =>
    simp only [run] at h
    cases c with
    | block id' x' =>
     simp only [trCode] at ht
     obtain ⟨rfl,ht⟩ := ht
     exact one (fun b cs=>step_block) (.code ht hh (.blk r)) h
    | region id' ops' dr=>cases dr <;> exact ht.elim
    | _=>exact ht.elim
   | loop keep x =>
    simp only [run] at h
    cases c with
    | loop x' =>
     simp only [trCode] at ht
     simp only [MCode.inhB,Bool.and_eq_true,decide_eq_true_eq] at hh
     exact head ⟨ht.1,hh.1⟩ (fun b cs=>step_loop) (.code ht.2 hh.2 (.lp ⟨ht.1,hh.1⟩ ht.2 hh.2 r)) h
    | region id' ops' dr=>cases dr <;> exact ht.elim
    | _=>exact ht.elim
   | exit id =>
    simp only [run] at h
    split at h
    ·rename_i l1 hu
     cases c with
     | exit id' =>
      simp only [trCode] at ht
      subst ht
      obtain ⟨k1,h1,h2⟩ := Its.exit r hu
      exact one (fun b cs=>step_exit h1) h2 h
     | region id' ops' dr=>cases dr <;> exact ht.elim
     | _=>exact ht.elim
    ·cases h
   | scope x =>
    simp only [run] at h
    cases c with
    | scope x' =>
     simp only [trCode] at ht
     exact one (fun b cs=>step_scope) (.code ht hh (.scope r)) h
    | region id' ops' dr=>cases dr <;> exact ht.elim
    | _=>exact ht.elim
   | ret =>
    simp only [run,Option.some.injEq] at h
    subst h
    cases c with
    | ret=>exact fun b cs=>⟨_,a,E,.one step_ret,Fr.refl _ _,hi,hs,rfl,Inh.refl hK⟩
    | region id' ops' dr=>cases dr <;> exact ht.elim
    | _=>exact ht.elim
   | bad=>simp [run] at h
end Go.Mini

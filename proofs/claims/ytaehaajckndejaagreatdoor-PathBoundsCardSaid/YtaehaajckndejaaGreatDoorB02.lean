/- the interpreter is sound, the whole; what a law's row needs of it; no conditions. -/
import Derived.Test.YtaehaajckndejaaGreatDoorB01
import Derived.Laws.ResultCell
import Derived.ProofKit
import Derived.OpenShut
import Derived.SizedLaws
import Derived.Below
import Derived.Sort.Grow
import Derived.Deep.Draws
import Derived.KernelRfl
import Derived.Laws.BitsLemmas
set_option linter.all false
namespace Go.Mini
open Go Go.RowKit
variable {P : Program} {own : Nat→Prop} {tm : Nat→Bool} {nt : Nat} {Q : Prog}
def pkOK : PK→Prop
 | .el s=>0 < s
 | .ownE s=>0 < s
 | .full s=>0 < s
 | _=>True
def resOK (P : Program) (tm : Nat→Bool) : List ResultVar→List (Nat × Option (Bool × Nat) × PK)→Prop
 | [],[]=>True
 | .tmp t :: r,(n,none,k) :: l=>t = n ∧ tm n = false ∧ pkOK k ∧ resOK P tm r l
 | .cell a t :: r,(n,some (g,s),k) :: l=>a = n ∧ tm n = false ∧ aggT P t = some g ∧ sizeT P t = some s ∧ pkOK k ∧ resOK P tm r l
 | _,_=>False
def resF (tmps : Array Value) : ResultVar→Sem Value
 | .tmp t=>pure (tmps.getD t undef)
 | .cell a t=>do loadVar t (← asAddr (tmps.getD a undef))
def Env.forget (E : Env) (o : Nat) : Env := { E with len := fun p=>if p = o then .none else E.len p }
theorem Inv.forget {E : Env} {st : DS} {tmps} (h : Inv own tm E st tmps) {o : Nat} {ob : Obj} (ho : look st.O o = some ob) :
  Move own E (E.forget o) ∧ Inv (fun k=>own k ∧ E.blk o ≠ some k) tm (E.forget o) { st with O := drop st.O o } tmps := by
 have x : Ext E (E.forget o) := by
  refine ⟨fun _=>Nat.le_refl _,fun _ _ _=>rfl,fun _ h=>h,fun p _ n hn=>?_⟩
  have hn : (if p = o then none else E.len p) = some n := hn
  split at hn
  ·cases hn
  ·exact ⟨hn,rfl,rfl,rfl⟩
 have m : Move own E (E.forget o) := ⟨x,rfl,rfl,rfl,Nat.le_refl _,fun _ _ _=>rfl,fun _ _=>rfl⟩
 have lk : ∀ p,look (drop st.O o) p = if o = p then none else look st.O p := look_drop st.O o
 have ne : ∀ {p},look (drop st.O o) p ≠ none→p ≠ o ∧ look st.O p ≠ none := by
  intro p hp
  rw [lk] at hp
  split at hp
  ·exact (hp rfl).elim
  ·rename_i h1; exact ⟨Ne.symm h1,hp⟩
 refine ⟨m,?_⟩
 refine { len := fun p=>?_,objs := fun p y hp=>?_,sep := fun p q b hp hq=>h.sep p q b (ne hp).2 (ne hq).2,ownb := fun p b hp hpb=>⟨h.ownb p b (ne hp).2 hpb,fun hob=>?_⟩,good := h.good,born := fun p hp=>h.born p (ne hp).2,base := fun k hk=>⟨h.base k hk,fun hob=>?_⟩,tabs := fun k g hk ht=>(h.tabs k g hk ht).ext x,T := fun n v hn=>?_,V := fun n v hn=>?_ }
 ·show (if p = o then none else E.len p) = (look (drop st.O o) p).map Obj.len
  rw [lk]
  by_cases hp : p = o
  ·simp [hp]
  ·rw [if_neg hp,if_neg (Ne.symm hp),h.len]
 ·have hp : look (drop st.O o) p = some y := hp
  rw [lk] at hp
  split at hp
  ·cases hp
  ·exact (h.objs p y hp).ext x rfl rfl rfl fun b _=>⟨rfl,rfl⟩
 ·exact (ne hp).1 (h.sep p o b (ne hp).2 (by rw [ho]; simp) hpb hob)
 ·have := h.lt ho hob
  have hk : E.w.heap.size ≤ k := hk
  omega
 ·obtain ⟨a,y,b,c⟩ := h.T n v hn; exact ⟨a,y,b,c.ext x⟩
 ·obtain ⟨a,y,b,c⟩ := h.V n v hn; exact ⟨a,y,b,c.ext x⟩
theorem Inv.len_own {E : Env} {st : DS} {tmps} (h : Inv own tm E st tmps) {o n : Nat} {x : Value} (hr : RelV E (.own o n) x) {ob : Obj} (ho : look st.O o = some ob) (hn : ob.len = n) : x = hdr E o n := by
 cases hr with
 | own hb h1 hh=>exact hh (by rw [h.len,ho]; exact congrArg some hn)
theorem leaveOne_ok {E : Env} {st st' : DS} {tmps} (h : Inv own tm E st tmps) {lo : Nat} (hlo : ∀ k,own k→lo ≤ k) {k : PK} (hk : pkOK k) {v y : MV} {x : Value} (hr : RelV E v x) (e : leaveOne k v st = some (y,st')) :
  ∃ E' b,E'.w = E.w ∧ Move own E E' ∧ Inv (fun k=>own k ∧ b ≠ some k) tm E' st' tmps ∧ RetV E' lo y x b ∧ (∀ k,b = some k→own k) := by
 have plain : lend v st = some (y,st')→∃ E' b,E'.w = E.w ∧ Move own E E' ∧ Inv (fun k=>own k ∧ b ≠ some k) tm E' st' tmps ∧ RetV E' lo y x b ∧ (∀ k,b = some k→own k) := by
  intro e
  obtain ⟨E',m,w,_,i,r,p,_⟩ := lend_sound h hr e
  refine ⟨E',none,w,m,?_,.pure r p,by simp⟩
  have : (fun k=>own k ∧ (none : Option Nat) ≠ some k) = own := by funext k; simp
  rw [this]; exact i
 have same : st' = st→RetV E lo y x none→∃ E' b,E'.w = E.w ∧ Move own E E' ∧ Inv (fun k=>own k ∧ b ≠ some k) tm E' st' tmps ∧ RetV E' lo y x b ∧ (∀ k,b = some k→own k) := by
  rintro rfl hr
  refine ⟨E,none,rfl,Move.refl _ _,?_,hr,by simp⟩
  have : (fun k=>own k ∧ (none : Option Nat) ≠ some k) = own := by funext k; simp
  rw [this]; exact h
 unfold leaveOne at e
 split at e
 ·cases e; cases hr; exact same rfl (.pure (.bs (Nat.le_refl _) (by simp) fun hn=>(hn rfl).elim) .bs)
 ·cases e; cases hr; exact same rfl (.pure (.sl (Nat.le_refl _) (by simp) hk (fun e he=>by cases he) .nil fun hn=>(hn rfl).elim) (.sl fun e he=>by cases he))
 ·cases e; cases hr; exact same rfl .fby0
 ·cases e; cases hr; exact same rfl (.fel0 hk)
 ·rename_i o n
  split at e
  ·rename_i l ho
   split at e
   ·rename_i hn
    cases e
    have hx := h.len_own hr ho hn
    obtain ⟨m,i⟩ := h.forget ho
    have ok := h.objs o _ ho
    subst hn
    cases ok with
    | byt0 k1 k2 =>
     have : x = .slice none 0 0 := by rw [hx]; unfold hdr; rw [k1]; 
     subst this
     refine ⟨E.forget o,none,rfl,m,?_,.fby0,by simp⟩
     rw [k1] at i; exact i
    | byt k1 k2 k3 k4 k5 =>
     rename_i b
     have : x = .slice (some ⟨b,0,none⟩) l.length (E.cap o) := by rw [hx]; unfold hdr; rw [k1]
     subst this
     have hob := h.ownb o b (by rw [ho]; simp) k1
     refine ⟨E.forget o,some b,rfl,m,?_,.fby (hlo b hob) k3 k4 ⟨k5.row,k5.com,k5.not⟩,fun k hk=>by cases hk; exact hob⟩
     rw [k1] at i; exact i
   ·cases e
  ·cases e
 ·rename_i s o n
  split at e
  ·rename_i s' l ho
   split at e
   ·rename_i hc
    obtain ⟨hn,hs⟩ := hc
    cases e
    have hx := h.len_own hr ho hn
    obtain ⟨m,i⟩ := h.forget ho
    have ok := h.objs o _ ho
    subst hn; subst hs
    cases ok with
    | el0 k1 k2 k3 =>
     have : x = .slice none 0 0 := by rw [hx]; unfold hdr; rw [k1]; 
     subst this
     refine ⟨E.forget o,none,rfl,m,?_,.fel0 k3,by simp⟩
     rw [k1] at i; exact i
    | el k1 k2 k3 k4 k5 k6 k7 k8 =>
     rename_i b vs
     have : x = .slice (some ⟨b,0,none⟩) l.length (E.cap o) := by rw [hx]; unfold hdr; rw [k1]
     subst this
     have hob := h.ownb o b (by rw [ho]; simp) k1
     refine ⟨E.forget o,some b,rfl,m,?_,.fel (hlo b hob) k3 k4 k5 k6 (k7.ext m.toExt) ⟨k8.row,k8.com,k8.not⟩,fun k hk=>by cases hk; exact hob⟩
     rw [k1] at i; exact i
   ·cases e
  ·cases e
 ·exact plain e
theorem Fr.widen {E E' : Env} {own' : Nat→Prop} (h : Fr own' E E') (hw : ∀ k,own' k→own k) : Fr own E E' :=
 ⟨h.C,h.cell,h.os,h.tape,h.output,h.size,fun k hk hn=>h.block k hk fun h'=>hn (hw k h'),fun k hn=>h.com k fun h'=>hn (hw k h')⟩
theorem slotV {E : Env} {st : DS} {tmps : Array Value} (h : Inv own tm E st tmps) {n : Nat} (_ : tm n = false) : RelV E ((look st.V n).getD .undef) (tmps.getD n undef) := by
 cases hl : look st.V n with
 | none=>exact .undef
 | some v =>
  obtain ⟨_,x,hx,hr⟩ := h.V n v hl
  have : tmps.getD n undef = x := by simp [Array.getD_eq_getD_getElem?,hx]
  rw [this]; exact hr
def leaveGet (c : Option (Bool × Nat)) (v : MV) (st : DS) : Option (MV × DS) :=
 match c with
 | none=>some (v,st)
 | some (g,s)=>loadV g s v st
theorem leave_ok {lo : Nat} {tmps : Array Value} : ∀ {res : List ResultVar} {rs : List (Nat × Option (Bool × Nat) × PK)} {own : Nat→Prop} {E : Env} {st : DS} {ys : List MV},resOK P tm res rs→Inv own tm E st tmps→(∀ k,own k→lo ≤ k)→leave rs st = some ys →
  ∃ E' xs bs,(res.mapM (resF tmps)).run P E.w = .ok xs E.w ∧ E'.w = E.w ∧ Fr own E E' ∧ (∀ b,0 < E'.C b→b < E'.w.heap.size) ∧ RetL E' lo ys xs bs ∧ ∀ b ∈ bs,own b
 | [],[],own,E,st,ys,_,hi,_,h=>by
  simp only [leave,Option.some.injEq] at h
  subst h
  exact ⟨E,[],[],rfl,rfl,Fr.refl _ _,hi.good,.nil,by simp⟩
 | rv :: res,(n,c,k) :: rs,own,E,st,ys,hr,hi,hlo,h=>by
  simp only [leave] at h
  have item : ∀ {v : MV} {st1 : DS},leaveGet c ((look st.V n).getD .undef) st = some (v,st1) →
    ∃ E1 x,(resF tmps rv).run P E.w = .ok x E.w ∧ E1.w = E.w ∧ Move own E E1 ∧ Inv own tm E1 st1 tmps ∧ RelV E1 v x ∧ pkOK k ∧ resOK P tm res rs := by
   intro v st1 hv
   cases rv with
   | tmp t =>
    cases c with
    | some c=>exact hr.elim
    | none =>
     obtain ⟨rfl,htm,hpk,hrest⟩ := hr
     cases hv
     exact ⟨E,_,rfl,rfl,Move.refl _ _,hi,slotV hi htm,hpk,hrest⟩
   | cell a t =>
    cases c with
    | none=>exact hr.elim
    | some c =>
     obtain ⟨g,s⟩ := c
     obtain ⟨rfl,htm,ha,hs,hpk,hrest⟩ := hr
     obtain ⟨E',y,hrun,m,w',b1,i',r,_⟩ := load_ok (P := P) (a := { tmps := tmps,defers := [] }) hi ha hs (slotV hi htm) hv
     refine ⟨E',y,?_,w',m,i',r,hpk,hrest⟩
     show (do loadVar t (← asAddr (tmps.getD a undef)) : Sem Value).run P E.w = _
     generalize tmps.getD a undef = vx at hrun
     cases vx with
     | pointer ad =>
      cases ad with
      | none=>simp [Instr.loadAt,Instr.sureAddr,runtimePanic] at hrun
      | some ad =>
       simp only [Instr.loadAt,Instr.sureAddr,Sem.run_bind,Sem.run_pure,Result.andThen_ok] at hrun
       simp only [asAddr,Sem.run_bind,Sem.run_pure,Result.andThen_ok]
       exact hrun
     | _=>simp [Instr.loadAt,Instr.sureAddr,stuck] at hrun
  split at h
  ·rename_i v st1 h1
   obtain ⟨E1,x,hrun,w1,m1,i1,r1,hpk,hrest⟩ := item (by cases c <;> exact h1)
   split at h
   ·rename_i y st2 h2
    split at h
    ·rename_i ys' h3
     cases h
     obtain ⟨E2,b,w2,m2,i2,r2,hb⟩ := leaveOne_ok i1 hlo hpk r1 h2
     obtain ⟨E3,xs,bs,hrun3,w3,f3,g3,r3,hbs⟩ := leave_ok hrest i2 (fun k hk=>hlo k hk.1) h3
     have hww : E2.w = E.w := w2.trans w1
     rw [hww] at hrun3
     refine ⟨E3,x :: xs,b.toList ++ bs,?_,w3.trans hww,(m1.fr.trans m2.fr).trans (f3.widen fun k hk=>hk.1),g3,.cons ?_ r3 (fun k hk hkb=>?_),?_⟩
     ·rw [List.mapM_cons]
      simp only [Sem.run_bind,hrun,Result.andThen_ok,hrun3,Sem.run_pure]
     ·have xx : ∀ {v : MV} {x : Value},RelV E2 v x→Pure v→RelV E3 v x := by
       intro v x hv hp
       have : Ext { E2 with born := fun _=>False,len := fun _=>none } { E3 with born := fun _=>False,len := fun _=>none } := ⟨f3.C,f3.cell,fun _ h=>h,fun _ h=>h.elim⟩
       have h1 := RelV.bare (E := E2) (E' := { E2 with born := fun _=>False,len := fun _=>none }) rfl rfl hv hp
       exact RelV.bare (E := { E3 with born := fun _=>False,len := fun _=>none }) (E' := E3) rfl rfl (h1.ext this) hp
      have xl : ∀ {l : List MV} {vs : List Value},RelL E2 l vs→(∀ e ∈ l,Pure e)→RelL E3 l vs := by
       intro l
       induction l with
       | nil=>intro vs h _; cases h; exact .nil
       | cons e l ih=>intro vs h hp; cases h with | cons h1 h2=>exact .cons (xx h1 (hp e (by simp))) (ih h2 fun e he=>hp e (by simp [he]))
      have row : ∀ {b' cap s vs},b = some b'→Row E2 b' cap s vs false→Row E3 b' cap s vs false := by
       intro b' cap s vs hbb hrow
       have hc : E3.C b' = E2.C b' := f3.com b' (fun h=>h.2 hbb)
       exact ⟨by rw [w3]; exact hrow.row,by rw [hc]; exact hrow.com,by rw [hc]; exact hrow.not⟩
      cases r2 with
      | pure h p=>exact .pure (xx h p) p
      | fby0=>exact .fby0
      | fby a1 a2 a3 a4=>exact .fby a1 a2 a3 (row rfl a4)
      | fel0 a=>exact .fel0 a
      | fel a1 a2 a3 a4 a5 a6 a7=>exact .fel a1 a2 a3 a4 a5 (xl a6 fun c hc=>by
        obtain ⟨e,he,hce⟩ := List.mem_flatMap.1 hc
        exact (a5 e he).2.2.cells c hce) (row rfl a7)
     ·exact (hbs k hkb).2 hk
     ·intro k hk
      rcases List.mem_append.1 hk with hk | hk
      ·exact hb k (by simpa using hk)
      ·exact (hbs k hk).1
    ·cases h
   ·cases h
  ·cases h
 | [],_ :: _,_,_,_,_,hr,_,_,_=>hr.elim
 | .tmp _ :: _,[],_,_,_,_,hr,_,_,_=>hr.elim
 | .cell _ _ :: _,[],_,_,_,_,hr,_,_,_=>hr.elim
theorem leaveOneH_ok {E : Env} {st st' : DS} {tmps} (h : Inv own tm E st tmps) {k : PK} (hk : pkOK k) {v y : MV} {x : Value} (hr : RelV E v x) (e : leaveOneH k v st = some (y,st')) :
  ∃ E',Move own E E' ∧ E'.w = E.w ∧ E'.born = E.born ∧ Inv own tm E' st' tmps ∧ RelV E' y x ∧ st'.V = st.V := by
 have lent : ∀ {y st'},lend v st = some (y,st')→∃ E',Move own E E' ∧ E'.w = E.w ∧ E'.born = E.born ∧ Inv own tm E' st' tmps ∧ RelV E' y x ∧ st'.V = st.V := by
  intro y st' e
  obtain ⟨E',m,w,b,i,r,_,_,hV,_⟩ := lend_sound h hr e
  exact ⟨E',m,w,b,i,r,hV⟩
 have same : ∀ {y st'},y = v→st' = st→∃ E',Move own E E' ∧ E'.w = E.w ∧ E'.born = E.born ∧ Inv own tm E' st' tmps ∧ RelV E' y x ∧ st'.V = st.V := by
  rintro y st' rfl rfl
  exact ⟨E,Move.refl _ _,rfl,rfl,h,hr,rfl⟩
 cases k with
 | ref =>
  simp only [leaveOneH,Option.some.injEq,Prod.mk.injEq] at e
  exact same e.1.symm e.2.symm
 | ownB=>simp [leaveOneH] at e
 | ownE s=>simp [leaveOneH] at e
 | other=>exact lent (by simpa [leaveOneH,leaveOne] using e)
 | full s=>exact lent (by simpa [leaveOneH,leaveOne] using e)
 | byt =>
  by_cases hv : v = .nilsl
  ·subst hv
   simp only [leaveOneH,leaveOne,Option.some.injEq,Prod.mk.injEq] at e
   obtain ⟨rfl,rfl⟩ := e
   refine ⟨E,Move.refl _ _,rfl,rfl,h,?_,rfl⟩
   cases hr; exact .bs (Nat.le_refl _) (by simp) fun hn=>(hn rfl).elim
  ·refine lent ?_
   have : leaveOne .byt v st = lend v st := by cases v <;> first | rfl | exact (hv rfl).elim
   rw [← this]; exact e
 | el s =>
  by_cases hv : v = .nilsl
  ·subst hv
   simp only [leaveOneH,leaveOne,Option.some.injEq,Prod.mk.injEq] at e
   obtain ⟨rfl,rfl⟩ := e
   refine ⟨E,Move.refl _ _,rfl,rfl,h,?_,rfl⟩
   cases hr; exact .sl (Nat.le_refl _) (by simp) hk (fun e he=>by cases he) .nil fun hn=>(hn rfl).elim
  ·refine lent ?_
   have : leaveOne (.el s) v st = lend v st := by cases v <;> first | rfl | exact (hv rfl).elim
   rw [← this]; exact e
theorem leaveH_ok {tmps : Array Value} : ∀ {res : List ResultVar} {rs : List (Nat × Option (Bool × Nat) × PK)} {E : Env} {st st' : DS} {ys : List MV},resOK P tm res rs→Inv own tm E st tmps→leaveH rs st = some (ys,st') →
  ∃ E' xs,(res.mapM (resF tmps)).run P E.w = .ok xs E.w ∧ E'.w = E.w ∧ E'.born = E.born ∧ Move own E E' ∧ Inv own tm E' st' tmps ∧ RelL E' ys xs
 | [],[],E,st,st',ys,_,hi,h=>by
  simp only [leaveH,Option.some.injEq,Prod.mk.injEq] at h
  obtain ⟨rfl,rfl⟩ := h
  exact ⟨E,[],rfl,rfl,rfl,Move.refl _ _,hi,.nil⟩
 | rv :: res,(n,c,k) :: rs,E,st,st',ys,hr,hi,h=>by
  simp only [leaveH] at h
  have item : ∀ {v : MV} {st1 : DS},leaveGet c ((look st.V n).getD .undef) st = some (v,st1) →
    ∃ E1 x,(resF tmps rv).run P E.w = .ok x E.w ∧ E1.w = E.w ∧ E1.born = E.born ∧ Move own E E1 ∧ Inv own tm E1 st1 tmps ∧ RelV E1 v x ∧ pkOK k ∧ resOK P tm res rs := by
   intro v st1 hv
   cases rv with
   | tmp t =>
    cases c with
    | some c=>exact hr.elim
    | none =>
     obtain ⟨rfl,htm,hpk,hrest⟩ := hr
     cases hv
     exact ⟨E,_,rfl,rfl,rfl,Move.refl _ _,hi,slotV hi htm,hpk,hrest⟩
   | cell a t =>
    cases c with
    | none=>exact hr.elim
    | some c =>
     obtain ⟨g,s⟩ := c
     obtain ⟨rfl,htm,ha,hs,hpk,hrest⟩ := hr
     obtain ⟨E',y,hrun,m,w',b1,i',r,_⟩ := load_ok (P := P) (a := { tmps := tmps,defers := [] }) hi ha hs (slotV hi htm) hv
     refine ⟨E',y,?_,w',b1,m,i',r,hpk,hrest⟩
     show (do loadVar t (← asAddr (tmps.getD a undef)) : Sem Value).run P E.w = _
     generalize tmps.getD a undef = vx at hrun
     cases vx with
     | pointer ad =>
      cases ad with
      | none=>simp [Instr.loadAt,Instr.sureAddr,runtimePanic] at hrun
      | some ad =>
       simp only [Instr.loadAt,Instr.sureAddr,Sem.run_bind,Sem.run_pure,Result.andThen_ok] at hrun
       simp only [asAddr,Sem.run_bind,Sem.run_pure,Result.andThen_ok]
       exact hrun
     | _=>simp [Instr.loadAt,Instr.sureAddr,stuck] at hrun
  split at h
  ·rename_i v st1 h1
   obtain ⟨E1,x,hrun,w1,b1,m1,i1,r1,hpk,hrest⟩ := item (by cases c <;> exact h1)
   split at h
   ·rename_i y st2 h2
    split at h
    ·rename_i ys' st3 h3
     cases h
     obtain ⟨E2,m2,w2,b2,i2,r2,_⟩ := leaveOneH_ok i1 hpk r1 h2
     obtain ⟨E3,xs,hrun3,w3,b3,m3,i3,r3⟩ := leaveH_ok hrest i2 h3
     have hww : E2.w = E.w := w2.trans w1
     rw [hww] at hrun3
     refine ⟨E3,x :: xs,?_,w3.trans hww,b3.trans (b2.trans b1),(m1.trans m2).trans m3,i3,.cons (r2.ext m3.toExt) r3⟩
     rw [List.mapM_cons]
     simp only [Sem.run_bind,hrun,Result.andThen_ok,hrun3,Sem.run_pure]
    ·cases h
   ·cases h
  ·cases h
 | [],_ :: _,_,_,_,_,hr,_,_=>hr.elim
 | .tmp _ :: _,[],_,_,_,_,hr,_,_=>hr.elim
 | .cell _ _ :: _,[],_,_,_,_,hr,_,_=>hr.elim
def Env.out (E : Env) (ns : List Nat) (O : List (Nat × Obj)) : Env :=
 { C := E.C, w := E.w, born := fun p => p ≤ ns.length, len := fun p => (look O p).map Obj.len, blk := fun p => (ns[p]?).bind E.blk
   cap := fun p=>match ns[p]? with | some o=>E.cap o | .none=>0
   sz := fun p=>match ns[p]? with | some o=>E.sz o | .none=>0 }
theorem out_at (ns : List Nat) (st : DS) (p : Nat) : look (idxO 0 (ns.map fun o=>(look st.O o).map (renObj ns))) p = (ns[p]?).bind fun o=>(look st.O o).map (renObj ns) := by
 rw [look_idxO,if_neg (by omega),Nat.sub_zero,List.getElem?_map]
 cases ns[p]? <;> rfl
theorem out_map {tmps} {st : DS} {E : Env} (h : Inv own tm E st tmps) (ns : List Nat) : MapOK E (E.out ns (idxO 0 (ns.map fun o=>(look st.O o).map (renObj ns)))) (nameOf ns) where
 C := rfl
 w := rfl
 nm o ho := by
  unfold nameOf
  cases hp : place ns o 0 with
  | none =>
   refine ⟨Nat.le_refl _,fun n hn=>?_⟩
   have hn : (look (idxO 0 (ns.map fun o=>(look st.O o).map (renObj ns))) ns.length).map Obj.len = some n := hn
   rw [out_at,List.getElem?_eq_none (Nat.le_refl _)] at hn
   cases hn
  | some i =>
   obtain ⟨_,hi⟩ := place_get hp
   simp only [Nat.sub_zero] at hi
   have hlt := (List.getElem?_eq_some_iff.1 hi).1
   refine ⟨Nat.le_of_lt hlt,fun n hn=>?_⟩
   have hn : (look (idxO 0 (ns.map fun o=>(look st.O o).map (renObj ns))) i).map Obj.len = some n := hn
   rw [out_at,hi] at hn
   refine ⟨?_,?_,?_⟩
   ·rw [h.len]
    cases hl : look st.O o with
    | none=>simp [hl] at hn
    | some x=>simpa [hl,renObj,mapObj_len] using hn
   ·show (ns[i]?).bind E.blk = E.blk o
    rw [hi]; rfl
   ·show (match ns[i]? with | some o=>E.cap o | none=>0) = E.cap o
    rw [hi]
theorem out_inv {tmps} {st : DS} {E : Env} (h : Inv own tm E st tmps) {ns : List Nat} (hnd : ns.Nodup) : InvO own (E.out ns (idxO 0 (ns.map fun o=>(look st.O o).map (renObj ns)))) (idxO 0 (ns.map fun o=>(look st.O o).map (renObj ns))) := by
 have m := out_map h ns
 have at' : ∀ p x,look (idxO 0 (ns.map fun o=>(look st.O o).map (renObj ns))) p = some x→∃ o y,ns[p]? = some o ∧ look st.O o = some y ∧ x = renObj ns y := by
  intro p x hp
  rw [out_at] at hp
  cases hg : ns[p]? with
  | none=>rw [hg] at hp; cases hp
  | some o =>
   rw [hg] at hp
   cases hl : look st.O o with
   | none=>simp [hl] at hp
   | some y=>exact ⟨o,y,rfl,hl,by simpa [hl] using hp.symm⟩
 refine { len := fun p=>rfl,objs := fun p x hp=>?_,sep := fun p q b hp hq hpb hqb=>?_,ownb := fun p b hp hpb=>?_,good := h.good,born := fun p hp=>?_,base := h.base,tabs := fun k g hk ht=>(nomatch ht),T := fun n v hn=>by simp [look] at hn,V := fun n v hn=>by simp [look] at hn }
 ·obtain ⟨o,y,h3,h4,rfl⟩ := at' p x hp
  refine mapObj_ok m ?_ ?_ ?_ (h.objs o y h4)
  ·show (ns[p]?).bind E.blk = _; rw [h3]; rfl
  ·show (match ns[p]? with | some o=>E.cap o | none=>0) = _; rw [h3]
  ·show (match ns[p]? with | some o=>E.sz o | none=>0) = _; rw [h3]
 ·obtain ⟨x,hx⟩ := Option.ne_none_iff_exists'.1 hp
  obtain ⟨y,hy⟩ := Option.ne_none_iff_exists'.1 hq
  obtain ⟨o,x',h3,h4,rfl⟩ := at' p x hx
  obtain ⟨o',y',h5,h6,rfl⟩ := at' q y hy
  have hpb : (ns[p]?).bind E.blk = some b := hpb
  have hqb : (ns[q]?).bind E.blk = some b := hqb
  rw [h3] at hpb; rw [h5] at hqb
  have := h.sep o o' b (by rw [h4]; simp) (by rw [h6]; simp) hpb hqb
  subst this
  obtain ⟨l1,e1⟩ := List.getElem?_eq_some_iff.1 h3
  obtain ⟨l2,e2⟩ := List.getElem?_eq_some_iff.1 h5
  exact (List.getElem_inj hnd).1 (e1.trans e2.symm)
 ·obtain ⟨x,hx⟩ := Option.ne_none_iff_exists'.1 hp
  obtain ⟨o,x',h3,h4,rfl⟩ := at' p x hx
  have hpb : (ns[p]?).bind E.blk = some b := hpb
  rw [h3] at hpb
  exact h.ownb o b (by rw [h4]; simp) hpb
 ·obtain ⟨x,hx⟩ := Option.ne_none_iff_exists'.1 hp
  obtain ⟨o,x',h3,_,_⟩ := at' p x hx
  exact Nat.le_of_lt (List.getElem?_eq_some_iff.1 h3).1
theorem out_inh {tmps} {st : DS} {E : Env} (h : Inv own tm E st tmps) {ns : List Nat} {K : Nat} (hk : ∀ i,i < K→ns[i]? = some i) : Inh K E (E.out ns (idxO 0 (ns.map fun o=>(look st.O o).map (renObj ns)))) := by
 intro i hi
 have hg := hk i hi
 have hlt := (List.getElem?_eq_some_iff.1 hg).1
 refine ⟨Nat.le_of_lt hlt,fun n hn=>?_⟩
 have hn : (look (idxO 0 (ns.map fun o=>(look st.O o).map (renObj ns))) i).map Obj.len = some n := hn
 rw [out_at,hg] at hn
 refine ⟨?_,?_,?_,?_⟩
 ·rw [h.len]
  cases hl : look st.O i with
  | none=>simp [hl] at hn
  | some x=>simpa [hl,renObj,mapObj_len] using hn
 ·show (ns[i]?).bind E.blk = _; rw [hg]; rfl
 ·show (match ns[i]? with | some o=>E.cap o | none=>0) = _; rw [hg]
 ·show (match ns[i]? with | some o=>E.sz o | none=>0) = _; rw [hg]
end Go.Mini
namespace Go.Mini
open Go Go.RowKit
variable {P : Program} {own : Nat→Prop} {tm : Nat→Bool} {hp : Option FuncId→Bool} {nt : Nat} {Q : Prog}
theorem enter_ok {E : Env} {tmps : Array Value} : ∀ {ps : List PK} {vs : List MV} {i : Nat} {st st' : DS} {xs : List Value},Inv own tm E st tmps→RelL E vs xs→(∀ v ∈ vs,Pure v)→(∀ p ∈ ps,pkOK p)→(∀ j x,xs[j]? = some x→tmps[i + j]? = some x) →
  (∀ j,j < vs.length→tm (i + j) = false)→enter i ps vs st = some st'→Inv own tm E st' tmps
 | [],[],i,st,st',xs,hi,_,_,_,_,_,h=>by simp only [enter,Option.some.injEq] at h; subst h; exact hi
 | p :: ps,[],i,st,st',xs,hi,_,_,_,_,_,h=>by simp [enter] at h
 | ps,v :: vs,i,st,st',xs,hi,hr,hp,hk,ht,hm,h=>by
  cases hr with
  | cons hv hr =>
   rename_i x xs
   have step : ∀ {v' : MV} {ps' : List PK},RelV E v' x→Pure v'→(∀ p ∈ ps',pkOK p)→enter (i + 1) ps' vs { (inst i v' st).2 with V := put (inst i v' st).2.V i (inst i v' st).1,nx := i + 1 } = some st'→Inv own tm E st' tmps := by
    intro v' ps' hv' hp' hk' h
    rw [inst_pure hp'] at h
    refine enter_ok (i := i + 1) ?_ hr (fun w hw=>hp w (by simp [hw])) hk' (fun j y hj=>?_) (fun j hj=>?_) h
    ·refine { hi with T := hi.T,V := fun n w hn=>?_ }
     have hn : look (put st.V i v') n = some w := hn
     rw [look_put] at hn
     by_cases hin : i = n
     ·subst hin
      simp only [if_true,Option.some.injEq] at hn
      subst hn
      exact ⟨by have := hm 0 (by simp); simpa using this,x,by have := ht 0 x (by simp); simpa using this,hv'⟩
     ·rw [if_neg hin] at hn
      exact hi.V n w hn
    ·have := ht (j + 1) y (by simpa using hj)
     rw [show i + 1 + j = i + (j + 1) by omega]; exact this
    ·have := hm (j + 1) (by simp; omega)
     rw [show i + 1 + j = i + (j + 1) by omega]; exact this
   cases ps with
   | nil =>
    simp only [enter] at h
    exact step hv (hp v (by simp)) (by simp) h
   | cons p ps =>
    simp only [enter] at h
    have hkp := hk p (by simp)
    refine step ?_ ?_ (fun q hq=>hk q (by simp [hq])) h
    ·cases p <;> cases v <;> first | exact hv | skip
     ·cases hv; exact .bs (Nat.le_refl _) (by simp) fun hn=>(hn rfl).elim
     ·cases hv; exact .sl (Nat.le_refl _) (by simp) hkp (fun e he=>by cases he) .nil fun hn=>(hn rfl).elim
     ·cases hv; exact .fsl (l := []) (.sl (Nat.le_refl _) (by simp) hkp (fun e he=>by cases he) .nil fun hn=>(hn rfl).elim)
    ·have := hp v (by simp)
     cases p <;> cases v <;> first | exact this | exact .bs | exact .sl fun e he=>by cases he | exact .fsl fun e he=>by cases he
def tabN (k : Nat) : String := if k = 0 then "unicode/utf8.first" else "unicode/utf8.acceptRanges"
def TabsAt (P : Program) (Gd : Ground) : Prop := ∀ E,Gd.G E→∀ k g,k < 2→P.globalNamed (tabN k) = some g→Cells E ⟨g,0,none⟩ ((tabZ k).map (.int .u8))
structure FnOK (P : Program) (f : FuncId) (m : MFunc) (fn : Func) (c : Code) (tm : Nat→Bool) (hp : Option FuncId→Bool) : Prop where
 hfn : P.funcs[f]? = some fn
 name : (fn.name == "runtime.NumGoroutine") = false
 body : fn.body = some c
 code : trCode P tm hp fn.ntmps c m.body
 res : resOK P tm fn.results.toList m.results
 par : ∀ p ∈ m.params,pkOK p
 tb : ∀ k g,k < 2→tm (1000000 + k + 2 * g) = true→P.globalNamed (tabN k) = some g
 tm : ∀ n,tm n = true→m.nargs ≤ n
 inh : m.body.inhB (m.heap.getD 0) = true
theorem RetV.bare {E E' : Env} (hC : E'.C = E.C) (hw : E'.w = E.w) {lo : Nat} {v : MV} {x : Value} {b : Option Nat} (h : RetV E lo v x b) : RetV E' lo v x b := by
 have row : ∀ {b cap s vs lent},Row E b cap s vs lent→Row E' b cap s vs lent := fun h=>⟨by rw [hw]; exact h.row,by rw [hC]; exact h.com,by rw [hC]; exact h.not⟩
 cases h with
 | pure h p=>exact .pure (h.bare hC hw p) p
 | fby0=>exact .fby0
 | fby h1 h2 h3 h4=>exact .fby h1 h2 h3 (row h4)
 | fel0 h=>exact .fel0 h
 | fel h1 h2 h3 h4 h5 h6 h7=>exact .fel h1 h2 h3 h4 h5 (RelL.bare hC hw h6 fun c hc=>by
   obtain ⟨e,he,hce⟩ := List.mem_flatMap.1 hc
   exact (h5 e he).2.2.cells c hce) (row h7)
theorem RetL.bare {E E' : Env} (hC : E'.C = E.C) (hw : E'.w = E.w) {lo : Nat} : ∀ {l : List MV} {ys : List Value} {bs : List Nat},RetL E lo l ys bs→RetL E' lo l ys bs
 | _,_,_,.nil=>.nil
 | _,_,_,.cons h r hb=>.cons (h.bare hC hw) (RetL.bare hC hw r) hb
theorem RetV.ret {E : Env} {lo : Nat} {v : MV} {x : Value} {b : Option Nat} (h : RetV E lo v x b) : Ret E lo v x := by
 by_cases ht : ∃ l,v = .tup l
 ·obtain ⟨l,rfl⟩ := ht
  cases h with
  | pure h p =>
   cases h with
   | tup hr =>
    rename_i vs
    have hp : ∀ e ∈ l,Pure e := by cases p with | tup h=>exact h
    refine ⟨vs,[],rfl,?_⟩
    clear p
    induction hr using RelL.rec (motive_1 := fun _ _ _=>True) with
    | nil=>exact .nil
    | cons h1 h2 _ ih=>exact .cons (b := none) (.pure h1 (hp _ (by simp))) (ih (fun e he=>hp e (by simp [he]))) (by simp)
    | _=>trivial
 ·cases v <;> first | exact (ht ⟨_,rfl⟩).elim | exact ⟨b,h⟩
theorem mapM_array {α β : Type} (f : α→Sem β) (a : Array α) {l : List β} {w : World} (h : (a.toList.mapM f).run P w = .ok l w) : (a.mapM f).run P w = .ok l.toArray w := by
 rw [Array.mapM_eq_mapM_toList]
 simp only [map_eq_pure_bind,Sem.run_bind,h,Result.andThen_ok,Sem.run_pure]
theorem fun_ok {Gd : Ground} (hT : TabsAt P Gd) {f : FuncId} {m : MFunc} {fn : Func} {c : Code} (hf : FnOK P f m fn c tm hp) {n : Nat} (hC : ∀ k,k < n→COK P Gd (tab Q k)) {args : List MV} {st st1 : DS} {l : List MV} (h1 : entry m args = some st) (h2 : run Q n [.code m.body] st = some st1) (h3 : leave m.results st1 = some l) :
  FunOK P Gd f args (result l) := by
 intro E vs hG good hr hp
 have hlen := hr.length
 refine .inl ⟨?_,?_⟩
 ·have hb : fn.body ≠ none := by rw [hf.body]; simp
  have hn : fn.name ≠ "runtime.NumGoroutine" := by simpa using hf.name
  simp [callFunc,hf.hfn,hn,hb]
 ·intro cs
  let E0 : Env := { C := E.C,w := E.w,born := fun _=>False,len := fun _=>none,blk := fun _=>none,cap := fun _=>0,sz := fun _=>0 }
  let tmps : Array Value := vs.toArray ++ Array.replicate (fn.ntmps - vs.toArray.size) undef
  unfold entry at h1
  split at h1
  ·rename_i hnh
   obtain ⟨hn,hheap⟩ := hnh
   have hinh : m.body.inhB 0 = true := by have := hf.inh; rw [hheap] at this; exact this
   have i0 : Inv (fun k=>E.w.heap.size ≤ k) tm E0 ⟨[],[],[],0⟩ tmps :=
    { len := fun o=>rfl,objs := fun o x hx=>by simp [look] at hx,sep := fun o o' b h=>by simp [look] at h,ownb := fun o b h=>by simp [look] at h,good := good,born := fun o h=>by simp [look] at h,base := fun k hk=>hk,tabs := fun k g hk ht=>Cells.same (E := E) (E' := E0) rfl rfl (hT E hG k g hk (hf.tb k g hk ht)),T := fun n v h=>by simp [look] at h,V := fun n v h=>by simp [look] at h }
   have i1 := enter_ok i0 (RelL.bare (E := E) (E' := E0) rfl rfl hr hp) hp hf.par (fun j x hj=>by
    rw [Nat.zero_add]
    have hlt : j < vs.toArray.size := by simpa using (List.getElem?_eq_some_iff.1 hj).1
    show (vs.toArray ++ Array.replicate (fn.ntmps - vs.toArray.size) undef)[j]? = some x
    rw [Array.getElem?_append_left hlt]
    simpa using hj) (fun j hj=>by
    rw [Nat.zero_add]
    cases htj : tm j with
    | false=>rfl
    | true=>have := hf.tm j htj; omega) h1
   let b : Frame := { (default : Frame) with fn := f,kind := .normal }
   have henter : Frame.enter P f vs.toArray .normal = b.at { tmps := tmps,defers := [] } [.code c] := by
    simp [Frame.enter,Frame.at,hf.hfn,hf.body,b,tmps]
   have hsz : fn.ntmps ≤ tmps.size := by
    show fn.ntmps ≤ (vs.toArray ++ Array.replicate (fn.ntmps - vs.toArray.size) undef).size
    simp; omega
   obtain ⟨todo,a',E',hst,hfr,i2,hs2,hd,_⟩ := sim n hC (K := 0) (E := E0) (a := { tmps := tmps,defers := [] }) h2 (.code hf.code hinh .nil) (Gd.same (own := fun k=>E.w.heap.size ≤ k) (E := E) (E' := E0) rfl rfl ⟨hG,fun k hk=>Nat.le_trans (Gd.lo E hG) hk⟩) i1 hsz (fun p hp=>hp.elim) (fun i hi=>absurd hi (Nat.not_lt_zero _)) b cs
   obtain ⟨E2,xs,bs,hrun,hw2,f2,g2,r2,hbs⟩ := leave_ok hf.res i2 (lo := E.w.heap.size) (fun k hk=>hk) h3
   have hw : E2.w = E'.w := hw2
   have hfr2 := hfr.trans f2
   have hres := mapM_array (P := P) (resF a'.tmps) fn.results hrun
   refine ⟨.returned (if h : xs.toArray.size = 1 then xs.toArray[0] else .tuple xs.toArray),E'.w,{ b.at a' todo with mode := .returning },⟨_,rfl,E2.C,?_,?_,?_⟩,?_,rfl,?_⟩
   ·refine ⟨⟨hfr2.C,fun b i h=>?_,fun _ h=>h,fun _ _ _ h=>⟨h,rfl,rfl,rfl⟩⟩,?_,?_,?_,?_,fun k hk hn=>?_,hfr2.com⟩
    ·have := hfr2.cell b i h; rw [hw] at this; exact this
    ·have := hfr2.os; rw [hw] at this; exact this
    ·have := hfr2.tape; rw [hw] at this; exact this
    ·have := hfr2.output; rw [hw] at this; exact this
    ·have := hfr2.size; rw [hw] at this; exact this
    ·have := hfr2.block k hk hn; rw [hw] at this; exact this
   ·intro k hk
    have := g2 k hk
    rw [hw] at this; exact this
   ·have r3 : RetL (E.next E2.C E'.w) E.w.heap.size l xs bs := r2.bare (E := E2) (E' := E.next E2.C E'.w) rfl hw.symm
    cases r3 with
    | nil=>exact ⟨[],[],rfl,.nil⟩
    | cons ha hb hc =>
     cases hb with
     | nil=>simpa [result] using ha.ret
     | cons hb1 hb2 hb3 =>
      refine ⟨_,_,?_,.cons ha (.cons hb1 hb2 hb3) hc⟩
      simp
   ·rw [henter]; exact hst
   ·refine ⟨rfl,hd,rfl,fn,hf.hfn,?_⟩
    show (results fn a'.tmps).run P E'.w = _
    have e : results fn a'.tmps = (do let vs ← fn.results.mapM (resF a'.tmps); pure (if h : vs.size = 1 then vs[0] else .tuple vs)) := rfl
    rw [e]
    simp only [Sem.run_bind,hres,Result.andThen_ok,Sem.run_pure]
  ·cases h1
structure ProgOK (P : Program) (Gd : Ground) (Q : Prog) : Prop where
 fn : ∀ f m,Q.prim f = none→Q.fn f = some m→∃ fn c tm hp,FnOK P f m fn c tm hp
 fnH : ∀ f m,Q.fn f = some m→∃ fn c tm hp,FnOK P f m fn c tm hp
 prim : ∀ f g,Q.prim f = some g→∀ args r,g args = some r→FunOK P Gd f args r
 tab : TabsAt P Gd
theorem convP_rel {E : Env} {k : PK} {v : MV} {x : Value} (hk : pkOK k) (h : RelV E v x) : RelV E (convP k v) x := by
 cases k with
 | byt =>
  cases v with
  | nilsl=>cases h; exact .bs (Nat.le_refl _) (by simp) fun hn=>(hn rfl).elim
  | _=>exact h
 | el s =>
  cases v with
  | nilsl=>cases h; exact .sl (Nat.le_refl _) (by simp) hk (fun e he=>by cases he) .nil fun hn=>(hn rfl).elim
  | _=>exact h
 | full s =>
  cases v with
  | nilsl=>cases h; exact .fsl (l := []) (.sl (Nat.le_refl _) (by simp) hk (fun e he=>by cases he) .nil fun hn=>(hn rfl).elim)
  | _=>exact h
 | _=>exact h
theorem enterV_ok {E : Env} {tmps : Array Value} : ∀ {ps : List PK} {vs : List MV} {i : Nat} {V V' : List (Nat × MV)} {xs : List Value},(∀ n v,look V n = some v→tm n = false ∧ ∃ x,tmps[n]? = some x ∧ RelV E v x)→RelL E vs xs→(∀ p ∈ ps,pkOK p) →
  (∀ j x,xs[j]? = some x→tmps[i + j]? = some x)→(∀ j,j < vs.length→tm (i + j) = false)→enterV i ps vs V = some V'→∀ n v,look V' n = some v→tm n = false ∧ ∃ x,tmps[n]? = some x ∧ RelV E v x
 | [],[],i,V,V',xs,hV,_,_,_,_,h=>by simp only [enterV,Option.some.injEq] at h; subst h; exact hV
 | p :: ps,[],i,V,V',xs,_,_,_,_,_,h=>by simp [enterV] at h
 | ps,v :: vs,i,V,V',xs,hV,hr,hk,ht,hm,h=>by
  cases hr with
  | cons hv hr =>
   rename_i x xs
   have step : ∀ {v' : MV} {ps' : List PK},RelV E v' x→(∀ p ∈ ps',pkOK p)→enterV (i + 1) ps' vs (put V i v') = some V'→∀ n v,look V' n = some v→tm n = false ∧ ∃ x,tmps[n]? = some x ∧ RelV E v x := by
    intro v' ps' hv' hk' h
    refine enterV_ok (i := i + 1) (fun n w hn=>?_) hr hk' (fun j y hj=>?_) (fun j hj=>?_) h
    ·rw [look_put] at hn
     by_cases hin : i = n
     ·subst hin
      simp only [if_true,Option.some.injEq] at hn
      subst hn
      exact ⟨by have := hm 0 (by simp); simpa using this,x,by have := ht 0 x (by simp); simpa using this,hv'⟩
     ·rw [if_neg hin] at hn
      exact hV n w hn
    ·have := ht (j + 1) y (by simpa using hj)
     rw [show i + 1 + j = i + (j + 1) by omega]; exact this
    ·have := hm (j + 1) (by simp; omega)
     rw [show i + 1 + j = i + (j + 1) by omega]; exact this
   cases ps with
   | nil=>simp only [enterV] at h; exact step hv (by simp) h
   | cons p ps=>simp only [enterV] at h; exact step (convP_rel (hk p (by simp)) hv) (fun q hq=>hk q (by simp [hq])) h
theorem exitNames_nodup (k : Nat) (rs : List MV) (st : DS) : (exitNames k rs st).Nodup := reach_nodup 5 (nub_nodup List.nodup_nil)
theorem exitNames_inh (k : Nat) (rs : List MV) (st : DS) {i : Nat} (hi : i < k) : (exitNames k rs st)[i]? = some i := by
 obtain ⟨r,hr⟩ := nub_front (p := List.range k) (l := rs.flatMap MV.names) (acc := []) (by simpa using List.nodup_range)
 obtain ⟨r',hr'⟩ := reach_front (O := st.O) 5 (p := List.range k) (r := r) List.nodup_range
 unfold exitNames
 rw [hr]
 simp only [List.reverse_nil,List.nil_append]
 rw [hr',List.getElem?_append_left (by simpa using hi)]
 simp [hi]
theorem fun_okH {Gd : Ground} (hT : TabsAt P Gd) {f : FuncId} {m : MFunc} {fn : Func} {c : Code} (hf : FnOK P f m fn c tm hp) {n : Nat} (hC : ∀ k,k < n→COK P Gd (tab Q k)) {args : List MV} {L : List Obj} {st st1 st2 : DS} {rs : List MV} (h1 : entryH m args L = some st) (h2 : run Q n [.code m.body] st = some st1) (h3 : leaveH m.results st1 = some (rs,st2)) :
  FunOKh P Gd f args L (exitH L.length rs st2).1 (exitH L.length rs st2).2 := by
 intro own E vs hG hinv hb1 hb2 hr
 have hlen := hr.length
 refine .inl ⟨?_,?_⟩
 ·have hb : fn.body ≠ none := by rw [hf.body]; simp
  have hn : fn.name ≠ "runtime.NumGoroutine" := by simpa using hf.name
  simp [callFunc,hf.hfn,hn,hb]
 ·intro cs
  let tmps : Array Value := vs.toArray ++ Array.replicate (fn.ntmps - vs.toArray.size) undef
  unfold entryH at h1
  split at h1
  ·rename_i hnh
   obtain ⟨hn,hheap⟩ := hnh
   have hinh : m.body.inhB L.length = true := by have := hf.inh; rw [hheap] at this; exact this
   split at h1
   ·rename_i V hV
    cases h1
    have hV' := enterV_ok (tm := tm) (E := E) (tmps := tmps) (fun n v h=>by simp [look] at h) hr hf.par (fun j x hj=>by
     rw [Nat.zero_add]
     have hlt : j < vs.toArray.size := by simpa using (List.getElem?_eq_some_iff.1 hj).1
     show (vs.toArray ++ Array.replicate (fn.ntmps - vs.toArray.size) undef)[j]? = some x
     rw [Array.getElem?_append_left hlt]
     simpa using hj) (fun j hj=>by
     rw [Nat.zero_add]
     cases htj : tm j with
     | false=>rfl
     | true=>have := hf.tm j htj; omega) hV
    have i1 : Inv own tm E ⟨V,[],idx 0 L,L.length + 1⟩ tmps :=
     { len := hinv.len,objs := hinv.objs,sep := hinv.sep,ownb := hinv.ownb,good := hinv.good,born := hinv.born,base := hinv.base,tabs := fun k g hk ht=>hT E hG.1 k g hk (hf.tb k g hk ht),T := fun n v h=>by simp [look] at h,V := hV' }
    let b : Frame := { (default : Frame) with fn := f,kind := .normal }
    have henter : Frame.enter P f vs.toArray .normal = b.at { tmps := tmps,defers := [] } [.code c] := by
     simp [Frame.enter,Frame.at,hf.hfn,hf.body,b,tmps]
    have hsz : fn.ntmps ≤ tmps.size := by
     show fn.ntmps ≤ (vs.toArray ++ Array.replicate (fn.ntmps - vs.toArray.size) undef).size
     simp; omega
    obtain ⟨todo,a',E',hst,hfr,i2,hs2,hd,hk2⟩ := sim n hC (K := L.length) (E := E) (a := { tmps := tmps,defers := [] }) h2 (.code hf.code hinh .nil) hG i1 hsz (fun p hp=>by
     have := hb1 p hp
     show p < L.length + 1
     omega) (fun i hi=>hb2 i (Nat.le_of_lt hi)) b cs
    obtain ⟨E2,xs,hrun,w2,b2,m2,i3,r3⟩ := leaveH_ok hf.res i2 h3
    have hres := mapM_array (P := P) (resF a'.tmps) fn.results hrun
    have hk3 : Inh L.length E' E2 := m2.inh hk2.born
    have hk4 := out_inh i3 (ns := exitNames L.length rs st2) (K := L.length) (fun i hi=>exitNames_inh L.length rs st2 hi)
    have hmap := out_map i3 (exitNames L.length rs st2)
    have hout := out_inv i3 (exitNames_nodup L.length rs st2)
    have hfin : RelV (E2.out (exitNames L.length rs st2) (idxO 0 ((exitNames L.length rs st2).map fun o=>(look st2.O o).map (renObj (exitNames L.length rs st2))))) (result (rs.map (ren (exitNames L.length rs st2)))) (if h : xs.toArray.size = 1 then xs.toArray[0] else .tuple xs.toArray) := by
     have hl := mapVs_ok hmap r3
     revert hl
     generalize rs.map (mapV (nameOf (exitNames L.length rs st2))) = ys
     intro hl
     cases hl with
     | nil=>exact .tup .nil
     | cons ha hb =>
      cases hb with
      | nil=>simpa [result] using ha
      | cons hb1 hb2 =>
       have : RelV (E2.out (exitNames L.length rs st2) (idxO 0 ((exitNames L.length rs st2).map fun o=>(look st2.O o).map (renObj (exitNames L.length rs st2))))) (.tup (_ :: _ :: _)) (.tuple (_ :: _ :: _).toArray) := .tup (.cons ha (.cons hb1 hb2))
       simpa [result] using this
    refine ⟨.returned (if h : xs.toArray.size = 1 then xs.toArray[0] else .tuple xs.toArray),E'.w,{ b.at a' todo with mode := .returning },⟨_,rfl,E2.out (exitNames L.length rs st2) (idxO 0 ((exitNames L.length rs st2).map fun o=>(look st2.O o).map (renObj (exitNames L.length rs st2)))),?_,?_,hout,fun p hp=>?_,hfin,fun i hi=>((hk2.trans hk3).trans hk4 i hi).2⟩,?_,rfl,?_⟩
    ·exact w2
    ·exact (hfr.trans m2.fr).trans (Fr.same rfl rfl)
    ·have hp : p ≤ (exitNames L.length rs st2).length := hp
     simpa [exitH] using hp
    ·rw [henter]; exact hst
    ·refine ⟨rfl,hd,rfl,fn,hf.hfn,?_⟩
     show (results fn a'.tmps).run P E'.w = _
     have e : results fn a'.tmps = (do let vs ← fn.results.mapM (resF a'.tmps); pure (if h : vs.size = 1 then vs[0] else .tuple vs)) := rfl
     rw [e]
     simp only [Sem.run_bind,hres,Result.andThen_ok,Sem.run_pure]
   ·cases h1
  ·cases h1
theorem cok {Gd : Ground} (hQ : ProgOK P Gd Q) (n : Nat) : COK P Gd (tab Q n) := by
 induction n using Nat.strongRecOn with
 | _ n ih =>
  refine ⟨?_,?_⟩
  ·intro f args r h
   have h : callF Q n f args = some r := h
   cases n with
   | zero=>simp [callF] at h
   | succ n =>
    simp only [callF] at h
    split at h
    ·rename_i g hg
     exact hQ.prim f g hg args r h
    ·rename_i hp
     split at h
     ·cases h
     ·rename_i m hm
      obtain ⟨fn,c,tm,hp',hf⟩ := hQ.fn f m hp hm
      split at h
      ·cases h
      ·rename_i st h1
       split at h
       ·cases h
       ·rename_i st1 h2
        split at h
        ·rename_i l h3
         cases h
         exact fun_ok hQ.tab hf (fun k hk=>ih k (by omega)) h1 h2 h3
        ·cases h
  ·intro f args L r L' h
   have h : callH Q n f args L = some (r,L') := h
   cases n with
   | zero=>simp [callH] at h
   | succ n =>
    simp only [callH] at h
    split at h
    ·cases h
    ·rename_i m hm
     split at h
     ·cases h
     ·rename_i st h1
      split at h
      ·cases h
      ·rename_i st1 h2
       split at h
       ·rename_i rs st2 h3
        simp only [Option.some.injEq] at h
        obtain ⟨fn,c,tm,hp',hf⟩ := hQ.fnH f m hm
        have := fun_okH hQ.tab hf (fun k hk=>ih k (by omega)) h1 h2 h3
        rw [h] at this
        exact this
       ·cases h
theorem call_ok {Gd : Ground} (hQ : ProgOK P Gd Q) {f : FuncId} {args : List MV} {r : MV} (h : Call Q f args = some r) : FunOK P Gd f args r := by
 obtain ⟨n,hn⟩ := Call_iff.1 h
 exact (cok hQ n).p f args r hn
end Go.Mini
namespace Go.Mini
open Go
section
variable (P : Program) (tm : Nat→Bool) (hp : Option FuncId→Bool) (nt : Nat)
abbrev Ks := List (List (Nat × KMode))
abbrev Ps := List (List (List Nat))
def trC : Ks→Ps→Code→Option (MCode × Ks × Ps)
 | ks,ps,.skip=>some (.skip,ks,ps)
 | ks,ps,.label _=>some (.skip,ks,ps)
 | ks,ps,.region _ ops false=>match trOpers P tm hp nt ops ops.toList with
  | some l=>some (.rg l,ks,ps)
  | none=>none
 | ks,p :: ps,.region _ ops true=>match preOKs p 0 ops.toList && P.follows .mixedOrders,trOpers P tm hp nt ops ops.toList with
  | true,some l=>some (.rgd l p,ks,ps)
  | _,_=>none
 | ks,ps,.seq a b=>match trC ks ps a with
  | some (a',ks1,ps1)=>match trC ks1 ps1 b with
   | some (b',ks2,ps2)=>some (.seq a' b',ks2,ps2)
   | none=>none
  | none=>none
 | ks,ps,.cond c a b=>match trX tm c,trC ks ps a with
  | some c',some (a',ks1,ps1)=>match trC ks1 ps1 b with
   | some (b',ks2,ps2)=>some (.cond c' a' b',ks2,ps2)
   | none=>none
  | _,_=>none
 | ks,ps,.block i b=>match trC ks ps b with
  | some (b',ks1,ps1)=>some (.block i b',ks1,ps1)
  | none=>none
 | k :: ks,ps,.loop b=>match k.all (keepB tm nt),trC ks ps b with
  | true,some (b',ks1,ps1)=>some (.loop k b',ks1,ps1)
  | _,_=>none
 | ks,ps,.exit i=>some (.exit i,ks,ps)
 | ks,ps,.scope b=>match trC ks ps b with
  | some (b',ks1,ps1)=>some (.scope b',ks1,ps1)
  | none=>none
 | ks,ps,.ret=>some (.ret,ks,ps)
 | _,_,.region _ _ _=>none
 | _,_,.loop _=>none
 | ks,ps,_=>some (.bad,ks,ps)
theorem trC_ok : ∀ {c : Code} {ks : Ks} {ps : Ps} {m : MCode} {ks' : Ks} {ps' : Ps},trC P tm hp nt ks ps c = some (m,ks',ps')→trCode P tm hp nt c m := by
 intro c
 induction c with
 | skip=>intro ks ps m ks' ps' h; simp only [trC,Option.some.injEq,Prod.mk.injEq] at h; rw [← h.1]; trivial
 | label l=>intro ks ps m ks' ps' h; simp only [trC,Option.some.injEq,Prod.mk.injEq] at h; rw [← h.1]; trivial
 | region id ops dr =>
  intro ks ps m ks' ps' h
  cases dr with
  | false =>
   simp only [trC] at h
   split at h
   ·rename_i l hl; simp only [Option.some.injEq,Prod.mk.injEq] at h; rw [← h.1]; exact hl
   ·cases h
  | true =>
   cases ps with
   | nil=>simp [trC] at h
   | cons p ps =>
    simp only [trC] at h
    split at h
    ·rename_i l hp hl
     simp only [Option.some.injEq,Prod.mk.injEq] at h
     rw [← h.1]
     simp only [Bool.and_eq_true] at hp
     exact ⟨hl,hp.1,hp.2⟩
    ·cases h
 | seq a b iha ihb =>
  intro ks ps m ks' ps' h
  simp only [trC] at h
  split at h
  ·rename_i a' ks1 ps1 ha
   split at h
   ·rename_i b' ks2 ps2 hb
    simp only [Option.some.injEq,Prod.mk.injEq] at h
    rw [← h.1]
    exact ⟨iha ha,ihb hb⟩
   ·cases h
  ·cases h
 | cond c a b iha ihb =>
  intro ks ps m ks' ps' h
  simp only [trC] at h
  split at h
  ·rename_i c' a' ks1 ps1 hc ha
   split at h
   ·rename_i b' ks2 ps2 hb
    simp only [Option.some.injEq,Prod.mk.injEq] at h
    rw [← h.1]
    exact ⟨hc,iha ha,ihb hb⟩
   ·cases h
  ·cases h
 | block i b ih =>
  intro ks ps m ks' ps' h
  simp only [trC] at h
  split at h
  ·rename_i b' ks1 ps1 hb
   simp only [Option.some.injEq,Prod.mk.injEq] at h
   rw [← h.1]
   exact ⟨rfl,ih hb⟩
  ·cases h
 | loop b ih =>
  intro ks ps m ks' ps' h
  cases ks with
  | nil=>simp [trC] at h
  | cons k ks =>
   simp only [trC] at h
   split at h
   ·rename_i b' ks1 ps1 hk hb
    simp only [Option.some.injEq,Prod.mk.injEq] at h
    rw [← h.1]
    exact ⟨hk,ih hb⟩
   ·cases h
 | exit i=>intro ks ps m ks' ps' h; simp only [trC,Option.some.injEq,Prod.mk.injEq] at h; rw [← h.1]; exact rfl
 | scope b ih =>
  intro ks ps m ks' ps' h
  simp only [trC] at h
  split at h
  ·rename_i b' ks1 ps1 hb
   simp only [Option.some.injEq,Prod.mk.injEq] at h
   rw [← h.1]
   exact ih hb
  ·cases h
 | ret=>intro ks ps m ks' ps' h; simp only [trC,Option.some.injEq,Prod.mk.injEq] at h; rw [← h.1]; trivial
 | _=>intro ks ps m ks' ps' h; simp only [trC,Option.some.injEq,Prod.mk.injEq] at h; rw [← h.1]; trivial
end
def pkB : PK→Bool
 | .el s=>decide (0 < s)
 | .ownE s=>decide (0 < s)
 | .full s=>decide (0 < s)
 | _=>true
def resB (P : Program) (tm : Nat→Bool) : List ResultVar→List (Nat × Option (Bool × Nat) × PK)→Bool
 | [],[]=>true
 | .tmp t :: r,(n,none,k) :: l=>decide (t = n) && !tm n && pkB k && resB P tm r l
 | .cell a t :: r,(n,some (g,s),k) :: l=>decide (a = n) && !tm n && (match aggT P t with | some g'=>g' == g | none=>false) && (match sizeT P t with | some s'=>decide (s' = s) | none=>false) && pkB k && resB P tm r l
 | _,_=>false
theorem pkB_ok {k : PK} (h : pkB k = true) : pkOK k := by
 cases k <;> first | trivial | simpa [pkB,pkOK] using h
theorem resB_ok {P : Program} {tm : Nat→Bool} : ∀ {res : List ResultVar} {rs : List (Nat × Option (Bool × Nat) × PK)},resB P tm res rs = true→resOK P tm res rs
 | [],[],_=>trivial
 | .tmp t :: r,(n,none,k) :: l,h=>by
  simp only [resB,Bool.and_eq_true,decide_eq_true_eq,Bool.not_eq_true'] at h
  exact ⟨h.1.1.1,h.1.1.2,pkB_ok h.1.2,resB_ok h.2⟩
 | .cell a t :: r,(n,some (g,s),k) :: l,h=>by
  simp only [resB,Bool.and_eq_true,decide_eq_true_eq,Bool.not_eq_true'] at h
  obtain ⟨⟨⟨⟨⟨h1,h2⟩,h3⟩,h4⟩,h5⟩,h6⟩ := h
  refine ⟨h1,h2,?_,?_,pkB_ok h5,resB_ok h6⟩
  ·split at h3
   ·rename_i g' hg; rw [hg]; simpa using h3
   ·cases h3
  ·split at h4
   ·rename_i s' hs; rw [hs]; simpa using h4
   ·cases h4
 | [],_ :: _,h=>by simp [resB] at h
 | .tmp _ :: _,[],h=>by simp [resB] at h
 | .cell _ _ :: _,[],h=>by simp [resB] at h
 | .tmp _ :: _,(_,some _,_) :: _,h=>by simp [resB] at h
 | .cell _ _ :: _,(_,none,_) :: _,h=>by simp [resB] at h
def tabB (P : Program) (n : Nat) : Bool := match P.globalNamed (tabN (n % 2)) with
 | some g=>decide (g = n / 2)
 | none=>false
def marks (P : Program) : List Nat := (match P.globalNamed (tabN 0) with | some g=>[1000000 + 2 * g] | none=>[]) ++ (match P.globalNamed (tabN 1) with | some g=>[1000001 + 2 * g] | none=>[])
def okFn (P : Program) (f : FuncId) (T : List Nat) (hp : Option FuncId→Bool) (ks : Ks) (ps : Ps) (nargs : Nat) (params : List PK) (results : List (Nat × Option (Bool × Nat) × PK)) : Option MCode :=
 match P.funcs[f]? with
 | none=>none
 | some fn=>match fn.body with
  | none=>none
  | some c=>match !(fn.name == "runtime.NumGoroutine") && resB P (has T) fn.results.toList results && params.all pkB && T.all (fun n=>decide (nargs ≤ n) && (decide (n < 1000000) || tabB P (n - 1000000))) with
   | true=>match trC P (has T) hp fn.ntmps ks ps c with
    | some (m,_,_)=>some m
    | none=>none
   | false=>none
theorem okFn_ok {P : Program} {f : FuncId} {T : List Nat} {hp : Option FuncId→Bool} {ks : Ks} {ps : Ps} {m : MFunc} (h : okFn P f T hp ks ps m.nargs m.params m.results = some m.body) (hh : m.body.inhB (m.heap.getD 0) = true) : ∃ fn c tm hp,FnOK P f m fn c tm hp := by
 unfold okFn at h
 split at h
 ·cases h
 ·rename_i fn hf
  split at h
  ·cases h
  ·rename_i c hc
   split at h
   ·rename_i hb
    split at h
    ·rename_i b ks' ps' ht
     simp only [Option.some.injEq] at h
     subst h
     simp only [Bool.and_eq_true,Bool.not_eq_true',List.all_eq_true,Bool.or_eq_true,decide_eq_true_eq] at hb
     obtain ⟨⟨⟨h1,h2⟩,h3⟩,h4⟩ := hb
     exact ⟨fn,c,has T,hp,hf,h1,hc,trC_ok P _ _ _ ht,resB_ok h2,fun p hp=>pkB_ok (h3 p hp),(fun k g hk ht=>by
      have := (h4 _ (has_iff.1 ht)).2
      rcases this with h | h
      ·omega
      ·unfold tabB at h
       rw [show (1000000 + k + 2 * g - 1000000) % 2 = k by omega,show (1000000 + k + 2 * g - 1000000) / 2 = g by omega] at h
       split at h
       ·rename_i g' hg; rw [hg,of_decide_eq_true h]
       ·cases h),fun n hn=>(h4 n (has_iff.1 hn)).1,hh⟩
    ·cases h
   ·cases h
def MCode.keeps : MCode→Ks
 | .seq a b=>a.keeps ++ b.keeps
 | .cond _ a b=>a.keeps ++ b.keeps
 | .block _ b=>b.keeps
 | .loop k b=>k :: b.keeps
 | .scope b=>b.keeps
 | _=>[]
def MCode.pres : MCode→Ps
 | .rgd _ p=>[p]
 | .seq a b=>a.pres ++ b.pres
 | .cond _ a b=>a.pres ++ b.pres
 | .block _ b=>b.pres
 | .loop _ b=>b.pres
 | .scope b=>b.pres
 | _=>[]
def dstT (o : MOper) : List Nat := match o.dst with
 | some (.t n)=>[n]
 | _=>[]
def MCode.temps : MCode→List Nat
 | .rg l=>l.flatMap dstT
 | .rgd l _=>l.flatMap dstT
 | .seq a b=>a.temps ++ b.temps
 | .cond _ a b=>a.temps ++ b.temps
 | .block _ b=>b.temps
 | .loop _ b=>b.temps
 | .scope b=>b.temps
 | _=>[]
def MCode.heaps : MCode→List FuncId
 | .rg l=>l.filterMap fun o=>match o.op with | .callh f _=>some f | .bslF _ _ _ _=>some 1000003 | _=>none
 | .rgd l _=>l.filterMap fun o=>match o.op with | .callh f _=>some f | .bslF _ _ _ _=>some 1000003 | _=>none
 | .seq a b=>a.heaps ++ b.heaps
 | .cond _ a b=>a.heaps ++ b.heaps
 | .block _ b=>b.heaps
 | .loop _ b=>b.heaps
 | .scope b=>b.heaps
 | _=>[]
def isVH (o : MOper) : Bool := match o.op with
 | .callvh _ _=>true
 | .inv true _ _ _=>true
 | _=>false
def MCode.anyVH : MCode→Bool
 | .rg l=>l.any isVH
 | .rgd l _=>l.any isVH
 | .seq a b=>a.anyVH || b.anyVH
 | .cond _ a b=>a.anyVH || b.anyVH
 | .block _ b=>b.anyVH
 | .loop _ b=>b.anyVH
 | .scope b=>b.anyVH
 | _=>false
def hpOf (m : MCode) : Option FuncId→Bool
 | some f=>has m.heaps f
 | none=>m.anyVH
def isG (o : MOper) : Bool := o.op.xs.any fun x=>match x with
 | .c (.cptr _)=>true
 | _=>false
def MCode.anyG : MCode→Bool
 | .rg l=>l.any isG
 | .rgd l _=>l.any isG
 | .seq a b=>a.anyG || b.anyG
 | .cond _ a b=>a.anyG || b.anyG
 | .block _ b=>b.anyG
 | .loop _ b=>b.anyG
 | .scope b=>b.anyG
 | _=>false
def okE (P : Program) (f : FuncId) (m : MFunc) : Option MCode :=
 if m.body.inhB (m.heap.getD 0) then okFn P f (if m.body.anyG then m.body.temps ++ marks P else m.body.temps) (hpOf m.body) m.body.keeps m.body.pres m.nargs m.params m.results else none
theorem okE_ok {P : Program} {f : FuncId} {m : MFunc} (h : okE P f m = some m.body) : ∃ fn c tm hp,FnOK P f m fn c tm hp := by
 unfold okE at h
 split at h
 ·rename_i hh; exact okFn_ok h hh
 ·cases h
end Go.Mini
namespace Go.Mini
open Go Go.RowKit
inductive CTy where
 | int (k : IntKind) | bool | str | bytes | sl (agg : Bool) (es : List CTy) | tree
mutual
inductive HasC : CTy→MV→Prop
 | int {k n} (h0 : k.min ≤ n) (h1 : n ≤ k.max) : HasC (.int k) (.int k n)
 | bool {b} : HasC .bool (.bool b)
 | str {s} (h : s.length ≤ reachBytes) : HasC .str (.str s)
 | bnil : HasC .bytes .nilsl
 | bytes {l} (h : l.length ≤ reachBytes) : HasC .bytes (.bs l)
 | snil {g es} : HasC (.sl g es) .nilsl
 | sl {g es l} (h : l.length ≤ reachBytes) (hl : ∀ e ∈ l,HasE g es e) : HasC (.sl g es) (.sl es.length l)
 | tnil : HasC .tree .nilsl
 | tree {l} (h : l.length ≤ reachBytes) (hl : ∀ e ∈ l,HasE true [.int .i64,.int .i64,.bool,.bytes,.tree] e) : HasC .tree (.sl 5 l)
inductive HasE : Bool→List CTy→MV→Prop
 | one {c v} (h : HasC c v) : HasE false [c] v
 | agg {es l} (h : HasL es l) : HasE true es (.agg l)
inductive HasL : List CTy→List MV→Prop
 | nil : HasL [] []
 | cons {c v cs vs} (h : HasC c v) (r : HasL cs vs) : HasL (c :: cs) (v :: vs)
end
theorem HasL.length : ∀ {cs vs},HasL cs vs→vs.length = cs.length
 | _,_,.nil=>rfl
 | _,_,.cons _ r=>by simp [r.length]
theorem HasL.append : ∀ {cs vs ds us},HasL cs vs→HasL ds us→HasL (cs ++ ds) (vs ++ us)
 | _,_,_,_,.nil,h=>h
 | _,_,_,_,.cons h r,k=>.cons h (r.append k)
mutual
theorem HasC.ok : ∀ {c v},HasC c v→v.cell = true ∧ Pure v
 | _,_,.int _ _=>⟨rfl,.int⟩
 | _,_,.bool=>⟨rfl,.bool⟩
 | _,_,.str _=>⟨rfl,.str⟩
 | _,_,.bnil=>⟨rfl,.nilsl⟩
 | _,_,.bytes _=>⟨rfl,.bs⟩
 | _,_,.snil=>⟨rfl,.nilsl⟩
 | _,_,.sl _ hl=>⟨rfl,.sl fun e he=>HasE.pure (hl e he)⟩
 | _,_,.tnil=>⟨rfl,.nilsl⟩
 | _,_,.tree _ hl=>⟨rfl,.sl fun e he=>HasE.pure (hl e he)⟩
theorem HasE.pure : ∀ {g es e},HasE g es e→Pure e
 | _,_,_,.one h=>(HasC.ok h).2
 | _,_,_,.agg h=>.agg (HasL.pure h)
theorem HasL.pure : ∀ {cs vs},HasL cs vs→∀ v ∈ vs,Pure v
 | _,_,.nil=>fun v hv=>by simp at hv
 | _,_,.cons h r=>List.forall_mem_cons.2 ⟨(HasC.ok h).2,HasL.pure r⟩
end
theorem HasL.cell : ∀ {cs vs},HasL cs vs→∀ v ∈ vs,v.cell = true
 | _,_,.nil=>by simp
 | _,_,.cons h r=>by
  intro v hv
  rcases List.mem_cons.1 hv with rfl | hv
  ·exact h.ok.1
  ·exact r.cell v hv
theorem HasE.cells : ∀ {g es e},HasE g es e→HasL es e.cells
 | _,_,_,.one h=>by rw [MV.cells_cell h.ok.1]; exact .cons h .nil
 | _,_,_,.agg h=>h
def ctysF (P : Program) (g : TypeId→Option (List CTy)) : Nat→List Field→Option (List CTy)
 | _,[]=>some []
 | off,f :: r=>if f.offset = off then match g f.type with
   | some es=>if P.cellsOf f.type = es.length then match ctysF P g (off + es.length) r with
     | some l=>some (es ++ l)
     | none=>none
    else none
   | none=>none
  else none
def ctyP (P : Program) (t : TypeId) : Option (List CTy) :=
 match P.underlying t with
 | some (.int k)=>some [.int k]
 | some .bool=>some [.bool]
 | some (.slice e)=>if isByteT P e = true ∧ P.cellsOf e = 1 ∧ 0 < P.bytesOf e then some [.bytes] else none
 | _=>none
def treeC : List CTy := [.int .i64,.int .i64,.bool,.bytes,.tree]
def isTree5 : Option (List CTy)→Bool
 | some [.int .i64,.int .i64,.bool,.bytes,.tree]=>true
 | _=>false
theorem isTree5_ok {o : Option (List CTy)} (h : isTree5 o = true) : o = some treeC := by
 unfold isTree5 at h
 split at h
 ·rfl
 ·cases h
def isTreeT (P : Program) (t : TypeId) : Bool :=
 match P.underlying t with
 | some (.slice e)=>match P.underlying e with
  | some (.struct fs)=>isTree5 (ctysF P (fun u=>if u = t then some [.tree] else ctyP P u) 0 fs.toList) && decide (P.cellsOf e = 5) && decide (0 < P.bytesOf e)
  | _=>false
 | _=>false
def ctys (P : Program) : Nat→TypeId→Option (List CTy)
 | 0,_=>none
 | n + 1,t=>match P.underlying t with
  | some (.int k)=>some [.int k]
  | some .bool=>some [.bool]
  | some .string=>some [.str]
  | some (.slice e)=>if isByteT P e = true then (if P.cellsOf e = 1 ∧ 0 < P.bytesOf e then some [.bytes] else none)
   else if isTreeT P t = true then some [.tree]
   else match ctys P n e,aggT P e with
    | some es,some true=>if P.cellsOf e = es.length ∧ 0 < es.length ∧ 0 < P.bytesOf e then some [.sl true es] else none
    | some [c],some false=>if P.cellsOf e = 1 ∧ 0 < P.bytesOf e then some [.sl false [c]] else none
    | _,_=>none
  | some (.struct fs)=>match ctysF P (ctys P n) 0 fs.toList with
   | some l=>if P.cellsOf t = l.length then some l else none
   | none=>none
  | some (.array m e)=>match ctys P n e with
   | some es=>if P.cellsOf e = es.length ∧ P.cellsOf t = m * es.length then some (List.replicate m es).flatten else none
   | none=>none
  | _=>none
section
variable {H : Type} {enc : TypeId × Value→H} {P : Program} {E : Env} {base : Nat} {sp : Nat→Bool} {held : Bool}
def Env.whole (E : Env) : Prop := ∀ (b : Nat) (c : Array Value) e fr,E.w.heap[b]? = some (.cells c e fr)→c.size ≤ E.C b
theorem cells_get {w : World} {a : Addr} {n : Nat} {cs : List Value} (h : w.cells? base a n = some cs) : cs.length = n ∧ ∀ (i : Nat) (v : Value),cs[i]? = some v→w.cell? (a.add i) = some v := by
 unfold World.cells? at h
 split at h
 ·have key : ∀ (k m : Nat) {l : List Value},(List.range' k m).mapM (fun i=>w.cell? (a.add i)) = some l→l.length = m ∧ ∀ (i : Nat) (v : Value),l[i]? = some v→w.cell? (a.add (k + i)) = some v := by
   intro k m
   induction m generalizing k with
   | zero=>intro l h; simp at h; subst h; simp
   | succ m ih =>
    intro l h
    rw [List.range'_succ,List.mapM_cons] at h
    simp only [Option.pure_def,Option.bind_eq_bind,Option.bind_eq_some_iff] at h
    obtain ⟨x,hx,r,hr,h⟩ := h
    cases h
    obtain ⟨h1,h2⟩ := ih (k + 1) hr
    refine ⟨by simp [h1],fun i v hv=>?_⟩
    cases i with
    | zero=>simp at hv; subst hv; exact hx
    | succ i =>
     have := h2 i v (by simpa using hv)
     rw [show k + (i + 1) = k + 1 + i by omega]; exact this
  rw [List.range_eq_range'] at h
  obtain ⟨h1,h2⟩ := key 0 n h
  exact ⟨h1,fun i v hv=>by have := h2 i v hv; simpa using this⟩
 ·cases h
theorem cell_inside {w : World} {a : Addr} {v : Value} (h : w.cell? a = some v) : a.spot = none ∧ ∃ c e fr,w.heap[a.block]? = some (.cells c e fr) ∧ a.off < c.size := by
 obtain ⟨b,o,s⟩ := a
 unfold World.cell? at h
 simp only at h ⊢
 cases hh : w.heap[b]? with
 | none=>rw [hh] at h; cases h
 | some ob =>
  rw [hh] at h
  cases ob with
  | cells c e fr =>
   obtain ⟨x,y⟩ := fr
   simp only at h
   cases s with
   | some s=>simp at h
   | none =>
    simp only [Option.isSome_none,Bool.false_eq_true,if_false] at h
    exact ⟨rfl,c,e,(x,y),rfl,(Array.getElem?_eq_some_iff.1 h).1⟩
  | _=>cases h
theorem cells_whole (hE : E.whole) {a : Addr} {vs : List Value} (hne : vs ≠ []) (h : ∀ (i : Nat) (v : Value),vs[i]? = some v→E.w.cell? (a.add i) = some v) : Cells E a vs := by
 have hp : 0 < vs.length := List.length_pos_iff.2 hne
 have h0 := cell_inside (h 0 _ (List.getElem?_eq_getElem hp))
 have hl := cell_inside (h (vs.length - 1) _ (List.getElem?_eq_getElem (by omega)))
 obtain ⟨b,o,s⟩ := a
 have hspot : s = none := by have := h0.1; simpa [Addr.add] using this
 subst hspot
 obtain ⟨_,c,e,fr,hh,hlt⟩ := hl
 rw [add_mk] at hh hlt
 have := hE _ c e fr hh
 refine ⟨rfl,?_,fun i v hv=>?_⟩
 ·show o + vs.length ≤ E.C b
  simp only at hlt this
  omega
 ·have := h i v hv
  rw [add_mk] at this; exact this
theorem elem_of {g : Bool} {es : List CTy} {ms : List MV} (h : HasL es ms) (hg : g = true ∨ ∃ c,es = [c]) : ∃ e,HasE g es e ∧ e.cells = ms := by
 cases g with
 | true=>exact ⟨.agg ms,.agg h,rfl⟩
 | false =>
  rcases hg with hg | ⟨c,rfl⟩
  ·cases hg
  ·cases h with
   | cons h1 h2 =>
    cases h2
    exact ⟨_,.one h1,MV.cells_cell h1.ok.1⟩
theorem rows_ok {w : World} {a : Addr} {s len : Nat} {css : List (List Value)} (hl : css.length = len) (h : ∀ i cs,css[i]? = some cs→cs.length = s ∧ ∀ (j : Nat) (v : Value),cs[j]? = some v→w.cell? ((a.add (i * s)).add j) = some v) (hs : a.spot = none) :
  ∀ (k : Nat) (v : Value),css.flatten[k]? = some v→w.cell? (a.add k) = some v := by
 obtain ⟨b,o,sp⟩ := a
 simp at hs
 subst hs
 have key : ∀ (css : List (List Value)) (i0 : Nat),(∀ i cs,css[i]? = some cs→cs.length = s ∧ ∀ (j : Nat) (v : Value),cs[j]? = some v→w.cell? ⟨b,o + (i0 + i) * s + j,none⟩ = some v) →
   ∀ (k : Nat) (v : Value),css.flatten[k]? = some v→w.cell? ⟨b,o + i0 * s + k,none⟩ = some v := by
  intro css
  induction css with
  | nil=>intro i0 _ k v hv; simp at hv
  | cons cs r ih =>
   intro i0 h k v hv
   obtain ⟨h1,h2⟩ := h 0 cs rfl
   rw [List.flatten_cons,List.getElem?_append] at hv
   split at hv
   ·have := h2 k v hv; simpa using this
   ·rename_i hk
    have := ih (i0 + 1) (fun i cs' hcs=>by
     obtain ⟨a1,a2⟩ := h (i + 1) cs' (by simpa using hcs)
     refine ⟨a1,fun j v hv=>?_⟩
     have := a2 j v hv
     rw [show i0 + (i + 1) = i0 + 1 + i by omega] at this; exact this) (k - cs.length) v hv
    rw [Nat.add_mul,Nat.one_mul] at this
    rw [h1] at this hk
    rw [show o + (i0 * s + s) + (k - s) = o + i0 * s + k by omega] at this
    exact this
 intro k v hv
 rw [add_mk]
 have := key css 0 (fun i cs hcs=>by
  obtain ⟨a1,a2⟩ := h i cs hcs
  refine ⟨a1,fun j v hv=>?_⟩
  have := a2 j v hv
  rw [add_mk,add_mk] at this
  simpa using this) k v hv
 simpa using this
theorem choose_list {X : Type} {p : Nat→X→Prop} : ∀ (n : Nat),(∀ i,i < n→∃ x,p i x)→∃ l : List X,l.length = n ∧ ∀ (i : Nat) (x : X),l[i]? = some x→p i x
 | 0,_=>⟨[],rfl,by simp⟩
 | n + 1,h=>by
  obtain ⟨l,hl,hp⟩ := choose_list n fun i hi=>h i (by omega)
  obtain ⟨x,hx⟩ := h n (by omega)
  refine ⟨l ++ [x],by simp [hl],fun i y hy=>?_⟩
  rw [List.getElem?_append] at hy
  split at hy
  ·exact hp i y hy
  ·rename_i hi
   have hin : i = n := by
    have := (List.getElem?_eq_some_iff.1 hy).1
    simp at this
    omega
   subst hin
   simp [hl] at hy
   subst hy; exact hx
theorem bytes_weight {P : Program} {t e : TypeId} {elems spare : List (DataW H)} (ht : P.underlying t = some (.slice e)) (hb : 0 < P.bytesOf e) (hw : ∀ m ∈ (DataW.slice elems spare).weights P t,m ≤ reachBytes) : elems.length ≤ reachBytes := by
 have h1 := hw ((elems.length + spare.length) * P.bytesOf e) (by simp [DataW.weights,ht])
 have : elems.length ≤ (elems.length + spare.length) * P.bytesOf e := Nat.le_trans (Nat.le_add_right _ _) (Nat.le_mul_of_pos_right _ hb)
 omega
theorem elem_weight {P : Program} {t e : TypeId} {elems spare : List (DataW H)} (ht : P.underlying t = some (.slice e)) (hw : ∀ m ∈ (DataW.slice elems spare).weights P t,m ≤ reachBytes) {d : DataW H} (hd : d ∈ elems) : ∀ m ∈ d.weights P e,m ≤ reachBytes := by
 intro m hm
 refine hw m ?_
 simp only [DataW.weights,ht]
 refine List.mem_cons_of_mem _ (List.mem_append_left _ ?_)
 clear hw
 induction elems with
 | nil=>cases hd
 | cons x r ih =>
  simp only [DataW.weightsAll]
  rcases List.mem_cons.1 hd with rfl | hd
  ·exact List.mem_append_left _ hm
  ·exact List.mem_append_right _ (ih hd)
theorem reach62 {n : Nat} (h : n ≤ reachBytes) : n < 2 ^ 62 := by
 have : reachBytes = 140737488351232 := by decide
 omega
theorem open_elems0 (hE : E.whole) {a : Addr} {len cap : Nat} {g : Bool} {es : List CTy} (h0 : 0 < es.length) (hcap : len ≤ cap) (hlen : len ≤ reachBytes)
  (h : ∀ i,i < len→∃ x : List Value × MV,E.w.cells? base (a.add (i * es.length)) es.length = some x.1 ∧ RelL E x.2.cells x.1 ∧ HasE g es x.2) :
  ∃ l : List MV,RelL E [.sl es.length l] [.slice (some a) len cap] ∧ l.length ≤ reachBytes ∧ ∀ e ∈ l,HasE g es e := by
 obtain ⟨l,hl,hp⟩ := choose_list len h
 have hle : (l.map (·.2)).length = len := by simp [hl]
 have hu : Uni es.length (l.map (·.2)) := by
  intro e he
  obtain ⟨x,hx,rfl⟩ := List.mem_map.1 he
  obtain ⟨i,hi,hxi⟩ := List.mem_iff_getElem.1 hx
  obtain ⟨_,_,h3⟩ := hp i x (by rw [List.getElem?_eq_getElem hi,hxi])
  exact ⟨h3.cells.length,h3.cells.cell,h3.pure⟩
 have hr : RelL E ((l.map (·.2)).flatMap MV.cells) (l.map (·.1)).flatten := by
  have : ∀ (l : List (List Value × MV)),(∀ x ∈ l,RelL E x.2.cells x.1)→RelL E ((l.map (·.2)).flatMap MV.cells) (l.map (·.1)).flatten := by
   intro l
   induction l with
   | nil=>intro _; exact .nil
   | cons x r ih=>intro h; exact (h x (by simp)).append (ih fun y hy=>h y (by simp [hy]))
  refine this l fun x hx=>?_
  obtain ⟨i,hi,hxi⟩ := List.mem_iff_getElem.1 hx
  exact (hp i x (by rw [List.getElem?_eq_getElem hi,hxi])).2.1
 refine ⟨l.map (·.2),.cons ?_ .nil,by rw [hle]; exact hlen,fun e he=>?_⟩
 ·rw [← hle]
  refine .sl (by rw [hle]; exact hcap) (by rw [hle]; exact reach62 hlen) h0 hu hr fun hne=>⟨a,rfl,?_⟩
  have hlen0 : 0 < l.length := by
   cases l with
   | nil=>exact (hne rfl).elim
   | cons=>simp
  have hrow : ∀ i cs,(l.map (·.1))[i]? = some cs→cs.length = es.length ∧ ∀ (j : Nat) (v : Value),cs[j]? = some v→E.w.cell? ((a.add (i * es.length)).add j) = some v := by
   intro i cs hcs
   rw [List.getElem?_map] at hcs
   cases hx : l[i]? with
   | none=>rw [hx] at hcs; cases hcs
   | some x =>
    rw [hx] at hcs
    cases hcs
    exact cells_get (hp i x hx).1
  have hspot : a.spot = none := by
   obtain ⟨h1,h2⟩ := hrow 0 (l[0].1) (by rw [List.getElem?_map,List.getElem?_eq_getElem hlen0]; rfl)
   have hc : 0 < l[0].1.length := by omega
   have := (cell_inside (h2 0 _ (List.getElem?_eq_getElem hc))).1
   obtain ⟨b,o,s⟩ := a
   simpa [Addr.add] using this
  refine cells_whole hE ?_ (rows_ok (len := l.length) (by simp) hrow hspot)
  intro hnil
  have := hr.length
  rw [hnil,flat_len fun e he=>(hu e he).1] at this
  simp only [List.length_nil,List.length_map] at this
  have := Nat.mul_pos hlen0 h0
  omega
 ·obtain ⟨x,hx,rfl⟩ := List.mem_map.1 he
  obtain ⟨i,hi,hxi⟩ := List.mem_iff_getElem.1 hx
  exact (hp i x (by rw [List.getElem?_eq_getElem hi,hxi])).2.2
theorem open_elems (hE : E.whole) {a : Addr} {len cap : Nat} {g : Bool} {es : List CTy} (h0 : 0 < es.length) (hcap : len ≤ cap) (hlen : len ≤ reachBytes)
  (h : ∀ i,i < len→∃ x : List Value × MV,E.w.cells? base (a.add (i * es.length)) es.length = some x.1 ∧ RelL E x.2.cells x.1 ∧ HasE g es x.2) :
  ∃ ms,RelL E ms [.slice (some a) len cap] ∧ HasL [.sl g es] ms := by
 obtain ⟨l,h1,h2,h3⟩ := open_elems0 hE h0 hcap hlen h
 exact ⟨_,h1,.cons (.sl h2 h3) .nil⟩
theorem open_bytes (hE : E.whole) {a : Addr} {len cap : Nat} (hcap : len ≤ cap) (hlen : len ≤ reachBytes) (h : ∀ i,i < len→∃ b,E.w.cell? (a.add i) = some (byteV b)) :
  ∃ ms,RelL E ms [.slice (some a) len cap] ∧ HasL [.bytes] ms := by
 obtain ⟨l,hl,hp⟩ := choose_list len h
 refine ⟨[.bs l],.cons ?_ .nil,.cons (.bytes (by omega)) .nil⟩
 rw [← hl]
 refine .bs (by omega) (reach62 (by omega)) fun hne=>⟨a,rfl,cells_whole hE (by simpa using hne) fun i v hv=>?_⟩
 rw [List.getElem?_map] at hv
 cases hx : l[i]? with
 | none=>rw [hx] at hv; cases hv
 | some b=>rw [hx] at hv; cases hv; exact hp i b hx
end
end Go.Mini
namespace Go.Mini
open Go Go.RowKit
section
variable {H : Type} {enc : TypeId × Value→H} {P : Program} {E : Env} {base : Nat} {sp : Nat→Bool} {held : Bool}
theorem byte_of {n : Int} (h : (Lit.int .u8 n).wf = true) : ∃ b : UInt8,Value.int .u8 n = byteV b := by
 simp only [Lit.wf,Bool.and_eq_true,decide_eq_true_eq,IntKind.min,IntKind.max,IntKind.signed,IntKind.bits] at h
 refine ⟨UInt8.ofNat n.toNat,?_⟩
 have h1 : 0 ≤ n ∧ n ≤ 255 := by simpa using h
 unfold byteV
 congr 1
 rw [UInt8.toNat_ofNat']
 omega
theorem wf_range {k : IntKind} {n : Int} (h : (Lit.int k n).wf = true) : k.min ≤ n ∧ n ≤ k.max := by
 simpa [Lit.wf] using h
theorem take_drop_split {vs : List Value} {off s : Nat} : vs.drop off = (vs.drop off).take s ++ vs.drop (off + s) := by
 rw [← List.drop_drop]; exact (List.take_append_drop s _).symm
theorem open_fields {g : TypeId→Option (List CTy)} {fuel : Nat} (ih : ∀ {t : TypeId} {cts : List CTy},g t = some cts→∀ {cs : List Value} {d : DataW H} {ps : List MemPlace},DataW.trod enc P E.w base sp held fuel t cs = some (d,ps)→(∀ m ∈ d.weights P t,m ≤ reachBytes)→∃ ms,RelL E ms cs ∧ HasL cts ms)
  {cs : List Value} : ∀ {fs : List Field} {off : Nat} {l : List CTy} {xs : List (DataW H × List MemPlace)},ctysF P g off fs = some l→xs.length = fs.length→cs.length = off + l.length →
   (∀ (i : Nat) (f : Field),fs[i]? = some f→DataW.trod enc P E.w base sp held fuel f.type ((cs.drop f.offset).take (P.cellsOf f.type)) = xs[i]?) →
   (∀ m ∈ DataW.weightsEach P (fs.map (·.type)) (xs.map (·.1)),m ≤ reachBytes)→∃ ms,RelL E ms (cs.drop off) ∧ HasL l ms
 | [],off,l,xs,h,_,hc,_,_=>by
  simp only [ctysF,Option.some.injEq] at h
  subst h
  have : cs.drop off = [] := List.drop_eq_nil_of_le (by simp at hc; omega)
  rw [this]
  exact ⟨[],.nil,.nil⟩
 | f :: fs,off,l,xs,h,hx,hc,ht,hw=>by
  simp only [ctysF] at h
  split at h
  ·rename_i hoff
   split at h
   ·rename_i es hes
    split at h
    ·rename_i hcell
     split at h
     ·rename_i r hr
      cases h
      cases xs with
      | nil=>simp at hx
      | cons x xs =>
       have h0 := ht 0 f rfl
       simp only [List.getElem?_cons_zero] at h0
       simp only [List.map_cons,DataW.weightsEach] at hw
       obtain ⟨ms,hm,hl⟩ := ih hes (d := x.1) (ps := x.2) h0 (fun m hm=>hw m (List.mem_append_left _ hm))
       obtain ⟨ms',hm',hl'⟩ := open_fields ih (fs := fs) (off := off + es.length) (l := r) (xs := xs) hr (by simpa using hx) (by rw [hc,List.length_append]; omega) (fun i f' hf'=>by
        have := ht (i + 1) f' (by simpa using hf')
        simpa using this) (fun m hm=>hw m (List.mem_append_right _ hm))
       refine ⟨ms ++ ms',?_,hl.append hl'⟩
       rw [take_drop_split (s := es.length)]
       rw [hoff,hcell] at hm
       exact hm.append hm'
     ·cases h
    ·cases h
   ·cases h
  ·cases h
theorem open_array {n : Nat} (ih : ∀ {t : TypeId} {cts : List CTy},ctys P n t = some cts→∀ {fuel : Nat} {cs : List Value} {d : DataW H} {ps : List MemPlace},DataW.trod enc P E.w base sp held fuel t cs = some (d,ps)→(∀ m ∈ d.weights P t,m ≤ reachBytes)→∃ ms,RelL E ms cs ∧ HasL cts ms)
  {cs : List Value} {fuel : Nat} {e : TypeId} {es : List CTy} (he : ctys P n e = some es) (hs : P.cellsOf e = es.length) : ∀ {m k : Nat} {xs : List (DataW H × List MemPlace)},xs.length = m→cs.length = (k + m) * es.length →
   (∀ (i : Nat),i < m→DataW.trod enc P E.w base sp held fuel e ((cs.drop ((k + i) * es.length)).take es.length) = xs[i]?) →
   (∀ w ∈ DataW.weightsAll P e (xs.map (·.1)),w ≤ reachBytes)→∃ ms,RelL E ms (cs.drop (k * es.length)) ∧ HasL (List.replicate m es).flatten ms
 | 0,k,xs,hx,hc,_,_=>by
  have : cs.drop (k * es.length) = [] := List.drop_eq_nil_of_le (by simp at hc; omega)
  rw [this]
  exact ⟨[],.nil,.nil⟩
 | m + 1,k,xs,hx,hc,ht,hw=>by
  cases xs with
  | nil=>simp at hx
  | cons x xs =>
   have h0 := ht 0 (by omega)
   simp only [List.getElem?_cons_zero,Nat.add_zero] at h0
   simp only [List.map_cons,DataW.weightsAll] at hw
   obtain ⟨ms,hm,hl⟩ := ih he (d := x.1) (ps := x.2) h0 (fun m hm=>hw m (List.mem_append_left _ hm))
   obtain ⟨ms',hm',hl'⟩ := open_array ih he hs (m := m) (k := k + 1) (xs := xs) (by simpa using hx) (by rw [hc]; congr 1; omega) (fun i hi=>by
    have := ht (i + 1) (by omega)
    rw [show k + (i + 1) = k + 1 + i by omega] at this
    simpa using this) (fun m hm=>hw m (List.mem_append_right _ hm))
   refine ⟨ms ++ ms',?_,?_⟩
   ·rw [take_drop_split (s := es.length)]
    rw [Nat.add_mul,Nat.one_mul] at hm'
    exact hm.append hm'
   ·rw [List.replicate_succ,List.flatten_cons]
    exact hl.append hl'
theorem open_bytesT (hE : E.whole) {t e : TypeId} (hu : P.underlying t = some (.slice e)) (hb : isByteT P e = true) (hc : P.cellsOf e = 1) (hp : 0 < P.bytesOf e) {fuel : Nat} {cs : List Value} {d : DataW H} {ps : List MemPlace} (ht : DataW.trod enc P E.w base sp held fuel t cs = some (d,ps)) (hw : ∀ m ∈ d.weights P t,m ≤ reachBytes) :
  ∃ ms,RelL E ms cs ∧ HasL [.bytes] ms := by
 rcases DataW.trod_slice hu ht with ⟨rfl,hx⟩ | ⟨a,len,cap,elems,rest,m,rfl,rfl,hx,_,hcap,_,hlen,hel,_,_⟩
 ·exact ⟨[.nilsl],.cons .nilsl .nil,.cons .bnil .nil⟩
 ·cases hx
  have hl := bytes_weight hu hp hw
  rw [List.length_map,hlen] at hl
  refine open_bytes hE hcap hl fun i hi=>?_
  have h1 := hel i hi
  rw [hc,Nat.mul_one] at h1
  obtain ⟨x,hx⟩ : ∃ x,elems[i]? = some x := ⟨_,List.getElem?_eq_getElem (by omega)⟩
  rw [hx,Option.bind_eq_some_iff] at h1
  obtain ⟨cs,h2,h3⟩ := h1
  obtain ⟨v,rfl,_,hwf⟩ := DataW.trod_int (isByteT_ok hb) h3
  obtain ⟨b,hb⟩ := byte_of hwf
  have := (cells_get h2).2 0 _ rfl
  refine ⟨b,?_⟩
  rw [hb] at this
  simpa [Addr.add] using this
theorem open_plain (hE : E.whole) {t : TypeId} {cts : List CTy} (h : ctyP P t = some cts) {fuel : Nat} {cs : List Value} {d : DataW H} {ps : List MemPlace} (ht : DataW.trod enc P E.w base sp held fuel t cs = some (d,ps)) (hw : ∀ m ∈ d.weights P t,m ≤ reachBytes) :
  ∃ ms,RelL E ms cs ∧ HasL cts ms := by
 unfold ctyP at h
 split at h
 ·rename_i k hu
  cases h
  obtain ⟨m,rfl,hx,hwf⟩ := DataW.trod_int hu ht
  obtain ⟨a,b⟩ := wf_range hwf
  exact ⟨[.int k m],.cons (.int a b) .nil,.cons (.int a b) .nil⟩
 ·rename_i hu
  cases h
  obtain ⟨b,rfl,hx⟩ := DataW.trod_bool hu ht
  exact ⟨[.bool b],.cons .bool .nil,.cons .bool .nil⟩
 ·rename_i e hu
  split at h
  ·rename_i hc
   cases h
   exact open_bytesT hE hu hc.1 hc.2.1 hc.2.2 ht hw
  ·cases h
 ·cases h
theorem open_tree (hE : E.whole) {t : TypeId} (hT : isTreeT P t = true) (fuel : Nat) {cs : List Value} {d : DataW H} {ps : List MemPlace} (ht : DataW.trod enc P E.w base sp held fuel t cs = some (d,ps)) (hw : ∀ m ∈ d.weights P t,m ≤ reachBytes) :
  ∃ ms,RelL E ms cs ∧ HasL [.tree] ms := by
 induction fuel using Nat.strongRecOn generalizing cs d ps with
 | ind fuel IH =>
  have hT0 := hT
  unfold isTreeT at hT0
  split at hT0
  ·rename_i e hu
   split at hT0
   ·rename_i fs hs
    simp only [Bool.and_eq_true,decide_eq_true_eq] at hT0
    obtain ⟨⟨h5,hce⟩,hbe⟩ := hT0
    have h5 := isTree5_ok h5
    rcases DataW.trod_slice hu ht with ⟨rfl,hx⟩ | ⟨a,len,cap,elems,rest,m,rfl,rfl,hx,_,hcap,_,hlen,hel,_,_⟩
    ·exact ⟨[.nilsl],.cons .nilsl .nil,.cons .tnil .nil⟩
    ·cases hx
     have hl := bytes_weight hu hbe hw
     rw [List.length_map,hlen] at hl
     obtain ⟨l,h1,h2,h3⟩ := open_elems0 (base := base) (g := true) (es := treeC) hE (by decide) hcap hl fun i hi=>by
      have h1 := hel i hi
      rw [hce] at h1
      have hlt : i < elems.length := by omega
      rw [List.getElem?_eq_getElem hlt,Option.bind_eq_some_iff] at h1
      obtain ⟨cs,h2,h3⟩ := h1
      have hwe := elem_weight hu hw (List.mem_map.2 ⟨_,List.getElem_mem hlt,rfl⟩)
      obtain ⟨xs,k,rfl,hx,hcl,hxl,hf⟩ := DataW.trod_struct hs h3
      have hd : elems[i].1 = .agg (xs.map (·.1)) := by rw [hx]
      have := open_fields (g := fun u=>if u = t then some [.tree] else ctyP P u) (fuel := k) (fun {u cts} hg {cs d ps} htr hwt=>by
       split at hg
       ·rename_i hut
        cases hg
        subst hut
        exact IH k (by omega) htr hwt
       ·exact open_plain hE hg htr hwt) (cs := cs) (fs := fs.toList) (off := 0) (xs := xs) h5 (by simpa using hxl) (by rw [hcl,hce]; rfl) (fun i f hfi=>hf i f (by simpa using hfi)) (fun w hwm=>hwe w (by rw [hd]; simp only [DataW.weights,hs]; exact hwm))
      obtain ⟨ms,hm,hl⟩ := this
      obtain ⟨el,he,hce'⟩ := elem_of hl (.inl rfl)
      exact ⟨(cs,el),h2,by rw [hce']; simpa using hm,he⟩
     exact ⟨_,h1,.cons (.tree h2 h3) .nil⟩
   ·cases hT0
  ·cases hT0
theorem open_ok (hE : E.whole) : ∀ (n : Nat) {t : TypeId} {cts : List CTy},ctys P n t = some cts→∀ {fuel : Nat} {cs : List Value} {d : DataW H} {ps : List MemPlace},DataW.trod enc P E.w base sp held fuel t cs = some (d,ps)→(∀ m ∈ d.weights P t,m ≤ reachBytes) →
  ∃ ms,RelL E ms cs ∧ HasL cts ms
 | 0,t,cts,h,fuel,cs,d,ps,_,_=>by simp [ctys] at h
 | n + 1,t,cts,h,fuel,cs,d,ps,ht,hw=>by
  have ih := fun {t cts} (h : ctys P n t = some cts) {fuel cs d ps}=>open_ok hE n h (fuel := fuel) (cs := cs) (d := d) (ps := ps)
  simp only [ctys] at h
  split at h
  ·rename_i k hu
   cases h
   obtain ⟨m,rfl,hx,hwf⟩ := DataW.trod_int hu ht
   obtain ⟨a,b⟩ := wf_range hwf
   exact ⟨[.int k m],.cons (.int a b) .nil,.cons (.int a b) .nil⟩
  ·rename_i hu
   cases h
   obtain ⟨b,rfl,hx⟩ := DataW.trod_bool hu ht
   exact ⟨[.bool b],.cons .bool .nil,.cons .bool .nil⟩
  ·rename_i hu
   cases h
   obtain ⟨s,rfl,hx,_⟩ := DataW.trod_string hu ht
   cases hx
   have hl : s.data.toList.length ≤ reachBytes := hw _ (by simp [DataW.weights])
   refine ⟨[.str s.data.toList],.cons ?_ .nil,.cons (.str hl) .nil⟩
   have := RelV.str (E := E) (s := s.data.toList) (reach62 hl)
   simpa using this
  ·rename_i e hu
   split at h
   ·rename_i hb
    split at h
    ·rename_i hc
     cases h
     exact open_bytesT hE hu hb hc.1 hc.2 ht hw
    ·cases h
   ·by_cases hT : isTreeT P t = true
    ·rw [if_pos hT] at h
     cases h
     exact open_tree hE hT fuel ht hw
    rw [if_neg hT] at h
    have main : ∀ {g : Bool} {es : List CTy},ctys P n e = some es→P.cellsOf e = es.length→0 < es.length→0 < P.bytesOf e→(g = true ∨ ∃ c,es = [c])→∃ ms,RelL E ms cs ∧ HasL [.sl g es] ms := by
     intro g es hes hcs h0 hb hg
     rcases DataW.trod_slice hu ht with ⟨rfl,hx⟩ | ⟨a,len,cap,elems,rest,m,rfl,rfl,hx,_,hcap,_,hlen,hel,_,_⟩
     ·exact ⟨[.nilsl],.cons .nilsl .nil,.cons .snil .nil⟩
     ·cases hx
      have hl := bytes_weight hu hb hw
      rw [List.length_map,hlen] at hl
      refine open_elems (base := base) hE h0 hcap hl fun i hi=>?_
      have h1 := hel i hi
      rw [hcs] at h1
      have hlt : i < elems.length := by omega
      rw [List.getElem?_eq_getElem hlt,Option.bind_eq_some_iff] at h1
      obtain ⟨cs,h2,h3⟩ := h1
      obtain ⟨ms,hm,hl⟩ := ih hes (d := elems[i].1) (ps := elems[i].2) h3 (elem_weight hu hw (List.mem_map.2 ⟨_,List.getElem_mem hlt,rfl⟩))
      obtain ⟨el,he,hce⟩ := elem_of hl hg
      exact ⟨(cs,el),h2,by rw [hce]; exact hm,he⟩
    split at h
    ·rename_i es hes ha
     split at h
     ·rename_i hc; cases h; exact main hes hc.1 hc.2.1 hc.2.2 (.inl rfl)
     ·cases h
    ·rename_i c hes ha
     split at h
     ·rename_i hc; cases h; exact main hes (by simpa using hc.1) (by simp) hc.2 (.inr ⟨c,rfl⟩)
     ·cases h
    ·cases h
  ·rename_i fs hu
   split at h
   ·rename_i l hl
    split at h
    ·rename_i hc
     cases h
     obtain ⟨xs,m,rfl,hx,hcl,hxl,hf⟩ := DataW.trod_struct hu ht
     cases hx
     have := open_fields (g := ctys P n) (fuel := m) (fun h=>ih h) (cs := cs) (fs := fs.toList) (off := 0) (xs := xs) hl (by simpa using hxl) (by rw [hcl,hc]; simp) (fun i f hfi=>hf i f (by simpa using hfi)) (fun w hwm=>hw w (by simp only [DataW.weights,hu]; exact hwm))
     simpa using this
    ·cases h
   ·cases h
  ·rename_i m e hu
   split at h
   ·rename_i es hes
    split at h
    ·rename_i hc
     cases h
     obtain ⟨xs,q,rfl,hx,hcl,hxl,hf⟩ := DataW.trod_array hu ht
     cases hx
     have := open_array ih (cs := cs) (fuel := q) hes hc.1 (m := m) (k := 0) (xs := xs) hxl (by rw [hcl,hc.2]; simp) (fun i hi=>by have := hf i hi; rw [hc.1] at this; simpa using this) (fun w hwm=>hw w (by simp only [DataW.weights,hu]; exact hwm))
     simpa using this
    ·cases h
   ·cases h
  ·cases h
end
end Go.Mini
namespace Go.Mini
open Go Go.RowKit Go.ChangeShapes
section
variable {H : Type} {enc : TypeId × Value→H} {P : Program} {E : Env} {base : Nat} {sp : Nat→Bool} {held : Bool} {Q : Prog}
theorem open_arg (hE : E.whole) {b0 n : Nat} {t : TypeId} {v : Value} {d : DataW H} {ps : List MemPlace} {cts : List CTy} {g : Bool} (hval : Value.okWide P E.w .any b0 t v) (h : DataW.Trod enc P E.w base sp held t v d ps)
  (hw : ∀ m ∈ d.weights P t,m ≤ reachBytes) (hc : ctys P n t = some cts) (hg : aggT P t = some g) : ∃ m,RelV E m v ∧ HasE g cts m := by
 obtain ⟨fuel,ht⟩ := h
 obtain ⟨ms,hr,hl⟩ := open_ok hE n hc ht hw
 have agg : ∀ {cs : Array Value},v = .agg cs→∃ m,RelV E m v ∧ HasE true cts m := by
  rintro cs rfl
  refine ⟨.agg ms,?_,.agg hl⟩
  have := RelV.agg (E := E) hr (fun c hc=>⟨hl.cell c hc,hl.pure c hc⟩)
  simpa [Value.cells] using this
 have one : (∀ cs,v ≠ .agg cs)→(∃ c,cts = [c])→∃ m,RelV E m v ∧ HasE false cts m := by
  rintro hv ⟨c,rfl⟩
  cases hl with
  | cons h1 h2 =>
   cases h2
   have hcs : v.cells = #[v] := by cases v <;> first | rfl | exact (hv _ rfl).elim
   rw [hcs] at hr
   cases hr with
   | cons k1 k2=>exact ⟨_,k1,.one h1⟩
 unfold Value.okWide at hval
 unfold aggT at hg
 cases n with
 | zero=>simp [ctys] at hc
 | succ n =>
  simp only [ctys] at hc
  cases hu : P.underlying t with
  | none=>rw [hu] at hg; cases hg
  | some dsc =>
   rw [hu] at hg hc hval
   cases dsc <;> simp only [Option.some.injEq] at hg <;> subst hg <;> simp only at hc hval <;> try (cases hc; done)
   ·exact one (by rintro cs rfl; simp [Cell.okWide,Cell.ok,hu] at hval) (by cases hc; exact ⟨_,rfl⟩)
   ·exact one (by rintro cs rfl; simp [Cell.okWide,Cell.ok,hu] at hval) (by cases hc; exact ⟨_,rfl⟩)
   ·exact one (by rintro cs rfl; simp [Cell.okWide,Cell.ok,hu] at hval) (by cases hc; exact ⟨_,rfl⟩)
   ·refine one (by rintro cs rfl; simp [Cell.okWide,Cell.ok,hu] at hval) ?_
    split at hc
    ·split at hc
     ·cases hc; exact ⟨_,rfl⟩
     ·cases hc
    ·split at hc
     ·cases hc; exact ⟨_,rfl⟩
     ·split at hc
      ·split at hc
       ·cases hc; exact ⟨_,rfl⟩
       ·cases hc
      ·split at hc
       ·cases hc; exact ⟨_,rfl⟩
       ·cases hc
      ·cases hc
   ·obtain ⟨cs,hv,_⟩ := hval; exact agg hv
   ·obtain ⟨cs,hv,_⟩ := hval; exact agg hv
def argTys (P : Program) (n : Nat) : List TypeId→Option (List (Bool × List CTy))
 | []=>some []
 | t :: ts=>match ctys P n t,aggT P t,argTys P n ts with
  | some c,some g,some l=>some ((g,c) :: l)
  | _,_,_=>none
inductive HasArgs : List (Bool × List CTy)→List MV→Prop
 | nil : HasArgs [] []
 | cons {g c l m ms} (h : HasE g c m) (r : HasArgs l ms) : HasArgs ((g,c) :: l) (m :: ms)
theorem HasArgs.pure : ∀ {l ms},HasArgs l ms→∀ m ∈ ms,Pure m
 | _,_,.nil=>by simp
 | _,_,.cons h r=>by
  intro m hm
  rcases List.mem_cons.1 hm with rfl | hm
  ·exact h.pure
  ·exact r.pure m hm
theorem open_args (hE : E.whole) {b0 n : Nat} : ∀ {ts : List TypeId} {l : List (Bool × List CTy)} {vs : List Value} {ds : List (DataW H)} {p : List MemPlace},argTys P n ts = some l→DataW.TrodAll enc P E.w base sp held ts vs ds p →
  (∀ (j : Nat) t v,ts[j]? = some t→vs[j]? = some v→Value.okWide P E.w .any b0 t v)→(∀ m ∈ DataW.weightsEach P ts ds,m ≤ reachBytes)→∃ ms,RelL E ms vs ∧ HasArgs l ms
 | [],l,vs,ds,p,h,ht,_,_=>by
  simp only [argTys,Option.some.injEq] at h
  subst h
  obtain ⟨rfl,rfl,_⟩ := trodAll_nil ht
  exact ⟨[],.nil,.nil⟩
 | t :: ts,l,vs,ds,p,h,ht,hv,hw=>by
  simp only [argTys] at h
  split at h
  ·rename_i c g l' hc hg hl
   cases h
   obtain ⟨v,vs,d,ds,a,b,rfl,rfl,rfl,h1,h2⟩ := trodAll_cons ht
   simp only [DataW.weightsEach] at hw
   obtain ⟨m,k1,k2⟩ := open_arg hE (hv 0 t v rfl rfl) h1 (fun m hm=>hw m (List.mem_append_left _ hm)) hc hg
   obtain ⟨ms,k3,k4⟩ := open_args hE hl h2 (fun j t v h1 h2=>hv (j + 1) t v (by simpa using h1) (by simpa using h2)) (fun m hm=>hw m (List.mem_append_right _ hm))
   exact ⟨m :: ms,.cons k1 k3,.cons k2 k4⟩
  ·cases h
theorem trodAll_below (hlo : laidOutB P = true) {W W' : World} (hb : Below W.heap.size W W') : ∀ {ts : List TypeId} {vs : List Value} {ds : List (DataW H)} {p : List MemPlace},(∀ t ∈ ts,P.readableRec t = true ∧ t < P.types.size) →
  DataW.TrodAll enc P W 0 (fun _=>true) true ts vs ds p→(∀ x ∈ p,x.block < W.heap.size)→DataW.TrodAll enc P W' 0 (fun b=>decide (b < W.heap.size)) true ts vs ds p
 | [],vs,ds,p,_,h,_=>by
  obtain ⟨rfl,rfl,rfl⟩ := trodAll_nil h
  rfl
 | t :: ts,vs,ds,p,ht,h,hlt=>by
  obtain ⟨v,vs,d,ds,a,b,rfl,rfl,rfl,h1,h2⟩ := trodAll_cons h
  refine ⟨a,b,Below.trod hlo (ht t (by simp)).1 (ht t (by simp)).2 h1 hb (fun x hx=>hlt x (by simp [hx])),trodAll_below hlo hb (fun t' h'=>ht t' (by simp [h'])) h2 (fun x hx=>hlt x (by simp [hx])),rfl⟩
theorem weights_more {ts us : List TypeId} {ds : List (DataW H)} : ∀ m ∈ DataW.weightsEach P ts ds,m ∈ DataW.weightsEach P (ts ++ us) ds := by
 induction ts generalizing ds with
 | nil=>intro m hm; cases ds <;> simp [DataW.weightsEach] at hm
 | cons t ts ih =>
  intro m hm
  cases ds with
  | nil=>simp [DataW.weightsEach] at hm
  | cons d ds =>
   simp only [List.cons_append,DataW.weightsEach,List.mem_append] at hm ⊢
   exact hm.imp id (ih m)
theorem HasArgs.length : ∀ {l ms},HasArgs l ms→ms.length = l.length
 | _,_,.nil=>rfl
 | _,_,.cons _ r=>by simp [r.length]
theorem trodAll_length {w : World} : ∀ {ts : List TypeId} {vs : List Value} {ds : List (DataW H)} {p : List MemPlace},DataW.TrodAll enc P w base sp held ts vs ds p→ds.length = vs.length
 | [],vs,ds,p,h=>by
  obtain ⟨rfl,rfl,_⟩ := trodAll_nil h
  rfl
 | t :: ts,vs,ds,p,h=>by
  obtain ⟨v,vs,d,ds,a,b,rfl,rfl,rfl,h1,h2⟩ := trodAll_cons h
  simp [trodAll_length h2]
def wholeEnv (W : World) : Env :=
 { C := fun b=>match W.heap[b]? with | some (.cells c _ _)=>c.size | _=>0,w := W,born := fun _=>False,len := fun _=>none,blk := fun _=>none,cap := fun _=>0,sz := fun _=>0 }
theorem wholeEnv_whole (W : World) : (wholeEnv W).whole := by
 intro b c e fr h
 show c.size ≤ (match W.heap[b]? with | some (.cells c _ _)=>c.size | _=>0)
 have h : W.heap[b]? = some (.cells c e fr) := h
 rw [h]
 exact Nat.le_refl _
theorem law_contract {Gd : Ground} (hQ : ProgOK P Gd Q) (hlo : laidOutB P = true) {f : FuncId} {fn : Func} (hf : P.funcs[f]? = some fn) (hbody : fn.body ≠ none) (hname : fn.name ≠ "runtime.NumGoroutine") {s : ChangeSpec} {n : Nat} {l : List (Bool × List CTy)}
  (hargs : argTys P n fn.params.toList = some l) (hrd : ∀ t ∈ fn.params.toList,P.readableRec t = true ∧ t < P.types.size) {tb : TypeId} (hres : fn.resultTypes = #[tb]) (htb : P.underlying tb = some .bool) (hsv : s.vars = [])
  (hs : ∀ (ds : List (DataW H)),ds.length = l.length→s.fn H ds = { results := [.lit (.bool true)],args := ds }) (law : ∀ ms,HasArgs l ms→Call Q f ms = some (.bool true))
  {W : World} (hG : Gd.G (wholeEnv W)) {b0 : Nat} {args : Array Value} {ds gs : List (DataW H)} {before : List MemPlace} (hval : ∀ (j : Nat) t v,fn.params[j]? = some t→args[j]? = some v→Value.okWide P W .any b0 t v)
  (hW : DataW.Whole enc P fn.params.toList s.vars false W args.toList ds gs before) (hwt : (DataW.weightsEach P (fn.params.toList ++ s.plain.varTypes P) (ds ++ gs)).all (· ≤ reachBytes) = true) :
  Calls P f args W fun e W'=>∃ v,e = .returned v ∧ s.post enc P fn false true false false W args v W' := by
 have hW' := hW
 obtain ⟨p,q,hA,hV,rfl,hfz,hnd⟩ := hW
 rw [hsv] at hV
 obtain ⟨rfl,rfl⟩ := trodVars_none hV
 simp only [List.append_nil,List.all_eq_true,decide_eq_true_eq] at hwt
 obtain ⟨ms,hr,ha⟩ := open_args (E := wholeEnv W) (wholeEnv_whole W) hargs hA (fun j t v h1 h2=>hval j t v (by simpa using h1) (by simpa using h2)) (fun m hm=>hwt m (weights_more m hm))
 have good : ∀ b,0 < (wholeEnv W).C b→b < (wholeEnv W).w.heap.size := by
  intro b hb
  have hb : 0 < (match W.heap[b]? with | some (.cells c _ _)=>c.size | _=>0) := hb
  show b < W.heap.size
  rcases Nat.lt_or_ge b W.heap.size with h | h
  ·exact h
  ·rw [Array.getElem?_eq_none h] at hb; simp at hb
 have ok := call_ok hQ (law ms ha) (wholeEnv W) args.toList hG good hr ha.pure
 have hdl : ds.length = l.length := by rw [trodAll_length hA,← hr.length,ha.length]
 rcases ok with ⟨hrun,hcalls⟩ | ⟨x,w',hrun,_⟩
 ·refine Calls.mono hcalls ?_
  rintro e w' ⟨x,rfl,C,mv,hg,b,ret⟩
  have hx : x = .bool true := by
   cases ret with
   | pure h p=>cases h; rfl
  subst hx
  have hb : Below W.heap.size W w' := ⟨mv.os,mv.tape,mv.output,mv.size,fun k hk=>mv.block k hk (by show ¬ W.heap.size ≤ k; omega)⟩
  have hlt := hW'.lt
  refine ⟨_,rfl,ds,[],p ++ [],[],p,[],hW',?_,?_,?_,hb.frame _,fun h=>Bool.noConfusion h⟩
  ·simp only [List.append_nil]
   rw [hs ds hdl,hres]
   exact trodAll_mk1 (shut_bool htb true)
  ·simp only [List.append_nil]
   rw [hs ds hdl]
   exact trodAll_below hlo hb hrd hA (fun x hx=>hlt x (by simpa using hx))
  ·simp only [List.append_nil]
   rw [hs ds hdl,hsv]
   rfl
 ·exfalso
  have : (callFunc f args.toList.toArray).run P W = .ok (.enter f args.toList.toArray) W := by simp [callFunc,hf,hname,hbody]
  have h2 : (callFunc f args.toList.toArray).run P W = .ok (.value x) w' := hrun
  rw [this] at h2
  cases h2
end
end Go.Mini
namespace Go.Mini
open Go Go.RowKit
variable {P : Program}
structure Kept (w w' : World) : Prop where
 os : w'.os = w.os
 tape : w'.tape = w.tape
 output : w'.output = w.output
 size : w.heap.size ≤ w'.heap.size
 block : ∀ k,k < w.heap.size→w'.heap[k]? = w.heap[k]?
theorem Kept.refl (w : World) : Kept w w := ⟨rfl,rfl,rfl,Nat.le_refl _,fun _ _=>rfl⟩
theorem Kept.trans {a b c : World} (h : Kept a b) (k : Kept b c) : Kept a c :=
 ⟨k.os.trans h.os,k.tape.trans h.tape,k.output.trans h.output,Nat.le_trans h.size k.size,fun i hi=>(k.block i (Nat.lt_of_lt_of_le hi h.size)).trans (h.block i hi)⟩
theorem Kept.drew (w : World) : Kept w w.drew := ⟨rfl,rfl,rfl,Nat.le_refl _,fun _ _=>rfl⟩
theorem Kept.drewN (w : World) (k : Nat) : Kept w (w.drewN k) := ⟨rfl,rfl,rfl,Nat.le_refl _,fun _ _=>rfl⟩
theorem Kept.below {w w' : World} (h : Below w.heap.size w w') : Kept w w' := ⟨h.os,h.tape,h.output,h.size,h.block⟩
theorem Kept.alloc (w : World) (G : Go.Obj) : Kept w (w.alloc G) := ⟨rfl,rfl,rfl,by show _ ≤ (w.heap.push G).size; rw [Array.size_push]; omega,fun k hk=>by
 show (w.heap.push G)[k]? = _
 rw [Array.getElem?_push,if_neg (by omega)]⟩
theorem Kept.grow (w : World) (os : Array Go.Obj) : Kept w (Sort.grow w os) := by
 refine ⟨rfl,rfl,rfl,?_,fun k hk=>?_⟩
 ·show _ ≤ (w.heap ++ os).size; simp
 ·show (w.heap ++ os)[k]? = _
  rw [Array.getElem?_append_left hk]
theorem Kept.move {E : Env} (good : ∀ b,0 < E.C b→b < E.w.heap.size) {w' : World} (h : Kept E.w w') {C : Nat→Nat} (h1 : ∀ b,b < E.w.heap.size→C b = E.C b) : Move (fun k=>E.w.heap.size ≤ k) E (E.next C w') where
 C b := by
  rcases Nat.lt_or_ge b E.w.heap.size with hb | hb
  ·show _ ≤ C b; rw [h1 b hb]; exact Nat.le_refl _
  ·have : ¬ 0 < E.C b := fun h=>by have := good b h; omega
   omega
 cell b i hi := by
  have hb := good b (by omega)
  show w'.cell? _ = E.w.cell? _
  unfold World.cell?
  simp only
  rw [h.block b hb]
 born _ h := h
 len _ _ _ hn := ⟨hn,rfl,rfl,rfl⟩
 os := h.os
 tape := h.tape
 output := h.output
 size := h.size
 block k hk _ := h.block k hk
 com k hk := h1 k (by simpa using hk)
theorem FunOK.pure {Gd : Ground} {f : FuncId} {args : List MV} {r : MV} (hr : ∀ l,r ≠ .tup l) (hp : Pure r)
  (h : ∀ (E : Env) (vs : List Value),Gd.G E→(∀ b,0 < E.C b→b < E.w.heap.size)→RelL E args vs→CallK P f vs.toArray E.w fun x w'=>Kept E.w w' ∧ RelV E r x) : FunOK P Gd f args r := by
 intro E vs hG good hrel _
 have fin : ∀ x w',Kept E.w w' ∧ RelV E r x→∃ C,Move (fun k=>E.w.heap.size ≤ k) E (E.next C w') ∧ (∀ b,0 < C b→b < w'.heap.size) ∧ Ret (E.next C w') E.w.heap.size r x := by
  rintro x w' ⟨hk,hx⟩
  have mv := hk.move good (C := E.C) fun _ _=>rfl
  refine ⟨E.C,mv,fun b hb=>Nat.lt_of_lt_of_le (good b hb) hk.size,?_⟩
  cases r <;> first | exact ⟨none,.pure (hx.ext mv.toExt) hp⟩ | exact (hr _ rfl).elim
 rcases h E vs hG good hrel with ⟨h1,h2⟩ | ⟨x,w',h1,h2⟩
 ·refine .inl ⟨h1,Calls.mono h2 ?_⟩
  rintro e w' ⟨x,rfl,hx⟩
  exact ⟨x,rfl,fin x w' hx⟩
 ·exact .inr ⟨x,w',h1,fin x w' h2⟩
theorem FunOK.pures {Gd : Ground} {f : FuncId} {args : List MV} {l : List MV} (hp : ∀ v ∈ l,Pure v)
  (h : ∀ (E : Env) (vs : List Value),Gd.G E→(∀ b,0 < E.C b→b < E.w.heap.size)→RelL E args vs→CallK P f vs.toArray E.w fun x w'=>Kept E.w w' ∧ ∃ xs,x = .tuple xs.toArray ∧ RelL E l xs) : FunOK P Gd f args (.tup l) := by
 intro E vs hG good hrel _
 have fin : ∀ x w',(Kept E.w w' ∧ ∃ xs,x = .tuple xs.toArray ∧ RelL E l xs)→∃ C,Move (fun k=>E.w.heap.size ≤ k) E (E.next C w') ∧ (∀ b,0 < C b→b < w'.heap.size) ∧ Ret (E.next C w') E.w.heap.size (.tup l) x := by
  rintro x w' ⟨hk,xs,rfl,hx⟩
  have mv := hk.move good (C := E.C) fun _ _=>rfl
  refine ⟨E.C,mv,fun b hb=>Nat.lt_of_lt_of_le (good b hb) hk.size,?_⟩
  have key : ∀ {l : List MV} {xs : List Value},(∀ v ∈ l,Pure v)→RelL (E.next E.C w') l xs→RetL (E.next E.C w') E.w.heap.size l xs [] := by
   intro l
   induction l with
   | nil=>intro xs _ h; cases h; exact .nil
   | cons v l ih =>
    intro xs hp h
    cases h with
    | cons h1 h2=>exact .cons (b := none) (.pure h1 (hp _ (by simp))) (ih (fun u hu=>hp u (by simp [hu])) h2) (fun k hk=>by cases hk)
  exact ⟨xs,[],rfl,key hp (hx.ext mv.toExt)⟩
 rcases h E vs hG good hrel with ⟨h1,h2⟩ | ⟨x,w',h1,h2⟩
 ·refine .inl ⟨h1,Calls.mono h2 ?_⟩
  rintro e w' ⟨x,rfl,hx⟩
  exact ⟨x,rfl,fin x w' hx⟩
 ·exact .inr ⟨x,w',h1,fin x w' h2⟩
theorem FunOK.newCells {Gd : Ground} {f : FuncId} {args : List MV} {s : Nat} {l : List MV} (h0 : 0 < s) (hu : Uni s l) (hl : l.length < 2 ^ 62)
  (h : ∀ (E : Env) (vs : List Value),Gd.G E→(∀ b,0 < E.C b→b < E.w.heap.size)→RelL E args vs→CallK P f vs.toArray E.w fun x w'=>Kept E.w w' ∧ ∃ b o cap xs,x = .slice (some ⟨b,o,none⟩) l.length cap ∧ l.length ≤ cap ∧ E.w.heap.size ≤ b ∧ b < w'.heap.size ∧
   RelL E (l.flatMap MV.cells) xs ∧ ∀ (i : Nat) (v : Value),xs[i]? = some v→w'.cell? ⟨b,o + i,none⟩ = some v) : FunOK P Gd f args (.sl s l) := by
 intro E vs hG good hrel _
 have fin : ∀ x w',(Kept E.w w' ∧ ∃ b o cap xs,x = .slice (some ⟨b,o,none⟩) l.length cap ∧ l.length ≤ cap ∧ E.w.heap.size ≤ b ∧ b < w'.heap.size ∧
   RelL E (l.flatMap MV.cells) xs ∧ ∀ (i : Nat) (v : Value),xs[i]? = some v→w'.cell? ⟨b,o + i,none⟩ = some v)→∃ C,Move (fun k=>E.w.heap.size ≤ k) E (E.next C w') ∧ (∀ b,0 < C b→b < w'.heap.size) ∧ Ret (E.next C w') E.w.heap.size (.sl s l) x := by
  rintro x w' ⟨hk,b,o,cap,xs,rfl,hcap,hb,hb',hx,hc⟩
  let C : Nat→Nat := upd E.C b (o + xs.length)
  have mv := hk.move good (C := C) fun k hk=>upd_other _ _ (by omega)
  refine ⟨C,mv,fun k hk'=>?_,none,.pure (.sl hcap hl h0 hu (hx.ext mv.toExt) fun _=>⟨_,rfl,rfl,?_,hc⟩) (.sl fun e he=>(hu e he).2.2)⟩
  ·by_cases hkb : k = b
   ·subst hkb; exact hb'
   ·have : C k = E.C k := upd_other _ _ hkb
    rw [this] at hk'
    exact Nat.lt_of_lt_of_le (good k hk') hk.size
  ·show _ ≤ C b
   rw [show C b = _ from upd_same _ _ _]
   exact Nat.le_refl _
 rcases h E vs hG good hrel with ⟨h1,h2⟩ | ⟨x,w',h1,h2⟩
 ·refine .inl ⟨h1,Calls.mono h2 ?_⟩
  rintro e w' ⟨x,rfl,hx⟩
  exact ⟨x,rfl,fin x w' hx⟩
 ·exact .inr ⟨x,w',h1,fin x w' h2⟩
end Go.Mini
namespace Go.Mini
open Go
def chk (pre : Nat→List Nat) (ms : List Mark) (m : Mark) : Bool := ms.all fun k=>has (pre m.i) k.i || k.apart m
def OK (b : Bool) : Prop := b = true
theorem ok_of {b : Bool} (h : b = true) : OK b := h
noncomputable def RdV (Q : Prog) (k : List Item) (nx : Nat) (pre : Nat→List Nat) (i nm : Nat) (ms : List Mark) (os : List MOper) (d : Option X) : Option (MV × DS)→Option DS
 | some (v,st)=>Rd Q k nx pre i nm ms os (st.wr d v)
 | none=>none
noncomputable def RdB (Q : Prog) (k : List Item) (nx : Nat) (pre : Nat→List Nat) (i nm : Nat) (ms : List Mark) (os : List MOper) (d : Option X) (op : MOp) (st : DS) : Bool→Option DS
 | true=>RdV Q k nx pre i (nm + 4) ms os d (dOp (Tab Q) nm op st)
 | false=>Rd Q k nx pre i (nm + 4) ms os (st.wr d (.tup []))
noncomputable def RdG (Q : Prog) (k : List Item) (nx : Nat) (pre : Nat→List Nat) (i nm : Nat) (ms : List Mark) (os : List MOper) (d : Option X) (op : MOp) (st : DS) (want : Bool) : MV→Option DS
 | .bool b=>RdB Q k nx pre i nm ms os d op st (b == want)
 | .tup _=>Rd Q k nx pre i (nm + 4) ms os (st.wr d (.tup []))
 | _=>none
variable (Q : Prog)
theorem Rd_nil (k nx pre i nm ms) (st : DS) : Rd Q k nx pre i nm ms [] st = Run Q k ⟨st.V,[],st.O,nx⟩ := rfl
theorem Rd_cons (k nx pre i nm ms d op os) (st : DS) (h : OK (chk pre ms ⟨i,nm,op.xs,d,foot op st,loud op st⟩)) :
  Rd Q k nx pre i nm ms (⟨d,op,none⟩ :: os) st = RdV Q k nx pre (i + 1) (nm + 4) (⟨i,nm,op.xs,d,foot op st,loud op st⟩ :: ms) os d (dOp (Tab Q) nm op st) := by
 unfold OK chk at h
 unfold Rd RdV
 rw [show dDraw (Tab Q) pre i nm ms (⟨d,op,none⟩ :: os) st = match dOper (Tab Q) nm ⟨d,op,none⟩ st with
  | some st1=>dDraw (Tab Q) pre (i + 1) (nm + 4) (⟨i,nm,op.xs,d,foot op st,loud op st⟩ :: ms) os st1
  | none=>none from if_pos h]
 unfold dOper wanted
 simp only
 cases dOp (Tab Q) nm op st <;> rfl
theorem Rd_guard (k nx pre i nm ms d op os x want) (st : DS) (h : OK (chk pre ms ⟨i,nm,x :: op.xs,d,foot op st,loud op st⟩)) :
  Rd Q k nx pre i nm ms (⟨d,op,some (x,want)⟩ :: os) st = RdG Q k nx pre (i + 1) nm (⟨i,nm,x :: op.xs,d,foot op st,loud op st⟩ :: ms) os d op st want (st.rd x) := by
 unfold OK chk at h
 unfold RdG Rd
 rw [show dDraw (Tab Q) pre i nm ms (⟨d,op,some (x,want)⟩ :: os) st = match dOper (Tab Q) nm ⟨d,op,some (x,want)⟩ st with
  | some st1=>dDraw (Tab Q) pre (i + 1) (nm + 4) (⟨i,nm,x :: op.xs,d,foot op st,loud op st⟩ :: ms) os st1
  | none=>none from if_pos h]
 unfold dOper wanted
 cases hx : st.rd x
 case bool b =>
  simp only [hx]
  cases hb : (b == want)
  ·simp only [RdB,Rd]
  ·simp only [RdB,RdV,Rd]
   cases dOp (Tab Q) nm op st <;> rfl
 all_goals simp only [hx,Rd]
theorem RdV_some (k nx pre i nm ms os d v) (st : DS) : RdV Q k nx pre i nm ms os d (some (v,st)) = Rd Q k nx pre i nm ms os (st.wr d v) := rfl
theorem RdG_bool (k nx pre i nm ms os d op st want b) : RdG Q k nx pre i nm ms os d op st want (.bool b) = RdB Q k nx pre i nm ms os d op st (b == want) := rfl
theorem RdG_tup (k nx pre i nm ms os d op st want l) : RdG Q k nx pre i nm ms os d op st want (.tup l) = Rd Q k nx pre i (nm + 4) ms os (st.wr d (.tup [])) := rfl
theorem RdB_true (k nx pre i nm ms os d op st) : RdB Q k nx pre i nm ms os d op st true = RdV Q k nx pre i (nm + 4) ms os d (dOp (Tab Q) nm op st) := rfl
theorem RdB_false (k nx pre i nm ms os d op st) : RdB Q k nx pre i nm ms os d op st false = Rd Q k nx pre i (nm + 4) ms os (st.wr d (.tup [])) := rfl
noncomputable def CallV (nm : Nat) (st : DS) : Option MV→Option (MV × DS)
 | some r=>if r.width ≤ 4 then some (instR nm r st) else none
 | none=>none
theorem dCall_eq (nm f args) (st : DS) : dCall (Tab Q) nm f args st = match lends args st with
  | some (as,st1)=>CallV nm st1 (Call Q f as)
  | none=>none := by
 unfold dCall CallV
 cases lends args st with
 | none=>rfl
 | some p =>
  obtain ⟨as,st1⟩ := p
  cases h : Call Q f as <;> simp only [h]
theorem CallV_some (nm r) (st : DS) : CallV nm st (some r) = if r.width ≤ 4 then some (instR nm r st) else none := rfl
noncomputable def CallHV (nm : Nat) (ns : List Nat) (st : DS) : Option (MV × List (Option Obj))→Option (MV × DS)
 | some (r,L)=>if ns.length ≤ L.length ∧ L.length < ns.length + 4 then some (mapR (nameB ns nm) r,{ st with O := putBack (nameB ns nm) 0 L st.O }) else none
 | none=>none
noncomputable def CallHO (nm : Nat) (f : FuncId) (vs : List MV) (ns : List Nat) (st : DS) : Option (List Obj)→Option (MV × DS)
 | some objs=>CallHV nm ns st (CallH Q f (vs.map (ren ns)) (objs.map (renObj ns)))
 | none=>none
theorem dCallH_eq (nm f vs) (st : DS) : dCallH (Tab Q) nm f vs st = CallHO Q nm f vs (shared vs st) st (objsOf st.O (shared vs st)) := by
 unfold dCallH CallHO CallHV
 cases objsOf st.O (shared vs st) with
 | none=>rfl
 | some objs =>
  cases h : CallH Q f (vs.map (ren (shared vs st))) (objs.map (renObj (shared vs st))) with
  | none=>simp only [h]
  | some p=>obtain ⟨r,L⟩ := p; simp only [h]
theorem CallHO_some (nm f vs ns) (st : DS) (objs) : CallHO Q nm f vs ns st (some objs) = CallHV nm ns st (CallH Q f (vs.map (ren ns)) (objs.map (renObj ns))) := rfl
theorem CallHV_some (nm ns) (st : DS) (r L) : CallHV nm ns st (some (r,L)) = if ns.length ≤ L.length ∧ L.length < ns.length + 4 then some (mapR (nameB ns nm) r,{ st with O := putBack (nameB ns nm) 0 L st.O }) else none := rfl
theorem reach_fix {O : List (Nat × Obj)} {l : List Nat} (h : nub [] (l ++ l.flatMap (inner O)) = l) : ∀ n,reach O n l = l
 | 0=>rfl
 | n + 1=>by rw [reach,h]; exact reach_fix h n
theorem shared_nil (st : DS) : shared [] st = [] := rfl
theorem startH_some (m k) (st : DS) : startH Q m k (some st) = finH k m.results (Run Q [.code m.body] st) := rfl
theorem startH_none (m k) : startH Q m k none = none := rfl
theorem start_some (m) (st : DS) : start Q m (some st) = fin m.results (Run Q [.code m.body] st) := rfl
theorem start_none (m) : start Q m none = none := rfl
theorem finH_some (k R) (st : DS) : finH k R (some st) = match leaveH R st with
  | some (rs,st2)=>some (exitH k rs st2)
  | none=>none := rfl
theorem look_hit {α : Type} (n : Nat) (v : α) (l : List (Nat × α)) : look ((n,v) :: l) n = some v := by simp [look]
theorem look_miss {α : Type} {k n : Nat} (h : k ≠ n) (v : α) (l : List (Nat × α)) : look ((k,v) :: l) n = look l n := by
 simp [look,h]
theorem look_nil {α : Type} (n : Nat) : look ([] : List (Nat × α)) n = none := rfl
theorem RunL_canon {Q : Prog} {keep b k} {st st' : DS} (h : canon keep st = st') : RunL Q keep b k (canon keep st) = RunL Q keep b k st' := by rw [h]
theorem w64 {x : Int} (h1 : -9223372036854775808 ≤ x) (h2 : x ≤ 9223372036854775807) : IntKind.i64.wrap x = x := by
 rw [IntKind.wrap_i64]; omega
theorem w8 {x : Int} (h1 : 0 ≤ x) (h2 : x < 256) : IntKind.u8.wrap x = x := by
 rw [IntKind.wrap_u8]; omega
theorem tdivE {a b : Int} (h : 0 ≤ a) : a.tdiv b = a / b := Int.tdiv_eq_ediv_of_nonneg h
theorem tmodE {a b : Int} (h : 0 ≤ a) : a.tmod b = a % b := Int.tmod_eq_emod_of_nonneg h
theorem bv8 (x : UInt8) : BitVec.ofInt 8 (x.toNat : Int) = x.toBitVec := by
 rw [BitVec.ofInt_natCast]
 apply BitVec.eq_of_toNat_eq
 simp
theorem and8 (x y : UInt8) : IntKind.u8.wrap ((BitVec.ofInt IntKind.u8.bits (x.toNat : Int) &&& BitVec.ofInt IntKind.u8.bits (y.toNat : Int)).toNat : Int) = ((x &&& y).toNat : Int) := by
 show IntKind.u8.wrap ((BitVec.ofInt 8 (x.toNat : Int) &&& BitVec.ofInt 8 (y.toNat : Int)).toNat : Int) = _
 rw [bv8,bv8,w8 (by omega) (by have := (x.toBitVec &&& y.toBitVec).isLt; omega)]
 rfl
theorem or8 (x y : UInt8) : IntKind.u8.wrap ((BitVec.ofInt IntKind.u8.bits (x.toNat : Int) ||| BitVec.ofInt IntKind.u8.bits (y.toNat : Int)).toNat : Int) = ((x ||| y).toNat : Int) := by
 show IntKind.u8.wrap ((BitVec.ofInt 8 (x.toNat : Int) ||| BitVec.ofInt 8 (y.toNat : Int)).toNat : Int) = _
 rw [bv8,bv8,w8 (by omega) (by have := (x.toBitVec ||| y.toBitVec).isLt; omega)]
 rfl
theorem xor8 (x y : UInt8) : IntKind.u8.wrap ((BitVec.ofInt IntKind.u8.bits (x.toNat : Int) ^^^ BitVec.ofInt IntKind.u8.bits (y.toNat : Int)).toNat : Int) = ((x ^^^ y).toNat : Int) := by
 show IntKind.u8.wrap ((BitVec.ofInt 8 (x.toNat : Int) ^^^ BitVec.ofInt 8 (y.toNat : Int)).toNat : Int) = _
 rw [bv8,bv8,w8 (by omega) (by have := (x.toBitVec ^^^ y.toBitVec).isLt; omega)]
 rfl
theorem and8_1 (x : UInt8) : IntKind.u8.wrap ((BitVec.ofInt IntKind.u8.bits (x.toNat : Int) &&& BitVec.ofInt IntKind.u8.bits 1).toNat : Int) = ((x &&& 1).toNat : Int) := and8 x 1
theorem and8_127 (x : UInt8) : IntKind.u8.wrap ((BitVec.ofInt IntKind.u8.bits (x.toNat : Int) &&& BitVec.ofInt IntKind.u8.bits 127).toNat : Int) = ((x &&& 127).toNat : Int) := and8 x 127
theorem eq8_1 (x : UInt8) : ((x.toNat : Int) == 1) = (x == 1) := by
 rw [Bool.eq_iff_iff]
 simp only [beq_iff_eq]
 constructor
 ·intro h; apply UInt8.toNat_inj.1; show x.toNat = 1; omega
 ·rintro rfl; rfl
theorem eq8_0 (x : UInt8) : ((x.toNat : Int) == 0) = (x == 0) := by
 rw [Bool.eq_iff_iff]
 simp only [beq_iff_eq]
 constructor
 ·intro h; apply UInt8.toNat_inj.1; show x.toNat = 0; omega
 ·rintro rfl; rfl
theorem eq8 (x y : UInt8) : ((x.toNat : Int) == (y.toNat : Int)) = (x == y) := by
 rw [Bool.eq_iff_iff]
 simp only [beq_iff_eq]
 constructor
 ·intro h; apply UInt8.toNat_inj.1; omega
 ·rintro rfl; rfl
theorem shr8_fin : ∀ (m : Fin 8),UInt8.ofNat m.val % 8 = UInt8.ofNat m.val ∧ (UInt8.ofNat m.val).toNat = m.val := by decide
theorem shr8 (x : UInt8) {b : Int} (h0 : 0 ≤ b) (h1 : b < 8) : shiftI .shr .u8 (x.toNat : Int) b = some (.int .u8 ((x >>> UInt8.ofNat b.toNat).toNat : Int)) := by
 obtain ⟨m,rfl⟩ := Int.eq_ofNat_of_zero_le h0
 have hm : m < 8 := by omega
 unfold shiftI
 rw [if_neg (by omega)]
 simp only [Int.toNat_natCast]
 have e : min m IntKind.u8.bits = m := by show min m 8 = m; omega
 rw [e]
 congr 2
 have h2 := shr8_fin ⟨m,hm⟩
 rw [UInt8.toNat_shiftRight]
 simp only at h2
 rw [h2.2,Nat.mod_eq_of_lt hm,Nat.shiftRight_eq_div_pow]
 rw [show ((2 : Int) ^ m) = ((2 ^ m : Nat) : Int) by simp]
 rw [Int.fdiv_eq_ediv_of_nonneg _ (Int.natCast_nonneg _)]; exact (Int.natCast_ediv _ _).symm
theorem fin_some (R) (st : DS) : fin R (some st) = match leave R st with
  | some l=>some (result l)
  | none=>none := rfl
theorem shr8_128 {b : Int} (h0 : 0 ≤ b) (h1 : b < 8) : shiftI .shr .u8 128 b = some (.int .u8 (((128 : UInt8) >>> UInt8.ofNat b.toNat).toNat : Int)) := shr8 128 h0 h1
theorem asB (x : UInt8) : UInt8.ofNat (Int.toNat (x.toNat : Int)) = x := by simp
noncomputable def RunX (st : DS) : Option (List Item)→Option DS
 | some k=>Run Q k st
 | none=>none
theorem Run_exitX (id k) (st : DS) : Run Q (.code (.exit id) :: k) st = RunX Q st (unwind id k) := by
 cases h : unwind id k with
 | none=>exact Run_end Q fun n=>by simp [run,h,RunX]
 | some k'=>exact Run_exit Q id k st h
theorem RunX_some (k) (st : DS) : RunX Q st (some k) = Run Q k st := rfl
end Go.Mini
namespace Go.Mini
open Go
variable (Q : Prog)
section
variable {Q : Prog} {R : List (Nat × Option (Bool × Nat) × PK)} {K : Nat} {k : List Item} {a b : MCode} {st : DS} {t : Bool} {rhs : Option MV} {rhsH : Option (MV × List (Option Obj))} {r : Option DS} {nx nm i : Nat} {os : List MOper} {d : Option X} {op : MOp} {pre : Nat→List Nat} {ms : List Mark}
end
class Sp {α : Type} (x : α) (t : outParam Bool) (a b : outParam α) : Prop where
 pos : t = true→x = a
 neg : t = false→x = b
section
variable {Q : Prog} {R : List (Nat × Option (Bool × Nat) × PK)} {K : Nat} {k : List Item} {a b : MCode} {st : DS} {t : Bool} {nx nm i : Nat} {os : List MOper} {d : Option X} {op : MOp} {pre : Nat→List Nat} {ms : List Mark}
instance : Sp (RunB Q k a b st t) t (Run Q (.code a :: k) st) (Run Q (.code b :: k) st) := ⟨fun h=>by subst h; rfl,fun h=>by subst h; rfl⟩
instance : Sp (fin R (RunB Q k a b st t)) t (fin R (Run Q (.code a :: k) st)) (fin R (Run Q (.code b :: k) st)) := ⟨fun h=>by subst h; rfl,fun h=>by subst h; rfl⟩
instance : Sp (finH K R (RunB Q k a b st t)) t (finH K R (Run Q (.code a :: k) st)) (finH K R (Run Q (.code b :: k) st)) := ⟨fun h=>by subst h; rfl,fun h=>by subst h; rfl⟩
instance : Sp (RgB Q k nx nm os d op st t) t (RgV Q k nx (nm + 4) os d (dOp (Tab Q) nm op st)) (Rg Q k nx (nm + 4) os (st.wr d (.tup []))) := ⟨fun h=>by subst h; rfl,fun h=>by subst h; rfl⟩
instance : Sp (fin R (RgB Q k nx nm os d op st t)) t (fin R (RgV Q k nx (nm + 4) os d (dOp (Tab Q) nm op st))) (fin R (Rg Q k nx (nm + 4) os (st.wr d (.tup [])))) := ⟨fun h=>by subst h; rfl,fun h=>by subst h; rfl⟩
instance : Sp (finH K R (RgB Q k nx nm os d op st t)) t (finH K R (RgV Q k nx (nm + 4) os d (dOp (Tab Q) nm op st))) (finH K R (Rg Q k nx (nm + 4) os (st.wr d (.tup [])))) := ⟨fun h=>by subst h; rfl,fun h=>by subst h; rfl⟩
instance : Sp (RdB Q k nx pre i nm ms os d op st t) t (RdV Q k nx pre i (nm + 4) ms os d (dOp (Tab Q) nm op st)) (Rd Q k nx pre i (nm + 4) ms os (st.wr d (.tup []))) := ⟨fun h=>by subst h; rfl,fun h=>by subst h; rfl⟩
instance : Sp (fin R (RdB Q k nx pre i nm ms os d op st t)) t (fin R (RdV Q k nx pre i (nm + 4) ms os d (dOp (Tab Q) nm op st))) (fin R (Rd Q k nx pre i (nm + 4) ms os (st.wr d (.tup [])))) := ⟨fun h=>by subst h; rfl,fun h=>by subst h; rfl⟩
instance : Sp (finH K R (RdB Q k nx pre i nm ms os d op st t)) t (finH K R (RdV Q k nx pre i (nm + 4) ms os d (dOp (Tab Q) nm op st))) (finH K R (Rd Q k nx pre i (nm + 4) ms os (st.wr d (.tup [])))) := ⟨fun h=>by subst h; rfl,fun h=>by subst h; rfl⟩
end
theorem sp {α : Type} {x a b rhs : α} {t : Bool} [s : Sp x t a b] (h1 : t = true→a = rhs) (h2 : t = false→b = rhs) : x = rhs := by
 cases t
 ·exact (s.neg rfl).trans (h2 rfl)
 ·exact (s.pos rfl).trans (h1 rfl)
theorem beqt (b : Bool) : (b == true) = b := by cases b <;> rfl
theorem beqf (b : Bool) : (b == false) = !b := by cases b <;> rfl
variable {α β γ δ : Type}
theorem hide {a b : α} (h : ∀ z,z = b→a = z) : a = b := h b rfl
def foldE (g : β→α→β ⊕ γ) : β→List α→β ⊕ γ
 | b,[]=>.inl b
 | b,x :: r=>match g b x with
  | .inl b'=>foldE g b' r
  | .inr c=>.inr c
def After (I : β→Nat→Prop) (S : β→Nat→δ) (T : γ→δ) (x : δ) (i : Nat) : β ⊕ γ→Prop
 | .inl b=>I b i ∧ x = S b i
 | .inr c=>x = T c
theorem loopI_from (L : List α) (g : β→α→β ⊕ γ) (S : β→Nat→δ) (T : γ→δ) (I : β→Nat→Prop) (step : ∀ b i x,I b i→L[i]? = some x→After I S T (S b i) (i + 1) (g b x)) :
  ∀ (r : List α) (b : β) (i : Nat),L.drop i = r→i + r.length = L.length→I b i→After I S T (S b i) L.length (foldE g b r)
 | [],b,i,_,hi,h0=>by
  have : i = L.length := by simpa using hi
  subst this
  exact ⟨h0,rfl⟩
 | x :: r,b,i,hd,hi,h0=>by
  have hg : L[i]? = some x := by
   have := congrArg (·[0]?) hd
   simpa [List.getElem?_drop] using this
  have hd' : L.drop (i + 1) = r := by
   have := congrArg (List.drop 1) hd
   simpa [List.drop_drop] using this
  have hs := step b i x h0 hg
  unfold foldE
  cases hx : g b x with
  | inr c=>rw [hx] at hs; exact hs
  | inl b' =>
   rw [hx] at hs
   simp only [List.length_cons] at hi
   have ih := loopI_from L g S T I step r b' (i + 1) hd' (by omega) hs.1
   rw [hs.2]
   exact ih
theorem loopI (L : List α) (g : β→α→β ⊕ γ) (S : β→Nat→δ) (T : γ→δ) (I : β→Nat→Prop) (step : ∀ b i x,I b i→L[i]? = some x→After I S T (S b i) (i + 1) (g b x)) (b : β) (h0 : I b 0) :
  After I S T (S b 0) L.length (foldE g b L) := loopI_from L g S T I step L b 0 rfl (by simp) h0
theorem drop_two : (∀ (n : Nat) (v : Obj) (l : List (Nat × Obj)),drop ((n,v) :: l) n = drop l n) ∧ ∀ {k n : Nat},k ≠ n→∀ (v : Obj) (l : List (Nat × Obj)),drop ((k,v) :: l) n = (k,v) :: drop l n :=
 ⟨fun n v l=>if_pos rfl,fun h v l=>if_neg h⟩
theorem nub_cons (acc : List Nat) (a : Nat) (l : List Nat) : nub acc (a :: l) = nub (if has acc a = true then acc else a :: acc) l := by
 rw [nub]; split <;> rfl
end Go.Mini
namespace Go.Mini
open Go
set_option maxRecDepth 10000
set_option maxHeartbeats 1000000
structure Bu (p : Prop) : Type where
 u : p
def bA0 := Bu.mk (And.intro @List.length_cons.{0} (And.intro @List.length_nil.{0} (And.intro @List.map_cons.{0,0} (And.intro @List.map_nil.{0,0} (And.intro @Run_seq (And.intro @Run_skip (And.intro @Run_block (And.intro @Run_blk (And.intro @Run_scope (And.intro @Run_rg (And.intro @Rg_cons (And.intro @Rg_guard (And.intro @RgG_bool (And.intro @RgG_tup (And.intro @RgB_true (And.intro @RgB_false (And.intro @RgV_some (And.intro @Rg_nil (And.intro @Run_ret (And.intro @Run_cond (And.intro @RunC_bool (And.intro @RunB_true (And.intro @RunB_false (And.intro @look_hit (And.intro @look_miss (And.intro @look_nil (And.intro @Option.getD_some.{0} (And.intro @Option.getD_none.{0} (And.intro @if_true.{1} (And.intro @if_false.{1} (And.intro @Run_exitX (And.intro @RunX_some (And.intro @Bool.false_eq_true (And.intro @Bool.not_true (And.intro @Bool.not_false (And.intro @beq_self_eq_true.{0} (And.intro @fin_some (And.intro @and_true (And.intro @true_and (@and_self))))))))))))))))))))))))))))))))))))))))
def bA1 := Bu.mk (And.intro @Nat.zero_le (And.intro @ne_eq.{1} (And.intro @not_true_eq_false (And.intro @not_false_eq_true (And.intro @Bool.true_beq (And.intro @Bool.false_beq (And.intro @bne_self_eq_false.{0} (And.intro @List.getElem?_cons_zero.{0} (And.intro @List.getElem?_cons_succ.{0} (And.intro @Option.map_some.{0,0} (And.intro @List.all_nil.{0} (And.intro @List.all_cons.{0} (And.intro @List.isEmpty_nil.{0} (And.intro @Int.cast_ofNat_Int (And.intro @Int.le_refl (And.intro @Int.toNat_natCast (And.intro @Nat.le_refl (And.intro @decide_false (And.intro @decide_true (And.intro @decide_eq_true_eq (And.intro @List.length_append.{0} (And.intro @List.length_set.{0} (And.intro @List.nil_append.{0} (And.intro @List.cons_append.{0} (And.intro @List.append_nil.{0} (And.intro @Nat.zero_add (And.intro @Nat.add_zero (And.intro @Nat.mul_one (And.intro @List.set_cons_zero.{0} (And.intro @List.set_cons_succ.{0} (And.intro @List.drop_zero.{0} (And.intro @List.drop_succ_cons.{0} (And.intro @List.take_succ_cons.{0} (And.intro @List.take_zero.{0} (And.intro @List.take_nil.{0} (And.intro @Option.map_none.{0,0} (And.intro @Run_rgd (And.intro @Rd_nil (And.intro @Rd_cons (@Rd_guard))))))))))))))))))))))))))))))))))))))))
def bA2 := Bu.mk (And.intro @RdV_some (And.intro @RdG_bool (And.intro @RdG_tup (And.intro @RdB_true (And.intro @RdB_false (And.intro @List.flatMap_cons.{0,0} (And.intro @List.flatMap_nil.{0,0} (And.intro @Bool.or_true (And.intro @Bool.true_or (And.intro @Bool.false_or (And.intro @Bool.or_false (And.intro @Bool.and_true (And.intro @Bool.true_and (And.intro @Bool.and_false (And.intro @Bool.false_and (And.intro @dCall_eq (And.intro @CallV_some (And.intro @dCallH_eq (And.intro @CallHO_some (And.intro @CallHV_some (And.intro @reach_fix (And.intro @finH_some (And.intro @shared_nil (And.intro @startH_some (And.intro @startH_none (And.intro @start_some (And.intro @start_none (And.intro @shr8 (And.intro @shr8_128 (And.intro @asB (And.intro @UInt8.ofNat_toNat (And.intro @and8_1 (And.intro @and8_127 (And.intro @eq8_1 (And.intro @eq8_0 (And.intro @eq8 (And.intro @w64 (And.intro @w8 (And.intro @tdivE (@tmodE))))))))))))))))))))))))))))))))))))))))
def bA3 := Bu.mk (And.intro @and8 (And.intro @or8 (And.intro @xor8 (And.intro @beq_iff_eq.{0} (And.intro @beq_eq_false_iff_ne.{0} (And.intro @beqt (And.intro @beqf (And.intro @decide_eq_false_iff_not (And.intro @Bool.not_eq_true' (And.intro @Bool.not_eq_false' (And.intro @Bool.not_not (And.intro @Bool.not_eq_true (And.intro @Bool.and_eq_true (And.intro @Bool.or_eq_true (And.intro @and_false (And.intro @false_and (And.intro @List.reverse_cons.{0} (And.intro @List.reverse_nil.{0} (And.intro @Option.bind_some.{0,0} (And.intro @Option.bind_none.{0,0} (And.intro @Go.Mini.entry.eq_1 (And.intro @Go.Mini.dOp.eq_1 (And.intro @Go.Mini.dOp.eq_2 (And.intro @Go.Mini.dOp.eq_3 (And.intro @Go.Mini.dOp.eq_4 (And.intro @Go.Mini.dOp.eq_5 (And.intro @Go.Mini.dOp.eq_6 (And.intro @Go.Mini.dOp.eq_7 (And.intro @Go.Mini.dOp.eq_8 (And.intro @Go.Mini.dOp.eq_9 (And.intro @Go.Mini.dOp.eq_10 (And.intro @Go.Mini.dOp.eq_11 (And.intro @Go.Mini.dOp.eq_12 (And.intro @Go.Mini.dOp.eq_13 (And.intro @Go.Mini.dOp.eq_14 (And.intro @Go.Mini.dOp.eq_15 (And.intro @Go.Mini.dOp.eq_16 (And.intro @Go.Mini.dOp.eq_17 (And.intro @Go.Mini.dOp.eq_18 (@Go.Mini.dOp.eq_19))))))))))))))))))))))))))))))))))))))))
def bA4 := Bu.mk (And.intro @Go.Mini.dOp.eq_20 (And.intro @Go.Mini.dOp.eq_21 (And.intro @Go.Mini.dOp.eq_22 (And.intro @Go.Mini.dOp.eq_23 (And.intro @Go.Mini.dOp.eq_24 (And.intro @Go.Mini.dOp.eq_25 (And.intro @Go.Mini.dOp.eq_26 (And.intro @Go.Mini.dOp.eq_27 (And.intro @Go.Mini.dOp.eq_28 (And.intro @Go.Mini.dOp.eq_29 (And.intro @Go.Mini.dOp.eq_30 (And.intro @Go.Mini.dOp.eq_31 (And.intro @Go.Mini.dOp.eq_32 (And.intro @Go.Mini.dOp.eq_33 (And.intro @Go.Mini.dOp.eq_34 (And.intro @Go.Mini.dOp.eq_35 (And.intro @Go.Mini.dOp.eq_36 (And.intro @Go.Mini.dOp.eq_37 (And.intro @Go.Mini.dOp.eq_38 (And.intro @Go.Mini.dOp.eq_39 (And.intro @Go.Mini.dOp.eq_40 (And.intro @Go.Mini.dOp.eq_41 (And.intro @Go.Mini.dOp.eq_42 (And.intro @Go.Mini.dOp.eq_43 (And.intro @Go.Mini.dOp.eq_44 (And.intro @Go.Mini.dOp.eq_45 (And.intro @Go.Mini.dOp.eq_46 (And.intro @Go.Mini.DS.rd.eq_1 (And.intro @Go.Mini.DS.rd.eq_2 (And.intro @Go.Mini.DS.rd.eq_3 (And.intro @Go.Mini.DS.wr.eq_1 (And.intro @Go.Mini.DS.wr.eq_2 (And.intro @Go.Mini.put.eq_1 (And.intro @Go.Mini.bytesOf.eq_1 (And.intro @Go.Mini.bytesOf.eq_2 (And.intro @Go.Mini.bytesOf.eq_3 (And.intro @Go.Mini.bytesOf.eq_4 (And.intro @Go.Mini.binV.eq_1 (And.intro @Go.Mini.binV.eq_2 (@Go.Mini.isShift.eq_1))))))))))))))))))))))))))))))))))))))))
def bA5 := Bu.mk (And.intro @Go.Mini.isShift.eq_2 (And.intro @Go.Mini.binI.eq_1 (And.intro @Go.Mini.binI.eq_2 (And.intro @Go.Mini.binI.eq_3 (And.intro @Go.Mini.binI.eq_4 (And.intro @Go.Mini.binI.eq_5 (And.intro @Go.Mini.binI.eq_6 (And.intro @Go.Mini.binI.eq_7 (And.intro @Go.Mini.binI.eq_8 (And.intro @Go.Mini.binI.eq_9 (And.intro @Go.Mini.binI.eq_10 (And.intro @Go.Mini.binI.eq_11 (And.intro @Go.Mini.binI.eq_12 (And.intro @Go.Mini.binI.eq_13 (And.intro @Go.Mini.binI.eq_14 (And.intro @Go.Mini.binI.eq_15 (And.intro @Go.Mini.binS.eq_1 (And.intro @Go.Mini.binS.eq_2 (And.intro @Go.Mini.binS.eq_3 (And.intro @Go.Mini.binS.eq_4 (And.intro @Go.Mini.binS.eq_5 (And.intro @Go.Mini.binS.eq_6 (And.intro @Go.Mini.binS.eq_7 (And.intro @Go.Mini.unwind.eq_1 (And.intro @Go.Mini.unwind.eq_2 (And.intro @Go.Mini.unV.eq_1 (And.intro @Go.Mini.unV.eq_2 (And.intro @Go.Mini.unV.eq_3 (And.intro @Go.Mini.lenV.eq_1 (And.intro @Go.Mini.lenV.eq_2 (And.intro @Go.Mini.lenV.eq_3 (And.intro @Go.Mini.lenV.eq_4 (And.intro @Go.Mini.lenV.eq_5 (And.intro @Go.Mini.lenV.eq_6 (And.intro @Go.Mini.eqV.eq_1 (And.intro @Go.Mini.eqV.eq_2 (And.intro @Go.Mini.eqV.eq_3 (And.intro @Go.Mini.eqV.eq_4 (And.intro @Go.Mini.eqV.eq_5 (@Go.Mini.eqV.eq_6))))))))))))))))))))))))))))))))))))))))
def bA6 := Bu.mk (And.intro @Go.Mini.eqV.eq_7 (And.intro @Go.Mini.eqV.eq_8 (And.intro @Go.Mini.eqV.eq_9 (And.intro @Go.Mini.eqV.eq_10 (And.intro @Go.Mini.eqV.eq_11 (And.intro @Go.Mini.eqV.eq_12 (And.intro @Go.Mini.eqV.eq_13 (And.intro @Go.Mini.leave.eq_1 (And.intro @Go.Mini.leave.eq_2 (And.intro @Go.Mini.leave.eq_3 (And.intro @Go.Mini.leaveOne.eq_1 (And.intro @Go.Mini.leaveOne.eq_2 (And.intro @Go.Mini.leaveOne.eq_3 (And.intro @Go.Mini.leaveOne.eq_4 (And.intro @Go.Mini.leaveOne.eq_5 (And.intro @Go.Mini.leaveOne.eq_6 (And.intro @Go.Mini.lend.eq_1 (And.intro @Go.Mini.lend.eq_2 (And.intro @Go.Mini.lend.eq_3 (And.intro @Go.Mini.lend.eq_4 (And.intro @Go.Mini.lend.eq_5 (And.intro @Go.Mini.lend.eq_6 (And.intro @Go.Mini.lend.eq_7 (And.intro @Go.Mini.lend.eq_8 (And.intro @Go.Mini.lends.eq_1 (And.intro @Go.Mini.lends.eq_2 (And.intro @Go.Mini.result.eq_1 (And.intro @Go.Mini.MV.fit.eq_1 (And.intro @Go.Mini.MV.fit.eq_2 (And.intro @Go.Mini.MV.fit.eq_3 (And.intro @Go.Mini.MV.fit.eq_4 (And.intro @Go.Mini.MV.fit.eq_5 (And.intro @Go.Mini.MV.cells.eq_1 (And.intro @Go.Mini.loadV.eq_1 (And.intro @Go.Mini.loadV.eq_2 (And.intro @Go.Mini.loadV.eq_3 (And.intro @Go.Mini.loadCells.eq_1 (And.intro @Go.Mini.fieldV.eq_1 (And.intro @Go.Mini.offV.eq_1 (@Go.Mini.offV.eq_2))))))))))))))))))))))))))))))))))))))))
def bA7 := Bu.mk (And.intro @Go.Mini.offV.eq_3 (And.intro @Go.Mini.liveC.eq_1 (And.intro @Go.Mini.placeAll.eq_1 (And.intro @Go.Mini.placeAll.eq_2 (And.intro @Go.Mini.setCells.eq_1 (And.intro @Go.Mini.setCells.eq_2 (And.intro @Go.Mini.live.eq_1 (And.intro @Go.Mini.liveS.eq_1 (And.intro @Go.Mini.indexV.eq_1 (And.intro @Go.Mini.indexV.eq_2 (And.intro @Go.Mini.indexV.eq_3 (And.intro @Go.Mini.indexV.eq_4 (And.intro @Go.Mini.sliceV.eq_1 (And.intro @Go.Mini.sliceV.eq_2 (And.intro @Go.Mini.sliceV.eq_3 (And.intro (And.intro @Go.Mini.sliceV.eq_4 @Go.Mini.sliceV.eq_5) (And.intro @Go.Mini.storeV.eq_1 (And.intro @Go.Mini.storeV.eq_2 (And.intro @Go.Mini.asByte.eq_1 (And.intro @Go.Mini.MV.pureHead.eq_1 (And.intro @Go.Mini.MV.pureHead.eq_2 (And.intro @Go.Mini.MV.pureHead.eq_3 (And.intro @Go.Mini.MV.pureHead.eq_4 (And.intro @Go.Mini.MV.pureHead.eq_5 (And.intro @Go.Mini.MV.pureHead.eq_6 (And.intro @Go.Mini.MV.pureHead.eq_7 (And.intro @Go.Mini.MV.pureHead.eq_8 (And.intro @Go.Mini.appB.eq_1 (And.intro @Go.Mini.drop.eq_1 (And.intro @drop_two (And.intro @Go.Mini.byteParts.eq_1 (And.intro @Go.Mini.byteParts.eq_2 (And.intro @Go.Mini.inst.eq_1 (And.intro @Go.Mini.inst.eq_2 (And.intro @Go.Mini.instR.eq_1 (And.intro @Go.Mini.insts.eq_1 (And.intro @Go.Mini.insts.eq_2 (And.intro @Go.Mini.MV.width.eq_1 (And.intro @Go.Mini.foot.eq_1 (@Go.Mini.loud.eq_1))))))))))))))))))))))))))))))))))))))))
def bA8 := Bu.mk (And.intro @Go.Mini.loud.eq_2 (And.intro @Go.Mini.loud.eq_3 (And.intro @Go.Mini.loud.eq_4 (And.intro @Go.Mini.MOp.xs.eq_1 (And.intro @Go.Mini.MOp.xs.eq_2 (And.intro @Go.Mini.MOp.xs.eq_3 (And.intro @Go.Mini.MOp.xs.eq_4 (And.intro @Go.Mini.MOp.xs.eq_5 (And.intro @Go.Mini.MOp.xs.eq_6 (And.intro @Go.Mini.MOp.xs.eq_7 (And.intro @Go.Mini.MOp.xs.eq_8 (And.intro @Go.Mini.MOp.xs.eq_9 (And.intro @Go.Mini.MOp.xs.eq_10 (And.intro @Go.Mini.MOp.xs.eq_11 (And.intro @Go.Mini.MOp.xs.eq_12 (And.intro @Go.Mini.MOp.xs.eq_13 (And.intro @Go.Mini.MOp.xs.eq_14 (And.intro @Go.Mini.MOp.xs.eq_15 (And.intro @Go.Mini.MOp.xs.eq_16 (And.intro @Go.Mini.MOp.xs.eq_17 (And.intro @Go.Mini.MOp.xs.eq_18 (And.intro @Go.Mini.MOp.xs.eq_19 (And.intro @Go.Mini.MOp.xs.eq_20 (And.intro @Go.Mini.MOp.xs.eq_21 (And.intro @Go.Mini.MOp.xs.eq_22 (And.intro @Go.Mini.MOp.xs.eq_23 (And.intro @Go.Mini.MOp.xs.eq_24 (And.intro @Go.Mini.MOp.xs.eq_25 (And.intro @Go.Mini.MOp.xs.eq_26 (And.intro @Go.Mini.MOp.xs.eq_27 (And.intro @Go.Mini.MOp.xs.eq_28 (And.intro @Go.Mini.MOp.xs.eq_29 (And.intro @Go.Mini.MOp.xs.eq_30 (And.intro @Go.Mini.MOp.xs.eq_31 (And.intro @Go.Mini.MOp.xs.eq_32 (And.intro @Go.Mini.MOp.xs.eq_33 (And.intro @Go.Mini.MOp.xs.eq_34 (And.intro @Go.Mini.MOp.xs.eq_35 (And.intro @Go.Mini.MOp.xs.eq_36 (@Go.Mini.MOp.xs.eq_37))))))))))))))))))))))))))))))))))))))))
def bA9 := Bu.mk (And.intro @Go.Mini.MOp.xs.eq_38 (And.intro @Go.Mini.MOp.xs.eq_39 (And.intro @Go.Mini.MOp.xs.eq_40 (And.intro @Go.Mini.MOp.xs.eq_41 (And.intro @Go.Mini.MOp.xs.eq_42 (And.intro @Go.Mini.MOp.xs.eq_43 (And.intro @Go.Mini.MOp.xs.eq_44 (And.intro @Go.Mini.MOp.xs.eq_45 (And.intro @Go.Mini.MV.names2.eq_1 (And.intro @Go.Mini.MV.names.eq_1 (And.intro @Go.Mini.MV.names.eq_2 (And.intro @Go.Mini.MV.names.eq_3 (And.intro @Go.Mini.Obj.names.eq_1 (And.intro @Go.Mini.optX.eq_1 (And.intro @Go.Mini.optX.eq_2 (And.intro @Go.Mini.elemsOf.eq_1 (And.intro @Go.Mini.elemsOf.eq_2 (And.intro @Go.Mini.elemsOf.eq_3 (And.intro @Go.Mini.elemsOf.eq_4 (And.intro @Go.Mini.appE.eq_1 (And.intro @Go.Mini.elParts.eq_1 (And.intro @Go.Mini.elParts.eq_2 (And.intro @Go.Mini.handed.eq_1 (And.intro @Go.Mini.handed.eq_2 (And.intro @Go.Mini.handed.eq_3 (And.intro @Go.Mini.nub.eq_1 (And.intro @nub_cons (And.intro @Go.Mini.has.eq_1 (And.intro @Go.Mini.has.eq_2 (And.intro @Go.Mini.place.eq_1 (And.intro @Go.Mini.place.eq_2 (And.intro @Go.Mini.nameOf.eq_1 (And.intro @Go.Mini.objsOf.eq_1 (And.intro @Go.Mini.objsOf.eq_2 (And.intro @Go.Mini.nameB.eq_1 (And.intro @Go.Mini.putBack.eq_1 (And.intro @Go.Mini.putBack.eq_2 (And.intro @Go.Mini.putBack.eq_3 (And.intro @Go.Mini.mapRef.eq_1 (@Go.Mini.mapRef.eq_2))))))))))))))))))))))))))))))))))))))))
def bA10 := Bu.mk (And.intro @Go.Mini.mapRef.eq_3 (And.intro @Go.Mini.mapRef.eq_4 (And.intro @Go.Mini.mapRef.eq_5 (And.intro @Go.Mini.mapRef.eq_6 (And.intro @Go.Mini.mapRef.eq_7 (And.intro @Go.Mini.mapV.eq_1 (And.intro @Go.Mini.mapObj.eq_1 (And.intro @Go.Mini.mapR.eq_1 (And.intro @Go.Mini.inner.eq_1 (And.intro @Go.Mini.exitH.eq_1 (And.intro @Go.Mini.exitNames.eq_1 (And.intro @Go.Mini.leaveH.eq_1 (And.intro @Go.Mini.leaveH.eq_2 (And.intro @Go.Mini.leaveH.eq_3 (And.intro @Go.Mini.leaveOneH.eq_1 (And.intro @Go.Mini.leaveOneH.eq_2 (And.intro @Go.Mini.leaveOneH.eq_3 (And.intro @Go.Mini.entryH.eq_1 (And.intro @Go.Mini.idx.eq_1 (And.intro @Go.Mini.idx.eq_2 (And.intro @Go.Mini.minmaxV.eq_1 (And.intro @Go.Mini.foldMM.eq_1 (And.intro @Go.Mini.foldMM.eq_2 (And.intro @Go.Mini.eqCells.eq_1 (And.intro @Go.Mini.eqCells.eq_2 (And.intro @Go.Mini.eqCells.eq_3 (And.intro @Go.Mini.eqCells.eq_4 (And.intro @Go.Mini.aindexV.eq_1 (And.intro @List.replicate.eq_1.{0} (And.intro @List.replicate.eq_2.{0} (And.intro @bne.eq_1.{0} (And.intro (show ∀ (st : DS) (v : MV),st.wr none v = st from fun _ _=>rfl) (And.intro (show ∀ (k : IntKind) (n : Int),MV.cells (MV.int k n) = [(MV.int k n)] from fun _ _=>rfl) (And.intro (show ∀ (b : Bool),MV.cells (MV.bool b) = [(MV.bool b)] from fun _=>rfl) (And.intro (show ∀ (s : List UInt8),MV.cells (MV.str s) = [(MV.str s)] from fun _=>rfl) (And.intro (show MV.cells MV.nilsl = [MV.nilsl] from rfl) (And.intro (show ∀ (l : List UInt8),MV.cells (MV.bs l) = [(MV.bs l)] from fun _=>rfl) (And.intro (show ∀ (s : Nat) (l : List MV),MV.cells (MV.sl s l) = [(MV.sl s l)] from fun _ _=>rfl) (And.intro (show ∀ (s : Nat) (l : List MV),MV.cells (MV.fsl s l) = [(MV.fsl s l)] from fun _ _=>rfl) ((show ∀ (l : List MV),MV.cells (MV.tup l) = [(MV.tup l)] from fun _=>rfl)))))))))))))))))))))))))))))))))))))))))
def bA11 := Bu.mk (And.intro (show MV.cells MV.nilptr = [MV.nilptr] from rfl) (And.intro (show MV.cells MV.nilfn = [MV.nilfn] from rfl) (And.intro (show MV.cells MV.nilif = [MV.nilif] from rfl) (And.intro (show ∀ (t : TypeId) (v : MV),MV.cells (MV.iface t v) = [(MV.iface t v)] from fun _ _=>rfl) (And.intro (show ∀ (f : FuncId) (caps : List MV),MV.cells (MV.fn f caps) = [(MV.fn f caps)] from fun _ _=>rfl) (And.intro (show ∀ (o n : Nat),MV.cells (MV.own o n) = [(MV.own o n)] from fun _ _=>rfl) (And.intro (show ∀ (o j : Nat),MV.cells (MV.ptr o j) = [(MV.ptr o j)] from fun _ _=>rfl) (And.intro (show ∀ (o i j n : Nat),MV.cells (MV.eptr o i j n) = [(MV.eptr o i j n)] from fun _ _ _ _=>rfl) (And.intro (show ∀ (l : List MV),MV.cells (MV.cptr l) = [(MV.cptr l)] from fun _=>rfl) (And.intro (show ∀ (l : List UInt8),MV.cells (MV.fby l) = [(MV.fby l)] from fun _=>rfl) (And.intro (show ∀ (s : Nat) (l : List MV),MV.cells (MV.fel s l) = [(MV.fel s l)] from fun _ _=>rfl) (And.intro (show MV.cells MV.undef = [MV.undef] from rfl) (And.intro (show ∀ (k : IntKind) (n : Int),MV.fit (MV.int k n) = true from fun _ _=>rfl) (And.intro (show ∀ (b : Bool),MV.fit (MV.bool b) = true from fun _=>rfl) (And.intro (show ∀ (s : List UInt8),MV.fit (MV.str s) = true from fun _=>rfl) (And.intro (show MV.fit MV.nilsl = true from rfl) (And.intro (show ∀ (l : List UInt8),MV.fit (MV.bs l) = true from fun _=>rfl) (And.intro (show ∀ (s : Nat) (l : List MV),MV.fit (MV.sl s l) = true from fun _ _=>rfl) (And.intro (show ∀ (s : Nat) (l : List MV),MV.fit (MV.fsl s l) = true from fun _ _=>rfl) (And.intro (show ∀ (l : List MV),MV.fit (MV.agg l) = true from fun _=>rfl) (And.intro (show MV.fit MV.nilptr = true from rfl) (And.intro (show MV.fit MV.nilfn = true from rfl) (And.intro (show MV.fit MV.nilif = true from rfl) (And.intro (show ∀ (t : TypeId) (v : MV),MV.fit (MV.iface t v) = true from fun _ _=>rfl) (And.intro (show ∀ (f : FuncId) (caps : List MV),MV.fit (MV.fn f caps) = true from fun _ _=>rfl) (And.intro (show ∀ (o n : Nat),MV.fit (MV.own o n) = true from fun _ _=>rfl) (And.intro (show ∀ (o j : Nat),MV.fit (MV.ptr o j) = true from fun _ _=>rfl) (And.intro (show ∀ (l : List MV),MV.fit (MV.cptr l) = true from fun _=>rfl) (And.intro (show ∀ (k : IntKind) (n : Int),MV.names (MV.int k n) = [] from fun _ _=>rfl) (And.intro (show ∀ (b : Bool),MV.names (MV.bool b) = [] from fun _=>rfl) (And.intro (show ∀ (s : List UInt8),MV.names (MV.str s) = [] from fun _=>rfl) (And.intro (show MV.names MV.nilsl = [] from rfl) (And.intro (show ∀ (l : List UInt8),MV.names (MV.bs l) = [] from fun _=>rfl) (And.intro (show ∀ (s : Nat) (l : List MV),MV.names (MV.sl s l) = [] from fun _ _=>rfl) (And.intro (show ∀ (s : Nat) (l : List MV),MV.names (MV.fsl s l) = [] from fun _ _=>rfl) (And.intro (show ∀ (l : List MV),MV.names (MV.agg l) = [] from fun _=>rfl) (And.intro (show ∀ (l : List MV),MV.names (MV.tup l) = [] from fun _=>rfl) (And.intro (show MV.names MV.nilptr = [] from rfl) (And.intro (show MV.names MV.nilfn = [] from rfl) ((show MV.names MV.nilif = [] from rfl)))))))))))))))))))))))))))))))))))))))))
def bA12 := Bu.mk (And.intro (show ∀ (t : TypeId) (v : MV),MV.names (MV.iface t v) = [] from fun _ _=>rfl) (And.intro (show ∀ (o i j n : Nat),MV.names (MV.eptr o i j n) = [] from fun _ _ _ _=>rfl) (And.intro (show ∀ (l : List MV),MV.names (MV.cptr l) = [] from fun _=>rfl) (And.intro (show ∀ (l : List UInt8),MV.names (MV.fby l) = [] from fun _=>rfl) (And.intro (show ∀ (s : Nat) (l : List MV),MV.names (MV.fel s l) = [] from fun _ _=>rfl) (And.intro (show MV.names MV.undef = [] from rfl) (And.intro (show ∀ (k : IntKind) (n : Int),MV.names2 (MV.int k n) = MV.names (MV.int k n) from fun _ _=>rfl) (And.intro (show ∀ (b : Bool),MV.names2 (MV.bool b) = MV.names (MV.bool b) from fun _=>rfl) (And.intro (show ∀ (s : List UInt8),MV.names2 (MV.str s) = MV.names (MV.str s) from fun _=>rfl) (And.intro (show MV.names2 MV.nilsl = MV.names MV.nilsl from rfl) (And.intro (show ∀ (l : List UInt8),MV.names2 (MV.bs l) = MV.names (MV.bs l) from fun _=>rfl) (And.intro (show ∀ (s : Nat) (l : List MV),MV.names2 (MV.sl s l) = MV.names (MV.sl s l) from fun _ _=>rfl) (And.intro (show ∀ (s : Nat) (l : List MV),MV.names2 (MV.fsl s l) = MV.names (MV.fsl s l) from fun _ _=>rfl) (And.intro (show ∀ (l : List MV),MV.names2 (MV.agg l) = MV.names (MV.agg l) from fun _=>rfl) (And.intro (show ∀ (l : List MV),MV.names2 (MV.tup l) = MV.names (MV.tup l) from fun _=>rfl) (And.intro (show MV.names2 MV.nilptr = MV.names MV.nilptr from rfl) (And.intro (show MV.names2 MV.nilfn = MV.names MV.nilfn from rfl) (And.intro (show MV.names2 MV.nilif = MV.names MV.nilif from rfl) (And.intro (show ∀ (t : TypeId) (v : MV),MV.names2 (MV.iface t v) = MV.names (MV.iface t v) from fun _ _=>rfl) (And.intro (show ∀ (f : FuncId) (caps : List MV),MV.names2 (MV.fn f caps) = MV.names (MV.fn f caps) from fun _ _=>rfl) (And.intro (show ∀ (o n : Nat),MV.names2 (MV.own o n) = MV.names (MV.own o n) from fun _ _=>rfl) (And.intro (show ∀ (o j : Nat),MV.names2 (MV.ptr o j) = MV.names (MV.ptr o j) from fun _ _=>rfl) (And.intro (show ∀ (l : List MV),MV.names2 (MV.cptr l) = MV.names (MV.cptr l) from fun _=>rfl) (And.intro (show ∀ (l : List UInt8),MV.names2 (MV.fby l) = MV.names (MV.fby l) from fun _=>rfl) (And.intro (show ∀ (s : Nat) (l : List MV),MV.names2 (MV.fel s l) = MV.names (MV.fel s l) from fun _ _=>rfl) (And.intro (show MV.names2 MV.undef = MV.names MV.undef from rfl) (And.intro (show ∀ (k : IntKind) (n : Int),MV.pureHead (MV.int k n) = true from fun _ _=>rfl) (And.intro (show ∀ (b : Bool),MV.pureHead (MV.bool b) = true from fun _=>rfl) (And.intro (show ∀ (s : List UInt8),MV.pureHead (MV.str s) = true from fun _=>rfl) (And.intro (show MV.pureHead MV.nilsl = true from rfl) (And.intro (show ∀ (l : List UInt8),MV.pureHead (MV.bs l) = true from fun _=>rfl) (And.intro (show ∀ (s : Nat) (l : List MV),MV.pureHead (MV.sl s l) = true from fun _ _=>rfl) (And.intro (show ∀ (s : Nat) (l : List MV),MV.pureHead (MV.fsl s l) = true from fun _ _=>rfl) (And.intro (show ∀ (l : List MV),MV.pureHead (MV.agg l) = true from fun _=>rfl) (And.intro (show MV.pureHead MV.nilptr = true from rfl) (And.intro (show MV.pureHead MV.nilfn = true from rfl) (And.intro (show MV.pureHead MV.nilif = true from rfl) (And.intro (show ∀ (t : TypeId) (v : MV),MV.pureHead (MV.iface t v) = true from fun _ _=>rfl) (And.intro (show ∀ (l : List MV),MV.pureHead (MV.cptr l) = true from fun _=>rfl) ((show ∀ (k : IntKind) (n : Int),MV.width (MV.int k n) = 1 from fun _ _=>rfl)))))))))))))))))))))))))))))))))))))))))
def bA13 := Bu.mk (And.intro (show ∀ (b : Bool),MV.width (MV.bool b) = 1 from fun _=>rfl) (And.intro (show ∀ (s : List UInt8),MV.width (MV.str s) = 1 from fun _=>rfl) (And.intro (show MV.width MV.nilsl = 1 from rfl) (And.intro (show ∀ (l : List UInt8),MV.width (MV.bs l) = 1 from fun _=>rfl) (And.intro (show ∀ (s : Nat) (l : List MV),MV.width (MV.sl s l) = 1 from fun _ _=>rfl) (And.intro (show ∀ (s : Nat) (l : List MV),MV.width (MV.fsl s l) = 1 from fun _ _=>rfl) (And.intro (show ∀ (l : List MV),MV.width (MV.agg l) = 1 from fun _=>rfl) (And.intro (show MV.width MV.nilptr = 1 from rfl) (And.intro (show MV.width MV.nilfn = 1 from rfl) (And.intro (show MV.width MV.nilif = 1 from rfl) (And.intro (show ∀ (t : TypeId) (v : MV),MV.width (MV.iface t v) = 1 from fun _ _=>rfl) (And.intro (show ∀ (f : FuncId) (caps : List MV),MV.width (MV.fn f caps) = 1 from fun _ _=>rfl) (And.intro (show ∀ (o n : Nat),MV.width (MV.own o n) = 1 from fun _ _=>rfl) (And.intro (show ∀ (o j : Nat),MV.width (MV.ptr o j) = 1 from fun _ _=>rfl) (And.intro (show ∀ (o i j n : Nat),MV.width (MV.eptr o i j n) = 1 from fun _ _ _ _=>rfl) (And.intro (show ∀ (l : List MV),MV.width (MV.cptr l) = 1 from fun _=>rfl) (And.intro (show ∀ (l : List UInt8),MV.width (MV.fby l) = 1 from fun _=>rfl) (And.intro (show ∀ (s : Nat) (l : List MV),MV.width (MV.fel s l) = 1 from fun _ _=>rfl) (And.intro (show MV.width MV.undef = 1 from rfl) (And.intro (show ∀ (l : List UInt8) (b : Bool),Obj.names (.byt l b) = [] from fun _ _=>rfl) (And.intro (show ∀ (s : Nat) (l : List MV) (b : Bool),Obj.names (.el s l b) = [] from fun _ _ _=>rfl) (And.intro (show ∀ (s : List UInt8) (p : Nat),Obj.names (.iter s p) = [] from fun _ _=>rfl) (And.intro (show ∀ (i : Nat) (st : DS),enter i [] [] st = some st from fun _ _=>rfl) (And.intro (show ∀ (i : Nat) (v : MV) (vs : List MV) (st : DS),enter i [] (v :: vs) st = enter (i + 1) [] vs { (inst i v st).2 with V := put (inst i v st).2.V i (inst i v st).1,nx := i + 1 } from fun _ _ _ _=>rfl) (And.intro (show ∀ (i : Nat) (ps : List PK) (v : MV) (vs : List MV) (st : DS),enter i (.other :: ps) (v :: vs) st = enter (i + 1) ps vs { (inst i v st).2 with V := put (inst i v st).2.V i (inst i v st).1,nx := i + 1 } from fun _ _ _ _ _=>rfl) (And.intro (show ∀ (i : Nat) (ps : List PK) (vs : List MV) (st : DS),enter i (.byt :: ps) (.nilsl :: vs) st = enter (i + 1) ps vs { (inst i (MV.bs []) st).2 with V := put (inst i (MV.bs []) st).2.V i (inst i (MV.bs []) st).1,nx := i + 1 } from fun _ _ _ _=>rfl) (And.intro (show ∀ (i s : Nat) (ps : List PK) (vs : List MV) (st : DS),enter i (.el s :: ps) (.nilsl :: vs) st = enter (i + 1) ps vs { (inst i (MV.sl s []) st).2 with V := put (inst i (MV.sl s []) st).2.V i (inst i (MV.sl s []) st).1,nx := i + 1 } from fun _ _ _ _ _=>rfl) (And.intro (show ∀ (i : Nat) (ps : List PK) (vs : List MV) (st : DS) (l : List UInt8),enter i (.byt :: ps) ((MV.bs l) :: vs) st = enter (i + 1) ps vs { (inst i (MV.bs l) st).2 with V := put (inst i (MV.bs l) st).2.V i (inst i (MV.bs l) st).1,nx := i + 1 } from fun _ _ _ _ _=>rfl) (And.intro (show ∀ (i : Nat) (ps : List PK) (vs : List MV) (st : DS) (o n : Nat),enter i (.byt :: ps) ((MV.own o n) :: vs) st = enter (i + 1) ps vs { (inst i (MV.own o n) st).2 with V := put (inst i (MV.own o n) st).2.V i (inst i (MV.own o n) st).1,nx := i + 1 } from fun _ _ _ _ _ _=>rfl) (And.intro (show ∀ (i s : Nat) (ps : List PK) (vs : List MV) (st : DS) (t : Nat) (l : List MV),enter i (.el s :: ps) ((MV.sl t l) :: vs) st = enter (i + 1) ps vs { (inst i (MV.sl t l) st).2 with V := put (inst i (MV.sl t l) st).2.V i (inst i (MV.sl t l) st).1,nx := i + 1 } from fun _ _ _ _ _ _ _=>rfl) (And.intro (show ∀ (i s : Nat) (ps : List PK) (vs : List MV) (st : DS) (t : Nat) (l : List MV),enter i (.full s :: ps) ((MV.sl t l) :: vs) st = enter (i + 1) ps vs { (inst i (MV.sl t l) st).2 with V := put (inst i (MV.sl t l) st).2.V i (inst i (MV.sl t l) st).1,nx := i + 1 } from fun _ _ _ _ _ _ _=>rfl) (And.intro (show ∀ (i s : Nat) (ps : List PK) (vs : List MV) (st : DS) (t : Nat) (l : List MV),enter i (.el s :: ps) ((MV.fsl t l) :: vs) st = enter (i + 1) ps vs { (inst i (MV.fsl t l) st).2 with V := put (inst i (MV.fsl t l) st).2.V i (inst i (MV.fsl t l) st).1,nx := i + 1 } from fun _ _ _ _ _ _ _=>rfl) (And.intro (show ∀ (i s : Nat) (ps : List PK) (vs : List MV) (st : DS) (t : Nat) (l : List MV),enter i (.full s :: ps) ((MV.fsl t l) :: vs) st = enter (i + 1) ps vs { (inst i (MV.fsl t l) st).2 with V := put (inst i (MV.fsl t l) st).2.V i (inst i (MV.fsl t l) st).1,nx := i + 1 } from fun _ _ _ _ _ _ _=>rfl) (And.intro (show ∀ (i s : Nat) (ps : List PK) (vs : List MV) (st : DS) (o n : Nat),enter i (.el s :: ps) ((MV.own o n) :: vs) st = enter (i + 1) ps vs { (inst i (MV.own o n) st).2 with V := put (inst i (MV.own o n) st).2.V i (inst i (MV.own o n) st).1,nx := i + 1 } from fun _ _ _ _ _ _ _=>rfl) (And.intro (show ∀ (i s : Nat) (ps : List PK) (vs : List MV) (st : DS) (o n : Nat),enter i (.full s :: ps) ((MV.own o n) :: vs) st = enter (i + 1) ps vs { (inst i (MV.own o n) st).2 with V := put (inst i (MV.own o n) st).2.V i (inst i (MV.own o n) st).1,nx := i + 1 } from fun _ _ _ _ _ _ _=>rfl) (And.intro (show ∀ (i s : Nat) (ps : List PK) (vs : List MV) (st : DS),enter i (.full s :: ps) (.nilsl :: vs) st = enter (i + 1) ps vs { (inst i (MV.fsl s []) st).2 with V := put (inst i (MV.fsl s []) st).2.V i (inst i (MV.fsl s []) st).1,nx := i + 1 } from fun _ _ _ _ _=>rfl) (And.intro (show ∀ (nm : Nat) (st : DS) (k : IntKind) (n : Int),inst nm (MV.int k n) st = ((MV.int k n),st) from fun _ _ _ _=>rfl) (And.intro (show ∀ (nm : Nat) (st : DS) (b : Bool),inst nm (MV.bool b) st = ((MV.bool b),st) from fun _ _ _=>rfl) (And.intro (show ∀ (nm : Nat) (st : DS) (s : List UInt8),inst nm (MV.str s) st = ((MV.str s),st) from fun _ _ _=>rfl) ((show ∀ (nm : Nat) (st : DS),inst nm MV.nilsl st = (MV.nilsl,st) from fun _ _=>rfl)))))))))))))))))))))))))))))))))))))))))
def bA14 := Bu.mk (And.intro (show ∀ (nm : Nat) (st : DS) (l : List UInt8),inst nm (MV.bs l) st = ((MV.bs l),st) from fun _ _ _=>rfl) (And.intro (show ∀ (nm : Nat) (st : DS) (s : Nat) (l : List MV),inst nm (MV.sl s l) st = ((MV.sl s l),st) from fun _ _ _ _=>rfl) (And.intro (show ∀ (nm : Nat) (st : DS) (s : Nat) (l : List MV),inst nm (MV.fsl s l) st = ((MV.fsl s l),st) from fun _ _ _ _=>rfl) (And.intro (show ∀ (nm : Nat) (st : DS) (l : List MV),inst nm (MV.agg l) st = ((MV.agg l),st) from fun _ _ _=>rfl) (And.intro (show ∀ (nm : Nat) (st : DS) (l : List MV),inst nm (MV.tup l) st = ((MV.tup l),st) from fun _ _ _=>rfl) (And.intro (show ∀ (nm : Nat) (st : DS),inst nm MV.nilptr st = (MV.nilptr,st) from fun _ _=>rfl) (And.intro (show ∀ (nm : Nat) (st : DS),inst nm MV.nilfn st = (MV.nilfn,st) from fun _ _=>rfl) (And.intro (show ∀ (nm : Nat) (st : DS),inst nm MV.nilif st = (MV.nilif,st) from fun _ _=>rfl) (And.intro (show ∀ (nm : Nat) (st : DS) (t : TypeId) (v : MV),inst nm (MV.iface t v) st = ((MV.iface t v),st) from fun _ _ _ _=>rfl) (And.intro (show ∀ (nm : Nat) (st : DS) (f : FuncId) (caps : List MV),inst nm (MV.fn f caps) st = ((MV.fn f caps),st) from fun _ _ _ _=>rfl) (And.intro (show ∀ (nm : Nat) (st : DS) (o n : Nat),inst nm (MV.own o n) st = ((MV.own o n),st) from fun _ _ _ _=>rfl) (And.intro (show ∀ (nm : Nat) (st : DS) (o j : Nat),inst nm (MV.ptr o j) st = ((MV.ptr o j),st) from fun _ _ _ _=>rfl) (And.intro (show ∀ (nm : Nat) (st : DS) (o i j n : Nat),inst nm (MV.eptr o i j n) st = ((MV.eptr o i j n),st) from fun _ _ _ _ _ _=>rfl) (And.intro (show ∀ (nm : Nat) (st : DS) (l : List MV),inst nm (MV.cptr l) st = ((MV.cptr l),st) from fun _ _ _=>rfl) (And.intro (show ∀ (nm : Nat) (st : DS),inst nm MV.undef st = (MV.undef,st) from fun _ _=>rfl) (And.intro (show ∀ (nm : Nat) (st : DS) (k : IntKind) (n : Int),instR nm (MV.int k n) st = inst nm (MV.int k n) st from fun _ _ _ _=>rfl) (And.intro (show ∀ (nm : Nat) (st : DS) (b : Bool),instR nm (MV.bool b) st = inst nm (MV.bool b) st from fun _ _ _=>rfl) (And.intro (show ∀ (nm : Nat) (st : DS) (s : List UInt8),instR nm (MV.str s) st = inst nm (MV.str s) st from fun _ _ _=>rfl) (And.intro (show ∀ (nm : Nat) (st : DS),instR nm MV.nilsl st = inst nm MV.nilsl st from fun _ _=>rfl) (And.intro (show ∀ (nm : Nat) (st : DS) (l : List UInt8),instR nm (MV.bs l) st = inst nm (MV.bs l) st from fun _ _ _=>rfl) (And.intro (show ∀ (nm : Nat) (st : DS) (s : Nat) (l : List MV),instR nm (MV.sl s l) st = inst nm (MV.sl s l) st from fun _ _ _ _=>rfl) (And.intro (show ∀ (nm : Nat) (st : DS) (s : Nat) (l : List MV),instR nm (MV.fsl s l) st = inst nm (MV.fsl s l) st from fun _ _ _ _=>rfl) (And.intro (show ∀ (nm : Nat) (st : DS) (l : List MV),instR nm (MV.agg l) st = inst nm (MV.agg l) st from fun _ _ _=>rfl) (And.intro (show ∀ (nm : Nat) (st : DS),instR nm MV.nilptr st = inst nm MV.nilptr st from fun _ _=>rfl) (And.intro (show ∀ (nm : Nat) (st : DS),instR nm MV.nilfn st = inst nm MV.nilfn st from fun _ _=>rfl) (And.intro (show ∀ (nm : Nat) (st : DS),instR nm MV.nilif st = inst nm MV.nilif st from fun _ _=>rfl) (And.intro (show ∀ (nm : Nat) (st : DS) (t : TypeId) (v : MV),instR nm (MV.iface t v) st = inst nm (MV.iface t v) st from fun _ _ _ _=>rfl) (And.intro (show ∀ (nm : Nat) (st : DS) (f : FuncId) (caps : List MV),instR nm (MV.fn f caps) st = inst nm (MV.fn f caps) st from fun _ _ _ _=>rfl) (And.intro (show ∀ (nm : Nat) (st : DS) (o n : Nat),instR nm (MV.own o n) st = inst nm (MV.own o n) st from fun _ _ _ _=>rfl) (And.intro (show ∀ (nm : Nat) (st : DS) (o j : Nat),instR nm (MV.ptr o j) st = inst nm (MV.ptr o j) st from fun _ _ _ _=>rfl) (And.intro (show ∀ (nm : Nat) (st : DS) (o i j n : Nat),instR nm (MV.eptr o i j n) st = inst nm (MV.eptr o i j n) st from fun _ _ _ _ _ _=>rfl) (And.intro (show ∀ (nm : Nat) (st : DS) (l : List MV),instR nm (MV.cptr l) st = inst nm (MV.cptr l) st from fun _ _ _=>rfl) (And.intro (show ∀ (nm : Nat) (st : DS) (l : List UInt8),instR nm (MV.fby l) st = inst nm (MV.fby l) st from fun _ _ _=>rfl) (And.intro (show ∀ (nm : Nat) (st : DS) (s : Nat) (l : List MV),instR nm (MV.fel s l) st = inst nm (MV.fel s l) st from fun _ _ _ _=>rfl) (And.intro (show ∀ (nm : Nat) (st : DS),instR nm MV.undef st = inst nm MV.undef st from fun _ _=>rfl) (And.intro (show isShift .add = false from rfl) (And.intro (show isShift .sub = false from rfl) (And.intro (show isShift .mul = false from rfl) (And.intro (show isShift .quo = false from rfl) ((show isShift .rem = false from rfl)))))))))))))))))))))))))))))))))))))))))
def bA15 := Bu.mk (And.intro (show isShift .and = false from rfl) (And.intro (show isShift .or = false from rfl) (And.intro (show isShift .xor = false from rfl) (And.intro (show isShift .andNot = false from rfl) (And.intro (show isShift .eql = false from rfl) (And.intro (show isShift .neq = false from rfl) (And.intro (show isShift .lss = false from rfl) (And.intro (show isShift .leq = false from rfl) (And.intro (show isShift .gtr = false from rfl) (And.intro (show isShift .geq = false from rfl) (And.intro (show ∀ (v : MV) (st : DS),leaveOne .other v st = lend v st from fun _ _=>rfl) (And.intro (show ∀ (v : MV) (st : DS),leaveOneH .other v st = lend v st from fun _ _=>rfl) (And.intro (show ∀ (v : MV) (st : DS),leaveOneH .ref v st = some (v,st) from fun _ _=>rfl) (And.intro (show ∀ (v : MV) (st : DS),leaveOneH .byt v st = leaveOne .byt v st from fun _ _=>rfl) (And.intro (show ∀ (s : Nat) (v : MV) (st : DS),leaveOneH (.el s) v st = leaveOne (.el s) v st from fun _ _ _=>rfl) (And.intro (show ∀ (st : DS) (k : IntKind) (n : Int),leaveOne .byt (MV.int k n) st = lend (MV.int k n) st from fun _ _ _=>rfl) (And.intro (show ∀ (st : DS) (b : Bool),leaveOne .byt (MV.bool b) st = lend (MV.bool b) st from fun _ _=>rfl) (And.intro (show ∀ (st : DS) (s : List UInt8),leaveOne .byt (MV.str s) st = lend (MV.str s) st from fun _ _=>rfl) (And.intro (show ∀ (st : DS) (l : List UInt8),leaveOne .byt (MV.bs l) st = lend (MV.bs l) st from fun _ _=>rfl) (And.intro (show ∀ (st : DS) (s : Nat) (l : List MV),leaveOne .byt (MV.sl s l) st = lend (MV.sl s l) st from fun _ _ _=>rfl) (And.intro (show ∀ (st : DS) (s : Nat) (l : List MV),leaveOne .byt (MV.fsl s l) st = lend (MV.fsl s l) st from fun _ _ _=>rfl) (And.intro (show ∀ (st : DS) (l : List MV),leaveOne .byt (MV.agg l) st = lend (MV.agg l) st from fun _ _=>rfl) (And.intro (show ∀ (st : DS) (l : List MV),leaveOne .byt (MV.tup l) st = lend (MV.tup l) st from fun _ _=>rfl) (And.intro (show ∀ (st : DS),leaveOne .byt MV.nilptr st = lend MV.nilptr st from fun _=>rfl) (And.intro (show ∀ (st : DS),leaveOne .byt MV.nilfn st = lend MV.nilfn st from fun _=>rfl) (And.intro (show ∀ (st : DS),leaveOne .byt MV.nilif st = lend MV.nilif st from fun _=>rfl) (And.intro (show ∀ (st : DS) (t : TypeId) (v : MV),leaveOne .byt (MV.iface t v) st = lend (MV.iface t v) st from fun _ _ _=>rfl) (And.intro (show ∀ (st : DS) (f : FuncId) (caps : List MV),leaveOne .byt (MV.fn f caps) st = lend (MV.fn f caps) st from fun _ _ _=>rfl) (And.intro (show ∀ (st : DS) (o n : Nat),leaveOne .byt (MV.own o n) st = lend (MV.own o n) st from fun _ _ _=>rfl) (And.intro (show ∀ (st : DS) (o j : Nat),leaveOne .byt (MV.ptr o j) st = lend (MV.ptr o j) st from fun _ _ _=>rfl) (And.intro (show ∀ (st : DS) (o i j n : Nat),leaveOne .byt (MV.eptr o i j n) st = lend (MV.eptr o i j n) st from fun _ _ _ _ _=>rfl) (And.intro (show ∀ (st : DS) (l : List MV),leaveOne .byt (MV.cptr l) st = lend (MV.cptr l) st from fun _ _=>rfl) (And.intro (show ∀ (st : DS) (l : List UInt8),leaveOne .byt (MV.fby l) st = lend (MV.fby l) st from fun _ _=>rfl) (And.intro (show ∀ (st : DS) (s : Nat) (l : List MV),leaveOne .byt (MV.fel s l) st = lend (MV.fel s l) st from fun _ _ _=>rfl) (And.intro (show ∀ (st : DS),leaveOne .byt MV.undef st = lend MV.undef st from fun _=>rfl) (And.intro (show ∀ (s0 : Nat) (st : DS) (k : IntKind) (n : Int),leaveOne (.el s0) (MV.int k n) st = lend (MV.int k n) st from fun _ _ _ _=>rfl) (And.intro (show ∀ (s0 : Nat) (st : DS) (b : Bool),leaveOne (.el s0) (MV.bool b) st = lend (MV.bool b) st from fun _ _ _=>rfl) (And.intro (show ∀ (s0 : Nat) (st : DS) (s : List UInt8),leaveOne (.el s0) (MV.str s) st = lend (MV.str s) st from fun _ _ _=>rfl) (And.intro (show ∀ (s0 : Nat) (st : DS) (l : List UInt8),leaveOne (.el s0) (MV.bs l) st = lend (MV.bs l) st from fun _ _ _=>rfl) ((show ∀ (s0 : Nat) (st : DS) (s : Nat) (l : List MV),leaveOne (.el s0) (MV.sl s l) st = lend (MV.sl s l) st from fun _ _ _ _=>rfl)))))))))))))))))))))))))))))))))))))))))
def bA16 := Bu.mk (And.intro (show ∀ (s0 : Nat) (st : DS) (s : Nat) (l : List MV),leaveOne (.el s0) (MV.fsl s l) st = lend (MV.fsl s l) st from fun _ _ _ _=>rfl) (And.intro (show ∀ (s0 : Nat) (st : DS) (l : List MV),leaveOne (.el s0) (MV.agg l) st = lend (MV.agg l) st from fun _ _ _=>rfl) (And.intro (show ∀ (s0 : Nat) (st : DS) (l : List MV),leaveOne (.el s0) (MV.tup l) st = lend (MV.tup l) st from fun _ _ _=>rfl) (And.intro (show ∀ (s0 : Nat) (st : DS),leaveOne (.el s0) MV.nilptr st = lend MV.nilptr st from fun _ _=>rfl) (And.intro (show ∀ (s0 : Nat) (st : DS),leaveOne (.el s0) MV.nilfn st = lend MV.nilfn st from fun _ _=>rfl) (And.intro (show ∀ (s0 : Nat) (st : DS),leaveOne (.el s0) MV.nilif st = lend MV.nilif st from fun _ _=>rfl) (And.intro (show ∀ (s0 : Nat) (st : DS) (t : TypeId) (v : MV),leaveOne (.el s0) (MV.iface t v) st = lend (MV.iface t v) st from fun _ _ _ _=>rfl) (And.intro (show ∀ (s0 : Nat) (st : DS) (f : FuncId) (caps : List MV),leaveOne (.el s0) (MV.fn f caps) st = lend (MV.fn f caps) st from fun _ _ _ _=>rfl) (And.intro (show ∀ (s0 : Nat) (st : DS) (o n : Nat),leaveOne (.el s0) (MV.own o n) st = lend (MV.own o n) st from fun _ _ _ _=>rfl) (And.intro (show ∀ (s0 : Nat) (st : DS) (o j : Nat),leaveOne (.el s0) (MV.ptr o j) st = lend (MV.ptr o j) st from fun _ _ _ _=>rfl) (And.intro (show ∀ (s0 : Nat) (st : DS) (o i j n : Nat),leaveOne (.el s0) (MV.eptr o i j n) st = lend (MV.eptr o i j n) st from fun _ _ _ _ _ _=>rfl) (And.intro (show ∀ (s0 : Nat) (st : DS) (l : List MV),leaveOne (.el s0) (MV.cptr l) st = lend (MV.cptr l) st from fun _ _ _=>rfl) (And.intro (show ∀ (s0 : Nat) (st : DS) (l : List UInt8),leaveOne (.el s0) (MV.fby l) st = lend (MV.fby l) st from fun _ _ _=>rfl) (And.intro (show ∀ (s0 : Nat) (st : DS) (s : Nat) (l : List MV),leaveOne (.el s0) (MV.fel s l) st = lend (MV.fel s l) st from fun _ _ _ _=>rfl) (And.intro (show ∀ (s0 : Nat) (st : DS),leaveOne (.el s0) MV.undef st = lend MV.undef st from fun _ _=>rfl) (And.intro (show ∀ (st : DS) (k : IntKind) (n : Int),lend (MV.int k n) st = some ((MV.int k n),st) from fun _ _ _=>rfl) (And.intro (show ∀ (st : DS) (b : Bool),lend (MV.bool b) st = some ((MV.bool b),st) from fun _ _=>rfl) (And.intro (show ∀ (st : DS) (s : List UInt8),lend (MV.str s) st = some ((MV.str s),st) from fun _ _=>rfl) (And.intro (show ∀ (st : DS),lend MV.nilsl st = some (MV.nilsl,st) from fun _=>rfl) (And.intro (show ∀ (st : DS) (l : List UInt8),lend (MV.bs l) st = some ((MV.bs l),st) from fun _ _=>rfl) (And.intro (show ∀ (st : DS) (s : Nat) (l : List MV),lend (MV.sl s l) st = some ((MV.sl s l),st) from fun _ _ _=>rfl) (And.intro (show ∀ (st : DS) (s : Nat) (l : List MV),lend (MV.fsl s l) st = some ((MV.fsl s l),st) from fun _ _ _=>rfl) (And.intro (show ∀ (st : DS) (l : List MV),lend (MV.agg l) st = some ((MV.agg l),st) from fun _ _=>rfl) (And.intro (show ∀ (st : DS),lend MV.nilptr st = some (MV.nilptr,st) from fun _=>rfl) (And.intro (show ∀ (st : DS),lend MV.nilfn st = some (MV.nilfn,st) from fun _=>rfl) (And.intro (show ∀ (st : DS),lend MV.nilif st = some (MV.nilif,st) from fun _=>rfl) (And.intro (show ∀ (st : DS) (t : TypeId) (v : MV),lend (MV.iface t v) st = some ((MV.iface t v),st) from fun _ _ _=>rfl) (And.intro (show ∀ (st : DS) (l : List MV),lend (MV.cptr l) st = some ((MV.cptr l),st) from fun _ _=>rfl) (And.intro (show result [] = .tup [] from rfl) (And.intro (show ∀ (a b : MV) (l : List MV),result (a :: b :: l) = .tup (a :: b :: l) from fun _ _ _=>rfl) (And.intro (show ∀ (id : Nat) (c : MCode) (k : List Item),unwind id (.code c :: k) = unwind id k from fun _ _ _=>rfl) (And.intro (show ∀ (id : Nat) (keep : List (Nat × KMode)) (b : MCode) (k : List Item),unwind id (.lp keep b :: k) = unwind id k from fun _ _ _ _=>rfl) (And.intro (show ∀ (a0 : X) (st : DS),loud (.mv a0) st = shared (handed (.mv a0) st) st from fun _ _=>rfl) (And.intro (show ∀ (a0 : X) (a1 : X) (a2 : X) (st : DS),loud (.pick a0 a1 a2) st = shared (handed (.pick a0 a1 a2) st) st from fun _ _ _ _=>rfl) (And.intro (show ∀ (a0 : X) (st : DS),loud (.box a0) st = shared (handed (.box a0) st) st from fun _ _=>rfl) (And.intro (show ∀ (a0 : List MV) (st : DS),loud (.alloc a0) st = shared (handed (.alloc a0) st) st from fun _ _=>rfl) (And.intro (show ∀ (a0 : List MV) (a1 : List (Nat × Nat × X)) (st : DS),loud (.build a0 a1) st = shared (handed (.build a0 a1) st) st from fun _ _ _=>rfl) (And.intro (show ∀ (a0 : Nat) (a1 : List (Nat × X)) (st : DS),loud (.bslB a0 a1) st = shared (handed (.bslB a0 a1) st) st from fun _ _ _=>rfl) (And.intro (show ∀ (a0 : Nat) (a1 : MV) (a2 : Nat) (a3 : List (Nat × X)) (st : DS),loud (.bslE a0 a1 a2 a3) st = shared (handed (.bslE a0 a1 a2 a3) st) st from fun _ _ _ _ _=>rfl) ((show ∀ (a0 : Nat) (a1 : MV) (a2 : Nat) (a3 : List (Nat × X)) (st : DS),loud (.bslF a0 a1 a2 a3) st = shared (handed (.bslF a0 a1 a2 a3) st) st from fun _ _ _ _ _=>rfl)))))))))))))))))))))))))))))))))))))))))
def bA17 := Bu.mk (And.intro (show ∀ (a0 : Bool) (a1 : Nat) (a2 : X) (st : DS),loud (.load a0 a1 a2) st = shared (handed (.load a0 a1 a2) st) st from fun _ _ _ _=>rfl) (And.intro (show ∀ (a0 : BinOp) (a1 : X) (a2 : X) (st : DS),loud (.bin a0 a1 a2) st = shared (handed (.bin a0 a1 a2) st) st from fun _ _ _ _=>rfl) (And.intro (show ∀ (a0 : EqK) (a1 : Bool) (a2 : X) (a3 : X) (st : DS),loud (.eqs a0 a1 a2 a3) st = shared (handed (.eqs a0 a1 a2 a3) st) st from fun _ _ _ _ _=>rfl) (And.intro (show ∀ (a0 : UnOp) (a1 : X) (st : DS),loud (.un a0 a1) st = shared (handed (.un a0 a1) st) st from fun _ _ _=>rfl) (And.intro (show ∀ (a0 : IntKind) (a1 : X) (st : DS),loud (.conv a0 a1) st = shared (handed (.conv a0 a1) st) st from fun _ _ _=>rfl) (And.intro (show ∀ (a0 : X) (st : DS),loud (.same a0) st = shared (handed (.same a0) st) st from fun _ _=>rfl) (And.intro (show ∀ (a0 : X) (st : DS),loud (.s2b a0) st = shared (handed (.s2b a0) st) st from fun _ _=>rfl) (And.intro (show ∀ (a0 : X) (st : DS),loud (.b2s a0) st = shared (handed (.b2s a0) st) st from fun _ _=>rfl) (And.intro (show ∀ (a0 : X) (st : DS),loud (.mark a0) st = shared (handed (.mark a0) st) st from fun _ _=>rfl) (And.intro (show ∀ (a0 : X) (st : DS),loud (.rng a0) st = shared (handed (.rng a0) st) st from fun _ _=>rfl) (And.intro (show ∀ (a0 : X) (st : DS),loud (.i2s a0) st = shared (handed (.i2s a0) st) st from fun _ _=>rfl) (And.intro (show ∀ (a0 : X) (st : DS),loud (.nilck a0) st = shared (handed (.nilck a0) st) st from fun _ _=>rfl) (And.intro (show ∀ (st : DS),loud (.bad) st = shared (handed (.bad) st) st from fun _=>rfl) (And.intro (show ∀ (a0 : Nat) (a1 : X) (st : DS),loud (.fad a0 a1) st = shared (handed (.fad a0 a1) st) st from fun _ _ _=>rfl) (And.intro (show ∀ (a0 : Bool) (a1 : Nat) (a2 : Nat) (a3 : X) (st : DS),loud (.fld a0 a1 a2 a3) st = shared (handed (.fld a0 a1 a2 a3) st) st from fun _ _ _ _ _=>rfl) (And.intro (show ∀ (a0 : Nat) (a1 : X) (a2 : X) (st : DS),loud (.iad a0 a1 a2) st = shared (handed (.iad a0 a1 a2) st) st from fun _ _ _ _=>rfl) (And.intro (show ∀ (a0 : Nat) (a1 : Nat) (a2 : X) (a3 : X) (st : DS),loud (.aad a0 a1 a2 a3) st = shared (handed (.aad a0 a1 a2 a3) st) st from fun _ _ _ _ _=>rfl) (And.intro (show ∀ (a0 : X) (a1 : X) (st : DS),loud (.idxS a0 a1) st = shared (handed (.idxS a0 a1) st) st from fun _ _ _=>rfl) (And.intro (show ∀ (a0 : Bool) (a1 : Nat) (a2 : Nat) (a3 : X) (a4 : X) (st : DS),loud (.idxA a0 a1 a2 a3 a4) st = shared (handed (.idxA a0 a1 a2 a3 a4) st) st from fun _ _ _ _ _ _=>rfl) (And.intro (show ∀ (a0 : Bool) (a1 : Nat) (a2 : X) (a3 : Option X) (a4 : Option X) (st : DS),loud (.slc a0 a1 a2 a3 a4) st = shared (handed (.slc a0 a1 a2 a3 a4) st) st from fun _ _ _ _ _ _=>rfl) (And.intro (show ∀ (a0 : Nat) (a1 : X) (st : DS),loud (.ext a0 a1) st = shared (handed (.ext a0 a1) st) st from fun _ _ _=>rfl) (And.intro (show ∀ (a0 : FuncId) (a1 : List X) (st : DS),loud (.call a0 a1) st = shared (handed (.call a0 a1) st) st from fun _ _ _=>rfl) (And.intro (show ∀ (a0 : X) (a1 : List X) (st : DS),loud (.callv a0 a1) st = shared (handed (.callv a0 a1) st) st from fun _ _ _=>rfl) (And.intro (show ∀ (a0 : Bool) (a1 : X) (st : DS),loud (.len a0 a1) st = shared (handed (.len a0 a1) st) st from fun _ _ _=>rfl) (And.intro (show ∀ (a0 : FuncId) (a1 : List X) (st : DS),loud (.mkfn a0 a1) st = shared (handed (.mkfn a0 a1) st) st from fun _ _ _=>rfl) (And.intro (show ∀ (a0 : TypeId) (a1 : X) (st : DS),loud (.mkif a0 a1) st = shared (handed (.mkif a0 a1) st) st from fun _ _ _=>rfl) (And.intro (show ∀ (a0 : X) (a1 : X) (st : DS),loud (.mksB a0 a1) st = shared (handed (.mksB a0 a1) st) st from fun _ _ _=>rfl) (And.intro (show ∀ (a0 : Nat) (a1 : Nat) (a2 : MV) (a3 : X) (a4 : X) (st : DS),loud (.mksE a0 a1 a2 a3 a4) st = shared (handed (.mksE a0 a1 a2 a3 a4) st) st from fun _ _ _ _ _ _=>rfl) (And.intro (show ∀ (a0 : Bool) (a1 : List X) (st : DS),loud (.minmax a0 a1) st = shared (handed (.minmax a0 a1) st) st from fun _ _ _=>rfl) (And.intro (show ∀ (a0 : X) (a1 : X) (st : DS),loud (.copyB a0 a1) st = shared (handed (.copyB a0 a1) st) st from fun _ _ _=>rfl) (And.intro (show ∀ (a0 : X) (st : DS),handed (.mv a0) st = [] from fun _ _=>rfl) (And.intro (show ∀ (a0 : X) (a1 : X) (a2 : X) (st : DS),handed (.pick a0 a1 a2) st = [] from fun _ _ _ _=>rfl) (And.intro (show ∀ (a0 : X) (st : DS),handed (.box a0) st = [] from fun _ _=>rfl) (And.intro (show ∀ (a0 : List MV) (st : DS),handed (.alloc a0) st = [] from fun _ _=>rfl) (And.intro (show ∀ (a0 : List MV) (a1 : List (Nat × Nat × X)) (st : DS),handed (.build a0 a1) st = [] from fun _ _ _=>rfl) (And.intro (show ∀ (a0 : Nat) (a1 : List (Nat × X)) (st : DS),handed (.bslB a0 a1) st = [] from fun _ _ _=>rfl) (And.intro (show ∀ (a0 : Nat) (a1 : MV) (a2 : Nat) (a3 : List (Nat × X)) (st : DS),handed (.bslE a0 a1 a2 a3) st = [] from fun _ _ _ _ _=>rfl) (And.intro (show ∀ (a0 : Nat) (a1 : MV) (a2 : Nat) (a3 : List (Nat × X)) (st : DS),handed (.bslF a0 a1 a2 a3) st = [] from fun _ _ _ _ _=>rfl) (And.intro (show ∀ (a0 : Bool) (a1 : Nat) (a2 : X) (st : DS),handed (.load a0 a1 a2) st = [] from fun _ _ _ _=>rfl) ((show ∀ (a0 : BinOp) (a1 : X) (a2 : X) (st : DS),handed (.bin a0 a1 a2) st = [] from fun _ _ _ _=>rfl)))))))))))))))))))))))))))))))))))))))))
def bA18 := Bu.mk (And.intro (show ∀ (a0 : EqK) (a1 : Bool) (a2 : X) (a3 : X) (st : DS),handed (.eqs a0 a1 a2 a3) st = [] from fun _ _ _ _ _=>rfl) (And.intro (show ∀ (a0 : UnOp) (a1 : X) (st : DS),handed (.un a0 a1) st = [] from fun _ _ _=>rfl) (And.intro (show ∀ (a0 : IntKind) (a1 : X) (st : DS),handed (.conv a0 a1) st = [] from fun _ _ _=>rfl) (And.intro (show ∀ (a0 : X) (st : DS),handed (.same a0) st = [] from fun _ _=>rfl) (And.intro (show ∀ (a0 : X) (st : DS),handed (.s2b a0) st = [] from fun _ _=>rfl) (And.intro (show ∀ (a0 : X) (st : DS),handed (.b2s a0) st = [] from fun _ _=>rfl) (And.intro (show ∀ (a0 : X) (st : DS),handed (.mark a0) st = [] from fun _ _=>rfl) (And.intro (show ∀ (a0 : X) (st : DS),handed (.rng a0) st = [] from fun _ _=>rfl) (And.intro (show ∀ (a0 : X) (st : DS),handed (.i2s a0) st = [] from fun _ _=>rfl) (And.intro (show ∀ (a0 : X) (st : DS),handed (.nilck a0) st = [] from fun _ _=>rfl) (And.intro (show ∀ (st : DS),handed (.bad) st = [] from fun _=>rfl) (And.intro (show ∀ (a0 : Nat) (a1 : X) (st : DS),handed (.fad a0 a1) st = [] from fun _ _ _=>rfl) (And.intro (show ∀ (a0 : Bool) (a1 : Nat) (a2 : Nat) (a3 : X) (st : DS),handed (.fld a0 a1 a2 a3) st = [] from fun _ _ _ _ _=>rfl) (And.intro (show ∀ (a0 : Nat) (a1 : X) (a2 : X) (st : DS),handed (.iad a0 a1 a2) st = [] from fun _ _ _ _=>rfl) (And.intro (show ∀ (a0 : Nat) (a1 : Nat) (a2 : X) (a3 : X) (st : DS),handed (.aad a0 a1 a2 a3) st = [] from fun _ _ _ _ _=>rfl) (And.intro (show ∀ (a0 : X) (a1 : X) (st : DS),handed (.idxS a0 a1) st = [] from fun _ _ _=>rfl) (And.intro (show ∀ (a0 : Bool) (a1 : Nat) (a2 : Nat) (a3 : X) (a4 : X) (st : DS),handed (.idxA a0 a1 a2 a3 a4) st = [] from fun _ _ _ _ _ _=>rfl) (And.intro (show ∀ (a0 : Bool) (a1 : Nat) (a2 : X) (a3 : Option X) (a4 : Option X) (st : DS),handed (.slc a0 a1 a2 a3 a4) st = [] from fun _ _ _ _ _ _=>rfl) (And.intro (show ∀ (a0 : Nat) (a1 : X) (st : DS),handed (.ext a0 a1) st = [] from fun _ _ _=>rfl) (And.intro (show ∀ (a0 : FuncId) (a1 : List X) (st : DS),handed (.call a0 a1) st = [] from fun _ _ _=>rfl) (And.intro (show ∀ (a0 : X) (a1 : List X) (st : DS),handed (.callv a0 a1) st = [] from fun _ _ _=>rfl) (And.intro (show ∀ (a0 : Bool) (a1 : X) (st : DS),handed (.len a0 a1) st = [] from fun _ _ _=>rfl) (And.intro (show ∀ (a0 : FuncId) (a1 : List X) (st : DS),handed (.mkfn a0 a1) st = [] from fun _ _ _=>rfl) (And.intro (show ∀ (a0 : TypeId) (a1 : X) (st : DS),handed (.mkif a0 a1) st = [] from fun _ _ _=>rfl) (And.intro (show ∀ (a0 : X) (a1 : X) (st : DS),handed (.mksB a0 a1) st = [] from fun _ _ _=>rfl) (And.intro (show ∀ (a0 : Nat) (a1 : Nat) (a2 : MV) (a3 : X) (a4 : X) (st : DS),handed (.mksE a0 a1 a2 a3 a4) st = [] from fun _ _ _ _ _ _=>rfl) (And.intro (show ∀ (a0 : Bool) (a1 : List X) (st : DS),handed (.minmax a0 a1) st = [] from fun _ _ _=>rfl) (And.intro (show ∀ (a0 : X) (a1 : X) (st : DS),handed (.copyB a0 a1) st = [] from fun _ _ _=>rfl) (And.intro (show ∀ (a0 : Nat) (a1 : X) (a2 : X) (st : DS),handed (.store a0 a1 a2) st = [] from fun _ _ _ _=>rfl) (And.intro (show ∀ (a0 : Nat) (a1 : Nat) (a2 : MV) (a3 : X) (a4 : X) (st : DS),handed (.appZ a0 a1 a2 a3 a4) st = [] from fun _ _ _ _ _ _=>rfl) (And.intro (show ∀ (a0 : Bool) (a1 : Nat) (a2 : Nat) (a3 : X) (a4 : X) (st : DS),handed (.app a0 a1 a2 a3 a4) st = [] from fun _ _ _ _ _ _=>rfl) (And.intro (show ∀ (a0 : X) (st : DS),handed (.nxt a0) st = [] from fun _ _=>rfl) (And.intro (show ∀ (a0 : X) (a1 : X) (a2 : X) (st : DS),MOp.nms (.pick a0 a1 a2) st = ((MOp.xs (.pick a0 a1 a2)).flatMap fun x=>(st.rd x).names2) from fun _ _ _ _=>rfl) (And.intro (show ∀ (a0 : X) (st : DS),MOp.nms (.box a0) st = ((MOp.xs (.box a0)).flatMap fun x=>(st.rd x).names2) from fun _ _=>rfl) (And.intro (show ∀ (a0 : List MV) (st : DS),MOp.nms (.alloc a0) st = ((MOp.xs (.alloc a0)).flatMap fun x=>(st.rd x).names2) from fun _ _=>rfl) (And.intro (show ∀ (a0 : List MV) (a1 : List (Nat × Nat × X)) (st : DS),MOp.nms (.build a0 a1) st = ((MOp.xs (.build a0 a1)).flatMap fun x=>(st.rd x).names2) from fun _ _ _=>rfl) (And.intro (show ∀ (a0 : Nat) (a1 : List (Nat × X)) (st : DS),MOp.nms (.bslB a0 a1) st = ((MOp.xs (.bslB a0 a1)).flatMap fun x=>(st.rd x).names2) from fun _ _ _=>rfl) (And.intro (show ∀ (a0 : Nat) (a1 : MV) (a2 : Nat) (a3 : List (Nat × X)) (st : DS),MOp.nms (.bslE a0 a1 a2 a3) st = ((MOp.xs (.bslE a0 a1 a2 a3)).flatMap fun x=>(st.rd x).names2) from fun _ _ _ _ _=>rfl) (And.intro (show ∀ (a0 : Nat) (a1 : MV) (a2 : Nat) (a3 : List (Nat × X)) (st : DS),MOp.nms (.bslF a0 a1 a2 a3) st = ((MOp.xs (.bslF a0 a1 a2 a3)).flatMap fun x=>(st.rd x).names2) from fun _ _ _ _ _=>rfl) ((show ∀ (a0 : Bool) (a1 : Nat) (a2 : X) (st : DS),MOp.nms (.load a0 a1 a2) st = ((MOp.xs (.load a0 a1 a2)).flatMap fun x=>(st.rd x).names2) from fun _ _ _ _=>rfl)))))))))))))))))))))))))))))))))))))))))
def bA19 := Bu.mk (And.intro (show ∀ (a0 : BinOp) (a1 : X) (a2 : X) (st : DS),MOp.nms (.bin a0 a1 a2) st = ((MOp.xs (.bin a0 a1 a2)).flatMap fun x=>(st.rd x).names2) from fun _ _ _ _=>rfl) (And.intro (show ∀ (a0 : EqK) (a1 : Bool) (a2 : X) (a3 : X) (st : DS),MOp.nms (.eqs a0 a1 a2 a3) st = ((MOp.xs (.eqs a0 a1 a2 a3)).flatMap fun x=>(st.rd x).names2) from fun _ _ _ _ _=>rfl) (And.intro (show ∀ (a0 : UnOp) (a1 : X) (st : DS),MOp.nms (.un a0 a1) st = ((MOp.xs (.un a0 a1)).flatMap fun x=>(st.rd x).names2) from fun _ _ _=>rfl) (And.intro (show ∀ (a0 : IntKind) (a1 : X) (st : DS),MOp.nms (.conv a0 a1) st = ((MOp.xs (.conv a0 a1)).flatMap fun x=>(st.rd x).names2) from fun _ _ _=>rfl) (And.intro (show ∀ (a0 : X) (st : DS),MOp.nms (.same a0) st = ((MOp.xs (.same a0)).flatMap fun x=>(st.rd x).names2) from fun _ _=>rfl) (And.intro (show ∀ (a0 : X) (st : DS),MOp.nms (.s2b a0) st = ((MOp.xs (.s2b a0)).flatMap fun x=>(st.rd x).names2) from fun _ _=>rfl) (And.intro (show ∀ (a0 : X) (st : DS),MOp.nms (.b2s a0) st = ((MOp.xs (.b2s a0)).flatMap fun x=>(st.rd x).names2) from fun _ _=>rfl) (And.intro (show ∀ (a0 : X) (st : DS),MOp.nms (.mark a0) st = ((MOp.xs (.mark a0)).flatMap fun x=>(st.rd x).names2) from fun _ _=>rfl) (And.intro (show ∀ (a0 : X) (st : DS),MOp.nms (.rng a0) st = ((MOp.xs (.rng a0)).flatMap fun x=>(st.rd x).names2) from fun _ _=>rfl) (And.intro (show ∀ (a0 : X) (st : DS),MOp.nms (.i2s a0) st = ((MOp.xs (.i2s a0)).flatMap fun x=>(st.rd x).names2) from fun _ _=>rfl) (And.intro (show ∀ (a0 : X) (st : DS),MOp.nms (.nilck a0) st = ((MOp.xs (.nilck a0)).flatMap fun x=>(st.rd x).names2) from fun _ _=>rfl) (And.intro (show ∀ (st : DS),MOp.nms (.bad) st = ((MOp.xs (.bad)).flatMap fun x=>(st.rd x).names2) from fun _=>rfl) (And.intro (show ∀ (a0 : Nat) (a1 : X) (st : DS),MOp.nms (.fad a0 a1) st = ((MOp.xs (.fad a0 a1)).flatMap fun x=>(st.rd x).names2) from fun _ _ _=>rfl) (And.intro (show ∀ (a0 : Bool) (a1 : Nat) (a2 : Nat) (a3 : X) (st : DS),MOp.nms (.fld a0 a1 a2 a3) st = ((MOp.xs (.fld a0 a1 a2 a3)).flatMap fun x=>(st.rd x).names2) from fun _ _ _ _ _=>rfl) (And.intro (show ∀ (a0 : Nat) (a1 : X) (a2 : X) (st : DS),MOp.nms (.iad a0 a1 a2) st = ((MOp.xs (.iad a0 a1 a2)).flatMap fun x=>(st.rd x).names2) from fun _ _ _ _=>rfl) (And.intro (show ∀ (a0 : Nat) (a1 : Nat) (a2 : X) (a3 : X) (st : DS),MOp.nms (.aad a0 a1 a2 a3) st = ((MOp.xs (.aad a0 a1 a2 a3)).flatMap fun x=>(st.rd x).names2) from fun _ _ _ _ _=>rfl) (And.intro (show ∀ (a0 : X) (a1 : X) (st : DS),MOp.nms (.idxS a0 a1) st = ((MOp.xs (.idxS a0 a1)).flatMap fun x=>(st.rd x).names2) from fun _ _ _=>rfl) (And.intro (show ∀ (a0 : Bool) (a1 : Nat) (a2 : Nat) (a3 : X) (a4 : X) (st : DS),MOp.nms (.idxA a0 a1 a2 a3 a4) st = ((MOp.xs (.idxA a0 a1 a2 a3 a4)).flatMap fun x=>(st.rd x).names2) from fun _ _ _ _ _ _=>rfl) (And.intro (show ∀ (a0 : Bool) (a1 : Nat) (a2 : X) (a3 : Option X) (a4 : Option X) (st : DS),MOp.nms (.slc a0 a1 a2 a3 a4) st = ((MOp.xs (.slc a0 a1 a2 a3 a4)).flatMap fun x=>(st.rd x).names2) from fun _ _ _ _ _ _=>rfl) (And.intro (show ∀ (a0 : Nat) (a1 : X) (st : DS),MOp.nms (.ext a0 a1) st = ((MOp.xs (.ext a0 a1)).flatMap fun x=>(st.rd x).names2) from fun _ _ _=>rfl) (And.intro (show ∀ (a0 : FuncId) (a1 : List X) (st : DS),MOp.nms (.call a0 a1) st = ((MOp.xs (.call a0 a1)).flatMap fun x=>(st.rd x).names2) from fun _ _ _=>rfl) (And.intro (show ∀ (a0 : X) (a1 : List X) (st : DS),MOp.nms (.callv a0 a1) st = ((MOp.xs (.callv a0 a1)).flatMap fun x=>(st.rd x).names2) from fun _ _ _=>rfl) (And.intro (show ∀ (a0 : Bool) (a1 : X) (st : DS),MOp.nms (.len a0 a1) st = ((MOp.xs (.len a0 a1)).flatMap fun x=>(st.rd x).names2) from fun _ _ _=>rfl) (And.intro (show ∀ (a0 : FuncId) (a1 : List X) (st : DS),MOp.nms (.mkfn a0 a1) st = ((MOp.xs (.mkfn a0 a1)).flatMap fun x=>(st.rd x).names2) from fun _ _ _=>rfl) (And.intro (show ∀ (a0 : TypeId) (a1 : X) (st : DS),MOp.nms (.mkif a0 a1) st = ((MOp.xs (.mkif a0 a1)).flatMap fun x=>(st.rd x).names2) from fun _ _ _=>rfl) (And.intro (show ∀ (a0 : X) (a1 : X) (st : DS),MOp.nms (.mksB a0 a1) st = ((MOp.xs (.mksB a0 a1)).flatMap fun x=>(st.rd x).names2) from fun _ _ _=>rfl) (And.intro (show ∀ (a0 : Nat) (a1 : Nat) (a2 : MV) (a3 : X) (a4 : X) (st : DS),MOp.nms (.mksE a0 a1 a2 a3 a4) st = ((MOp.xs (.mksE a0 a1 a2 a3 a4)).flatMap fun x=>(st.rd x).names2) from fun _ _ _ _ _ _=>rfl) (And.intro (show ∀ (a0 : Bool) (a1 : List X) (st : DS),MOp.nms (.minmax a0 a1) st = ((MOp.xs (.minmax a0 a1)).flatMap fun x=>(st.rd x).names2) from fun _ _ _=>rfl) (And.intro (show ∀ (a0 : X) (a1 : X) (st : DS),MOp.nms (.copyB a0 a1) st = ((MOp.xs (.copyB a0 a1)).flatMap fun x=>(st.rd x).names2) from fun _ _ _=>rfl) (And.intro (show ∀ (a0 : Nat) (a1 : X) (a2 : X) (st : DS),MOp.nms (.store a0 a1 a2) st = ((MOp.xs (.store a0 a1 a2)).flatMap fun x=>(st.rd x).names2) from fun _ _ _ _=>rfl) (And.intro (show ∀ (a0 : Nat) (a1 : Nat) (a2 : MV) (a3 : X) (a4 : X) (st : DS),MOp.nms (.appZ a0 a1 a2 a3 a4) st = ((MOp.xs (.appZ a0 a1 a2 a3 a4)).flatMap fun x=>(st.rd x).names2) from fun _ _ _ _ _ _=>rfl) (And.intro (show ∀ (a0 : Bool) (a1 : Nat) (a2 : Nat) (a3 : X) (a4 : X) (st : DS),MOp.nms (.app a0 a1 a2 a3 a4) st = ((MOp.xs (.app a0 a1 a2 a3 a4)).flatMap fun x=>(st.rd x).names2) from fun _ _ _ _ _ _=>rfl) (And.intro (show ∀ (a0 : X) (st : DS),MOp.nms (.nxt a0) st = ((MOp.xs (.nxt a0)).flatMap fun x=>(st.rd x).names2) from fun _ _=>rfl) (And.intro (show ∀ (x : X) (st : DS),MOp.nms (.mv x) st = [] from fun _ _=>rfl) (And.intro (show ∀ (f : FuncId) (a : List X) (st : DS),MOp.nms (.callh f a) st = ((MOp.xs (.callh f a)).flatMap fun x=>(st.rd x).names2) from fun _ _ _=>rfl) (And.intro (show ∀ (f : X) (a : List X) (st : DS),MOp.nms (.callvh f a) st = ((MOp.xs (.callvh f a)).flatMap fun x=>(st.rd x).names2) from fun _ _ _=>rfl) (And.intro (show ∀ (b : Bool) (t : List (Nat × FuncId)) (x : X) (a : List X) (st : DS),MOp.nms (.inv b t x a) st = ((MOp.xs (.inv b t x a)).flatMap fun x=>(st.rd x).names2) from fun _ _ _ _ _=>rfl) (And.intro (show ∀ (f : FuncId) (a : List X) (st : DS),loud (.callh f a) st = shared (a.map st.rd) st from fun _ _ _=>rfl) (And.intro (show ∀ (f : FuncId) (a : List X) (st : DS),handed (.callh f a) st = a.map st.rd from fun _ _ _=>rfl) ((show ∀ (f : X) (a : List X) (st : DS),loud (.callvh f a) st = shared (handed (.callvh f a) st) st from fun _ _ _=>rfl)))))))))))))))))))))))))))))))))))))))))
def bA20 := Bu.mk (And.intro (show ∀ (b : Bool) (t : List (Nat × FuncId)) (x : X) (a : List X) (st : DS),loud (.inv b t x a) st = shared (handed (.inv b t x a) st) st from fun _ _ _ _ _=>rfl) (And.intro (show ∀ (f0 : Nat→Nat) (k : IntKind) (n : Int),mapRef f0 (MV.int k n) = (MV.int k n) from fun _ _ _=>rfl) (And.intro (show ∀ (f0 : Nat→Nat) (b : Bool),mapRef f0 (MV.bool b) = (MV.bool b) from fun _ _=>rfl) (And.intro (show ∀ (f0 : Nat→Nat) (s : List UInt8),mapRef f0 (MV.str s) = (MV.str s) from fun _ _=>rfl) (And.intro (show ∀ (f0 : Nat→Nat),mapRef f0 MV.nilsl = MV.nilsl from fun _=>rfl) (And.intro (show ∀ (f0 : Nat→Nat) (l : List UInt8),mapRef f0 (MV.bs l) = (MV.bs l) from fun _ _=>rfl) (And.intro (show ∀ (f0 : Nat→Nat) (s : Nat) (l : List MV),mapRef f0 (MV.sl s l) = (MV.sl s l) from fun _ _ _=>rfl) (And.intro (show ∀ (f0 : Nat→Nat) (s : Nat) (l : List MV),mapRef f0 (MV.fsl s l) = (MV.fsl s l) from fun _ _ _=>rfl) (And.intro (show ∀ (f0 : Nat→Nat) (l : List MV),mapRef f0 (MV.agg l) = (MV.agg l) from fun _ _=>rfl) (And.intro (show ∀ (f0 : Nat→Nat),mapRef f0 MV.nilptr = MV.nilptr from fun _=>rfl) (And.intro (show ∀ (f0 : Nat→Nat),mapRef f0 MV.nilfn = MV.nilfn from fun _=>rfl) (And.intro (show ∀ (f0 : Nat→Nat),mapRef f0 MV.nilif = MV.nilif from fun _=>rfl) (And.intro (show ∀ (f0 : Nat→Nat) (t : TypeId) (v : MV),mapRef f0 (MV.iface t v) = (MV.iface t v) from fun _ _ _=>rfl) (And.intro (show ∀ (f0 : Nat→Nat) (l : List MV),mapRef f0 (MV.cptr l) = (MV.cptr l) from fun _ _=>rfl) (And.intro (show ∀ (f0 : Nat→Nat) (k : IntKind) (n : Int),mapV f0 (MV.int k n) = mapRef f0 (MV.int k n) from fun _ _ _=>rfl) (And.intro (show ∀ (f0 : Nat→Nat) (b : Bool),mapV f0 (MV.bool b) = mapRef f0 (MV.bool b) from fun _ _=>rfl) (And.intro (show ∀ (f0 : Nat→Nat) (s : List UInt8),mapV f0 (MV.str s) = mapRef f0 (MV.str s) from fun _ _=>rfl) (And.intro (show ∀ (f0 : Nat→Nat),mapV f0 MV.nilsl = mapRef f0 MV.nilsl from fun _=>rfl) (And.intro (show ∀ (f0 : Nat→Nat) (l : List UInt8),mapV f0 (MV.bs l) = mapRef f0 (MV.bs l) from fun _ _=>rfl) (And.intro (show ∀ (f0 : Nat→Nat) (s : Nat) (l : List MV),mapV f0 (MV.sl s l) = mapRef f0 (MV.sl s l) from fun _ _ _=>rfl) (And.intro (show ∀ (f0 : Nat→Nat) (s : Nat) (l : List MV),mapV f0 (MV.fsl s l) = mapRef f0 (MV.fsl s l) from fun _ _ _=>rfl) (And.intro (show ∀ (f0 : Nat→Nat) (l : List MV),mapV f0 (MV.agg l) = mapRef f0 (MV.agg l) from fun _ _=>rfl) (And.intro (show ∀ (f0 : Nat→Nat) (l : List MV),mapV f0 (MV.tup l) = mapRef f0 (MV.tup l) from fun _ _=>rfl) (And.intro (show ∀ (f0 : Nat→Nat),mapV f0 MV.nilptr = mapRef f0 MV.nilptr from fun _=>rfl) (And.intro (show ∀ (f0 : Nat→Nat),mapV f0 MV.nilfn = mapRef f0 MV.nilfn from fun _=>rfl) (And.intro (show ∀ (f0 : Nat→Nat),mapV f0 MV.nilif = mapRef f0 MV.nilif from fun _=>rfl) (And.intro (show ∀ (f0 : Nat→Nat) (t : TypeId) (v : MV),mapV f0 (MV.iface t v) = mapRef f0 (MV.iface t v) from fun _ _ _=>rfl) (And.intro (show ∀ (f0 : Nat→Nat) (o n : Nat),mapV f0 (MV.own o n) = mapRef f0 (MV.own o n) from fun _ _ _=>rfl) (And.intro (show ∀ (f0 : Nat→Nat) (o j : Nat),mapV f0 (MV.ptr o j) = mapRef f0 (MV.ptr o j) from fun _ _ _=>rfl) (And.intro (show ∀ (f0 : Nat→Nat) (o i j n : Nat),mapV f0 (MV.eptr o i j n) = mapRef f0 (MV.eptr o i j n) from fun _ _ _ _ _=>rfl) (And.intro (show ∀ (f0 : Nat→Nat) (l : List MV),mapV f0 (MV.cptr l) = mapRef f0 (MV.cptr l) from fun _ _=>rfl) (And.intro (show ∀ (f0 : Nat→Nat) (l : List UInt8),mapV f0 (MV.fby l) = mapRef f0 (MV.fby l) from fun _ _=>rfl) (And.intro (show ∀ (f0 : Nat→Nat) (s : Nat) (l : List MV),mapV f0 (MV.fel s l) = mapRef f0 (MV.fel s l) from fun _ _ _=>rfl) (And.intro (show ∀ (f0 : Nat→Nat),mapV f0 MV.undef = mapRef f0 MV.undef from fun _=>rfl) (And.intro (show ∀ (f0 : Nat→Nat) (k : IntKind) (n : Int),mapR f0 (MV.int k n) = mapV f0 (MV.int k n) from fun _ _ _=>rfl) (And.intro (show ∀ (f0 : Nat→Nat) (b : Bool),mapR f0 (MV.bool b) = mapV f0 (MV.bool b) from fun _ _=>rfl) (And.intro (show ∀ (f0 : Nat→Nat) (s : List UInt8),mapR f0 (MV.str s) = mapV f0 (MV.str s) from fun _ _=>rfl) (And.intro (show ∀ (f0 : Nat→Nat),mapR f0 MV.nilsl = mapV f0 MV.nilsl from fun _=>rfl) (And.intro (show ∀ (f0 : Nat→Nat) (l : List UInt8),mapR f0 (MV.bs l) = mapV f0 (MV.bs l) from fun _ _=>rfl) ((show ∀ (f0 : Nat→Nat) (s : Nat) (l : List MV),mapR f0 (MV.sl s l) = mapV f0 (MV.sl s l) from fun _ _ _=>rfl)))))))))))))))))))))))))))))))))))))))))
def bA21 := Bu.mk (And.intro (show ∀ (f0 : Nat→Nat) (s : Nat) (l : List MV),mapR f0 (MV.fsl s l) = mapV f0 (MV.fsl s l) from fun _ _ _=>rfl) (And.intro (show ∀ (f0 : Nat→Nat) (l : List MV),mapR f0 (MV.agg l) = mapV f0 (MV.agg l) from fun _ _=>rfl) (And.intro (show ∀ (f0 : Nat→Nat),mapR f0 MV.nilptr = mapV f0 MV.nilptr from fun _=>rfl) (And.intro (show ∀ (f0 : Nat→Nat),mapR f0 MV.nilfn = mapV f0 MV.nilfn from fun _=>rfl) (And.intro (show ∀ (f0 : Nat→Nat),mapR f0 MV.nilif = mapV f0 MV.nilif from fun _=>rfl) (And.intro (show ∀ (f0 : Nat→Nat) (t : TypeId) (v : MV),mapR f0 (MV.iface t v) = mapV f0 (MV.iface t v) from fun _ _ _=>rfl) (And.intro (show ∀ (f0 : Nat→Nat) (f : FuncId) (caps : List MV),mapR f0 (MV.fn f caps) = mapV f0 (MV.fn f caps) from fun _ _ _=>rfl) (And.intro (show ∀ (f0 : Nat→Nat) (o n : Nat),mapR f0 (MV.own o n) = mapV f0 (MV.own o n) from fun _ _ _=>rfl) (And.intro (show ∀ (f0 : Nat→Nat) (o j : Nat),mapR f0 (MV.ptr o j) = mapV f0 (MV.ptr o j) from fun _ _ _=>rfl) (And.intro (show ∀ (f0 : Nat→Nat) (o i j n : Nat),mapR f0 (MV.eptr o i j n) = mapV f0 (MV.eptr o i j n) from fun _ _ _ _ _=>rfl) (And.intro (show ∀ (f0 : Nat→Nat) (l : List MV),mapR f0 (MV.cptr l) = mapV f0 (MV.cptr l) from fun _ _=>rfl) (And.intro (show ∀ (f0 : Nat→Nat) (l : List UInt8),mapR f0 (MV.fby l) = mapV f0 (MV.fby l) from fun _ _=>rfl) (And.intro (show ∀ (f0 : Nat→Nat) (s : Nat) (l : List MV),mapR f0 (MV.fel s l) = mapV f0 (MV.fel s l) from fun _ _ _=>rfl) (And.intro (show ∀ (f0 : Nat→Nat),mapR f0 MV.undef = mapV f0 MV.undef from fun _=>rfl) (And.intro (show ∀ (f0 : Nat→Nat) (l : List UInt8) (b : Bool),mapObj f0 (.byt l b) = .byt l b from fun _ _ _=>rfl) (And.intro (show ∀ (f0 : Nat→Nat) (s : Nat) (l : List MV) (b : Bool),mapObj f0 (.el s l b) = .el s l b from fun _ _ _ _=>rfl) (And.intro (show ∀ (f0 : Nat→Nat) (s : List UInt8) (p : Nat),mapObj f0 (.iter s p) = .iter s p from fun _ _ _=>rfl) (And.intro (show ∀ (k : IntKind) (n : Int),convP .byt (MV.int k n) = (MV.int k n) from fun _ _=>rfl) (And.intro (show ∀ (b : Bool),convP .byt (MV.bool b) = (MV.bool b) from fun _=>rfl) (And.intro (show ∀ (s : List UInt8),convP .byt (MV.str s) = (MV.str s) from fun _=>rfl) (And.intro (show ∀ (l : List UInt8),convP .byt (MV.bs l) = (MV.bs l) from fun _=>rfl) (And.intro (show ∀ (s : Nat) (l : List MV),convP .byt (MV.sl s l) = (MV.sl s l) from fun _ _=>rfl) (And.intro (show ∀ (s : Nat) (l : List MV),convP .byt (MV.fsl s l) = (MV.fsl s l) from fun _ _=>rfl) (And.intro (show ∀ (l : List MV),convP .byt (MV.agg l) = (MV.agg l) from fun _=>rfl) (And.intro (show ∀ (l : List MV),convP .byt (MV.tup l) = (MV.tup l) from fun _=>rfl) (And.intro (show convP .byt MV.nilptr = MV.nilptr from rfl) (And.intro (show convP .byt MV.nilfn = MV.nilfn from rfl) (And.intro (show convP .byt MV.nilif = MV.nilif from rfl) (And.intro (show ∀ (t : TypeId) (v : MV),convP .byt (MV.iface t v) = (MV.iface t v) from fun _ _=>rfl) (And.intro (show ∀ (f : FuncId) (caps : List MV),convP .byt (MV.fn f caps) = (MV.fn f caps) from fun _ _=>rfl) (And.intro (show ∀ (o n : Nat),convP .byt (MV.own o n) = (MV.own o n) from fun _ _=>rfl) (And.intro (show ∀ (o j : Nat),convP .byt (MV.ptr o j) = (MV.ptr o j) from fun _ _=>rfl) (And.intro (show ∀ (o i j n : Nat),convP .byt (MV.eptr o i j n) = (MV.eptr o i j n) from fun _ _ _ _=>rfl) (And.intro (show ∀ (l : List MV),convP .byt (MV.cptr l) = (MV.cptr l) from fun _=>rfl) (And.intro (show ∀ (l : List UInt8),convP .byt (MV.fby l) = (MV.fby l) from fun _=>rfl) (And.intro (show ∀ (s : Nat) (l : List MV),convP .byt (MV.fel s l) = (MV.fel s l) from fun _ _=>rfl) (And.intro (show convP .byt MV.undef = MV.undef from rfl) (And.intro (show ∀ (s0 : Nat) (k : IntKind) (n : Int),convP (.el s0) (MV.int k n) = (MV.int k n) from fun _ _ _=>rfl) (And.intro (show ∀ (s0 : Nat) (b : Bool),convP (.el s0) (MV.bool b) = (MV.bool b) from fun _ _=>rfl) ((show ∀ (s0 : Nat) (s : List UInt8),convP (.el s0) (MV.str s) = (MV.str s) from fun _ _=>rfl)))))))))))))))))))))))))))))))))))))))))
def bA22 := Bu.mk (And.intro (show ∀ (s0 : Nat) (l : List UInt8),convP (.el s0) (MV.bs l) = (MV.bs l) from fun _ _=>rfl) (And.intro (show ∀ (s0 : Nat) (s : Nat) (l : List MV),convP (.el s0) (MV.sl s l) = (MV.sl s l) from fun _ _ _=>rfl) (And.intro (show ∀ (s0 : Nat) (s : Nat) (l : List MV),convP (.el s0) (MV.fsl s l) = (MV.fsl s l) from fun _ _ _=>rfl) (And.intro (show ∀ (s0 : Nat) (l : List MV),convP (.el s0) (MV.agg l) = (MV.agg l) from fun _ _=>rfl) (And.intro (show ∀ (s0 : Nat) (l : List MV),convP (.el s0) (MV.tup l) = (MV.tup l) from fun _ _=>rfl) (And.intro (show ∀ (s0 : Nat),convP (.el s0) MV.nilptr = MV.nilptr from fun _=>rfl) (And.intro (show ∀ (s0 : Nat),convP (.el s0) MV.nilfn = MV.nilfn from fun _=>rfl) (And.intro (show ∀ (s0 : Nat),convP (.el s0) MV.nilif = MV.nilif from fun _=>rfl) (And.intro (show ∀ (s0 : Nat) (t : TypeId) (v : MV),convP (.el s0) (MV.iface t v) = (MV.iface t v) from fun _ _ _=>rfl) (And.intro (show ∀ (s0 : Nat) (f : FuncId) (caps : List MV),convP (.el s0) (MV.fn f caps) = (MV.fn f caps) from fun _ _ _=>rfl) (And.intro (show ∀ (s0 : Nat) (o n : Nat),convP (.el s0) (MV.own o n) = (MV.own o n) from fun _ _ _=>rfl) (And.intro (show ∀ (s0 : Nat) (o j : Nat),convP (.el s0) (MV.ptr o j) = (MV.ptr o j) from fun _ _ _=>rfl) (And.intro (show ∀ (s0 : Nat) (o i j n : Nat),convP (.el s0) (MV.eptr o i j n) = (MV.eptr o i j n) from fun _ _ _ _ _=>rfl) (And.intro (show ∀ (s0 : Nat) (l : List MV),convP (.el s0) (MV.cptr l) = (MV.cptr l) from fun _ _=>rfl) (And.intro (show ∀ (s0 : Nat) (l : List UInt8),convP (.el s0) (MV.fby l) = (MV.fby l) from fun _ _=>rfl) (And.intro (show ∀ (s0 : Nat) (s : Nat) (l : List MV),convP (.el s0) (MV.fel s l) = (MV.fel s l) from fun _ _ _=>rfl) (And.intro (show ∀ (s0 : Nat),convP (.el s0) MV.undef = MV.undef from fun _=>rfl) (And.intro (show ∀ (s0 : Nat) (k : IntKind) (n : Int),convP (.full s0) (MV.int k n) = (MV.int k n) from fun _ _ _=>rfl) (And.intro (show ∀ (s0 : Nat) (b : Bool),convP (.full s0) (MV.bool b) = (MV.bool b) from fun _ _=>rfl) (And.intro (show ∀ (s0 : Nat) (s : List UInt8),convP (.full s0) (MV.str s) = (MV.str s) from fun _ _=>rfl) (And.intro (show ∀ (s0 : Nat) (l : List UInt8),convP (.full s0) (MV.bs l) = (MV.bs l) from fun _ _=>rfl) (And.intro (show ∀ (s0 : Nat) (s : Nat) (l : List MV),convP (.full s0) (MV.sl s l) = (MV.sl s l) from fun _ _ _=>rfl) (And.intro (show ∀ (s0 : Nat) (s : Nat) (l : List MV),convP (.full s0) (MV.fsl s l) = (MV.fsl s l) from fun _ _ _=>rfl) (And.intro (show ∀ (s0 : Nat) (l : List MV),convP (.full s0) (MV.agg l) = (MV.agg l) from fun _ _=>rfl) (And.intro (show ∀ (s0 : Nat) (l : List MV),convP (.full s0) (MV.tup l) = (MV.tup l) from fun _ _=>rfl) (And.intro (show ∀ (s0 : Nat),convP (.full s0) MV.nilptr = MV.nilptr from fun _=>rfl) (And.intro (show ∀ (s0 : Nat),convP (.full s0) MV.nilfn = MV.nilfn from fun _=>rfl) (And.intro (show ∀ (s0 : Nat),convP (.full s0) MV.nilif = MV.nilif from fun _=>rfl) (And.intro (show ∀ (s0 : Nat) (t : TypeId) (v : MV),convP (.full s0) (MV.iface t v) = (MV.iface t v) from fun _ _ _=>rfl) (And.intro (show ∀ (s0 : Nat) (f : FuncId) (caps : List MV),convP (.full s0) (MV.fn f caps) = (MV.fn f caps) from fun _ _ _=>rfl) (And.intro (show ∀ (s0 : Nat) (o n : Nat),convP (.full s0) (MV.own o n) = (MV.own o n) from fun _ _ _=>rfl) (And.intro (show ∀ (s0 : Nat) (o j : Nat),convP (.full s0) (MV.ptr o j) = (MV.ptr o j) from fun _ _ _=>rfl) (And.intro (show ∀ (s0 : Nat) (o i j n : Nat),convP (.full s0) (MV.eptr o i j n) = (MV.eptr o i j n) from fun _ _ _ _ _=>rfl) (And.intro (show ∀ (s0 : Nat) (l : List MV),convP (.full s0) (MV.cptr l) = (MV.cptr l) from fun _ _=>rfl) (And.intro (show ∀ (s0 : Nat) (l : List UInt8),convP (.full s0) (MV.fby l) = (MV.fby l) from fun _ _=>rfl) (And.intro (show ∀ (s0 : Nat) (s : Nat) (l : List MV),convP (.full s0) (MV.fel s l) = (MV.fel s l) from fun _ _ _=>rfl) (And.intro (show ∀ (s0 : Nat),convP (.full s0) MV.undef = MV.undef from fun _=>rfl) (And.intro (show ∀ (v : MV),convP .other v = v from fun _=>rfl) (And.intro (show ∀ (v : MV),convP .ref v = v from fun _=>rfl) ((show convP .byt .nilsl = .bs [] from rfl)))))))))))))))))))))))))))))))))))))))))
def bA23 := Bu.mk (And.intro (show ∀ (s : Nat),convP (.full s) .nilsl = .fsl s [] from fun _=>rfl) (And.intro (show ∀ (s : Nat),convP (.el s) .nilsl = .sl s [] from fun _=>rfl) (And.intro (show ∀ (i : Nat) (p : PK) (ps : List PK) (v : MV) (vs : List MV) (V : List (Nat × MV)),enterV i (p :: ps) (v :: vs) V = enterV (i + 1) ps vs (put V i (convP p v)) from fun _ _ _ _ _ _=>rfl) (And.intro (show ∀ (i : Nat) (v : MV) (vs : List MV) (V : List (Nat × MV)),enterV i [] (v :: vs) V = enterV (i + 1) [] vs (put V i v) from fun _ _ _ _=>rfl) (And.intro (show ∀ (i : Nat) (V : List (Nat × MV)),enterV i [] [] V = some V from fun _ _=>rfl) (And.intro (show List.range 0 = [] from rfl) (And.intro (show List.range 1 = [0] from rfl) (And.intro (show List.range 2 = [0,1] from rfl) (And.intro (show List.range 3 = [0,1,2] from rfl) (And.intro (show List.range 4 = [0,1,2,3] from rfl) (And.intro (show List.range 5 = [0,1,2,3,4] from rfl) (And.intro (show List.range 6 = [0,1,2,3,4,5] from rfl) ((show ∀ (v : List MV) (st : DS),shared v st = reach st.O 5 (nub [] (v.flatMap MV.names)) from fun _ _=>rfl))))))))))))))
def bA := Bu.mk (And.intro bA0.u (And.intro bA1.u (And.intro bA2.u (And.intro bA3.u (And.intro bA4.u (And.intro bA5.u (And.intro bA6.u (And.intro bA7.u (And.intro bA8.u (And.intro bA9.u (And.intro bA10.u (And.intro bA11.u (And.intro bA12.u (And.intro bA13.u (And.intro bA14.u (And.intro bA15.u (And.intro bA16.u (And.intro bA17.u (And.intro bA18.u (And.intro bA19.u (And.intro bA20.u (And.intro bA21.u (And.intro bA22.u (bA23.u))))))))))))))))))))))))
def bI := Bu.mk (And.intro @beq_iff_eq.{0} (And.intro @beq_eq_false_iff_ne.{0} (And.intro @ne_eq.{1} (And.intro @beqt (And.intro @beqf (And.intro @decide_eq_true_eq (And.intro @decide_eq_false_iff_not (And.intro @Bool.not_eq_true' (And.intro @Bool.not_eq_false' (And.intro @Bool.not_not (And.intro @Bool.not_eq_true (And.intro @Bool.and_eq_true (@Bool.or_eq_true)))))))))))))
end Go.Mini

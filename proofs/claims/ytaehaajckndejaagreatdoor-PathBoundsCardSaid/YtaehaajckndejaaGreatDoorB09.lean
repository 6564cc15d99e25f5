/- no chain of more than six, no pool of more than thirty-two: the law by that interpreter (part 9): what the program's functions answer, or plain laws of it; no conditions. -/
import Derived.Test.YtaehaajckndejaaGreatDoorB07
import Derived.Test.YtaehaajckndejaaGreatDoorRows
import Derived.ProofKit
import Derived.OpenShut
import Derived.LaidMore
import Derived.Lay
import Derived.SevenTiedAt
import Derived.Stop.Joined
import Derived.HandedShaped
import Derived.Lib.LaidU8T
set_option linter.all false
namespace Go.Proofs.YtaehaajckndejaaGreatDoor
open Go.ChangeShapes Go.WideShapes Go.ChangeAt Go.RowKit Go.Mini
theorem own : ownKnob Tryz.prog.godebug = none := by kernel_rfl
theorem laidOut : laidOutB Tryz.prog = true := by kernel_rfl
theorem some_ne {α : Type} {o : Option α} (h : o.isSome = true) : o ≠ none := by
 intro e; rw [e] at h; cases h
theorem name_ne {a b : String} (h : (a == b) = false) : a ≠ b := by simpa using h
section
variable {H : Type} {enc : TypeId × Value→H}
theorem handed_shaped {a : Assume} {C : Checked} {os : Os} {f : FuncId} {fn : Func} {s : ChangeSpec} {conds : List PathCond} {apart fresh handsOn again : Bool} {X : World→Array Value→Prop}
  (hX : ∀ (w w' : World) (args : Array Value),w.heap = w'.heap→X w args→X w' args)
  (own : ownKnob C.prog.godebug = none) (started : os.Started) (noInit : C.prog.inits.idxOf? f = none) (hfn : C.prog.funcs[f]? = some fn)
  (witness : ∃ (w : World) (tape : Tape) (i : Input),w.os = os ∧ (w.forCall tape i).Shaped C.prog ∧ i.vars = [] ∧ Input.okWide C.prog (w.forCall tape i) .any w.heap.size f i ∧
   ((s.pre enc C.prog fn conds apart (w.forCall tape i).memory i.args ∧ X (w.forCall tape i).memory i.args) ∧ sizedMet enc C.prog fn (OpenSpec.ofChange s) apart (w.forCall tape i).memory i.args) ∧ a.holds C.prog (lone (Frame.enter C.prog f i.args .normal) [] (w.forCall tape i)))
  (contract : ∀ (W : World) (base : Nat) (args : Array Value) (ds gs : List (DataW H)) (before : List MemPlace),
   (∀ (j : Nat) t v,fn.params[j]? = some t→args[j]? = some v→Value.okWide C.prog W .any base t v) →
   DataW.Whole enc C.prog fn.params.toList s.vars apart W args.toList ds gs before →
   conds.all (PathCond.test C.prog ⟨fn.params.toList,ds,s.plain.varTypes C.prog,gs⟩) = true →
   (DataW.weightsEach C.prog (fn.params.toList ++ s.plain.varTypes C.prog) (ds ++ gs)).all (· ≤ reachBytes) = true→X W args→W.ShapedOpen C.prog →
   a.holds C.prog (lone (Frame.enter C.prog f args .normal) [] W) →
   Calls C.prog f args W fun e W'=>∃ v,e = .returned v ∧ s.post enc C.prog fn apart fresh handsOn again W args v W') :
  ReturnsInHanded a C os f .any (fun w args=>(s.pre enc C.prog fn conds apart w args ∧ X w args) ∧ sizedMet enc C.prog fn (OpenSpec.ofChange s) apart w args) (s.post enc C.prog fn apart fresh handsOn again) := by
 refine returnsInHanded_of_calls own started noInit witness ?_
 intro w tape i _ hsh _ hok hpre hholds
 obtain ⟨_,_,_,fn',hfn',_,_,_,_,hval⟩ := hok
 have e : fn' = fn := Option.some.inj (hfn'.symm.trans hfn)
 subst e
 obtain ⟨⟨⟨ds,gs,before,hw,hc⟩,hx⟩,hz⟩ := hpre
 have hw' := DataW.Whole.of_heap (w' := w.forCall tape i) (by rfl) hw
 refine (contract (w.forCall tape i) w.heap.size i.args ds gs before hval hw' hc (hz.weights hw) (hX _ _ _ (by rfl) hx) hsh hholds).mono fun e W' ⟨v,he,hp⟩=>?_
 subst he
 exact ChangeSpec.post_blind hp
end
def laid7 : List (String × DataW Unit) := [("math/bits.deBruijn32tab",Rows.laid_math_bits_deBruijn32tab),("math/bits.deBruijn64tab",Rows.laid_math_bits_deBruijn64tab),("chancery/shake.numbers",Rows.laid_chancery_shake_numbers),("internal/strconv.uint64pow10",Rows.laid_internal_strconv_uint64pow10),("unicode/utf8.acceptRanges",Rows.laid_unicode_utf8_acceptRanges),("strconv.ErrRange",Rows.laid_strconv_ErrRange),("strconv.ErrSyntax",Rows.laid_strconv_ErrSyntax),("chancery/sha.k",Rows.laid_chancery_sha_k),("unicode/utf8.first",Rows.laid_unicode_utf8_first)]
theorem pow_eq : (Rows.laid_internal_strconv_uint64pow10 : DataW Unit) = Lib.tabData .u64 Lib.pow10Tab := by kernel_rfl
theorem acc_eq : (Rows.laid_unicode_utf8_acceptRanges : DataW Unit) = Lib.acceptData := by kernel_rfl
theorem tab_of {name : String} {k : IntKind} {zs : List Int} {W : World} {g : Nat} {t e : TypeId} {n : Nat}
  (hg : Tryz.prog.globalNamed name = some g) (hty : (Tryz.prog.globals[g]?).map (·.type) = some t) (ht : Tryz.prog.underlying t = some (.array n e)) (he : Tryz.prog.underlying e = some (.int k)) (hce : Tryz.prog.cellsOf e = 1) (hct : Tryz.prog.cellsOf t = n)
  (h : Lib.VarReads Tryz.prog W name (Lib.tabData k zs)) : Lib.TabIs Tryz.prog W name k zs := by
 obtain ⟨g',t',cs,fuel,p,hg',ht',hvar,hd⟩ := h
 obtain rfl := Option.some.inj (hg.symm.trans hg')
 obtain rfl := Option.some.inj (hty.symm.trans ht')
 unfold Lib.TabIs
 rw [hvar,← Lib.cells_of_tab ht he hce hct hd]
theorem err_of {name nm : String} {W : World} {g : Nat} {t : TypeId} {ms : Array (String × TypeId)} {d : DataW Unit}
  (hg : Tryz.prog.globalNamed name = some g) (hty : (Tryz.prog.globals[g]?).map (·.type) = some t) (ht : Tryz.prog.underlying t = some (.interface ms)) (hc : Tryz.prog.cellsOf t = 1)
  (h : Lib.VarReads Tryz.prog W name (.iface nm d)) : ∃ ev,W.cell? ⟨g,0,none⟩ = some ev ∧ (ev = .nilIface ∨ ∃ te pe,ev = .iface te pe) := by
 obtain ⟨g',t',cs,fuel,p,hg',ht',hvar,hd⟩ := h
 obtain rfl := Option.some.inj (hg.symm.trans hg')
 obtain rfl := Option.some.inj (hty.symm.trans ht')
 obtain ⟨_,u,v,hcs,_,_⟩ := iface_of_trod ht hd
 refine ⟨.iface u v,?_,.inr ⟨u,v,rfl⟩⟩
 have := World.var?_cell hg hvar 0
 rw [this,← Array.getElem?_toList,hcs]
 rfl
theorem cell_size {W : World} {b i : Nat} {v : Value} (h : W.cell? ⟨b,i,none⟩ = some v) : i + 1 ≤ (wholeEnv W).C b := by
 unfold World.cell? at h
 simp only at h
 show i + 1 ≤ (match W.heap[b]? with | some (.cells c _ _)=>c.size | _=>0)
 split at h
 ·rename_i c e fr hh
  rw [hh]
  exact (Array.getElem?_eq_some_iff.1 h).1
 ·cases h
theorem ground_of (L : List (String × DataW Unit)) (e : L = laid7) {W : World} (h : laidMetH Tryz.prog L W) (hsh : W.ShapedOpen Tryz.prog) : Gd.G (wholeEnv W) := by
 subst e
 rw [MakeChecks.laidMetH_plain _ _ _ (by kernel_rfl)] at h
 obtain ⟨ps,hps,_⟩ := h
 have rd : ∀ n d,(n,d) ∈ laid7→Lib.VarReads Tryz.prog W n d := Lib.LaidVars_reads hps
 have r1 := rd "internal/strconv.uint64pow10" Rows.laid_internal_strconv_uint64pow10 (by simp [laid7])
 have r2 := rd "unicode/utf8.acceptRanges" Rows.laid_unicode_utf8_acceptRanges (by simp [laid7])
 have r3 := rd "unicode/utf8.first" Rows.laid_unicode_utf8_first (by simp [laid7])
 have r4 := rd "strconv.ErrSyntax" Rows.laid_strconv_ErrSyntax (by simp [laid7])
 have r5 := rd "strconv.ErrRange" Rows.laid_strconv_ErrRange (by simp [laid7])
 rw [pow_eq] at r1
 rw [acc_eq] at r2
 rw [show (Rows.laid_unicode_utf8_first : DataW Unit) = Lib.firstData from by kernel_rfl] at r3
 have utf : Lib.Utf8Tabs 1 2 W := utf8Tabs_of_readsT (ρ := Tryz.laysValid_ren) (.of196 Tryz.laysValid) ⟨by kernel_rfl,by kernel_rfl,by kernel_rfl,by kernel_rfl,by kernel_rfl,by kernel_rfl,by kernel_rfl⟩ r3 r2
 refine ⟨{ len := cell_of_shapedOpen_int (zero := #[.int .i64 0]) (t := 3) hsh (of_decide_eq_true (by kernel_rfl)) (by kernel_rfl) rfl (by kernel_rfl) (by kernel_rfl) Tryz.underlying3
           pow := tab_of gPow (t := 317) (e := 256) (n := 20) (by kernel_rfl) (by kernel_rfl) (by kernel_rfl) (by kernel_rfl) (by kernel_rfl) r1
           bad := err_of (g := 4) (by kernel_rfl) (t := 196) (by kernel_rfl) Tryz.underlying196 (by kernel_rfl) r4
           far := err_of (g := 5) (by kernel_rfl) (t := 196) (by kernel_rfl) Tryz.underlying196 (by kernel_rfl) r5
           utf := utf },cell_size (utf.1 255 (by decide)),cell_size (utf.2 15 (by decide)).2⟩
theorem list_2 {X : Type} {l : List X} (h : l.length = 2) : ∃ a b,l = [a,b] := by
 match l,h with
 | [a,b],_=>exact ⟨a,b,rfl⟩
theorem int_arg {k : IntKind} {m : MV} (h : HasE false [.int k] m) : ∃ n,k.min ≤ n ∧ n ≤ k.max ∧ m = .int k n := by
 cases h with
 | one h=>cases h with
  | int a b=>exact ⟨_,a,b,rfl⟩
end Go.Proofs.YtaehaajckndejaaGreatDoor

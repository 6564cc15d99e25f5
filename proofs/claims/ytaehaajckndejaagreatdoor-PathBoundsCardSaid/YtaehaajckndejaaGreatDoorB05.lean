/- no chain of more than six, no pool of more than thirty-two: the law by that interpreter (part 5): what the program's functions answer, or plain laws of it; no conditions. -/
import Derived.RangeFuncBox
import Derived.RangeFuncLeaves
import Derived.RangeFuncNested
import Derived.Shelf.Abstract
import Derived.WalkKit
import Derived.OwnWalkIn
import Derived.TacticsInMore
import Derived.LoopNIn
import Derived.LoopIn
import Derived.Test.YtaehaajckndejaaGreatDoorProg
set_option linter.all false
namespace Go.Proofs
open Go.RowKit Go.Shelf
attribute [local go_sem] Oper.semAt_some
set_option maxHeartbeats 4000000
set_option maxRecDepth 100000
theorem Tryz.back_in (F : Fence) (n : Nat) (h15 : F.fn 15) (hro : F.round = none) (a : Option Addr) (len cap : Nat) (w : World) :
  CallsIn F n Tryz.prog 15 #[.slice a len cap] w fun e w'=>e = .returned (.func (.func 28) #[] #[.pointer (some ⟨w.heap.size,0,none⟩)]) ∧ w' = w.alloc (.cells #[.slice a len cap] 23) := by
 refine callsIn_of_wp Tryz.func15 rfl h15 ?_ hro
 simp only [Tryz.ntmps15,List.size_toArray,List.length_cons,List.length_nil,Nat.reduceAdd,Nat.reduceSub,Array.replicate_succ,Array.replicate_zero,List.push_toArray,List.append_toArray,List.nil_append,List.cons_append]
 gi_wp2
 go_ret
 exact ⟨rfl,rfl⟩
def Tryz.zv : Array Value := #[Value.int .i64 0,Value.int .i64 0,Value.slice none 0 0,Value.slice none 0 0,Value.int .i64 0,Value.int .i64 0,Value.int .i64 0,Value.slice none 0 0,Value.bool false,Value.int .i64 0,Value.int .i64 0,Value.slice none 0 0,Value.slice none 0 0,Value.slice none 0 0,Value.slice none 0 0]
def Tryz.Noughts (W : World) (b off len : Nat) : Prop := ∀ k,k < len→∀ (j : Nat) (v : Value),Tryz.zv[j]? = some v→W.cell? ⟨b,off + k * 15 + j,none⟩ = some v
theorem Tryz.back1_in (F : Fence) (n : Nat) (h28 : F.fn 28) (hro : F.round = none) (hn : 1 ≤ n) (l Bs n₀ b off len cap : Nat) (hreach : len ≤ 6) (hb : b < n₀) (J Jx : List Nat→World→Prop)
  (hY : ∀ pre (x : Nat) W,J pre W→pre.length < len→YieldAt F (n - 1) Tryz.prog l #[.int .i64 (x : Int),.agg Tryz.zv] W fun e W' =>
   (e = .returned (.bool true) ∧ J (pre ++ [x]) W' ∧ Below n₀ W W') ∨ (e = .returned (.bool false) ∧ Jx (pre ++ [x]) W'))
  (W : World) (hBs : W.cell? ⟨Bs,0,none⟩ = some (.slice (some ⟨b,off,none⟩) len cap)) (hc : Tryz.Noughts W b off len) (hBn : Bs < n₀) (h0 : J [] W) :
  CallsIn F n Tryz.prog 28 #[.func (.yield l) #[] #[],.pointer (some ⟨Bs,0,none⟩)] W fun e W'=>(∃ v,e = .returned v) ∧ ((∃ xs,xs.length = len ∧ J xs W') ∨ (∃ pre,True ∧ Jx pre W')) := by
 refine callsIn_of_wp Tryz.func28 rfl h28 ?_ hro
 simp only [Tryz.ntmps28,List.size_toArray,List.length_cons,List.length_nil,Nat.reduceAdd,Nat.reduceSub,Array.replicate_succ,Array.replicate_zero,List.push_toArray,List.append_toArray,List.nil_append,List.cons_append]
 gi_wp2
 gi_loopw [3] (fun i wr=>∃ m pre,m ≤ len ∧ i = .int .i64 ((m : Int) - 1) ∧ pre.length + m = len ∧ J pre wr ∧ Below n₀ W wr) (fun i _=>(intOf i + 1).toNat)
 case atStart=>exact ⟨len,[],Nat.le_refl _,rfl,by simp,h0,Below.refl _ _⟩
 case round =>
  obtain ⟨m,pre,hm,rfl,hp,hJs,hnx⟩ := hrel
  have hBs' : wr.cell? ⟨Bs,0,none⟩ = some (.slice (some ⟨b,off,none⟩) len cap) := (hnx.cell (p := ⟨Bs,0,none⟩) hBn).trans hBs
  rcases m with _ | k
  ·gi_wp2
   go_end0
   exact ⟨⟨_,rfl⟩,.inl ⟨_,by omega,hJs⟩⟩
  ·have hcx : ∀ (j : Nat) (v : Value),Tryz.zv[j]? = some v→wr.cell? ⟨b,off + k * 15 + j,none⟩ = some v := fun j v h=>(hnx.cell (p := ⟨b,_,none⟩) hb).trans (hc k (by omega) j v h)
   have z0 : wr.cell? ⟨b,off + k * 15,none⟩ = some (Value.int .i64 0) := hcx 0 _ rfl
   have z1 : wr.cell? ⟨b,off + k * 15 + 1,none⟩ = some (Value.int .i64 0) := hcx 1 _ rfl
   have z2 : wr.cell? ⟨b,off + k * 15 + 2,none⟩ = some (Value.slice none 0 0) := hcx 2 _ rfl
   have z3 : wr.cell? ⟨b,off + k * 15 + 3,none⟩ = some (Value.slice none 0 0) := hcx 3 _ rfl
   have z4 : wr.cell? ⟨b,off + k * 15 + 4,none⟩ = some (Value.int .i64 0) := hcx 4 _ rfl
   have z5 : wr.cell? ⟨b,off + k * 15 + 5,none⟩ = some (Value.int .i64 0) := hcx 5 _ rfl
   have z6 : wr.cell? ⟨b,off + k * 15 + 6,none⟩ = some (Value.int .i64 0) := hcx 6 _ rfl
   have z7 : wr.cell? ⟨b,off + k * 15 + 7,none⟩ = some (Value.slice none 0 0) := hcx 7 _ rfl
   have z8 : wr.cell? ⟨b,off + k * 15 + 8,none⟩ = some (Value.bool false) := hcx 8 _ rfl
   have z9 : wr.cell? ⟨b,off + k * 15 + 9,none⟩ = some (Value.int .i64 0) := hcx 9 _ rfl
   have z10 : wr.cell? ⟨b,off + k * 15 + 10,none⟩ = some (Value.int .i64 0) := hcx 10 _ rfl
   have z11 : wr.cell? ⟨b,off + k * 15 + 11,none⟩ = some (Value.slice none 0 0) := hcx 11 _ rfl
   have z12 : wr.cell? ⟨b,off + k * 15 + 12,none⟩ = some (Value.slice none 0 0) := hcx 12 _ rfl
   have z13 : wr.cell? ⟨b,off + k * 15 + 13,none⟩ = some (Value.slice none 0 0) := hcx 13 _ rfl
   have z14 : wr.cell? ⟨b,off + k * 15 + 14,none⟩ = some (Value.slice none 0 0) := hcx 14 _ rfl
   clear hcx
   have ek : (((k + 1 : Nat) : Int) - 1) = (k : Int) := by omega
   rw [ek]
   obtain ⟨fn,tmps,assign,body,hy,hR⟩ := hY pre k wr hJs (by omega)
   unfold Tryz.zv at hy
   gi_wp2
   refine hR.mono ?_
   rintro e W3 (⟨rfl,hJ3,hk3⟩ | ⟨rfl,hJx3⟩)
   ·gi_wp2
    go_roundw
    case rel=>exact ⟨k,_,by omega,by simp,by simp; omega,hJ3,hnx.trans hk3⟩
    case measure=>simp [intOf] <;> omega
   ·gi_wp2
    refine bodyPost_ret (results_none rfl _ _ _) rfl ?_
    exact ⟨⟨_,rfl⟩,.inr ⟨_,trivial,hJx3⟩⟩
theorem Tryz.validate_in (F : Fence) (n : Nat) (h6 : F.fn 6) (h15 : F.fn 15) (h28 : F.fn 28) (h16 : F.fn 16) (hro : F.round = none) (hn : 10 ≤ n) (b off len cap : Nat) (h0 : 1 ≤ len) (hlen : len ≤ 6) (ra : Option Addr) (rl rc : Nat) (r : Int) (hr : r ≠ 0) (w : World) (hb : b < w.heap.size) (hz : Tryz.Noughts w b off len)
  (hI : ∀ W,Below w.heap.size w W→CallsIn F (n - 1 - 1 - 1) Tryz.prog 16 #[.agg Tryz.zv,.slice ra rl rc,.int .i64 46] W fun e W'=>e = .returned (.int .i64 r) ∧ Below W.heap.size W W') :
  CallsIn F n Tryz.prog 6 #[.slice (some ⟨b,off,none⟩) len cap,.slice ra rl rc,.int .i64 0] w fun e W'=>e = .returned (.int .i64 r) ∧ Below w.heap.size w W' := by
 have hn1 : 1 ≤ n := by omega
 have hn2 : 1 ≤ n - 1 - 1 := by omega
 refine callsIn_of_wp_marks Tryz.func6 rfl h6 ?_ hro
 simp only [Tryz.ntmps6,List.size_toArray,List.length_cons,List.length_nil,Nat.reduceAdd,Nat.reduceSub,Array.replicate_succ,Array.replicate_zero,List.push_toArray,List.append_toArray,List.nil_append,List.cons_append]
 gi_wp2_with (gi_at_call 15; refine (Tryz.back_in F (n - 1) h15 hro _ _ _ _).mono ?_; rintro e w' ⟨rfl,rfl⟩)
 obtain ⟨WA,hWA⟩ : ∃ WA,WA = ((((((((w.alloc (.cells #[Value.slice (some ⟨b,off,none⟩) len cap] 23)).alloc (.cells #[Value.int .i64 0] 3)).alloc (.cells #[Value.int .i64 0] 24)).alloc (.cells #[] 3)).alloc (.cells #[Value.slice (some ⟨w.heap.size + 1 + 1 + 1,0,none⟩) 0 0] 49)).alloc (.cells #[Value.slice ra rl rc] 23)).alloc (.cells #[Value.int .i64 46] 24)).alloc (.cells #[Value.slice (some ⟨b,off,none⟩) len cap] 23)) := ⟨_,rfl⟩
 have hsz : WA.heap.size = w.heap.size + 1 + 1 + 1 + 1 + 1 + 1 + 1 + 1 := by rw [hWA]; simp
 have hBA : Below w.heap.size w WA := by
  rw [hWA]
  exact ((((((((Below.refl _ w).alloc (Nat.le_refl _) _).alloc (by simp <;> omega) _).alloc (by simp <;> omega) _).alloc (by simp <;> omega) _).alloc (by simp <;> omega) _).alloc (by simp <;> omega) _).alloc (by simp <;> omega) _).alloc (by simp <;> omega) _
 have b6 := Boxed.new ((w.alloc (.cells #[Value.slice (some ⟨b,off,none⟩) len cap] 23)).alloc (.cells #[Value.int .i64 0] 3)) 24 (Value.int .i64 0)
 simp only [World.size_alloc] at b6
 have k6 : WA.cell? ⟨w.heap.size + 1 + 1,0,none⟩ = some (Value.int .i64 0) := by rw [hWA]; exact Boxed.cell (((((b6.alloc _).alloc _).alloc _).alloc _).alloc _)
 have f6 : WA.frozen? ⟨w.heap.size + 1 + 1,0,none⟩ = false := by rw [hWA]; exact Boxed.frozen (((((b6.alloc _).alloc _).alloc _).alloc _).alloc _)
 have b8 := Boxed.new (((((w.alloc (.cells #[Value.slice (some ⟨b,off,none⟩) len cap] 23)).alloc (.cells #[Value.int .i64 0] 3)).alloc (.cells #[Value.int .i64 0] 24)).alloc (.cells #[] 3)).alloc (.cells #[Value.slice (some ⟨w.heap.size + 1 + 1 + 1,0,none⟩) 0 0] 49)) 23 (Value.slice ra rl rc)
 simp only [World.size_alloc] at b8
 have k8 : WA.cell? ⟨w.heap.size + 1 + 1 + 1 + 1 + 1,0,none⟩ = some (Value.slice ra rl rc) := by rw [hWA]; exact Boxed.cell ((b8.alloc _).alloc _)
 have b9 := Boxed.new ((((((w.alloc (.cells #[Value.slice (some ⟨b,off,none⟩) len cap] 23)).alloc (.cells #[Value.int .i64 0] 3)).alloc (.cells #[Value.int .i64 0] 24)).alloc (.cells #[] 3)).alloc (.cells #[Value.slice (some ⟨w.heap.size + 1 + 1 + 1,0,none⟩) 0 0] 49)).alloc (.cells #[Value.slice ra rl rc] 23)) 24 (Value.int .i64 46)
 simp only [World.size_alloc] at b9
 have k9 : WA.cell? ⟨w.heap.size + 1 + 1 + 1 + 1 + 1 + 1,0,none⟩ = some (Value.int .i64 46) := by rw [hWA]; exact Boxed.cell (b9.alloc _)
 have b28 := Boxed.new (((((((w.alloc (.cells #[Value.slice (some ⟨b,off,none⟩) len cap] 23)).alloc (.cells #[Value.int .i64 0] 3)).alloc (.cells #[Value.int .i64 0] 24)).alloc (.cells #[] 3)).alloc (.cells #[Value.slice (some ⟨w.heap.size + 1 + 1 + 1,0,none⟩) 0 0] 49)).alloc (.cells #[Value.slice ra rl rc] 23)).alloc (.cells #[Value.int .i64 46] 24)) 23 (Value.slice (some ⟨b,off,none⟩) len cap)
 simp only [World.size_alloc] at b28
 have k28 : WA.cell? ⟨w.heap.size + 1 + 1 + 1 + 1 + 1 + 1 + 1,0,none⟩ = some (Value.slice (some ⟨b,off,none⟩) len cap) := by rw [hWA]; exact Boxed.cell b28
 rw [← hWA]
 have hzA : Tryz.Noughts WA b off len := fun k hk j v h=>(hBA.cell (p := ⟨b,_,none⟩) hb).trans (hz k hk j v h)
 have hseq : SeqStopsK F (n - 1) Tryz.prog 28 #[.pointer (some ⟨w.heap.size + 1 + 1 + 1 + 1 + 1 + 1 + 1,0,none⟩)] (fun x : Nat=>#[Value.int .i64 (x : Int),Value.agg Tryz.zv]) (Below WA.heap.size) (fun xs=>xs.length = len) (fun _=>True) len WA := by
  intro l J Jx W hW _ _ hY h0
  exact Tryz.back1_in F (n - 1) h28 hro (by omega) l _ WA.heap.size b off len cap hlen (by omega) J Jx hY W ((hW.cell (p := ⟨_,0,none⟩) (by simp only; omega)).trans k28) (fun k hk j v h=>(hW.cell (p := ⟨b,_,none⟩) (by simp only; omega)).trans (hzA k hk j v h)) (by omega) h0
 refine wpIn_rangeFunc_ownH hro hn1 (gf := 28) (lb := #[.pointer (some ⟨w.heap.size + 1 + 1 + 1 + 1 + 1 + 1 + 1,0,none⟩)]) rfl h28 (enters_of Tryz.func28 (by kernel_rfl) rfl)
  hseq belowK_t (belowK_b (Nat.le_refl _)) (Below.refl _ _) (fun _=>rfl)
  (fun pre W=>pre = [] ∧ Below WA.heap.size WA W)
  (fun c _ W=>(c = .ret ∧ W.cell? ⟨w.heap.size + 1 + 1,0,none⟩ = some (.int .i64 r)) ∧ Below w.heap.size w W)
  (OwnFrom.and (ownFrom_pure _ (fun pre=>pre = [])) (ownFrom_below (Nat.le_refl _) (Nat.le_refl _)))
  (fun c=>OwnFrom.and (Own.from (fun s A B row hs hg hr=>⟨hs.1,cell_kept hs.2 hg hr⟩) _) (ownFrom_below (by omega) (by omega)))
  ⟨rfl,Below.refl _ _⟩
  (fun x a' W=>∃ B,a' = { tmps := #[Value.slice (some ⟨b,off,none⟩) len cap,Value.slice ra rl rc,Value.int .i64 0,Value.pointer (some ⟨w.heap.size,0,none⟩),undef,Value.pointer (some ⟨w.heap.size + 1,0,none⟩),Value.pointer (some ⟨w.heap.size + 1 + 1,0,none⟩),Value.pointer (some ⟨w.heap.size + 1 + 1 + 1 + 1,0,none⟩),Value.pointer (some ⟨w.heap.size + 1 + 1 + 1 + 1 + 1,0,none⟩),Value.pointer (some ⟨w.heap.size + 1 + 1 + 1 + 1 + 1 + 1,0,none⟩),Value.int .i64 (x : Int),Value.pointer (some ⟨B,0,none⟩),undef,undef,undef,undef,Value.slice (some ⟨b,off,none⟩) len cap,Value.int .i64 (len : Int),Value.bool (decide ((len : Int) < 1)),Value.bool (decide ((len : Int) < 1)),Value.slice (some ⟨b,off,none⟩) len cap,Value.int .i64 (len : Int),Value.bool (decide (6 < (len : Int))),Value.bool (decide ((len : Int) < 1) || decide (6 < (len : Int))),Value.slice (some ⟨w.heap.size + 1 + 1 + 1,0,none⟩) 0 0,Value.slice ra rl rc,Value.slice (some ⟨b,off,none⟩) len cap,Value.func (.func 28) #[] #[Value.pointer (some ⟨w.heap.size + 1 + 1 + 1 + 1 + 1 + 1 + 1,0,none⟩)],Value.int .i64 (x : Int),Value.agg #[Value.int .i64 0,Value.int .i64 0,Value.slice none 0 0,Value.slice none 0 0,Value.int .i64 0,Value.int .i64 0,Value.int .i64 0,Value.slice none 0 0,Value.bool false,Value.int .i64 0,Value.int .i64 0,Value.slice none 0 0,Value.slice none 0 0,Value.slice none 0 0,Value.slice none 0 0],undef,undef,undef,undef,undef,undef,undef,undef,undef,undef,undef,undef,undef,undef,undef,undef,undef,undef,undef,undef,undef,undef,undef,undef,undef,undef,undef,undef,undef,undef,undef,undef,undef,undef,undef,undef,undef,undef,undef,undef,undef,undef,undef,undef,undef,undef,undef,undef,undef,undef,undef,undef,undef,undef,undef,undef,undef,undef,undef,undef,undef,undef,undef,undef,undef,undef,undef,undef,undef,undef,undef,undef,undef,undef,undef,undef,undef,undef,undef,undef,undef,undef,undef,undef,undef,undef,undef],defers := [] } ∧ ∀ (j : Nat) (v : Value),Tryz.zv[j]? = some v→W.cell? ⟨B,j,none⟩ = some v)
  (fun x a'=>Own.from (fun s A B row hs hg hr=>by obtain ⟨B,e,hc⟩ := hs; exact ⟨B,e,fun j v h=>cell_kept (hc j v h) hg hr⟩) _)
  ?assign ?body ?done ?stop
 case assign =>
  intro l pre x W K hi hK
  unfold Tryz.zv
  gi_wp2
  have ha := (Below.refl WA.heap.size W).alloc hi.2.size (.cells #[Value.int .i64 0,Value.int .i64 0,Value.slice none 0 0,Value.slice none 0 0,Value.int .i64 0,Value.int .i64 0,Value.int .i64 0,Value.slice none 0 0,Value.bool false,Value.int .i64 0,Value.int .i64 0,Value.slice none 0 0,Value.slice none 0 0,Value.slice none 0 0,Value.slice none 0 0] 33)
  refine hK _ _ ((KeepsOthers.alloc W _).from _) ha ⟨hi.1,hi.2.trans ha⟩ ⟨W.heap.size,rfl,fun j v h=>?_⟩
  unfold Tryz.zv at h
  simp only [World.cell?,World.alloc_heap_new]
  simpa using h
 case body =>
  rintro l pre x a' W hl _ ⟨rfl,hB⟩ ⟨B,rfl,hc⟩ _
  have z0 : W.cell? ⟨B,0,none⟩ = some (Value.int .i64 0) := hc 0 _ rfl
  have z1 : W.cell? ⟨B,1,none⟩ = some (Value.int .i64 0) := hc 1 _ rfl
  have z2 : W.cell? ⟨B,2,none⟩ = some (Value.slice none 0 0) := hc 2 _ rfl
  have z3 : W.cell? ⟨B,3,none⟩ = some (Value.slice none 0 0) := hc 3 _ rfl
  have z4 : W.cell? ⟨B,4,none⟩ = some (Value.int .i64 0) := hc 4 _ rfl
  have z5 : W.cell? ⟨B,5,none⟩ = some (Value.int .i64 0) := hc 5 _ rfl
  have z6 : W.cell? ⟨B,6,none⟩ = some (Value.int .i64 0) := hc 6 _ rfl
  have z7 : W.cell? ⟨B,7,none⟩ = some (Value.slice none 0 0) := hc 7 _ rfl
  have z8 : W.cell? ⟨B,8,none⟩ = some (Value.bool false) := hc 8 _ rfl
  have z9 : W.cell? ⟨B,9,none⟩ = some (Value.int .i64 0) := hc 9 _ rfl
  have z10 : W.cell? ⟨B,10,none⟩ = some (Value.int .i64 0) := hc 10 _ rfl
  have z11 : W.cell? ⟨B,11,none⟩ = some (Value.slice none 0 0) := hc 11 _ rfl
  have z12 : W.cell? ⟨B,12,none⟩ = some (Value.slice none 0 0) := hc 12 _ rfl
  have z13 : W.cell? ⟨B,13,none⟩ = some (Value.slice none 0 0) := hc 13 _ rfl
  have z14 : W.cell? ⟨B,14,none⟩ = some (Value.slice none 0 0) := hc 14 _ rfl
  have m8 := (hB.cell (p := ⟨w.heap.size + 1 + 1 + 1 + 1 + 1,0,none⟩) (by simp only; omega)).trans k8
  have m9 := (hB.cell (p := ⟨w.heap.size + 1 + 1 + 1 + 1 + 1 + 1,0,none⟩) (by simp only; omega)).trans k9
  have m6 := (hB.cell (p := ⟨w.heap.size + 1 + 1,0,none⟩) (by simp only; omega)).trans k6
  have mf := (World.frozen?_of_block (hB.block (w.heap.size + 1 + 1) (by omega))).trans f6
  have hWs : w.heap.size + 1 + 1 + 1 + 1 + 1 + 1 + 1 + 1 ≤ W.heap.size := by have := hB.size; omega
  gi_wp2_with (gi_at_call 16; refine (CallsIn.inRound l (hI W (hBA.trans (hB.mono (by omega))))).mono ?_; rintro e w' ⟨rfl,hb'⟩; have q6 := (hb'.cell (p := ⟨w.heap.size + 1 + 1,0,none⟩) (by simp only; omega)).trans m6; have qf := (World.frozen?_of_block (hb'.block (w.heap.size + 1 + 1) (by omega))).trans mf)
  ·refine ⟨⟨Nat.le_trans hb'.size (KeepsOthers.setCell _ _ _).size,fun k o hk ho hc'=>(KeepsOthers.setCell w' _ _).same k o ((hb'.block k (Array.getElem?_eq_some_iff.1 ho).1).trans ho) hc'⟩,⟨rfl,World.cell?_setCell_same' _ _ _ (by rw [q6]; rfl)⟩,?_⟩
   exact ((hBA.trans (hB.mono (by omega))).trans (hb'.mono (by omega))).setCell (p := ⟨w.heap.size + 1 + 1,0,none⟩) (by simp only; omega) _
  all_goals (rename_i hrr; simp at hrr; exact (hr hrr).elim)
 case done =>
  rintro D ys W hD hlen' ⟨rfl,_⟩ hK
  simp at hlen'
  omega
 case stop =>
  rintro D c pre W hD _ ⟨⟨rfl,hcr⟩,hB⟩ hK
  gi_wp2
  refine ⟨by simp,.inl ⟨_,_,rfl,run_takeDeferred hK,?_⟩⟩
  have hc5 := cell_kept hcr (grownBy_putObj' _ D (.deferred none)) (fun r e=>by cases e; exact ⟨_,hK,rfl⟩)
  refine ⟨.int .i64 r,?_,rfl,hB.trans (belowK_b (w := w) (Nat.le_refl _) W D _ _ (by omega) hK rfl rfl)⟩
  simp [results,Tryz.f6,go_sem,hc5]
end Go.Proofs

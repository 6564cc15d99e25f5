/- a certificate's law by that interpreter (part 19): what the program's functions answer, or plain laws of it; no conditions. -/
import Derived.Test.YtgiobgojobegfaaGreatDoorA18
import Derived.Test.YtgiobgojobegfaaGreatDoorA15
set_option linter.all false
namespace Go.Mini
open Go Go.Mini.Nm Go.Proofs.YtgiobgojobegfaaGreatDoor
set_option maxRecDepth 100000
set_option maxHeartbeats 4000000
theorem oi64 (X:Nat) (c:UInt8) (h:X*256+255<9223372036854775808):IntKind.i64.wrap ((BitVec.ofInt IntKind.i64.bits ((X:Int)*256)|||BitVec.ofInt IntKind.i64.bits (c.toNat:Int)).toNat:Int)=((X*256+c.toNat:Nat):Int):=by
 have hc:=c.toNat_lt
 have e1:BitVec.ofInt 64 ((X:Int)*256)=BitVec.ofNat 64 (X*256):=by
  rw[show(X:Int)*256=((X*256:Nat):Int) by omega];exact BitVec.ofInt_natCast 64 _
 have e2:BitVec.ofInt 64 (c.toNat:Int)=BitVec.ofNat 64 c.toNat:=BitVec.ofInt_natCast 64 _
 show IntKind.i64.wrap ((BitVec.ofInt 64 ((X:Int)*256)|||BitVec.ofInt 64 (c.toNat:Int)).toNat:Int)=_
 rw[e1,e2,BitVec.toNat_or,BitVec.toNat_ofNat,BitVec.toNat_ofNat,Nat.mod_eq_of_lt (by omega),Nat.mod_eq_of_lt (by omega)]
 have e3:X*256|||c.toNat=X*256+c.toNat:=by
  rw[Nat.mul_comm,show 256=2^8 from rfl,←Nat.two_pow_add_eq_or_of_lt (by omega)]
 rw[e3,IntKind.wrap_i64]
 omega
theorem sizeB_snoc (l:List UInt8) (c:UInt8):sizeB (l++[c])=sizeB l*256+c.toNat:=by
 unfold sizeB;rw[List.foldl_append];rfl
theorem sizeB_take (l:List UInt8):∀i,sizeB (l.take i)≤sizeB l:=by
 intro i
 have h:=sizeB_go (l.drop i) (sizeB (l.take i))
 have e:sizeB l=(l.drop i).foldl (fun n c=>n*256+c.toNat) (sizeB (l.take i)):=by
  conv=>lhs;rw[←List.take_append_drop i l]
  unfold sizeB
  rw[List.foldl_append]
 rw[e,h]
 have:1≤256^(l.drop i).length:=Nat.one_le_pow _ _ (by omega)
 calc sizeB (l.take i)=sizeB (l.take i)*1:=by omega
  _≤sizeB (l.take i)*256^(l.drop i).length:=Nat.mul_le_mul_left _ this
  _≤_:=Nat.le_add_right _ _
theorem shl8 {a:Int} (h0:0≤a) (h1:a*256<9223372036854775808):shiftI .shl .i64 a 8=some (.int .i64 (a*256)):=by
 unfold shiftI
 rw[if_neg (by omega)]
 show some (MV.int .i64 (IntKind.i64.wrap (a*256)))=_
 rw[w64 (by omega) (by omega)]
def R_i:List (Nat × Option (Bool × Nat) × PK):=[(4,none,.other)]
def i_tail:MCode:=(.seq (.rg [oT 28 (.mv (.v 5)),
  oV 4 (.mv (.t 28))])
  (.ret))
def i_st (b:Bool) (w:List UInt8) (n:Int) (i:Int):DS:=⟨[(5,.int .i64 n),(16,.bs w),(17,.int .i64 w.length),(18,.int .i64 i)],[],[(0,.cells [.bool b])],2⟩
theorem i_in (b:Bool) (w:List UInt8) (hw:sizeB w<9223372036854775808) (hl:w.length≤8):∀(k i:Nat),i+k=w.length→finH 1 R_i (RunL Q m37k0 m37b0 [.blk 0,.code i_tail] (i_st b w (sizeB (w.take i):Nat) i))=some (.int .i64 (sizeB w:Nat),[some (.cells [.bool b])])
 | 0,i,hi=>by
  obtain rfl:i=w.length:=by omega
  have hlt:decide ((w.length:Int)<(w.length:Int))=false:=by simp
  rw[List.take_length]
  unfold i_st
  obtain⟨b',hb'⟩:∃b',b'=m37b0:=⟨_,rfl⟩
  rw[RunL_eq,show Item.lp m37k0 m37b0=Item.lp m37k0 b' by rw[hb']]
  apply hide;intro rhs hrhs
  simp(maxSteps:=4000000)(disch:=first|exact dz|fail)only[bA.u,seval,cut,if_pos,if_neg,m37b0,i_tail,R_i,hlt,Run_nil,reach]
  repeat'((with_reducible first|refine sp ?_ ?_|fail)<;>intro hx<;>(try simp only[bI.u]at hx)<;>(first|exact xz|(try simp(maxSteps:=4000000)(disch:=first|exact dz|fail)only[bA.u,seval,cut,if_pos,if_neg,hx,m37b0,i_tail,R_i,hlt,Run_nil,reach])))
  all_goals first|exact xz|(subst hrhs;rfl)
 |k+1,i,hi=>by
  have hlt:decide ((i:Int)<(w.length:Int))=true:=by simp;omega
  have i1:(i:Int)<(w.length:Int):=by omega
  have hg:w[i]? = some w[i]:=List.getElem?_eq_getElem (by omega)
  have hs:sizeB (w.take (i+1))=sizeB (w.take i)*256+w[i].toNat:=by
   rw[List.take_add_one,hg];exact sizeB_snoc _ _
  have ht:=sizeB_take w (i+1)
  rw[hs]at ht
  have hb:sizeB (w.take i)*256+255<9223372036854775808∨9223372036854775808≤sizeB (w.take i)*256+255:=by omega
  have hh:sizeB (w.take i)*256+255<9223372036854775808:=by
   rcases hb with hb|hb
   ·exact hb
   ·have:sizeB (w.take i)*256%256=0:=by omega
    omega
  have ho:=oi64 (sizeB (w.take i)) w[i] hh
  have ih:=i_in b w hw hl k (i+1) (by omega)
  rw[hs]at ih
  rw[←ih]
  generalize w[i]=x at *
  generalize sizeB (w.take i)=X at *
  have hX:(X:Int)*256<9223372036854775808:=by omega
  have hs8:=shl8 (a:=(X:Int)) (by omega) hX
  have hwx:=wU x
  unfold i_st
  obtain⟨b',hb'⟩:∃b',b'=m37b0:=⟨_,rfl⟩
  rw[RunL_eq,show Item.lp m37k0 m37b0=Item.lp m37k0 b' by rw[hb']]
  apply hide;intro rhs hrhs
  simp(maxSteps:=4000000)(disch:=first|exact dz|fail)only[bA.u,seval,cut,if_pos,if_neg,m37b0,R_i,hlt,i1,hg,ho,hs8,hwx,Run_nil,reach]
  repeat'((with_reducible first|refine sp ?_ ?_|fail)<;>intro hx<;>(try simp only[bI.u]at hx)<;>(first|exact xz|(try simp(maxSteps:=4000000)(disch:=first|exact dz|fail)only[bA.u,seval,cut,if_pos,if_neg,hx,m37b0,R_i,hlt,i1,hg,ho,hs8,hwx,Run_nil,reach])))
  all_goals first|exact xz|(subst hrhs;(subst hb';refine(congrArg (finH _ _) (Run_lp Q _ _ _ _)).trans ?_;exact congrArg (finH 1 R_i) (RunL_canon (canon_cong kr kr kr))))
theorem h_rint (c t:Int) (w:List UInt8) (hw:sizeB w<9223372036854775808) (hl:w.length≤8) (b:Bool):CallH Q 37 [.ptr 0 0,.agg [.int .i64 c,.int .i64 t,.bool false,.bs w,.nilsl]] [.cells [.bool b]]=some (.int .i64 (sizeB w:Nat),[some (.cells [.bool (b)])]):=by
 have loop:=i_in b w hw hl w.length 0 (by omega)
 rw[show sizeB (w.take 0)=0 from rfl]at loop
 unfold i_st at loop
 have h8:decide (8<(w.length:Int))=false:=by simp;omega
 rw[CallH_fn Q (m:=m37) rfl]
 apply hide;intro rhs hrhs
 simp(maxSteps:=4000000)(disch:=first|exact dz|fail)only[bA.u,seval,cut,if_pos,if_neg,m37,h8,Run_loop,Run_nil,reach]
 repeat'((with_reducible first|refine sp ?_ ?_|fail)<;>intro hx<;>(try simp only[bI.u]at hx)<;>(first|exact xz|(try simp(maxSteps:=4000000)(disch:=first|exact dz|fail)only[bA.u,seval,cut,if_pos,if_neg,hx,m37,h8,Run_loop,Run_nil,reach])))
 all_goals first|exact xz|(subst hrhs;exact(congrArg (finH _ _) (RunL_canon (canon_cong kr kr kr))).trans loop)
theorem h_roct (w:List UInt8) (hl:w.length<2^60) (b:Bool):CallH Q 79 [.ptr 0 0,octV w] [.cells [.bool b]]=some (.bs w,[some (.cells [.bool (b)])]):=by
 unfold octV
 have h1:(((w.length+1:Nat):Int)==0)=false:=by rw[beq_eq_false_iff_ne];omega
 have h2:List.take (((w.length:Int)+1).toNat-1) w=w:=List.take_of_length_le (by omega)
 have h3:(1:Int)≤(w.length:Int)+1:=by omega
 rw[CallH_fn Q (m:=m79) rfl]
 apply hide;intro rhs hrhs
 simp(maxSteps:=4000000)(disch:=first|exact dz|fail)only[bA.u,seval,cut,if_pos,if_neg,m79,h1,h2,h3,List.drop_succ_cons,List.drop_zero,Int.natCast_add,Int.cast_ofNat_Int,Nat.add_sub_cancel,Run_nil,reach]
 repeat'((with_reducible first|refine sp ?_ ?_|fail)<;>intro hx<;>(try simp only[bI.u]at hx)<;>(first|exact xz|(try simp(maxSteps:=4000000)(disch:=first|exact dz|fail)only[bA.u,seval,cut,if_pos,if_neg,hx,m79,h1,h2,h3,List.drop_succ_cons,List.drop_zero,Int.natCast_add,Int.cast_ofNat_Int,Nat.add_sub_cancel,Run_nil,reach])))
 all_goals first|exact xz|(subst hrhs;rfl)
theorem h_rtime (c t:Int) (m:Bool) (w k:MV) (hw:Fs w) (hk:Fs k) (x e:Int) (hc:Call Q 82 [.agg [.int .i64 c,.int .i64 t,.bool m,w,k]]=some (.tup [.int .i64 x,.int .i64 e])) (b:Bool):CallH Q 40 [.ptr 0 0,.agg [.int .i64 c,.int .i64 t,.bool m,w,k]] [.cells [.bool b]]=some (.int .i64 x,[some (.cells [.bool (b||e != 0)])]):=by
 rw[CallH_fn Q (m:=m40) rfl]
 cases b
 ·rw[Bool.false_or]
  apply hide;intro rhs hrhs
  simp(maxSteps:=4000000)(disch:=first|exact dz|fail)only[bA.u,seval,cut,if_pos,if_neg,m40,hc,hw.a,hk.a,Run_nil,reach]
  repeat'((with_reducible first|refine sp ?_ ?_|fail)<;>intro hx<;>(try simp only[bI.u]at hx)<;>(first|exact xz|(try simp(maxSteps:=4000000)(disch:=first|exact dz|fail)only[bA.u,seval,cut,if_pos,if_neg,hx,m40,hc,hw.a,hk.a,Run_nil,reach])))
  all_goals first|exact xz|(subst hrhs;rfl)
 ·rw[Bool.true_or]
  apply hide;intro rhs hrhs
  simp(maxSteps:=4000000)(disch:=first|exact dz|fail)only[bA.u,seval,cut,if_pos,if_neg,m40,hc,hw.a,hk.a,Run_nil,reach]
  repeat'((with_reducible first|refine sp ?_ ?_|fail)<;>intro hx<;>(try simp only[bI.u]at hx)<;>(first|exact xz|(try simp(maxSteps:=4000000)(disch:=first|exact dz|fail)only[bA.u,seval,cut,if_pos,if_neg,hx,m40,hc,hw.a,hk.a,Run_nil,reach])))
  all_goals first|exact xz|(subst hrhs;rfl)
theorem h_rdn (c t:Int) (m:Bool) (w k:MV) (hw:Fs w) (hk:Fs k) (d:List MV) (e:Int) (hc:Call Q 81 [.agg [.int .i64 c,.int .i64 t,.bool m,w,k]]=some (.tup [.sl 2 d,.int .i64 e])) (b:Bool):CallH Q 38 [.ptr 0 0,.agg [.int .i64 c,.int .i64 t,.bool m,w,k]] [.cells [.bool b]]=some (.sl 2 d,[some (.cells [.bool (b||e != 0)])]):=by
 rw[CallH_fn Q (m:=m38) rfl]
 cases b
 ·rw[Bool.false_or]
  apply hide;intro rhs hrhs
  simp(maxSteps:=4000000)(disch:=first|exact dz|fail)only[bA.u,seval,cut,if_pos,if_neg,m38,hc,hw.a,hk.a,Run_nil,reach]
  repeat'((with_reducible first|refine sp ?_ ?_|fail)<;>intro hx<;>(try simp only[bI.u]at hx)<;>(first|exact xz|(try simp(maxSteps:=4000000)(disch:=first|exact dz|fail)only[bA.u,seval,cut,if_pos,if_neg,hx,m38,hc,hw.a,hk.a,Run_nil,reach])))
  all_goals first|exact xz|(subst hrhs;rfl)
 ·rw[Bool.true_or]
  apply hide;intro rhs hrhs
  simp(maxSteps:=4000000)(disch:=first|exact dz|fail)only[bA.u,seval,cut,if_pos,if_neg,m38,hc,hw.a,hk.a,Run_nil,reach]
  repeat'((with_reducible first|refine sp ?_ ?_|fail)<;>intro hx<;>(try simp only[bI.u]at hx)<;>(first|exact xz|(try simp(maxSteps:=4000000)(disch:=first|exact dz|fail)only[bA.u,seval,cut,if_pos,if_neg,hx,m38,hc,hw.a,hk.a,Run_nil,reach])))
  all_goals first|exact xz|(subst hrhs;rfl)
theorem h_rsch1 (b:Bool):CallH Q 78 [.ptr 0 0,mvT (schT 1)] [.cells [.bool b]]=some (.int .i64 1,[some (.cells [.bool (b)])]):=CallH_iff.2 ⟨6000,by kernel_rfl⟩
theorem h_rsch2 (b:Bool):CallH Q 78 [.ptr 0 0,mvT (schT 2)] [.cells [.bool b]]=some (.int .i64 2,[some (.cells [.bool (b)])]):=CallH_iff.2 ⟨6000,by kernel_rfl⟩
theorem h_rsch3 (b:Bool):CallH Q 78 [.ptr 0 0,mvT (schT 3)] [.cells [.bool b]]=some (.int .i64 3,[some (.cells [.bool (b)])]):=CallH_iff.2 ⟨6000,by kernel_rfl⟩
theorem h_rsch4 (b:Bool):CallH Q 78 [.ptr 0 0,mvT (schT 4)] [.cells [.bool b]]=some (.int .i64 4,[some (.cells [.bool (b)])]):=CallH_iff.2 ⟨6000,by kernel_rfl⟩
theorem h_rsch5 (b:Bool):CallH Q 78 [.ptr 0 0,mvT (schT 5)] [.cells [.bool b]]=some (.int .i64 5,[some (.cells [.bool (b)])]):=CallH_iff.2 ⟨6000,by kernel_rfl⟩
theorem h_rsch6 (b:Bool):CallH Q 78 [.ptr 0 0,mvT (schT 6)] [.cells [.bool b]]=some (.int .i64 6,[some (.cells [.bool (b)])]):=CallH_iff.2 ⟨6000,by kernel_rfl⟩
theorem h_rsch7 (b:Bool):CallH Q 78 [.ptr 0 0,mvT (schT 7)] [.cells [.bool b]]=some (.int .i64 7,[some (.cells [.bool (b)])]):=CallH_iff.2 ⟨6000,by kernel_rfl⟩
theorem h_rsch8 (b:Bool):CallH Q 78 [.ptr 0 0,mvT (schT 8)] [.cells [.bool b]]=some (.int .i64 8,[some (.cells [.bool (b)])]):=CallH_iff.2 ⟨6000,by kernel_rfl⟩
theorem h_rsch9 (b:Bool):CallH Q 78 [.ptr 0 0,mvT (schT 9)] [.cells [.bool b]]=some (.int .i64 9,[some (.cells [.bool (b)])]):=CallH_iff.2 ⟨6000,by kernel_rfl⟩
theorem h_rsch (n:Int) (h:1≤n∧n≤9) (b:Bool):CallH Q 78 [.ptr 0 0,mvT (schT n)] [.cells [.bool b]]=some (.int .i64 n,[some (.cells [.bool (b)])]):=by
 have hn:n=1∨n=2∨n=3∨n=4∨n=5∨n=6∨n=7∨n=8∨n=9:=by omega
 rcases hn with rfl|rfl|rfl|rfl|rfl|rfl|rfl|rfl|rfl
 ·exact h_rsch1 b
 ·exact h_rsch2 b
 ·exact h_rsch3 b
 ·exact h_rsch4 b
 ·exact h_rsch5 b
 ·exact h_rsch6 b
 ·exact h_rsch7 b
 ·exact h_rsch8 b
 ·exact h_rsch9 b
end Go.Mini

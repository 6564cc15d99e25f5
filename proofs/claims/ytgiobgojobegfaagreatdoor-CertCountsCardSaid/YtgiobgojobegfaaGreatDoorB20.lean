/- a certificate's law by that interpreter (part 20): what the program's functions answer, or plain laws of it; no conditions. -/
import Derived.Test.YtgiobgojobegfaaGreatDoorB19
import Derived.Test.YtgiobgojobegfaaGreatDoorB16
set_option linter.all false
namespace Go.Mini
open Go Go.Mini.Nm Go.Proofs.YtgiobgojobegfaaGreatDoor
set_option maxRecDepth 100000
set_option maxHeartbeats 4000000
theorem JE (X:Nat) (c:UInt8) (h:X*256+255<9223372036854775808):IntKind.i64.wrap ((BitVec.ofInt IntKind.i64.bits ((X:Int)*256)|||BitVec.ofInt IntKind.i64.bits (c.toNat:Int)).toNat:Int)=((X*256+c.toNat:Nat):Int):=by
 have hc:=c.toNat_lt
 have e1:BitVec.ofInt 64 ((X:Int)*256)=BitVec.ofNat 64 (X*256):=by
  rw[show(X:Int)*256=((X*256:Nat):Int) by omega];exact BitVec.ofInt_natCast 64 _
 have e2:BitVec.ofInt 64 (c.toNat:Int)=BitVec.ofNat 64 c.toNat:=BitVec.ofInt_natCast 64 _
 show IntKind.i64.wrap ((BitVec.ofInt 64 ((X:Int)*256)|||BitVec.ofInt 64 (c.toNat:Int)).toNat:Int)=_
 rw[e1,e2,BitVec.toNat_or,BitVec.toNat_ofNat,BitVec.toNat_ofNat,Nat.mod_eq_of_lt (by omega),Nat.mod_eq_of_lt (by omega)]
 have e3:X*256|||c.toNat=X*256+c.toNat:=by
  rw[Nat.mul_comm,show 256=2^8 from rfl,←Nat.two_pow_add_eq_or_of_lt (by omega)]
 rw[e3,IntKind.wrap_i64]
 omega
theorem zk (l:List UInt8) (c:UInt8):aU (l++[c])=aU l*256+c.toNat:=by
 unfold aU;rw[List.foldl_append];rfl
theorem zl (l:List UInt8):∀i,aU (l.take i)≤aU l:=by
 intro i
 have h:=lU (l.drop i) (aU (l.take i))
 have e:aU l=(l.drop i).foldl (fun n c=>n*256+c.toNat) (aU (l.take i)):=by
  conv=>lhs;rw[←List.take_append_drop i l]
  unfold aU
  rw[List.foldl_append]
 rw[e,h]
 have:1≤256^(l.drop i).length:=Nat.one_le_pow _ _ (by omega)
 calc aU (l.take i)=aU (l.take i)*1:=by omega
  _≤aU (l.take i)*256^(l.drop i).length:=Nat.mul_le_mul_left _ this
  _≤_:=Nat.le_add_right _ _
theorem HS {a:Int} (h0:0≤a) (h1:a*256<9223372036854775808):bf .shl .i64 a 8=some (.int .i64 (a*256)):=by
 unfold bf
 rw[if_neg (by omega)]
 show some (MV.int .i64 (IntKind.i64.wrap (a*256)))=_
 rw[fG (by omega) (by omega)]
def yq:List (Nat × Option (Bool × Nat) × PK):=[(4,none,.other)]
def wG:MCode:=(.seq (.rg [oT 28 (.mv (.v 5)),
  oV 4 (.mv (.t 28))])
  (.ret))
def zm (b:Bool) (w:List UInt8) (n:Int) (i:Int):DS:=⟨[(5,.int .i64 n),(16,.bs w),(17,.int .i64 w.length),(18,.int .i64 i)],[],[(0,.cells [.bool b])],2⟩
theorem HT (b:Bool) (w:List UInt8) (hw:aU w<9223372036854775808) (hl:w.length≤8):∀(k i:Nat),i+k=w.length→ax 1 yq (RunL Q m37k0 m37b0 [.blk 0,.code wG] (zm b w (aU (w.take i):Nat) i))=some (.int .i64 (aU w:Nat),[some (.cells [.bool b])])
 | 0,i,hi=>by
  obtain rfl:i=w.length:=by omega
  have hlt:decide ((w.length:Int)<(w.length:Int))=false:=by simp
  rw[List.take_length]
  unfold zm
  obtain⟨b',hb'⟩:∃b',b'=m37b0:=⟨_,rfl⟩
  rw[ah,show Item.lp m37k0 m37b0=Item.lp m37k0 b' by rw[hb']]
  apply ae;intro rhs hrhs
  simp(maxSteps:=4000000)(disch:=first|exact dz|fail)only[bB.u,seval,cut,m37b0,wG,yq,hlt,ag,aj]
  repeat'((with_reducible first|refine sp ?_ ?_|fail)<;>intro hx<;>(try simp only[bI.u]at hx)<;>(first|exact xz|(try simp(maxSteps:=4000000)(disch:=first|exact dz|fail)only[bB.u,seval,cut,hx,m37b0,wG,yq,hlt,ag,aj])))
  all_goals first|exact xz|(subst hrhs;rfl)
 |k+1,i,hi=>by
  have hlt:decide ((i:Int)<(w.length:Int))=true:=by simp;omega
  have i1:(i:Int)<(w.length:Int):=by omega
  have hg:w[i]? = some w[i]:=List.getElem?_eq_getElem (by omega)
  have hs:aU (w.take (i+1))=aU (w.take i)*256+w[i].toNat:=by
   rw[List.take_add_one,hg];exact zk _ _
  have ht:=zl w (i+1)
  rw[hs]at ht
  have hb:aU (w.take i)*256+255<9223372036854775808∨9223372036854775808≤aU (w.take i)*256+255:=by omega
  have hh:aU (w.take i)*256+255<9223372036854775808:=by
   rcases hb with hb|hb
   ·exact hb
   ·have:aU (w.take i)*256%256=0:=by omega
    omega
  have ho:=JE (aU (w.take i)) w[i] hh
  have ih:=HT b w hw hl k (i+1) (by omega)
  rw[hs]at ih
  rw[←ih]
  generalize w[i]=x at *
  generalize aU (w.take i)=X at *
  have hX:(X:Int)*256<9223372036854775808:=by omega
  have hs8:=HS (a:=(X:Int)) (by omega) hX
  have hwx:=wU x
  unfold zm
  obtain⟨b',hb'⟩:∃b',b'=m37b0:=⟨_,rfl⟩
  rw[ah,show Item.lp m37k0 m37b0=Item.lp m37k0 b' by rw[hb']]
  apply ae;intro rhs hrhs
  simp(maxSteps:=4000000)(disch:=first|exact dz|fail)only[bB.u,seval,cut,m37b0,yq,hlt,i1,hg,ho,hs8,hwx,ag,aj]
  repeat'((with_reducible first|refine sp ?_ ?_|fail)<;>intro hx<;>(try simp only[bI.u]at hx)<;>(first|exact xz|(try simp(maxSteps:=4000000)(disch:=first|exact dz|fail)only[bB.u,seval,cut,hx,m37b0,yq,hlt,i1,hg,ho,hs8,hwx,ag,aj])))
  all_goals first|exact xz|(subst hrhs;(subst hb';refine(congrArg (ax _ _) (aA Q _ _ _ _)).trans ?_;exact congrArg (ax 1 yq) (af (canon_cong kr kr kr))))
theorem qZ (c t:Int) (w:List UInt8) (hw:aU w<9223372036854775808) (hl:w.length≤8) (b:Bool):CallH Q 37 [.ptr 0 0,.agg [.int .i64 c,.int .i64 t,.bool false,.bs w,.nilsl]] [.cells [.bool b]]=some (.int .i64 (aU w:Nat),[some (.cells [.bool (b)])]):=by
 have loop:=HT b w hw hl w.length 0 (by omega)
 rw[show aU (w.take 0)=0 from rfl]at loop
 unfold zm at loop
 have h8:decide (8<(w.length:Int))=false:=by simp;omega
 rw[aC Q (m:=m37) rfl]
 apply ae;intro rhs hrhs
 simp(maxSteps:=4000000)(disch:=first|exact dz|fail)only[bB.u,seval,cut,m37,h8,aq,ag,aj]
 repeat'((with_reducible first|refine sp ?_ ?_|fail)<;>intro hx<;>(try simp only[bI.u]at hx)<;>(first|exact xz|(try simp(maxSteps:=4000000)(disch:=first|exact dz|fail)only[bB.u,seval,cut,hx,m37,h8,aq,ag,aj])))
 all_goals first|exact xz|(subst hrhs;exact(congrArg (ax _ _) (af (canon_cong kr kr kr))).trans loop)
theorem q6 (w:List UInt8) (hl:w.length<2^60) (b:Bool):CallH Q 79 [.ptr 0 0,bY w] [.cells [.bool b]]=some (.bs w,[some (.cells [.bool (b)])]):=by
 unfold bY
 have h1:(((w.length+1:Nat):Int)==0)=false:=by rw[beq_eq_false_iff_ne];omega
 have h2:List.take (((w.length:Int)+1).toNat-1) w=w:=List.take_of_length_le (by omega)
 have h3:(1:Int)≤(w.length:Int)+1:=by omega
 rw[aC Q (m:=m79) rfl]
 apply ae;intro rhs hrhs
 simp(maxSteps:=4000000)(disch:=first|exact dz|fail)only[bB.u,seval,cut,m79,h1,h2,h3,List.drop_succ_cons,List.drop_zero,Int.natCast_add,Int.cast_ofNat_Int,Nat.add_sub_cancel,ag,aj]
 repeat'((with_reducible first|refine sp ?_ ?_|fail)<;>intro hx<;>(try simp only[bI.u]at hx)<;>(first|exact xz|(try simp(maxSteps:=4000000)(disch:=first|exact dz|fail)only[bB.u,seval,cut,hx,m79,h1,h2,h3,List.drop_succ_cons,List.drop_zero,Int.natCast_add,Int.cast_ofNat_Int,Nat.add_sub_cancel,ag,aj])))
 all_goals first|exact xz|(subst hrhs;rfl)
theorem FH (c t:Int) (m:Bool) (w k:MV) (hw:Fs w) (hk:Fs k) (x e:Int) (hc:Call Q 82 [.agg [.int .i64 c,.int .i64 t,.bool m,w,k]]=some (.tup [.int .i64 x,.int .i64 e])) (b:Bool):CallH Q 40 [.ptr 0 0,.agg [.int .i64 c,.int .i64 t,.bool m,w,k]] [.cells [.bool b]]=some (.int .i64 x,[some (.cells [.bool (b||e != 0)])]):=by
 rw[aC Q (m:=m40) rfl]
 cases b
 ·rw[Bool.false_or]
  apply ae;intro rhs hrhs
  simp(maxSteps:=4000000)(disch:=first|exact dz|fail)only[bB.u,seval,cut,m40,hc,hw.a,hk.a,ag,aj]
  repeat'((with_reducible first|refine sp ?_ ?_|fail)<;>intro hx<;>(try simp only[bI.u]at hx)<;>(first|exact xz|(try simp(maxSteps:=4000000)(disch:=first|exact dz|fail)only[bB.u,seval,cut,hx,m40,hc,hw.a,hk.a,ag,aj])))
  all_goals first|exact xz|(subst hrhs;rfl)
 ·rw[Bool.true_or]
  apply ae;intro rhs hrhs
  simp(maxSteps:=4000000)(disch:=first|exact dz|fail)only[bB.u,seval,cut,m40,hc,hw.a,hk.a,ag,aj]
  repeat'((with_reducible first|refine sp ?_ ?_|fail)<;>intro hx<;>(try simp only[bI.u]at hx)<;>(first|exact xz|(try simp(maxSteps:=4000000)(disch:=first|exact dz|fail)only[bB.u,seval,cut,hx,m40,hc,hw.a,hk.a,ag,aj])))
  all_goals first|exact xz|(subst hrhs;rfl)
theorem IS (c t:Int) (m:Bool) (w k:MV) (hw:Fs w) (hk:Fs k) (d:List MV) (e:Int) (hc:Call Q 81 [.agg [.int .i64 c,.int .i64 t,.bool m,w,k]]=some (.tup [.sl 2 d,.int .i64 e])) (b:Bool):CallH Q 38 [.ptr 0 0,.agg [.int .i64 c,.int .i64 t,.bool m,w,k]] [.cells [.bool b]]=some (.sl 2 d,[some (.cells [.bool (b||e != 0)])]):=by
 rw[aC Q (m:=m38) rfl]
 cases b
 ·rw[Bool.false_or]
  apply ae;intro rhs hrhs
  simp(maxSteps:=4000000)(disch:=first|exact dz|fail)only[bB.u,seval,cut,m38,hc,hw.a,hk.a,ag,aj]
  repeat'((with_reducible first|refine sp ?_ ?_|fail)<;>intro hx<;>(try simp only[bI.u]at hx)<;>(first|exact xz|(try simp(maxSteps:=4000000)(disch:=first|exact dz|fail)only[bB.u,seval,cut,hx,m38,hc,hw.a,hk.a,ag,aj])))
  all_goals first|exact xz|(subst hrhs;rfl)
 ·rw[Bool.true_or]
  apply ae;intro rhs hrhs
  simp(maxSteps:=4000000)(disch:=first|exact dz|fail)only[bB.u,seval,cut,m38,hc,hw.a,hk.a,ag,aj]
  repeat'((with_reducible first|refine sp ?_ ?_|fail)<;>intro hx<;>(try simp only[bI.u]at hx)<;>(first|exact xz|(try simp(maxSteps:=4000000)(disch:=first|exact dz|fail)only[bB.u,seval,cut,hx,m38,hc,hw.a,hk.a,ag,aj])))
  all_goals first|exact xz|(subst hrhs;rfl)
theorem FI (b:Bool):CallH Q 78 [.ptr 0 0,av (bx 1)] [.cells [.bool b]]=some (.int .i64 1,[some (.cells [.bool (b)])]):=CallH_iff.2 ⟨6000,by kernel_rfl⟩
theorem FJ (b:Bool):CallH Q 78 [.ptr 0 0,av (bx 2)] [.cells [.bool b]]=some (.int .i64 2,[some (.cells [.bool (b)])]):=CallH_iff.2 ⟨6000,by kernel_rfl⟩
theorem FL (b:Bool):CallH Q 78 [.ptr 0 0,av (bx 3)] [.cells [.bool b]]=some (.int .i64 3,[some (.cells [.bool (b)])]):=CallH_iff.2 ⟨6000,by kernel_rfl⟩
theorem FM (b:Bool):CallH Q 78 [.ptr 0 0,av (bx 4)] [.cells [.bool b]]=some (.int .i64 4,[some (.cells [.bool (b)])]):=CallH_iff.2 ⟨6000,by kernel_rfl⟩
theorem FN (b:Bool):CallH Q 78 [.ptr 0 0,av (bx 5)] [.cells [.bool b]]=some (.int .i64 5,[some (.cells [.bool (b)])]):=CallH_iff.2 ⟨6000,by kernel_rfl⟩
theorem FO (b:Bool):CallH Q 78 [.ptr 0 0,av (bx 6)] [.cells [.bool b]]=some (.int .i64 6,[some (.cells [.bool (b)])]):=CallH_iff.2 ⟨6000,by kernel_rfl⟩
theorem FP (b:Bool):CallH Q 78 [.ptr 0 0,av (bx 7)] [.cells [.bool b]]=some (.int .i64 7,[some (.cells [.bool (b)])]):=CallH_iff.2 ⟨6000,by kernel_rfl⟩
theorem FQ (b:Bool):CallH Q 78 [.ptr 0 0,av (bx 8)] [.cells [.bool b]]=some (.int .i64 8,[some (.cells [.bool (b)])]):=CallH_iff.2 ⟨6000,by kernel_rfl⟩
theorem FR (b:Bool):CallH Q 78 [.ptr 0 0,av (bx 9)] [.cells [.bool b]]=some (.int .i64 9,[some (.cells [.bool (b)])]):=CallH_iff.2 ⟨6000,by kernel_rfl⟩
theorem q7 (n:Int) (h:1≤n∧n≤9) (b:Bool):CallH Q 78 [.ptr 0 0,av (bx n)] [.cells [.bool b]]=some (.int .i64 n,[some (.cells [.bool (b)])]):=by
 have hn:n=1∨n=2∨n=3∨n=4∨n=5∨n=6∨n=7∨n=8∨n=9:=by omega
 rcases hn with rfl|rfl|rfl|rfl|rfl|rfl|rfl|rfl|rfl
 ·exact FI b
 ·exact FJ b
 ·exact FL b
 ·exact FM b
 ·exact FN b
 ·exact FO b
 ·exact FP b
 ·exact FQ b
 ·exact FR b
end Go.Mini

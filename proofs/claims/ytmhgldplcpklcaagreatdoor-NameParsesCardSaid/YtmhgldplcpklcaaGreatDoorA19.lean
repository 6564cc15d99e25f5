/- any value's DN and any DN's value are the document's: the law by that interpreter (part 19): what the program's functions answer, or plain laws of it; no conditions. -/
import Derived.Test.YtmhgldplcpklcaaGreatDoorA04
import Derived.Lib.ValidAsc
import Derived.Laws.BitsAllLaws
set_option linter.all false
namespace Go.Mini.V8
open Go Go.Proofs.YtmhgldplcpklcaaGreatDoor
set_option maxRecDepth 100000
set_option maxHeartbeats 8000000
def Qv:Mini.Prog:=⟨codeV,fun _=>none⟩
theorem wrap_id {n:Int} (h0:0≤n) (h:n<18446744073709551616):IntKind.u64.wrap n=n:=by
 rw[IntKind.wrap_u64];omega
theorem or_step (k:Nat) (hk:k≤7) (X:Nat) (b:UInt8) (hX:X<2^(8*k)) (m:Int) (hm:m=((b.toNat*2^(8*k):Nat):Int)):
  IntKind.u64.wrap ((BitVec.ofInt IntKind.u64.bits (X:Int)|||BitVec.ofInt IntKind.u64.bits m).toNat:Int)=((X+b.toNat*2^(8*k):Nat):Int):=by
 have hb:=b.toNat_lt
 have h1:(2:Nat)^(8*k)≤2^56:=Nat.pow_le_pow_right (by decide) (by omega)
 have h2:b.toNat*2^(8*k)≤255*2^56:=Nat.mul_le_mul (by omega) h1
 have h:=u64_or_nat X (b.toNat*2^(8*k)) (by omega) (by omega)
 rw[hm]
 refine h.trans ?_
 congr 1
 rw[Nat.or_comm,Nat.mul_comm,←Nat.two_pow_add_eq_or_of_lt hX,Nat.add_comm]
theorem shl1 (b:UInt8):shiftI .shl .u64 (b.toNat:Int) 8=some (.int .u64 ((b.toNat*2^(8*1):Nat):Int)):=by
 have hb:=b.toNat_lt
 unfold shiftI
 rw[if_neg (by decide)]
 simp only
 rw[wrap_id]<;>(simp[IntKind.bits];try omega)
theorem shl2 (b:UInt8):shiftI .shl .u64 (b.toNat:Int) 16=some (.int .u64 ((b.toNat*2^(8*2):Nat):Int)):=by
 have hb:=b.toNat_lt
 unfold shiftI
 rw[if_neg (by decide)]
 simp only
 rw[wrap_id]<;>(simp[IntKind.bits];try omega)
theorem shl3 (b:UInt8):shiftI .shl .u64 (b.toNat:Int) 24=some (.int .u64 ((b.toNat*2^(8*3):Nat):Int)):=by
 have hb:=b.toNat_lt
 unfold shiftI
 rw[if_neg (by decide)]
 simp only
 rw[wrap_id]<;>(simp[IntKind.bits];try omega)
theorem shl4 (b:UInt8):shiftI .shl .u64 (b.toNat:Int) 32=some (.int .u64 ((b.toNat*2^(8*4):Nat):Int)):=by
 have hb:=b.toNat_lt
 unfold shiftI
 rw[if_neg (by decide)]
 simp only
 rw[wrap_id]<;>(simp[IntKind.bits];try omega)
theorem shl5 (b:UInt8):shiftI .shl .u64 (b.toNat:Int) 40=some (.int .u64 ((b.toNat*2^(8*5):Nat):Int)):=by
 have hb:=b.toNat_lt
 unfold shiftI
 rw[if_neg (by decide)]
 simp only
 rw[wrap_id]<;>(simp[IntKind.bits];try omega)
theorem shl6 (b:UInt8):shiftI .shl .u64 (b.toNat:Int) 48=some (.int .u64 ((b.toNat*2^(8*6):Nat):Int)):=by
 have hb:=b.toNat_lt
 unfold shiftI
 rw[if_neg (by decide)]
 simp only
 rw[wrap_id]<;>(simp[IntKind.bits];try omega)
theorem shl7 (b:UInt8):shiftI .shl .u64 (b.toNat:Int) 56=some (.int .u64 ((b.toNat*2^(8*7):Nat):Int)):=by
 have hb:=b.toNat_lt
 unfold shiftI
 rw[if_neg (by decide)]
 simp only
 rw[wrap_id]<;>(simp[IntKind.bits];try omega)
theorem wb (b:UInt8):IntKind.u64.wrap (b.toNat:Int)=b.toNat:=by
 have hb:=b.toNat_lt
 exact wrap_id (by omega) (by omega)
theorem c_word (x0 x1 x2 x3 x4 x5 x6 x7:UInt8) (r:List UInt8):Call Qv 146 [.bs (x0::x1::x2::x3::x4::x5::x6::x7::r)]=some (.int .u64 (Lib.leNat [x0,x1,x2,x3,x4,x5,x6,x7]:Nat)):=by
 have hl:(x0::x1::x2::x3::x4::x5::x6::x7::r).length=r.length+8:=rfl
 rw[Call_fn Qv (m:=m146) rfl rfl]
 apply hide;intro rhs hrhs
 simp(maxSteps:=4000000)(disch:=first|exact dz|fail)only[bB.u,seval,cut,m146,List.getElem?_cons_zero,List.getElem?_cons_succ,List.length_cons,wb,shl1,shl2,shl3,shl4,shl5,shl6,shl7]
 subst hrhs
 have b0:=x0.toNat_lt;have b1:=x1.toNat_lt;have b2:=x2.toNat_lt;have b3:=x3.toNat_lt;have b4:=x4.toNat_lt;have b5:=x5.toNat_lt;have b6:=x6.toNat_lt;have b7:=x7.toNat_lt
 rw[or_step 1 (by omega) (x0.toNat) x1 (by omega) (((x1.toNat*256:Nat):Int)) rfl]
 rw[or_step 2 (by omega) (x0.toNat+x1.toNat*2^(8*1)) x2 (by omega) (((x2.toNat*65536:Nat):Int)) rfl]
 rw[or_step 3 (by omega) (x0.toNat+x1.toNat*2^(8*1)+x2.toNat*2^(8*2)) x3 (by omega) (((x3.toNat*16777216:Nat):Int)) rfl]
 rw[or_step 4 (by omega) (x0.toNat+x1.toNat*2^(8*1)+x2.toNat*2^(8*2)+x3.toNat*2^(8*3)) x4 (by omega) (((x4.toNat*4294967296:Nat):Int)) rfl]
 rw[or_step 5 (by omega) (x0.toNat+x1.toNat*2^(8*1)+x2.toNat*2^(8*2)+x3.toNat*2^(8*3)+x4.toNat*2^(8*4)) x5 (by omega) (((x5.toNat*1099511627776:Nat):Int)) rfl]
 rw[or_step 6 (by omega) (x0.toNat+x1.toNat*2^(8*1)+x2.toNat*2^(8*2)+x3.toNat*2^(8*3)+x4.toNat*2^(8*4)+x5.toNat*2^(8*5)) x6 (by omega) (((x6.toNat*281474976710656:Nat):Int)) rfl]
 rw[or_step 7 (by omega) (x0.toNat+x1.toNat*2^(8*1)+x2.toNat*2^(8*2)+x3.toNat*2^(8*3)+x4.toNat*2^(8*4)+x5.toNat*2^(8*5)+x6.toNat*2^(8*6)) x7 (by omega) (((x7.toNat*72057594037927936:Nat):Int)) rfl]
 simp only[Lib.leNat]
 refine congrArg some (congrArg (MV.int .u64) (congrArg _ ?_))
 omega
def R_v:List (Nat × Option (Bool × Nat) × PK):=[(2,none,.other)]
def v_tail:MCode:=(.seq (.rg [oV 2 (.mv (.c (.bool true)))])
  (.ret))
def wordN (l:List UInt8):Nat:=Lib.leNat (l.take 8)
theorem canon_congV {keep:List (Nat × KMode)} {st:DS} {V:List (Nat × MV)} {O:List (Nat × Obj)} {nx:Nat} (h1:(canon keep st).V=V) (h2:(canon keep st).O=O) (h3:(canon keep st).nx=nx):canon keep st=⟨V,[],O,nx⟩:=by
 subst h1;subst h2;subst h3;rfl
theorem c_word8 (l:List UInt8) (h:8≤l.length):Call Qv 146 [.bs l]=some (.int .u64 (wordN l:Nat)):=by
 match l,h with
 |x0::x1::x2::x3::x4::x5::x6::x7::r,_=>exact c_word x0 x1 x2 x3 x4 x5 x6 x7 r
theorem wordN_lt (l:List UInt8) (h:8≤l.length):wordN l<18446744073709551616:=by
 have:=Lib.leNat_lt (l.take 8)
 rw[List.length_take,Nat.min_eq_left h]at this
 exact Nat.lt_of_lt_of_eq this (by decide)
theorem wordN_asc (l:List UInt8) (h:8≤l.length):wordN l&&&9259542123273814144=0↔∀b∈l.take 8,b.toNat<128:=by
 have:=Lib.leNat_mask (l.take 8)
 rw[List.length_take,Nat.min_eq_left h,Lib.maskN8]at this
 exact this
theorem asc_next (l:List UInt8) (a b:Nat) (h1:∀c∈l.take a,c.toNat<128) (h2:∀c∈(l.drop a).take b,c.toNat<128):∀c∈l.take (a+b),c.toNat<128:=by
 intro c hc
 rw[List.take_add]at hc
 rcases List.mem_append.1 hc with h|h
 ·exact h1 c h
 ·exact h2 c h
theorem andM {X:Nat} (h:X<18446744073709551616):IntKind.u64.wrap ((BitVec.ofInt IntKind.u64.bits (X:Int)&&&BitVec.ofInt IntKind.u64.bits 9259542123273814144).toNat:Int)=((X&&&9259542123273814144:Nat):Int):=
 u64_and_nat X 9259542123273814144 h (by decide)
theorem orM {X Y:Nat} (h:X<18446744073709551616) (k:Y<18446744073709551616):IntKind.u64.wrap ((BitVec.ofInt IntKind.u64.bits (X:Int)|||BitVec.ofInt IntKind.u64.bits (Y:Int)).toNat:Int)=((X|||Y:Nat):Int):=
 u64_or_nat X Y h k
theorem or_lt {X Y:Nat} (h:X<18446744073709551616) (k:Y<18446744073709551616):X|||Y<18446744073709551616:=Nat.or_lt_two_pow (n:=64) h k
theorem dr (l:List UInt8) (k:Nat):(l.drop k).take (l.length-k)=l.drop k:=List.take_of_length_le (by simp)
theorem v_in:∀(n:Nat) (l:List UInt8),l.length≤n→∃l',l'.length≤l.length∧Lib.validD l'=Lib.validD l∧∀K,
  fin R_v (RunL Qv m124k1 m124b1 (.blk 2::K) ⟨[(0,.bs l)],[],[],1⟩)=fin R_v (Run Qv K ⟨[(69,.bool false),(0,.bs l')],[],[],85⟩):=by
 intro n
 induction n with
 |zero=>
  intro l h
  obtain rfl:l=[]:=List.eq_nil_of_length_eq_zero (by omega)
  refine⟨[],Nat.le_refl _,rfl,fun K=>?_⟩
  obtain⟨b',hb'⟩:∃b',b'=m124b1:=⟨_,rfl⟩
  rw[RunL_eq,show Item.lp m124k1 m124b1=Item.lp m124k1 b' by rw[hb']]
  apply hide;intro rhs hrhs
  simp(maxSteps:=4000000)(disch:=first|exact dz|fail)only[bB.u,seval,cut,m124b1,List.length_nil]
  repeat'((with_reducible first|refine sp ?_ ?_|fail)<;>intro hx<;>(try simp only[bI.u]at hx)<;>(first|exact xz|(try simp(maxSteps:=4000000)(disch:=first|exact dz|fail)only[bB.u,seval,cut,hx,m124b1,List.length_nil])))
  all_goals first|exact xz|(subst hrhs;rfl)
 |succ n ih=>
  intro l h
  by_cases h32:32<l.length
  ·have c32:decide (32<(l.length:Int))=true:=by simp;omega
   have w0:=c_word8 l (by omega)
   have w1:=c_word8 (l.drop 8) (by simp;omega)
   have w2:=c_word8 (l.drop 16) (by simp;omega)
   have w3:=c_word8 (l.drop 24) (by simp;omega)
   have k0:=wordN_lt l (by omega)
   have k1:=wordN_lt (l.drop 8) (by simp;omega)
   have k2:=wordN_lt (l.drop 16) (by simp;omega)
   have k3:=wordN_lt (l.drop 24) (by simp;omega)
   have a0:=wordN_asc l (by omega)
   have a1:=wordN_asc (l.drop 8) (by simp;omega)
   have a2:=wordN_asc (l.drop 16) (by simp;omega)
   have a3:=wordN_asc (l.drop 24) (by simp;omega)
   have d0:=dr l 8
   have d1:=dr l 16
   have d2:=dr l 24
   have d3:=dr l 32
   have q8:(8:Int)≤l.length:=by omega
   have q16:(16:Int)≤l.length:=by omega
   have q24:(24:Int)≤l.length:=by omega
   have q32:(32:Int)≤l.length:=by omega
   generalize hW0:wordN l=W0 at *
   generalize hW1:wordN (l.drop 8)=W1 at *
   generalize hW2:wordN (l.drop 16)=W2 at *
   generalize hW3:wordN (l.drop 24)=W3 at *
   have o1:=orM k0 k1
   have o2:=orM k2 k3
   have k4:=or_lt k0 k1
   have k5:=or_lt k2 k3
   have o3:=orM k4 k5
   have k6:=or_lt k4 k5
   have o4:=andM k6
   by_cases hz:((W0|||W1)|||(W2|||W3))&&&9259542123273814144=0
   ·have hz':(((((W0|||W1)|||(W2|||W3))&&&9259542123273814144:Nat):Int)==0)=true:=by rw[hz];rfl
    have hasc:∀c∈l.take 32,c.toNat<128:=by
     rw[Lib.or_mask,Lib.or_mask,Lib.or_mask]at hz
     obtain⟨⟨z0,z1⟩,z2,z3⟩:=hz
     refine asc_next l 24 8 (asc_next l 16 8 (asc_next l 8 8 (a0.1 z0) (a1.1 z1)) (a2.1 z2)) (a3.1 z3)
    obtain⟨l',e1,e2,e3⟩:=ih (l.drop 32) (by simp;omega)
    refine⟨l',by simp at e1;omega,e2.trans (Lib.validD_ascii 32 l hasc).symm,fun K=>Eq.trans ?_ (e3 K)⟩
    obtain⟨b',hb'⟩:∃b',b'=m124b1:=⟨_,rfl⟩
    rw[RunL_eq,show Item.lp m124k1 m124b1=Item.lp m124k1 b' by rw[hb']]
    apply hide;intro rhs hrhs
    simp(maxSteps:=4000000)(disch:=first|exact dz|fail)only[bB.u,seval,cut,m124b1,c32,w0,w1,w2,w3,o1,o2,o3,o4,hz',d0,d1,d2,d3,q8,q16,q24,q32]
    repeat'((with_reducible first|refine sp ?_ ?_|fail)<;>intro hx<;>(try simp only[bI.u]at hx)<;>(first|exact xz|(try simp(maxSteps:=4000000)(disch:=first|exact dz|fail)only[bB.u,seval,cut,hx,m124b1,c32,w0,w1,w2,w3,o1,o2,o3,o4,hz',d0,d1,d2,d3,q8,q16,q24,q32])))
    all_goals first|exact xz|(subst hrhs;(subst hb';refine(congrArg (fin _) (Run_lp Qv _ _ _ _)).trans ?_;exact congrArg (fin R_v) (RunL_canon (canon_congV kr kr kr))))
   ·have hz':(((((W0|||W1)|||(W2|||W3))&&&9259542123273814144:Nat):Int)==0)=false:=by simpa using hz
    refine⟨l,Nat.le_refl _,rfl,fun K=>?_⟩
    obtain⟨b',hb'⟩:∃b',b'=m124b1:=⟨_,rfl⟩
    rw[RunL_eq,show Item.lp m124k1 m124b1=Item.lp m124k1 b' by rw[hb']]
    apply hide;intro rhs hrhs
    simp(maxSteps:=4000000)(disch:=first|exact dz|fail)only[bB.u,seval,cut,m124b1,c32,w0,w1,w2,w3,o1,o2,o3,o4,hz',d0,d1,d2,d3,q8,q16,q24,q32]
    repeat'((with_reducible first|refine sp ?_ ?_|fail)<;>intro hx<;>(try simp only[bI.u]at hx)<;>(first|exact xz|(try simp(maxSteps:=4000000)(disch:=first|exact dz|fail)only[bB.u,seval,cut,hx,m124b1,c32,w0,w1,w2,w3,o1,o2,o3,o4,hz',d0,d1,d2,d3,q8,q16,q24,q32])))
    all_goals first|exact xz|(subst hrhs;rfl)
  ·have c32:decide (32<(l.length:Int))=false:=by simp;omega
   refine⟨l,Nat.le_refl _,rfl,fun K=>?_⟩
   obtain⟨b',hb'⟩:∃b',b'=m124b1:=⟨_,rfl⟩
   rw[RunL_eq,show Item.lp m124k1 m124b1=Item.lp m124k1 b' by rw[hb']]
   apply hide;intro rhs hrhs
   simp(maxSteps:=4000000)(disch:=first|exact dz|fail)only[bB.u,seval,cut,m124b1,c32]
   repeat'((with_reducible first|refine sp ?_ ?_|fail)<;>intro hx<;>(try simp only[bI.u]at hx)<;>(first|exact xz|(try simp(maxSteps:=4000000)(disch:=first|exact dz|fail)only[bB.u,seval,cut,hx,m124b1,c32])))
   all_goals first|exact xz|(subst hrhs;rfl)
theorem v_nil:fin R_v (RunL Qv m124k0 m124b0 [.blk 0,.code v_tail] ⟨[(0,.bs [])],[],[],1⟩)=some (.bool true):=by
 obtain⟨b',hb'⟩:∃b',b'=m124b0:=⟨_,rfl⟩
 rw[RunL_eq,show Item.lp m124k0 m124b0=Item.lp m124k0 b' by rw[hb']]
 apply hide;intro rhs hrhs
 simp(maxSteps:=4000000)(disch:=first|exact dz|fail)only[bB.u,seval,cut,m124b0,v_tail,R_v,List.length_nil]
 repeat'((with_reducible first|refine sp ?_ ?_|fail)<;>intro hx<;>(try simp only[bI.u]at hx)<;>(first|exact xz|(try simp(maxSteps:=4000000)(disch:=first|exact dz|fail)only[bB.u,seval,cut,hx,m124b0,v_tail,R_v,List.length_nil])))
 all_goals first|exact xz|(subst hrhs;rfl)
theorem v_asc (l:List UInt8) (x0:UInt8) (hl:l[0]? = some x0) (hx:x0.toNat<128):∃l',l'.length<l.length∧Lib.validD l'=Lib.validD l∧fin R_v (RunL Qv m124k0 m124b0 [.blk 0,.code v_tail] ⟨[(0,.bs l)],[],[],1⟩)=fin R_v (RunL Qv m124k0 m124b0 [.blk 0,.code v_tail] ⟨[(0,.bs l')],[],[],1⟩):=by
 have h0:0<l.length:=(List.getElem?_eq_some_iff.1 hl).1
 have i0:(0:Int)<l.length:=by omega
 have c0:decide (0<(l.length:Int))=true:=by simpa using i0
 have q1:(1:Int)≤l.length:=by omega
 have d1:=dr l 1
 have cx:decide ((x0.toNat:Int)<128)=true:=by simp;omega
 have a1:∀b∈l.take 1,b.toNat<128:=by
  match l,hl with
  |a::r,hl=>intro b hb;simp at hb hl;subst hb;rw[hl];exact hx
 have v1:=Lib.validD_ascii 1 l a1
 have z1:(l.drop 1).length=l.length-1:=by simp
 generalize hr:l.drop 1=r at *
 by_cases h8:8<r.length
 ·have c8:decide (8<(r.length:Int))=true:=by simp;omega
  have q8:(8:Int)≤r.length:=by omega
  have w0:=c_word8 r (by omega)
  have k0:=wordN_lt r (by omega)
  have a0:=wordN_asc r (by omega)
  have d8:=dr r 8
  have z8:(r.drop 8).length=r.length-8:=by simp
  have v8:=Lib.validD_ascii 8 r
  generalize wordN r=W0 at *
  have o0:=andM k0
  by_cases hz:W0&&&9259542123273814144=0
  ·have hz':(((W0&&&9259542123273814144:Nat):Int)==0)=true:=by rw[hz];rfl
   have v8:=v8 (a0.1 hz)
   generalize hu:r.drop 8=u at *
   by_cases h16:16<u.length
   ·have c16:decide (16<(u.length:Int))=true:=by simp;omega
    have q8u:(8:Int)≤u.length:=by omega
    have q16:(16:Int)≤u.length:=by omega
    have w1:=c_word8 u (by omega)
    have w2:=c_word8 (u.drop 8) (by simp;omega)
    have k1:=wordN_lt u (by omega)
    have k2:=wordN_lt (u.drop 8) (by simp;omega)
    have b1:=wordN_asc u (by omega)
    have b2:=wordN_asc (u.drop 8) (by simp;omega)
    have e8:=dr u 8
    have e16:=dr u 16
    have z16:(u.drop 16).length=u.length-16:=by simp
    generalize wordN u=W1 at *
    generalize wordN (u.drop 8)=W2 at *
    have o1:=orM k1 k2
    have o2:=andM (or_lt k1 k2)
    by_cases hy:(W1|||W2)&&&9259542123273814144=0
    ·have hy':((((W1|||W2)&&&9259542123273814144:Nat):Int)==0)=true:=by rw[hy];rfl
     have v16:=Lib.validD_ascii 16 u (by
      rw[Lib.or_mask]at hy
      exact asc_next u 8 8 (b1.1 hy.1) (b2.1 hy.2))
     generalize hs:u.drop 16=s at *
     obtain⟨l',y1,y2,y3⟩:=v_in s.length s (Nat.le_refl _)
     refine⟨l',by omega,by rw[y2,←v16,←v8,←v1],?_⟩
     obtain⟨b',hb'⟩:∃b',b'=m124b0:=⟨_,rfl⟩
     rw[RunL_eq,show Item.lp m124k0 m124b0=Item.lp m124k0 b' by rw[hb']]
     apply hide;intro rhs hrhs
     simp(maxSteps:=4000000)(disch:=first|exact dz|fail)only[bB.u,seval,cut,m124b0,i0,c0,hl,cx,q1,d1,hr,c8,q8,w0,o0,hz',d8,hu,c16,q8u,q16,w1,w2,e8,e16,hs,o1,o2,hy',Run_loop]
     repeat'((with_reducible first|refine sp ?_ ?_|fail)<;>intro hx<;>(try simp only[bI.u]at hx)<;>(first|exact xz|(try simp(maxSteps:=4000000)(disch:=first|exact dz|fail)only[bB.u,seval,cut,hx,m124b0,i0,c0,hl,cx,q1,d1,hr,c8,q8,w0,o0,hz',d8,hu,c16,q8u,q16,w1,w2,e8,e16,hs,o1,o2,hy',Run_loop])))
     all_goals first|exact xz|(subst hrhs;(refine(congrArg (fin _) (RunL_canon (st':=⟨[(0,.bs s)],[],[],1⟩) kr)).trans ((y3 _).trans ?_);simp(maxSteps:=4000000)(disch:=first|exact dz|fail)only[bB.u,seval,cut,Run_loop];(subst hb';refine(congrArg (fin _) (Run_lp Qv _ _ _ _)).trans ?_;exact congrArg (fin R_v) (RunL_canon (canon_congV kr kr kr)))))
    ·have hy':((((W1|||W2)&&&9259542123273814144:Nat):Int)==0)=false:=by simpa using hy
     refine⟨u,by omega,by rw[←v8,←v1],?_⟩
     obtain⟨b',hb'⟩:∃b',b'=m124b0:=⟨_,rfl⟩
     rw[RunL_eq,show Item.lp m124k0 m124b0=Item.lp m124k0 b' by rw[hb']]
     apply hide;intro rhs hrhs
     simp(maxSteps:=4000000)(disch:=first|exact dz|fail)only[bB.u,seval,cut,m124b0,i0,c0,hl,cx,q1,d1,hr,c8,q8,w0,o0,hz',d8,hu,c16,q8u,q16,w1,w2,e8,e16,o1,o2,hy']
     repeat'((with_reducible first|refine sp ?_ ?_|fail)<;>intro hx<;>(try simp only[bI.u]at hx)<;>(first|exact xz|(try simp(maxSteps:=4000000)(disch:=first|exact dz|fail)only[bB.u,seval,cut,hx,m124b0,i0,c0,hl,cx,q1,d1,hr,c8,q8,w0,o0,hz',d8,hu,c16,q8u,q16,w1,w2,e8,e16,o1,o2,hy'])))
     all_goals first|exact xz|(subst hrhs;(subst hb';refine(congrArg (fin _) (Run_lp Qv _ _ _ _)).trans ?_;exact congrArg (fin R_v) (RunL_canon (canon_congV kr kr kr))))
   ·have c16:decide (16<(u.length:Int))=false:=by simp;omega
    refine⟨u,by omega,by rw[←v8,←v1],?_⟩
    obtain⟨b',hb'⟩:∃b',b'=m124b0:=⟨_,rfl⟩
    rw[RunL_eq,show Item.lp m124k0 m124b0=Item.lp m124k0 b' by rw[hb']]
    apply hide;intro rhs hrhs
    simp(maxSteps:=4000000)(disch:=first|exact dz|fail)only[bB.u,seval,cut,m124b0,i0,c0,hl,cx,q1,d1,hr,c8,q8,w0,o0,hz',d8,hu,c16]
    repeat'((with_reducible first|refine sp ?_ ?_|fail)<;>intro hx<;>(try simp only[bI.u]at hx)<;>(first|exact xz|(try simp(maxSteps:=4000000)(disch:=first|exact dz|fail)only[bB.u,seval,cut,hx,m124b0,i0,c0,hl,cx,q1,d1,hr,c8,q8,w0,o0,hz',d8,hu,c16])))
    all_goals first|exact xz|(subst hrhs;(subst hb';refine(congrArg (fin _) (Run_lp Qv _ _ _ _)).trans ?_;exact congrArg (fin R_v) (RunL_canon (canon_congV kr kr kr))))
  ·have hz':(((W0&&&9259542123273814144:Nat):Int)==0)=false:=by simpa using hz
   refine⟨r,by omega,by rw[←v1],?_⟩
   obtain⟨b',hb'⟩:∃b',b'=m124b0:=⟨_,rfl⟩
   rw[RunL_eq,show Item.lp m124k0 m124b0=Item.lp m124k0 b' by rw[hb']]
   apply hide;intro rhs hrhs
   simp(maxSteps:=4000000)(disch:=first|exact dz|fail)only[bB.u,seval,cut,m124b0,i0,c0,hl,cx,q1,d1,hr,c8,q8,w0,o0,hz']
   repeat'((with_reducible first|refine sp ?_ ?_|fail)<;>intro hx<;>(try simp only[bI.u]at hx)<;>(first|exact xz|(try simp(maxSteps:=4000000)(disch:=first|exact dz|fail)only[bB.u,seval,cut,hx,m124b0,i0,c0,hl,cx,q1,d1,hr,c8,q8,w0,o0,hz'])))
   all_goals first|exact xz|(subst hrhs;(subst hb';refine(congrArg (fin _) (Run_lp Qv _ _ _ _)).trans ?_;exact congrArg (fin R_v) (RunL_canon (canon_congV kr kr kr))))
 ·have c8:decide (8<(r.length:Int))=false:=by simp;omega
  refine⟨r,by omega,by rw[←v1],?_⟩
  obtain⟨b',hb'⟩:∃b',b'=m124b0:=⟨_,rfl⟩
  rw[RunL_eq,show Item.lp m124k0 m124b0=Item.lp m124k0 b' by rw[hb']]
  apply hide;intro rhs hrhs
  simp(maxSteps:=4000000)(disch:=first|exact dz|fail)only[bB.u,seval,cut,m124b0,i0,c0,hl,cx,q1,d1,hr,c8]
  repeat'((with_reducible first|refine sp ?_ ?_|fail)<;>intro hx<;>(try simp only[bI.u]at hx)<;>(first|exact xz|(try simp(maxSteps:=4000000)(disch:=first|exact dz|fail)only[bB.u,seval,cut,hx,m124b0,i0,c0,hl,cx,q1,d1,hr,c8])))
  all_goals first|exact xz|(subst hrhs;(subst hb';refine(congrArg (fin _) (Run_lp Qv _ _ _ _)).trans ?_;exact congrArg (fin R_v) (RunL_canon (canon_congV kr kr kr))))
theorem tab0_drop:∀b:Fin 256,(List.drop b.val (tabZ 0)).head? = some (Lib.firstT b.val:Int):=by decide +kernel
theorem tab1_drop:∀b:Fin 16,(List.drop (b.val*2) (tabZ 1)).take 2=[(Lib.accLo b.val:Int),(Lib.accHi b.val:Int)]:=by decide +kernel
theorem tab0_at {b:Nat} (h:b<256):∃r,List.drop b (tabL 0)= .int .u8 (Lib.firstT b:Int)::r:=by
 have:=tab0_drop ⟨b,h⟩
 simp only at this
 unfold tabL
 rw[←List.map_drop]
 cases hd:List.drop b (tabZ 0)with
 |nil=>rw[hd]at this;cases this
 |cons z r=>rw[hd]at this;cases this;exact⟨_,rfl⟩
theorem tab1_at {b:Nat} (h:b<16):∃r,List.drop (b*2) (tabL 1)= .int .u8 (Lib.accLo b:Int):: .int .u8 (Lib.accHi b:Int)::r:=by
 have:=tab1_drop ⟨b,h⟩
 simp only at this
 unfold tabL
 rw[←List.map_drop]
 match hd:List.drop (b*2) (tabZ 1),this with
 |z::y::r,this=>
  simp only[List.take_succ_cons,List.take_zero,List.cons.injEq,and_true]at this
  exact⟨r.map (.int .u8),by rw[this.1,this.2];rfl⟩
theorem and7f:∀X:Fin 256,IntKind.u8.wrap ((BitVec.ofInt IntKind.u8.bits ((X.val:Nat):Int)&&&BitVec.ofInt IntKind.u8.bits 7).toNat:Int)=((X.val%8:Nat):Int):=by decide +kernel
theorem shr4f:∀X:Fin 256,shiftI .shr .u8 ((X.val:Nat):Int) 4=some (.int .u8 ((X.val/16:Nat):Int)):=by
 intro X
 simp[shiftI,IntKind.bits,Int.fdiv_eq_ediv_of_nonneg]
theorem wrapS {n:Nat} (h:n<8):IntKind.i64.wrap (n:Int)=n:=by
 have:n=0∨n=1∨n=2∨n=3∨n=4∨n=5∨n=6∨n=7:=by omega
 rcases this with rfl|rfl|rfl|rfl|rfl|rfl|rfl|rfl<;>rfl
theorem v_lead (l:List UInt8) (x0:UInt8) (hl:l[0]? = some x0) (hx:128≤x0.toNat):fin R_v (RunL Qv m124k0 m124b0 [.blk 0,.code v_tail] ⟨[(0,.bs l)],[],[],1⟩) =
  match Lib.checkN l.length (l.getD 1 0).toNat (l.getD 2 0).toNat (l.getD 3 0).toNat (Lib.firstT x0.toNat%8) (Lib.accLo (Lib.firstT x0.toNat/16)) (Lib.accHi (Lib.firstT x0.toNat/16))with
  |none=>some (.bool false)
  |some k=>fin R_v (RunL Qv m124k0 m124b0 [.blk 0,.code v_tail] ⟨[(0,.bs (l.drop k))],[],[],1⟩):=by
 have h0:0<l.length:=(List.getElem?_eq_some_iff.1 hl).1
 have i0:(0:Int)<l.length:=by omega
 have c0:decide (0<(l.length:Int))=true:=by simpa using i0
 have cx:decide ((x0.toNat:Int)<128)=false:=by simp;omega
 have lx:=x0.toNat_lt
 obtain⟨r0,t0⟩:=tab0_at lx
 have tl0:(tabL 0).length=256:=by decide +kernel
 have tl1:(tabL 1).length=32:=by decide +kernel
 have hX:Lib.firstT x0.toNat<256:=(show ∀b:Fin 256,Lib.firstT b.val<256 by decide +kernel) ⟨x0.toNat,lx⟩
 obtain⟨X,hXe⟩:∃X,Lib.firstT x0.toNat=X:=⟨_,rfl⟩
 rw[hXe]at t0 hX ⊢
 have a7:=and7f ⟨X,hX⟩
 have s4:=shr4f ⟨X,hX⟩
 simp only at a7 s4
 have wS:=wrapS (Nat.mod_lt X (show 0<8 by decide))
 obtain⟨r1,t1⟩:=tab1_at (show X/16<16 by omega)
 have l16:X/16<16:=by omega
 have y1:=(l.getD 1 0).toNat_lt
 have g1:1<l.length→l[1]? = some (l.getD 1 0):=fun h=>by rw[List.getD_eq_getElem?_getD,List.getElem?_eq_getElem h];rfl
 have g2:2<l.length→l[2]? = some (l.getD 2 0):=fun h=>by rw[List.getD_eq_getElem?_getD,List.getElem?_eq_getElem h];rfl
 have g3:3<l.length→l[3]? = some (l.getD 3 0):=fun h=>by rw[List.getD_eq_getElem?_getD,List.getElem?_eq_getElem h];rfl
 have d2:=dr l 2
 have d3:=dr l 3
 have d4:=dr l 4
 generalize Lib.accLo (X/16)=LO at *
 generalize Lib.accHi (X/16)=HI at *
 generalize l.getD 1 0=x1 at *
 generalize l.getD 2 0=x2 at *
 generalize l.getD 3 0=x3 at *
 obtain⟨V,hV⟩:∃V,X/16=V:=⟨_,rfl⟩
 rw[hV]at s4 t1 l16
 obtain⟨SZ,hSZ⟩:∃SZ,X%8=SZ:=⟨_,rfl⟩
 rw[hSZ]at a7 wS ⊢
 clear hXe hX hV hSZ
 by_cases z2:SZ=2
 ·subst z2
  have cs2:(((2:Nat):Int)==2)=true:=by rfl
  have cs3:(((2:Nat):Int)==3)=false:=by rfl
  have cs4:(((2:Nat):Int)==4)=false:=by rfl
  simp only[Lib.checkN,Nat.reduceEqDiff,if_true,if_false]
  by_cases hk:l.length<2
  ·have ck:decide ((l.length:Int)<2)=true:=by simp;omega
   rw[if_pos (.inl hk)]
   obtain⟨b',hb'⟩:∃b',b'=m124b0:=⟨_,rfl⟩
   rw[RunL_eq,show Item.lp m124k0 m124b0=Item.lp m124k0 b' by rw[hb']]
   apply hide;intro rhs hrhs
   simp(maxSteps:=4000000)(disch:=first|exact dz|fail)only[bB.u,seval,cut,m124b0,R_v,i0,c0,hl,cx,t0,t1,a7,s4,wS,tl0,tl1,List.length_cons,List.getElem?_cons_zero,List.drop_zero,List.take_succ_cons,List.take_zero,cs2,cs3,cs4,ck]
   repeat'((with_reducible first|refine sp ?_ ?_|fail)<;>intro hx<;>(try simp only[bI.u]at hx)<;>(first|exact xz|(try simp(maxSteps:=4000000)(disch:=first|exact dz|fail)only[bB.u,seval,cut,hx,m124b0,R_v,i0,c0,hl,cx,t0,t1,a7,s4,wS,tl0,tl1,List.length_cons,List.getElem?_cons_zero,List.drop_zero,List.take_succ_cons,List.take_zero,cs2,cs3,cs4,ck])))
   all_goals first|exact xz|(subst hrhs;rfl)
  ·have ck:decide ((l.length:Int)<2)=false:=by simp;omega
   have g1:=g1 (by omega)
   have i1:(1:Int)<l.length:=by omega
   have ik:(2:Int)≤l.length:=by omega
   obtain⟨b',hb'⟩:∃b',b'=m124b0:=⟨_,rfl⟩
   rw[RunL_eq,show Item.lp m124k0 m124b0=Item.lp m124k0 b' by rw[hb']]
   apply hide;intro rhs hrhs
   simp(maxSteps:=4000000)(disch:=first|exact dz|fail)only[bB.u,seval,cut,m124b0,R_v,i0,c0,hl,cx,t0,t1,a7,s4,wS,tl0,tl1,List.length_cons,List.getElem?_cons_zero,List.drop_zero,List.take_succ_cons,List.take_zero,cs2,cs3,cs4,ck,g1,i1,ik,d2]
   repeat'((with_reducible first|refine sp ?_ ?_|fail)<;>intro hx<;>(try simp only[bI.u]at hx)<;>(first|exact xz|(try simp(maxSteps:=4000000)(disch:=first|exact dz|fail)only[bB.u,seval,cut,hx,m124b0,R_v,i0,c0,hl,cx,t0,t1,a7,s4,wS,tl0,tl1,List.length_cons,List.getElem?_cons_zero,List.drop_zero,List.take_succ_cons,List.take_zero,cs2,cs3,cs4,ck,g1,i1,ik,d2])))
   all_goals first|exact xz|(subst hrhs;(first|rw[if_pos (by omega)]|(rw[if_neg (by omega)];(subst hb';refine(congrArg (fin _) (Run_lp Qv _ _ _ _)).trans ?_;exact congrArg (fin R_v) (RunL_canon (canon_congV kr kr kr))))))
 by_cases z3:SZ=3
 ·subst z3
  have cs2:(((3:Nat):Int)==2)=false:=by rfl
  have cs3:(((3:Nat):Int)==3)=true:=by rfl
  have cs4:(((3:Nat):Int)==4)=false:=by rfl
  simp only[Lib.checkN,Nat.reduceEqDiff,if_true,if_false]
  by_cases hk:l.length<3
  ·have ck:decide ((l.length:Int)<3)=true:=by simp;omega
   rw[if_pos (.inl hk)]
   obtain⟨b',hb'⟩:∃b',b'=m124b0:=⟨_,rfl⟩
   rw[RunL_eq,show Item.lp m124k0 m124b0=Item.lp m124k0 b' by rw[hb']]
   apply hide;intro rhs hrhs
   simp(maxSteps:=4000000)(disch:=first|exact dz|fail)only[bB.u,seval,cut,m124b0,R_v,i0,c0,hl,cx,t0,t1,a7,s4,wS,tl0,tl1,List.length_cons,List.getElem?_cons_zero,List.drop_zero,List.take_succ_cons,List.take_zero,cs2,cs3,cs4,ck]
   repeat'((with_reducible first|refine sp ?_ ?_|fail)<;>intro hx<;>(try simp only[bI.u]at hx)<;>(first|exact xz|(try simp(maxSteps:=4000000)(disch:=first|exact dz|fail)only[bB.u,seval,cut,hx,m124b0,R_v,i0,c0,hl,cx,t0,t1,a7,s4,wS,tl0,tl1,List.length_cons,List.getElem?_cons_zero,List.drop_zero,List.take_succ_cons,List.take_zero,cs2,cs3,cs4,ck])))
   all_goals first|exact xz|(subst hrhs;rfl)
  ·have ck:decide ((l.length:Int)<3)=false:=by simp;omega
   have g1:=g1 (by omega)
   have i1:(1:Int)<l.length:=by omega
   have g2:=g2 (by omega)
   have i2:(2:Int)<l.length:=by omega
   have ik:(3:Int)≤l.length:=by omega
   obtain⟨b',hb'⟩:∃b',b'=m124b0:=⟨_,rfl⟩
   rw[RunL_eq,show Item.lp m124k0 m124b0=Item.lp m124k0 b' by rw[hb']]
   apply hide;intro rhs hrhs
   simp(maxSteps:=4000000)(disch:=first|exact dz|fail)only[bB.u,seval,cut,m124b0,R_v,i0,c0,hl,cx,t0,t1,a7,s4,wS,tl0,tl1,List.length_cons,List.getElem?_cons_zero,List.drop_zero,List.take_succ_cons,List.take_zero,cs2,cs3,cs4,ck,g1,i1,g2,i2,ik,d3]
   repeat'((with_reducible first|refine sp ?_ ?_|fail)<;>intro hx<;>(try simp only[bI.u]at hx)<;>(first|exact xz|(try simp(maxSteps:=4000000)(disch:=first|exact dz|fail)only[bB.u,seval,cut,hx,m124b0,R_v,i0,c0,hl,cx,t0,t1,a7,s4,wS,tl0,tl1,List.length_cons,List.getElem?_cons_zero,List.drop_zero,List.take_succ_cons,List.take_zero,cs2,cs3,cs4,ck,g1,i1,g2,i2,ik,d3])))
   all_goals first|exact xz|(subst hrhs;(first|rw[if_pos (by omega)]|(rw[if_neg (by omega)];(subst hb';refine(congrArg (fin _) (Run_lp Qv _ _ _ _)).trans ?_;exact congrArg (fin R_v) (RunL_canon (canon_congV kr kr kr))))))
 by_cases z4:SZ=4
 ·subst z4
  have cs2:(((4:Nat):Int)==2)=false:=by rfl
  have cs3:(((4:Nat):Int)==3)=false:=by rfl
  have cs4:(((4:Nat):Int)==4)=true:=by rfl
  simp only[Lib.checkN,Nat.reduceEqDiff,if_true,if_false]
  by_cases hk:l.length<4
  ·have ck:decide ((l.length:Int)<4)=true:=by simp;omega
   rw[if_pos (.inl hk)]
   obtain⟨b',hb'⟩:∃b',b'=m124b0:=⟨_,rfl⟩
   rw[RunL_eq,show Item.lp m124k0 m124b0=Item.lp m124k0 b' by rw[hb']]
   apply hide;intro rhs hrhs
   simp(maxSteps:=4000000)(disch:=first|exact dz|fail)only[bB.u,seval,cut,m124b0,R_v,i0,c0,hl,cx,t0,t1,a7,s4,wS,tl0,tl1,List.length_cons,List.getElem?_cons_zero,List.drop_zero,List.take_succ_cons,List.take_zero,cs2,cs3,cs4,ck]
   repeat'((with_reducible first|refine sp ?_ ?_|fail)<;>intro hx<;>(try simp only[bI.u]at hx)<;>(first|exact xz|(try simp(maxSteps:=4000000)(disch:=first|exact dz|fail)only[bB.u,seval,cut,hx,m124b0,R_v,i0,c0,hl,cx,t0,t1,a7,s4,wS,tl0,tl1,List.length_cons,List.getElem?_cons_zero,List.drop_zero,List.take_succ_cons,List.take_zero,cs2,cs3,cs4,ck])))
   all_goals first|exact xz|(subst hrhs;rfl)
  ·have ck:decide ((l.length:Int)<4)=false:=by simp;omega
   have g1:=g1 (by omega)
   have i1:(1:Int)<l.length:=by omega
   have g2:=g2 (by omega)
   have i2:(2:Int)<l.length:=by omega
   have g3:=g3 (by omega)
   have i3:(3:Int)<l.length:=by omega
   have ik:(4:Int)≤l.length:=by omega
   obtain⟨b',hb'⟩:∃b',b'=m124b0:=⟨_,rfl⟩
   rw[RunL_eq,show Item.lp m124k0 m124b0=Item.lp m124k0 b' by rw[hb']]
   apply hide;intro rhs hrhs
   simp(maxSteps:=4000000)(disch:=first|exact dz|fail)only[bB.u,seval,cut,m124b0,R_v,i0,c0,hl,cx,t0,t1,a7,s4,wS,tl0,tl1,List.length_cons,List.getElem?_cons_zero,List.drop_zero,List.take_succ_cons,List.take_zero,cs2,cs3,cs4,ck,g1,i1,g2,i2,g3,i3,ik,d4]
   repeat'((with_reducible first|refine sp ?_ ?_|fail)<;>intro hx<;>(try simp only[bI.u]at hx)<;>(first|exact xz|(try simp(maxSteps:=4000000)(disch:=first|exact dz|fail)only[bB.u,seval,cut,hx,m124b0,R_v,i0,c0,hl,cx,t0,t1,a7,s4,wS,tl0,tl1,List.length_cons,List.getElem?_cons_zero,List.drop_zero,List.take_succ_cons,List.take_zero,cs2,cs3,cs4,ck,g1,i1,g2,i2,g3,i3,ik,d4])))
   all_goals first|exact xz|(subst hrhs;(first|rw[if_pos (by omega)]|(rw[if_neg (by omega)];(subst hb';refine(congrArg (fin _) (Run_lp Qv _ _ _ _)).trans ?_;exact congrArg (fin R_v) (RunL_canon (canon_congV kr kr kr))))))
 have cs2:((SZ:Int)==2)=false:=by rw[beq_eq_false_iff_ne];omega
 have cs3:((SZ:Int)==3)=false:=by rw[beq_eq_false_iff_ne];omega
 have cs4:((SZ:Int)==4)=false:=by rw[beq_eq_false_iff_ne];omega
 unfold Lib.checkN
 rw[if_neg z2,if_neg z3,if_neg z4]
 obtain⟨b',hb'⟩:∃b',b'=m124b0:=⟨_,rfl⟩
 rw[RunL_eq,show Item.lp m124k0 m124b0=Item.lp m124k0 b' by rw[hb']]
 apply hide;intro rhs hrhs
 simp(maxSteps:=4000000)(disch:=first|exact dz|fail)only[bB.u,seval,cut,m124b0,R_v,i0,c0,hl,cx,t0,t1,a7,s4,wS,tl0,tl1,List.length_cons,List.getElem?_cons_zero,List.drop_zero,List.take_succ_cons,List.take_zero,cs2,cs3,cs4]
 repeat'((with_reducible first|refine sp ?_ ?_|fail)<;>intro hx<;>(try simp only[bI.u]at hx)<;>(first|exact xz|(try simp(maxSteps:=4000000)(disch:=first|exact dz|fail)only[bB.u,seval,cut,hx,m124b0,R_v,i0,c0,hl,cx,t0,t1,a7,s4,wS,tl0,tl1,List.length_cons,List.getElem?_cons_zero,List.drop_zero,List.take_succ_cons,List.take_zero,cs2,cs3,cs4])))
 all_goals first|exact xz|(subst hrhs;rfl)
theorem v_loop:∀(n:Nat) (l:List UInt8),l.length≤n→fin R_v (RunL Qv m124k0 m124b0 [.blk 0,.code v_tail] ⟨[(0,.bs l)],[],[],1⟩)=some (.bool (Lib.validD l)):=by
 intro n
 induction n with
 |zero=>
  intro l h
  obtain rfl:l=[]:=List.eq_nil_of_length_eq_zero (by omega)
  exact v_nil
 |succ n ih=>
  intro l h
  cases hd:l[0]? with
  |none=>
   obtain rfl:l=[]:=by cases l with|nil=>rfl|cons=>cases hd
   exact v_nil
  |some x0=>
   by_cases hx:x0.toNat<128
   ·obtain⟨l',e1,e2,e3⟩:=v_asc l x0 hd hx
    rw[e3,ih l' (by omega),e2]
   ·have hne:l≠[]:=by rintro rfl;cases hd
    have hg:l.getD 0 0=x0:=by rw[List.getD_eq_getElem?_getD,hd];rfl
    have hv:=Lib.validD_lead l hne (by rw[hg];omega)
    rw[hg]at hv
    rw[v_lead l x0 hd (by omega),hv]
    have hk:∀k,Lib.checkN l.length (l.getD 1 0).toNat (l.getD 2 0).toNat (l.getD 3 0).toNat (Lib.firstT x0.toNat%8) (Lib.accLo (Lib.firstT x0.toNat/16)) (Lib.accHi (Lib.firstT x0.toNat/16))=some k→1≤k:=by
     intro k hk
     unfold Lib.checkN at hk
     repeat' split at hk
     all_goals first|(cases hk;omega)|cases hk
    revert hk
    generalize Lib.checkN l.length (l.getD 1 0).toNat (l.getD 2 0).toNat (l.getD 3 0).toNat (Lib.firstT x0.toNat%8) (Lib.accLo (Lib.firstT x0.toNat/16)) (Lib.accHi (Lib.firstT x0.toNat/16))=c
    intro hk
    cases c with
    |none=>rfl
    |some k=>
     have:=hk k rfl
     have hp:0<l.length:=List.length_pos_iff.2 hne
     exact ih _ (by rw[List.length_drop];omega)
theorem dcut (C:CallT) (nm s:Nat) (x h m:X) (st:DS):dOp C nm (.cutF s x h m) st=sliceF s (st.rd x) (st.rd h) (st.rd m) st:=rfl
theorem v_valid (l:List UInt8):Call Qv 124 [.bs l]=some (.bool (Lib.validD l)):=by
 have h:=v_loop l.length l (Nat.le_refl _)
 rw[Call_fn Qv (m:=m124) rfl rfl]
 apply hide;intro rhs hrhs
 simp(maxSteps:=4000000)(disch:=first|exact dz|fail)only[bB.u,seval,cut,m124,dcut,sliceF,sliceV,Nat.sub_zero,List.take_length,List.drop_zero,Run_loop]
 repeat'((with_reducible first|refine sp ?_ ?_|fail)<;>intro hx<;>(try simp only[bI.u]at hx)<;>(first|exact xz|(try simp(maxSteps:=4000000)(disch:=first|exact dz|fail)only[bB.u,seval,cut,hx,m124,dcut,sliceF,sliceV,Nat.sub_zero,List.take_length,List.drop_zero,Run_loop])))
 all_goals first|exact xz|(subst hrhs;exact(congrArg (fin _) (RunL_canon (canon_congV kr kr kr))).trans h)
end Go.Mini.V8

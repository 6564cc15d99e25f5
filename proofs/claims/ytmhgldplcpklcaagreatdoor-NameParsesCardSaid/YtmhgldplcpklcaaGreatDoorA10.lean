/- any value's DN and any DN's value are the document's: the law by that interpreter (part 10): what the program's functions answer, or plain laws of it; no conditions. -/
import Derived.Test.YtmhgldplcpklcaaGreatDoorA05
import Derived.Lib.ValidLaws
set_option linter.all false
namespace Go.Mini
open Go Go.Proofs.YtmhgldplcpklcaaGreatDoor
set_option maxRecDepth 100000
set_option maxHeartbeats 4000000
theorem c_dayR (y m:Int) (hy:0≤y):Call Q 153 [.int .i64 y,.int .i64 m]=some (.int .i64 (dayB y m)):=by
 have t4:y.tmod 4=y%4:=Int.tmod_eq_emod_of_nonneg hy
 have t100:y.tmod 100=y%100:=Int.tmod_eq_emod_of_nonneg hy
 have t400:y.tmod 400=y%400:=Int.tmod_eq_emod_of_nonneg hy
 rw[Call_fn Q (m:=m153) rfl rfl]
 apply hide;intro rhs hrhs
 simp(maxSteps:=4000000)(disch:=first|exact dz|fail)only[bB.u,seval,cut,m153]
 repeat'((with_reducible first|refine sp ?_ ?_|fail)<;>intro hx<;>(try simp only[bI.u]at hx)<;>(first|exact xz|(try simp(maxSteps:=4000000)(disch:=first|exact dz|fail)only[bB.u,seval,cut,hx,m153])))
 all_goals first|exact xz|(subst hrhs;(refine congrArg some (congrArg (MV.int .i64) ?_);unfold dayB;repeat' split;all_goals first|rfl|omega))
def utfN (n b0 b1 b2 b3:Nat):Nat:=if(Lib.decodeN n b0 b1 b2 b3).1=65533∧(Lib.decodeN n b0 b1 b2 b3).2=1 then 0 else(Lib.decodeN n b0 b1 b2 b3).2
def R_u:List (Nat × Option (Bool × Nat) × PK):=[(4,none,.other)]
def u_tail:MCode:=(.seq (sq [qa 80 8,qa 81 7,qB 82 .lss 80 81,qf 83 82,qL 84 8 83,qW 85 .gtr 84 1114111 83,qo 86 83 85,qf 87 86,qL 88 8 87,qW 89 .geq 88 55296 87,gF 90 (.mv (.t 89)) 87,qM 91 8 90,qV 92 .lss 91 57344 90,gF 93 (.pick (.t 90) (.t 92) qF) 87,qq 94 87 93] (.cond (.v 94) (sq [qe 4 0] .ret) .skip)) (sq [qa 95 6,qb 4 95] .ret))
def u_st (b:List UInt8) (a n low v i:Nat):DS:=⟨[(0,.bs b),(1,.int .i64 (a:Nat)),(6,.int .i64 (n:Nat)),(7,.int .i64 (low:Nat)),(8,.int .i64 (v:Nat)),(9,.int .i64 (i:Nat))],[],[],1⟩
theorem u_no (b:List UInt8) (hb:b.length<2^60) (a n low v i:Nat) (hi:i<n) (ha:a+i<b.length) (h:(g0 b (a+i)).toNat<128∨192≤(g0 b (a+i)).toNat):fin R_u (RunL Q m78k0 m78b0 [.blk 0,.code u_tail] (u_st b a n low v i))=some (.int .i64 0):=by
 have hlt:decide ((i:Int)<(n:Int))=true:=by simp;omega
 have hg:=getq b (a+i) ha
 have e1:((a:Int)+(i:Int)).toNat=a+i:=by omega
 generalize g0 b (a+i)=x at hg h
 unfold u_st
 obtain⟨b',hb'⟩:∃b',b'=m78b0:=⟨_,rfl⟩
 rw[RunL_eq,show Item.lp m78k0 m78b0=Item.lp m78k0 b' by rw[hb']]
 apply hide;intro rhs hrhs
 simp(maxSteps:=4000000)(disch:=first|exact dz|fail)only[bB.u,seval,cut,m78b0,R_u,hlt,e1,hg]
 repeat'((with_reducible first|refine sp ?_ ?_|fail)<;>intro hx<;>(try simp only[bI.u]at hx)<;>(first|exact xz|(try simp(maxSteps:=4000000)(disch:=first|exact dz|fail)only[bB.u,seval,cut,hx,m78b0,R_u,hlt,e1,hg])))
 all_goals first|exact xz|(subst hrhs;rfl)
theorem u_yes (b:List UInt8) (hb:b.length<2^60) (a n low v i:Nat) (hi:i<n) (hv:v≤2^40) (ha:a+i<b.length) (h:¬((g0 b (a+i)).toNat<128∨192≤(g0 b (a+i)).toNat)):fin R_u (RunL Q m78k0 m78b0 [.blk 0,.code u_tail] (u_st b a n low v i))=fin R_u (RunL Q m78k0 m78b0 [.blk 0,.code u_tail] (u_st b a n low (64*v+(g0 b (a+i)).toNat%64) (i+1))):=by
 have hlt:decide ((i:Int)<(n:Int))=true:=by simp;omega
 have hg:=getq b (a+i) ha
 have e1:((a:Int)+(i:Int)).toNat=a+i:=by omega
 generalize g0 b (a+i)=x at hg h ⊢
 have e9:((i+1:Nat):Int)=(i:Int)+1:=rfl
 have e8:((64*v+x.toNat%64:Nat):Int)=64*(v:Int)+(x.toNat:Int)%64:=by omega
 unfold u_st
 rw[e9,e8]
 obtain⟨b',hb'⟩:∃b',b'=m78b0:=⟨_,rfl⟩
 rw[RunL_eq,show Item.lp m78k0 m78b0=Item.lp m78k0 b' by rw[hb']]
 apply hide;intro rhs hrhs
 simp(maxSteps:=4000000)(disch:=first|exact dz|fail)only[bB.u,seval,cut,m78b0,R_u,hlt,e1,hg]
 repeat'((with_reducible first|refine sp ?_ ?_|fail)<;>intro hx<;>(try simp only[bI.u]at hx)<;>(first|exact xz|(try simp(maxSteps:=4000000)(disch:=first|exact dz|fail)only[bB.u,seval,cut,hx,m78b0,R_u,hlt,e1,hg])))
 all_goals first|exact xz|(subst hrhs;(subst hb';refine(congrArg (fin _) (Run_lp Q _ _ _ _)).trans ?_;exact congrArg (fin R_u) (RunL_canon (canon_cong kr kr kr))))
theorem u_end (b:List UInt8) (a n low v:Nat) (hv:v≤2^40) (hn:n≤4):fin R_u (RunL Q m78k0 m78b0 [.blk 0,.code u_tail] (u_st b a n low v n))=some (.int .i64 (if v<low∨1114111<v∨(55296≤v∧v<57344)then 0 else n:Nat)):=by
 have hlt:decide ((n:Int)<(n:Int))=false:=by simp
 unfold u_st
 obtain⟨b',hb'⟩:∃b',b'=m78b0:=⟨_,rfl⟩
 rw[RunL_eq,show Item.lp m78k0 m78b0=Item.lp m78k0 b' by rw[hb']]
 apply hide;intro rhs hrhs
 simp(maxSteps:=4000000)(disch:=first|exact dz|fail)only[bB.u,seval,cut,m78b0,u_tail,R_u,hlt]
 repeat'((with_reducible first|refine sp ?_ ?_|fail)<;>intro hx<;>(try simp only[bI.u]at hx)<;>(first|exact xz|(try simp(maxSteps:=4000000)(disch:=first|exact dz|fail)only[bB.u,seval,cut,hx,m78b0,u_tail,R_u,hlt])))
 all_goals first|exact xz|(subst hrhs;(refine congrArg some (congrArg (MV.int .i64) ?_);split<;>first|rfl|omega))
theorem u_start (b:List UInt8) (hb:b.length<2^60) (a:Nat) (ha:a<b.length) (n low v:Nat)
  (h:((g0 b a).toNat<128∧n=1∧low=0∧v=(g0 b a).toNat)∨(192≤(g0 b a).toNat∧(g0 b a).toNat<224∧n=2∧low=128∧v=(g0 b a).toNat%32)∨(224≤(g0 b a).toNat∧(g0 b a).toNat<240∧n=3∧low=2048∧v=(g0 b a).toNat%16)∨(240≤(g0 b a).toNat∧(g0 b a).toNat<248∧n=4∧low=65536∧v=(g0 b a).toNat%8)):
  Call Q 78 [.bs b,.int .i64 (a:Nat)]=if b.length<a+n then some (.int .i64 0)else fin R_u (RunL Q m78k0 m78b0 [.blk 0,.code u_tail] (u_st b a n low v 1)):=by
 have hg:=getq b a ha
 have hx:=(g0 b a).toNat_lt
 generalize g0 b a=x at *
 rw[Call_fn Q (m:=m78) rfl rfl]
 rcases h with⟨h1,rfl,rfl,rfl⟩|⟨h1,h2,rfl,rfl,rfl⟩|⟨h1,h2,rfl,rfl,rfl⟩|⟨h1,h2,rfl,rfl,rfl⟩
 ·have i0:((a:Int)+1).toNat=a+1:=by omega
  by_cases hl:b.length<a+1
  ·rw[if_pos hl]
   exfalso;omega
  ·rw[if_neg hl]
   unfold u_st
   apply hide;intro rhs hrhs
   simp(maxSteps:=4000000)(disch:=first|exact dz|fail)only[bB.u,seval,cut,m78,hg,u_tail,Run_loop]
   repeat'((with_reducible first|refine sp ?_ ?_|fail)<;>intro hx<;>(try simp only[bI.u]at hx)<;>(first|exact xz|(try simp(maxSteps:=4000000)(disch:=first|exact dz|fail)only[bB.u,seval,cut,hx,m78,hg,u_tail,Run_loop])))
   all_goals first|exact xz|(subst hrhs;(exact congrArg (fin R_u) (RunL_canon (canon_cong kr kr kr))))
 ·have i0:((a:Int)+2).toNat=a+2:=by omega
  by_cases hl:b.length<a+2
  ·rw[if_pos hl]
   apply hide;intro rhs hrhs
   simp(maxSteps:=4000000)(disch:=first|exact dz|fail)only[bB.u,seval,cut,m78,hg,u_tail]
   repeat'((with_reducible first|refine sp ?_ ?_|fail)<;>intro hx<;>(try simp only[bI.u]at hx)<;>(first|exact xz|(try simp(maxSteps:=4000000)(disch:=first|exact dz|fail)only[bB.u,seval,cut,hx,m78,hg,u_tail])))
   all_goals first|exact xz|(subst hrhs;rfl)
  ·rw[if_neg hl]
   unfold u_st
   rw[show((x.toNat%32:Nat):Int)=(x.toNat:Int)%32 by omega]
   apply hide;intro rhs hrhs
   simp(maxSteps:=4000000)(disch:=first|exact dz|fail)only[bB.u,seval,cut,m78,hg,u_tail,Run_loop]
   repeat'((with_reducible first|refine sp ?_ ?_|fail)<;>intro hx<;>(try simp only[bI.u]at hx)<;>(first|exact xz|(try simp(maxSteps:=4000000)(disch:=first|exact dz|fail)only[bB.u,seval,cut,hx,m78,hg,u_tail,Run_loop])))
   all_goals first|exact xz|(subst hrhs;(exact congrArg (fin R_u) (RunL_canon (canon_cong kr kr kr))))
 ·have i0:((a:Int)+3).toNat=a+3:=by omega
  by_cases hl:b.length<a+3
  ·rw[if_pos hl]
   apply hide;intro rhs hrhs
   simp(maxSteps:=4000000)(disch:=first|exact dz|fail)only[bB.u,seval,cut,m78,hg,u_tail]
   repeat'((with_reducible first|refine sp ?_ ?_|fail)<;>intro hx<;>(try simp only[bI.u]at hx)<;>(first|exact xz|(try simp(maxSteps:=4000000)(disch:=first|exact dz|fail)only[bB.u,seval,cut,hx,m78,hg,u_tail])))
   all_goals first|exact xz|(subst hrhs;rfl)
  ·rw[if_neg hl]
   unfold u_st
   rw[show((x.toNat%16:Nat):Int)=(x.toNat:Int)%16 by omega]
   apply hide;intro rhs hrhs
   simp(maxSteps:=4000000)(disch:=first|exact dz|fail)only[bB.u,seval,cut,m78,hg,u_tail,Run_loop]
   repeat'((with_reducible first|refine sp ?_ ?_|fail)<;>intro hx<;>(try simp only[bI.u]at hx)<;>(first|exact xz|(try simp(maxSteps:=4000000)(disch:=first|exact dz|fail)only[bB.u,seval,cut,hx,m78,hg,u_tail,Run_loop])))
   all_goals first|exact xz|(subst hrhs;(exact congrArg (fin R_u) (RunL_canon (canon_cong kr kr kr))))
 ·have i0:((a:Int)+4).toNat=a+4:=by omega
  by_cases hl:b.length<a+4
  ·rw[if_pos hl]
   apply hide;intro rhs hrhs
   simp(maxSteps:=4000000)(disch:=first|exact dz|fail)only[bB.u,seval,cut,m78,hg,u_tail]
   repeat'((with_reducible first|refine sp ?_ ?_|fail)<;>intro hx<;>(try simp only[bI.u]at hx)<;>(first|exact xz|(try simp(maxSteps:=4000000)(disch:=first|exact dz|fail)only[bB.u,seval,cut,hx,m78,hg,u_tail])))
   all_goals first|exact xz|(subst hrhs;rfl)
  ·rw[if_neg hl]
   unfold u_st
   rw[show((x.toNat%8:Nat):Int)=(x.toNat:Int)%8 by omega]
   apply hide;intro rhs hrhs
   simp(maxSteps:=4000000)(disch:=first|exact dz|fail)only[bB.u,seval,cut,m78,hg,u_tail,Run_loop]
   repeat'((with_reducible first|refine sp ?_ ?_|fail)<;>intro hx<;>(try simp only[bI.u]at hx)<;>(first|exact xz|(try simp(maxSteps:=4000000)(disch:=first|exact dz|fail)only[bB.u,seval,cut,hx,m78,hg,u_tail,Run_loop])))
   all_goals first|exact xz|(subst hrhs;(exact congrArg (fin R_u) (RunL_canon (canon_cong kr kr kr))))
theorem u_bad (b:List UInt8) (hb:b.length<2^60) (a:Nat) (ha:a<b.length) (h:128≤(g0 b a).toNat∧((g0 b a).toNat<192∨248≤(g0 b a).toNat)):Call Q 78 [.bs b,.int .i64 (a:Nat)]=some (.int .i64 0):=by
 have hg:=getq b a ha
 generalize g0 b a=x at *
 have hx:=x.toNat_lt
 obtain⟨h1,h2⟩:=h
 rcases h2 with h2|h2
 all_goals(
  rw[Call_fn Q (m:=m78) rfl rfl]
  apply hide;intro rhs hrhs
  simp(maxSteps:=4000000)(disch:=first|exact dz|fail)only[bB.u,seval,cut,m78,hg]
  repeat'((with_reducible first|refine sp ?_ ?_|fail)<;>intro hx<;>(try simp only[bI.u]at hx)<;>(first|exact xz|(try simp(maxSteps:=4000000)(disch:=first|exact dz|fail)only[bB.u,seval,cut,hx,m78,hg])))
  all_goals first|exact xz|(subst hrhs;rfl))
theorem utf_class (n b0 b1 b2 b3:Nat) (h0:b0<256) (h1:b1<256) (h2:b2<256) (h3:b3<256):
  utfN n b0 b1 b2 b3=if b0<128 then 1 else if b0<192∨248≤b0 then 0
   else if b0<224 then(if n<2∨b1<128∨192≤b1∨64*(b0%32)+b1%64<128 then 0 else 2)
   else if b0<240 then(if n<3∨b1<128∨192≤b1∨b2<128∨192≤b2∨64*(64*(b0%16)+b1%64)+b2%64<2048∨(55296≤64*(64*(b0%16)+b1%64)+b2%64∧64*(64*(b0%16)+b1%64)+b2%64<57344)then 0 else 3)
   else(if n<4∨b1<128∨192≤b1∨b2<128∨192≤b2∨b3<128∨192≤b3∨64*(64*(64*(b0%8)+b1%64)+b2%64)+b3%64<65536∨1114111<64*(64*(64*(b0%8)+b1%64)+b2%64)+b3%64 then 0 else 4):=by
 have e:∀a x:Nat,(if((a,x):Nat × Nat).1=65533∧((a,x):Nat × Nat).2=1 then 0 else((a,x):Nat × Nat).2)=if a=65533∧x=1 then 0 else x:=fun _ _=>rfl
 unfold utfN Lib.decodeN
 by_cases c0:b0<128
 ·rw[if_pos c0,if_pos c0,e,if_neg (by omega)]
 rw[if_neg c0,if_neg c0]
 by_cases c1:b0<192∨248≤b0
 ·rw[if_pos c1,if_neg (c:=b0/32=6∧_) (by omega),if_neg (c:=b0/16=14∧_) (by omega),if_neg (c:=b0/8=30∧_) (by omega)];rfl
 rw[if_neg c1]
 by_cases c2:b0<224
 ·rw[if_pos c2,if_neg (c:=b0/16=14∧_) (by omega),if_neg (c:=b0/8=30∧_) (by omega)]
  split
  ·split
   ·rw[e,if_neg (by omega),if_neg (by omega)]
   ·rw[if_pos ⟨rfl,rfl⟩,if_pos (by omega)]
  ·rw[if_pos ⟨rfl,rfl⟩,if_pos (by omega)]
 rw[if_neg c2,if_neg (c:=b0/32=6∧_) (by omega)]
 by_cases c3:b0<240
 ·rw[if_pos c3,if_neg (c:=b0/8=30∧_) (by omega)]
  split
  ·split
   ·rw[e,if_neg (by omega),if_neg (by omega)]
   ·rw[if_pos ⟨rfl,rfl⟩,if_pos (by omega)]
  ·rw[if_pos ⟨rfl,rfl⟩,if_pos (by omega)]
 rw[if_neg c3,if_neg (c:=b0/16=14∧_) (by omega)]
 split
 ·split
  ·rw[e,if_neg (by omega),if_neg (by omega)]
  ·rw[if_pos ⟨rfl,rfl⟩,if_pos (by omega)]
 ·rw[if_pos ⟨rfl,rfl⟩,if_pos (by omega)]
def utfA (b:List UInt8) (a:Nat):Nat:=utfN (b.length-a) (g0 b a).toNat (g0 b (a+1)).toNat (g0 b (a+2)).toNat (g0 b (a+3)).toNat
theorem utfA_le (b:List UInt8) (a:Nat) (ha:a<b.length):utfA b a≤b.length-a:=by
 unfold utfA
 rw[utf_class _ _ _ _ _ (g0 b a).toNat_lt (g0 b (a+1)).toNat_lt (g0 b (a+2)).toNat_lt (g0 b (a+3)).toNat_lt]
 repeat' split
 all_goals omega
theorem c_utf (b:List UInt8) (hb:b.length<2^60) (a:Nat) (ha:a<b.length):Call Q 78 [.bs b,.int .i64 (a:Nat)]=some (.int .i64 (utfA b a)):=by
 unfold utfA
 have z0:=(g0 b a).toNat_lt
 have z1:=(g0 b (a+1)).toNat_lt
 have z2:=(g0 b (a+2)).toNat_lt
 have z3:=(g0 b (a+3)).toNat_lt
 rw[utf_class _ _ _ _ _ z0 z1 z2 z3]
 by_cases c0:(g0 b a).toNat<128
 ·rw[if_pos c0,u_start b hb a ha 1 0 (g0 b a).toNat (.inl ⟨c0,rfl,rfl,rfl⟩),if_neg (by omega),u_end _ _ _ _ _ (by omega) (by omega),if_neg (by omega)]
 rw[if_neg c0]
 by_cases c1:(g0 b a).toNat<192∨248≤(g0 b a).toNat
 ·rw[if_pos c1,u_bad b hb a ha ⟨by omega,c1⟩];rfl
 rw[if_neg c1]
 by_cases c2:(g0 b a).toNat<224
 ·rw[if_pos c2,u_start b hb a ha 2 128 ((g0 b a).toNat%32) (.inr (.inl ⟨by omega,c2,rfl,rfl,rfl⟩))]
  by_cases l2:b.length<a+2
  ·rw[if_pos l2,if_pos (by omega)];rfl
  rw[if_neg l2]
  by_cases k1:(g0 b (a+1)).toNat<128∨192≤(g0 b (a+1)).toNat
  ·rw[u_no b hb a 2 128 _ 1 (by omega) (by omega) k1,if_pos (by omega)];rfl
  rw[u_yes b hb a 2 128 _ 1 (by omega) (by omega) (by omega) k1,u_end _ _ _ _ _ (by omega) (by omega)]
  refine congrArg some (congrArg (MV.int .i64) ?_)
  repeat' split
  all_goals first|rfl|omega
 rw[if_neg c2]
 by_cases c3:(g0 b a).toNat<240
 ·rw[if_pos c3,u_start b hb a ha 3 2048 ((g0 b a).toNat%16) (.inr (.inr (.inl ⟨by omega,c3,rfl,rfl,rfl⟩)))]
  by_cases l2:b.length<a+3
  ·rw[if_pos l2,if_pos (by omega)];rfl
  rw[if_neg l2]
  by_cases k1:(g0 b (a+1)).toNat<128∨192≤(g0 b (a+1)).toNat
  ·rw[u_no b hb a 3 2048 _ 1 (by omega) (by omega) k1,if_pos (by omega)];rfl
  rw[u_yes b hb a 3 2048 _ 1 (by omega) (by omega) (by omega) k1]
  by_cases k2:(g0 b (a+2)).toNat<128∨192≤(g0 b (a+2)).toNat
  ·rw[u_no b hb a 3 2048 _ (1+1) (by omega) (by omega) k2,if_pos (by omega)];rfl
  rw[u_yes b hb a 3 2048 _ (1+1) (by omega) (by omega) (by omega) k2,u_end _ _ _ _ _ (by omega) (by omega)]
  refine congrArg some (congrArg (MV.int .i64) ?_)
  repeat' split
  all_goals first|rfl|omega
 rw[if_neg c3,u_start b hb a ha 4 65536 ((g0 b a).toNat%8) (.inr (.inr (.inr ⟨by omega,by omega,rfl,rfl,rfl⟩)))]
 by_cases l2:b.length<a+4
 ·rw[if_pos l2,if_pos (by omega)];rfl
 rw[if_neg l2]
 by_cases k1:(g0 b (a+1)).toNat<128∨192≤(g0 b (a+1)).toNat
 ·rw[u_no b hb a 4 65536 _ 1 (by omega) (by omega) k1,if_pos (by omega)];rfl
 rw[u_yes b hb a 4 65536 _ 1 (by omega) (by omega) (by omega) k1]
 by_cases k2:(g0 b (a+2)).toNat<128∨192≤(g0 b (a+2)).toNat
 ·rw[u_no b hb a 4 65536 _ (1+1) (by omega) (by omega) k2,if_pos (by omega)];rfl
 rw[u_yes b hb a 4 65536 _ (1+1) (by omega) (by omega) (by omega) k2]
 by_cases k3:(g0 b (a+3)).toNat<128∨192≤(g0 b (a+3)).toNat
 ·rw[u_no b hb a 4 65536 _ (1+1+1) (by omega) (by omega) k3,if_pos (by omega)];rfl
 rw[u_yes b hb a 4 65536 _ (1+1+1) (by omega) (by omega) (by omega) k3,u_end _ _ _ _ _ (by omega) (by omega)]
 refine congrArg some (congrArg (MV.int .i64) ?_)
 repeat' split
 all_goals first|rfl|omega
theorem g0_drop (b:List UInt8) (a k:Nat):(b.drop a).getD k 0=g0 b (a+k):=by
 unfold g0
 simp[List.getD_eq_getElem?_getD,List.getElem?_drop]
theorem valid_at (b:List UInt8) (a:Nat) (ha:a<b.length):Lib.validD (b.drop a)=if utfA b a=0 then false else Lib.validD (b.drop (a+utfA b a)):=by
 have hne:b.drop a≠[]:=by
  intro h
  have:=congrArg List.length h
  simp at this;omega
 rw[Lib.validD_step _ hne,Lib.decodeL_N]
 simp only[g0_drop,List.length_drop]
 unfold utfA utfN
 simp only[Nat.add_zero]
 by_cases h:(Lib.decodeN (b.length-a) (g0 b a).toNat (g0 b (a+1)).toNat (g0 b (a+2)).toNat (g0 b (a+3)).toNat).1=65533∧(Lib.decodeN (b.length-a) (g0 b a).toNat (g0 b (a+1)).toNat (g0 b (a+2)).toNat (g0 b (a+3)).toNat).2=1
 ·rw[if_pos h,if_pos h,if_pos rfl]
 ·rw[if_neg h,if_neg h]
  split
  ·rename_i h0
   exfalso
   unfold Lib.decodeN at h0
   revert h0
   repeat' split
   all_goals simp
  ·rw[List.drop_drop]
def R_U:List (Nat × Option (Bool × Nat) × PK):=[(2,none,.other)]
def U_tail:MCode:=(.seq (.rg [oV 2 (.mv (.c (.bool true)))])
  (.ret))
def U_st (b:List UInt8) (a:Nat):DS:=⟨[(0,.bs b),(3,.int .i64 (a:Nat))],[],[],1⟩
theorem U_all (b:List UInt8) (hb:b.length<2^60):∀(N a:Nat),b.length-a≤N→a≤b.length→fin R_U (RunL Q m51k0 m51b0 [.blk 0,.code U_tail] (U_st b a))=some (.bool (Lib.validD (b.drop a))):=by
 intro N
 induction N with
 |zero=>
  intro a h1 h2
  obtain rfl:a=b.length:=by omega
  have hlt:decide ((b.length:Int)<(b.length:Int))=false:=by simp
  rw[List.drop_length]
  unfold U_st
  obtain⟨b',hb'⟩:∃b',b'=m51b0:=⟨_,rfl⟩
  rw[RunL_eq,show Item.lp m51k0 m51b0=Item.lp m51k0 b' by rw[hb']]
  apply hide;intro rhs hrhs
  simp(maxSteps:=4000000)(disch:=first|exact dz|fail)only[bB.u,seval,cut,m51b0,U_tail,R_U,hlt]
  repeat'((with_reducible first|refine sp ?_ ?_|fail)<;>intro hx<;>(try simp only[bI.u]at hx)<;>(first|exact xz|(try simp(maxSteps:=4000000)(disch:=first|exact dz|fail)only[bB.u,seval,cut,hx,m51b0,U_tail,R_U,hlt])))
  all_goals first|exact xz|(subst hrhs;rfl)
 |succ N ih=>
  intro a h1 h2
  by_cases ha:a=b.length
  ·exact ih a (by omega) h2
  have ha:a<b.length:=by omega
  have hlt:decide ((a:Int)<(b.length:Int))=true:=by simp;omega
  have hc:=c_utf b hb a ha
  have hle:=utfA_le b a ha
  rw[valid_at b a ha]
  by_cases h0:utfA b a=0
  ·rw[if_pos h0]
   rw[h0]at hc
   rw[show((0:Nat):Int)=0 from rfl]at hc
   unfold U_st
   obtain⟨b',hb'⟩:∃b',b'=m51b0:=⟨_,rfl⟩
   rw[RunL_eq,show Item.lp m51k0 m51b0=Item.lp m51k0 b' by rw[hb']]
   apply hide;intro rhs hrhs
   simp(maxSteps:=4000000)(disch:=first|exact dz|fail)only[bB.u,seval,cut,m51b0,U_tail,R_U,hlt,hc]
   repeat'((with_reducible first|refine sp ?_ ?_|fail)<;>intro hx<;>(try simp only[bI.u]at hx)<;>(first|exact xz|(try simp(maxSteps:=4000000)(disch:=first|exact dz|fail)only[bB.u,seval,cut,hx,m51b0,U_tail,R_U,hlt,hc])))
   all_goals first|exact xz|(subst hrhs;rfl)
  ·rw[if_neg h0,←ih (a+utfA b a) (by omega) (by omega)]
   have g0':(((utfA b a:Nat):Int)==0)=false:=by simp;omega
   unfold U_st
   rw[show((a+utfA b a:Nat):Int)=(a:Int)+(utfA b a:Nat) by omega]
   generalize utfA b a=q at *
   obtain⟨b',hb'⟩:∃b',b'=m51b0:=⟨_,rfl⟩
   rw[RunL_eq,show Item.lp m51k0 m51b0=Item.lp m51k0 b' by rw[hb']]
   apply hide;intro rhs hrhs
   simp(maxSteps:=4000000)(disch:=first|exact dz|fail)only[bB.u,seval,cut,m51b0,U_tail,R_U,hlt,hc,g0']
   repeat'((with_reducible first|refine sp ?_ ?_|fail)<;>intro hx<;>(try simp only[bI.u]at hx)<;>(first|exact xz|(try simp(maxSteps:=4000000)(disch:=first|exact dz|fail)only[bB.u,seval,cut,hx,m51b0,U_tail,R_U,hlt,hc,g0'])))
   all_goals first|exact xz|(subst hrhs;(subst hb';refine(congrArg (fin _) (Run_lp Q _ _ _ _)).trans ?_;exact congrArg (fin R_U) (RunL_canon (canon_cong kr kr kr))))
theorem c_UTF8 (b:List UInt8) (hb:b.length<2^60):Call Q 51 [.bs b]=some (.bool (Lib.validD b)):=by
 have h:=U_all b hb b.length 0 (by omega) (by omega)
 rw[List.drop_zero]at h
 unfold U_st at h
 rw[show((0:Nat):Int)=0 from rfl]at h
 rw[Call_fn Q (m:=m51) rfl rfl]
 apply hide;intro rhs hrhs
 simp(maxSteps:=4000000)(disch:=first|exact dz|fail)only[bB.u,seval,cut,m51,Run_loop]
 repeat'((with_reducible first|refine sp ?_ ?_|fail)<;>intro hx<;>(try simp only[bI.u]at hx)<;>(first|exact xz|(try simp(maxSteps:=4000000)(disch:=first|exact dz|fail)only[bB.u,seval,cut,hx,m51,Run_loop])))
 all_goals first|exact xz|(subst hrhs;exact(congrArg (fin _) (RunL_canon (canon_cong kr kr kr))).trans h)
def isB (r:Option MV) (b:Bool):Bool:=match r with
 |some (.bool x)=>x==b
 |_=>false
theorem isB_eq {r:Option MV} {b:Bool} (h:isB r b=true):r=some (.bool b):=by
 unfold isB at h
 split at h
 ·rw[beq_iff_eq]at h;rw[h]
 ·cases h
theorem prn_all:(List.range 256).all (fun n=>isB (callF Q 400 52 [.int .u8 (n:Nat)]) (prB (UInt8.ofNat n)))=true:=by kernel_rfl
theorem c_prnR (c:UInt8):Call Q 52 [.int .u8 (c.toNat:Int)]=some (.bool (prB c)):=by
 have h:=isB_eq (List.all_eq_true.1 prn_all c.toNat (by simp;exact c.toNat_lt))
 rw[show UInt8.ofNat c.toNat=c by simp]at h
 exact Call_iff.2 ⟨400,h⟩
def R_l:List (Nat × Option (Bool × Nat) × PK):=[(4,none,.other)]
def l_tail:MCode:=(sq [qa 36 0,qj 37 36,qa 38 1,qj 39 38,qB 40 .lss 37 39,qb 4 40] .ret)
def l_st (a b:List UInt8) (i:Nat):DS:=⟨[(0,.bs a),(1,.bs b),(5,.int .i64 (i:Nat))],[],[],1⟩
theorem cmpL_cons (x y:UInt8) (a b:List UInt8):cmpL (x::a) (y::b)=if x<y then -1 else if y<x then 1 else cmpL a b:=by rw[cmpL]
theorem l_all (a b:List UInt8) (ha:a.length<2^60) (hb:b.length<2^60):∀(N i:Nat),a.length-i≤N→i≤a.length→i≤b.length→fin R_l (RunL Q m102k0 m102b0 [.blk 0,.code l_tail] (l_st a b i))=some (.bool (decide (cmpL (a.drop i) (b.drop i)<0))):=by
 intro N
 induction N with
 |zero=>
  intro i h1 h2 h3
  obtain rfl:i=a.length:=by omega
  have hlt:decide ((a.length:Int)<(a.length:Int))=false:=by simp
  have hR:decide (cmpL (a.drop a.length) (b.drop a.length)<0)=decide ((a.length:Int)<(b.length:Int)):=by
   rw[List.drop_length]
   by_cases h:a.length=b.length
   ·rw[h,List.drop_length];simp[cmpL]
   ·cases hb':b.drop a.length with
    |nil=>
     have:=congrArg List.length hb'
     simp at this;omega
    |cons y r=>simp[cmpL];omega
  rw[hR]
  unfold l_st
  obtain⟨b',hb'⟩:∃b',b'=m102b0:=⟨_,rfl⟩
  rw[RunL_eq,show Item.lp m102k0 m102b0=Item.lp m102k0 b' by rw[hb']]
  apply hide;intro rhs hrhs
  simp(maxSteps:=4000000)(disch:=first|exact dz|fail)only[bB.u,seval,cut,m102b0,l_tail,R_l,hlt]
  repeat'((with_reducible first|refine sp ?_ ?_|fail)<;>intro hx<;>(try simp only[bI.u]at hx)<;>(first|exact xz|(try simp(maxSteps:=4000000)(disch:=first|exact dz|fail)only[bB.u,seval,cut,hx,m102b0,l_tail,R_l,hlt])))
  all_goals first|exact xz|(subst hrhs;rfl)
 |succ N ih=>
  intro i h1 h2 h3
  by_cases hi:i=a.length
  ·exact ih i (by omega) h2 h3
  have hi:i<a.length:=by omega
  have hlt:decide ((i:Int)<(a.length:Int))=true:=by simp;omega
  by_cases hj:i=b.length
  ·subst hj
   have hlt2:decide ((b.length:Int)<(b.length:Int))=false:=by simp
   have hR:decide (cmpL (a.drop b.length) (b.drop b.length)<0)=decide ((a.length:Int)<(b.length:Int)):=by
    rw[List.drop_length]
    cases ha':a.drop b.length with
    |nil=>
     have:=congrArg List.length ha'
     simp at this;omega
    |cons y r=>simp[cmpL];omega
   rw[hR]
   unfold l_st
   obtain⟨b',hb'⟩:∃b',b'=m102b0:=⟨_,rfl⟩
   rw[RunL_eq,show Item.lp m102k0 m102b0=Item.lp m102k0 b' by rw[hb']]
   apply hide;intro rhs hrhs
   simp(maxSteps:=4000000)(disch:=first|exact dz|fail)only[bB.u,seval,cut,m102b0,l_tail,R_l,hlt,hlt2]
   repeat'((with_reducible first|refine sp ?_ ?_|fail)<;>intro hx<;>(try simp only[bI.u]at hx)<;>(first|exact xz|(try simp(maxSteps:=4000000)(disch:=first|exact dz|fail)only[bB.u,seval,cut,hx,m102b0,l_tail,R_l,hlt,hlt2])))
   all_goals first|exact xz|(subst hrhs;rfl)
  have hj:i<b.length:=by omega
  have hlt2:decide ((i:Int)<(b.length:Int))=true:=by simp;omega
  have ga:=getq a i hi
  have gb:=getq b i hj
  have da:a.drop i=g0 a i::a.drop (i+1):=by
   rw[List.drop_eq_getElem_cons hi]
   rw[List.getElem?_eq_getElem hi]at ga
   rw[Option.some.inj ga]
  have db:b.drop i=g0 b i::b.drop (i+1):=by
   rw[List.drop_eq_getElem_cons hj]
   rw[List.getElem?_eq_getElem hj]at gb
   rw[Option.some.inj gb]
  rw[da,db,cmpL_cons]
  by_cases he:g0 a i=g0 b i
  ·rw[he,if_neg (by simp),if_neg (by simp),←ih (i+1) (by omega) (by omega) (by omega)]
   rw[he]at ga
   generalize g0 b i=y at *
   have e9:((i+1:Nat):Int)=(i:Int)+1:=rfl
   have hne:((y.toNat:Int) != (y.toNat:Int))=false:=by simp
   unfold l_st
   rw[e9]
   obtain⟨b',hb'⟩:∃b',b'=m102b0:=⟨_,rfl⟩
   rw[RunL_eq,show Item.lp m102k0 m102b0=Item.lp m102k0 b' by rw[hb']]
   apply hide;intro rhs hrhs
   simp(maxSteps:=4000000)(disch:=first|exact dz|fail)only[bB.u,seval,cut,m102b0,R_l,hlt,hlt2,ga,gb,hne]
   repeat'((with_reducible first|refine sp ?_ ?_|fail)<;>intro hx<;>(try simp only[bI.u]at hx)<;>(first|exact xz|(try simp(maxSteps:=4000000)(disch:=first|exact dz|fail)only[bB.u,seval,cut,hx,m102b0,R_l,hlt,hlt2,ga,gb,hne])))
   all_goals first|exact xz|(subst hrhs;(subst hb';refine(congrArg (fin _) (Run_lp Q _ _ _ _)).trans ?_;exact congrArg (fin R_l) (RunL_canon (canon_cong kr kr kr))))
  ·generalize g0 a i=x at *
   generalize g0 b i=y at *
   have hne:((x.toNat:Int) != (y.toNat:Int))=true:=by
    have:x.toNat≠y.toNat:=fun h=>he (UInt8.toNat_inj.1 h)
    simp;omega
   have hR:decide ((if x<y then(-1:Int)else if y<x then 1 else cmpL (a.drop (i+1)) (b.drop (i+1)))<0)=decide ((x.toNat:Int)<(y.toNat:Int)):=by
    have:x.toNat≠y.toNat:=fun h=>he (UInt8.toNat_inj.1 h)
    by_cases hxy:x<y
    ·rw[if_pos hxy]
     have:=UInt8.lt_iff_toNat_lt.1 hxy
     simp;omega
    ·rw[if_neg hxy]
     have h:¬x.toNat<y.toNat:=fun h=>hxy (UInt8.lt_iff_toNat_lt.2 h)
     rw[if_pos (UInt8.lt_iff_toNat_lt.2 (by omega))]
     simp;omega
   rw[hR]
   unfold l_st
   obtain⟨b',hb'⟩:∃b',b'=m102b0:=⟨_,rfl⟩
   rw[RunL_eq,show Item.lp m102k0 m102b0=Item.lp m102k0 b' by rw[hb']]
   apply hide;intro rhs hrhs
   simp(maxSteps:=4000000)(disch:=first|exact dz|fail)only[bB.u,seval,cut,m102b0,R_l,hlt,hlt2,ga,gb,hne]
   repeat'((with_reducible first|refine sp ?_ ?_|fail)<;>intro hx<;>(try simp only[bI.u]at hx)<;>(first|exact xz|(try simp(maxSteps:=4000000)(disch:=first|exact dz|fail)only[bB.u,seval,cut,hx,m102b0,R_l,hlt,hlt2,ga,gb,hne])))
   all_goals first|exact xz|(subst hrhs;rfl)
theorem c_less (a b:List UInt8) (ha:a.length<2^60) (hb:b.length<2^60):Call Q 102 [.bs a,.bs b]=some (.bool (decide (cmpL a b<0))):=by
 have h:=l_all a b ha hb a.length 0 (by omega) (by omega) (by omega)
 rw[List.drop_zero,List.drop_zero]at h
 unfold l_st at h
 rw[show((0:Nat):Int)=0 from rfl]at h
 rw[Call_fn Q (m:=m102) rfl rfl]
 apply hide;intro rhs hrhs
 simp(maxSteps:=4000000)(disch:=first|exact dz|fail)only[bB.u,seval,cut,m102,Run_loop]
 repeat'((with_reducible first|refine sp ?_ ?_|fail)<;>intro hx<;>(try simp only[bI.u]at hx)<;>(first|exact xz|(try simp(maxSteps:=4000000)(disch:=first|exact dz|fail)only[bB.u,seval,cut,hx,m102,Run_loop])))
 all_goals first|exact xz|(subst hrhs;exact(congrArg (fin _) (RunL_canon (canon_cong kr kr kr))).trans h)
end Go.Mini

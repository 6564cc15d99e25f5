/- a certificate's law by that interpreter (part 7): what the program's functions answer, or plain laws of it; no conditions. -/
import Derived.Test.YtgiobgojobegfaaGreatDoorB05
set_option linter.all false
namespace Go.Mini
open Go Go.Mini.Nm Go.Proofs.YtgiobgojobegfaaGreatDoor
set_option maxRecDepth 100000
set_option maxHeartbeats 4000000
abbrev MS:=Int × Bool
def cJ (e:Int) (s:MS):MS:=if s.1=0 then(e,s.2)else s
def bl (ok:Bool) (s:MS):MS:=if ok=true then s else cJ 30 s
theorem kP (e:Int) (a:Int) (b:Bool):CallH Q 108 [.ptr 0 0,.int .i64 e] [.cells [.int .i64 a,.bool b]]=some (.tup [],[some (.cells [.int .i64 (cJ e (a,b)).1,.bool (cJ e (a,b)).2])]):=by
 unfold cJ
 rw[aC Q (m:=m108) rfl]
 by_cases h:a=0
 ·subst h
  rw[if_pos rfl]
  apply ae;intro rhs hrhs
  simp(maxSteps:=4000000)(disch:=first|exact dz|fail)only[bB.u,seval,cut,m108,ag,aj]
  subst hrhs;rfl
 ·have h':(a==0)=false:=by simpa using h
  rw[if_neg h]
  apply ae;intro rhs hrhs
  simp(maxSteps:=4000000)(disch:=first|exact dz|fail)only[bB.u,seval,cut,m108,h',ag,aj]
  subst hrhs;rfl
theorem kQ (ok:Bool) (a:Int) (b:Bool):CallH Q 260 [.ptr 0 0,.bool ok] [.cells [.int .i64 a,.bool b]]=some (.tup [],[some (.cells [.int .i64 (bl ok (a,b)).1,.bool (bl ok (a,b)).2])]):=by
 unfold bl
 have hf:=kP 30 a b
 rw[aC Q (m:=m260) rfl]
 cases ok
 ·rw[if_neg (by simp)]
  apply ae;intro rhs hrhs
  simp(maxSteps:=4000000)(disch:=first|exact dz|fail)only[bB.u,seval,cut,m260,hf,ag,aj]
  subst hrhs;rfl
 ·rw[if_pos rfl]
  apply ae;intro rhs hrhs
  simp(maxSteps:=4000000)(disch:=first|exact dz|fail)only[bB.u,seval,cut,m260,ag,aj]
  subst hrhs;rfl
def eJ:Nat→Int→List UInt8→List UInt8
 | 0,_,acc=>acc
 |k+1,n,acc=>if n<128 then UInt8.ofNat n.toNat::acc else eJ k (n/256) (UInt8.ofNat (n%256).toNat::acc)
def aE (n:Int):List UInt8:=if n<0 then []else eJ 9 n []
def nu:List (Nat × Option (Bool × Nat) × PK):=[(10,some (true,5),.other)]
def gL:MCode:=(sq [qa 33 1,qa 34 11,oT 35 (.build az [(1,1,.t 33),(3,1,.t 34)]),qg 5 10 35] .ret)
def oK (a:Int) (b:Bool) (tag n:Int) (acc:List UInt8):DS:=⟨[(1,.int .i64 tag),(2,.int .i64 n),(10,.ptr 1 0),(11,.own 2 acc.length)],[],[(0,.cells [.int .i64 a,.bool b]),(1,.cells aB),(2,.byt acc false)],4⟩
def vR (a:Int) (b:Bool) (tag n:Int):DS:=⟨[(1,.int .i64 tag),(2,.int .i64 n),(10,.ptr 1 0),(11,.own 3 0)],[],[(0,.cells [.int .i64 a,.bool b]),(1,.cells aB),(3,.byt [] false)],4⟩
theorem Jb (n:Int) (h0:0≤n) (h:n<128):UInt8.ofNat (n%256).toNat=UInt8.ofNat n.toNat:=by
 rw[show n%256=n by omega]
theorem th (n:Int):IntKind.u8.wrap n=n%256:=by
 simp[IntKind.wrap,IntKind.bits,IntKind.signed]
theorem AL (a:Int) (b:Bool) (tag n:Int) (acc:List UInt8) (hl:acc.length≤100) (h0:0≤n) (h:n<9223372036854775808):ax 1 nu (RunL Q m253k0 m253b0 [.blk 0,.code gL] (oK a b tag n acc)) =
  if n<128 then some (.agg [.int .i64 0,.int .i64 tag,.bool false,.bs (UInt8.ofNat n.toNat::acc),.nilsl],[some (.cells [.int .i64 a,.bool b])])
  else ax 1 nu (RunL Q m253k0 m253b0 [.blk 0,.code gL] (oK a b tag (n/256) (UInt8.ofNat (n%256).toNat::acc))):=by
 have h0':decide (0≤n)=true:=by simpa using h0
 by_cases hn:n<128
 ·have hn':decide (n<128)=true:=by simpa using hn
  rw[if_pos hn]
  unfold oK aB
  obtain⟨b',hb'⟩:∃b',b'=m253b0:=⟨_,rfl⟩
  rw[ah,show Item.lp m253k0 m253b0=Item.lp m253k0 b' by rw[hb']]
  apply ae;intro rhs hrhs
  simp(maxSteps:=4000000)(disch:=first|exact dz|fail)only[bB.u,seval,cut,m253b0,nu,gL,h0',hn',th,Jb,ag,aj]
  subst hrhs;rfl
 ·have hn':decide (n<128)=false:=by simpa using hn
  rw[if_neg hn]
  unfold oK aB
  obtain⟨b',hb'⟩:∃b',b'=m253b0:=⟨_,rfl⟩
  rw[ah,show Item.lp m253k0 m253b0=Item.lp m253k0 b' by rw[hb']]
  apply ae;intro rhs hrhs
  simp(maxSteps:=4000000)(disch:=first|exact dz|fail)only[bB.u,seval,cut,m253b0,h0',hn',th,shr64,Int.reducePow,Nat.add_comm 1,ag,aj]
  subst hrhs;(subst hb';refine(congrArg (ax _ _) (aA Q _ _ _ _)).trans ?_;exact congrArg (ax 1 nu) (af (canon_cong kr kr kr)))
theorem Hk (a:Int) (b:Bool) (tag n:Int) (h0:0≤n) (h:n<9223372036854775808):ax 1 nu (RunL Q m253k0 m253b0 [.blk 0,.code gL] (vR a b tag n)) =
  if n<128 then some (.agg [.int .i64 0,.int .i64 tag,.bool false,.bs [UInt8.ofNat n.toNat],.nilsl],[some (.cells [.int .i64 a,.bool b])])
  else ax 1 nu (RunL Q m253k0 m253b0 [.blk 0,.code gL] (oK a b tag (n/256) [UInt8.ofNat (n%256).toNat])):=by
 have h0':decide (0≤n)=true:=by simpa using h0
 by_cases hn:n<128
 ·have hn':decide (n<128)=true:=by simpa using hn
  rw[if_pos hn]
  unfold vR aB
  obtain⟨b',hb'⟩:∃b',b'=m253b0:=⟨_,rfl⟩
  rw[ah,show Item.lp m253k0 m253b0=Item.lp m253k0 b' by rw[hb']]
  apply ae;intro rhs hrhs
  simp(maxSteps:=4000000)(disch:=first|exact dz|fail)only[bB.u,seval,cut,m253b0,nu,gL,h0',hn',th,Jb,ag,aj]
  subst hrhs;rfl
 ·have hn':decide (n<128)=false:=by simpa using hn
  rw[if_neg hn]
  unfold vR oK aB
  obtain⟨b',hb'⟩:∃b',b'=m253b0:=⟨_,rfl⟩
  rw[ah,show Item.lp m253k0 m253b0=Item.lp m253k0 b' by rw[hb']]
  apply ae;intro rhs hrhs
  simp(maxSteps:=4000000)(disch:=first|exact dz|fail)only[bB.u,seval,cut,m253b0,h0',hn',th,shr64,Int.reducePow,Nat.add_comm 1,ag,aj]
  subst hrhs;(subst hb';refine(congrArg (ax _ _) (aA Q _ _ _ _)).trans ?_;exact congrArg (ax 1 nu) (af (canon_cong kr kr kr)))
theorem AM (a:Int) (b:Bool) (tag:Int):∀(k:Nat) (n:Int) (acc:List UInt8),acc.length+k≤50→0≤n→n<9223372036854775808→n<128*256^k →
  ax 1 nu (RunL Q m253k0 m253b0 [.blk 0,.code gL] (oK a b tag n acc))=some (.agg [.int .i64 0,.int .i64 tag,.bool false,.bs (eJ (k+1) n acc),.nilsl],[some (.cells [.int .i64 a,.bool b])])
 | 0,n,acc,hl,h0,h,hk=>by
  rw[AL a b tag n acc (by omega) h0 h,eJ,if_pos (by omega),if_pos (by omega)]
 |k+1,n,acc,hl,h0,h,hk=>by
  rw[AL a b tag n acc (by omega) h0 h,eJ]
  by_cases hn:n<128
  ·rw[if_pos hn,if_pos hn]
  ·rw[if_neg hn,if_neg hn]
   refine AM a b tag k (n/256) _ (by simp;omega) (by omega) (by omega) ?_
   have e:(128*256^(k+1):Int)=256*(128*256^k):=by rw[Int.pow_succ];omega
   rw[e]at hk
   generalize(128*256^k:Int)=X at hk ⊢
   omega
theorem yY (tag n lo hi:Int) (hn:n<9223372036854775808) (a:Int) (b:Bool):CallH Q 253 [.ptr 0 0,.int .i64 tag,.int .i64 n,.int .i64 lo,.int .i64 hi] [.cells [.int .i64 a,.bool b]]=some (.agg [.int .i64 0,.int .i64 tag,.bool false,.bs (aE n),.nilsl],[some (.cells [.int .i64 (bl (decide (lo≤n)&&decide (n≤hi)) (a,b)).1,.bool (bl (decide (lo≤n)&&decide (n≤hi)) (a,b)).2])]):=by
 have hnd:=fun ok=>kQ ok a b
 generalize hS:bl (decide (lo≤n)&&decide (n≤hi)) (a,b)=s
 have hn1:=hnd (decide (lo≤n)&&decide (n≤hi))
 rw[hS]at hn1
 obtain⟨a',b'⟩:=s
 have fin0:ax 1 nu (RunL Q m253k0 m253b0 [.blk 0,.code gL] (vR a' b' tag n))=some (.agg [.int .i64 0,.int .i64 tag,.bool false,.bs (aE n),.nilsl],[some (.cells [.int .i64 a',.bool b'])]):=by
  unfold aE
  by_cases h0:n<0
  ·rw[if_pos h0]
   have h0':decide (0≤n)=false:=by simp;omega
   unfold vR aB
   obtain⟨b',hb'⟩:∃b',b'=m253b0:=⟨_,rfl⟩
   rw[ah,show Item.lp m253k0 m253b0=Item.lp m253k0 b' by rw[hb']]
   apply ae;intro rhs hrhs
   simp(maxSteps:=4000000)(disch:=first|exact dz|fail)only[bB.u,seval,cut,m253b0,nu,gL,h0',ag,aj]
   subst hrhs;rfl
  ·rw[if_neg h0,Hk a' b' tag n (by omega) hn,eJ]
   by_cases h1:n<128
   ·rw[if_pos h1,if_pos h1]
   ·rw[if_neg h1,if_neg h1]
    exact AM a' b' tag 7 (n/256) _ (by simp) (by omega) (by omega) (by omega)
 cases hlo:decide (lo≤n)
 ·rw[hlo]at hn1
  rw[Bool.false_and]at hn1
  rw[aC Q (m:=m253) rfl]
  apply ae;intro rhs hrhs
  simp(maxSteps:=4000000)(disch:=first|exact dz|fail)only[bB.u,seval,cut,m253,hlo,hn1,aq,ag,aj]
  subst hrhs;exact(congrArg (ax _ _) (af (canon_cong kr kr kr))).trans fin0
 ·rw[hlo,Bool.true_and]at hn1
  rw[aC Q (m:=m253) rfl]
  apply ae;intro rhs hrhs
  simp(maxSteps:=4000000)(disch:=first|exact dz|fail)only[bB.u,seval,cut,m253,hlo,hn1,aq,ag,aj]
  subst hrhs;exact(congrArg (ax _ _) (af (canon_cong kr kr kr))).trans fin0
theorem lI (n:Int) (hn:n<9223372036854775808) (a:Int) (b:Bool):CallH Q 255 [.ptr 0 0,.int .i64 n] [.cells [.int .i64 a,.bool b]]=some (.agg [.int .i64 0,.int .i64 2,.bool false,.bs (aE n),.nilsl],[some (.cells [.int .i64 (bl (decide (0≤n)&&decide (n≤4611686018427387903)) (a,b)).1,.bool (bl (decide (0≤n)&&decide (n≤4611686018427387903)) (a,b)).2])]):=by
 have h:=yY 2 n 0 4611686018427387903 hn a b
 rw[aC Q (m:=m255) rfl]
 apply ae;intro rhs hrhs
 simp(maxSteps:=4000000)(disch:=first|exact dz|fail)only[bB.u,seval,cut,m255,h,ag,aj]
 subst hrhs;rfl
variable {fb:Bool}
def vS:T:=.mk 0 0 false [] []
def VR.t:VR→T
 | .er _=>vS
 | .ok t=>t
def VR.v:VR→MV
 | .er _=>.agg aB
 | .ok t=>av t
def VR.s:VR→MS→MS
 | .er e,s=>cJ e s
 | .ok _,s=>s
theorem pZ {t:Int} {x:T} (h:timeS t= .ok x):∃tg bs,x= .mk 0 tg false bs []:=by
 unfold timeS at h
 split at h
 ·cases h
 ·split at h<;>cases h<;>exact⟨_,_,rfl⟩
theorem vT {t:Int} {e:Int} (h:timeS t= .er e):e≠0:=by
 unfold timeS at h
 split at h
 ·cases h;decide
 ·split at h<;>cases h
theorem vU (t:Int) (a:Int) (b:Bool):CallH Q 257 [.ptr 0 0,.int .i64 t] [.cells [.int .i64 a,.bool b]]=some (VR.v (timeS t),[some (.cells [.int .i64 (VR.s (timeS t) (a,b)).1,.bool (VR.s (timeS t) (a,b)).2])]):=by
 have hc:=xa t
 cases h:timeS t with
 |er e=>
  rw[h]at hc
  have he:(e==0)=false:=by simpa using vT h
  have hf:=kP e a b
  simp only[VR.mv]at hc
  simp only[VR.v,VR.s]
  unfold aB at hc ⊢
  rw[aC Q (m:=m257) rfl]
  apply ae;intro rhs hrhs
  simp(maxSteps:=4000000)(disch:=first|exact dz|fail)only[bB.u,seval,cut,m257,hc,he,hf,ag,aj]
  subst hrhs;rfl
 |ok x=>
  rw[h]at hc
  obtain⟨tg,bs,rfl⟩:=pZ h
  simp only[VR.mv,aX,dm,Bool.false_eq_true,if_false]at hc
  simp only[VR.v,VR.s,aX,dm,Bool.false_eq_true,if_false]
  rw[aC Q (m:=m257) rfl]
  apply ae;intro rhs hrhs
  simp(maxSteps:=4000000)(disch:=first|exact dz|fail)only[bB.u,seval,cut,m257,hc,ag,aj]
  subst hrhs;rfl
theorem yZ (dv:MV) (d:Dn) (hdv:isDir dv d) (hl:okLens d) (a:Int) (b:Bool):CallH Q 256 [.ptr 0 0,dv] [.cells [.int .i64 a,.bool b]]=some (VR.v (dnS d),[some (.cells [.int .i64 (VR.s (dnS d) (a,b)).1,.bool (VR.s (dnS d) (a,b)).2])]):=by
 have hc:=CL d hl
 cases h:dnS d with
 |er e=>
  rw[h]at hc
  have he:(e==0)=false:=by simpa using AI h
  have hf:=kP e a b
  simp only[VR.mv]at hc
  simp only[VR.v,VR.s]
  unfold aB at hc ⊢
  rw[aC Q (m:=m256) rfl]
  rcases hdv with rfl|⟨rfl,rfl⟩
  all_goals(try rw[show bh []=[]from rfl]at hc)
  all_goals(
  apply ae;intro rhs hrhs
  simp(maxSteps:=4000000)(disch:=first|exact dz|fail)only[bB.u,seval,cut,m256,hc,he,hf,ag,aj]
  subst hrhs;rfl)
 |ok x=>
  rw[h]at hc
  obtain⟨ks,rfl⟩:=vI h
  have hks:dm ks= .nilsl∨∃l,dm ks= .sl 5 l:=by cases ks<;>simp[dm]
  simp only[VR.mv,aX,if_true]at hc
  simp only[VR.v,VR.s,aX,if_true]
  rw[aC Q (m:=m256) rfl]
  rcases hks with hks|⟨l,hks⟩<;>rw[hks]at hc ⊢ <;>rcases hdv with rfl|⟨rfl,rfl⟩
  all_goals(try rw[show bh []=[]from rfl]at hc)
  all_goals(
  apply ae;intro rhs hrhs
  simp(maxSteps:=4000000)(disch:=first|exact dz|fail)only[bB.u,seval,cut,m256,hc,ag,aj]
  subst hrhs;rfl)
theorem lJ (w:MV) (bs:List UInt8) (hb:Rb w bs) (hl:bs.length≤2^40):Call Q 76 [w]=some (.agg [.int .i64 0,.int .i64 3,.bool false,.bs (0::bs),.nilsl]):=by
 rw[Call_fn Q (m:=m76) rfl rfl]
 cases hb
 all_goals(
 apply ae;intro rhs hrhs
 simp(maxSteps:=4000000)(disch:=first|exact dz|fail)only[bB.u,seval,cut,m76]
 subst hrhs;rfl)
theorem da (l:List MV):Call Q 74 [.sl 5 l]=some (.agg [.int .i64 0,.int .i64 16,.bool true,.nilsl,.sl 5 l]):=by
 rw[Call_fn Q (m:=m74) rfl rfl]
 apply ae;intro rhs hrhs
 simp(maxSteps:=4000000)(disch:=first|exact dz|fail)only[bB.u,seval,cut,m74]
 subst hrhs;rfl
theorem bG (l:List MV):Call Q 74 [.fsl 5 l]=some (.agg [.int .i64 0,.int .i64 16,.bool true,.nilsl,.fsl 5 l]):=by
 rw[Call_fn Q (m:=m74) rfl rfl]
 apply ae;intro rhs hrhs
 simp(maxSteps:=4000000)(disch:=first|exact dz|fail)only[bB.u,seval,cut,m74]
 subst hrhs;rfl
theorem dM:Call Q 74 [.nilsl]=some (.agg [.int .i64 0,.int .i64 16,.bool true,.nilsl,.fsl 5 []]):=by
 rw[Call_fn Q (m:=m74) rfl rfl]
 apply ae;intro rhs hrhs
 simp(maxSteps:=4000000)(disch:=first|exact dz|fail)only[bB.u,seval,cut,m74]
 subst hrhs;rfl
theorem hH (k:Int) (l:List MV):Call Q 254 [.int .i64 k,.sl 5 l]=some (.agg [.int .i64 2,.int .i64 k,.bool true,.nilsl,.sl 5 l]):=by
 rw[Call_fn Q (m:=m254) rfl rfl]
 apply ae;intro rhs hrhs
 simp(maxSteps:=4000000)(disch:=first|exact dz|fail)only[bB.u,seval,cut,m254]
 subst hrhs;rfl
theorem io (k:Int) (l:List MV):Call Q 254 [.int .i64 k,.fsl 5 l]=some (.agg [.int .i64 2,.int .i64 k,.bool true,.nilsl,.fsl 5 l]):=by
 rw[Call_fn Q (m:=m254) rfl rfl]
 apply ae;intro rhs hrhs
 simp(maxSteps:=4000000)(disch:=first|exact dz|fail)only[bB.u,seval,cut,m254]
 subst hrhs;rfl
def jr (n:Int):List UInt8:=if n=1 then [96,134,72,1,101,3,4,3,17]else if n=2 then [96,134,72,1,101,3,4,3,18]else if n=3 then [96,134,72,1,101,3,4,3,19]else if n=4 then [136,55,1,4]else if n=5 then [136,55,1,5]else if n=6 then [136,55,1,6]else if n=7 then [136,55,1,7]else if n=8 then [136,55,1,8]else if n=9 then [136,55,1,9]else []
def lK (n:Int):List MV:=if n<1∨9<n then []else [.agg [.int .i64 0,.int .i64 6,.bool false,.bs (jr n),.nilsl]]
def cA (n:Int):MV:=.agg [.int .i64 0,.int .i64 16,.bool true,.nilsl,.fsl 5 (lK n)]
def bx (n:Int):T:=.mk 0 16 true [] (if n<1∨9<n then []else [ec (jr n)])
def dD (n:Int) (s:MS):MS:=if n<1∨9<n then cJ 10 s else s
theorem tj (a:Int) (b:Bool):CallH Q 75 [.ptr 0 0,.int .i64 1] [.cells [.int .i64 a,.bool b]]=some (cA 1,[some (.cells [.int .i64 a,.bool b])]):=CallH_iff.2 ⟨3000,by kernel_rfl⟩
theorem AN (a:Int) (b:Bool):CallH Q 75 [.ptr 0 0,.int .i64 2] [.cells [.int .i64 a,.bool b]]=some (cA 2,[some (.cells [.int .i64 a,.bool b])]):=CallH_iff.2 ⟨3000,by kernel_rfl⟩
theorem AO (a:Int) (b:Bool):CallH Q 75 [.ptr 0 0,.int .i64 3] [.cells [.int .i64 a,.bool b]]=some (cA 3,[some (.cells [.int .i64 a,.bool b])]):=CallH_iff.2 ⟨3000,by kernel_rfl⟩
theorem AP (a:Int) (b:Bool):CallH Q 75 [.ptr 0 0,.int .i64 4] [.cells [.int .i64 a,.bool b]]=some (cA 4,[some (.cells [.int .i64 a,.bool b])]):=CallH_iff.2 ⟨3000,by kernel_rfl⟩
theorem AQ (a:Int) (b:Bool):CallH Q 75 [.ptr 0 0,.int .i64 5] [.cells [.int .i64 a,.bool b]]=some (cA 5,[some (.cells [.int .i64 a,.bool b])]):=CallH_iff.2 ⟨3000,by kernel_rfl⟩
theorem AR (a:Int) (b:Bool):CallH Q 75 [.ptr 0 0,.int .i64 6] [.cells [.int .i64 a,.bool b]]=some (cA 6,[some (.cells [.int .i64 a,.bool b])]):=CallH_iff.2 ⟨3000,by kernel_rfl⟩
theorem AS (a:Int) (b:Bool):CallH Q 75 [.ptr 0 0,.int .i64 7] [.cells [.int .i64 a,.bool b]]=some (cA 7,[some (.cells [.int .i64 a,.bool b])]):=CallH_iff.2 ⟨3000,by kernel_rfl⟩
theorem AT (a:Int) (b:Bool):CallH Q 75 [.ptr 0 0,.int .i64 8] [.cells [.int .i64 a,.bool b]]=some (cA 8,[some (.cells [.int .i64 a,.bool b])]):=CallH_iff.2 ⟨3000,by kernel_rfl⟩
theorem AU (a:Int) (b:Bool):CallH Q 75 [.ptr 0 0,.int .i64 9] [.cells [.int .i64 a,.bool b]]=some (cA 9,[some (.cells [.int .i64 a,.bool b])]):=CallH_iff.2 ⟨3000,by kernel_rfl⟩
theorem jt (n:Int) (a:Int) (b:Bool):CallH Q 75 [.ptr 0 0,.int .i64 n] [.cells [.int .i64 a,.bool b]]=some (cA n,[some (.cells [.int .i64 (dD n (a,b)).1,.bool (dD n (a,b)).2])]):=by
 unfold dD
 by_cases h:n<1∨9<n
 ·rw[if_pos h]
  unfold cA lK
  rw[if_pos h]
  have hf:=kP 10 a b
  have hs:=dM
  rw[aC Q (m:=m75) rfl]
  apply ae;intro rhs hrhs
  simp(maxSteps:=4000000)(disch:=first|exact dz|fail)only[bB.u,seval,cut,m75,hf,hs,ag,aj]
  repeat'((with_reducible first|refine sp ?_ ?_|fail)<;>intro hx<;>(try simp only[bI.u]at hx)<;>(first|exact xz|(try simp(maxSteps:=4000000)(disch:=first|exact dz|fail)only[bB.u,seval,cut,hx,m75,hf,hs,ag,aj])))
  all_goals first|exact xz|(subst hrhs;first|rfl|(exfalso;omega))
 ·rw[if_neg h]
  have:n=1∨n=2∨n=3∨n=4∨n=5∨n=6∨n=7∨n=8∨n=9:=by omega
  rcases this with rfl|rfl|rfl|rfl|rfl|rfl|rfl|rfl|rfl
  ·exact tj a b
  ·exact AN a b
  ·exact AO a b
  ·exact AP a b
  ·exact AQ a b
  ·exact AR a b
  ·exact AS a b
  ·exact AT a b
  ·exact AU a b
theorem ju (n:Int):Wv true (cA n) (bx n):=by
 unfold cA bx lK
 refine .mk .nil (.fsl ?_)
 split
 ·exact .nil
 ·exact .cons (.mk (.bs _) .nil) .nil
def fj (bs:List UInt8):T:=.mk 0 3 false (0::bs) []
def bY (bs:List UInt8):MV:=.agg [.int .i64 0,.int .i64 3,.bool false,.bs (0::bs),.nilsl]
theorem DD (n:Int) (w:MV) (bs:List UInt8) (hb:Rb w bs) (hl:bs.length≤2^40) (a:Int) (b:Bool):CallH Q 258 [.ptr 0 0,.int .i64 n,w] [.cells [.int .i64 a,.bool b]]=some (.agg [.int .i64 0,.int .i64 16,.bool true,.nilsl,.fsl 5 [cA n,bY bs]],[some (.cells [.int .i64 (dD n (a,b)).1,.bool (dD n (a,b)).2])]):=by
 have h1:=jt n a b
 have h2:=lJ (.bs bs) bs (.bs bs) hl
 have h3:=bG [cA n,bY bs]
 unfold cA bY at h3 ⊢
 unfold cA at h1
 rw[aC Q (m:=m258) rfl]
 cases hb
 all_goals(
 apply ae;intro rhs hrhs
 simp(maxSteps:=4000000)(disch:=first|exact dz|fail)only[bB.u,seval,cut,m258,h1,h2,h3,ag,aj]
 subst hrhs;rfl)
def cm (s:MS) (t:T):Int × List UInt8:=if s.1≠0 then(s.1,[])else if s.2=true then(54,[])else wrW t
theorem rR (v:MV) (t:T) (hv:Wv fb v t) (hl:low t) (hs:sz t≤2^30) (a:Int) (b:Bool):CallH Q 73 [.ptr 0 0,v] [.cells [.int .i64 a,.bool b]]=some (.tup [.bs (cm (a,b) t).2,.int .i64 (cm (a,b) t).1],[some (.cells [.int .i64 a,.bool b])]):=by
 have hw:=iZ v t hv hl hs
 unfold cm
 cases hv with
 | @mk _ c tg m w k bs ks hb hk=>
 by_cases h:a=0
 rotate_left
 ·rw[if_pos h]
  have h':(a==0)=false:=by simpa using h
  rw[aC Q (m:=m73) rfl]
  cases hb<;>cases hk
  all_goals(
  apply ae;intro rhs hrhs
  simp(maxSteps:=4000000)(disch:=first|exact dz|fail)only[bB.u,seval,cut,m73,h',ag,aj]
  subst hrhs;rfl)
 subst h
 rw[if_neg (by simp)]
 cases b
 ·rw[if_neg (by simp)]
  rw[aC Q (m:=m73) rfl]
  cases hb<;>cases hk
  all_goals(
  apply ae;intro rhs hrhs
  simp(maxSteps:=4000000)(disch:=first|exact dz|fail)only[bB.u,seval,cut,m73,hw,ag,aj]
  subst hrhs;rfl)
 ·rw[if_pos rfl]
  rw[aC Q (m:=m73) rfl]
  cases hb<;>cases hk
  all_goals(
  apply ae;intro rhs hrhs
  simp(maxSteps:=4000000)(disch:=first|exact dz|fail)only[bB.u,seval,cut,m73,ag,aj]
  subst hrhs;rfl)
variable {fb:Bool}
def cX (t:T) (s:MS):MS:=(s.1,s.2||(wrW t).1==54)
def ep:MV:=.agg [.int .i64 0,.int .i64 1,.bool false,.bs [255],.nilsl]
def db (out:List UInt8) (cr:Bool) (bs:List UInt8):MV:=.agg [.int .i64 0,.int .i64 16,.bool true,.nilsl,.sl 5 (.agg [.int .i64 0,.int .i64 6,.bool false,.bs out,.nilsl]::((if cr then [ep]else [])++[.agg [.int .i64 0,.int .i64 4,.bool false,.bs bs,.nilsl]]))]
def jv (out:List UInt8) (cr:Bool) (bs:List UInt8):T:=.mk 0 16 true [] (ec out::((if cr then [.mk 0 1 false [255] []]else [])++[.mk 0 4 false bs []]))
theorem Hl (out:List UInt8) (cr:Bool) (bs:List UInt8):Wv fb (db out cr bs) (jv out cr bs):=by
 unfold db jv
 refine .mk .nil (.sl (.cons (.mk (.bs _) .nil) ?_))
 cases cr
 ·exact .cons (.mk (.bs _) .nil) .nil
 ·exact .cons (.mk (.bs _) .nil) (.cons (.mk (.bs _) .nil) .nil)
theorem p_ (s out:List UInt8) (ho:Call Q 109 [.str s]=some (fh out)) (cr:Bool) (v:MV) (t:T) (hv:Wv fb v t) (hl:low t) (hs:sz t≤2^30) (a:Int) (b:Bool):
  CallH Q 264 [.ptr 0 0,.str s,.bool cr,v] [.cells [.int .i64 a,.bool b]]=some (db out cr (wrW t).2,[some (.cells [.int .i64 (cX t (a,b)).1,.bool (cX t (a,b)).2])]):=by
 have hw:=iZ v t hv hl hs
 unfold fh at ho
 unfold cX db ep
 cases hv with
 | @mk _ c tg m w k bs ks hb hk=>
 generalize wrW (.mk c tg m bs ks)=W at hw ⊢
 obtain⟨e,ws⟩:=W
 simp only at hw ⊢
 have h3:=bG [.agg [.int .i64 0,.int .i64 6,.bool false,.bs out,.nilsl]]
 rw[aC Q (m:=m264) rfl]
 cases b
 ·rw[Bool.false_or]
  cases he:(e==54)
  all_goals(
   cases cr<;>cases hb<;>cases hk
   all_goals(
   apply ae;intro rhs hrhs
   simp(maxSteps:=4000000)(disch:=first|exact dz|fail)only[bB.u,seval,cut,m264,ho,hw,he,h3,ag,aj]
   repeat'((with_reducible first|refine sp ?_ ?_|fail)<;>intro hx<;>(try simp only[bI.u]at hx)<;>(first|exact xz|(try simp(maxSteps:=4000000)(disch:=first|exact dz|fail)only[bB.u,seval,cut,hx,m264,ho,hw,he,h3,ag,aj])))
   all_goals first|exact xz|(subst hrhs;rfl)))
 ·rw[Bool.true_or]
  cases cr<;>cases hb<;>cases hk
  all_goals(
  apply ae;intro rhs hrhs
  simp(maxSteps:=4000000)(disch:=first|exact dz|fail)only[bB.u,seval,cut,m264,ho,hw,h3,ag,aj]
  repeat'((with_reducible first|refine sp ?_ ?_|fail)<;>intro hx<;>(try simp only[bI.u]at hx)<;>(first|exact xz|(try simp(maxSteps:=4000000)(disch:=first|exact dz|fail)only[bB.u,seval,cut,hx,m264,ho,hw,h3,ag,aj])))
  all_goals first|exact xz|(subst hrhs;rfl))
def cI (c:UInt8):UInt8:=UInt8.ofNat (c.toNat%2*128+c.toNat/2%2*64+c.toNat/4%2*32+c.toNat/8%2*16+c.toNat/16%2*8+c.toNat/32%2*4+c.toNat/64%2*2+c.toNat/128)
def ou (c:UInt8):Nat:=if c.toNat%2=1 then 0 else if c.toNat/2%2=1 then 1 else if c.toNat/4%2=1 then 2 else if c.toNat/8%2=1 then 3 else if c.toNat/16%2=1 then 4 else if c.toNat/32%2=1 then 5 else if c.toNat/64%2=1 then 6 else if c.toNat/128=1 then 7 else 8
def DE (k:IntKind):Option MV→Int→Bool
 |some (.int k' x),n=>k==k'&&x==n
 |_,_=>false
theorem AV {k:IntKind} {r:Option MV} {n:Int} (h:DE k r n=true):r=some (.int k n):=by
 unfold DE at h
 split at h
 ·simp only[Bool.and_eq_true,beq_iff_eq]at h
  rw[h.1,h.2]
 ·cases h
theorem Fe:((List.range 256).all fun c=>DE .u8 (cR Q 40 84 [.int .u8 (c:Int)]) ((cI (UInt8.ofNat c)).toNat:Int))=true:=by kernel_rfl
theorem Hm:((List.range 256).all fun c=>DE .i64 (cR Q 40 271 [.int .u8 (c:Int)]) ((ou (UInt8.ofNat c):Nat):Int))=true:=by kernel_rfl
theorem y_ (c:UInt8):Call Q 84 [.int .u8 (c.toNat:Int)]=some (.int .u8 ((cI c).toNat:Int)):=by
 have:=AV (List.all_eq_true.1 Fe c.toNat (List.mem_range.2 c.toNat_lt))
 rw[UInt8.ofNat_toNat]at this
 exact Call_iff.2 ⟨40,this⟩
theorem Hn (c:UInt8):Call Q 271 [.int .u8 (c.toNat:Int)]=some (.int .i64 ((ou c:Nat):Int)):=by
 have:=AV (List.all_eq_true.1 Hm c.toNat (List.mem_range.2 c.toNat_lt))
 rw[UInt8.ofNat_toNat]at this
 exact Call_iff.2 ⟨40,this⟩
theorem Ho (c:UInt8):ou c≤8:=by unfold ou;(repeat' split)<;>omega
def mA (n:Int):List UInt8:=if 256≤n then [UInt8.ofNat (ou 128),cI (UInt8.ofNat (n%256).toNat),128]else [UInt8.ofNat (ou (cI (UInt8.ofNat (n%256).toNat))),cI (UInt8.ofNat (n%256).toNat)]
def flT (n:Int):T:=.mk 0 3 false (mA n) []
theorem fw (n:Int):Call Q 265 [.int .i64 n]=some (.agg [.int .i64 0,.int .i64 3,.bool false,.bs (mA n),.nilsl]):=by
 have hm:n%256=((UInt8.ofNat (n%256).toNat).toNat:Int):=by rw[UInt8.toNat_ofNat'];omega
 have h1:=y_ (UInt8.ofNat (n%256).toNat)
 unfold mA
 generalize UInt8.ofNat (n%256).toNat=x at hm h1 ⊢
 have h2:=Hn (cI x)
 have h3:=Hn (UInt8.ofNat 128)
 have e3:ou 128=7:=by decide
 rw[show ou (UInt8.ofNat 128)=7 from e3]at h3
 have h3b:Call Q 271 [.int .u8 128]=some (.int .i64 7):=h3
 rw[e3]
 have hz:=Ho (cI x)
 have hw2:IntKind.u8.wrap ((ou (cI x):Nat):Int)=((ou (cI x):Nat):Int):=w8 (by omega) (by omega)
 rw[Call_fn Q (m:=m265) rfl rfl]
 by_cases h:256≤n
 ·rw[if_pos h]
  have h':decide (256≤n)=true:=by simpa using h
  apply ae;intro rhs hrhs
  simp(maxSteps:=4000000)(disch:=first|exact dz|fail)only[bB.u,seval,cut,m265,h',th,hm,h1,h3,h3b]
  repeat'((with_reducible first|refine sp ?_ ?_|fail)<;>intro hx<;>(try simp only[bI.u]at hx)<;>(first|exact xz|(try simp(maxSteps:=4000000)(disch:=first|exact dz|fail)only[bB.u,seval,cut,hx,m265,h',th,hm,h1,h3,h3b])))
  all_goals first|exact xz|(subst hrhs;rfl)
 ·rw[if_neg h]
  have h':decide (256≤n)=false:=by simpa using h
  apply ae;intro rhs hrhs
  simp(maxSteps:=4000000)(disch:=first|exact dz|fail)only[bB.u,seval,cut,m265,h',th,hm,h1,h2,hw2]
  repeat'((with_reducible first|refine sp ?_ ?_|fail)<;>intro hx<;>(try simp only[bI.u]at hx)<;>(first|exact xz|(try simp(maxSteps:=4000000)(disch:=first|exact dz|fail)only[bB.u,seval,cut,hx,m265,h',th,hm,h1,h2,hw2])))
  all_goals first|exact xz|(subst hrhs;rfl)
abbrev Gn:=Int × List UInt8 × Dn
inductive Gl:List MV→List Gn→Prop
 |nil:Gl [] []
 |cons {k t dv d l gs}:isDir dv d→Gl l gs→Gl (gM k t dv::l) ((k,t,d)::gs)
theorem Gl.length {l:List MV} {gs:List Gn} (h:Gl l gs):l.length=gs.length:=by
 induction h with
 |nil=>rfl
 |cons _ _ ih=>simp[ih]
theorem Gl.get {l:List MV} {gs:List Gn} (h:Gl l gs):∀ {i:Nat} {g:Gn},gs[i]? = some g→∃dv,isDir dv g.2.2∧l[i]? = some (gM g.1 g.2.1 dv):=by
 induction h with
 |nil=>intro i g hg;simp at hg
 | @cons k t dv d l gs hd _ ih=>
  intro i g hg
  cases i with
  |zero=>simp at hg;subst hg;exact⟨dv,hd,rfl⟩
  |succ i=>simp at hg;obtain⟨dv,h1,h2⟩:=ih hg;exact⟨dv,h1,by simpa using h2⟩
def okG (gs:List Gn):Prop:=∀g∈gs,g.2.1.length<1000000∧okLens g.2.2
def gG (lim:Bool) (ts:List T) (g:Gn):List T ⊕ Int:=match genS g.1 g.2.1 g.2.2 lim with
 | .er e=>.inr e
 | .ok t=>.inl (ts++[t])
def gensT (lim:Bool) (gs:List Gn):List T:=match aG (gG lim) [] gs with
 | .inl ts=>ts
 | .inr _=>[]
def dd (lim:Bool) (gs:List Gn) (s:MS):MS:=match aG (gG lim) [] gs with
 | .inl _=>bl (decide (gs.length≤256)) s
 | .inr e=>cJ e (bl (decide (gs.length≤256)) s)
def wv (t:T):MV:=.agg [.int .i64 0,.int .i64 16,.bool true,.nilsl,.fsl 5 [av t]]
def wt (t:T):T:=.mk 0 16 true [] [t]
theorem tp {k:Int} {t:List UInt8} {d:Dn} {lim:Bool} {x:T} (h:genS k t d lim= .ok x):(∃D,x= .mk 2 4 true [] [D])∨∃bs,x= .mk 2 k false bs []:=by
 unfold genS at h
 split at h
 ·cases h
 ·split at h
  ·split at h
   ·cases h
   ·split at h
    ·cases h;exact .inl ⟨_,rfl⟩
    ·cases h
  ·split at h
   ·cases h;exact .inr ⟨_,rfl⟩
   ·cases h
theorem rS {k:Int} {t:List UInt8} {d:Dn} {lim:Bool} {e:Int} (h:genS k t d lim= .er e):e≠0:=by
 unfold genS at h
 split at h
 ·cases h;decide
 ·split at h
  ·split at h
   ·cases h;decide
   ·split at h
    ·cases h
    ·cases h;decide
  ·split at h
   ·cases h
   ·cases h;decide
def gS:List (Nat × Option (Bool × Nat) × PK):=[(8,none,.el 5)]
def iA:MCode:=(.seq (.rg [oT 43 (.mv (.v 9)),
  oV 8 (.mv (.t 43))])
  (.ret))
def eK (a:Int) (b:Bool) (lim:Bool) (w:Nat) (lv:MV) (n:Nat) (vs:List MV) (i:Nat):DS:=⟨[(0,.ptr 0 0),(2,.bool lim),(3,.fn w []),(9,.own (if i=0 then 2 else 1) i),(19,lv),(20,.int .i64 n),(21,.int .i64 i)],[],[(0,.cells [.int .i64 a,.bool b]),(if i=0 then 2 else 1,.el 5 vs false)],3⟩
theorem Ff (c t:Int) (m:Bool) (w k:MV) (bs:List UInt8) (ks:List T) (hb:Rb w bs) (hk:Rs k ks):Call Q 267 [.agg [.int .i64 c,.int .i64 t,.bool m,w,k]]=some (.agg [.int .i64 c,.int .i64 t,.bool m,w,k]):=by
 rw[Call_fn Q (m:=m267) rfl rfl]
 cases hb<;>cases hk
 all_goals(
 apply ae;intro rhs hrhs
 simp(maxSteps:=4000000)(disch:=first|exact dz|fail)only[bB.u,seval,cut,m267]
 subst hrhs;rfl)
theorem Hp (c t:Int) (m:Bool) (w k:MV) (bs:List UInt8) (ks:List T) (hb:Rb w bs) (hk:Rs k ks):Call Q 268 [.agg [.int .i64 c,.int .i64 t,.bool m,w,k]]=some (.agg [.int .i64 0,.int .i64 16,.bool true,.nilsl,.fsl 5 [.agg [.int .i64 c,.int .i64 t,.bool m,w,k]]]):=by
 have h:=bG [.agg [.int .i64 c,.int .i64 t,.bool m,w,k]]
 rw[Call_fn Q (m:=m268) rfl rfl]
 cases hb<;>cases hk
 all_goals(
 apply ae;intro rhs hrhs
 simp(maxSteps:=4000000)(disch:=first|exact dz|fail)only[bB.u,seval,cut,m268,h]
 subst hrhs;rfl)
theorem Fg (K:List Item) (a:Int) (b:Bool) (lim:Bool) (l:List MV) (gs:List Gn) (hl:Gl l gs) (hok:okG gs) (hlen:gs.length≤2^30) (ts:List T) (i:Nat) (g:Gn) (hI:ts.length=i) (hg:gs[i]? = some g):
  cS (fun ts i=>ts.length=i) (fun ts i=>ax 1 gS (RunL Q m266k0 m266b0 K (eK a b lim 267 (.sl 3 l) gs.length (ts.map av) i))) (fun e=>some (.sl 5 [],[some (.cells [.int .i64 (cJ e (a,b)).1,.bool (cJ e (a,b)).2])]))
   (ax 1 gS (RunL Q m266k0 m266b0 K (eK a b lim 267 (.sl 3 l) gs.length (ts.map av) i))) (i+1) (gG lim ts g):=by
 obtain⟨hi,hxx⟩:=List.getElem?_eq_some_iff.1 hg
 obtain⟨dv,hdv,hv⟩:=hl.get hg
 have hgo:=hok g (List.mem_of_getElem? hg)
 obtain⟨k,t,d⟩:=g
 simp only at hdv hv hgo
 have hc:=vJ k t dv d hdv hgo.2 hgo.1 lim
 have hlt:decide ((i:Int)<(gs.length:Int))=true:=by simp;omega
 have i1:(i:Int)<(gs.length:Int):=by omega
 have hll:=hl.length
 have e9:((i+1:Nat):Int)=(i:Int)+1:=rfl
 have ha:(if i=0 then 2 else 1)≤2:=by split<;>omega
 have ha':1≤(if i=0 then 2 else 1):=by split<;>omega
 have hml:(ts.map av).length=i:=by simp[hI]
 unfold gG
 unfold gM at hc hv
 simp only
 cases hx:genS k t d lim with
 |er e=>
  rw[hx]at hc
  have he:(e==0)=false:=by simpa using rS hx
  have hf:=kP e a b
  simp only[VR.mv]at hc
  simp only[cS]
  unfold aB at hc
  unfold eK
  generalize(if i=0 then 2 else 1)=aa at ha ha' ⊢
  generalize ts.map av=vs at hml ⊢
  rcases hdv with rfl|⟨rfl,rfl⟩
  all_goals(
  obtain⟨b',hb'⟩:∃b',b'=m266b0:=⟨_,rfl⟩
  rw[ah,show Item.lp m266k0 m266b0=Item.lp m266k0 b' by rw[hb']]
  apply ae;intro rhs hrhs
  simp(maxSteps:=4000000)(disch:=first|exact dz|fail)only[bB.u,seval,cut,m266b0,gS,hlt,i1,hll,hv,hc,he,hf,hml,ag,aj]
  subst hrhs;rfl)
 |ok x=>
  rw[hx]at hc
  simp only[VR.mv]at hc
  refine⟨by simp[hI],?_⟩
  simp only[List.map_append,List.map_cons,List.map_nil]
  unfold eK
  rw[if_neg (Nat.succ_ne_zero i),e9]
  generalize(if i=0 then 2 else 1)=aa at ha ha' ⊢
  generalize ts.map av=vs at hml ⊢
  rcases tp hx with⟨D,rfl⟩|⟨bs,rfl⟩
  ·have hm:av (.mk 2 4 true [] [D])= .agg [.int .i64 2,.int .i64 4,.bool true,.nilsl,.sl 5 [av D]]:=by rw[aX];rfl
   have hw:Rb .nilsl []:=.nil
   rw[hm]at hc ⊢
   have hp:∀(D':MV),Call Q 267 [.agg [.int .i64 2,.int .i64 4,.bool true,.nilsl,.sl 5 [D']]]=some (.agg [.int .i64 2,.int .i64 4,.bool true,.nilsl,.sl 5 [D']]):=by
    intro D'
    rw[Call_fn Q (m:=m267) rfl rfl]
    apply ae;intro rhs hrhs
    simp(maxSteps:=4000000)(disch:=first|exact dz|fail)only[bB.u,seval,cut,m267]
    subst hrhs;rfl
   rcases hdv with rfl|⟨rfl,rfl⟩
   all_goals(
   obtain⟨b',hb'⟩:∃b',b'=m266b0:=⟨_,rfl⟩
   rw[ah,show Item.lp m266k0 m266b0=Item.lp m266k0 b' by rw[hb']]
   apply ae;intro rhs hrhs
   simp(maxSteps:=4000000)(disch:=first|exact dz|fail)only[bB.u,seval,cut,m266b0,hlt,i1,hll,hv,hc,hp,hml,ag,aj]
   subst hrhs;(subst hb';refine(congrArg (ax _ _) (aA Q _ _ _ _)).trans ?_;exact congrArg (ax 1 gS) (af (canon_cong kr kr kr))))
  ·have hm:av (.mk 2 k false bs [])= .agg [.int .i64 2,.int .i64 k,.bool false,.bs bs,.nilsl]:=by rw[aX];rfl
   rw[hm]at hc ⊢
   have hp:=Ff 2 k false (.bs bs) .nilsl bs [] (.bs bs) .nil
   rcases hdv with rfl|⟨rfl,rfl⟩
   all_goals(
   obtain⟨b',hb'⟩:∃b',b'=m266b0:=⟨_,rfl⟩
   rw[ah,show Item.lp m266k0 m266b0=Item.lp m266k0 b' by rw[hb']]
   apply ae;intro rhs hrhs
   simp(maxSteps:=4000000)(disch:=first|exact dz|fail)only[bB.u,seval,cut,m266b0,hlt,i1,hll,hv,hc,hp,hml,ag,aj]
   subst hrhs;(subst hb';refine(congrArg (ax _ _) (aA Q _ _ _ _)).trans ?_;exact congrArg (ax 1 gS) (af (canon_cong kr kr kr))))
theorem Fh (K:List Item) (a:Int) (b:Bool) (lim:Bool) (l:List MV) (gs:List Gn) (hl:Gl l gs) (hok:okG gs) (hlen:gs.length≤2^30) (ts:List T) (i:Nat) (g:Gn) (hI:ts.length=i) (hg:gs[i]? = some g):
  cS (fun ts i=>ts.length=i) (fun ts i=>ax 1 gS (RunL Q m266k0 m266b0 K (eK a b lim 268 (.sl 3 l) gs.length (ts.map wv) i))) (fun e=>some (.sl 5 [],[some (.cells [.int .i64 (cJ e (a,b)).1,.bool (cJ e (a,b)).2])]))
   (ax 1 gS (RunL Q m266k0 m266b0 K (eK a b lim 268 (.sl 3 l) gs.length (ts.map wv) i))) (i+1) (gG lim ts g):=by
 obtain⟨hi,hxx⟩:=List.getElem?_eq_some_iff.1 hg
 obtain⟨dv,hdv,hv⟩:=hl.get hg
 have hgo:=hok g (List.mem_of_getElem? hg)
 obtain⟨k,t,d⟩:=g
 simp only at hdv hv hgo
 have hc:=vJ k t dv d hdv hgo.2 hgo.1 lim
 have hlt:decide ((i:Int)<(gs.length:Int))=true:=by simp;omega
 have i1:(i:Int)<(gs.length:Int):=by omega
 have hll:=hl.length
 have e9:((i+1:Nat):Int)=(i:Int)+1:=rfl
 have ha:(if i=0 then 2 else 1)≤2:=by split<;>omega
 have ha':1≤(if i=0 then 2 else 1):=by split<;>omega
 have hml:(ts.map wv).length=i:=by simp[hI]
 unfold gG
 unfold gM at hc hv
 simp only
 cases hx:genS k t d lim with
 |er e=>
  rw[hx]at hc
  have he:(e==0)=false:=by simpa using rS hx
  have hf:=kP e a b
  simp only[VR.mv]at hc
  simp only[cS]
  unfold aB at hc
  unfold eK
  generalize(if i=0 then 2 else 1)=aa at ha ha' ⊢
  generalize ts.map wv=vs at hml ⊢
  rcases hdv with rfl|⟨rfl,rfl⟩
  all_goals(
  obtain⟨b',hb'⟩:∃b',b'=m266b0:=⟨_,rfl⟩
  rw[ah,show Item.lp m266k0 m266b0=Item.lp m266k0 b' by rw[hb']]
  apply ae;intro rhs hrhs
  simp(maxSteps:=4000000)(disch:=first|exact dz|fail)only[bB.u,seval,cut,m266b0,gS,hlt,i1,hll,hv,hc,he,hf,hml,ag,aj]
  subst hrhs;rfl)
 |ok x=>
  rw[hx]at hc
  simp only[VR.mv]at hc
  refine⟨by simp[hI],?_⟩
  simp only[List.map_append,List.map_cons,List.map_nil]
  unfold eK
  rw[if_neg (Nat.succ_ne_zero i),e9]
  generalize(if i=0 then 2 else 1)=aa at ha ha' ⊢
  generalize ts.map wv=vs at hml ⊢
  rcases tp hx with⟨D,rfl⟩|⟨bs,rfl⟩
  ·have hm:av (.mk 2 4 true [] [D])= .agg [.int .i64 2,.int .i64 4,.bool true,.nilsl,.sl 5 [av D]]:=by rw[aX];rfl
   have hw:Rb .nilsl []:=.nil
   unfold wv
   rw[hm]at hc ⊢
   have hp:∀(D':MV),Call Q 268 [.agg [.int .i64 2,.int .i64 4,.bool true,.nilsl,.sl 5 [D']]]=some (.agg [.int .i64 0,.int .i64 16,.bool true,.nilsl,.fsl 5 [.agg [.int .i64 2,.int .i64 4,.bool true,.nilsl,.sl 5 [D']]]]):=by
    intro D'
    rw[Call_fn Q (m:=m268) rfl rfl]
    apply ae;intro rhs hrhs
    simp(maxSteps:=4000000)(disch:=first|exact dz|fail)only[bB.u,seval,cut,m268,bG]
    subst hrhs;rfl
   rcases hdv with rfl|⟨rfl,rfl⟩
   all_goals(
   obtain⟨b',hb'⟩:∃b',b'=m266b0:=⟨_,rfl⟩
   rw[ah,show Item.lp m266k0 m266b0=Item.lp m266k0 b' by rw[hb']]
   apply ae;intro rhs hrhs
   simp(maxSteps:=4000000)(disch:=first|exact dz|fail)only[bB.u,seval,cut,m266b0,hlt,i1,hll,hv,hc,hp,hml,ag,aj]
   subst hrhs;(subst hb';refine(congrArg (ax _ _) (aA Q _ _ _ _)).trans ?_;exact congrArg (ax 1 gS) (af (canon_cong kr kr kr))))
  ·have hm:av (.mk 2 k false bs [])= .agg [.int .i64 2,.int .i64 k,.bool false,.bs bs,.nilsl]:=by rw[aX];rfl
   unfold wv
   rw[hm]at hc ⊢
   have hp:=Hp 2 k false (.bs bs) .nilsl bs [] (.bs bs) .nil
   rcases hdv with rfl|⟨rfl,rfl⟩
   all_goals(
   obtain⟨b',hb'⟩:∃b',b'=m266b0:=⟨_,rfl⟩
   rw[ah,show Item.lp m266k0 m266b0=Item.lp m266k0 b' by rw[hb']]
   apply ae;intro rhs hrhs
   simp(maxSteps:=4000000)(disch:=first|exact dz|fail)only[bB.u,seval,cut,m266b0,hlt,i1,hll,hv,hc,hp,hml,ag,aj]
   subst hrhs;(subst hb';refine(congrArg (ax _ _) (aA Q _ _ _ _)).trans ?_;exact congrArg (ax 1 gS) (af (canon_cong kr kr kr))))
theorem Hq (a:Int) (b:Bool) (lim:Bool) (lv:MV) (n:Nat) (vs:List MV) (hn:vs.length=n):ax 1 gS (RunL Q m266k0 m266b0 [.blk 0,.code iA] (eK a b lim 267 lv n vs n))=some (.sl 5 vs,[some (.cells [.int .i64 a,.bool b])]):=by
 have hlt:decide ((n:Int)<(n:Int))=false:=by simp
 have ha:(if n=0 then 2 else 1)≤2:=by split<;>omega
 have ha':1≤(if n=0 then 2 else 1):=by split<;>omega
 unfold eK
 generalize(if n=0 then 2 else 1)=aa at ha ha' ⊢
 obtain⟨b',hb'⟩:∃b',b'=m266b0:=⟨_,rfl⟩
 rw[ah,show Item.lp m266k0 m266b0=Item.lp m266k0 b' by rw[hb']]
 apply ae;intro rhs hrhs
 simp(maxSteps:=4000000)(disch:=first|exact dz|fail)only[bB.u,seval,cut,m266b0,gS,iA,hlt,hn,ag,aj]
 subst hrhs;rfl
theorem x8 (l:List MV) (gs:List Gn) (hl:Gl l gs) (hok:okG gs) (hlen:gs.length≤2^30) (lim:Bool) (a:Int) (b:Bool):
  CallH Q 266 [.ptr 0 0,.sl 3 l,.bool lim,.fn 267 []] [.cells [.int .i64 a,.bool b]]=some (.sl 5 ((gensT lim gs).map av),[some (.cells [.int .i64 (dd lim gs (a,b)).1,.bool (dd lim gs (a,b)).2])]):=by
 have hll:=hl.length
 have hnd:=kQ (decide (gs.length≤256)) a b
 have hle:decide ((gs.length:Int)≤256)=decide (gs.length≤256):=by rw[Bool.eq_iff_iff];simp;omega
 unfold dd gensT
 generalize hS:bl (decide (gs.length≤256)) (a,b)=s at hnd
 obtain⟨a',b'⟩:=s
 have loop:ax 1 gS (RunL Q m266k0 m266b0 [.blk 0,.code iA] (eK a' b' lim 267 (.sl 3 l) gs.length [] 0))=some (.sl 5 ((match aG (gG lim) [] gs with| .inl ts=>ts| .inr _=>[]).map av),[some (.cells [.int .i64 (match aG (gG lim) [] gs with| .inl _=>((a',b'):MS)| .inr e=>cJ e (a',b')).1,.bool (match aG (gG lim) [] gs with| .inl _=>((a',b'):MS)| .inr e=>cJ e (a',b')).2])]):=by
  refine gC gs (gG lim) (fun ts i=>ax 1 gS (RunL Q m266k0 m266b0 [.blk 0,.code iA] (eK a' b' lim 267 (.sl 3 l) gs.length (ts.map av) i))) (fun e=>some (.sl 5 [],[some (.cells [.int .i64 (cJ e (a',b')).1,.bool (cJ e (a',b')).2])])) (fun ts i=>ts.length=i)
   (fun ts i g hI hg=>Fg _ a' b' lim l gs hl hok hlen ts i g hI hg) [] rfl rfl ?_ ?_
  ·intro ts hf hI
   rw[hf]
   exact Hq a' b' lim _ _ _ (by simp[hI])
  ·intro e hf
   rw[hf];rfl
 unfold eK at loop
 rw[aC Q (m:=m266) rfl]
 apply ae;intro rhs hrhs
 simp(maxSteps:=4000000)(disch:=first|exact dz|fail)only[bB.u,seval,cut,m266,hll,hle,hnd,aq,ag,aj]
 subst hrhs;exact(congrArg (ax _ _) (af (canon_cong kr kr kr))).trans loop
theorem CP (lim:Bool) (a:Int) (b:Bool):CallH Q 266 [.ptr 0 0,.nilsl,.bool lim,.fn 267 []] [.cells [.int .i64 a,.bool b]]=CallH Q 266 [.ptr 0 0,.sl 3 [],.bool lim,.fn 267 []] [.cells [.int .i64 a,.bool b]]:=by
 rw[aC Q (m:=m266) rfl,aC Q (m:=m266) rfl]
 rfl
theorem Hr (a:Int) (b:Bool) (lim:Bool) (lv:MV) (n:Nat) (vs:List MV) (hn:vs.length=n):ax 1 gS (RunL Q m266k0 m266b0 [.blk 0,.code iA] (eK a b lim 268 lv n vs n))=some (.sl 5 vs,[some (.cells [.int .i64 a,.bool b])]):=by
 have hlt:decide ((n:Int)<(n:Int))=false:=by simp
 have ha:(if n=0 then 2 else 1)≤2:=by split<;>omega
 have ha':1≤(if n=0 then 2 else 1):=by split<;>omega
 unfold eK
 generalize(if n=0 then 2 else 1)=aa at ha ha' ⊢
 obtain⟨b',hb'⟩:∃b',b'=m266b0:=⟨_,rfl⟩
 rw[ah,show Item.lp m266k0 m266b0=Item.lp m266k0 b' by rw[hb']]
 apply ae;intro rhs hrhs
 simp(maxSteps:=4000000)(disch:=first|exact dz|fail)only[bB.u,seval,cut,m266b0,gS,iA,hlt,hn,ag,aj]
 subst hrhs;rfl
theorem x9 (l:List MV) (gs:List Gn) (hl:Gl l gs) (hok:okG gs) (hlen:gs.length≤2^30) (lim:Bool) (a:Int) (b:Bool):
  CallH Q 266 [.ptr 0 0,.sl 3 l,.bool lim,.fn 268 []] [.cells [.int .i64 a,.bool b]]=some (.sl 5 ((gensT lim gs).map wv),[some (.cells [.int .i64 (dd lim gs (a,b)).1,.bool (dd lim gs (a,b)).2])]):=by
 have hll:=hl.length
 have hnd:=kQ (decide (gs.length≤256)) a b
 have hle:decide ((gs.length:Int)≤256)=decide (gs.length≤256):=by rw[Bool.eq_iff_iff];simp;omega
 unfold dd gensT
 generalize hS:bl (decide (gs.length≤256)) (a,b)=s at hnd
 obtain⟨a',b'⟩:=s
 have loop:ax 1 gS (RunL Q m266k0 m266b0 [.blk 0,.code iA] (eK a' b' lim 268 (.sl 3 l) gs.length [] 0))=some (.sl 5 ((match aG (gG lim) [] gs with| .inl ts=>ts| .inr _=>[]).map wv),[some (.cells [.int .i64 (match aG (gG lim) [] gs with| .inl _=>((a',b'):MS)| .inr e=>cJ e (a',b')).1,.bool (match aG (gG lim) [] gs with| .inl _=>((a',b'):MS)| .inr e=>cJ e (a',b')).2])]):=by
  refine gC gs (gG lim) (fun ts i=>ax 1 gS (RunL Q m266k0 m266b0 [.blk 0,.code iA] (eK a' b' lim 268 (.sl 3 l) gs.length (ts.map wv) i))) (fun e=>some (.sl 5 [],[some (.cells [.int .i64 (cJ e (a',b')).1,.bool (cJ e (a',b')).2])])) (fun ts i=>ts.length=i)
   (fun ts i g hI hg=>Fh _ a' b' lim l gs hl hok hlen ts i g hI hg) [] rfl rfl ?_ ?_
  ·intro ts hf hI
   rw[hf]
   exact Hr a' b' lim _ _ _ (by simp[hI])
  ·intro e hf
   rw[hf];rfl
 unfold eK at loop
 rw[aC Q (m:=m266) rfl]
 apply ae;intro rhs hrhs
 simp(maxSteps:=4000000)(disch:=first|exact dz|fail)only[bB.u,seval,cut,m266,hll,hle,hnd,aq,ag,aj]
 subst hrhs;exact(congrArg (ax _ _) (af (canon_cong kr kr kr))).trans loop
theorem CQ (lim:Bool) (a:Int) (b:Bool):CallH Q 266 [.ptr 0 0,.nilsl,.bool lim,.fn 268 []] [.cells [.int .i64 a,.bool b]]=CallH Q 266 [.ptr 0 0,.sl 3 [],.bool lim,.fn 268 []] [.cells [.int .i64 a,.bool b]]:=by
 rw[aC Q (m:=m266) rfl,aC Q (m:=m266) rfl]
 rfl
structure Fs (w:MV):Prop where
 l:∀st,lend w st=some (w,st)
 c:MV.cells w=[w]
 f:MV.fit w=true
 n:MV.names w=[]
 n2:MV.names2 w=[]
 mr:∀g,mapRef g w=w
 mv:∀g,mapV g w=w
theorem Fs.a {w:MV} (h:Fs w):(∀st,lend w st=some (w,st))∧MV.cells w=[w]∧MV.fit w=true∧MV.names w=[]∧MV.names2 w=[]∧(∀g,mapRef g w=w)∧∀g,mapV g w=w:=⟨h.l,h.c,h.f,h.n,h.n2,h.mr,h.mv⟩
theorem Rb.fs {w:MV} {b:List UInt8} (h:Rb w b):Fs w:=by cases h<;>exact⟨fun _=>rfl,rfl,rfl,rfl,rfl,fun _=>rfl,fun _=>rfl⟩
theorem bK {w:MV} {d:Dn} (h:isDir w d):Fs w:=by rcases h with rfl|⟨rfl,_⟩<;>exact⟨fun _=>rfl,rfl,rfl,rfl,rfl,fun _=>rfl,fun _=>rfl⟩
def Gs (w:MV) (gs:List Gn):Prop:=(∃l,w= .sl 3 l∧Gl l gs)∨w= .nilsl∧gs=[]
theorem Gs.fs {w:MV} {gs:List Gn} (h:Gs w gs):Fs w:=by rcases h with⟨l,rfl,_⟩|⟨rfl,_⟩<;>exact⟨fun _=>rfl,rfl,rfl,rfl,rfl,fun _=>rfl,fun _=>rfl⟩
theorem Gs.len {w:MV} {gs:List Gn} (h:Gs w gs) (st:DS):lenV false w st=some (.int .i64 gs.length):=by
 rcases h with⟨l,rfl,h⟩|⟨rfl,rfl⟩
 ·simp only[lenV,h.length]
 ·rfl
structure Crt where
 serial:Int
 scheme:Int
 issuer:Dn
 subject:Dn
 from_:Int
 to:Int
 keyScheme:Int
 key:List UInt8
 ca:Bool
 path:Int
 usage:Int
 alt:List Gn
 permit:List Gn
 exclude:List Gn
 sig:List UInt8
structure CrtR (c:Crt) (iss sub key alt per exc sig:MV):Prop where
 iss:isDir iss c.issuer
 sub:isDir sub c.subject
 key:Rb key c.key
 alt:Gs alt c.alt
 per:Gs per c.permit
 exc:Gs exc c.exclude
 sig:Rb sig c.sig
structure CrtB (c:Crt):Prop where
 iss:okLens c.issuer
 sub:okLens c.subject
 key:c.key.length≤2^20
 alt:okG c.alt∧c.alt.length≤2^20
 per:okG c.permit∧c.permit.length≤2^20
 exc:okG c.exclude∧c.exclude.length≤2^20
 sig:c.sig.length≤2^20
 ba:szs (gensT false c.alt)≤2^26
 bp:szs (gensT true c.permit)≤2^26
 be:szs (gensT true c.exclude)≤2^26
 serial:c.serial<9223372036854775808
 path:c.path<9223372036854775808
def hJ (c:Crt) (iss sub key alt per exc sig:MV):MV:=.agg [.int .i64 c.serial,.int .i64 c.scheme,iss,sub,.int .i64 c.from_,.int .i64 c.to,.int .i64 c.keyScheme,key,.bool c.ca,.int .i64 c.path,.int .i64 c.usage,alt,per,exc,sig]
def cB (tag n:Int):T:=.mk 0 tag false (aE n) []
def hU (n:Int):MV:=.agg [.int .i64 0,.int .i64 2,.bool false,.bs (aE n),.nilsl]
def basicT (p:Int):T:=.mk 0 16 true [] (.mk 0 1 false [255] []::(if 0≤p then [cB 2 p]else []))
def altT (gs:List Gn):T:=.mk 0 16 true [] (gensT false gs)
def cD (k:Int) (gs:List Gn):List T:=if gs.length=0 then []else [.mk 2 k true [] ((gensT true gs).map wt)]
def limT (p e:List Gn):T:=.mk 0 16 true [] (cD 0 p++cD 1 e)
def vV (s:MS) (p:Int):MS:=cX (basicT p) (if 0≤p then bl (decide (0≤p)&&decide (p≤4611686018427387903)) s else s)
def pathOK (c:Crt):Bool:=decide (-1≤c.path)&&decide (c.path≤4611686018427387903)&&(c.ca||c.path== -1)
def lL (c:Crt) (s:MS):MS:=if c.ca then vV (bl (pathOK c) s) c.path else bl (pathOK c) s
def lM (c:Crt) (s:MS):MS:=if c.usage=0 then bl (decide (0≤c.usage)&&decide (c.usage≤511)) s else cX (flT c.usage) (bl (decide (0≤c.usage)&&decide (c.usage≤511)) s)
def jW (c:Crt) (s:MS):MS:=if c.alt.length=0 then s else cX (altT c.alt) (dd false c.alt s)
def lN (gs:List Gn) (s:MS):MS:=if gs.length=0 then s else dd true gs s
def jX (c:Crt) (s:MS):MS:=if c.permit.length+c.exclude.length=0 then s else cX (limT c.permit c.exclude) (lN c.exclude (lN c.permit s))
def d6 (c:Crt) (s:MS):MS:=jX c (jW c (lM c (lL c s)))
def eB (c:Crt):List (List UInt8 × Bool × List UInt8):=if c.ca then [([85,29,19],true,(wrW (basicT c.path)).2)]else []
def eU (c:Crt):List (List UInt8 × Bool × List UInt8):=if c.usage=0 then []else [([85,29,15],true,(wrW (flT c.usage)).2)]
def eA (c:Crt):List (List UInt8 × Bool × List UInt8):=if c.alt.length=0 then []else [([85,29,17],false,(wrW (altT c.alt)).2)]
def eL (c:Crt):List (List UInt8 × Bool × List UInt8):=if c.permit.length+c.exclude.length=0 then []else [([85,29,30],true,(wrW (limT c.permit c.exclude)).2)]
def de (c:Crt):List (List UInt8 × Bool × List UInt8):=eB c++(eU c++(eA c++eL c))
def fx (c:Crt):List MV:=(de c).map fun x=>db x.1 x.2.1 x.2.2
def b9 (c:Crt):List T:=(de c).map fun x=>jv x.1 x.2.1 x.2.2
theorem x_:Call Q 109 [.str [50,46,53,46,50,57,46,49,57]]=some (fh [85,29,19]):=Call_iff.2 ⟨3000,by kernel_rfl⟩
theorem Fi:Call Q 109 [.str [50,46,53,46,50,57,46,49,53]]=some (fh [85,29,15]):=Call_iff.2 ⟨3000,by kernel_rfl⟩
theorem II:Call Q 109 [.str [50,46,53,46,50,57,46,49,55]]=some (fh [85,29,17]):=Call_iff.2 ⟨3000,by kernel_rfl⟩
theorem IJ:Call Q 109 [.str [50,46,53,46,50,57,46,51,48]]=some (fh [85,29,30]):=Call_iff.2 ⟨3000,by kernel_rfl⟩
mutual
def nrm:T→Prop
 | .mk _ _ m b ks=>(m=true→b=[])∧(m=false→ks=[])∧bU ks
def bU:List T→Prop
 | []=>True
 |k::r=>nrm k∧bU r
end
mutual
theorem jw (f:Bool):∀t:T,nrm t→Wv f (av t) t
 | .mk c t m b ks,h=>by
  rw[nrm]at h
  rw[aX]
  have hk:=p' f ks h.2.2
  refine .mk ?_ ?_
  ·cases m
   ·exact .bs b
   ·rw[h.1 rfl];exact .nil
  ·cases ks with
   |nil=>exact .nil
   |cons k r=>exact .sl hk
theorem p' (f:Bool):∀ts:List T,bU ts→Wl f (kw ts) ts
 | [],_=>.nil
 |k::r,h=>by rw[bU]at h;rw[kw];exact .cons (jw f k h.1) (p' f r h.2)
end
theorem oM:∀ {a b:List T},bU a→bU b→bU (a++b)
 | [],b,_,h=>h
 |k::r,b,h1,h2=>by rw[bU]at h1;rw[List.cons_append,bU];exact⟨h1.1,oM h1.2 h2⟩
theorem fl:∀ {a b:List T},bg a→bg b→bg (a++b)
 | [],b,_,h=>h
 |k::r,b,h1,h2=>by rw[bg]at h1;rw[List.cons_append,bg];exact⟨h1.1,fl h1.2 h2⟩
theorem eE:∀(a b:List T),szs (a++b)=szs a+szs b
 | [],b=>by simp[szs]
 |k::r,b=>by rw[List.cons_append,szs,eE r b,szs];omega
theorem ya:∀(d:Dn) (ks ks':List T),bg ks→bU ks→aG jn ks d= .inl ks'→bg ks'∧bU ks'
 | [],ks,ks',h1,h2,h=>by cases h;exact⟨h1,h2⟩
 |a::r,ks,ks',h1,h2,h=>by
  rw[bw]at h
  cases hx:gH a.1 with
  |none=>rw[show jn ks a= .inr () by unfold jn;rw[hx]]at h;cases h
  |some out=>
   rw[show jn ks a= .inl (ks++[fV out a.2]) by unfold jn;rw[hx]]at h
   refine ya r _ ks' (fl h1 ?_) (oM h2 ?_) h
   ·simp only[bg,low,fV,ec,iQ,and_true]
    unfold dK
    split<;>decide
   ·simp[bU,nrm,fV,ec,iQ]
theorem nS {d:Dn} {D:T} (h:dnS d= .ok D):low D∧nrm D:=by
 unfold dnS at h
 split at h
 ·cases h
 ·split at h
  ·cases h
  ·rename_i ks hf
   split at h
   ·cases h
   ·cases h
    obtain⟨h1,h2⟩:=ya d [] ks (by trivial) (by trivial) hf
    exact⟨by rw[low];exact⟨by decide,h1⟩,by rw[nrm];exact⟨fun _=>rfl,fun h=>(by cases h),h2⟩⟩
theorem CR {k:Int} {t:List UInt8} {d:Dn} {lim:Bool} {x:T} (h:genS k t d lim= .ok x):low x∧nrm x:=by
 unfold genS at h
 split at h
 ·cases h
 ·rename_i hn
  have hk:k=1∨k=2∨k=4∨k=6∨k=7:=by
   have:dL k=true:=by
    cases hx:dL k
    ·exact absurd (.inl hx) hn
    ·rfl
   simp only[dL,Bool.or_eq_true,beq_iff_eq]at this
   omega
  split at h
  ·split at h
   ·cases h
   ·rename_i D hD
    split at h
    ·cases h
     obtain⟨h1,h2⟩:=nS hD
     exact⟨by simp only[low,bg];exact⟨by decide,h1,trivial⟩,by simp only[nrm,bU];exact⟨by simp,by simp,h2,trivial⟩⟩
    ·cases h
  ·split at h
   ·cases h
    exact⟨by simp only[low,bg];exact⟨by omega,trivial⟩,by simp only[nrm,bU];exact⟨by simp,by simp,trivial⟩⟩
   ·cases h
theorem AW (lim:Bool):∀(gs:List Gn) (ts ts':List T),bg ts→bU ts→aG (gG lim) ts gs= .inl ts'→bg ts'∧bU ts'
 | [],ts,ts',h1,h2,h=>by cases h;exact⟨h1,h2⟩
 |g::r,ts,ts',h1,h2,h=>by
  rw[bw]at h
  cases hx:genS g.1 g.2.1 g.2.2 lim with
  |er e=>rw[show gG lim ts g= .inr e by unfold gG;rw[hx]]at h;cases h
  |ok x=>
   rw[show gG lim ts g= .inl (ts++[x]) by unfold gG;rw[hx]]at h
   obtain⟨a,b⟩:=CR hx
   exact AW lim r _ ts' (fl h1 (by simp only[bg];exact⟨a,trivial⟩)) (oM h2 (by simp only[bU];exact⟨b,trivial⟩)) h
theorem cE (lim:Bool) (gs:List Gn):bg (gensT lim gs)∧bU (gensT lim gs):=by
 unfold gensT
 split
 ·rename_i ts hf
  exact AW lim gs [] ts (by trivial) (by trivial) hf
 ·exact⟨by trivial,by trivial⟩
theorem nv:∀ {ts:List T},bg ts→bU ts→bg (ts.map wt)∧bU (ts.map wt)∧szs (ts.map wt)≤2*szs ts
 | [],_,_=>⟨by trivial,by trivial,by simp[szs]⟩
 |k::r,h1,h2=>by
  rw[bg]at h1;rw[bU]at h2
  obtain⟨a,b,c⟩:=nv h1.2 h2.2
  have hk:16≤sz k:=by cases k;rw[sz];omega
  simp only[List.map_cons,bg,bU,szs,wt,low,nrm,sz,List.length_nil]
  exact⟨⟨⟨by decide,h1.1,trivial⟩,a⟩,⟨⟨by simp,by simp,h2.1,trivial⟩,b⟩,by omega⟩
theorem DF:∀ {ts:List T},bU ts→Wl true (ts.map wv) (ts.map wt)
 | [],_=>.nil
 |k::r,h=>by
  rw[bU]at h
  exact .cons (.mk .nil (.fsl (.cons (jw true k h.1) .nil))) (DF h.2)
theorem Hs (f:Bool) {ts:List T} (h:bU ts):Wl f (ts.map av) ts:=by rw[←jl];exact p' f ts h
theorem vX:∀(k:Nat) (n:Int) (acc:List UInt8),(eJ k n acc).length≤k+acc.length
 | 0,n,acc=>by rw[eJ];omega
 |k+1,n,acc=>by
  rw[eJ]
  split
  ·simp;omega
  ·have:=vX k (n/256) (UInt8.ofNat (n%256).toNat::acc)
   simp only[List.length_cons]at this;omega
theorem oO (n:Int):(aE n).length≤9:=by
 unfold aE
 split
 ·simp
 ·have:=vX 9 n []
  simpa using this
theorem Fj (n:Int):(mA n).length≤3:=by unfold mA;split<;>simp
end Go.Mini
namespace Go.Mini
open Go Go.Mini.Nm Go.Proofs.YtgiobgojobegfaaGreatDoor
set_option maxRecDepth 100000
set_option maxHeartbeats 40000000
theorem nw (p:Int):low (basicT p):=by
 unfold basicT
 split<;>simp[low,bg,cB]
theorem oP (p:Int):sz (basicT p)≤200:=by
 have:=oO p
 unfold basicT
 split<;>simp[sz,szs,cB]<;>omega
theorem yb:Wv true ep (.mk 0 1 false [255] []):=.mk (.bs _) .nil
theorem jx (n:Int):Wv true (hU n) (cB 2 n):=.mk (.bs _) .nil
theorem Jv (p:Int) (h:¬ 0≤p) (a:Int) (b:Bool):CallH Q 264 [.ptr 0 0,.str [50,46,53,46,50,57,46,49,57],.bool true,.agg [.int .i64 0,.int .i64 16,.bool true,.nilsl,.fsl 5 [.agg [.int .i64 0,.int .i64 1,.bool false,.bs [255],.nilsl]]]] [.cells [.int .i64 a,.bool b]]=some (db [85,29,19] true (wrW (basicT p)).2,[some (.cells [.int .i64 (cX (basicT p) (a,b)).1,.bool (cX (basicT p) (a,b)).2])]):=by
 refine p_ (fb:=true) _ _ x_ true _ (basicT p) ?_ (nw p) (by have:=oP p;omega) a b
 unfold basicT
 rw[if_neg h]
 exact .mk .nil (.fsl (.cons yb .nil))
theorem Jw (p:Int) (h:0≤p) (a:Int) (b:Bool):CallH Q 264 [.ptr 0 0,.str [50,46,53,46,50,57,46,49,57],.bool true,.agg [.int .i64 0,.int .i64 16,.bool true,.nilsl,.sl 5 [.agg [.int .i64 0,.int .i64 1,.bool false,.bs [255],.nilsl],.agg [.int .i64 0,.int .i64 2,.bool false,.bs (aE p),.nilsl]]]] [.cells [.int .i64 a,.bool b]]=some (db [85,29,19] true (wrW (basicT p)).2,[some (.cells [.int .i64 (cX (basicT p) (a,b)).1,.bool (cX (basicT p) (a,b)).2])]):=by
 refine p_ (fb:=true) _ _ x_ true _ (basicT p) ?_ (nw p) (by have:=oP p;omega) a b
 unfold basicT
 rw[if_pos h]
 exact .mk .nil (.sl (.cons yb (.cons (jx p) .nil)))
theorem Ht (n:Int) (a:Int) (b:Bool):CallH Q 264 [.ptr 0 0,.str [50,46,53,46,50,57,46,49,53],.bool true,.agg [.int .i64 0,.int .i64 3,.bool false,.bs (mA n),.nilsl]] [.cells [.int .i64 a,.bool b]]=some (db [85,29,15] true (wrW (flT n)).2,[some (.cells [.int .i64 (cX (flT n) (a,b)).1,.bool (cX (flT n) (a,b)).2])]):=
 p_ (fb:=true) _ _ Fi true _ (flT n) (.mk (.bs _) .nil) (by simp[flT,low,bg]) (by have:=Fj n;simp[flT,sz,szs];omega) a b
theorem Hu (gs:List Gn) (hz:szs (gensT false gs)≤2^26) (a:Int) (b:Bool):CallH Q 264 [.ptr 0 0,.str [50,46,53,46,50,57,46,49,55],.bool false,.agg [.int .i64 0,.int .i64 16,.bool true,.nilsl,.sl 5 ((gensT false gs).map av)]] [.cells [.int .i64 a,.bool b]]=some (db [85,29,17] false (wrW (altT gs)).2,[some (.cells [.int .i64 (cX (altT gs) (a,b)).1,.bool (cX (altT gs) (a,b)).2])]):=
 p_ (fb:=true) _ _ II false _ (altT gs) (.mk .nil (.sl (Hs true (cE false gs).2))) (by unfold altT;rw[low];exact⟨by decide,(cE false gs).1⟩) (by simp[altT,sz];omega) a b
def yc (k:Int) (gs:List Gn):MV:=.agg [.int .i64 2,.int .i64 k,.bool true,.nilsl,.sl 5 ((gensT true gs).map wv)]
theorem uj (k:Int) (gs:List Gn):Wv true (yc k gs) (.mk 2 k true [] ((gensT true gs).map wt)):=.mk .nil (.sl (DF (cE true gs).2))
theorem yd (p e:List Gn):low (limT p e):=by
 unfold limT cD
 have hp:=(nv (cE true p).1 (cE true p).2).1
 have he:=(nv (cE true e).1 (cE true e).2).1
 rw[low]
 refine⟨by decide,fl ?_ ?_⟩<;>split<;>simp only[bg,low,and_true]<;>first|exact⟨by decide,hp⟩|exact⟨by decide,he⟩
theorem Hv (p e:List Gn) (h1:szs (gensT true p)≤2^26) (h2:szs (gensT true e)≤2^26):sz (limT p e)≤2^30:=by
 unfold limT cD
 have hp:=(nv (cE true p).1 (cE true p).2).2.2
 have he:=(nv (cE true e).1 (cE true e).2).2.2
 rw[sz,eE]
 split<;>split<;>simp only[szs,sz,List.length_nil]<;>omega
theorem Hw (p e:List Gn) (h1:szs (gensT true p)≤2^26) (h2:szs (gensT true e)≤2^26) (ks:List MV) (hk:Wl true ks (cD 0 p++cD 1 e)) (a:Int) (b:Bool):CallH Q 264 [.ptr 0 0,.str [50,46,53,46,50,57,46,51,48],.bool true,.agg [.int .i64 0,.int .i64 16,.bool true,.nilsl,.sl 5 ks]] [.cells [.int .i64 a,.bool b]]=some (db [85,29,30] true (wrW (limT p e)).2,[some (.cells [.int .i64 (cX (limT p e) (a,b)).1,.bool (cX (limT p e) (a,b)).2])]):=
 p_ (fb:=true) _ _ IJ true _ (limT p e) (.mk .nil (.sl hk)) (yd p e) (Hv p e h1 h2) a b
theorem za (w:MV) (gs:List Gn) (h:Gs w gs) (hok:okG gs∧gs.length≤2^20) (lim:Bool) (a:Int) (b:Bool):CallH Q 266 [.ptr 0 0,w,.bool lim,.fn 267 []] [.cells [.int .i64 a,.bool b]]=some (.sl 5 ((gensT lim gs).map av),[some (.cells [.int .i64 (dd lim gs (a,b)).1,.bool (dd lim gs (a,b)).2])]):=by
 rcases h with⟨l,rfl,hl⟩|⟨rfl,rfl⟩
 ·exact x8 l gs hl hok.1 (by omega) lim a b
 ·rw[CP];exact x8 [] [] .nil hok.1 (by simp) lim a b
theorem rT (w:MV) (gs:List Gn) (h:Gs w gs) (hok:okG gs∧gs.length≤2^20) (lim:Bool) (a:Int) (b:Bool):CallH Q 266 [.ptr 0 0,w,.bool lim,.fn 268 []] [.cells [.int .i64 a,.bool b]]=some (.sl 5 ((gensT lim gs).map wv),[some (.cells [.int .i64 (dd lim gs (a,b)).1,.bool (dd lim gs (a,b)).2])]):=by
 rcases h with⟨l,rfl,hl⟩|⟨rfl,rfl⟩
 ·exact x9 l gs hl hok.1 (by omega) lim a b
 ·rw[CQ];exact x9 [] [] .nil hok.1 (by simp) lim a b
end Go.Mini
namespace Go.Mini
open Go Go.Mini.Nm Go.Proofs.YtgiobgojobegfaaGreatDoor
set_option maxRecDepth 100000
set_option maxHeartbeats 80000000
def vY:MCode:=(.rg [qa 9 0,qd 10 9 3,qc 11 10,oT 12 (.bin .geq (.t 11) (.c (.int .i64 (-1)))),qf 13 12,qR 14 9 3 13,qP 15 14 13,qV 16 .leq 15 4611686018427387903 13,qp 17 13 16,qf 18 17,qR 19 8 3 18,qP 20 19 18,gT 21 (.mv (.t 20)) 18,qQ 22 9 3 21,qO 23 22 21,gF 24 (.bin .eql (.t 23) (.c (.int .i64 (-1)))) 21,gT 25 (.pick (.t 21) qT (.t 24)) 18,qp 26 18 25,qv 27 260 9 26])
def zb:MCode:=(.rg [qa 52 0,qd 53 10 3,qc 54 53,qx 55 .geq 54 0,qf 56 55,qR 57 10 3 56,qP 58 57 56,qV 59 .leq 58 511 56,qp 60 56 59,qv 61 260 52 60])
theorem vZ:m259=⟨2,[.other,.other],[(4,none,.el 5)],sq [qw 3 1,qn 4] (sq [qn 5] (.seq (vY) (.seq (sq [qd 28 8 3,oV 29 (.load false 1 (.t 28))] (.cond (.v 29) (sq [oT 30 (.bslB 1 [(0,qu 255)]),oT 31 (.build az [(1,1,qk 1),(3,1,.t 30)]),oT 32 (.bslF 5 (.agg az) 1 [(0,.t 31)]),qt 33 74 32,oV 6 (.alloc az),qg 5 6 33] (.seq (sq [qd 34 9 3,qc 35 34,qC 36 .geq 35 0] (.cond (.v 36) (.rgd [qd 37 4 6,qc 38 37,qa 39 0,qd 40 9 3,qc 41 40,qv 42 255 39 41,oT 43 (.bslF 5 (.agg az) 1 [(0,.t 42)]),qH 44 5 72 38 43,qd 45 4 6,oN (.store 1 (.t 45) (.t 44))] (bn [[],[0],[],[],[3],[2,4],[5],[1,6],[7],[8]])) .skip)) (.rg [qa 46 5,qa 47 0,qi 48 5 6,oT 49 (.callh 264 [.t 47,.c (.str [50,46,53,46,50,57,46,49,57]),qT,.t 48]),oT 50 (.bslF 5 (.agg az) 1 [(0,.t 49)]),qH 51 5 72 46 50,qb 5 51]))) .skip)) (.seq (zb) (.seq (sq [qd 62 10 3,qc 63 62,qC 64 .neq 63 0] (.cond (.v 64) (.rg [qa 65 5,qa 66 0,qd 67 10 3,qc 68 67,qt 69 265 68,oT 70 (.callh 264 [.t 66,.c (.str [50,46,53,46,50,57,46,49,53]),qT,.t 69]),oT 71 (.bslF 5 (.agg az) 1 [(0,.t 70)]),qH 72 5 72 65 71,qb 5 72]) .skip)) (.seq (sq [qd 73 11 3,qc 74 73,qj 75 74,qC 76 .gtr 75 0] (.cond (.v 76) (.rg [qa 77 5,qa 78 0,qa 79 0,qd 80 11 3,qc 81 80,oT 82 (.callh 266 [.t 79,.t 81,qF,.c (.fn 267 [])]),qt 83 74 82,oT 84 (.callh 264 [.t 78,.c (.str [50,46,53,46,50,57,46,49,55]),qF,.t 83]),oT 85 (.bslF 5 (.agg az) 1 [(0,.t 84)]),qH 86 5 72 77 85,qb 5 86]) .skip)) (.seq (sq [qd 87 12 3,qc 88 87,qj 89 88,qd 90 13 3,qc 91 90,qj 92 91,qB 93 .add 89 92,qC 94 .gtr 93 0] (.cond (.v 94) (sq [oV 7 (.mv (.c (.fn 268 [])))] (sq [oT 95 (.call 74 [.c .nilsl]),oV 8 (.alloc az),qg 5 8 95] (.seq (sq [qd 96 12 3,qc 97 96,qj 98 97,qC 99 .gtr 98 0] (.cond (.v 99) (.rgd [qd 100 4 8,qc 101 100,qa 102 0,qd 103 12 3,qc 104 103,qa 105 7,oT 106 (.callh 266 [.t 102,.t 104,qT,.t 105]),oT 107 (.call 254 [qk 0,.t 106]),oT 108 (.bslF 5 (.agg az) 1 [(0,.t 107)]),qH 109 5 72 101 108,qd 110 4 8,oN (.store 1 (.t 110) (.t 109))] (bn [[],[0],[],[],[3],[],[2,4,5],[6],[7],[1,8],[9],[10]])) .skip)) (.seq (sq [qd 111 13 3,qc 112 111,qj 113 112,qC 114 .gtr 113 0] (.cond (.v 114) (.rgd [qd 115 4 8,qc 116 115,qa 117 0,qd 118 13 3,qc 119 118,qa 120 7,oT 121 (.callh 266 [.t 117,.t 119,qT,.t 120]),oT 122 (.call 254 [qk 1,.t 121]),oT 123 (.bslF 5 (.agg az) 1 [(0,.t 122)]),qH 124 5 72 116 123,qd 125 4 8,oN (.store 1 (.t 125) (.t 124))] (bn [[],[0],[],[],[3],[],[2,4,5],[6],[7],[1,8],[9],[10]])) .skip)) (.rg [qa 126 5,qa 127 0,qi 128 5 8,oT 129 (.callh 264 [.t 127,.c (.str [50,46,53,46,50,57,46,51,48]),qT,.t 128]),oT 130 (.bslF 5 (.agg az) 1 [(0,.t 129)]),qH 131 5 72 126 130,qb 5 131]))))) .skip)) (sq [qa 132 5,qb 4 132] .ret)))))))),some 1⟩:=rfl
theorem ny (K:List Item) (V:List (Nat × MV)) (O:List (Nat × Obj)) (nx p:Nat) (serial scheme from_ to ks path usage:Int) (iss sub key alt per exc sig:MV) (ca:Bool) (a:Int) (b:Bool) (h0:look V 0=some (.ptr 0 0)) (h3:look V 3=some (.ptr p 0)) (hO:look O p=some (.cells [.int .i64 serial,.int .i64 scheme,iss,sub,.int .i64 from_,.int .i64 to,.int .i64 ks,key,.bool ca,.int .i64 path,.int .i64 usage,alt,per,exc,sig])) (hO0:look O 0=some (.cells [.int .i64 a,.bool b])):
  Run Q (.code vY::K) ⟨V,[],O,nx⟩=Run Q K ⟨V,[],(0,.cells [.int .i64 (bl (decide (-1≤path)&&decide (path≤4611686018427387903)&&(ca||path== -1)) (a,b)).1,.bool (bl (decide (-1≤path)&&decide (path≤4611686018427387903)&&(ca||path== -1)) (a,b)).2])::O,nx+76⟩:=by
 cases h1:decide (-1≤path)<;>cases h2:decide (path≤4611686018427387903)<;>cases ca<;>cases h4:(path== -1)
 all_goals(
  apply ae;intro rhs hrhs
  simp(maxSteps:=4000000)(disch:=first|exact dz|fail)only[bB.u,seval,cut,vY,h0,h3,hO,hO0,h1,h2,h4,kQ,aj,inner,objsOf,Bool.false_and,Bool.true_and,Bool.and_true,Bool.and_false]
  try(subst hrhs;simp only[Bool.false_and,Bool.true_and,Bool.and_true,Bool.and_false,Bool.or_false,Bool.or_true,Bool.false_or,Bool.true_or]))
theorem oQ (K:List Item) (V:List (Nat × MV)) (O:List (Nat × Obj)) (nx p:Nat) (serial scheme from_ to ks path usage:Int) (iss sub key alt per exc sig:MV) (ca:Bool) (a:Int) (b:Bool) (h0:look V 0=some (.ptr 0 0)) (h3:look V 3=some (.ptr p 0)) (hO:look O p=some (.cells [.int .i64 serial,.int .i64 scheme,iss,sub,.int .i64 from_,.int .i64 to,.int .i64 ks,key,.bool ca,.int .i64 path,.int .i64 usage,alt,per,exc,sig])) (hO0:look O 0=some (.cells [.int .i64 a,.bool b])):
  Run Q (.code zb::K) ⟨V,[],O,nx⟩=Run Q K ⟨V,[],(0,.cells [.int .i64 (bl (decide (0≤usage)&&decide (usage≤511)) (a,b)).1,.bool (bl (decide (0≤usage)&&decide (usage≤511)) (a,b)).2])::O,nx+40⟩:=by
 cases h1:decide (0≤usage)<;>cases h2:decide (usage≤511)
 all_goals(
  apply ae;intro rhs hrhs
  simp(maxSteps:=4000000)(disch:=first|exact dz|fail)only[bB.u,seval,cut,zb,h0,h3,hO,hO0,h1,h2,kQ,aj,inner,objsOf,Bool.false_and,Bool.true_and,Bool.and_true,Bool.and_false]
  try(subst hrhs;simp only[Bool.false_and,Bool.true_and,Bool.and_true,Bool.and_false,Bool.or_false,Bool.or_true,Bool.false_or,Bool.true_or]))
end Go.Mini

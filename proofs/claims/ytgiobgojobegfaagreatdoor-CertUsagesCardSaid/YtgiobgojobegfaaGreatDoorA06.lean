/- a certificate's law by that interpreter (part 6): what the program's functions answer, or plain laws of it; no conditions. -/
import Derived.Test.YtgiobgojobegfaaGreatDoorA05
set_option linter.all false
namespace Go.Mini
open Go Go.Mini.Nm Go.Proofs.YtgiobgojobegfaaGreatDoor
set_option maxRecDepth 100000
set_option maxHeartbeats 4000000
abbrev MS:=Int × Bool
def failS (e:Int) (s:MS):MS:=if s.1=0 then(e,s.2)else s
def needS (ok:Bool) (s:MS):MS:=if ok=true then s else failS 30 s
theorem h_fail (e:Int) (a:Int) (b:Bool):CallH Q 108 [.ptr 0 0,.int .i64 e] [.cells [.int .i64 a,.bool b]]=some (.tup [],[some (.cells [.int .i64 (failS e (a,b)).1,.bool (failS e (a,b)).2])]):=by
 unfold failS
 rw[CallH_fn Q (m:=m108) rfl]
 by_cases h:a=0
 ·subst h
  rw[if_pos rfl]
  apply hide;intro rhs hrhs
  simp(maxSteps:=4000000)(disch:=first|exact dz|fail)only[bA.u,seval,cut,if_pos,if_neg,m108,Run_nil,reach]
  subst hrhs;rfl
 ·have h':(a==0)=false:=by simpa using h
  rw[if_neg h]
  apply hide;intro rhs hrhs
  simp(maxSteps:=4000000)(disch:=first|exact dz|fail)only[bA.u,seval,cut,if_pos,if_neg,m108,h',Run_nil,reach]
  subst hrhs;rfl
theorem h_need (ok:Bool) (a:Int) (b:Bool):CallH Q 260 [.ptr 0 0,.bool ok] [.cells [.int .i64 a,.bool b]]=some (.tup [],[some (.cells [.int .i64 (needS ok (a,b)).1,.bool (needS ok (a,b)).2])]):=by
 unfold needS
 have hf:=h_fail 30 a b
 rw[CallH_fn Q (m:=m260) rfl]
 cases ok
 ·rw[if_neg (by simp)]
  apply hide;intro rhs hrhs
  simp(maxSteps:=4000000)(disch:=first|exact dz|fail)only[bA.u,seval,cut,if_pos,if_neg,m260,hf,Run_nil,reach]
  subst hrhs;rfl
 ·rw[if_pos rfl]
  apply hide;intro rhs hrhs
  simp(maxSteps:=4000000)(disch:=first|exact dz|fail)only[bA.u,seval,cut,if_pos,if_neg,m260,Run_nil,reach]
  subst hrhs;rfl
def numG:Nat→Int→List UInt8→List UInt8
 | 0,_,acc=>acc
 |k+1,n,acc=>if n<128 then UInt8.ofNat n.toNat::acc else numG k (n/256) (UInt8.ofNat (n%256).toNat::acc)
def numB (n:Int):List UInt8:=if n<0 then []else numG 9 n []
def R_1:List (Nat × Option (Bool × Nat) × PK):=[(10,some (true,5),.other)]
def n_tail:MCode:=(.seq (.rg [oT 33 (.mv (.v 1)),
  oT 34 (.mv (.v 11)),
  oT 35 (.build [.int .i64 0,.int .i64 0,.bool false,.nilsl,.nilsl] [(1,1,.t 33),(3,1,.t 34)]),
  oN (.store 5 (.v 10) (.t 35))])
  (.ret))
def n_s1 (a:Int) (b:Bool) (tag n:Int) (acc:List UInt8):DS:=⟨[(1,.int .i64 tag),(2,.int .i64 n),(10,.ptr 1 0),(11,.own 2 acc.length)],[],[(0,.cells [.int .i64 a,.bool b]),(1,.cells zero5L),(2,.byt acc false)],4⟩
def n_s0 (a:Int) (b:Bool) (tag n:Int):DS:=⟨[(1,.int .i64 tag),(2,.int .i64 n),(10,.ptr 1 0),(11,.own 3 0)],[],[(0,.cells [.int .i64 a,.bool b]),(1,.cells zero5L),(3,.byt [] false)],4⟩
theorem u8n (n:Int) (h0:0≤n) (h:n<128):UInt8.ofNat (n%256).toNat=UInt8.ofNat n.toNat:=by
 rw[show n%256=n by omega]
theorem w8m (n:Int):IntKind.u8.wrap n=n%256:=by
 simp[IntKind.wrap,IntKind.bits,IntKind.signed]
theorem n_one1 (a:Int) (b:Bool) (tag n:Int) (acc:List UInt8) (hl:acc.length≤100) (h0:0≤n) (h:n<9223372036854775808):finH 1 R_1 (RunL Q m253k0 m253b0 [.blk 0,.code n_tail] (n_s1 a b tag n acc)) =
  if n<128 then some (.agg [.int .i64 0,.int .i64 tag,.bool false,.bs (UInt8.ofNat n.toNat::acc),.nilsl],[some (.cells [.int .i64 a,.bool b])])
  else finH 1 R_1 (RunL Q m253k0 m253b0 [.blk 0,.code n_tail] (n_s1 a b tag (n/256) (UInt8.ofNat (n%256).toNat::acc))):=by
 have h0':decide (0≤n)=true:=by simpa using h0
 by_cases hn:n<128
 ·have hn':decide (n<128)=true:=by simpa using hn
  rw[if_pos hn]
  unfold n_s1 zero5L
  obtain⟨b',hb'⟩:∃b',b'=m253b0:=⟨_,rfl⟩
  rw[RunL_eq,show Item.lp m253k0 m253b0=Item.lp m253k0 b' by rw[hb']]
  apply hide;intro rhs hrhs
  simp(maxSteps:=4000000)(disch:=first|exact dz|fail)only[bA.u,seval,cut,if_pos,if_neg,m253b0,R_1,n_tail,h0',hn',w8m,u8n,Run_nil,reach]
  subst hrhs;rfl
 ·have hn':decide (n<128)=false:=by simpa using hn
  rw[if_neg hn]
  unfold n_s1 zero5L
  obtain⟨b',hb'⟩:∃b',b'=m253b0:=⟨_,rfl⟩
  rw[RunL_eq,show Item.lp m253k0 m253b0=Item.lp m253k0 b' by rw[hb']]
  apply hide;intro rhs hrhs
  simp(maxSteps:=4000000)(disch:=first|exact dz|fail)only[bA.u,seval,cut,if_pos,if_neg,m253b0,h0',hn',w8m,shr64,Int.reducePow,Nat.add_comm 1,Run_nil,reach]
  subst hrhs;(subst hb';refine(congrArg (finH _ _) (Run_lp Q _ _ _ _)).trans ?_;exact congrArg (finH 1 R_1) (RunL_canon (canon_cong kr kr kr)))
theorem n_one0 (a:Int) (b:Bool) (tag n:Int) (h0:0≤n) (h:n<9223372036854775808):finH 1 R_1 (RunL Q m253k0 m253b0 [.blk 0,.code n_tail] (n_s0 a b tag n)) =
  if n<128 then some (.agg [.int .i64 0,.int .i64 tag,.bool false,.bs [UInt8.ofNat n.toNat],.nilsl],[some (.cells [.int .i64 a,.bool b])])
  else finH 1 R_1 (RunL Q m253k0 m253b0 [.blk 0,.code n_tail] (n_s1 a b tag (n/256) [UInt8.ofNat (n%256).toNat])):=by
 have h0':decide (0≤n)=true:=by simpa using h0
 by_cases hn:n<128
 ·have hn':decide (n<128)=true:=by simpa using hn
  rw[if_pos hn]
  unfold n_s0 zero5L
  obtain⟨b',hb'⟩:∃b',b'=m253b0:=⟨_,rfl⟩
  rw[RunL_eq,show Item.lp m253k0 m253b0=Item.lp m253k0 b' by rw[hb']]
  apply hide;intro rhs hrhs
  simp(maxSteps:=4000000)(disch:=first|exact dz|fail)only[bA.u,seval,cut,if_pos,if_neg,m253b0,R_1,n_tail,h0',hn',w8m,u8n,Run_nil,reach]
  subst hrhs;rfl
 ·have hn':decide (n<128)=false:=by simpa using hn
  rw[if_neg hn]
  unfold n_s0 n_s1 zero5L
  obtain⟨b',hb'⟩:∃b',b'=m253b0:=⟨_,rfl⟩
  rw[RunL_eq,show Item.lp m253k0 m253b0=Item.lp m253k0 b' by rw[hb']]
  apply hide;intro rhs hrhs
  simp(maxSteps:=4000000)(disch:=first|exact dz|fail)only[bA.u,seval,cut,if_pos,if_neg,m253b0,h0',hn',w8m,shr64,Int.reducePow,Nat.add_comm 1,Run_nil,reach]
  subst hrhs;(subst hb';refine(congrArg (finH _ _) (Run_lp Q _ _ _ _)).trans ?_;exact congrArg (finH 1 R_1) (RunL_canon (canon_cong kr kr kr)))
theorem n_loop (a:Int) (b:Bool) (tag:Int):∀(k:Nat) (n:Int) (acc:List UInt8),acc.length+k≤50→0≤n→n<9223372036854775808→n<128*256^k →
  finH 1 R_1 (RunL Q m253k0 m253b0 [.blk 0,.code n_tail] (n_s1 a b tag n acc))=some (.agg [.int .i64 0,.int .i64 tag,.bool false,.bs (numG (k+1) n acc),.nilsl],[some (.cells [.int .i64 a,.bool b])])
 | 0,n,acc,hl,h0,h,hk=>by
  rw[n_one1 a b tag n acc (by omega) h0 h,numG,if_pos (by omega),if_pos (by omega)]
 |k+1,n,acc,hl,h0,h,hk=>by
  rw[n_one1 a b tag n acc (by omega) h0 h,numG]
  by_cases hn:n<128
  ·rw[if_pos hn,if_pos hn]
  ·rw[if_neg hn,if_neg hn]
   refine n_loop a b tag k (n/256) _ (by simp;omega) (by omega) (by omega) ?_
   have e:(128*256^(k+1):Int)=256*(128*256^k):=by rw[Int.pow_succ];omega
   rw[e]at hk
   generalize(128*256^k:Int)=X at hk ⊢
   omega
theorem h_num (tag n lo hi:Int) (hn:n<9223372036854775808) (a:Int) (b:Bool):CallH Q 253 [.ptr 0 0,.int .i64 tag,.int .i64 n,.int .i64 lo,.int .i64 hi] [.cells [.int .i64 a,.bool b]]=some (.agg [.int .i64 0,.int .i64 tag,.bool false,.bs (numB n),.nilsl],[some (.cells [.int .i64 (needS (decide (lo≤n)&&decide (n≤hi)) (a,b)).1,.bool (needS (decide (lo≤n)&&decide (n≤hi)) (a,b)).2])]):=by
 have hnd:=fun ok=>h_need ok a b
 generalize hS:needS (decide (lo≤n)&&decide (n≤hi)) (a,b)=s
 have hn1:=hnd (decide (lo≤n)&&decide (n≤hi))
 rw[hS]at hn1
 obtain⟨a',b'⟩:=s
 have fin0:finH 1 R_1 (RunL Q m253k0 m253b0 [.blk 0,.code n_tail] (n_s0 a' b' tag n))=some (.agg [.int .i64 0,.int .i64 tag,.bool false,.bs (numB n),.nilsl],[some (.cells [.int .i64 a',.bool b'])]):=by
  unfold numB
  by_cases h0:n<0
  ·rw[if_pos h0]
   have h0':decide (0≤n)=false:=by simp;omega
   unfold n_s0 zero5L
   obtain⟨b',hb'⟩:∃b',b'=m253b0:=⟨_,rfl⟩
   rw[RunL_eq,show Item.lp m253k0 m253b0=Item.lp m253k0 b' by rw[hb']]
   apply hide;intro rhs hrhs
   simp(maxSteps:=4000000)(disch:=first|exact dz|fail)only[bA.u,seval,cut,if_pos,if_neg,m253b0,R_1,n_tail,h0',Run_nil,reach]
   subst hrhs;rfl
  ·rw[if_neg h0,n_one0 a' b' tag n (by omega) hn,numG]
   by_cases h1:n<128
   ·rw[if_pos h1,if_pos h1]
   ·rw[if_neg h1,if_neg h1]
    exact n_loop a' b' tag 7 (n/256) _ (by simp) (by omega) (by omega) (by omega)
 cases hlo:decide (lo≤n)
 ·rw[hlo]at hn1
  rw[Bool.false_and]at hn1
  rw[CallH_fn Q (m:=m253) rfl]
  apply hide;intro rhs hrhs
  simp(maxSteps:=4000000)(disch:=first|exact dz|fail)only[bA.u,seval,cut,if_pos,if_neg,m253,hlo,hn1,Run_loop,Run_nil,reach]
  subst hrhs;exact(congrArg (finH _ _) (RunL_canon (canon_cong kr kr kr))).trans fin0
 ·rw[hlo,Bool.true_and]at hn1
  rw[CallH_fn Q (m:=m253) rfl]
  apply hide;intro rhs hrhs
  simp(maxSteps:=4000000)(disch:=first|exact dz|fail)only[bA.u,seval,cut,if_pos,if_neg,m253,hlo,hn1,Run_loop,Run_nil,reach]
  subst hrhs;exact(congrArg (finH _ _) (RunL_canon (canon_cong kr kr kr))).trans fin0
theorem h_int (n:Int) (hn:n<9223372036854775808) (a:Int) (b:Bool):CallH Q 255 [.ptr 0 0,.int .i64 n] [.cells [.int .i64 a,.bool b]]=some (.agg [.int .i64 0,.int .i64 2,.bool false,.bs (numB n),.nilsl],[some (.cells [.int .i64 (needS (decide (0≤n)&&decide (n≤4611686018427387903)) (a,b)).1,.bool (needS (decide (0≤n)&&decide (n≤4611686018427387903)) (a,b)).2])]):=by
 have h:=h_num 2 n 0 4611686018427387903 hn a b
 rw[CallH_fn Q (m:=m255) rfl]
 apply hide;intro rhs hrhs
 simp(maxSteps:=4000000)(disch:=first|exact dz|fail)only[bA.u,seval,cut,if_pos,if_neg,m255,h,Run_nil,reach]
 subst hrhs;rfl
variable {fb:Bool}
def nilT:T:=.mk 0 0 false [] []
def VR.t:VR→T
 | .er _=>nilT
 | .ok t=>t
def VR.v:VR→MV
 | .er _=>.agg zero5L
 | .ok t=>mvT t
def VR.s:VR→MS→MS
 | .er e,s=>failS e s
 | .ok _,s=>s
theorem timeS_form {t:Int} {x:T} (h:timeS t= .ok x):∃tg bs,x= .mk 0 tg false bs []:=by
 unfold timeS at h
 split at h
 ·cases h
 ·split at h<;>cases h<;>exact⟨_,_,rfl⟩
theorem timeS_er {t:Int} {e:Int} (h:timeS t= .er e):e≠0:=by
 unfold timeS at h
 split at h
 ·cases h;decide
 ·split at h<;>cases h
theorem h_time (t:Int) (a:Int) (b:Bool):CallH Q 257 [.ptr 0 0,.int .i64 t] [.cells [.int .i64 a,.bool b]]=some (VR.v (timeS t),[some (.cells [.int .i64 (VR.s (timeS t) (a,b)).1,.bool (VR.s (timeS t) (a,b)).2])]):=by
 have hc:=c_TimeValue t
 cases h:timeS t with
 |er e=>
  rw[h]at hc
  have he:(e==0)=false:=by simpa using timeS_er h
  have hf:=h_fail e a b
  simp only[VR.mv]at hc
  simp only[VR.v,VR.s]
  unfold zero5L at hc ⊢
  rw[CallH_fn Q (m:=m257) rfl]
  apply hide;intro rhs hrhs
  simp(maxSteps:=4000000)(disch:=first|exact dz|fail)only[bA.u,seval,cut,if_pos,if_neg,m257,hc,he,hf,Run_nil,reach]
  subst hrhs;rfl
 |ok x=>
  rw[h]at hc
  obtain⟨tg,bs,rfl⟩:=timeS_form h
  simp only[VR.mv,mvT_eq,mvK,Bool.false_eq_true,if_false]at hc
  simp only[VR.v,VR.s,mvT_eq,mvK,Bool.false_eq_true,if_false]
  rw[CallH_fn Q (m:=m257) rfl]
  apply hide;intro rhs hrhs
  simp(maxSteps:=4000000)(disch:=first|exact dz|fail)only[bA.u,seval,cut,if_pos,if_neg,m257,hc,Run_nil,reach]
  subst hrhs;rfl
theorem h_dn (dv:MV) (d:Dn) (hdv:isDir dv d) (hl:okLens d) (a:Int) (b:Bool):CallH Q 256 [.ptr 0 0,dv] [.cells [.int .i64 a,.bool b]]=some (VR.v (dnS d),[some (.cells [.int .i64 (VR.s (dnS d) (a,b)).1,.bool (VR.s (dnS d) (a,b)).2])]):=by
 have hc:=c_DN d hl
 cases h:dnS d with
 |er e=>
  rw[h]at hc
  have he:(e==0)=false:=by simpa using dnS_ne h
  have hf:=h_fail e a b
  simp only[VR.mv]at hc
  simp only[VR.v,VR.s]
  unfold zero5L at hc ⊢
  rw[CallH_fn Q (m:=m256) rfl]
  rcases hdv with rfl|⟨rfl,rfl⟩
  all_goals(try rw[show attrs []=[]from rfl]at hc)
  all_goals(
  apply hide;intro rhs hrhs
  simp(maxSteps:=4000000)(disch:=first|exact dz|fail)only[bA.u,seval,cut,if_pos,if_neg,m256,hc,he,hf,Run_nil,reach]
  subst hrhs;rfl)
 |ok x=>
  rw[h]at hc
  obtain⟨ks,rfl⟩:=dnS_made h
  have hks:mvK ks= .nilsl∨∃l,mvK ks= .sl 5 l:=by cases ks<;>simp[mvK]
  simp only[VR.mv,mvT_eq,if_true]at hc
  simp only[VR.v,VR.s,mvT_eq,if_true]
  rw[CallH_fn Q (m:=m256) rfl]
  rcases hks with hks|⟨l,hks⟩<;>rw[hks]at hc ⊢ <;>rcases hdv with rfl|⟨rfl,rfl⟩
  all_goals(try rw[show attrs []=[]from rfl]at hc)
  all_goals(
  apply hide;intro rhs hrhs
  simp(maxSteps:=4000000)(disch:=first|exact dz|fail)only[bA.u,seval,cut,if_pos,if_neg,m256,hc,Run_nil,reach]
  subst hrhs;rfl)
theorem c_octets (w:MV) (bs:List UInt8) (hb:Rb w bs) (hl:bs.length≤2^40):Call Q 76 [w]=some (.agg [.int .i64 0,.int .i64 3,.bool false,.bs (0::bs),.nilsl]):=by
 rw[Call_fn Q (m:=m76) rfl rfl]
 cases hb
 all_goals(
 apply hide;intro rhs hrhs
 simp(maxSteps:=4000000)(disch:=first|exact dz|fail)only[bA.u,seval,cut,if_pos,if_neg,m76]
 subst hrhs;rfl)
theorem c_seq (l:List MV):Call Q 74 [.sl 5 l]=some (.agg [.int .i64 0,.int .i64 16,.bool true,.nilsl,.sl 5 l]):=by
 rw[Call_fn Q (m:=m74) rfl rfl]
 apply hide;intro rhs hrhs
 simp(maxSteps:=4000000)(disch:=first|exact dz|fail)only[bA.u,seval,cut,if_pos,if_neg,m74]
 subst hrhs;rfl
theorem c_seqF (l:List MV):Call Q 74 [.fsl 5 l]=some (.agg [.int .i64 0,.int .i64 16,.bool true,.nilsl,.fsl 5 l]):=by
 rw[Call_fn Q (m:=m74) rfl rfl]
 apply hide;intro rhs hrhs
 simp(maxSteps:=4000000)(disch:=first|exact dz|fail)only[bA.u,seval,cut,if_pos,if_neg,m74]
 subst hrhs;rfl
theorem c_seq0:Call Q 74 [.nilsl]=some (.agg [.int .i64 0,.int .i64 16,.bool true,.nilsl,.fsl 5 []]):=by
 rw[Call_fn Q (m:=m74) rfl rfl]
 apply hide;intro rhs hrhs
 simp(maxSteps:=4000000)(disch:=first|exact dz|fail)only[bA.u,seval,cut,if_pos,if_neg,m74]
 subst hrhs;rfl
theorem c_at (k:Int) (l:List MV):Call Q 254 [.int .i64 k,.sl 5 l]=some (.agg [.int .i64 2,.int .i64 k,.bool true,.nilsl,.sl 5 l]):=by
 rw[Call_fn Q (m:=m254) rfl rfl]
 apply hide;intro rhs hrhs
 simp(maxSteps:=4000000)(disch:=first|exact dz|fail)only[bA.u,seval,cut,if_pos,if_neg,m254]
 subst hrhs;rfl
theorem c_atF (k:Int) (l:List MV):Call Q 254 [.int .i64 k,.fsl 5 l]=some (.agg [.int .i64 2,.int .i64 k,.bool true,.nilsl,.fsl 5 l]):=by
 rw[Call_fn Q (m:=m254) rfl rfl]
 apply hide;intro rhs hrhs
 simp(maxSteps:=4000000)(disch:=first|exact dz|fail)only[bA.u,seval,cut,if_pos,if_neg,m254]
 subst hrhs;rfl
def schB (n:Int):List UInt8:=if n=1 then [96,134,72,1,101,3,4,3,17]else if n=2 then [96,134,72,1,101,3,4,3,18]else if n=3 then [96,134,72,1,101,3,4,3,19]else if n=4 then [136,55,1,4]else if n=5 then [136,55,1,5]else if n=6 then [136,55,1,6]else if n=7 then [136,55,1,7]else if n=8 then [136,55,1,8]else if n=9 then [136,55,1,9]else []
def schK (n:Int):List MV:=if n<1∨9<n then []else [.agg [.int .i64 0,.int .i64 6,.bool false,.bs (schB n),.nilsl]]
def schV (n:Int):MV:=.agg [.int .i64 0,.int .i64 16,.bool true,.nilsl,.fsl 5 (schK n)]
def schT (n:Int):T:=.mk 0 16 true [] (if n<1∨9<n then []else [oidT (schB n)])
def schS (n:Int) (s:MS):MS:=if n<1∨9<n then failS 10 s else s
theorem h_scheme1 (a:Int) (b:Bool):CallH Q 75 [.ptr 0 0,.int .i64 1] [.cells [.int .i64 a,.bool b]]=some (schV 1,[some (.cells [.int .i64 a,.bool b])]):=CallH_iff.2 ⟨3000,by kernel_rfl⟩
theorem h_scheme2 (a:Int) (b:Bool):CallH Q 75 [.ptr 0 0,.int .i64 2] [.cells [.int .i64 a,.bool b]]=some (schV 2,[some (.cells [.int .i64 a,.bool b])]):=CallH_iff.2 ⟨3000,by kernel_rfl⟩
theorem h_scheme3 (a:Int) (b:Bool):CallH Q 75 [.ptr 0 0,.int .i64 3] [.cells [.int .i64 a,.bool b]]=some (schV 3,[some (.cells [.int .i64 a,.bool b])]):=CallH_iff.2 ⟨3000,by kernel_rfl⟩
theorem h_scheme4 (a:Int) (b:Bool):CallH Q 75 [.ptr 0 0,.int .i64 4] [.cells [.int .i64 a,.bool b]]=some (schV 4,[some (.cells [.int .i64 a,.bool b])]):=CallH_iff.2 ⟨3000,by kernel_rfl⟩
theorem h_scheme5 (a:Int) (b:Bool):CallH Q 75 [.ptr 0 0,.int .i64 5] [.cells [.int .i64 a,.bool b]]=some (schV 5,[some (.cells [.int .i64 a,.bool b])]):=CallH_iff.2 ⟨3000,by kernel_rfl⟩
theorem h_scheme6 (a:Int) (b:Bool):CallH Q 75 [.ptr 0 0,.int .i64 6] [.cells [.int .i64 a,.bool b]]=some (schV 6,[some (.cells [.int .i64 a,.bool b])]):=CallH_iff.2 ⟨3000,by kernel_rfl⟩
theorem h_scheme7 (a:Int) (b:Bool):CallH Q 75 [.ptr 0 0,.int .i64 7] [.cells [.int .i64 a,.bool b]]=some (schV 7,[some (.cells [.int .i64 a,.bool b])]):=CallH_iff.2 ⟨3000,by kernel_rfl⟩
theorem h_scheme8 (a:Int) (b:Bool):CallH Q 75 [.ptr 0 0,.int .i64 8] [.cells [.int .i64 a,.bool b]]=some (schV 8,[some (.cells [.int .i64 a,.bool b])]):=CallH_iff.2 ⟨3000,by kernel_rfl⟩
theorem h_scheme9 (a:Int) (b:Bool):CallH Q 75 [.ptr 0 0,.int .i64 9] [.cells [.int .i64 a,.bool b]]=some (schV 9,[some (.cells [.int .i64 a,.bool b])]):=CallH_iff.2 ⟨3000,by kernel_rfl⟩
theorem h_scheme (n:Int) (a:Int) (b:Bool):CallH Q 75 [.ptr 0 0,.int .i64 n] [.cells [.int .i64 a,.bool b]]=some (schV n,[some (.cells [.int .i64 (schS n (a,b)).1,.bool (schS n (a,b)).2])]):=by
 unfold schS
 by_cases h:n<1∨9<n
 ·rw[if_pos h]
  unfold schV schK
  rw[if_pos h]
  have hf:=h_fail 10 a b
  have hs:=c_seq0
  rw[CallH_fn Q (m:=m75) rfl]
  apply hide;intro rhs hrhs
  simp(maxSteps:=4000000)(disch:=first|exact dz|fail)only[bA.u,seval,cut,if_pos,if_neg,m75,hf,hs,Run_nil,reach]
  repeat'((with_reducible first|refine sp ?_ ?_|fail)<;>intro hx<;>(try simp only[bI.u]at hx)<;>(first|exact xz|(try simp(maxSteps:=4000000)(disch:=first|exact dz|fail)only[bA.u,seval,cut,if_pos,if_neg,hx,m75,hf,hs,Run_nil,reach])))
  all_goals first|exact xz|(subst hrhs;first|rfl|(exfalso;omega))
 ·rw[if_neg h]
  have:n=1∨n=2∨n=3∨n=4∨n=5∨n=6∨n=7∨n=8∨n=9:=by omega
  rcases this with rfl|rfl|rfl|rfl|rfl|rfl|rfl|rfl|rfl
  ·exact h_scheme1 a b
  ·exact h_scheme2 a b
  ·exact h_scheme3 a b
  ·exact h_scheme4 a b
  ·exact h_scheme5 a b
  ·exact h_scheme6 a b
  ·exact h_scheme7 a b
  ·exact h_scheme8 a b
  ·exact h_scheme9 a b
theorem Rv_sch (n:Int):Wv true (schV n) (schT n):=by
 unfold schV schT schK
 refine .mk .nil (.fsl ?_)
 split
 ·exact .nil
 ·exact .cons (.mk (.bs _) .nil) .nil
def octT (bs:List UInt8):T:=.mk 0 3 false (0::bs) []
def octV (bs:List UInt8):MV:=.agg [.int .i64 0,.int .i64 3,.bool false,.bs (0::bs),.nilsl]
theorem h_key (n:Int) (w:MV) (bs:List UInt8) (hb:Rb w bs) (hl:bs.length≤2^40) (a:Int) (b:Bool):CallH Q 258 [.ptr 0 0,.int .i64 n,w] [.cells [.int .i64 a,.bool b]]=some (.agg [.int .i64 0,.int .i64 16,.bool true,.nilsl,.fsl 5 [schV n,octV bs]],[some (.cells [.int .i64 (schS n (a,b)).1,.bool (schS n (a,b)).2])]):=by
 have h1:=h_scheme n a b
 have h2:=c_octets (.bs bs) bs (.bs bs) hl
 have h3:=c_seqF [schV n,octV bs]
 unfold schV octV at h3 ⊢
 unfold schV at h1
 rw[CallH_fn Q (m:=m258) rfl]
 cases hb
 all_goals(
 apply hide;intro rhs hrhs
 simp(maxSteps:=4000000)(disch:=first|exact dz|fail)only[bA.u,seval,cut,if_pos,if_neg,m258,h1,h2,h3,Run_nil,reach]
 subst hrhs;rfl)
def wrS (s:MS) (t:T):Int × List UInt8:=if s.1≠0 then(s.1,[])else if s.2=true then(54,[])else wrW t
theorem h_write (v:MV) (t:T) (hv:Wv fb v t) (hl:low t) (hs:sz t≤2^30) (a:Int) (b:Bool):CallH Q 73 [.ptr 0 0,v] [.cells [.int .i64 a,.bool b]]=some (.tup [.bs (wrS (a,b) t).2,.int .i64 (wrS (a,b) t).1],[some (.cells [.int .i64 a,.bool b])]):=by
 have hw:=c_Write v t hv hl hs
 unfold wrS
 cases hv with
 | @mk _ c tg m w k bs ks hb hk=>
 by_cases h:a=0
 rotate_left
 ·rw[if_pos h]
  have h':(a==0)=false:=by simpa using h
  rw[CallH_fn Q (m:=m73) rfl]
  cases hb<;>cases hk
  all_goals(
  apply hide;intro rhs hrhs
  simp(maxSteps:=4000000)(disch:=first|exact dz|fail)only[bA.u,seval,cut,if_pos,if_neg,m73,h',Run_nil,reach]
  subst hrhs;rfl)
 subst h
 rw[if_neg (by simp)]
 cases b
 ·rw[if_neg (by simp)]
  rw[CallH_fn Q (m:=m73) rfl]
  cases hb<;>cases hk
  all_goals(
  apply hide;intro rhs hrhs
  simp(maxSteps:=4000000)(disch:=first|exact dz|fail)only[bA.u,seval,cut,if_pos,if_neg,m73,hw,Run_nil,reach]
  subst hrhs;rfl)
 ·rw[if_pos rfl]
  rw[CallH_fn Q (m:=m73) rfl]
  cases hb<;>cases hk
  all_goals(
  apply hide;intro rhs hrhs
  simp(maxSteps:=4000000)(disch:=first|exact dz|fail)only[bA.u,seval,cut,if_pos,if_neg,m73,Run_nil,reach]
  subst hrhs;rfl)
variable {fb:Bool}
def extS (t:T) (s:MS):MS:=(s.1,s.2||(wrW t).1==54)
def boolV:MV:=.agg [.int .i64 0,.int .i64 1,.bool false,.bs [255],.nilsl]
def extV (out:List UInt8) (cr:Bool) (bs:List UInt8):MV:=.agg [.int .i64 0,.int .i64 16,.bool true,.nilsl,.sl 5 (.agg [.int .i64 0,.int .i64 6,.bool false,.bs out,.nilsl]::((if cr then [boolV]else [])++[.agg [.int .i64 0,.int .i64 4,.bool false,.bs bs,.nilsl]]))]
def extT (out:List UInt8) (cr:Bool) (bs:List UInt8):T:=.mk 0 16 true [] (oidT out::((if cr then [.mk 0 1 false [255] []]else [])++[.mk 0 4 false bs []]))
theorem Rv_ext (out:List UInt8) (cr:Bool) (bs:List UInt8):Wv fb (extV out cr bs) (extT out cr bs):=by
 unfold extV extT
 refine .mk .nil (.sl (.cons (.mk (.bs _) .nil) ?_))
 cases cr
 ·exact .cons (.mk (.bs _) .nil) .nil
 ·exact .cons (.mk (.bs _) .nil) (.cons (.mk (.bs _) .nil) .nil)
theorem h_ext (s out:List UInt8) (ho:Call Q 109 [.str s]=some (good53 out)) (cr:Bool) (v:MV) (t:T) (hv:Wv fb v t) (hl:low t) (hs:sz t≤2^30) (a:Int) (b:Bool):
  CallH Q 264 [.ptr 0 0,.str s,.bool cr,v] [.cells [.int .i64 a,.bool b]]=some (extV out cr (wrW t).2,[some (.cells [.int .i64 (extS t (a,b)).1,.bool (extS t (a,b)).2])]):=by
 have hw:=c_Write v t hv hl hs
 unfold good53 at ho
 unfold extS extV boolV
 cases hv with
 | @mk _ c tg m w k bs ks hb hk=>
 generalize wrW (.mk c tg m bs ks)=W at hw ⊢
 obtain⟨e,ws⟩:=W
 simp only at hw ⊢
 have h3:=c_seqF [.agg [.int .i64 0,.int .i64 6,.bool false,.bs out,.nilsl]]
 rw[CallH_fn Q (m:=m264) rfl]
 cases b
 ·rw[Bool.false_or]
  cases he:(e==54)
  all_goals(
   cases cr<;>cases hb<;>cases hk
   all_goals(
   apply hide;intro rhs hrhs
   simp(maxSteps:=4000000)(disch:=first|exact dz|fail)only[bA.u,seval,cut,if_pos,if_neg,m264,ho,hw,he,h3,Run_nil,reach]
   repeat'((with_reducible first|refine sp ?_ ?_|fail)<;>intro hx<;>(try simp only[bI.u]at hx)<;>(first|exact xz|(try simp(maxSteps:=4000000)(disch:=first|exact dz|fail)only[bA.u,seval,cut,if_pos,if_neg,hx,m264,ho,hw,he,h3,Run_nil,reach])))
   all_goals first|exact xz|(subst hrhs;rfl)))
 ·rw[Bool.true_or]
  cases cr<;>cases hb<;>cases hk
  all_goals(
  apply hide;intro rhs hrhs
  simp(maxSteps:=4000000)(disch:=first|exact dz|fail)only[bA.u,seval,cut,if_pos,if_neg,m264,ho,hw,h3,Run_nil,reach]
  repeat'((with_reducible first|refine sp ?_ ?_|fail)<;>intro hx<;>(try simp only[bI.u]at hx)<;>(first|exact xz|(try simp(maxSteps:=4000000)(disch:=first|exact dz|fail)only[bA.u,seval,cut,if_pos,if_neg,hx,m264,ho,hw,h3,Run_nil,reach])))
  all_goals first|exact xz|(subst hrhs;rfl))
def rev8 (c:UInt8):UInt8:=UInt8.ofNat (c.toNat%2*128+c.toNat/2%2*64+c.toNat/4%2*32+c.toNat/8%2*16+c.toNat/16%2*8+c.toNat/32%2*4+c.toNat/64%2*2+c.toNat/128)
def tz8 (c:UInt8):Nat:=if c.toNat%2=1 then 0 else if c.toNat/2%2=1 then 1 else if c.toNat/4%2=1 then 2 else if c.toNat/8%2=1 then 3 else if c.toNat/16%2=1 then 4 else if c.toNat/32%2=1 then 5 else if c.toNat/64%2=1 then 6 else if c.toNat/128=1 then 7 else 8
def isI (k:IntKind):Option MV→Int→Bool
 |some (.int k' x),n=>k==k'&&x==n
 |_,_=>false
theorem isI_ok {k:IntKind} {r:Option MV} {n:Int} (h:isI k r n=true):r=some (.int k n):=by
 unfold isI at h
 split at h
 ·simp only[Bool.and_eq_true,beq_iff_eq]at h
  rw[h.1,h.2]
 ·cases h
theorem rev_all:((List.range 256).all fun c=>isI .u8 (callF Q 40 84 [.int .u8 (c:Int)]) ((rev8 (UInt8.ofNat c)).toNat:Int))=true:=by kernel_rfl
theorem tz_all:((List.range 256).all fun c=>isI .i64 (callF Q 40 271 [.int .u8 (c:Int)]) ((tz8 (UInt8.ofNat c):Nat):Int))=true:=by kernel_rfl
theorem c_rev (c:UInt8):Call Q 84 [.int .u8 (c.toNat:Int)]=some (.int .u8 ((rev8 c).toNat:Int)):=by
 have:=isI_ok (List.all_eq_true.1 rev_all c.toNat (List.mem_range.2 c.toNat_lt))
 rw[UInt8.ofNat_toNat]at this
 exact Call_iff.2 ⟨40,this⟩
theorem c_tz (c:UInt8):Call Q 271 [.int .u8 (c.toNat:Int)]=some (.int .i64 ((tz8 c:Nat):Int)):=by
 have:=isI_ok (List.all_eq_true.1 tz_all c.toNat (List.mem_range.2 c.toNat_lt))
 rw[UInt8.ofNat_toNat]at this
 exact Call_iff.2 ⟨40,this⟩
theorem tz8_le (c:UInt8):tz8 c≤8:=by unfold tz8;(repeat' split)<;>omega
def flB (n:Int):List UInt8:=if 256≤n then [UInt8.ofNat (tz8 128),rev8 (UInt8.ofNat (n%256).toNat),128]else [UInt8.ofNat (tz8 (rev8 (UInt8.ofNat (n%256).toNat))),rev8 (UInt8.ofNat (n%256).toNat)]
def flT (n:Int):T:=.mk 0 3 false (flB n) []
theorem c_flags (n:Int):Call Q 265 [.int .i64 n]=some (.agg [.int .i64 0,.int .i64 3,.bool false,.bs (flB n),.nilsl]):=by
 have hm:n%256=((UInt8.ofNat (n%256).toNat).toNat:Int):=by rw[UInt8.toNat_ofNat'];omega
 have h1:=c_rev (UInt8.ofNat (n%256).toNat)
 unfold flB
 generalize UInt8.ofNat (n%256).toNat=x at hm h1 ⊢
 have h2:=c_tz (rev8 x)
 have h3:=c_tz (UInt8.ofNat 128)
 have e3:tz8 128=7:=by decide
 rw[show tz8 (UInt8.ofNat 128)=7 from e3]at h3
 have h3b:Call Q 271 [.int .u8 128]=some (.int .i64 7):=h3
 rw[e3]
 have hz:=tz8_le (rev8 x)
 have hw2:IntKind.u8.wrap ((tz8 (rev8 x):Nat):Int)=((tz8 (rev8 x):Nat):Int):=w8 (by omega) (by omega)
 rw[Call_fn Q (m:=m265) rfl rfl]
 by_cases h:256≤n
 ·rw[if_pos h]
  have h':decide (256≤n)=true:=by simpa using h
  apply hide;intro rhs hrhs
  simp(maxSteps:=4000000)(disch:=first|exact dz|fail)only[bA.u,seval,cut,if_pos,if_neg,m265,h',w8m,hm,h1,h3,h3b]
  repeat'((with_reducible first|refine sp ?_ ?_|fail)<;>intro hx<;>(try simp only[bI.u]at hx)<;>(first|exact xz|(try simp(maxSteps:=4000000)(disch:=first|exact dz|fail)only[bA.u,seval,cut,if_pos,if_neg,hx,m265,h',w8m,hm,h1,h3,h3b])))
  all_goals first|exact xz|(subst hrhs;rfl)
 ·rw[if_neg h]
  have h':decide (256≤n)=false:=by simpa using h
  apply hide;intro rhs hrhs
  simp(maxSteps:=4000000)(disch:=first|exact dz|fail)only[bA.u,seval,cut,if_pos,if_neg,m265,h',w8m,hm,h1,h2,hw2]
  repeat'((with_reducible first|refine sp ?_ ?_|fail)<;>intro hx<;>(try simp only[bI.u]at hx)<;>(first|exact xz|(try simp(maxSteps:=4000000)(disch:=first|exact dz|fail)only[bA.u,seval,cut,if_pos,if_neg,hx,m265,h',w8m,hm,h1,h2,hw2])))
  all_goals first|exact xz|(subst hrhs;rfl)
abbrev Gn:=Int × List UInt8 × Dn
inductive Gl:List MV→List Gn→Prop
 |nil:Gl [] []
 |cons {k t dv d l gs}:isDir dv d→Gl l gs→Gl (gM k t dv::l) ((k,t,d)::gs)
theorem Gl.length {l:List MV} {gs:List Gn} (h:Gl l gs):l.length=gs.length:=by
 induction h with
 |nil=>rfl
 |cons _ _ ih=>simp[ih]
theorem Gl.get {l:List MV} {gs:List Gn} (h:Gl l gs):∀ {i:Nat} {g:Gn},gs[i]? = some g→∃dv,isDir dv g.2.2∧l[i]? = some (gM g.1 g.2.1 dv):=by
 induction h with
 |nil=>intro i g hg;simp at hg
 | @cons k t dv d l gs hd _ ih=>
  intro i g hg
  cases i with
  |zero=>simp at hg;subst hg;exact⟨dv,hd,rfl⟩
  |succ i=>simp at hg;obtain⟨dv,h1,h2⟩:=ih hg;exact⟨dv,h1,by simpa using h2⟩
def okG (gs:List Gn):Prop:=∀g∈gs,g.2.1.length<1000000∧okLens g.2.2
def gG (lim:Bool) (ts:List T) (g:Gn):List T ⊕ Int:=match genS g.1 g.2.1 g.2.2 lim with
 | .er e=>.inr e
 | .ok t=>.inl (ts++[t])
def gensT (lim:Bool) (gs:List Gn):List T:=match foldE (gG lim) [] gs with
 | .inl ts=>ts
 | .inr _=>[]
def gensS (lim:Bool) (gs:List Gn) (s:MS):MS:=match foldE (gG lim) [] gs with
 | .inl _=>needS (decide (gs.length≤256)) s
 | .inr e=>failS e (needS (decide (gs.length≤256)) s)
def wv (t:T):MV:=.agg [.int .i64 0,.int .i64 16,.bool true,.nilsl,.fsl 5 [mvT t]]
def wt (t:T):T:=.mk 0 16 true [] [t]
theorem genS_form {k:Int} {t:List UInt8} {d:Dn} {lim:Bool} {x:T} (h:genS k t d lim= .ok x):(∃D,x= .mk 2 4 true [] [D])∨∃bs,x= .mk 2 k false bs []:=by
 unfold genS at h
 split at h
 ·cases h
 ·split at h
  ·split at h
   ·cases h
   ·split at h
    ·cases h;exact .inl ⟨_,rfl⟩
    ·cases h
  ·split at h
   ·cases h;exact .inr ⟨_,rfl⟩
   ·cases h
theorem genS_er {k:Int} {t:List UInt8} {d:Dn} {lim:Bool} {e:Int} (h:genS k t d lim= .er e):e≠0:=by
 unfold genS at h
 split at h
 ·cases h;decide
 ·split at h
  ·split at h
   ·cases h;decide
   ·split at h
    ·cases h
    ·cases h;decide
  ·split at h
   ·cases h
   ·cases h;decide
def R_g:List (Nat × Option (Bool × Nat) × PK):=[(8,none,.el 5)]
def g_tail:MCode:=(.seq (.rg [oT 43 (.mv (.v 9)),
  oV 8 (.mv (.t 43))])
  (.ret))
def g_st (a:Int) (b:Bool) (lim:Bool) (w:Nat) (lv:MV) (n:Nat) (vs:List MV) (i:Nat):DS:=⟨[(0,.ptr 0 0),(2,.bool lim),(3,.fn w []),(9,.own (if i=0 then 2 else 1) i),(19,lv),(20,.int .i64 n),(21,.int .i64 i)],[],[(0,.cells [.int .i64 a,.bool b]),(if i=0 then 2 else 1,.el 5 vs false)],3⟩
theorem c_plain (c t:Int) (m:Bool) (w k:MV) (bs:List UInt8) (ks:List T) (hb:Rb w bs) (hk:Rs k ks):Call Q 267 [.agg [.int .i64 c,.int .i64 t,.bool m,w,k]]=some (.agg [.int .i64 c,.int .i64 t,.bool m,w,k]):=by
 rw[Call_fn Q (m:=m267) rfl rfl]
 cases hb<;>cases hk
 all_goals(
 apply hide;intro rhs hrhs
 simp(maxSteps:=4000000)(disch:=first|exact dz|fail)only[bA.u,seval,cut,if_pos,if_neg,m267]
 subst hrhs;rfl)
theorem c_wrap (c t:Int) (m:Bool) (w k:MV) (bs:List UInt8) (ks:List T) (hb:Rb w bs) (hk:Rs k ks):Call Q 268 [.agg [.int .i64 c,.int .i64 t,.bool m,w,k]]=some (.agg [.int .i64 0,.int .i64 16,.bool true,.nilsl,.fsl 5 [.agg [.int .i64 c,.int .i64 t,.bool m,w,k]]]):=by
 have h:=c_seqF [.agg [.int .i64 c,.int .i64 t,.bool m,w,k]]
 rw[Call_fn Q (m:=m268) rfl rfl]
 cases hb<;>cases hk
 all_goals(
 apply hide;intro rhs hrhs
 simp(maxSteps:=4000000)(disch:=first|exact dz|fail)only[bA.u,seval,cut,if_pos,if_neg,m268,h]
 subst hrhs;rfl)
theorem g_stepp (K:List Item) (a:Int) (b:Bool) (lim:Bool) (l:List MV) (gs:List Gn) (hl:Gl l gs) (hok:okG gs) (hlen:gs.length≤2^30) (ts:List T) (i:Nat) (g:Gn) (hI:ts.length=i) (hg:gs[i]? = some g):
  After (fun ts i=>ts.length=i) (fun ts i=>finH 1 R_g (RunL Q m266k0 m266b0 K (g_st a b lim 267 (.sl 3 l) gs.length (ts.map mvT) i))) (fun e=>some (.sl 5 [],[some (.cells [.int .i64 (failS e (a,b)).1,.bool (failS e (a,b)).2])]))
   (finH 1 R_g (RunL Q m266k0 m266b0 K (g_st a b lim 267 (.sl 3 l) gs.length (ts.map mvT) i))) (i+1) (gG lim ts g):=by
 obtain⟨hi,hxx⟩:=List.getElem?_eq_some_iff.1 hg
 obtain⟨dv,hdv,hv⟩:=hl.get hg
 have hgo:=hok g (List.mem_of_getElem? hg)
 obtain⟨k,t,d⟩:=g
 simp only at hdv hv hgo
 have hc:=c_GValue k t dv d hdv hgo.2 hgo.1 lim
 have hlt:decide ((i:Int)<(gs.length:Int))=true:=by simp;omega
 have i1:(i:Int)<(gs.length:Int):=by omega
 have hll:=hl.length
 have e9:((i+1:Nat):Int)=(i:Int)+1:=rfl
 have ha:(if i=0 then 2 else 1)≤2:=by split<;>omega
 have ha':1≤(if i=0 then 2 else 1):=by split<;>omega
 have hml:(ts.map mvT).length=i:=by simp[hI]
 unfold gG
 unfold gM at hc hv
 simp only
 cases hx:genS k t d lim with
 |er e=>
  rw[hx]at hc
  have he:(e==0)=false:=by simpa using genS_er hx
  have hf:=h_fail e a b
  simp only[VR.mv]at hc
  simp only[After]
  unfold zero5L at hc
  unfold g_st
  generalize(if i=0 then 2 else 1)=aa at ha ha' ⊢
  generalize ts.map mvT=vs at hml ⊢
  rcases hdv with rfl|⟨rfl,rfl⟩
  all_goals(
  obtain⟨b',hb'⟩:∃b',b'=m266b0:=⟨_,rfl⟩
  rw[RunL_eq,show Item.lp m266k0 m266b0=Item.lp m266k0 b' by rw[hb']]
  apply hide;intro rhs hrhs
  simp(maxSteps:=4000000)(disch:=first|exact dz|fail)only[bA.u,seval,cut,if_pos,if_neg,m266b0,R_g,hlt,i1,hll,hv,hc,he,hf,hml,Run_nil,reach]
  subst hrhs;rfl)
 |ok x=>
  rw[hx]at hc
  simp only[VR.mv]at hc
  refine⟨by simp[hI],?_⟩
  simp only[List.map_append,List.map_cons,List.map_nil]
  unfold g_st
  rw[if_neg (Nat.succ_ne_zero i),e9]
  generalize(if i=0 then 2 else 1)=aa at ha ha' ⊢
  generalize ts.map mvT=vs at hml ⊢
  rcases genS_form hx with⟨D,rfl⟩|⟨bs,rfl⟩
  ·have hm:mvT (.mk 2 4 true [] [D])= .agg [.int .i64 2,.int .i64 4,.bool true,.nilsl,.sl 5 [mvT D]]:=by rw[mvT_eq];rfl
   have hw:Rb .nilsl []:=.nil
   rw[hm]at hc ⊢
   have hp:∀(D':MV),Call Q 267 [.agg [.int .i64 2,.int .i64 4,.bool true,.nilsl,.sl 5 [D']]]=some (.agg [.int .i64 2,.int .i64 4,.bool true,.nilsl,.sl 5 [D']]):=by
    intro D'
    rw[Call_fn Q (m:=m267) rfl rfl]
    apply hide;intro rhs hrhs
    simp(maxSteps:=4000000)(disch:=first|exact dz|fail)only[bA.u,seval,cut,if_pos,if_neg,m267]
    subst hrhs;rfl
   rcases hdv with rfl|⟨rfl,rfl⟩
   all_goals(
   obtain⟨b',hb'⟩:∃b',b'=m266b0:=⟨_,rfl⟩
   rw[RunL_eq,show Item.lp m266k0 m266b0=Item.lp m266k0 b' by rw[hb']]
   apply hide;intro rhs hrhs
   simp(maxSteps:=4000000)(disch:=first|exact dz|fail)only[bA.u,seval,cut,if_pos,if_neg,m266b0,hlt,i1,hll,hv,hc,hp,hml,Run_nil,reach]
   subst hrhs;(subst hb';refine(congrArg (finH _ _) (Run_lp Q _ _ _ _)).trans ?_;exact congrArg (finH 1 R_g) (RunL_canon (canon_cong kr kr kr))))
  ·have hm:mvT (.mk 2 k false bs [])= .agg [.int .i64 2,.int .i64 k,.bool false,.bs bs,.nilsl]:=by rw[mvT_eq];rfl
   rw[hm]at hc ⊢
   have hp:=c_plain 2 k false (.bs bs) .nilsl bs [] (.bs bs) .nil
   rcases hdv with rfl|⟨rfl,rfl⟩
   all_goals(
   obtain⟨b',hb'⟩:∃b',b'=m266b0:=⟨_,rfl⟩
   rw[RunL_eq,show Item.lp m266k0 m266b0=Item.lp m266k0 b' by rw[hb']]
   apply hide;intro rhs hrhs
   simp(maxSteps:=4000000)(disch:=first|exact dz|fail)only[bA.u,seval,cut,if_pos,if_neg,m266b0,hlt,i1,hll,hv,hc,hp,hml,Run_nil,reach]
   subst hrhs;(subst hb';refine(congrArg (finH _ _) (Run_lp Q _ _ _ _)).trans ?_;exact congrArg (finH 1 R_g) (RunL_canon (canon_cong kr kr kr))))
theorem g_stepw (K:List Item) (a:Int) (b:Bool) (lim:Bool) (l:List MV) (gs:List Gn) (hl:Gl l gs) (hok:okG gs) (hlen:gs.length≤2^30) (ts:List T) (i:Nat) (g:Gn) (hI:ts.length=i) (hg:gs[i]? = some g):
  After (fun ts i=>ts.length=i) (fun ts i=>finH 1 R_g (RunL Q m266k0 m266b0 K (g_st a b lim 268 (.sl 3 l) gs.length (ts.map wv) i))) (fun e=>some (.sl 5 [],[some (.cells [.int .i64 (failS e (a,b)).1,.bool (failS e (a,b)).2])]))
   (finH 1 R_g (RunL Q m266k0 m266b0 K (g_st a b lim 268 (.sl 3 l) gs.length (ts.map wv) i))) (i+1) (gG lim ts g):=by
 obtain⟨hi,hxx⟩:=List.getElem?_eq_some_iff.1 hg
 obtain⟨dv,hdv,hv⟩:=hl.get hg
 have hgo:=hok g (List.mem_of_getElem? hg)
 obtain⟨k,t,d⟩:=g
 simp only at hdv hv hgo
 have hc:=c_GValue k t dv d hdv hgo.2 hgo.1 lim
 have hlt:decide ((i:Int)<(gs.length:Int))=true:=by simp;omega
 have i1:(i:Int)<(gs.length:Int):=by omega
 have hll:=hl.length
 have e9:((i+1:Nat):Int)=(i:Int)+1:=rfl
 have ha:(if i=0 then 2 else 1)≤2:=by split<;>omega
 have ha':1≤(if i=0 then 2 else 1):=by split<;>omega
 have hml:(ts.map wv).length=i:=by simp[hI]
 unfold gG
 unfold gM at hc hv
 simp only
 cases hx:genS k t d lim with
 |er e=>
  rw[hx]at hc
  have he:(e==0)=false:=by simpa using genS_er hx
  have hf:=h_fail e a b
  simp only[VR.mv]at hc
  simp only[After]
  unfold zero5L at hc
  unfold g_st
  generalize(if i=0 then 2 else 1)=aa at ha ha' ⊢
  generalize ts.map wv=vs at hml ⊢
  rcases hdv with rfl|⟨rfl,rfl⟩
  all_goals(
  obtain⟨b',hb'⟩:∃b',b'=m266b0:=⟨_,rfl⟩
  rw[RunL_eq,show Item.lp m266k0 m266b0=Item.lp m266k0 b' by rw[hb']]
  apply hide;intro rhs hrhs
  simp(maxSteps:=4000000)(disch:=first|exact dz|fail)only[bA.u,seval,cut,if_pos,if_neg,m266b0,R_g,hlt,i1,hll,hv,hc,he,hf,hml,Run_nil,reach]
  subst hrhs;rfl)
 |ok x=>
  rw[hx]at hc
  simp only[VR.mv]at hc
  refine⟨by simp[hI],?_⟩
  simp only[List.map_append,List.map_cons,List.map_nil]
  unfold g_st
  rw[if_neg (Nat.succ_ne_zero i),e9]
  generalize(if i=0 then 2 else 1)=aa at ha ha' ⊢
  generalize ts.map wv=vs at hml ⊢
  rcases genS_form hx with⟨D,rfl⟩|⟨bs,rfl⟩
  ·have hm:mvT (.mk 2 4 true [] [D])= .agg [.int .i64 2,.int .i64 4,.bool true,.nilsl,.sl 5 [mvT D]]:=by rw[mvT_eq];rfl
   have hw:Rb .nilsl []:=.nil
   unfold wv
   rw[hm]at hc ⊢
   have hp:∀(D':MV),Call Q 268 [.agg [.int .i64 2,.int .i64 4,.bool true,.nilsl,.sl 5 [D']]]=some (.agg [.int .i64 0,.int .i64 16,.bool true,.nilsl,.fsl 5 [.agg [.int .i64 2,.int .i64 4,.bool true,.nilsl,.sl 5 [D']]]]):=by
    intro D'
    rw[Call_fn Q (m:=m268) rfl rfl]
    apply hide;intro rhs hrhs
    simp(maxSteps:=4000000)(disch:=first|exact dz|fail)only[bA.u,seval,cut,if_pos,if_neg,m268,c_seqF]
    subst hrhs;rfl
   rcases hdv with rfl|⟨rfl,rfl⟩
   all_goals(
   obtain⟨b',hb'⟩:∃b',b'=m266b0:=⟨_,rfl⟩
   rw[RunL_eq,show Item.lp m266k0 m266b0=Item.lp m266k0 b' by rw[hb']]
   apply hide;intro rhs hrhs
   simp(maxSteps:=4000000)(disch:=first|exact dz|fail)only[bA.u,seval,cut,if_pos,if_neg,m266b0,hlt,i1,hll,hv,hc,hp,hml,Run_nil,reach]
   subst hrhs;(subst hb';refine(congrArg (finH _ _) (Run_lp Q _ _ _ _)).trans ?_;exact congrArg (finH 1 R_g) (RunL_canon (canon_cong kr kr kr))))
  ·have hm:mvT (.mk 2 k false bs [])= .agg [.int .i64 2,.int .i64 k,.bool false,.bs bs,.nilsl]:=by rw[mvT_eq];rfl
   unfold wv
   rw[hm]at hc ⊢
   have hp:=c_wrap 2 k false (.bs bs) .nilsl bs [] (.bs bs) .nil
   rcases hdv with rfl|⟨rfl,rfl⟩
   all_goals(
   obtain⟨b',hb'⟩:∃b',b'=m266b0:=⟨_,rfl⟩
   rw[RunL_eq,show Item.lp m266k0 m266b0=Item.lp m266k0 b' by rw[hb']]
   apply hide;intro rhs hrhs
   simp(maxSteps:=4000000)(disch:=first|exact dz|fail)only[bA.u,seval,cut,if_pos,if_neg,m266b0,hlt,i1,hll,hv,hc,hp,hml,Run_nil,reach]
   subst hrhs;(subst hb';refine(congrArg (finH _ _) (Run_lp Q _ _ _ _)).trans ?_;exact congrArg (finH 1 R_g) (RunL_canon (canon_cong kr kr kr))))
theorem g_endp (a:Int) (b:Bool) (lim:Bool) (lv:MV) (n:Nat) (vs:List MV) (hn:vs.length=n):finH 1 R_g (RunL Q m266k0 m266b0 [.blk 0,.code g_tail] (g_st a b lim 267 lv n vs n))=some (.sl 5 vs,[some (.cells [.int .i64 a,.bool b])]):=by
 have hlt:decide ((n:Int)<(n:Int))=false:=by simp
 have ha:(if n=0 then 2 else 1)≤2:=by split<;>omega
 have ha':1≤(if n=0 then 2 else 1):=by split<;>omega
 unfold g_st
 generalize(if n=0 then 2 else 1)=aa at ha ha' ⊢
 obtain⟨b',hb'⟩:∃b',b'=m266b0:=⟨_,rfl⟩
 rw[RunL_eq,show Item.lp m266k0 m266b0=Item.lp m266k0 b' by rw[hb']]
 apply hide;intro rhs hrhs
 simp(maxSteps:=4000000)(disch:=first|exact dz|fail)only[bA.u,seval,cut,if_pos,if_neg,m266b0,R_g,g_tail,hlt,hn,Run_nil,reach]
 subst hrhs;rfl
theorem h_gensp (l:List MV) (gs:List Gn) (hl:Gl l gs) (hok:okG gs) (hlen:gs.length≤2^30) (lim:Bool) (a:Int) (b:Bool):
  CallH Q 266 [.ptr 0 0,.sl 3 l,.bool lim,.fn 267 []] [.cells [.int .i64 a,.bool b]]=some (.sl 5 ((gensT lim gs).map mvT),[some (.cells [.int .i64 (gensS lim gs (a,b)).1,.bool (gensS lim gs (a,b)).2])]):=by
 have hll:=hl.length
 have hnd:=h_need (decide (gs.length≤256)) a b
 have hle:decide ((gs.length:Int)≤256)=decide (gs.length≤256):=by rw[Bool.eq_iff_iff];simp;omega
 unfold gensS gensT
 generalize hS:needS (decide (gs.length≤256)) (a,b)=s at hnd
 obtain⟨a',b'⟩:=s
 have loop:finH 1 R_g (RunL Q m266k0 m266b0 [.blk 0,.code g_tail] (g_st a' b' lim 267 (.sl 3 l) gs.length [] 0))=some (.sl 5 ((match foldE (gG lim) [] gs with| .inl ts=>ts| .inr _=>[]).map mvT),[some (.cells [.int .i64 (match foldE (gG lim) [] gs with| .inl _=>((a',b'):MS)| .inr e=>failS e (a',b')).1,.bool (match foldE (gG lim) [] gs with| .inl _=>((a',b'):MS)| .inr e=>failS e (a',b')).2])]):=by
  refine loopR gs (gG lim) (fun ts i=>finH 1 R_g (RunL Q m266k0 m266b0 [.blk 0,.code g_tail] (g_st a' b' lim 267 (.sl 3 l) gs.length (ts.map mvT) i))) (fun e=>some (.sl 5 [],[some (.cells [.int .i64 (failS e (a',b')).1,.bool (failS e (a',b')).2])])) (fun ts i=>ts.length=i)
   (fun ts i g hI hg=>g_stepp _ a' b' lim l gs hl hok hlen ts i g hI hg) [] rfl rfl ?_ ?_
  ·intro ts hf hI
   rw[hf]
   exact g_endp a' b' lim _ _ _ (by simp[hI])
  ·intro e hf
   rw[hf];rfl
 unfold g_st at loop
 rw[CallH_fn Q (m:=m266) rfl]
 apply hide;intro rhs hrhs
 simp(maxSteps:=4000000)(disch:=first|exact dz|fail)only[bA.u,seval,cut,if_pos,if_neg,m266,hll,hle,hnd,Run_loop,Run_nil,reach]
 subst hrhs;exact(congrArg (finH _ _) (RunL_canon (canon_cong kr kr kr))).trans loop
theorem h_gensp0 (lim:Bool) (a:Int) (b:Bool):CallH Q 266 [.ptr 0 0,.nilsl,.bool lim,.fn 267 []] [.cells [.int .i64 a,.bool b]]=CallH Q 266 [.ptr 0 0,.sl 3 [],.bool lim,.fn 267 []] [.cells [.int .i64 a,.bool b]]:=by
 rw[CallH_fn Q (m:=m266) rfl,CallH_fn Q (m:=m266) rfl]
 rfl
theorem g_endw (a:Int) (b:Bool) (lim:Bool) (lv:MV) (n:Nat) (vs:List MV) (hn:vs.length=n):finH 1 R_g (RunL Q m266k0 m266b0 [.blk 0,.code g_tail] (g_st a b lim 268 lv n vs n))=some (.sl 5 vs,[some (.cells [.int .i64 a,.bool b])]):=by
 have hlt:decide ((n:Int)<(n:Int))=false:=by simp
 have ha:(if n=0 then 2 else 1)≤2:=by split<;>omega
 have ha':1≤(if n=0 then 2 else 1):=by split<;>omega
 unfold g_st
 generalize(if n=0 then 2 else 1)=aa at ha ha' ⊢
 obtain⟨b',hb'⟩:∃b',b'=m266b0:=⟨_,rfl⟩
 rw[RunL_eq,show Item.lp m266k0 m266b0=Item.lp m266k0 b' by rw[hb']]
 apply hide;intro rhs hrhs
 simp(maxSteps:=4000000)(disch:=first|exact dz|fail)only[bA.u,seval,cut,if_pos,if_neg,m266b0,R_g,g_tail,hlt,hn,Run_nil,reach]
 subst hrhs;rfl
theorem h_gensw (l:List MV) (gs:List Gn) (hl:Gl l gs) (hok:okG gs) (hlen:gs.length≤2^30) (lim:Bool) (a:Int) (b:Bool):
  CallH Q 266 [.ptr 0 0,.sl 3 l,.bool lim,.fn 268 []] [.cells [.int .i64 a,.bool b]]=some (.sl 5 ((gensT lim gs).map wv),[some (.cells [.int .i64 (gensS lim gs (a,b)).1,.bool (gensS lim gs (a,b)).2])]):=by
 have hll:=hl.length
 have hnd:=h_need (decide (gs.length≤256)) a b
 have hle:decide ((gs.length:Int)≤256)=decide (gs.length≤256):=by rw[Bool.eq_iff_iff];simp;omega
 unfold gensS gensT
 generalize hS:needS (decide (gs.length≤256)) (a,b)=s at hnd
 obtain⟨a',b'⟩:=s
 have loop:finH 1 R_g (RunL Q m266k0 m266b0 [.blk 0,.code g_tail] (g_st a' b' lim 268 (.sl 3 l) gs.length [] 0))=some (.sl 5 ((match foldE (gG lim) [] gs with| .inl ts=>ts| .inr _=>[]).map wv),[some (.cells [.int .i64 (match foldE (gG lim) [] gs with| .inl _=>((a',b'):MS)| .inr e=>failS e (a',b')).1,.bool (match foldE (gG lim) [] gs with| .inl _=>((a',b'):MS)| .inr e=>failS e (a',b')).2])]):=by
  refine loopR gs (gG lim) (fun ts i=>finH 1 R_g (RunL Q m266k0 m266b0 [.blk 0,.code g_tail] (g_st a' b' lim 268 (.sl 3 l) gs.length (ts.map wv) i))) (fun e=>some (.sl 5 [],[some (.cells [.int .i64 (failS e (a',b')).1,.bool (failS e (a',b')).2])])) (fun ts i=>ts.length=i)
   (fun ts i g hI hg=>g_stepw _ a' b' lim l gs hl hok hlen ts i g hI hg) [] rfl rfl ?_ ?_
  ·intro ts hf hI
   rw[hf]
   exact g_endw a' b' lim _ _ _ (by simp[hI])
  ·intro e hf
   rw[hf];rfl
 unfold g_st at loop
 rw[CallH_fn Q (m:=m266) rfl]
 apply hide;intro rhs hrhs
 simp(maxSteps:=4000000)(disch:=first|exact dz|fail)only[bA.u,seval,cut,if_pos,if_neg,m266,hll,hle,hnd,Run_loop,Run_nil,reach]
 subst hrhs;exact(congrArg (finH _ _) (RunL_canon (canon_cong kr kr kr))).trans loop
theorem h_gensw0 (lim:Bool) (a:Int) (b:Bool):CallH Q 266 [.ptr 0 0,.nilsl,.bool lim,.fn 268 []] [.cells [.int .i64 a,.bool b]]=CallH Q 266 [.ptr 0 0,.sl 3 [],.bool lim,.fn 268 []] [.cells [.int .i64 a,.bool b]]:=by
 rw[CallH_fn Q (m:=m266) rfl,CallH_fn Q (m:=m266) rfl]
 rfl
structure Fs (w:MV):Prop where
 l:∀st,lend w st=some (w,st)
 c:MV.cells w=[w]
 f:MV.fit w=true
 n:MV.names w=[]
 n2:MV.names2 w=[]
 mr:∀g,mapRef g w=w
 mv:∀g,mapV g w=w
theorem Fs.a {w:MV} (h:Fs w):(∀st,lend w st=some (w,st))∧MV.cells w=[w]∧MV.fit w=true∧MV.names w=[]∧MV.names2 w=[]∧(∀g,mapRef g w=w)∧∀g,mapV g w=w:=⟨h.l,h.c,h.f,h.n,h.n2,h.mr,h.mv⟩
theorem Rb.fs {w:MV} {b:List UInt8} (h:Rb w b):Fs w:=by cases h<;>exact⟨fun _=>rfl,rfl,rfl,rfl,rfl,fun _=>rfl,fun _=>rfl⟩
theorem dir_fs {w:MV} {d:Dn} (h:isDir w d):Fs w:=by rcases h with rfl|⟨rfl,_⟩<;>exact⟨fun _=>rfl,rfl,rfl,rfl,rfl,fun _=>rfl,fun _=>rfl⟩
def Gs (w:MV) (gs:List Gn):Prop:=(∃l,w= .sl 3 l∧Gl l gs)∨w= .nilsl∧gs=[]
theorem Gs.fs {w:MV} {gs:List Gn} (h:Gs w gs):Fs w:=by rcases h with⟨l,rfl,_⟩|⟨rfl,_⟩<;>exact⟨fun _=>rfl,rfl,rfl,rfl,rfl,fun _=>rfl,fun _=>rfl⟩
theorem Gs.len {w:MV} {gs:List Gn} (h:Gs w gs) (st:DS):lenV false w st=some (.int .i64 gs.length):=by
 rcases h with⟨l,rfl,h⟩|⟨rfl,rfl⟩
 ·simp only[lenV,h.length]
 ·rfl
structure Crt where
 serial:Int
 scheme:Int
 issuer:Dn
 subject:Dn
 from_:Int
 to:Int
 keyScheme:Int
 key:List UInt8
 ca:Bool
 path:Int
 usage:Int
 alt:List Gn
 permit:List Gn
 exclude:List Gn
 sig:List UInt8
structure CrtR (c:Crt) (iss sub key alt per exc sig:MV):Prop where
 iss:isDir iss c.issuer
 sub:isDir sub c.subject
 key:Rb key c.key
 alt:Gs alt c.alt
 per:Gs per c.permit
 exc:Gs exc c.exclude
 sig:Rb sig c.sig
structure CrtB (c:Crt):Prop where
 iss:okLens c.issuer
 sub:okLens c.subject
 key:c.key.length≤2^20
 alt:okG c.alt∧c.alt.length≤2^20
 per:okG c.permit∧c.permit.length≤2^20
 exc:okG c.exclude∧c.exclude.length≤2^20
 sig:c.sig.length≤2^20
 ba:szs (gensT false c.alt)≤2^26
 bp:szs (gensT true c.permit)≤2^26
 be:szs (gensT true c.exclude)≤2^26
 serial:c.serial<9223372036854775808
 path:c.path<9223372036854775808
def crtV (c:Crt) (iss sub key alt per exc sig:MV):MV:=.agg [.int .i64 c.serial,.int .i64 c.scheme,iss,sub,.int .i64 c.from_,.int .i64 c.to,.int .i64 c.keyScheme,key,.bool c.ca,.int .i64 c.path,.int .i64 c.usage,alt,per,exc,sig]
def numT (tag n:Int):T:=.mk 0 tag false (numB n) []
def numV (n:Int):MV:=.agg [.int .i64 0,.int .i64 2,.bool false,.bs (numB n),.nilsl]
def basicT (p:Int):T:=.mk 0 16 true [] (.mk 0 1 false [255] []::(if 0≤p then [numT 2 p]else []))
def altT (gs:List Gn):T:=.mk 0 16 true [] (gensT false gs)
def limK (k:Int) (gs:List Gn):List T:=if gs.length=0 then []else [.mk 2 k true [] ((gensT true gs).map wt)]
def limT (p e:List Gn):T:=.mk 0 16 true [] (limK 0 p++limK 1 e)
def extB (s:MS) (p:Int):MS:=extS (basicT p) (if 0≤p then needS (decide (0≤p)&&decide (p≤4611686018427387903)) s else s)
def pathOK (c:Crt):Bool:=decide (-1≤c.path)&&decide (c.path≤4611686018427387903)&&(c.ca||c.path== -1)
def exts1 (c:Crt) (s:MS):MS:=if c.ca then extB (needS (pathOK c) s) c.path else needS (pathOK c) s
def exts2 (c:Crt) (s:MS):MS:=if c.usage=0 then needS (decide (0≤c.usage)&&decide (c.usage≤511)) s else extS (flT c.usage) (needS (decide (0≤c.usage)&&decide (c.usage≤511)) s)
def exts3 (c:Crt) (s:MS):MS:=if c.alt.length=0 then s else extS (altT c.alt) (gensS false c.alt s)
def limS (gs:List Gn) (s:MS):MS:=if gs.length=0 then s else gensS true gs s
def exts4 (c:Crt) (s:MS):MS:=if c.permit.length+c.exclude.length=0 then s else extS (limT c.permit c.exclude) (limS c.exclude (limS c.permit s))
def extsS (c:Crt) (s:MS):MS:=exts4 c (exts3 c (exts2 c (exts1 c s)))
def eB (c:Crt):List (List UInt8 × Bool × List UInt8):=if c.ca then [([85,29,19],true,(wrW (basicT c.path)).2)]else []
def eU (c:Crt):List (List UInt8 × Bool × List UInt8):=if c.usage=0 then []else [([85,29,15],true,(wrW (flT c.usage)).2)]
def eA (c:Crt):List (List UInt8 × Bool × List UInt8):=if c.alt.length=0 then []else [([85,29,17],false,(wrW (altT c.alt)).2)]
def eL (c:Crt):List (List UInt8 × Bool × List UInt8):=if c.permit.length+c.exclude.length=0 then []else [([85,29,30],true,(wrW (limT c.permit c.exclude)).2)]
def extsL (c:Crt):List (List UInt8 × Bool × List UInt8):=eB c++(eU c++(eA c++eL c))
def extsV (c:Crt):List MV:=(extsL c).map fun x=>extV x.1 x.2.1 x.2.2
def extsT (c:Crt):List T:=(extsL c).map fun x=>extT x.1 x.2.1 x.2.2
theorem o_basic:Call Q 109 [.str [50,46,53,46,50,57,46,49,57]]=some (good53 [85,29,19]):=Call_iff.2 ⟨3000,by kernel_rfl⟩
theorem o_usage:Call Q 109 [.str [50,46,53,46,50,57,46,49,53]]=some (good53 [85,29,15]):=Call_iff.2 ⟨3000,by kernel_rfl⟩
theorem o_alt:Call Q 109 [.str [50,46,53,46,50,57,46,49,55]]=some (good53 [85,29,17]):=Call_iff.2 ⟨3000,by kernel_rfl⟩
theorem o_lim:Call Q 109 [.str [50,46,53,46,50,57,46,51,48]]=some (good53 [85,29,30]):=Call_iff.2 ⟨3000,by kernel_rfl⟩
mutual
def nrm:T→Prop
 | .mk _ _ m b ks=>(m=true→b=[])∧(m=false→ks=[])∧nrms ks
def nrms:List T→Prop
 | []=>True
 |k::r=>nrm k∧nrms r
end
mutual
theorem Wv_mvT (f:Bool):∀t:T,nrm t→Wv f (mvT t) t
 | .mk c t m b ks,h=>by
  rw[nrm]at h
  rw[mvT_eq]
  have hk:=Wl_mvT f ks h.2.2
  refine .mk ?_ ?_
  ·cases m
   ·exact .bs b
   ·rw[h.1 rfl];exact .nil
  ·cases ks with
   |nil=>exact .nil
   |cons k r=>exact .sl hk
theorem Wl_mvT (f:Bool):∀ts:List T,nrms ts→Wl f (mvTs ts) ts
 | [],_=>.nil
 |k::r,h=>by rw[nrms]at h;rw[mvTs];exact .cons (Wv_mvT f k h.1) (Wl_mvT f r h.2)
end
theorem nrms_app:∀ {a b:List T},nrms a→nrms b→nrms (a++b)
 | [],b,_,h=>h
 |k::r,b,h1,h2=>by rw[nrms]at h1;rw[List.cons_append,nrms];exact⟨h1.1,nrms_app h1.2 h2⟩
theorem lows_app:∀ {a b:List T},lows a→lows b→lows (a++b)
 | [],b,_,h=>h
 |k::r,b,h1,h2=>by rw[lows]at h1;rw[List.cons_append,lows];exact⟨h1.1,lows_app h1.2 h2⟩
theorem szs_app:∀(a b:List T),szs (a++b)=szs a+szs b
 | [],b=>by simp[szs]
 |k::r,b=>by rw[List.cons_append,szs,szs_app r b,szs];omega
theorem gDn_fit:∀(d:Dn) (ks ks':List T),lows ks→nrms ks→foldE gDn ks d= .inl ks'→lows ks'∧nrms ks'
 | [],ks,ks',h1,h2,h=>by cases h;exact⟨h1,h2⟩
 |a::r,ks,ks',h1,h2,h=>by
  rw[foldE_cons]at h
  cases hx:oidS a.1 with
  |none=>rw[show gDn ks a= .inr () by unfold gDn;rw[hx]]at h;cases h
  |some out=>
   rw[show gDn ks a= .inl (ks++[kidT out a.2]) by unfold gDn;rw[hx]]at h
   refine gDn_fit r _ ks' (lows_app h1 ?_) (nrms_app h2 ?_) h
   ·simp only[lows,low,kidT,oidT,textT,and_true]
    unfold tagOf
    split<;>decide
   ·simp[nrms,nrm,kidT,oidT,textT]
theorem dnS_fit {d:Dn} {D:T} (h:dnS d= .ok D):low D∧nrm D:=by
 unfold dnS at h
 split at h
 ·cases h
 ·split at h
  ·cases h
  ·rename_i ks hf
   split at h
   ·cases h
   ·cases h
    obtain⟨h1,h2⟩:=gDn_fit d [] ks (by trivial) (by trivial) hf
    exact⟨by rw[low];exact⟨by decide,h1⟩,by rw[nrm];exact⟨fun _=>rfl,fun h=>(by cases h),h2⟩⟩
theorem genS_fit {k:Int} {t:List UInt8} {d:Dn} {lim:Bool} {x:T} (h:genS k t d lim= .ok x):low x∧nrm x:=by
 unfold genS at h
 split at h
 ·cases h
 ·rename_i hn
  have hk:k=1∨k=2∨k=4∨k=6∨k=7:=by
   have:kindB k=true:=by
    cases hx:kindB k
    ·exact absurd (.inl hx) hn
    ·rfl
   simp only[kindB,Bool.or_eq_true,beq_iff_eq]at this
   omega
  split at h
  ·split at h
   ·cases h
   ·rename_i D hD
    split at h
    ·cases h
     obtain⟨h1,h2⟩:=dnS_fit hD
     exact⟨by simp only[low,lows];exact⟨by decide,h1,trivial⟩,by simp only[nrm,nrms];exact⟨by simp,by simp,h2,trivial⟩⟩
    ·cases h
  ·split at h
   ·cases h
    exact⟨by simp only[low,lows];exact⟨by omega,trivial⟩,by simp only[nrm,nrms];exact⟨by simp,by simp,trivial⟩⟩
   ·cases h
theorem gG_fit (lim:Bool):∀(gs:List Gn) (ts ts':List T),lows ts→nrms ts→foldE (gG lim) ts gs= .inl ts'→lows ts'∧nrms ts'
 | [],ts,ts',h1,h2,h=>by cases h;exact⟨h1,h2⟩
 |g::r,ts,ts',h1,h2,h=>by
  rw[foldE_cons]at h
  cases hx:genS g.1 g.2.1 g.2.2 lim with
  |er e=>rw[show gG lim ts g= .inr e by unfold gG;rw[hx]]at h;cases h
  |ok x=>
   rw[show gG lim ts g= .inl (ts++[x]) by unfold gG;rw[hx]]at h
   obtain⟨a,b⟩:=genS_fit hx
   exact gG_fit lim r _ ts' (lows_app h1 (by simp only[lows];exact⟨a,trivial⟩)) (nrms_app h2 (by simp only[nrms];exact⟨b,trivial⟩)) h
theorem gens_fit (lim:Bool) (gs:List Gn):lows (gensT lim gs)∧nrms (gensT lim gs):=by
 unfold gensT
 split
 ·rename_i ts hf
  exact gG_fit lim gs [] ts (by trivial) (by trivial) hf
 ·exact⟨by trivial,by trivial⟩
theorem wt_fit:∀ {ts:List T},lows ts→nrms ts→lows (ts.map wt)∧nrms (ts.map wt)∧szs (ts.map wt)≤2*szs ts
 | [],_,_=>⟨by trivial,by trivial,by simp[szs]⟩
 |k::r,h1,h2=>by
  rw[lows]at h1;rw[nrms]at h2
  obtain⟨a,b,c⟩:=wt_fit h1.2 h2.2
  have hk:16≤sz k:=by cases k;rw[sz];omega
  simp only[List.map_cons,lows,nrms,szs,wt,low,nrm,sz,List.length_nil]
  exact⟨⟨⟨by decide,h1.1,trivial⟩,a⟩,⟨⟨by simp,by simp,h2.1,trivial⟩,b⟩,by omega⟩
theorem Wl_wv:∀ {ts:List T},nrms ts→Wl true (ts.map wv) (ts.map wt)
 | [],_=>.nil
 |k::r,h=>by
  rw[nrms]at h
  exact .cons (.mk .nil (.fsl (.cons (Wv_mvT true k h.1) .nil))) (Wl_wv h.2)
theorem Wl_map (f:Bool) {ts:List T} (h:nrms ts):Wl f (ts.map mvT) ts:=by rw[←mvTs_map];exact Wl_mvT f ts h
theorem numG_len:∀(k:Nat) (n:Int) (acc:List UInt8),(numG k n acc).length≤k+acc.length
 | 0,n,acc=>by rw[numG];omega
 |k+1,n,acc=>by
  rw[numG]
  split
  ·simp;omega
  ·have:=numG_len k (n/256) (UInt8.ofNat (n%256).toNat::acc)
   simp only[List.length_cons]at this;omega
theorem numB_len (n:Int):(numB n).length≤9:=by
 unfold numB
 split
 ·simp
 ·have:=numG_len 9 n []
  simpa using this
theorem flB_len (n:Int):(flB n).length≤3:=by unfold flB;split<;>simp
end Go.Mini
namespace Go.Mini
open Go Go.Mini.Nm Go.Proofs.YtgiobgojobegfaaGreatDoor
set_option maxRecDepth 100000
set_option maxHeartbeats 40000000
theorem basic_low (p:Int):low (basicT p):=by
 unfold basicT
 split<;>simp[low,lows,numT]
theorem basic_sz (p:Int):sz (basicT p)≤200:=by
 have:=numB_len p
 unfold basicT
 split<;>simp[sz,szs,numT]<;>omega
theorem Wv_bool:Wv true boolV (.mk 0 1 false [255] []):=.mk (.bs _) .nil
theorem Wv_num (n:Int):Wv true (numV n) (numT 2 n):=.mk (.bs _) .nil
theorem e_b0 (p:Int) (h:¬ 0≤p) (a:Int) (b:Bool):CallH Q 264 [.ptr 0 0,.str [50,46,53,46,50,57,46,49,57],.bool true,.agg [.int .i64 0,.int .i64 16,.bool true,.nilsl,.fsl 5 [.agg [.int .i64 0,.int .i64 1,.bool false,.bs [255],.nilsl]]]] [.cells [.int .i64 a,.bool b]]=some (extV [85,29,19] true (wrW (basicT p)).2,[some (.cells [.int .i64 (extS (basicT p) (a,b)).1,.bool (extS (basicT p) (a,b)).2])]):=by
 refine h_ext (fb:=true) _ _ o_basic true _ (basicT p) ?_ (basic_low p) (by have:=basic_sz p;omega) a b
 unfold basicT
 rw[if_neg h]
 exact .mk .nil (.fsl (.cons Wv_bool .nil))
theorem e_b1 (p:Int) (h:0≤p) (a:Int) (b:Bool):CallH Q 264 [.ptr 0 0,.str [50,46,53,46,50,57,46,49,57],.bool true,.agg [.int .i64 0,.int .i64 16,.bool true,.nilsl,.sl 5 [.agg [.int .i64 0,.int .i64 1,.bool false,.bs [255],.nilsl],.agg [.int .i64 0,.int .i64 2,.bool false,.bs (numB p),.nilsl]]]] [.cells [.int .i64 a,.bool b]]=some (extV [85,29,19] true (wrW (basicT p)).2,[some (.cells [.int .i64 (extS (basicT p) (a,b)).1,.bool (extS (basicT p) (a,b)).2])]):=by
 refine h_ext (fb:=true) _ _ o_basic true _ (basicT p) ?_ (basic_low p) (by have:=basic_sz p;omega) a b
 unfold basicT
 rw[if_pos h]
 exact .mk .nil (.sl (.cons Wv_bool (.cons (Wv_num p) .nil)))
theorem e_u (n:Int) (a:Int) (b:Bool):CallH Q 264 [.ptr 0 0,.str [50,46,53,46,50,57,46,49,53],.bool true,.agg [.int .i64 0,.int .i64 3,.bool false,.bs (flB n),.nilsl]] [.cells [.int .i64 a,.bool b]]=some (extV [85,29,15] true (wrW (flT n)).2,[some (.cells [.int .i64 (extS (flT n) (a,b)).1,.bool (extS (flT n) (a,b)).2])]):=
 h_ext (fb:=true) _ _ o_usage true _ (flT n) (.mk (.bs _) .nil) (by simp[flT,low,lows]) (by have:=flB_len n;simp[flT,sz,szs];omega) a b
theorem e_a (gs:List Gn) (hz:szs (gensT false gs)≤2^26) (a:Int) (b:Bool):CallH Q 264 [.ptr 0 0,.str [50,46,53,46,50,57,46,49,55],.bool false,.agg [.int .i64 0,.int .i64 16,.bool true,.nilsl,.sl 5 ((gensT false gs).map mvT)]] [.cells [.int .i64 a,.bool b]]=some (extV [85,29,17] false (wrW (altT gs)).2,[some (.cells [.int .i64 (extS (altT gs) (a,b)).1,.bool (extS (altT gs) (a,b)).2])]):=
 h_ext (fb:=true) _ _ o_alt false _ (altT gs) (.mk .nil (.sl (Wl_map true (gens_fit false gs).2))) (by unfold altT;rw[low];exact⟨by decide,(gens_fit false gs).1⟩) (by simp[altT,sz];omega) a b
def atV (k:Int) (gs:List Gn):MV:=.agg [.int .i64 2,.int .i64 k,.bool true,.nilsl,.sl 5 ((gensT true gs).map wv)]
theorem Wv_at (k:Int) (gs:List Gn):Wv true (atV k gs) (.mk 2 k true [] ((gensT true gs).map wt)):=.mk .nil (.sl (Wl_wv (gens_fit true gs).2))
theorem lim_fit (p e:List Gn):low (limT p e):=by
 unfold limT limK
 have hp:=(wt_fit (gens_fit true p).1 (gens_fit true p).2).1
 have he:=(wt_fit (gens_fit true e).1 (gens_fit true e).2).1
 rw[low]
 refine⟨by decide,lows_app ?_ ?_⟩<;>split<;>simp only[lows,low,and_true]<;>first|exact⟨by decide,hp⟩|exact⟨by decide,he⟩
theorem lim_sz (p e:List Gn) (h1:szs (gensT true p)≤2^26) (h2:szs (gensT true e)≤2^26):sz (limT p e)≤2^30:=by
 unfold limT limK
 have hp:=(wt_fit (gens_fit true p).1 (gens_fit true p).2).2.2
 have he:=(wt_fit (gens_fit true e).1 (gens_fit true e).2).2.2
 rw[sz,szs_app]
 split<;>split<;>simp only[szs,sz,List.length_nil]<;>omega
theorem e_l (p e:List Gn) (h1:szs (gensT true p)≤2^26) (h2:szs (gensT true e)≤2^26) (ks:List MV) (hk:Wl true ks (limK 0 p++limK 1 e)) (a:Int) (b:Bool):CallH Q 264 [.ptr 0 0,.str [50,46,53,46,50,57,46,51,48],.bool true,.agg [.int .i64 0,.int .i64 16,.bool true,.nilsl,.sl 5 ks]] [.cells [.int .i64 a,.bool b]]=some (extV [85,29,30] true (wrW (limT p e)).2,[some (.cells [.int .i64 (extS (limT p e) (a,b)).1,.bool (extS (limT p e) (a,b)).2])]):=
 h_ext (fb:=true) _ _ o_lim true _ (limT p e) (.mk .nil (.sl hk)) (lim_fit p e) (lim_sz p e h1 h2) a b
theorem h_gp (w:MV) (gs:List Gn) (h:Gs w gs) (hok:okG gs∧gs.length≤2^20) (lim:Bool) (a:Int) (b:Bool):CallH Q 266 [.ptr 0 0,w,.bool lim,.fn 267 []] [.cells [.int .i64 a,.bool b]]=some (.sl 5 ((gensT lim gs).map mvT),[some (.cells [.int .i64 (gensS lim gs (a,b)).1,.bool (gensS lim gs (a,b)).2])]):=by
 rcases h with⟨l,rfl,hl⟩|⟨rfl,rfl⟩
 ·exact h_gensp l gs hl hok.1 (by omega) lim a b
 ·rw[h_gensp0];exact h_gensp [] [] .nil hok.1 (by simp) lim a b
theorem h_gw (w:MV) (gs:List Gn) (h:Gs w gs) (hok:okG gs∧gs.length≤2^20) (lim:Bool) (a:Int) (b:Bool):CallH Q 266 [.ptr 0 0,w,.bool lim,.fn 268 []] [.cells [.int .i64 a,.bool b]]=some (.sl 5 ((gensT lim gs).map wv),[some (.cells [.int .i64 (gensS lim gs (a,b)).1,.bool (gensS lim gs (a,b)).2])]):=by
 rcases h with⟨l,rfl,hl⟩|⟨rfl,rfl⟩
 ·exact h_gensw l gs hl hok.1 (by omega) lim a b
 ·rw[h_gensw0];exact h_gensw [] [] .nil hok.1 (by simp) lim a b
end Go.Mini
namespace Go.Mini
open Go Go.Mini.Nm Go.Proofs.YtgiobgojobegfaaGreatDoor
set_option maxRecDepth 100000
set_option maxHeartbeats 80000000
def x_path:MCode:=(.rg [oT 9 (.mv (.v 0)),
  oT 10 (.fad 9 (.v 3)),
  oT 11 (.load false 1 (.t 10)),
  oT 12 (.bin .geq (.t 11) (.c (.int .i64 (-1)))),
  oT 13 (.mv (.t 12)),
  ⟨some (.t 14),.fad 9 (.v 3),some (.t 13,true)⟩,
  ⟨some (.t 15),.load false 1 (.t 14),some (.t 13,true)⟩,
  ⟨some (.t 16),.bin .leq (.t 15) (.c (.int .i64 4611686018427387903)),some (.t 13,true)⟩,
  oT 17 (.pick (.t 13) (.t 16) (.c (.bool false))),
  oT 18 (.mv (.t 17)),
  ⟨some (.t 19),.fad 8 (.v 3),some (.t 18,true)⟩,
  ⟨some (.t 20),.load false 1 (.t 19),some (.t 18,true)⟩,
  ⟨some (.t 21),.mv (.t 20),some (.t 18,true)⟩,
  ⟨some (.t 22),.fad 9 (.v 3),some (.t 21,false)⟩,
  ⟨some (.t 23),.load false 1 (.t 22),some (.t 21,false)⟩,
  ⟨some (.t 24),.bin .eql (.t 23) (.c (.int .i64 (-1))),some (.t 21,false)⟩,
  ⟨some (.t 25),.pick (.t 21) (.c (.bool true)) (.t 24),some (.t 18,true)⟩,
  oT 26 (.pick (.t 18) (.t 25) (.c (.bool false))),
  oT 27 (.callh 260 [.t 9,.t 26])])
def x_use:MCode:=(.rg [oT 52 (.mv (.v 0)),
  oT 53 (.fad 10 (.v 3)),
  oT 54 (.load false 1 (.t 53)),
  oT 55 (.bin .geq (.t 54) (.c (.int .i64 0))),
  oT 56 (.mv (.t 55)),
  ⟨some (.t 57),.fad 10 (.v 3),some (.t 56,true)⟩,
  ⟨some (.t 58),.load false 1 (.t 57),some (.t 56,true)⟩,
  ⟨some (.t 59),.bin .leq (.t 58) (.c (.int .i64 511)),some (.t 56,true)⟩,
  oT 60 (.pick (.t 56) (.t 59) (.c (.bool false))),
  oT 61 (.callh 260 [.t 52,.t 60])])
theorem m_exts:m259=⟨2,[.other,.other],[(4,none,.el 5)],
 .seq (.rg [oV 3 (.box (.v 1)),
  oV 4 (.mv (.c (.nilsl)))])
 (.seq (.rg [oV 5 (.mv (.c (.nilsl)))])
  (.seq (x_path)
  (.seq (.seq (.rg [oT 28 (.fad 8 (.v 3)),
  oV 29 (.load false 1 (.t 28))])
  (.cond (.v 29) (.seq (.rg [oT 30 (.bslB 1 [(0,.c (.int .u8 255))]),
  oT 31 (.build [.int .i64 0,.int .i64 0,.bool false,.nilsl,.nilsl] [(1,1,.c (.int .i64 1)),(3,1,.t 30)]),
  oT 32 (.bslF 5 (.agg [.int .i64 0,.int .i64 0,.bool false,.nilsl,.nilsl]) 1 [(0,.t 31)]),
  oT 33 (.call 74 [.t 32]),
  oV 6 (.alloc [.int .i64 0,.int .i64 0,.bool false,.nilsl,.nilsl]),
  oN (.store 5 (.v 6) (.t 33))])
  (.seq (.seq (.rg [oT 34 (.fad 9 (.v 3)),
  oT 35 (.load false 1 (.t 34)),
  oV 36 (.bin .geq (.t 35) (.c (.int .i64 0)))])
  (.cond (.v 36) (.rgd [oT 37 (.fad 4 (.v 6)),
  oT 38 (.load false 1 (.t 37)),
  oT 39 (.mv (.v 0)),
  oT 40 (.fad 9 (.v 3)),
  oT 41 (.load false 1 (.t 40)),
  oT 42 (.callh 255 [.t 39,.t 41]),
  oT 43 (.bslF 5 (.agg [.int .i64 0,.int .i64 0,.bool false,.nilsl,.nilsl]) 1 [(0,.t 42)]),
  oT 44 (.app false 5 72 (.t 38) (.t 43)),
  oT 45 (.fad 4 (.v 6)),
  oN (.store 1 (.t 45) (.t 44))]
  (clo [[],[0],[],[],[3],[2,4],[5],[1,6],[7],[8]]))
  (.skip)))
  (.rg [oT 46 (.mv (.v 5)),
  oT 47 (.mv (.v 0)),
  oT 48 (.load true 5 (.v 6)),
  oT 49 (.callh 264 [.t 47,.c (.str [50,46,53,46,50,57,46,49,57]),.c (.bool true),.t 48]),
  oT 50 (.bslF 5 (.agg [.int .i64 0,.int .i64 0,.bool false,.nilsl,.nilsl]) 1 [(0,.t 49)]),
  oT 51 (.app false 5 72 (.t 46) (.t 50)),
  oV 5 (.mv (.t 51))])))
  (.skip)))
  (.seq (x_use)
  (.seq (.seq (.rg [oT 62 (.fad 10 (.v 3)),
  oT 63 (.load false 1 (.t 62)),
  oV 64 (.bin .neq (.t 63) (.c (.int .i64 0)))])
  (.cond (.v 64) (.rg [oT 65 (.mv (.v 5)),
  oT 66 (.mv (.v 0)),
  oT 67 (.fad 10 (.v 3)),
  oT 68 (.load false 1 (.t 67)),
  oT 69 (.call 265 [.t 68]),
  oT 70 (.callh 264 [.t 66,.c (.str [50,46,53,46,50,57,46,49,53]),.c (.bool true),.t 69]),
  oT 71 (.bslF 5 (.agg [.int .i64 0,.int .i64 0,.bool false,.nilsl,.nilsl]) 1 [(0,.t 70)]),
  oT 72 (.app false 5 72 (.t 65) (.t 71)),
  oV 5 (.mv (.t 72))])
  (.skip)))
  (.seq (.seq (.rg [oT 73 (.fad 11 (.v 3)),
  oT 74 (.load false 1 (.t 73)),
  oT 75 (.len false (.t 74)),
  oV 76 (.bin .gtr (.t 75) (.c (.int .i64 0)))])
  (.cond (.v 76) (.rg [oT 77 (.mv (.v 5)),
  oT 78 (.mv (.v 0)),
  oT 79 (.mv (.v 0)),
  oT 80 (.fad 11 (.v 3)),
  oT 81 (.load false 1 (.t 80)),
  oT 82 (.callh 266 [.t 79,.t 81,.c (.bool false),.c (.fn 267 [])]),
  oT 83 (.call 74 [.t 82]),
  oT 84 (.callh 264 [.t 78,.c (.str [50,46,53,46,50,57,46,49,55]),.c (.bool false),.t 83]),
  oT 85 (.bslF 5 (.agg [.int .i64 0,.int .i64 0,.bool false,.nilsl,.nilsl]) 1 [(0,.t 84)]),
  oT 86 (.app false 5 72 (.t 77) (.t 85)),
  oV 5 (.mv (.t 86))])
  (.skip)))
  (.seq (.seq (.rg [oT 87 (.fad 12 (.v 3)),
  oT 88 (.load false 1 (.t 87)),
  oT 89 (.len false (.t 88)),
  oT 90 (.fad 13 (.v 3)),
  oT 91 (.load false 1 (.t 90)),
  oT 92 (.len false (.t 91)),
  oT 93 (.bin .add (.t 89) (.t 92)),
  oV 94 (.bin .gtr (.t 93) (.c (.int .i64 0)))])
  (.cond (.v 94) (.seq (.rg [oV 7 (.mv (.c (.fn 268 [])))])
  (.seq (.rg [oT 95 (.call 74 [.c (.nilsl)]),
  oV 8 (.alloc [.int .i64 0,.int .i64 0,.bool false,.nilsl,.nilsl]),
  oN (.store 5 (.v 8) (.t 95))])
  (.seq (.seq (.rg [oT 96 (.fad 12 (.v 3)),
  oT 97 (.load false 1 (.t 96)),
  oT 98 (.len false (.t 97)),
  oV 99 (.bin .gtr (.t 98) (.c (.int .i64 0)))])
  (.cond (.v 99) (.rgd [oT 100 (.fad 4 (.v 8)),
  oT 101 (.load false 1 (.t 100)),
  oT 102 (.mv (.v 0)),
  oT 103 (.fad 12 (.v 3)),
  oT 104 (.load false 1 (.t 103)),
  oT 105 (.mv (.v 7)),
  oT 106 (.callh 266 [.t 102,.t 104,.c (.bool true),.t 105]),
  oT 107 (.call 254 [.c (.int .i64 0),.t 106]),
  oT 108 (.bslF 5 (.agg [.int .i64 0,.int .i64 0,.bool false,.nilsl,.nilsl]) 1 [(0,.t 107)]),
  oT 109 (.app false 5 72 (.t 101) (.t 108)),
  oT 110 (.fad 4 (.v 8)),
  oN (.store 1 (.t 110) (.t 109))]
  (clo [[],[0],[],[],[3],[],[2,4,5],[6],[7],[1,8],[9],[10]]))
  (.skip)))
  (.seq (.seq (.rg [oT 111 (.fad 13 (.v 3)),
  oT 112 (.load false 1 (.t 111)),
  oT 113 (.len false (.t 112)),
  oV 114 (.bin .gtr (.t 113) (.c (.int .i64 0)))])
  (.cond (.v 114) (.rgd [oT 115 (.fad 4 (.v 8)),
  oT 116 (.load false 1 (.t 115)),
  oT 117 (.mv (.v 0)),
  oT 118 (.fad 13 (.v 3)),
  oT 119 (.load false 1 (.t 118)),
  oT 120 (.mv (.v 7)),
  oT 121 (.callh 266 [.t 117,.t 119,.c (.bool true),.t 120]),
  oT 122 (.call 254 [.c (.int .i64 1),.t 121]),
  oT 123 (.bslF 5 (.agg [.int .i64 0,.int .i64 0,.bool false,.nilsl,.nilsl]) 1 [(0,.t 122)]),
  oT 124 (.app false 5 72 (.t 116) (.t 123)),
  oT 125 (.fad 4 (.v 8)),
  oN (.store 1 (.t 125) (.t 124))]
  (clo [[],[0],[],[],[3],[],[2,4,5],[6],[7],[1,8],[9],[10]]))
  (.skip)))
  (.rg [oT 126 (.mv (.v 5)),
  oT 127 (.mv (.v 0)),
  oT 128 (.load true 5 (.v 8)),
  oT 129 (.callh 264 [.t 127,.c (.str [50,46,53,46,50,57,46,51,48]),.c (.bool true),.t 128]),
  oT 130 (.bslF 5 (.agg [.int .i64 0,.int .i64 0,.bool false,.nilsl,.nilsl]) 1 [(0,.t 129)]),
  oT 131 (.app false 5 72 (.t 126) (.t 130)),
  oV 5 (.mv (.t 131))])))))
  (.skip)))
  (.seq (.rg [oT 132 (.mv (.v 5)),
  oV 4 (.mv (.t 132))])
  (.ret))))))))),some 1⟩:=rfl
theorem x_path_ok (K:List Item) (V:List (Nat × MV)) (O:List (Nat × Obj)) (nx p:Nat) (serial scheme from_ to ks path usage:Int) (iss sub key alt per exc sig:MV) (ca:Bool) (a:Int) (b:Bool) (h0:look V 0=some (.ptr 0 0)) (h3:look V 3=some (.ptr p 0)) (hO:look O p=some (.cells [.int .i64 serial,.int .i64 scheme,iss,sub,.int .i64 from_,.int .i64 to,.int .i64 ks,key,.bool ca,.int .i64 path,.int .i64 usage,alt,per,exc,sig])) (hO0:look O 0=some (.cells [.int .i64 a,.bool b])):
  Run Q (.code x_path::K) ⟨V,[],O,nx⟩=Run Q K ⟨V,[],(0,.cells [.int .i64 (needS (decide (-1≤path)&&decide (path≤4611686018427387903)&&(ca||path== -1)) (a,b)).1,.bool (needS (decide (-1≤path)&&decide (path≤4611686018427387903)&&(ca||path== -1)) (a,b)).2])::O,nx+76⟩:=by
 cases h1:decide (-1≤path)<;>cases h2:decide (path≤4611686018427387903)<;>cases ca<;>cases h4:(path== -1)
 all_goals(
  apply hide;intro rhs hrhs
  simp(maxSteps:=4000000)(disch:=first|exact dz|fail)only[bA.u,seval,cut,if_pos,if_neg,x_path,h0,h3,hO,hO0,h1,h2,h4,h_need,reach,inner,objsOf,Bool.false_and,Bool.true_and,Bool.and_true,Bool.and_false]
  try(subst hrhs;simp only[Bool.false_and,Bool.true_and,Bool.and_true,Bool.and_false,Bool.or_false,Bool.or_true,Bool.false_or,Bool.true_or]))
theorem x_use_ok (K:List Item) (V:List (Nat × MV)) (O:List (Nat × Obj)) (nx p:Nat) (serial scheme from_ to ks path usage:Int) (iss sub key alt per exc sig:MV) (ca:Bool) (a:Int) (b:Bool) (h0:look V 0=some (.ptr 0 0)) (h3:look V 3=some (.ptr p 0)) (hO:look O p=some (.cells [.int .i64 serial,.int .i64 scheme,iss,sub,.int .i64 from_,.int .i64 to,.int .i64 ks,key,.bool ca,.int .i64 path,.int .i64 usage,alt,per,exc,sig])) (hO0:look O 0=some (.cells [.int .i64 a,.bool b])):
  Run Q (.code x_use::K) ⟨V,[],O,nx⟩=Run Q K ⟨V,[],(0,.cells [.int .i64 (needS (decide (0≤usage)&&decide (usage≤511)) (a,b)).1,.bool (needS (decide (0≤usage)&&decide (usage≤511)) (a,b)).2])::O,nx+40⟩:=by
 cases h1:decide (0≤usage)<;>cases h2:decide (usage≤511)
 all_goals(
  apply hide;intro rhs hrhs
  simp(maxSteps:=4000000)(disch:=first|exact dz|fail)only[bA.u,seval,cut,if_pos,if_neg,x_use,h0,h3,hO,hO0,h1,h2,h_need,reach,inner,objsOf,Bool.false_and,Bool.true_and,Bool.and_true,Bool.and_false]
  try(subst hrhs;simp only[Bool.false_and,Bool.true_and,Bool.and_true,Bool.and_false,Bool.or_false,Bool.or_true,Bool.false_or,Bool.true_or]))
end Go.Mini

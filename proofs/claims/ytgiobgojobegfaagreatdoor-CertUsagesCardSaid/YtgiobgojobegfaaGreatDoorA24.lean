/- a certificate's law by that interpreter (part 24): what the program's functions answer, or plain laws of it; no conditions. -/
import Derived.Test.YtgiobgojobegfaaGreatDoorA16
import Derived.Test.YtgiobgojobegfaaGreatDoorA17
import Derived.Test.YtgiobgojobegfaaGreatDoorA22
import Derived.Test.YtgiobgojobegfaaGreatDoorA18
set_option linter.all false
namespace Go.Mini
open Go Go.Mini.Nm Go.Proofs.YtgiobgojobegfaaGreatDoor
set_option maxRecDepth 100000
set_option maxHeartbeats 80000000
def cU (a:Int):Crt:=⟨1,1,[([50,46,53,46,52,46,51],[105])],[([50,46,53,46,52,46,51],[115])],0,0,1,[],false,-1,a,[],[],[],[]⟩
def uS (a:Int):Int × List UInt8:=wrS (oneS (cU a)) (wholeT (cU a))
theorem u_all:(List.range 512).all (fun n=>(uS n).1==0)=true:=by kernel_rfl
theorem u_ok {a:Int} (h:0≤a∧a≤511):(uS a).1=0:=by
 have:=List.all_eq_true.1 u_all a.toNat (by simp;omega)
 rw[Int.toNat_of_nonneg h.1]at this
 simpa using this
theorem u_bad {a:Int} (h:¬(0≤a∧a≤511)):(uS a).1≠0:=fun e=>h (wrote_ok e).1.usage
theorem u_R (a:Int):CrtR (cU a) (.sl 2 [.agg [.str [50,46,53,46,52,46,51],.str [105]]]) (.sl 2 [.agg [.str [50,46,53,46,52,46,51],.str [115]]]) .nilsl .nilsl .nilsl .nilsl .nilsl:=⟨.inl rfl,.inl rfl,.nil,.inr ⟨rfl,rfl⟩,.inr ⟨rfl,rfl⟩,.inr ⟨rfl,rfl⟩,.nil⟩
theorem u_dn (x:List UInt8) (h:x.length<1000000):okLens [([50,46,53,46,52,46,51],x)]:=⟨by simp,by
 intro a ha
 simp only[List.mem_cons,List.not_mem_nil,or_false]at ha
 subst ha
 exact⟨by simp,h⟩⟩
theorem u_g:okG []∧([]:List Gn).length≤2^20:=⟨(fun g hg=>by cases hg),by simp⟩
theorem u_B (a:Int):CrtB (cU a):=⟨u_dn [105] (by simp),u_dn [115] (by simp),by simp[cU],u_g,u_g,u_g,by simp[cU],by simp[cU,gensT,foldE,szs],by simp[cU,gensT,foldE,szs],by simp[cU,gensT,foldE,szs],by simp[cU],by simp[cU]⟩
theorem u_enc (a:Int):Call Q 11 [.agg [.int .i64 1,.int .i64 1,.sl 2 [.agg [.str [50,46,53,46,52,46,51],.str [105]]],.sl 2 [.agg [.str [50,46,53,46,52,46,51],.str [115]]],.int .i64 0,.int .i64 0,.int .i64 1,.nilsl,.bool false,.int .i64 (-1),.int .i64 a,.nilsl,.nilsl,.nilsl,.nilsl]]=some (.tup [.bs (uS a).2,.int .i64 (uS a).1]):=
 k_Encode (cU a) _ _ _ _ _ _ _ (u_R a) (u_B a)
theorem u_i:Call Q 18 [.str [105]]=some (.sl 2 [.agg [.str [50,46,53,46,52,46,51],.str [105]]]):=Call_iff.2 ⟨3000,by kernel_rfl⟩
theorem u_s:Call Q 18 [.str [115]]=some (.sl 2 [.agg [.str [50,46,53,46,52,46,51],.str [115]]]):=Call_iff.2 ⟨3000,by kernel_rfl⟩
theorem u_eq {a b:Int} (ha:0≤a∧a≤511) (hb:0≤b∧b≤511):((uS a).2==(uS b).2)=(a==b):=by
 by_cases h:a=b
 ·subst h;simp
 ·have h1:(a==b)=false:=by simpa using h
  rw[h1]
  exact one_ne (c:=cU a) (d:=cU b) (fun e=>h e.2.2.2.1) (u_ok ha) (u_ok hb)
theorem u_len (a:Int):(uS a).2.length≤65536:=wrS_len _ _
theorem u_main (a b:Int) (ha:0≤a∧a≤511) (hb:0≤b∧b≤511):Call Q 5 [.int .i64 a,.int .i64 b]=some (.bool true):=by
 have hn:=c_anchor
 have d1:=u_i
 have d2:=u_s
 have e1:=u_enc a
 have e2:=u_enc b
 obtain⟨hok,_,_⟩:=wrote_ok (u_ok ha)
 obtain⟨w,p,x,gw,gp,gx,e3⟩:=c_back (cU a) (u_B a) (sz_whole _ (u_B a)) (u_ok ha) (wrW_alt hok) (wrW_lim hok)
 have fw:=gw.fs
 have fq:=gp.fs
 have fx:=gx.fs
 change Call Q 14 [.bs (uS a).2]=some (.tup [.agg [.int .i64 1,.int .i64 1,.sl 2 [.agg [.str [50,46,53,46,52,46,51],.str [105]]],.sl 2 [.agg [.str [50,46,53,46,52,46,51],.str [115]]],.int .i64 0,.int .i64 0,.int .i64 1,.bs [],.bool false,.int .i64 (-1),.int .i64 a,w,p,x,.bs []],.int .i64 0])at e3
 have s1:=c_Same (uS a).2 (uS b).2 (by have:=u_len a;omega)
 rw[u_eq ha hb]at s1
 rw[u_ok ha]at e1
 rw[u_ok hb]at e2
 generalize(uS a).2=x1 at *
 generalize(uS b).2=x2 at *
 have g1:decide (0≤a)=true:=by simpa using ha.1
 have g2:decide (a≤511)=true:=by simpa using ha.2
 have g3:decide (0≤b)=true:=by simpa using hb.1
 have g4:decide (b≤511)=true:=by simpa using hb.2
 rw[Call_fn Q (m:=m5) rfl rfl]
 apply hide;intro rhs hrhs
 simp(maxSteps:=4000000)(disch:=first|exact dz|fail)only[bA.u,seval,cut,if_pos,if_neg,m5,hn,d1,d2,e1,e2,e3,s1,g1,g2,g3,g4,fw.a,fq.a,fx.a]
 repeat'((with_reducible first|refine sp ?_ ?_|fail)<;>intro hx<;>(try simp only[bI.u]at hx)<;>(first|exact xz|(try simp(maxSteps:=4000000)(disch:=first|exact dz|fail)only[bA.u,seval,cut,if_pos,if_neg,hx,m5,hn,d1,d2,e1,e2,e3,s1,g1,g2,g3,g4,fw.a,fq.a,fx.a])))
 all_goals first|exact xz|(subst hrhs;rfl)
theorem u_rest (a b:Int) (p1 p2 q1 q2:Bool) (g1:decide (0≤a)=p1) (g2:decide (a≤511)=p2) (g3:decide (0≤b)=q1) (g4:decide (b≤511)=q2) (z1:((uS a).1==0)=(p1&&p2)) (z2:((uS b).1==0)=(q1&&q2)) (y1:((uS a).1 != 0)= !(p1&&p2)) (y2:((uS b).1 != 0)= !(q1&&q2)) (hne:(p1&&p2&&(q1&&q2))=false):Call Q 5 [.int .i64 a,.int .i64 b]=some (.bool true):=by
 have hn:=c_anchor
 have d1:=u_i
 have d2:=u_s
 have e1:=u_enc a
 have e2:=u_enc b
 generalize uS a=o1 at *
 generalize uS b=o2 at *
 obtain⟨w1,x1⟩:=o1
 obtain⟨w2,x2⟩:=o2
 simp only at e1 e2 z1 z2 y1 y2
 rw[Call_fn Q (m:=m5) rfl rfl]
 cases p1<;>cases p2<;>cases q1<;>cases q2
 all_goals first|(exact absurd hne (by decide))|skip
 all_goals(
  simp only[Bool.and_true,Bool.true_and,Bool.and_false,Bool.false_and,Bool.not_true,Bool.not_false]at z1 z2 y1 y2
  apply hide;intro rhs hrhs
  simp(maxSteps:=4000000)(disch:=first|exact dz|fail)only[bA.u,seval,cut,if_pos,if_neg,m5,hn,d1,d2,e1,e2,g1,g2,g3,g4,z1,z2,y1,y2]
  repeat'((with_reducible first|refine sp ?_ ?_|fail)<;>intro hx<;>(try simp only[bI.u]at hx)<;>(first|exact xz|(try simp(maxSteps:=4000000)(disch:=first|exact dz|fail)only[bA.u,seval,cut,if_pos,if_neg,hx,m5,hn,d1,d2,e1,e2,g1,g2,g3,g4,z1,z2,y1,y2])))
  all_goals first|exact xz|(subst hrhs;rfl))
theorem u_z (a:Int):((uS a).1==0)=(decide (0≤a)&&decide (a≤511)):=by
 by_cases h:0≤a∧a≤511
 ·rw[u_ok h,decide_eq_true h.1,decide_eq_true h.2];rfl
 ·have k:((uS a).1==0)=false:=beq_eq_false_iff_ne.2 (u_bad h)
  rw[k]
  symm
  rw[Bool.and_eq_false_iff,decide_eq_false_iff_not,decide_eq_false_iff_not]
  omega
theorem u_y (a:Int):((uS a).1 != 0)= !(decide (0≤a)&&decide (a≤511)):=by
 show(!((uS a).1==0))=_
 rw[u_z]
theorem c_Usages (a b:Int):Call Q 5 [.int .i64 a,.int .i64 b]=some (.bool true):=by
 by_cases h:(0≤a∧a≤511)∧(0≤b∧b≤511)
 ·exact u_main a b h.1 h.2
 ·refine u_rest a b _ _ _ _ rfl rfl rfl rfl (u_z a) (u_z b) (u_y a) (u_y b) ?_
  rw[Bool.eq_false_iff]
  intro e
  simp only[Bool.and_eq_true,decide_eq_true_eq]at e
  exact h e
end Go.Mini

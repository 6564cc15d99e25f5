/- a certificate's law by that interpreter (part 28): what the program's functions answer, or plain laws of it; no conditions. -/
import Derived.Test.YtgiobgojobegfaaGreatDoorB27
import Derived.Test.YtgiobgojobegfaaGreatDoorB26
set_option linter.all false
namespace Go.Mini
open Go Go.Mini.Nm Go.Proofs.YtgiobgojobegfaaGreatDoor
set_option maxRecDepth 100000
set_option maxHeartbeats 80000000
def l5T:List T:=[cB 2 1,bx 1,VR.t (dnS []),VR.t (timeS 0),VR.t (timeS 0)]
def l5V:List MV:=[hU 1,cA 1,VR.v (dnS []),VR.v (timeS 0),VR.v (timeS 0)]
def Jg:MV:=.agg [.int .i64 0,.int .i64 16,.bool true,.nilsl,.fsl 5 [hU 0,VR.v (timeS 0),.agg [.int .i64 0,.int .i64 10,.bool false,.bs (aE 0),.nilsl]]]
def Jh (m:Nat):List MV:=l5V++((if m=0 then []else [.agg [.int .i64 0,.int .i64 16,.bool true,.nilsl,.sl 5 (List.replicate m Jg)]])++[.agg [.int .i64 2,.int .i64 0,.bool true,.nilsl,.fsl 5 [hU 0]]])
def kZ (m:Nat):List T:=l5T++((if m=0 then []else [.mk 0 16 true [] (List.replicate m eT)])++[.mk 2 0 true [] [cB 2 0]])
def lT (m:Nat):T:=.mk 0 16 true [] (kZ m)
def lW (m:Nat):T:=.mk 0 16 true [] [lT m,bx 1,fj []]
def BE (m:Nat):MV:=.agg [.int .i64 0,.int .i64 16,.bool true,.nilsl,.sl 5 (Jh m)]
def Il (m:Nat):MV:=.agg [.int .i64 0,.int .i64 16,.bool true,.nilsl,.fsl 5 [BE m,cA 1,bY []]]
def mC (n:Nat):MS:=dD 1 (bl (decide (n≤256)) (0,false))
theorem BF {v:MV} {t:T} (h:Wv true v t):∀n:Nat,Wl true (List.replicate n v) (List.replicate n t)
 | 0=>.nil
 |n+1=>.cons h (BF h n)
theorem I3:Wv true Jg eT:=.mk .nil (.fsl (.cons (jx 0) (.cons (nA 0) (.cons (.mk (.bs _) .nil) .nil))))
theorem JM (m:Nat):Wv true (BE m) (lT m):=by
 refine .mk .nil (.sl (jZ (.cons (jx 1) (.cons (ju 1) (.cons (qz []) (.cons (nA 0) (.cons (nA 0) .nil))))) (jZ ?_ (.cons (.mk .nil (.fsl (.cons (jx 0) .nil))) .nil))))
 split
 ·exact .nil
 ·exact .cons (.mk .nil (.sl (BF I3 m))) .nil
theorem I4 (m:Nat):Wv true (Il m) (lW m):=.mk .nil (.fsl (.cons (JM m) (.cons (ju _) (.cons (nB _) .nil))))
theorem Im:low eT:=by
 simp only[eT,low,bg,cB,and_true]
 exact⟨by decide,by decide,kR _,by decide⟩
theorem DX (m:Nat):low (lW m):=by
 have h5:bg l5T:=by
  simp only[l5T,bg,low,cB,and_true]
  exact⟨by decide,hZ _,nU _,kR _,kR _⟩
 have hk:bg (kZ m):=by
  refine fl h5 (fl ?_ (by simp[bg,low,cB]))
  split
  ·trivial
  ·simp only[bg,low,and_true];exact⟨by decide,o7 Im m⟩
 simp only[lW,lT,low,bg,fj,and_true]
 exact⟨by decide,⟨by decide,hk⟩,hZ _,by decide⟩
theorem Ji {m:Nat} (hn:m≤300):(wr 0 (lW m)).1=0∧sz (lW m)≤60000:=by
 have hv:(aP 2 l5T).1=0:=by kernel_rfl
 have hv2:szs l5T≤1000:=of_decide_eq_true kr
 have he:sz eT≤150:=of_decide_eq_true kr
 have hk:(aP 2 (kZ m)).1=0∧szs (kZ m)≤50000:=by
  have hm:m*sz eT≤300*150:=Nat.mul_le_mul hn he
  have ha:szs [T.mk 2 0 true [] [cB 2 0]]≤100:=of_decide_eq_true kr
  unfold kZ
  rw[eE,eE]
  split
  ·refine⟨dG hv (dG rfl kr),?_⟩
   simp only[szs]at ha ⊢
   omega
  ·refine⟨dG hv (dG (eF (fO (by omega) (ja kr m))) kr),?_⟩
   rw[szs,szs,sz,kX]
   simp only[List.length_nil]
   omega
 have h2:szs [bx 1,fj []]≤1000:=of_decide_eq_true kr
 constructor
 ·unfold lW lT
  refine fO (by omega) ?_
  refine dG (a:=[_]) (b:=[_,_]) (eF (fO (by omega) hk.1)) ?_
  kernel_rfl
 ·unfold lW lT
  rw[sz,szs,sz]
  simp only[List.length_nil]
  omega
theorem In (iss sig ent:MV) (fi:Fs iss) (fe:Fs ent) (hs:Rb sig []):CallH Q 280 [.agg [iss,.int .i64 0,.int .i64 0,.int .i64 0,ent,.int .i64 1,sig]] []=some (.tup [.int .i64 1,.bs []],[]):=by
 rw[aC Q (m:=m280) rfl]
 cases hs<;>(apply ae;intro rhs hrhs;simp(maxSteps:=4000000) (disch:=first|omega|exact aI (by(try simp only[bB.u,seval,cut,fi.a,fe.a]);kernel_rfl)|decide) only[bB.u,seval,cut,m280,ag,aj,fi.a,fe.a];all_goals(subst hrhs;rfl))
def Es (ent:MV) (n:Nat):Prop:=ent= .sl 3 (List.replicate n eV)∨ent= .nilsl∧n=0
theorem Es.fs {ent:MV} {n:Nat} (h:Es ent n):Fs ent:=by
 rcases h with rfl|⟨rfl,_⟩<;>exact⟨fun _=>rfl,rfl,rfl,rfl,rfl,fun _=>rfl,fun _=>rfl⟩
theorem I5 (a:Int) (b:Bool) (iss sig ent:MV) (n:Nat) (hn:n≤300) (hi:isDir iss []) (hs:Rb sig []) (he:Es ent n):
  CallH Q 281 [.agg [iss,.int .i64 0,.int .i64 0,.int .i64 0,ent,.int .i64 1,sig],.ptr 0 0] [.cells [.int .i64 a,.bool b]]=some (BE (min n 256),[some (.cells [.int .i64 (bl (decide (n≤256)) (a,b)).1,.bool (bl (decide (n≤256)) (a,b)).2])]):=by
 obtain⟨ct,tt,mt,wt,kt,qt,f1,f2⟩:=VR.form (timeS 0)
 obtain⟨cd,td,md,wd,kd,qd,f3,f4⟩:=VR.form (dnS [])
 have ht:∀a b,CallH Q 257 [.ptr 0 0,.int .i64 0] [.cells [.int .i64 a,.bool b]]=some (VR.v (timeS 0),[some (.cells [.int .i64 a,.bool b])]):=fun a b=>vU 0 a b
 have hd:∀a b,CallH Q 256 [.ptr 0 0,iss] [.cells [.int .i64 a,.bool b]]=some (VR.v (dnS []),[some (.cells [.int .i64 a,.bool b])]):=fun a b=>yZ iss [] hi nG a b
 have e:=fun sk hsv=>F8 a b iss sig ent n hn (bK hi) hs.fs he (min n 256) rfl sk hsv ct tt mt wt kt f1 f2 (by rw[←qt];exact ht) cd td md wd kd f3 f4 (by rw[←qd];exact hd)
 have e:=e (lK 1) (fun a b=>tj a b)
 rw[←qt,←qd]at e
 exact e
theorem tJ (n:Nat) (hn:n≤300) (iss sig ent:MV) (hi:isDir iss []) (hs:Rb sig []) (he:Es ent n):Call Q 34 [.iface 60 (.agg [iss,.int .i64 0,.int .i64 0,.int .i64 0,ent,.int .i64 1,sig])]=some (.tup [.bs (cm (mC n) (lW (min n 256))).2,.int .i64 (cm (mC n) (lW (min n 256))).1]):=by
 have fi:=bK hi
 have fg:=hs.fs
 have fe:=he.fs
 have e1:=In iss sig ent fi fe hs
 have e2:=fun a b=>I5 a b iss sig ent n hn hi hs he
 have e3:=jt 1
 have e4:=lJ (.bs []) [] (.bs _) (by simp)
 have hq:=Ji (m:=min n 256) (by omega)
 have e6:=rR (Il (min n 256)) (lW (min n 256)) (I4 _) (DX _) (by omega)
 unfold Il bY BE at e6
 unfold BE at e2
 unfold cA at e3 e6
 unfold mC
 generalize dD 1=ss at *
 generalize lK 1=sk at *
 generalize bl (decide (n≤256))=cs at *
 generalize Jh (min n 256)=ck at *
 generalize lW (min n 256)=wt at *
 rw[Call_fn Q (m:=m34) rfl rfl]
 apply ae;intro rhs hrhs
 simp(maxSteps:=4000000) (disch:=first|omega|exact aI (by(try simp only[bB.u,seval,cut,fi.a,fg.a,fe.a]);kernel_rfl)|decide) only[bB.u,seval,cut,m34,e1,e2,e3,e4,e6,bG,jA,ag,aj,fi.a,fg.a,fe.a]
 all_goals(subst hrhs;rfl)
theorem BG (n:Nat) (hn:n≤300) (iss sig ent:MV) (hi:isDir iss []) (hs:Rb sig []) (he:Es ent n):Call Q 22 [.agg [iss,.int .i64 0,.int .i64 0,.int .i64 0,ent,.int .i64 1,sig]]=some (.tup [.bs (cm (mC n) (lW (min n 256))).2,.int .i64 (cm (mC n) (lW (min n 256))).1]):=by
 have fi:=bK hi
 have fg:=hs.fs
 have fe:=he.fs
 have e:=tJ n hn iss sig ent hi hs he
 generalize cm (mC n) (lW (min n 256))=o at *
 rw[Call_fn Q (m:=m22) rfl rfl]
 apply ae;intro rhs hrhs
 simp(maxSteps:=4000000) (disch:=first|omega|exact aI (by(try simp only[bB.u,seval,cut,fi.a,fg.a,fe.a]);kernel_rfl)|decide) only[bB.u,seval,cut,m22,e,ag,aj,fi.a,fg.a,fe.a]
 all_goals(subst hrhs;rfl)
theorem Io (n:Nat):mC n=if n≤256 then(0,false)else(30,false):=by
 unfold mC
 by_cases h:n≤256
 ·rw[if_pos h,decide_eq_true h];show dD 1 (bl true (0,false))=(0,false);kernel_rfl
 ·rw[if_neg h,decide_eq_false h];show dD 1 (bl false (0,false))=(30,false);kernel_rfl
end Go.Mini

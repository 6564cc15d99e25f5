/- a certificate's law by that interpreter (part 11): what the program's functions answer, or plain laws of it; no conditions. -/
import Derived.Test.YtgiobgojobegfaaGreatDoorB08
import Derived.Test.YtgiobgojobegfaaGreatDoorB09
import Derived.Test.YtgiobgojobegfaaGreatDoorB10
set_option linter.all false
namespace Go.Mini
open Go Go.Mini.Nm Go.Proofs.YtgiobgojobegfaaGreatDoor
set_option maxRecDepth 100000
set_option maxHeartbeats 80000000
theorem Hx (c:Crt) (iss sub key alt per exc sig:MV) (hr:CrtR c iss sub key alt per exc sig) (hb:CrtB c) (a:Int) (b:Bool):CallH Q 259 [.ptr 0 0,hJ c iss sub key alt per exc sig] [.cells [.int .i64 a,.bool b]]=some (.sl 5 (fx c),[some (.cells [.int .i64 (d6 c (a,b)).1,.bool (d6 c (a,b)).2])]):=by
 obtain⟨serial,scheme,issuer,subject,from_,to,ks,keyb,ca,path,usage,galt,gper,gexc,sigb⟩:=c
 cases ca
 ·exact Fk _ _ _ _ _ _ _ _ _ _ _ _ _ _ _ _ _ _ _ _ _ hr hb a b
 ·by_cases hq:0≤path
  ·exact Fm _ _ _ _ _ _ _ _ _ _ _ _ _ _ _ _ _ _ _ _ _ hq hb.path hr hb a b
  ·exact Fl _ _ _ _ _ _ _ _ _ _ _ _ _ _ _ _ _ _ _ _ _ hq hr hb a b
theorem AX (k:List T):Fs (dm k):=by cases k<;>exact⟨fun _=>rfl,rfl,rfl,rfl,rfl,fun _=>rfl,fun _=>rfl⟩
theorem aV:Fs .nilsl:=⟨fun _=>rfl,rfl,rfl,rfl,rfl,fun _=>rfl,fun _=>rfl⟩
theorem VR.form (x:VR):∃c t m b k,VR.v x= .agg [.int .i64 c,.int .i64 t,.bool m,b,k]∧Fs b∧Fs k:=by
 cases x with
 |er e=>exact⟨_,_,_,_,_,rfl,aV,aV⟩
 |ok t=>
  cases t with
  |mk c t m b k=>exact⟨c,t,m,_,_,aX c t m b k,(by cases m<;>exact⟨fun _=>rfl,rfl,rfl,rfl,rfl,fun _=>rfl,fun _=>rfl⟩),AX k⟩
def ze (c:Crt):List MV:=[.agg [.int .i64 2,.int .i64 0,.bool true,.nilsl,.fsl 5 [hU 2]],hU c.serial,cA c.scheme,VR.v (dnS c.issuer),.agg [.int .i64 0,.int .i64 16,.bool true,.nilsl,.fsl 5 [VR.v (timeS c.from_),VR.v (timeS c.to)]],VR.v (dnS c.subject),.agg [.int .i64 0,.int .i64 16,.bool true,.nilsl,.fsl 5 [cA c.keyScheme,bY c.key]]]
def jY (c:Crt):MV:=if(de c).length=0 then .fsl 5 (ze c)else .sl 5 (ze c++[.agg [.int .i64 2,.int .i64 3,.bool true,.nilsl,.fsl 5 [.agg [.int .i64 0,.int .i64 16,.bool true,.nilsl,.sl 5 (fx c)]]]])
def nT (c:Crt):MV:=.agg [.int .i64 0,.int .i64 16,.bool true,.nilsl,jY c]
def jz (c:Crt) (s:MS):MS:=VR.s (timeS c.to) (VR.s (timeS c.from_) (VR.s (dnS c.issuer) (dD c.scheme (bl (decide (1≤c.serial)&&decide (c.serial≤4611686018427387903)) s))))
def iS (c:Crt) (s:MS):MS:=d6 c (dD c.keyScheme (VR.s (dnS c.subject) (jz c s)))
theorem jA (s:Int × Bool):(s.1,s.2)=s:=rfl
theorem Hy (a:Int) (b:Bool):CallH Q 255 [.ptr 0 0,.int .i64 2] [.cells [.int .i64 a,.bool b]]=some (hU 2,[some (.cells [.int .i64 a,.bool b])]):=lI 2 (by omega) a b
theorem Fn (c:Crt) (iss sub key alt per exc sig:MV) (hr:CrtR c iss sub key alt per exc sig) (hb:CrtB c) (a:Int) (b:Bool):CallH Q 252 [hJ c iss sub key alt per exc sig,.ptr 0 0] [.cells [.int .i64 a,.bool b]]=some (nT c,[some (.cells [.int .i64 (iS c (a,b)).1,.bool (iS c (a,b)).2])]):=by
 have fi:=bK hr.iss
 have fs:=bK hr.sub
 have fk:=hr.key.fs
 have fa:=hr.alt.fs
 have fp:=hr.per.fs
 have fe:=hr.exc.fs
 have fg:=hr.sig.fs
 have he:=Hx c iss sub key alt per exc sig hr hb
 have hn:=yY 2 c.serial 1 4611686018427387903 hb.serial
 have h2:=Hy
 have hs:=jt c.scheme
 have hi:=yZ iss c.issuer hr.iss hb.iss
 have ht1:=vU c.from_
 have ht2:=vU c.to
 have hd:=yZ sub c.subject hr.sub hb.sub
 have hk:=DD c.keyScheme key c.key hr.key (by have:=hb.key;omega)
 unfold nT jY ze iS jz hJ hU bY
 unfold hJ at he
 unfold hU at h2
 unfold bY at hk
 unfold cA at hs hk ⊢
 generalize hss1:dD c.scheme=ss1 at *
 generalize hss2:dD c.keyScheme=ss2 at *
 generalize hsk1:lK c.scheme=sk1 at *
 generalize hsk2:lK c.keyScheme=sk2 at *
 obtain⟨c1,t1,m1,b1,k1,q1,f1b,f1k⟩:=VR.form (dnS c.issuer)
 obtain⟨c2,t2,m2,b2,k2,q2,f2b,f2k⟩:=VR.form (timeS c.from_)
 obtain⟨c3,t3,m3,b3,k3,q3,f3b,f3k⟩:=VR.form (timeS c.to)
 obtain⟨c4,t4,m4,b4,k4,q4,f4b,f4k⟩:=VR.form (dnS c.subject)
 rw[q1]at hi ⊢
 rw[q2]at ht1 ⊢
 rw[q3]at ht2 ⊢
 rw[q4]at hd ⊢
 generalize VR.s (dnS c.issuer)=z1 at *
 generalize VR.s (timeS c.from_)=z2 at *
 generalize VR.s (timeS c.to)=z3 at *
 generalize VR.s (dnS c.subject)=z4 at *
 generalize d6 c=z5 at *
 have hl:(fx c).length=(de c).length:=by unfold fx;rw[List.length_map]
 generalize fx c=ev at *
 generalize c.serial=serial at *
 generalize c.scheme=scheme at *
 generalize c.from_=from_ at *
 generalize c.to=to at *
 generalize c.keyScheme=ks at *
 generalize c.ca=ca at *
 generalize c.path=path at *
 generalize c.usage=usage at *
 generalize c.key=keyb at *
 rw[aC Q (m:=m252) rfl]
 by_cases h0:(de c).length=0
 ·have hd0:decide (0<(ev.length:Int))=false:=by rw[decide_eq_false_iff_not];omega
  rw[if_pos h0]
  apply ae;intro rhs hrhs
  simp(maxSteps:=4000000) (disch:=first|omega|exact aI (by(try simp only[bB.u,seval,cut,fi.a,fs.a,fk.a,fa.a,fp.a,fe.a,fg.a,f1b.a,f1k.a,f2b.a,f2k.a,f3b.a,f3k.a,f4b.a,f4k.a]);kernel_rfl)|decide) only[bB.u,seval,cut,m252,he,hn,h2,hs,hi,ht1,ht2,hd,hk,bG,da,dM,hH,io,jA,ag,aj,hd0,fi.a,fs.a,fk.a,fa.a,fp.a,fe.a,fg.a,f1b.a,f1k.a,f2b.a,f2k.a,f3b.a,f3k.a,f4b.a,f4k.a]
  all_goals(subst hrhs;rfl)
 ·have hd0:decide (0<(ev.length:Int))=true:=by rw[decide_eq_true_eq];omega
  rw[if_neg h0]
  apply ae;intro rhs hrhs
  simp(maxSteps:=4000000) (disch:=first|omega|exact aI (by(try simp only[bB.u,seval,cut,fi.a,fs.a,fk.a,fa.a,fp.a,fe.a,fg.a,f1b.a,f1k.a,f2b.a,f2k.a,f3b.a,f3k.a,f4b.a,f4k.a]);kernel_rfl)|decide) only[bB.u,seval,cut,m252,he,hn,h2,hs,hi,ht1,ht2,hd,hk,bG,da,dM,hH,io,jA,ag,aj,hd0,fi.a,fs.a,fk.a,fa.a,fp.a,fe.a,fg.a,f1b.a,f1k.a,f2b.a,f2k.a,f3b.a,f3k.a,f4b.a,f4k.a]
  all_goals(subst hrhs;rfl)
structure Req where
 subject:Dn
 keyScheme:Int
 key:List UInt8
 alt:List Gn
 scheme:Int
 sig:List UInt8
structure ReqR (c:Req) (sub key alt sig:MV):Prop where
 sub:isDir sub c.subject
 key:Rb key c.key
 alt:Gs alt c.alt
 sig:Rb sig c.sig
structure ReqB (c:Req):Prop where
 sub:okLens c.subject
 key:c.key.length≤2^20
 alt:okG c.alt∧c.alt.length≤2^20
 sig:c.sig.length≤2^20
 ba:szs (gensT false c.alt)≤2^26
def DG (c:Req) (sub key alt sig:MV):MV:=.agg [sub,.int .i64 c.keyScheme,key,alt,.int .i64 c.scheme,sig]
def uk (c:Req):List MV:=[hU 0,VR.v (dnS c.subject),.agg [.int .i64 0,.int .i64 16,.bool true,.nilsl,.fsl 5 [cA c.keyScheme,bY c.key]]]
def oR (c:Req):MV:=if c.alt.length=0 then .fsl 5 (uk c)else .sl 5 (uk c++[.agg [.int .i64 2,.int .i64 0,.bool true,.nilsl,.sl 5 ((gensT false c.alt).map av)]])
def rY (c:Req):MV:=.agg [.int .i64 0,.int .i64 16,.bool true,.nilsl,oR c]
def ul (c:Req) (s:MS):MS:=dD c.keyScheme (VR.s (dnS c.subject) s)
def lO (c:Req) (s:MS):MS:=if c.alt.length=0 then ul c s else dd false c.alt (ul c s)
theorem Hz (a:Int) (b:Bool):CallH Q 255 [.ptr 0 0,.int .i64 0] [.cells [.int .i64 a,.bool b]]=some (hU 0,[some (.cells [.int .i64 a,.bool b])]):=lI 0 (by omega) a b
theorem zf (c:Req) (sub key alt sig:MV) (hr:ReqR c sub key alt sig) (hb:ReqB c) (a:Int) (b:Bool):CallH Q 283 [DG c sub key alt sig,.ptr 0 0] [.cells [.int .i64 a,.bool b]]=some (rY c,[some (.cells [.int .i64 (lO c (a,b)).1,.bool (lO c (a,b)).2])]):=by
 have fs:=bK hr.sub
 have fk:=hr.key.fs
 have fa:=hr.alt.fs
 have fg:=hr.sig.fs
 have la:∀st,lenV false alt st=some (.int .i64 c.alt.length):=hr.alt.len
 have h2:=Hz
 have hd:=yZ sub c.subject hr.sub hb.sub
 have hk:=DD c.keyScheme key c.key hr.key (by have:=hb.key;omega)
 have hga:=za alt c.alt hr.alt hb.alt false
 unfold rY oR uk lO ul DG hU bY
 unfold hU at h2
 unfold bY at hk
 unfold cA at hk ⊢
 generalize dD c.keyScheme=ss2 at *
 generalize lK c.keyScheme=sk2 at *
 obtain⟨c4,t4,m4,b4,k4,q4,f4b,f4k⟩:=VR.form (dnS c.subject)
 rw[q4]at hd ⊢
 generalize VR.s (dnS c.subject)=z4 at *
 have hl:((gensT false c.alt).map av).length=((gensT false c.alt).map av).length:=rfl
 generalize(gensT false c.alt).map av=ev at *
 rw[aC Q (m:=m283) rfl]
 by_cases h0:c.alt.length=0
 ·have hd0:decide (0<(c.alt.length:Int))=false:=by rw[decide_eq_false_iff_not];omega
  rw[if_pos h0,if_pos h0]
  apply ae;intro rhs hrhs
  simp(maxSteps:=4000000) (disch:=first|omega|exact aI (by(try simp only[bB.u,seval,cut,fs.a,fk.a,fa.a,fg.a,f4b.a,f4k.a]);kernel_rfl)|decide) only[bB.u,seval,cut,m283,h2,hd,hk,hga,la,bG,da,dM,hH,io,jA,ag,aj,hd0,fs.a,fk.a,fa.a,fg.a,f4b.a,f4k.a]
  all_goals(subst hrhs;rfl)
 ·have hd0:decide (0<(c.alt.length:Int))=true:=by rw[decide_eq_true_eq];omega
  rw[if_neg h0,if_neg h0]
  apply ae;intro rhs hrhs
  simp(maxSteps:=4000000) (disch:=first|omega|exact aI (by(try simp only[bB.u,seval,cut,fs.a,fk.a,fa.a,fg.a,f4b.a,f4k.a]);kernel_rfl)|decide) only[bB.u,seval,cut,m283,h2,hd,hk,hga,la,bG,da,dM,hH,io,jA,ag,aj,hd0,fs.a,fk.a,fa.a,fg.a,f4b.a,f4k.a]
  all_goals(subst hrhs;rfl)
theorem IK (c:Crt) (iss sub key alt per exc sig:MV) (hr:CrtR c iss sub key alt per exc sig) (hb:CrtB c):CallH Q 251 [hJ c iss sub key alt per exc sig] []=some (.tup [.int .i64 c.scheme,.bs c.sig],[]):=by
 have fi:=bK hr.iss
 have fs:=bK hr.sub
 have fk:=hr.key.fs
 have fa:=hr.alt.fs
 have fp:=hr.per.fs
 have fe:=hr.exc.fs
 unfold hJ
 rw[aC Q (m:=m251) rfl]
 have hs:=hr.sig
 generalize c.sig=sg at hs ⊢
 cases hs<;>(apply ae;intro rhs hrhs;simp(maxSteps:=4000000) (disch:=first|omega|exact aI (by(try simp only[bB.u,seval,cut,fi.a,fs.a,fk.a,fa.a,fp.a,fe.a]);kernel_rfl)|decide) only[bB.u,seval,cut,m251,ag,aj,fi.a,fs.a,fk.a,fa.a,fp.a,fe.a];all_goals(subst hrhs;rfl))
end Go.Mini
namespace Go.Mini
open Go Go.Mini.Nm Go.Proofs.YtgiobgojobegfaaGreatDoor
set_option maxRecDepth 100000
set_option maxHeartbeats 4000000
theorem qz (d:Dn):Wv true (VR.v (dnS d)) (VR.t (dnS d)):=by
 cases h:dnS d with
 |er e=>exact .mk .nil .nil
 |ok t=>exact jw true t (nS h).2
theorem nA (t:Int):Wv true (VR.v (timeS t)) (VR.t (timeS t)):=by
 cases h:timeS t with
 |er e=>exact .mk .nil .nil
 |ok x=>
  obtain⟨tg,bs,rfl⟩:=pZ h
  exact jw true _ (by simp[nrm,bU])
theorem Fo (c:Crt):Wl true (fx c) (b9 c):=by
 unfold fx b9
 induction de c with
 |nil=>exact .nil
 |cons x l ih=>exact .cons (Hl _ _ _) ih
theorem nB (b:List UInt8):Wv true (bY b) (fj b):=.mk (.bs _) .nil
theorem jZ {f:Bool} {l l':List MV} {ts ts':List T} (h:Wl f l ts) (h':Wl f l' ts'):Wl f (l++l') (ts++ts'):=by
 induction ts generalizing l with
 |nil=>cases h;exact h'
 |cons t ts ih=>cases h with|cons a b=>exact .cons a (ih b)
def eq (c:Crt):List T:=[.mk 2 0 true [] [cB 2 2],cB 2 c.serial,bx c.scheme,VR.t (dnS c.issuer),.mk 0 16 true [] [VR.t (timeS c.from_),VR.t (timeS c.to)],VR.t (dnS c.subject),.mk 0 16 true [] [bx c.keyScheme,fj c.key]]
def cF (c:Crt):List T:=if(de c).length=0 then eq c else eq c++[.mk 2 3 true [] [.mk 0 16 true [] (b9 c)]]
def fQ (c:Crt):T:=.mk 0 16 true [] (cF c)
theorem AY (c:Crt):Wl true (ze c) (eq c):=
 .cons (.mk .nil (.fsl (.cons (jx 2) .nil))) (.cons (jx _) (.cons (ju _) (.cons (qz _) (.cons (.mk .nil (.fsl (.cons (nA _) (.cons (nA _) .nil)))) (.cons (qz _) (.cons (.mk .nil (.fsl (.cons (ju _) (.cons (nB _) .nil)))) .nil))))))
theorem Fp (c:Crt):Wv true (nT c) (fQ c):=by
 unfold nT fQ jY cF
 refine .mk .nil ?_
 split
 ·exact .fsl (AY c)
 ·exact .sl (jZ (AY c) (.cons (.mk .nil (.fsl (.cons (.mk .nil (.sl (Fo c))) .nil))) .nil))
def v6 (c:Crt):MV:=.agg [.int .i64 0,.int .i64 16,.bool true,.nilsl,.fsl 5 [nT c,cA c.scheme,bY c.sig]]
def bc (c:Crt):T:=.mk 0 16 true [] [fQ c,bx c.scheme,fj c.sig]
theorem CS (c:Crt):Wv true (v6 c) (bc c):=.mk .nil (.fsl (.cons (Fp c) (.cons (ju _) (.cons (nB _) .nil))))
def dx (c:Crt):MS:=dD c.scheme (iS c (0,false))
end Go.Mini
namespace Go.Mini
open Go Go.Mini.Nm Go.Proofs.YtgiobgojobegfaaGreatDoor
set_option maxRecDepth 100000
set_option maxHeartbeats 80000000
theorem v7 (c:Crt) (iss sub key alt per exc sig:MV) (hr:CrtR c iss sub key alt per exc sig) (hb:CrtB c) (hl:low (bc c)) (hs:sz (bc c)≤2^30):Call Q 34 [.iface 27 (hJ c iss sub key alt per exc sig)]=some (.tup [.bs (cm (dx c) (bc c)).2,.int .i64 (cm (dx c) (bc c)).1]):=by
 have fi:=bK hr.iss
 have fs:=bK hr.sub
 have fk:=hr.key.fs
 have fa:=hr.alt.fs
 have fp:=hr.per.fs
 have fe:=hr.exc.fs
 have fg:=hr.sig.fs
 have fc:Fs (jY c):=by unfold jY;split<;>exact⟨fun _=>rfl,rfl,rfl,rfl,rfl,fun _=>rfl,fun _=>rfl⟩
 have e1:=IK c iss sub key alt per exc sig hr hb
 have e2:=Fn c iss sub key alt per exc sig hr hb
 have e3:=jt c.scheme
 have e4:=lJ (.bs c.sig) c.sig (.bs _) (by have:=hb.sig;omega)
 have e6:=rR (v6 c) (bc c) (CS c) hl hs
 unfold v6 bY at e6
 unfold nT at e2 e6
 unfold cA at e3 e6
 unfold dx
 generalize dD c.scheme=ss at *
 generalize lK c.scheme=sk at *
 generalize iS c=cs at *
 generalize jY c=ck at *
 generalize bc c=wt at *
 unfold hJ at *
 rw[Call_fn Q (m:=m34) rfl rfl]
 apply ae;intro rhs hrhs
 simp(maxSteps:=4000000) (disch:=first|omega|exact aI (by(try simp only[bB.u,seval,cut,fi.a,fs.a,fk.a,fa.a,fp.a,fe.a,fg.a,fc.a]);kernel_rfl)|decide) only[bB.u,seval,cut,m34,e1,e2,e3,e4,e6,bG,jA,ag,aj,fi.a,fs.a,fk.a,fa.a,fp.a,fe.a,fg.a,fc.a]
 all_goals(subst hrhs;rfl)
theorem CT (c:Crt) (iss sub key alt per exc sig:MV) (hr:CrtR c iss sub key alt per exc sig) (hb:CrtB c) (hl:low (bc c)) (hs:sz (bc c)≤2^30):Call Q 11 [hJ c iss sub key alt per exc sig]=some (.tup [.bs (cm (dx c) (bc c)).2,.int .i64 (cm (dx c) (bc c)).1]):=by
 have fi:=bK hr.iss
 have fs:=bK hr.sub
 have fk:=hr.key.fs
 have fa:=hr.alt.fs
 have fp:=hr.per.fs
 have fe:=hr.exc.fs
 have fg:=hr.sig.fs
 have fc:Fs (jY c):=by unfold jY;split<;>exact⟨fun _=>rfl,rfl,rfl,rfl,rfl,fun _=>rfl,fun _=>rfl⟩
 have e:=v7 c iss sub key alt per exc sig hr hb hl hs
 generalize cm (dx c) (bc c)=o at *
 unfold hJ at *
 rw[Call_fn Q (m:=m11) rfl rfl]
 apply ae;intro rhs hrhs
 simp(maxSteps:=4000000) (disch:=first|omega|exact aI (by(try simp only[bB.u,seval,cut,fi.a,fs.a,fk.a,fa.a,fp.a,fe.a,fg.a,fc.a]);kernel_rfl)|decide) only[bB.u,seval,cut,m11,e,ag,aj,fi.a,fs.a,fk.a,fa.a,fp.a,fe.a,fg.a,fc.a]
 all_goals(subst hrhs;rfl)
end Go.Mini
namespace Go.Mini
open Go Go.Mini.Nm Go.Proofs.YtgiobgojobegfaaGreatDoor
set_option maxRecDepth 100000
set_option maxHeartbeats 4000000
theorem Fq (o:List UInt8):low (ec o):=by simp[ec,low,bg]
theorem hZ (n:Int):low (bx n):=by
 unfold bx
 rw[low]
 refine⟨by decide,?_⟩
 split
 ·trivial
 ·exact⟨Fq _,trivial⟩
theorem nU (d:Dn):low (VR.t (dnS d)):=by
 cases h:dnS d with
 |er e=>simp[VR.t,vS,low,bg]
 |ok t=>exact(nS h).1
theorem kR (t:Int):low (VR.t (timeS t)):=by
 cases h:timeS t with
 |er e=>simp[VR.t,vS,low,bg]
 |ok x=>
  unfold timeS at h
  split at h
  ·cases h
  ·split at h<;>cases h<;>simp[VR.t,low,bg]
theorem Ft (o:List UInt8) (cr:Bool) (b:List UInt8):low (jv o cr b):=by
 cases cr<;>simp[jv,ec,low,bg]
theorem AZ (c:Crt):bg (b9 c):=by
 unfold b9
 induction de c with
 |nil=>trivial
 |cons x l ih=>exact⟨Ft _ _ _,ih⟩
theorem CU (c:Crt):low (fQ c):=by
 have h:bg (eq c):=by
  simp only[eq,bg,low,cB,fj,and_true]
  exact⟨by decide,by decide,hZ _,nU _,⟨by decide,kR _,kR _⟩,nU _,by decide,hZ _,by decide⟩
 unfold fQ cF
 rw[low]
 refine⟨by decide,?_⟩
 split
 ·exact h
 ·exact fl h (by simp only[bg,low,and_true];exact⟨by decide,by decide,AZ c⟩)
theorem nC (c:Crt):low (bc c):=by
 simp only[bc,low,bg,fj,and_true]
 exact⟨by decide,CU c,hZ _,by decide⟩
theorem CW (n d:Int):(Nm.part n d).length≤1:=by unfold Nm.part;split<;>simp
theorem v_ (n:Int):∀ds:List Int,(bj n ds).length≤ds.length+1
 | []=>by simp[bj]
 |d::r=>by
  have:=v_ n r
  have:=CW n d
  simp only[bj,List.length_append,List.length_cons]
  omega
theorem wh:∀l:List Int,(cH l).length≤20*l.length
 | []=>by simp[cH]
 |n::r=>by
  have h:=wh r
  have h2:=v_ n [34359738368,268435456,2097152,16384,128]
  simp only[List.length_cons,List.length_nil]at h2
  simp only[cH,enc,List.flatMap_cons,List.length_append,List.length_cons]at h ⊢
  omega
theorem tq:∀(ps:List (List UInt8)) (l:List Int),eo ps=some l→l.length=ps.length
 | [],l,h=>by simp only[eo,Option.some.injEq]at h;subst h;rfl
 |p::r,l,h=>by
  simp only[eo]at h
  split at h
  ·rename_i n l' h1 h2
   cases h
   simp[tq r l' h2]
  ·cases h
theorem CX {s out:List UInt8} (h:gH s=some out):out.length≤400:=by
 simp only[gH]at h
 split at h
 ·cases h
 ·rename_i h0
  split at h
  ·rename_i l hl
   have e:=tq _ _ hl
   unfold rK at h
   split at h
   ·rename_i n0 n1 r
    split at h
    ·cases h
    ·cases h
     have:=wh ((n1+40*n0)::r)
     simp only[List.length_cons]at this e
     omega
   ·cases h
  ·cases h
theorem A0:∀(d:Dn) (ks ks':List T),(∀a∈d,a.2.length<1000000)→aG jn ks d= .inl ks'→szs ks'≤szs ks+d.length*1000500
 | [],ks,ks',_,h=>by simp only[aG]at h;cases h;simp
 |a::r,ks,ks',hl,h=>by
  rw[aG]at h
  cases ho:gH a.1 with
  |none=>simp only[jn,ho]at h;cases h
  |some out=>
   simp only[jn,ho]at h
   have ih:=A0 r _ ks' (fun x hx=>hl x (List.mem_cons_of_mem _ hx)) h
   have h1:=CX ho
   have h2:=hl a (List.mem_cons_self ..)
   rw[eE]at ih
   simp only[szs,fV,sz,ec,iQ,List.length_nil,List.length_cons]at ih ⊢
   omega
theorem A1 (d:Dn) (hl:okLens d):sz (VR.t (dnS d))≤16*1000500+16:=by
 cases h:dnS d with
 |er e=>simp[VR.t,vS,sz,szs]
 |ok t=>
  unfold dnS at h
  split at h
  ·cases h
  ·split at h
   ·cases h
   ·rename_i h16 _ ks hf
    split at h
    ·cases h
    ·cases h
     have:=A0 d [] ks (fun a ha=>(hl.2 a ha).2) hf
     have h2:d.length*1000500≤16*1000500:=Nat.mul_le_mul_right _ (by omega)
     simp only[VR.t,sz,szs,List.length_nil]at this ⊢
     omega
theorem A2 (t:Int):sz (VR.t (timeS t))≤100:=by
 cases h:timeS t with
 |er e=>simp[VR.t,vS,sz,szs]
 |ok x=>
  unfold timeS at h
  split at h
  ·cases h
  ·split at h<;>cases h<;>simp[VR.t,sz,szs,nQ,two,four]
theorem wi (n:Int):sz (bx n)≤100:=by
 unfold bx
 split
 ·simp[sz,szs]
 ·simp only[sz,szs,ec,List.length_nil]
  have:(jr n).length≤30:=by unfold jr;repeat'(first|(simp;done)|split)
  omega
theorem A3 (t:T):(wrW t).2.length≤65536:=by
 by_cases h:(wrW t).1=0
 ·obtain⟨_,h2,h3⟩:=fK h
  rw[h2];exact h3
 ·unfold wrW at h ⊢
  split
  ·simp
  ·rename_i h1
   split
   ·simp
   ·rename_i h2
    rw[if_neg h1,if_neg h2]at h
    exact absurd rfl h
theorem wj (o:List UInt8) (cr:Bool) (b:List UInt8):sz (jv o cr b)≤o.length+b.length+65:=by
 cases cr<;>simp[jv,ec,sz,szs]<;>omega
theorem HA {l:List T} {k:Nat} (h:∀t∈l,sz t≤k):szs l≤l.length*k:=by
 induction l with
 |nil=>simp[szs]
 |cons t r ih=>
  have h1:=h t (List.mem_cons_self ..)
  have h2:=ih fun x hx=>h x (List.mem_cons_of_mem _ hx)
  rw[szs,List.length_cons,Nat.succ_mul]
  omega
theorem A4 (c:Crt):(de c).length≤4∧∀x∈de c,x.1.length=3∧x.2.2.length≤65536:=by
 unfold de eB eU eA eL
 constructor
 ·split<;>split<;>split<;>split<;>simp
 ·intro x hx
  simp only[List.mem_append]at hx
  rcases hx with hx|hx|hx|hx<;>split at hx<;>simp only[List.mem_singleton,List.not_mem_nil]at hx<;>subst hx<;>exact⟨rfl,A3 _⟩
theorem CY (c:Crt):szs (b9 c)≤4*66000:=by
 obtain⟨h1,h2⟩:=A4 c
 have h3:szs (b9 c)≤(b9 c).length*66000:=by
  refine HA fun t ht=>?_
  unfold b9 at ht
  rw[List.mem_map]at ht
  obtain⟨x,hx,rfl⟩:=ht
  obtain⟨a,b⟩:=h2 x hx
  have:=wj x.1 x.2.1 x.2.2
  omega
 have h4:(b9 c).length=(de c).length:=by unfold b9;rw[List.length_map]
 rw[h4]at h3
 exact Nat.le_trans h3 (Nat.mul_le_mul_right _ h1)
theorem Fu (c:Crt) (hb:CrtB c):sz (fQ c)≤2^27:=by
 have a1:=oO 2
 have a2:=oO c.serial
 have a3:=wi c.scheme
 have a4:=A1 c.issuer hb.iss
 have a5:=A2 c.from_
 have a6:=A2 c.to
 have a7:=A1 c.subject hb.sub
 have a8:=wi c.keyScheme
 have a9:=hb.key
 have a0:=CY c
 have h:szs (eq c)≤2^26:=by
  simp only[eq,szs,sz,cB,fj,List.length_nil,List.length_cons]
  omega
 unfold fQ cF
 rw[sz]
 split
 ·simp only[List.length_nil];omega
 ·rw[eE]
  simp only[szs,sz,List.length_nil]
  omega
theorem lP (c:Crt) (hb:CrtB c):sz (bc c)≤2^30:=by
 have a1:=Fu c hb
 have a2:=wi c.scheme
 have a3:=hb.sig
 simp only[bc,sz,szs,fj,List.length_nil,List.length_cons]
 omega
theorem oS (c:Crt) (iss sub key alt per exc sig:MV) (hr:CrtR c iss sub key alt per exc sig) (hb:CrtB c):Call Q 11 [hJ c iss sub key alt per exc sig]=some (.tup [.bs (cm (dx c) (bc c)).2,.int .i64 (cm (dx c) (bc c)).1]):=
 CT c iss sub key alt per exc sig hr hb (nC c) (lP c hb)
theorem HB {s:MS} {t:T} (h:(cm s t).1=0):s=(0,false)∧(wrW t).1=0∧(cm s t).2=(wrW t).2:=by
 obtain⟨a,b⟩:=s
 unfold cm at h ⊢
 by_cases h0:a=0
 ·subst h0
  cases b
  ·rw[if_neg (by simp),if_neg (by simp)]at h ⊢
   exact⟨rfl,h,rfl⟩
  ·rw[if_neg (by simp),if_pos rfl]at h
   exact absurd h (by decide)
 ·rw[if_pos (by simpa using h0)]at h
  exact absurd h h0
theorem jB {e:Int} (he:e≠0) (s:MS):(cJ e s).1≠0:=by
 unfold cJ;split
 ·exact he
 ·assumption
theorem oU {ok:Bool} {s:MS} (h:(bl ok s).1=0):ok=true∧bl ok s=s:=by
 unfold bl at h ⊢
 split
 ·exact⟨by assumption,rfl⟩
 ·rename_i hk
  rw[if_neg hk]at h
  exact absurd h (jB (by decide) s)
theorem rZ {n:Int} {s:MS} (h:(dD n s).1=0):(1≤n∧n≤9)∧dD n s=s:=by
 unfold dD at h ⊢
 split
 ·rename_i hn
  rw[if_pos hn]at h
  exact absurd h (jB (by decide) s)
 ·exact⟨by omega,rfl⟩
theorem A5 {n:Int} {s:MS} (h:(VR.s (timeS n) s).1=0):∃t,timeS n= .ok t∧VR.s (timeS n) s=s:=by
 cases hd:timeS n with
 |er e=>rw[hd]at h;exact absurd h (jB (vT hd) s)
 |ok t=>exact⟨t,rfl,rfl⟩
theorem HC {d:Dn} {e:Int} (h:dnS d= .er e):e≠0:=by
 unfold dnS at h
 split at h
 ·cases h;decide
 ·split at h
  ·cases h;decide
  ·split at h<;>cases h;decide
theorem A6 {d:Dn} {s:MS} (h:(VR.s (dnS d) s).1=0):∃t,dnS d= .ok t∧VR.s (dnS d) s=s:=by
 cases hd:dnS d with
 |er e=>rw[hd]at h;exact absurd h (jB (HC hd) s)
 |ok t=>exact⟨t,rfl,rfl⟩
theorem A7 (c:Crt) {s:MS} (h:(jz c s).1=0):(1≤c.serial∧c.serial≤4611686018427387903)∧(1≤c.scheme∧c.scheme≤9)∧(∃t,dnS c.issuer= .ok t)∧(∃t,timeS c.from_= .ok t)∧(∃t,timeS c.to= .ok t)∧jz c s=s:=by
 unfold jz at h ⊢
 obtain⟨t1,h1,e1⟩:=A5 h
 rw[e1]at h ⊢
 obtain⟨t2,h2,e2⟩:=A5 h
 rw[e2]at h ⊢
 obtain⟨t3,h3,e3⟩:=A6 h
 rw[e3]at h ⊢
 obtain⟨h4,e4⟩:=rZ h
 rw[e4]at h ⊢
 obtain⟨h5,e5⟩:=oU h
 rw[e5]
 simp only[Bool.and_eq_true,decide_eq_true_eq]at h5
 exact⟨h5,h4,⟨t3,h3⟩,⟨t2,h2⟩,⟨t1,h1⟩,rfl⟩
theorem qA (lim:Bool):∀(gs:List Gn) (ts:List T) (e:Int),aG (gG lim) ts gs= .inr e→e≠0
 | [],ts,e,h=>by simp only[aG]at h;cases h
 |g::r,ts,e,h=>by
  rw[aG]at h
  cases hg:genS g.1 g.2.1 g.2.2 lim with
  |er e'=>
   simp only[gG,hg]at h
   cases h
   exact rS hg
  |ok t=>
   simp only[gG,hg]at h
   exact qA lim r _ e h
theorem CZ {lim:Bool} {gs:List Gn} {s:MS} (h:(dd lim gs s).1=0):gs.length≤256∧aG (gG lim) [] gs= .inl (gensT lim gs)∧dd lim gs s=s:=by
 unfold dd gensT at *
 cases hf:aG (gG lim) [] gs with
 |inr e=>
  rw[hf]at h
  exact absurd h (jB (qA lim gs [] e hf) _)
 |inl ts=>
  rw[hf]at h
  obtain⟨a,b⟩:=oU h
  exact⟨by simpa using a,rfl,b⟩
theorem nV {t:T} {s:MS} (h:cX t s=(0,false)):s=(0,false)∧(wrW t).1≠54:=by
 obtain⟨a,b⟩:=s
 simp only[cX,Prod.mk.injEq,Bool.or_eq_false_iff]at h
 obtain⟨h1,h2,h3⟩:=h
 subst h1;subst h2
 exact⟨rfl,by simpa using h3⟩
def gOK (lim:Bool) (gs:List Gn):Prop:=gs.length≤256∧aG (gG lim) [] gs= .inl (gensT lim gs)
theorem nW (lim:Bool) {gs:List Gn} (h:gs.length=0):gOK lim gs:=by
 cases gs with
 |nil=>exact⟨by simp,by simp[gensT,aG]⟩
 |cons=>cases h
theorem tr {lim:Bool} {gs:List Gn} {s:MS} (h:dd lim gs s=(0,false)):s=(0,false)∧gOK lim gs:=by
 obtain⟨a,b,e⟩:=CZ (lim:=lim) (gs:=gs) (s:=s) (by rw[h])
 exact⟨by rw[←e,h],a,b⟩
theorem ye {gs:List Gn} {s:MS} (h:lN gs s=(0,false)):s=(0,false)∧gOK true gs:=by
 unfold lN at h
 split at h
 ·exact⟨h,nW true (by assumption)⟩
 ·exact tr h
theorem C0 {c:Crt} {s:MS} (h:jX c s=(0,false)):s=(0,false)∧gOK true c.permit∧gOK true c.exclude∧(c.permit.length+c.exclude.length≠0→(wrW (limT c.permit c.exclude)).1≠54):=by
 unfold jX at h
 split at h
 ·rename_i h0
  exact⟨h,nW true (by omega),nW true (by omega),fun hn=>absurd h0 hn⟩
 ·obtain⟨h1,h2⟩:=nV h
  obtain⟨h3,h4⟩:=ye h1
  obtain⟨h5,h6⟩:=ye h3
  exact⟨h5,h6,h4,fun _=>h2⟩
theorem C1 {c:Crt} {s:MS} (h:jW c s=(0,false)):s=(0,false)∧gOK false c.alt∧(c.alt.length≠0→(wrW (altT c.alt)).1≠54):=by
 unfold jW at h
 split at h
 ·rename_i h0
  exact⟨h,nW false h0,fun hn=>absurd h0 hn⟩
 ·obtain⟨h1,h2⟩:=nV h
  obtain⟨h3,h4⟩:=tr h1
  exact⟨h3,h4,fun _=>h2⟩
theorem gk {ok:Bool} {s:MS} (h:bl ok s=(0,false)):ok=true∧s=(0,false):=by
 obtain⟨a,b⟩:=oU (ok:=ok) (s:=s) (by rw[h])
 exact⟨a,by rw[←b,h]⟩
theorem C2 {c:Crt} {s:MS} (h:lM c s=(0,false)):s=(0,false)∧(0≤c.usage∧c.usage≤511)∧(c.usage≠0→(wrW (flT c.usage)).1≠54):=by
 unfold lM at h
 split at h
 ·rename_i h0
  obtain⟨a,b⟩:=gk h
  exact⟨b,by simpa using a,fun hn=>absurd h0 hn⟩
 ·obtain⟨h1,h2⟩:=nV h
  obtain⟨a,b⟩:=gk h1
  exact⟨b,by simpa using a,fun _=>h2⟩
theorem C3 {c:Crt} {s:MS} (h:lL c s=(0,false)):s=(0,false)∧pathOK c=true∧(c.ca=true→(wrW (basicT c.path)).1≠54):=by
 unfold lL vV at h
 split at h
 ·obtain⟨h1,h2⟩:=nV h
  split at h1
  ·obtain⟨_,b⟩:=gk h1
   obtain⟨a,b⟩:=gk b
   exact⟨b,a,fun _=>h2⟩
  ·obtain⟨a,b⟩:=gk h1
   exact⟨b,a,fun _=>h2⟩
 ·rename_i h0
  obtain⟨a,b⟩:=gk h
  exact⟨b,a,fun hn=>absurd hn h0⟩
structure CrtOK (c:Crt):Prop where
 serial:1≤c.serial∧c.serial≤4611686018427387903
 scheme:1≤c.scheme∧c.scheme≤9
 keyScheme:1≤c.keyScheme∧c.keyScheme≤9
 issuer:∃t,dnS c.issuer= .ok t
 subject:∃t,dnS c.subject= .ok t
 from_:∃t,timeS c.from_= .ok t
 to:∃t,timeS c.to= .ok t
 path:pathOK c=true
 usage:0≤c.usage∧c.usage≤511
 alt:gOK false c.alt
 per:gOK true c.permit
 exc:gOK true c.exclude
 wb:c.ca=true→(wrW (basicT c.path)).1≠54
 wu:c.usage≠0→(wrW (flT c.usage)).1≠54
 wa:c.alt.length≠0→(wrW (altT c.alt)).1≠54
 wl:c.permit.length+c.exclude.length≠0→(wrW (limT c.permit c.exclude)).1≠54
theorem C4 {c:Crt} (h:iS c (0,false)=(0,false)) (hs:1≤c.scheme∧c.scheme≤9):CrtOK c:=by
 unfold iS d6 at h
 obtain⟨h,p1,p2,p3⟩:=C0 h
 obtain⟨h,a1,a2⟩:=C1 h
 obtain⟨h,u1,u2⟩:=C2 h
 obtain⟨h,b1,b2⟩:=C3 h
 obtain⟨k1,e1⟩:=rZ (by rw[h])
 rw[e1]at h
 obtain⟨d1,e2⟩:=A6 (by rw[h])
 obtain⟨dt,e3⟩:=e2
 rw[e3]at h
 obtain⟨s1,s2,s3,s4,s5,_⟩:=A7 c (s:=(0,false)) (by rw[h])
 exact⟨s1,hs,k1,s3,⟨d1,dt⟩,s4,s5,b1,u1,a1,p1,p2,b2,u2,a2,p3⟩
theorem lQ {c:Crt} (h:(cm (dx c) (bc c)).1=0):CrtOK c∧(wrW (bc c)).1=0∧lG (cm (dx c) (bc c)).2= .ok (bc c):=by
 obtain⟨h1,h2,h3⟩:=HB h
 unfold dx at h1
 obtain⟨k,e⟩:=rZ (n:=c.scheme) (s:=iS c (0,false)) (by rw[h1])
 rw[e]at h1
 exact⟨C4 h1 k,h2,by rw[h3];exact jU _ (nC c) h2⟩
end Go.Mini

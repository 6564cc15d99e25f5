/- a certificate's law by that interpreter (part 10): what the program's functions answer, or plain laws of it; no conditions. -/
import Derived.Test.YtgiobgojobegfaaGreatDoorA07
import Derived.Test.YtgiobgojobegfaaGreatDoorA08
import Derived.Test.YtgiobgojobegfaaGreatDoorA09
set_option linter.all false
namespace Go.Mini
open Go Go.Mini.Nm Go.Proofs.YtgiobgojobegfaaGreatDoor
set_option maxRecDepth 100000
set_option maxHeartbeats 80000000
theorem h_exts (c:Crt) (iss sub key alt per exc sig:MV) (hr:CrtR c iss sub key alt per exc sig) (hb:CrtB c) (a:Int) (b:Bool):CallH Q 259 [.ptr 0 0,crtV c iss sub key alt per exc sig] [.cells [.int .i64 a,.bool b]]=some (.sl 5 (extsV c),[some (.cells [.int .i64 (extsS c (a,b)).1,.bool (extsS c (a,b)).2])]):=by
 obtain⟨serial,scheme,issuer,subject,from_,to,ks,keyb,ca,path,usage,galt,gper,gexc,sigb⟩:=c
 cases ca
 ·exact h_exts0 _ _ _ _ _ _ _ _ _ _ _ _ _ _ _ _ _ _ _ _ _ hr hb a b
 ·by_cases hq:0≤path
  ·exact h_exts2 _ _ _ _ _ _ _ _ _ _ _ _ _ _ _ _ _ _ _ _ _ hq hb.path hr hb a b
  ·exact h_exts1 _ _ _ _ _ _ _ _ _ _ _ _ _ _ _ _ _ _ _ _ _ hq hr hb a b
theorem mvK_fs (k:List T):Fs (mvK k):=by cases k<;>exact⟨fun _=>rfl,rfl,rfl,rfl,rfl,fun _=>rfl,fun _=>rfl⟩
theorem nil_fs:Fs .nilsl:=⟨fun _=>rfl,rfl,rfl,rfl,rfl,fun _=>rfl,fun _=>rfl⟩
theorem VR.form (x:VR):∃c t m b k,VR.v x= .agg [.int .i64 c,.int .i64 t,.bool m,b,k]∧Fs b∧Fs k:=by
 cases x with
 |er e=>exact⟨_,_,_,_,_,rfl,nil_fs,nil_fs⟩
 |ok t=>
  cases t with
  |mk c t m b k=>exact⟨c,t,m,_,_,mvT_eq c t m b k,(by cases m<;>exact⟨fun _=>rfl,rfl,rfl,rfl,rfl,fun _=>rfl,fun _=>rfl⟩),mvK_fs k⟩
def sevV (c:Crt):List MV:=[.agg [.int .i64 2,.int .i64 0,.bool true,.nilsl,.fsl 5 [numV 2]],numV c.serial,schV c.scheme,VR.v (dnS c.issuer),.agg [.int .i64 0,.int .i64 16,.bool true,.nilsl,.fsl 5 [VR.v (timeS c.from_),VR.v (timeS c.to)]],VR.v (dnS c.subject),.agg [.int .i64 0,.int .i64 16,.bool true,.nilsl,.fsl 5 [schV c.keyScheme,octV c.key]]]
def certK (c:Crt):MV:=if(extsL c).length=0 then .fsl 5 (sevV c)else .sl 5 (sevV c++[.agg [.int .i64 2,.int .i64 3,.bool true,.nilsl,.fsl 5 [.agg [.int .i64 0,.int .i64 16,.bool true,.nilsl,.sl 5 (extsV c)]]]])
def certV (c:Crt):MV:=.agg [.int .i64 0,.int .i64 16,.bool true,.nilsl,certK c]
def certS1 (c:Crt) (s:MS):MS:=VR.s (timeS c.to) (VR.s (timeS c.from_) (VR.s (dnS c.issuer) (schS c.scheme (needS (decide (1≤c.serial)&&decide (c.serial≤4611686018427387903)) s))))
def certS (c:Crt) (s:MS):MS:=extsS c (schS c.keyScheme (VR.s (dnS c.subject) (certS1 c s)))
theorem ms_eta (s:Int × Bool):(s.1,s.2)=s:=rfl
theorem h_int2 (a:Int) (b:Bool):CallH Q 255 [.ptr 0 0,.int .i64 2] [.cells [.int .i64 a,.bool b]]=some (numV 2,[some (.cells [.int .i64 a,.bool b])]):=h_int 2 (by omega) a b
theorem h_value (c:Crt) (iss sub key alt per exc sig:MV) (hr:CrtR c iss sub key alt per exc sig) (hb:CrtB c) (a:Int) (b:Bool):CallH Q 252 [crtV c iss sub key alt per exc sig,.ptr 0 0] [.cells [.int .i64 a,.bool b]]=some (certV c,[some (.cells [.int .i64 (certS c (a,b)).1,.bool (certS c (a,b)).2])]):=by
 have fi:=dir_fs hr.iss
 have fs:=dir_fs hr.sub
 have fk:=hr.key.fs
 have fa:=hr.alt.fs
 have fp:=hr.per.fs
 have fe:=hr.exc.fs
 have fg:=hr.sig.fs
 have he:=h_exts c iss sub key alt per exc sig hr hb
 have hn:=h_num 2 c.serial 1 4611686018427387903 hb.serial
 have h2:=h_int2
 have hs:=h_scheme c.scheme
 have hi:=h_dn iss c.issuer hr.iss hb.iss
 have ht1:=h_time c.from_
 have ht2:=h_time c.to
 have hd:=h_dn sub c.subject hr.sub hb.sub
 have hk:=h_key c.keyScheme key c.key hr.key (by have:=hb.key;omega)
 unfold certV certK sevV certS certS1 crtV numV octV
 unfold crtV at he
 unfold numV at h2
 unfold octV at hk
 unfold schV at hs hk ⊢
 generalize hss1:schS c.scheme=ss1 at *
 generalize hss2:schS c.keyScheme=ss2 at *
 generalize hsk1:schK c.scheme=sk1 at *
 generalize hsk2:schK c.keyScheme=sk2 at *
 obtain⟨c1,t1,m1,b1,k1,q1,f1b,f1k⟩:=VR.form (dnS c.issuer)
 obtain⟨c2,t2,m2,b2,k2,q2,f2b,f2k⟩:=VR.form (timeS c.from_)
 obtain⟨c3,t3,m3,b3,k3,q3,f3b,f3k⟩:=VR.form (timeS c.to)
 obtain⟨c4,t4,m4,b4,k4,q4,f4b,f4k⟩:=VR.form (dnS c.subject)
 rw[q1]at hi ⊢
 rw[q2]at ht1 ⊢
 rw[q3]at ht2 ⊢
 rw[q4]at hd ⊢
 generalize VR.s (dnS c.issuer)=z1 at *
 generalize VR.s (timeS c.from_)=z2 at *
 generalize VR.s (timeS c.to)=z3 at *
 generalize VR.s (dnS c.subject)=z4 at *
 generalize extsS c=z5 at *
 have hl:(extsV c).length=(extsL c).length:=by unfold extsV;rw[List.length_map]
 generalize extsV c=ev at *
 generalize c.serial=serial at *
 generalize c.scheme=scheme at *
 generalize c.from_=from_ at *
 generalize c.to=to at *
 generalize c.keyScheme=ks at *
 generalize c.ca=ca at *
 generalize c.path=path at *
 generalize c.usage=usage at *
 generalize c.key=keyb at *
 rw[CallH_fn Q (m:=m252) rfl]
 by_cases h0:(extsL c).length=0
 ·have hd0:decide (0<(ev.length:Int))=false:=by rw[decide_eq_false_iff_not];omega
  rw[if_pos h0]
  apply hide;intro rhs hrhs
  simp(maxSteps:=4000000) (disch:=first|omega|exact ok_of (by(try simp only[bA.u,seval,cut,if_pos,if_neg,fi.a,fs.a,fk.a,fa.a,fp.a,fe.a,fg.a,f1b.a,f1k.a,f2b.a,f2k.a,f3b.a,f3k.a,f4b.a,f4k.a]);kernel_rfl)|decide) only[bA.u,seval,cut,if_pos,if_neg,m252,he,hn,h2,hs,hi,ht1,ht2,hd,hk,c_seqF,c_seq,c_seq0,c_at,c_atF,ms_eta,Run_nil,reach,hd0,fi.a,fs.a,fk.a,fa.a,fp.a,fe.a,fg.a,f1b.a,f1k.a,f2b.a,f2k.a,f3b.a,f3k.a,f4b.a,f4k.a]
  all_goals(subst hrhs;rfl)
 ·have hd0:decide (0<(ev.length:Int))=true:=by rw[decide_eq_true_eq];omega
  rw[if_neg h0]
  apply hide;intro rhs hrhs
  simp(maxSteps:=4000000) (disch:=first|omega|exact ok_of (by(try simp only[bA.u,seval,cut,if_pos,if_neg,fi.a,fs.a,fk.a,fa.a,fp.a,fe.a,fg.a,f1b.a,f1k.a,f2b.a,f2k.a,f3b.a,f3k.a,f4b.a,f4k.a]);kernel_rfl)|decide) only[bA.u,seval,cut,if_pos,if_neg,m252,he,hn,h2,hs,hi,ht1,ht2,hd,hk,c_seqF,c_seq,c_seq0,c_at,c_atF,ms_eta,Run_nil,reach,hd0,fi.a,fs.a,fk.a,fa.a,fp.a,fe.a,fg.a,f1b.a,f1k.a,f2b.a,f2k.a,f3b.a,f3k.a,f4b.a,f4k.a]
  all_goals(subst hrhs;rfl)
structure Req where
 subject:Dn
 keyScheme:Int
 key:List UInt8
 alt:List Gn
 scheme:Int
 sig:List UInt8
structure ReqR (c:Req) (sub key alt sig:MV):Prop where
 sub:isDir sub c.subject
 key:Rb key c.key
 alt:Gs alt c.alt
 sig:Rb sig c.sig
structure ReqB (c:Req):Prop where
 sub:okLens c.subject
 key:c.key.length≤2^20
 alt:okG c.alt∧c.alt.length≤2^20
 sig:c.sig.length≤2^20
 ba:szs (gensT false c.alt)≤2^26
theorem h_sig (c:Crt) (iss sub key alt per exc sig:MV) (hr:CrtR c iss sub key alt per exc sig) (hb:CrtB c):CallH Q 251 [crtV c iss sub key alt per exc sig] []=some (.tup [.int .i64 c.scheme,.bs c.sig],[]):=by
 have fi:=dir_fs hr.iss
 have fs:=dir_fs hr.sub
 have fk:=hr.key.fs
 have fa:=hr.alt.fs
 have fp:=hr.per.fs
 have fe:=hr.exc.fs
 unfold crtV
 rw[CallH_fn Q (m:=m251) rfl]
 have hs:=hr.sig
 generalize c.sig=sg at hs ⊢
 cases hs<;>(apply hide;intro rhs hrhs;simp(maxSteps:=4000000) (disch:=first|omega|exact ok_of (by(try simp only[bA.u,seval,cut,if_pos,if_neg,fi.a,fs.a,fk.a,fa.a,fp.a,fe.a]);kernel_rfl)|decide) only[bA.u,seval,cut,if_pos,if_neg,m251,Run_nil,reach,fi.a,fs.a,fk.a,fa.a,fp.a,fe.a];all_goals(subst hrhs;rfl))
end Go.Mini
namespace Go.Mini
open Go Go.Mini.Nm Go.Proofs.YtgiobgojobegfaaGreatDoor
set_option maxRecDepth 100000
set_option maxHeartbeats 4000000
theorem Wv_VRd (d:Dn):Wv true (VR.v (dnS d)) (VR.t (dnS d)):=by
 cases h:dnS d with
 |er e=>exact .mk .nil .nil
 |ok t=>exact Wv_mvT true t (dnS_fit h).2
theorem Wv_VRt (t:Int):Wv true (VR.v (timeS t)) (VR.t (timeS t)):=by
 cases h:timeS t with
 |er e=>exact .mk .nil .nil
 |ok x=>
  obtain⟨tg,bs,rfl⟩:=timeS_form h
  exact Wv_mvT true _ (by simp[nrm,nrms])
theorem Wl_exts (c:Crt):Wl true (extsV c) (extsT c):=by
 unfold extsV extsT
 induction extsL c with
 |nil=>exact .nil
 |cons x l ih=>exact .cons (Rv_ext _ _ _) ih
theorem Wv_oct (b:List UInt8):Wv true (octV b) (octT b):=.mk (.bs _) .nil
theorem Wl_append {f:Bool} {l l':List MV} {ts ts':List T} (h:Wl f l ts) (h':Wl f l' ts'):Wl f (l++l') (ts++ts'):=by
 induction ts generalizing l with
 |nil=>cases h;exact h'
 |cons t ts ih=>cases h with|cons a b=>exact .cons a (ih b)
def sevT (c:Crt):List T:=[.mk 2 0 true [] [numT 2 2],numT 2 c.serial,schT c.scheme,VR.t (dnS c.issuer),.mk 0 16 true [] [VR.t (timeS c.from_),VR.t (timeS c.to)],VR.t (dnS c.subject),.mk 0 16 true [] [schT c.keyScheme,octT c.key]]
def certKT (c:Crt):List T:=if(extsL c).length=0 then sevT c else sevT c++[.mk 2 3 true [] [.mk 0 16 true [] (extsT c)]]
def certT (c:Crt):T:=.mk 0 16 true [] (certKT c)
theorem Wl_sev (c:Crt):Wl true (sevV c) (sevT c):=
 .cons (.mk .nil (.fsl (.cons (Wv_num 2) .nil))) (.cons (Wv_num _) (.cons (Rv_sch _) (.cons (Wv_VRd _) (.cons (.mk .nil (.fsl (.cons (Wv_VRt _) (.cons (Wv_VRt _) .nil)))) (.cons (Wv_VRd _) (.cons (.mk .nil (.fsl (.cons (Rv_sch _) (.cons (Wv_oct _) .nil)))) .nil))))))
theorem Wv_cert (c:Crt):Wv true (certV c) (certT c):=by
 unfold certV certT certK certKT
 refine .mk .nil ?_
 split
 ·exact .fsl (Wl_sev c)
 ·exact .sl (Wl_append (Wl_sev c) (.cons (.mk .nil (.fsl (.cons (.mk .nil (.sl (Wl_exts c))) .nil))) .nil))
def wholeV (c:Crt):MV:=.agg [.int .i64 0,.int .i64 16,.bool true,.nilsl,.fsl 5 [certV c,schV c.scheme,octV c.sig]]
def wholeT (c:Crt):T:=.mk 0 16 true [] [certT c,schT c.scheme,octT c.sig]
theorem Wv_whole (c:Crt):Wv true (wholeV c) (wholeT c):=.mk .nil (.fsl (.cons (Wv_cert c) (.cons (Rv_sch _) (.cons (Wv_oct _) .nil))))
def oneS (c:Crt):MS:=schS c.scheme (certS c (0,false))
end Go.Mini
namespace Go.Mini
open Go Go.Mini.Nm Go.Proofs.YtgiobgojobegfaaGreatDoor
set_option maxRecDepth 100000
set_option maxHeartbeats 80000000
theorem c_encode (c:Crt) (iss sub key alt per exc sig:MV) (hr:CrtR c iss sub key alt per exc sig) (hb:CrtB c) (hl:low (wholeT c)) (hs:sz (wholeT c)≤2^30):Call Q 34 [.iface 27 (crtV c iss sub key alt per exc sig)]=some (.tup [.bs (wrS (oneS c) (wholeT c)).2,.int .i64 (wrS (oneS c) (wholeT c)).1]):=by
 have fi:=dir_fs hr.iss
 have fs:=dir_fs hr.sub
 have fk:=hr.key.fs
 have fa:=hr.alt.fs
 have fp:=hr.per.fs
 have fe:=hr.exc.fs
 have fg:=hr.sig.fs
 have fc:Fs (certK c):=by unfold certK;split<;>exact⟨fun _=>rfl,rfl,rfl,rfl,rfl,fun _=>rfl,fun _=>rfl⟩
 have e1:=h_sig c iss sub key alt per exc sig hr hb
 have e2:=h_value c iss sub key alt per exc sig hr hb
 have e3:=h_scheme c.scheme
 have e4:=c_octets (.bs c.sig) c.sig (.bs _) (by have:=hb.sig;omega)
 have e6:=h_write (wholeV c) (wholeT c) (Wv_whole c) hl hs
 unfold wholeV octV at e6
 unfold certV at e2 e6
 unfold schV at e3 e6
 unfold oneS
 generalize schS c.scheme=ss at *
 generalize schK c.scheme=sk at *
 generalize certS c=cs at *
 generalize certK c=ck at *
 generalize wholeT c=wt at *
 unfold crtV at *
 rw[Call_fn Q (m:=m34) rfl rfl]
 apply hide;intro rhs hrhs
 simp(maxSteps:=4000000) (disch:=first|omega|exact ok_of (by(try simp only[bA.u,seval,cut,if_pos,if_neg,fi.a,fs.a,fk.a,fa.a,fp.a,fe.a,fg.a,fc.a]);kernel_rfl)|decide) only[bA.u,seval,cut,if_pos,if_neg,m34,e1,e2,e3,e4,e6,c_seqF,ms_eta,Run_nil,reach,fi.a,fs.a,fk.a,fa.a,fp.a,fe.a,fg.a,fc.a]
 all_goals(subst hrhs;rfl)
theorem c_tbs (c:Crt) (iss sub key alt per exc sig:MV) (hr:CrtR c iss sub key alt per exc sig) (hb:CrtB c) (hl:low (certT c)) (hs:sz (certT c)≤2^30):Call Q 57 [.iface 27 (crtV c iss sub key alt per exc sig)]=some (.tup [.bs (wrS (certS c (0,false)) (certT c)).2,.int .i64 (wrS (certS c (0,false)) (certT c)).1]):=by
 have fi:=dir_fs hr.iss
 have fs:=dir_fs hr.sub
 have fk:=hr.key.fs
 have fa:=hr.alt.fs
 have fp:=hr.per.fs
 have fe:=hr.exc.fs
 have fg:=hr.sig.fs
 have fc:Fs (certK c):=by unfold certK;split<;>exact⟨fun _=>rfl,rfl,rfl,rfl,rfl,fun _=>rfl,fun _=>rfl⟩
 have e2:=h_value c iss sub key alt per exc sig hr hb
 have e6:=h_write (certV c) (certT c) (Wv_cert c) hl hs
 unfold certV at e2 e6
 generalize certS c=cs at *
 generalize certK c=ck at *
 generalize certT c=wt at *
 unfold crtV at *
 rw[Call_fn Q (m:=m57) rfl rfl]
 apply hide;intro rhs hrhs
 simp(maxSteps:=4000000) (disch:=first|omega|exact ok_of (by(try simp only[bA.u,seval,cut,if_pos,if_neg,fi.a,fs.a,fk.a,fa.a,fp.a,fe.a,fg.a,fc.a]);kernel_rfl)|decide) only[bA.u,seval,cut,if_pos,if_neg,m57,e2,e6,c_seqF,ms_eta,Run_nil,reach,fi.a,fs.a,fk.a,fa.a,fp.a,fe.a,fg.a,fc.a]
 all_goals(subst hrhs;rfl)
theorem c_Encode (c:Crt) (iss sub key alt per exc sig:MV) (hr:CrtR c iss sub key alt per exc sig) (hb:CrtB c) (hl:low (wholeT c)) (hs:sz (wholeT c)≤2^30):Call Q 11 [crtV c iss sub key alt per exc sig]=some (.tup [.bs (wrS (oneS c) (wholeT c)).2,.int .i64 (wrS (oneS c) (wholeT c)).1]):=by
 have fi:=dir_fs hr.iss
 have fs:=dir_fs hr.sub
 have fk:=hr.key.fs
 have fa:=hr.alt.fs
 have fp:=hr.per.fs
 have fe:=hr.exc.fs
 have fg:=hr.sig.fs
 have fc:Fs (certK c):=by unfold certK;split<;>exact⟨fun _=>rfl,rfl,rfl,rfl,rfl,fun _=>rfl,fun _=>rfl⟩
 have e:=c_encode c iss sub key alt per exc sig hr hb hl hs
 generalize wrS (oneS c) (wholeT c)=o at *
 unfold crtV at *
 rw[Call_fn Q (m:=m11) rfl rfl]
 apply hide;intro rhs hrhs
 simp(maxSteps:=4000000) (disch:=first|omega|exact ok_of (by(try simp only[bA.u,seval,cut,if_pos,if_neg,fi.a,fs.a,fk.a,fa.a,fp.a,fe.a,fg.a,fc.a]);kernel_rfl)|decide) only[bA.u,seval,cut,if_pos,if_neg,m11,e,Run_nil,reach,fi.a,fs.a,fk.a,fa.a,fp.a,fe.a,fg.a,fc.a]
 all_goals(subst hrhs;rfl)
theorem c_Tbs (c:Crt) (iss sub key alt per exc sig:MV) (hr:CrtR c iss sub key alt per exc sig) (hb:CrtB c) (hl:low (certT c)) (hs:sz (certT c)≤2^30):Call Q 19 [crtV c iss sub key alt per exc sig]=some (.tup [.bs (wrS (certS c (0,false)) (certT c)).2,.int .i64 (wrS (certS c (0,false)) (certT c)).1]):=by
 have fi:=dir_fs hr.iss
 have fs:=dir_fs hr.sub
 have fk:=hr.key.fs
 have fa:=hr.alt.fs
 have fp:=hr.per.fs
 have fe:=hr.exc.fs
 have fg:=hr.sig.fs
 have fc:Fs (certK c):=by unfold certK;split<;>exact⟨fun _=>rfl,rfl,rfl,rfl,rfl,fun _=>rfl,fun _=>rfl⟩
 have e:=c_tbs c iss sub key alt per exc sig hr hb hl hs
 generalize wrS (certS c (0,false)) (certT c)=o at *
 unfold crtV at *
 rw[Call_fn Q (m:=m19) rfl rfl]
 apply hide;intro rhs hrhs
 simp(maxSteps:=4000000) (disch:=first|omega|exact ok_of (by(try simp only[bA.u,seval,cut,if_pos,if_neg,fi.a,fs.a,fk.a,fa.a,fp.a,fe.a,fg.a,fc.a]);kernel_rfl)|decide) only[bA.u,seval,cut,if_pos,if_neg,m19,e,Run_nil,reach,fi.a,fs.a,fk.a,fa.a,fp.a,fe.a,fg.a,fc.a]
 all_goals(subst hrhs;rfl)
end Go.Mini
namespace Go.Mini
open Go Go.Mini.Nm Go.Proofs.YtgiobgojobegfaaGreatDoor
set_option maxRecDepth 100000
set_option maxHeartbeats 4000000
theorem low_oid (o:List UInt8):low (oidT o):=by simp[oidT,low,lows]
theorem low_sch (n:Int):low (schT n):=by
 unfold schT
 rw[low]
 refine⟨by decide,?_⟩
 split
 ·trivial
 ·exact⟨low_oid _,trivial⟩
theorem low_VRd (d:Dn):low (VR.t (dnS d)):=by
 cases h:dnS d with
 |er e=>simp[VR.t,nilT,low,lows]
 |ok t=>exact(dnS_fit h).1
theorem low_VRt (t:Int):low (VR.t (timeS t)):=by
 cases h:timeS t with
 |er e=>simp[VR.t,nilT,low,lows]
 |ok x=>
  unfold timeS at h
  split at h
  ·cases h
  ·split at h<;>cases h<;>simp[VR.t,low,lows]
theorem low_ext (o:List UInt8) (cr:Bool) (b:List UInt8):low (extT o cr b):=by
 cases cr<;>simp[extT,oidT,low,lows]
theorem lows_exts (c:Crt):lows (extsT c):=by
 unfold extsT
 induction extsL c with
 |nil=>trivial
 |cons x l ih=>exact⟨low_ext _ _ _,ih⟩
theorem low_cert (c:Crt):low (certT c):=by
 have h:lows (sevT c):=by
  simp only[sevT,lows,low,numT,octT,and_true]
  exact⟨by decide,by decide,low_sch _,low_VRd _,⟨by decide,low_VRt _,low_VRt _⟩,low_VRd _,by decide,low_sch _,by decide⟩
 unfold certT certKT
 rw[low]
 refine⟨by decide,?_⟩
 split
 ·exact h
 ·exact lows_app h (by simp only[lows,low,and_true];exact⟨by decide,by decide,lows_exts c⟩)
theorem low_whole (c:Crt):low (wholeT c):=by
 simp only[wholeT,low,lows,octT,and_true]
 exact⟨by decide,low_cert c,low_sch _,by decide⟩
theorem part_len (n d:Int):(Nm.part n d).length≤1:=by unfold Nm.part;split<;>simp
theorem encD_len (n:Int):∀ds:List Int,(encD n ds).length≤ds.length+1
 | []=>by simp[encD]
 |d::r=>by
  have:=encD_len n r
  have:=part_len n d
  simp only[encD,List.length_append,List.length_cons]
  omega
theorem encs_len:∀l:List Int,(encs l).length≤20*l.length
 | []=>by simp[encs]
 |n::r=>by
  have h:=encs_len r
  have h2:=encD_len n [34359738368,268435456,2097152,16384,128]
  simp only[List.length_cons,List.length_nil]at h2
  simp only[encs,enc,List.flatMap_cons,List.length_append,List.length_cons]at h ⊢
  omega
theorem numsP_len:∀(ps:List (List UInt8)) (l:List Int),numsP ps=some l→l.length=ps.length
 | [],l,h=>by simp only[numsP,Option.some.injEq]at h;subst h;rfl
 |p::r,l,h=>by
  simp only[numsP]at h
  split at h
  ·rename_i n l' h1 h2
   cases h
   simp[numsP_len r l' h2]
  ·cases h
theorem oidS_len {s out:List UInt8} (h:oidS s=some out):out.length≤400:=by
 simp only[oidS]at h
 split at h
 ·cases h
 ·rename_i h0
  split at h
  ·rename_i l hl
   have e:=numsP_len _ _ hl
   unfold oidN at h
   split at h
   ·rename_i n0 n1 r
    split at h
    ·cases h
    ·cases h
     have:=encs_len ((n1+40*n0)::r)
     simp only[List.length_cons]at this e
     omega
   ·cases h
  ·cases h
theorem gDn_sz:∀(d:Dn) (ks ks':List T),(∀a∈d,a.2.length<1000000)→foldE gDn ks d= .inl ks'→szs ks'≤szs ks+d.length*1000500
 | [],ks,ks',_,h=>by simp only[foldE]at h;cases h;simp
 |a::r,ks,ks',hl,h=>by
  rw[foldE]at h
  cases ho:oidS a.1 with
  |none=>simp only[gDn,ho]at h;cases h
  |some out=>
   simp only[gDn,ho]at h
   have ih:=gDn_sz r _ ks' (fun x hx=>hl x (List.mem_cons_of_mem _ hx)) h
   have h1:=oidS_len ho
   have h2:=hl a (List.mem_cons_self ..)
   rw[szs_app]at ih
   simp only[szs,kidT,sz,oidT,textT,List.length_nil,List.length_cons]at ih ⊢
   omega
theorem sz_VRd (d:Dn) (hl:okLens d):sz (VR.t (dnS d))≤16*1000500+16:=by
 cases h:dnS d with
 |er e=>simp[VR.t,nilT,sz,szs]
 |ok t=>
  unfold dnS at h
  split at h
  ·cases h
  ·split at h
   ·cases h
   ·rename_i h16 _ ks hf
    split at h
    ·cases h
    ·cases h
     have:=gDn_sz d [] ks (fun a ha=>(hl.2 a ha).2) hf
     have h2:d.length*1000500≤16*1000500:=Nat.mul_le_mul_right _ (by omega)
     simp only[VR.t,sz,szs,List.length_nil]at this ⊢
     omega
theorem sz_VRt (t:Int):sz (VR.t (timeS t))≤100:=by
 cases h:timeS t with
 |er e=>simp[VR.t,nilT,sz,szs]
 |ok x=>
  unfold timeS at h
  split at h
  ·cases h
  ·split at h<;>cases h<;>simp[VR.t,sz,szs,restB,two,four]
theorem sz_sch (n:Int):sz (schT n)≤100:=by
 unfold schT
 split
 ·simp[sz,szs]
 ·simp only[sz,szs,oidT,List.length_nil]
  have:(schB n).length≤30:=by unfold schB;repeat'(first|(simp;done)|split)
  omega
theorem wrW_short (t:T):(wrW t).2.length≤65536:=by
 by_cases h:(wrW t).1=0
 ·obtain⟨_,h2,h3⟩:=wrW_wr h
  rw[h2];exact h3
 ·unfold wrW at h ⊢
  split
  ·simp
  ·rename_i h1
   split
   ·simp
   ·rename_i h2
    rw[if_neg h1,if_neg h2]at h
    exact absurd rfl h
theorem sz_ext (o:List UInt8) (cr:Bool) (b:List UInt8):sz (extT o cr b)≤o.length+b.length+65:=by
 cases cr<;>simp[extT,oidT,sz,szs]<;>omega
theorem szs_le {l:List T} {k:Nat} (h:∀t∈l,sz t≤k):szs l≤l.length*k:=by
 induction l with
 |nil=>simp[szs]
 |cons t r ih=>
  have h1:=h t (List.mem_cons_self ..)
  have h2:=ih fun x hx=>h x (List.mem_cons_of_mem _ hx)
  rw[szs,List.length_cons,Nat.succ_mul]
  omega
theorem exts_four (c:Crt):(extsL c).length≤4∧∀x∈extsL c,x.1.length=3∧x.2.2.length≤65536:=by
 unfold extsL eB eU eA eL
 constructor
 ·split<;>split<;>split<;>split<;>simp
 ·intro x hx
  simp only[List.mem_append]at hx
  rcases hx with hx|hx|hx|hx<;>split at hx<;>simp only[List.mem_singleton,List.not_mem_nil]at hx<;>subst hx<;>exact⟨rfl,wrW_short _⟩
theorem szs_exts (c:Crt):szs (extsT c)≤4*66000:=by
 obtain⟨h1,h2⟩:=exts_four c
 have h3:szs (extsT c)≤(extsT c).length*66000:=by
  refine szs_le fun t ht=>?_
  unfold extsT at ht
  rw[List.mem_map]at ht
  obtain⟨x,hx,rfl⟩:=ht
  obtain⟨a,b⟩:=h2 x hx
  have:=sz_ext x.1 x.2.1 x.2.2
  omega
 have h4:(extsT c).length=(extsL c).length:=by unfold extsT;rw[List.length_map]
 rw[h4]at h3
 exact Nat.le_trans h3 (Nat.mul_le_mul_right _ h1)
theorem sz_cert (c:Crt) (hb:CrtB c):sz (certT c)≤2^27:=by
 have a1:=numB_len 2
 have a2:=numB_len c.serial
 have a3:=sz_sch c.scheme
 have a4:=sz_VRd c.issuer hb.iss
 have a5:=sz_VRt c.from_
 have a6:=sz_VRt c.to
 have a7:=sz_VRd c.subject hb.sub
 have a8:=sz_sch c.keyScheme
 have a9:=hb.key
 have a0:=szs_exts c
 have h:szs (sevT c)≤2^26:=by
  simp only[sevT,szs,sz,numT,octT,List.length_nil,List.length_cons]
  omega
 unfold certT certKT
 rw[sz]
 split
 ·simp only[List.length_nil];omega
 ·rw[szs_app]
  simp only[szs,sz,List.length_nil]
  omega
theorem sz_whole (c:Crt) (hb:CrtB c):sz (wholeT c)≤2^30:=by
 have a1:=sz_cert c hb
 have a2:=sz_sch c.scheme
 have a3:=hb.sig
 simp only[wholeT,sz,szs,octT,List.length_nil,List.length_cons]
 omega
theorem k_Encode (c:Crt) (iss sub key alt per exc sig:MV) (hr:CrtR c iss sub key alt per exc sig) (hb:CrtB c):Call Q 11 [crtV c iss sub key alt per exc sig]=some (.tup [.bs (wrS (oneS c) (wholeT c)).2,.int .i64 (wrS (oneS c) (wholeT c)).1]):=
 c_Encode c iss sub key alt per exc sig hr hb (low_whole c) (sz_whole c hb)
theorem k_Tbs (c:Crt) (iss sub key alt per exc sig:MV) (hr:CrtR c iss sub key alt per exc sig) (hb:CrtB c):Call Q 19 [crtV c iss sub key alt per exc sig]=some (.tup [.bs (wrS (certS c (0,false)) (certT c)).2,.int .i64 (wrS (certS c (0,false)) (certT c)).1]):=
 c_Tbs c iss sub key alt per exc sig hr hb (low_cert c) (Nat.le_trans (sz_cert c hb) (by decide))
theorem wrS_ok {s:MS} {t:T} (h:(wrS s t).1=0):s=(0,false)∧(wrW t).1=0∧(wrS s t).2=(wrW t).2:=by
 obtain⟨a,b⟩:=s
 unfold wrS at h ⊢
 by_cases h0:a=0
 ·subst h0
  cases b
  ·rw[if_neg (by simp),if_neg (by simp)]at h ⊢
   exact⟨rfl,h,rfl⟩
  ·rw[if_neg (by simp),if_pos rfl]at h
   exact absurd h (by decide)
 ·rw[if_pos (by simpa using h0)]at h
  exact absurd h h0
theorem failS_ne {e:Int} (he:e≠0) (s:MS):(failS e s).1≠0:=by
 unfold failS;split
 ·exact he
 ·assumption
theorem needS_of {ok:Bool} {s:MS} (h:(needS ok s).1=0):ok=true∧needS ok s=s:=by
 unfold needS at h ⊢
 split
 ·exact⟨by assumption,rfl⟩
 ·rename_i hk
  rw[if_neg hk]at h
  exact absurd h (failS_ne (by decide) s)
theorem schS_ok {n:Int} {s:MS} (h:(schS n s).1=0):(1≤n∧n≤9)∧schS n s=s:=by
 unfold schS at h ⊢
 split
 ·rename_i hn
  rw[if_pos hn]at h
  exact absurd h (failS_ne (by decide) s)
 ·exact⟨by omega,rfl⟩
theorem VRt_ok {n:Int} {s:MS} (h:(VR.s (timeS n) s).1=0):∃t,timeS n= .ok t∧VR.s (timeS n) s=s:=by
 cases hd:timeS n with
 |er e=>rw[hd]at h;exact absurd h (failS_ne (timeS_er hd) s)
 |ok t=>exact⟨t,rfl,rfl⟩
theorem dnS_er {d:Dn} {e:Int} (h:dnS d= .er e):e≠0:=by
 unfold dnS at h
 split at h
 ·cases h;decide
 ·split at h
  ·cases h;decide
  ·split at h<;>cases h;decide
theorem VRd_ok {d:Dn} {s:MS} (h:(VR.s (dnS d) s).1=0):∃t,dnS d= .ok t∧VR.s (dnS d) s=s:=by
 cases hd:dnS d with
 |er e=>rw[hd]at h;exact absurd h (failS_ne (dnS_er hd) s)
 |ok t=>exact⟨t,rfl,rfl⟩
theorem certS1_ok (c:Crt) {s:MS} (h:(certS1 c s).1=0):(1≤c.serial∧c.serial≤4611686018427387903)∧(1≤c.scheme∧c.scheme≤9)∧(∃t,dnS c.issuer= .ok t)∧(∃t,timeS c.from_= .ok t)∧(∃t,timeS c.to= .ok t)∧certS1 c s=s:=by
 unfold certS1 at h ⊢
 obtain⟨t1,h1,e1⟩:=VRt_ok h
 rw[e1]at h ⊢
 obtain⟨t2,h2,e2⟩:=VRt_ok h
 rw[e2]at h ⊢
 obtain⟨t3,h3,e3⟩:=VRd_ok h
 rw[e3]at h ⊢
 obtain⟨h4,e4⟩:=schS_ok h
 rw[e4]at h ⊢
 obtain⟨h5,e5⟩:=needS_of h
 rw[e5]
 simp only[Bool.and_eq_true,decide_eq_true_eq]at h5
 exact⟨h5,h4,⟨t3,h3⟩,⟨t2,h2⟩,⟨t1,h1⟩,rfl⟩
theorem gG_fold_er (lim:Bool):∀(gs:List Gn) (ts:List T) (e:Int),foldE (gG lim) ts gs= .inr e→e≠0
 | [],ts,e,h=>by simp only[foldE]at h;cases h
 |g::r,ts,e,h=>by
  rw[foldE]at h
  cases hg:genS g.1 g.2.1 g.2.2 lim with
  |er e'=>
   simp only[gG,hg]at h
   cases h
   exact genS_er hg
  |ok t=>
   simp only[gG,hg]at h
   exact gG_fold_er lim r _ e h
theorem gensS_ok {lim:Bool} {gs:List Gn} {s:MS} (h:(gensS lim gs s).1=0):gs.length≤256∧foldE (gG lim) [] gs= .inl (gensT lim gs)∧gensS lim gs s=s:=by
 unfold gensS gensT at *
 cases hf:foldE (gG lim) [] gs with
 |inr e=>
  rw[hf]at h
  exact absurd h (failS_ne (gG_fold_er lim gs [] e hf) _)
 |inl ts=>
  rw[hf]at h
  obtain⟨a,b⟩:=needS_of h
  exact⟨by simpa using a,rfl,b⟩
theorem extS_ok {t:T} {s:MS} (h:extS t s=(0,false)):s=(0,false)∧(wrW t).1≠54:=by
 obtain⟨a,b⟩:=s
 simp only[extS,Prod.mk.injEq,Bool.or_eq_false_iff]at h
 obtain⟨h1,h2,h3⟩:=h
 subst h1;subst h2
 exact⟨rfl,by simpa using h3⟩
def gOK (lim:Bool) (gs:List Gn):Prop:=gs.length≤256∧foldE (gG lim) [] gs= .inl (gensT lim gs)
theorem gOK_nil (lim:Bool) {gs:List Gn} (h:gs.length=0):gOK lim gs:=by
 cases gs with
 |nil=>exact⟨by simp,by simp[gensT,foldE]⟩
 |cons=>cases h
theorem gensS_ok' {lim:Bool} {gs:List Gn} {s:MS} (h:gensS lim gs s=(0,false)):s=(0,false)∧gOK lim gs:=by
 obtain⟨a,b,e⟩:=gensS_ok (lim:=lim) (gs:=gs) (s:=s) (by rw[h])
 exact⟨by rw[←e,h],a,b⟩
theorem limS_ok {gs:List Gn} {s:MS} (h:limS gs s=(0,false)):s=(0,false)∧gOK true gs:=by
 unfold limS at h
 split at h
 ·exact⟨h,gOK_nil true (by assumption)⟩
 ·exact gensS_ok' h
theorem exts4_ok {c:Crt} {s:MS} (h:exts4 c s=(0,false)):s=(0,false)∧gOK true c.permit∧gOK true c.exclude∧(c.permit.length+c.exclude.length≠0→(wrW (limT c.permit c.exclude)).1≠54):=by
 unfold exts4 at h
 split at h
 ·rename_i h0
  exact⟨h,gOK_nil true (by omega),gOK_nil true (by omega),fun hn=>absurd h0 hn⟩
 ·obtain⟨h1,h2⟩:=extS_ok h
  obtain⟨h3,h4⟩:=limS_ok h1
  obtain⟨h5,h6⟩:=limS_ok h3
  exact⟨h5,h6,h4,fun _=>h2⟩
theorem exts3_ok {c:Crt} {s:MS} (h:exts3 c s=(0,false)):s=(0,false)∧gOK false c.alt∧(c.alt.length≠0→(wrW (altT c.alt)).1≠54):=by
 unfold exts3 at h
 split at h
 ·rename_i h0
  exact⟨h,gOK_nil false h0,fun hn=>absurd h0 hn⟩
 ·obtain⟨h1,h2⟩:=extS_ok h
  obtain⟨h3,h4⟩:=gensS_ok' h1
  exact⟨h3,h4,fun _=>h2⟩
theorem needS_of' {ok:Bool} {s:MS} (h:needS ok s=(0,false)):ok=true∧s=(0,false):=by
 obtain⟨a,b⟩:=needS_of (ok:=ok) (s:=s) (by rw[h])
 exact⟨a,by rw[←b,h]⟩
theorem exts2_ok {c:Crt} {s:MS} (h:exts2 c s=(0,false)):s=(0,false)∧(0≤c.usage∧c.usage≤511)∧(c.usage≠0→(wrW (flT c.usage)).1≠54):=by
 unfold exts2 at h
 split at h
 ·rename_i h0
  obtain⟨a,b⟩:=needS_of' h
  exact⟨b,by simpa using a,fun hn=>absurd h0 hn⟩
 ·obtain⟨h1,h2⟩:=extS_ok h
  obtain⟨a,b⟩:=needS_of' h1
  exact⟨b,by simpa using a,fun _=>h2⟩
theorem exts1_ok {c:Crt} {s:MS} (h:exts1 c s=(0,false)):s=(0,false)∧pathOK c=true∧(c.ca=true→(wrW (basicT c.path)).1≠54):=by
 unfold exts1 extB at h
 split at h
 ·obtain⟨h1,h2⟩:=extS_ok h
  split at h1
  ·obtain⟨_,b⟩:=needS_of' h1
   obtain⟨a,b⟩:=needS_of' b
   exact⟨b,a,fun _=>h2⟩
  ·obtain⟨a,b⟩:=needS_of' h1
   exact⟨b,a,fun _=>h2⟩
 ·rename_i h0
  obtain⟨a,b⟩:=needS_of' h
  exact⟨b,a,fun hn=>absurd hn h0⟩
structure CrtOK (c:Crt):Prop where
 serial:1≤c.serial∧c.serial≤4611686018427387903
 scheme:1≤c.scheme∧c.scheme≤9
 keyScheme:1≤c.keyScheme∧c.keyScheme≤9
 issuer:∃t,dnS c.issuer= .ok t
 subject:∃t,dnS c.subject= .ok t
 from_:∃t,timeS c.from_= .ok t
 to:∃t,timeS c.to= .ok t
 path:pathOK c=true
 usage:0≤c.usage∧c.usage≤511
 alt:gOK false c.alt
 per:gOK true c.permit
 exc:gOK true c.exclude
 wb:c.ca=true→(wrW (basicT c.path)).1≠54
 wu:c.usage≠0→(wrW (flT c.usage)).1≠54
 wa:c.alt.length≠0→(wrW (altT c.alt)).1≠54
 wl:c.permit.length+c.exclude.length≠0→(wrW (limT c.permit c.exclude)).1≠54
theorem certS_ok {c:Crt} (h:certS c (0,false)=(0,false)) (hs:1≤c.scheme∧c.scheme≤9):CrtOK c:=by
 unfold certS extsS at h
 obtain⟨h,p1,p2,p3⟩:=exts4_ok h
 obtain⟨h,a1,a2⟩:=exts3_ok h
 obtain⟨h,u1,u2⟩:=exts2_ok h
 obtain⟨h,b1,b2⟩:=exts1_ok h
 obtain⟨k1,e1⟩:=schS_ok (by rw[h])
 rw[e1]at h
 obtain⟨d1,e2⟩:=VRd_ok (by rw[h])
 obtain⟨dt,e3⟩:=e2
 rw[e3]at h
 obtain⟨s1,s2,s3,s4,s5,_⟩:=certS1_ok c (s:=(0,false)) (by rw[h])
 exact⟨s1,hs,k1,s3,⟨d1,dt⟩,s4,s5,b1,u1,a1,p1,p2,b2,u2,a2,p3⟩
theorem wrote_ok {c:Crt} (h:(wrS (oneS c) (wholeT c)).1=0):CrtOK c∧(wrW (wholeT c)).1=0∧readS (wrS (oneS c) (wholeT c)).2= .ok (wholeT c):=by
 obtain⟨h1,h2,h3⟩:=wrS_ok h
 unfold oneS at h1
 obtain⟨k,e⟩:=schS_ok (n:=c.scheme) (s:=certS c (0,false)) (by rw[h1])
 rw[e]at h1
 exact⟨certS_ok h1 k,h2,by rw[h3];exact readS_wrW _ (low_whole c) h2⟩
end Go.Mini

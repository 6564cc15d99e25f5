/- a certificate's law by that interpreter (part 23): what the program's functions answer, or plain laws of it; no conditions. -/
import Derived.Test.YtgiobgojobegfaaGreatDoorA16
import Derived.Test.YtgiobgojobegfaaGreatDoorA17
import Derived.Test.YtgiobgojobegfaaGreatDoorA22
import Derived.Test.YtgiobgojobegfaaGreatDoorA18
set_option linter.all false
namespace Go.Mini
open Go Go.Mini.Nm Go.Proofs.YtgiobgojobegfaaGreatDoor
set_option maxRecDepth 100000
set_option maxHeartbeats 80000000
theorem back_big (c:Crt) (iss sub key alt per exc sig:MV) (hr:CrtR c iss sub key alt per exc sig) (hs:CrtS c) (hbig:10000<(c.key.length:Int)+c.sig.length∨5000<szS [c.issuer,c.subject] [c.alt,c.permit,c.exclude]):Call Q 6 [crtV c iss sub key alt per exc sig]=some (.bool true):=by
 obtain⟨serial,scheme,issuer,subject,from_,to,ks,keyb,ca,path,usage,galt,gper,gexc,sigb⟩:=c
 have fi:=dir_fs hr.iss
 have fs:=dir_fs hr.sub
 have fk:=hr.key.fs
 have fa:=hr.alt.fs
 have fp:=hr.per.fs
 have fe:=hr.exc.fs
 have fg:=hr.sig.fs
 have lk:∀st,lenV false key st=some (.int .i64 keyb.length):=by have h:=hr.key;simp only at h;cases h<;>exact fun _=>rfl
 have lg:∀st,lenV false sig st=some (.int .i64 sigb.length):=by have h:=hr.sig;simp only at h;cases h<;>exact fun _=>rfl
 have bk:keyb.length≤2^50:=hs.key
 have bg:sigb.length≤2^50:=hs.sig
 have hsz:=c_sizes3 [iss,sub] [issuer,subject] (.cons hr.iss (.cons hr.sub .nil)) (by simp) (by
  intro d hd
  simp only[List.mem_cons,List.not_mem_nil,or_false]at hd
  rcases hd with rfl|rfl
  ·exact hs.iss
  ·exact hs.sub) alt per exc galt gper gexc hr.alt hr.per hr.exc hs.alt hs.per hs.exc
 have hn:=c_anchor
 simp only at hbig
 unfold crtV
 rw[Call_fn Q (m:=m6) rfl rfl]
 by_cases h1:10000<(keyb.length:Int)+sigb.length
 ·have h1':decide (10000<(keyb.length:Int)+sigb.length)=true:=by simpa using h1
  apply hide;intro rhs hrhs
  simp(maxSteps:=4000000)(disch:=first|exact dz|fail)only[bA.u,seval,cut,if_pos,if_neg,m6,hn,lk,lg,h1',fi.a,fs.a,fk.a,fa.a,fp.a,fe.a,fg.a]
  repeat'((with_reducible first|refine sp ?_ ?_|fail)<;>intro hx<;>(try simp only[bI.u]at hx)<;>(first|exact xz|(try simp(maxSteps:=4000000)(disch:=first|exact dz|fail)only[bA.u,seval,cut,if_pos,if_neg,hx,m6,hn,lk,lg,h1',fi.a,fs.a,fk.a,fa.a,fp.a,fe.a,fg.a])))
  all_goals first|exact xz|(subst hrhs;rfl)
 ·have h1':decide (10000<(keyb.length:Int)+sigb.length)=false:=by simpa using h1
  have h2:=hbig.resolve_left h1
  have h2':decide (5000<szS [issuer,subject] [galt,gper,gexc])=true:=by simpa using h2
  apply hide;intro rhs hrhs
  simp(maxSteps:=4000000)(disch:=first|exact dz|fail)only[bA.u,seval,cut,if_pos,if_neg,m6,hn,lk,lg,h1',hsz,h2',fi.a,fs.a,fk.a,fa.a,fp.a,fe.a,fg.a]
  repeat'((with_reducible first|refine sp ?_ ?_|fail)<;>intro hx<;>(try simp only[bI.u]at hx)<;>(first|exact xz|(try simp(maxSteps:=4000000)(disch:=first|exact dz|fail)only[bA.u,seval,cut,if_pos,if_neg,hx,m6,hn,lk,lg,h1',hsz,h2',fi.a,fs.a,fk.a,fa.a,fp.a,fe.a,fg.a])))
  all_goals first|exact xz|(subst hrhs;rfl)
theorem back_fail (c:Crt) (iss sub key alt per exc sig:MV) (hr:CrtR c iss sub key alt per exc sig) (hs:CrtS c) (g1:¬ 10000<(c.key.length:Int)+c.sig.length) (g2:¬ 5000<szS [c.issuer,c.subject] [c.alt,c.permit,c.exclude]) (x1:Int) (hx1:x1≠0) (e1:Call Q 11 [crtV c iss sub key alt per exc sig]=some (.tup [.bs [],.int .i64 x1])):Call Q 6 [crtV c iss sub key alt per exc sig]=some (.bool true):=by
 obtain⟨serial,scheme,issuer,subject,from_,to,ks,keyb,ca,path,usage,galt,gper,gexc,sigb⟩:=c
 have fi:=dir_fs hr.iss
 have fs:=dir_fs hr.sub
 have fk:=hr.key.fs
 have fa:=hr.alt.fs
 have fp:=hr.per.fs
 have fe:=hr.exc.fs
 have fg:=hr.sig.fs
 have lk:∀st,lenV false key st=some (.int .i64 keyb.length):=by have h:=hr.key;simp only at h;cases h<;>exact fun _=>rfl
 have lg:∀st,lenV false sig st=some (.int .i64 sigb.length):=by have h:=hr.sig;simp only at h;cases h<;>exact fun _=>rfl
 have bk:keyb.length≤2^50:=hs.key
 have bg:sigb.length≤2^50:=hs.sig
 have hsz:=c_sizes3 [iss,sub] [issuer,subject] (.cons hr.iss (.cons hr.sub .nil)) (by simp) (by
  intro d hd
  simp only[List.mem_cons,List.not_mem_nil,or_false]at hd
  rcases hd with rfl|rfl
  ·exact hs.iss
  ·exact hs.sub) alt per exc galt gper gexc hr.alt hr.per hr.exc hs.alt hs.per hs.exc
 have hn:=c_anchor
 simp only at g1 g2
 have h1':decide (10000<(keyb.length:Int)+sigb.length)=false:=by simpa using g1
 have h2':decide (5000<szS [issuer,subject] [galt,gper,gexc])=false:=by simpa using g2
 have z1:(x1==0)=false:=by simpa using hx1
 unfold crtV at *
 simp only at e1
 rw[Call_fn Q (m:=m6) rfl rfl]
 apply hide;intro rhs hrhs
 simp(maxSteps:=4000000)(disch:=first|exact dz|fail)only[bA.u,seval,cut,if_pos,if_neg,m6,hn,lk,lg,h1',hsz,h2',e1,z1,fi.a,fs.a,fk.a,fa.a,fp.a,fe.a,fg.a]
 repeat'((with_reducible first|refine sp ?_ ?_|fail)<;>intro hx<;>(try simp only[bI.u]at hx)<;>(first|exact xz|(try simp(maxSteps:=4000000)(disch:=first|exact dz|fail)only[bA.u,seval,cut,if_pos,if_neg,hx,m6,hn,lk,lg,h1',hsz,h2',e1,z1,fi.a,fs.a,fk.a,fa.a,fp.a,fe.a,fg.a])))
 all_goals first|exact xz|(subst hrhs;rfl)
theorem same_dn {w:MV} {d:Dn} (h:isDir w d) (hl:d.length<1000000):Call Q 20 [.sl 2 (attrs d),w]=some (.bool true):=by
 rcases h with rfl|⟨rfl,rfl⟩
 ·rw[c24 d d hl hl];simp
 ·exact Call_iff.2 ⟨3000,by kernel_rfl⟩
theorem same_bs {w:MV} {b:List UInt8} (h:Rb w b) (hl:b.length<2^62):Call Q 13 [.bs b,w]=some (.bool true):=by
 cases h with
 |bs=>rw[c_Same b b hl];simp
 |nil=>exact Call_iff.2 ⟨3000,by kernel_rfl⟩
theorem wrS_bad {s:MS} {t:T} (h:(wrS s t).1≠0):(wrS s t).2=[]:=by
 unfold wrS at h ⊢
 split
 ·rfl
 ·rename_i h1
  rw[if_neg h1]at h
  split
  ·rfl
  ·rename_i h2
   rw[if_neg h2]at h
   unfold wrW at h ⊢
   split
   ·rfl
   ·rename_i h3
    rw[if_neg h3]at h
    split
    ·rfl
    ·rename_i h4
     rw[if_neg h4]at h
     exact absurd (by simpa using h3) h
theorem back_ok (c:Crt) (iss sub key alt per exc sig:MV) (hr:CrtR c iss sub key alt per exc sig) (hs:CrtS c) (g1:¬ 10000<(c.key.length:Int)+c.sig.length) (g2:¬ 5000<szS [c.issuer,c.subject] [c.alt,c.permit,c.exclude]) (b1 t1:List UInt8) (x2:Int) (w p x:MV) (gw:Gs w c.alt) (gp:Gs p c.permit) (gx:Gs x c.exclude) (hb1:b1.length<2^62) (ht1:t1.length<2^62)
  (e1:Call Q 11 [crtV c iss sub key alt per exc sig]=some (.tup [.bs b1,.int .i64 0]))
  (e2:Call Q 19 [crtV c iss sub key alt per exc sig]=some (.tup [.bs t1,.int .i64 x2]))
  (e3:Call Q 14 [.bs b1]=some (.tup [crtV c (.sl 2 (attrs c.issuer)) (.sl 2 (attrs c.subject)) (.bs c.key) w p x (.bs c.sig),.int .i64 0]))
  (e4:Call Q 19 [crtV c (.sl 2 (attrs c.issuer)) (.sl 2 (attrs c.subject)) (.bs c.key) w p x (.bs c.sig)]=some (.tup [.bs t1,.int .i64 x2]))
  (e5:Call Q 11 [crtV c (.sl 2 (attrs c.issuer)) (.sl 2 (attrs c.subject)) (.bs c.key) w p x (.bs c.sig)]=some (.tup [.bs b1,.int .i64 0])):Call Q 6 [crtV c iss sub key alt per exc sig]=some (.bool true):=by
 have hb:=crtB_of hs (by omega) (by omega)
 obtain⟨serial,scheme,issuer,subject,from_,to,ks,keyb,ca,path,usage,galt,gper,gexc,sigb⟩:=c
 have fi:=dir_fs hr.iss
 have fs:=dir_fs hr.sub
 have fk:=hr.key.fs
 have fa:=hr.alt.fs
 have fp:=hr.per.fs
 have fe:=hr.exc.fs
 have fg:=hr.sig.fs
 have lk:∀st,lenV false key st=some (.int .i64 keyb.length):=by have h:=hr.key;simp only at h;cases h<;>exact fun _=>rfl
 have lg:∀st,lenV false sig st=some (.int .i64 sigb.length):=by have h:=hr.sig;simp only at h;cases h<;>exact fun _=>rfl
 have bk:keyb.length≤2^50:=hs.key
 have bg:sigb.length≤2^50:=hs.sig
 have hsz:=c_sizes3 [iss,sub] [issuer,subject] (.cons hr.iss (.cons hr.sub .nil)) (by simp) (by
  intro d hd
  simp only[List.mem_cons,List.not_mem_nil,or_false]at hd
  rcases hd with rfl|rfl
  ·exact hs.iss
  ·exact hs.sub) alt per exc galt gper gexc hr.alt hr.per hr.exc hs.alt hs.per hs.exc
 have hn:=c_anchor
 simp only at g1 g2
 have h1':decide (10000<(keyb.length:Int)+sigb.length)=false:=by simpa using g1
 have h2':decide (5000<szS [issuer,subject] [galt,gper,gexc])=false:=by simpa using g2
 have fw:=gw.fs
 have fq:=gp.fs
 have fx:=gx.fs
 have la:=hr.alt.len
 have lp:=hr.per.len
 have le:=hr.exc.len
 have lw:=gw.len
 have lq:=gp.len
 have lx:=gx.len
 have d1:=same_dn hr.iss (by have:=hb.iss.1;omega)
 have d2:=same_dn hr.sub (by have:=hb.sub.1;omega)
 have k1:=same_bs hr.key (by simp only;omega)
 have k2:=same_bs hr.sig (by simp only;omega)
 have s1:=same_bs (.bs b1) hb1
 have s2:=same_bs (.bs t1) ht1
 unfold crtV at *
 simp only at e1 e2 e3 e4 e5 la lp le lw lq lx d1 d2 k1 k2
 rw[Call_fn Q (m:=m6) rfl rfl]
 apply hide;intro rhs hrhs
 simp(maxSteps:=4000000)(disch:=first|exact dz|fail)only[bA.u,seval,cut,if_pos,if_neg,m6,hn,lk,lg,h1',hsz,h2',e1,e2,e3,e4,e5,la,lp,le,lw,lq,lx,d1,d2,k1,k2,s1,s2,fi.a,fs.a,fk.a,fa.a,fp.a,fe.a,fg.a,fw.a,fq.a,fx.a]
 repeat'((with_reducible first|refine sp ?_ ?_|fail)<;>intro hx<;>(try simp only[bI.u]at hx)<;>(first|exact xz|(try simp(maxSteps:=4000000)(disch:=first|exact dz|fail)only[bA.u,seval,cut,if_pos,if_neg,hx,m6,hn,lk,lg,h1',hsz,h2',e1,e2,e3,e4,e5,la,lp,le,lw,lq,lx,d1,d2,k1,k2,s1,s2,fi.a,fs.a,fk.a,fa.a,fp.a,fe.a,fg.a,fw.a,fq.a,fx.a])))
 all_goals first|exact xz|(subst hrhs;rfl)
theorem c_CertBack (c:Crt) (iss sub key alt per exc sig:MV) (hr:CrtR c iss sub key alt per exc sig) (hs:CrtS c):Call Q 6 [crtV c iss sub key alt per exc sig]=some (.bool true):=by
 by_cases g1:10000<(c.key.length:Int)+c.sig.length
 ·exact back_big c iss sub key alt per exc sig hr hs (.inl g1)
 by_cases g2:5000<szS [c.issuer,c.subject] [c.alt,c.permit,c.exclude]
 ·exact back_big c iss sub key alt per exc sig hr hs (.inr g2)
 have hb:=crtB_of hs (by omega) (by omega)
 have e1:=k_Encode c iss sub key alt per exc sig hr hb
 by_cases h:(wrS (oneS c) (wholeT c)).1=0
 ·obtain⟨hok,_,_⟩:=wrote_ok h
  obtain⟨w,p,x,gw,gp,gx,e3⟩:=c_back c hb (sz_whole c hb) h (wrW_alt hok) (wrW_lim hok)
  have hr2:CrtR c (.sl 2 (attrs c.issuer)) (.sl 2 (attrs c.subject)) (.bs c.key) w p x (.bs c.sig):=⟨.inl rfl,.inl rfl,.bs _,gw,gp,gx,.bs _⟩
  have e2:=k_Tbs c iss sub key alt per exc sig hr hb
  have e4:=k_Tbs c _ _ _ w p x _ hr2 hb
  have e5:=k_Encode c _ _ _ w p x _ hr2 hb
  have l1:=wrS_len (oneS c) (wholeT c)
  have l2:=wrS_len (certS c (0,false)) (certT c)
  rw[h]at e1 e5
  exact back_ok c iss sub key alt per exc sig hr hs g1 g2 _ _ _ w p x gw gp gx (by omega) (by omega) e1 e2 e3 e4 e5
 ·have hz:(wrS (oneS c) (wholeT c)).2=[]:=wrS_bad h
  rw[hz]at e1
  exact back_fail c iss sub key alt per exc sig hr hs g1 g2 _ h e1
end Go.Mini

/- a certificate's law by that interpreter (part 26): what the program's functions answer, or plain laws of it; no conditions. -/
import Derived.Test.YtgiobgojobegfaaGreatDoorB25
import Derived.Test.YtgiobgojobegfaaGreatDoorB11
set_option linter.all false
namespace Go.Mini
open Go Go.Mini.Nm Go.Proofs.YtgiobgojobegfaaGreatDoor
set_option maxRecDepth 100000
set_option maxHeartbeats 80000000
def fC (n:Nat):Req:=⟨[],1,[],List.replicate n hE,1,[]⟩
def q3T:List T:=[cB 2 0,VR.t (dnS []),.mk 0 16 true [] [bx 1,fj []]]
def jG (n:Nat):List T:=if n=0 then q3T else q3T++[.mk 2 0 true [] (List.replicate n gE)]
def wK (n:Nat):T:=.mk 0 16 true [] (jG n)
def fD (n:Nat):T:=.mk 0 16 true [] [wK n,bx 1,fj []]
def mB (n:Nat):MS:=dD 1 (lO (fC n) (0,false))
def Id (n:Nat):MV:=.agg [.int .i64 0,.int .i64 16,.bool true,.nilsl,.fsl 5 [rY (fC n),cA 1,bY []]]
theorem wL {t:T} (h:nrm t):∀n:Nat,bU (List.replicate n t)
 | 0=>trivial
 |n+1=>⟨h,wL h n⟩
theorem o7 {t:T} (h:low t):∀n:Nat,bg (List.replicate n t)
 | 0=>trivial
 |n+1=>⟨h,o7 h n⟩
theorem JH {n:Nat} (hn:n≤300):ReqB (fC n):=⟨nG,by simp[fC],⟨up n,by simp only[fC,List.length_replicate];omega⟩,by simp[fC],by show szs (gensT false (List.replicate n hE))≤_;rw[re];omega⟩
theorem Ie (n:Nat):Wl true (uk (fC n)) q3T:=.cons (jx 0) (.cons (qz []) (.cons (.mk .nil (.fsl (.cons (ju _) (.cons (nB _) .nil)))) .nil))
theorem JI (n:Nat):Wv true (rY (fC n)) (wK n):=by
 unfold rY oR wK jG
 rw[show(fC n).alt=List.replicate n hE from rfl,List.length_replicate]
 refine .mk .nil ?_
 split
 ·exact .fsl (Ie n)
 ·refine .sl (jZ (Ie n) (.cons (.mk .nil (.sl ?_)) .nil))
  rw[n7]
  exact Hs true (wL (t:=gE) (by simp[gE,nrm,bU]) n)
theorem If (n:Nat):Wv true (Id n) (fD n):=.mk .nil (.fsl (.cons (JI n) (.cons (ju _) (.cons (nB _) .nil))))
theorem DU (n:Nat):low (fD n):=by
 have h3:bg q3T:=by
  simp only[q3T,bg,low,cB,fj,and_true]
  exact⟨by decide,nU _,by decide,hZ _,by decide⟩
 have hk:bg (jG n):=by
  unfold jG
  split
  ·exact h3
  ·exact fl h3 (by simp only[bg,low,and_true];exact⟨by decide,o7 (t:=gE) (by simp[gE,low,bg]) n⟩)
 simp only[fD,wK,low,bg,fj,and_true]
 exact⟨by decide,⟨by decide,hk⟩,hZ _,by decide⟩
theorem Je {n:Nat} (hn:n≤300):(wr 0 (fD n)).1=0∧sz (fD n)≤9000:=by
 have hv:(aP 2 q3T).1=0:=by kernel_rfl
 have hv2:szs q3T≤1000:=of_decide_eq_true kr
 have hk:(aP 2 (jG n)).1=0∧szs (jG n)≤7000:=by
  unfold jG
  split
  ·exact⟨hv,by omega⟩
  ·refine⟨dG hv (eF (zq 0 (by omega) (by omega) (by omega) (ja kr n))),?_⟩
   rw[eE,szs,szs,sz,kX,show sz gE=17 from rfl]
   simp only[List.length_nil]
   omega
 have h2:szs [bx 1,fj []]≤1000:=of_decide_eq_true kr
 constructor
 ·unfold fD wK
  refine fO (by omega) ?_
  refine dG (a:=[_]) (b:=[_,_]) (eF (fO (by omega) hk.1)) ?_
  kernel_rfl
 ·unfold fD wK
  rw[sz,szs,sz]
  simp only[List.length_nil]
  omega
theorem Ig (n:Nat) (sub key alt sig:MV) (hr:ReqR (fC n) sub key alt sig):CallH Q 282 [.agg [sub,.int .i64 1,key,alt,.int .i64 1,sig]] []=some (.tup [.int .i64 1,.bs []],[]):=by
 have fs:=bK hr.sub
 have fk:=hr.key.fs
 have fa:=hr.alt.fs
 rw[aC Q (m:=m282) rfl]
 have hs:Rb sig []:=hr.sig
 cases hs<;>(apply ae;intro rhs hrhs;simp(maxSteps:=4000000) (disch:=first|omega|exact aI (by(try simp only[bB.u,seval,cut,fs.a,fk.a,fa.a]);kernel_rfl)|decide) only[bB.u,seval,cut,m282,ag,aj,fs.a,fk.a,fa.a];all_goals(subst hrhs;rfl))
theorem wM (n:Nat) (hn:n≤300) (sub key alt sig:MV) (hr:ReqR (fC n) sub key alt sig):Call Q 34 [.iface 64 (.agg [sub,.int .i64 1,key,alt,.int .i64 1,sig])]=some (.tup [.bs (cm (mB n) (fD n)).2,.int .i64 (cm (mB n) (fD n)).1]):=by
 have fs:=bK hr.sub
 have fk:=hr.key.fs
 have fa:=hr.alt.fs
 have fg:=hr.sig.fs
 have fc:Fs (oR (fC n)):=by unfold oR;split<;>exact⟨fun _=>rfl,rfl,rfl,rfl,rfl,fun _=>rfl,fun _=>rfl⟩
 have e1:=Ig n sub key alt sig hr
 have e2:∀a b,CallH Q 283 [.agg [sub,.int .i64 1,key,alt,.int .i64 1,sig],.ptr 0 0] [.cells [.int .i64 a,.bool b]]=some (.agg [.int .i64 0,.int .i64 16,.bool true,.nilsl,oR (fC n)],[some (.cells [.int .i64 (lO (fC n) (a,b)).1,.bool (lO (fC n) (a,b)).2])]):=zf (fC n) sub key alt sig hr (JH hn)
 have e3:=jt 1
 have e4:=lJ (.bs []) [] (.bs _) (by simp)
 have hq:=Je hn
 have e6:=rR (Id n) (fD n) (If n) (DU n) (by omega)
 unfold Id bY rY at e6
 unfold cA at e3 e6
 unfold mB
 generalize dD 1=ss at *
 generalize lK 1=sk at *
 generalize lO (fC n)=cs at *
 generalize oR (fC n)=ck at *
 generalize fD n=wt at *
 rw[Call_fn Q (m:=m34) rfl rfl]
 apply ae;intro rhs hrhs
 simp(maxSteps:=4000000) (disch:=first|omega|exact aI (by(try simp only[bB.u,seval,cut,fs.a,fk.a,fa.a,fg.a,fc.a]);kernel_rfl)|decide) only[bB.u,seval,cut,m34,e1,e2,e3,e4,e6,bG,jA,ag,aj,fs.a,fk.a,fa.a,fg.a,fc.a]
 all_goals(subst hrhs;rfl)
theorem Dq (n:Nat) (hn:n≤300) (sub key alt sig:MV) (hr:ReqR (fC n) sub key alt sig):Call Q 24 [.agg [sub,.int .i64 1,key,alt,.int .i64 1,sig]]=some (.tup [.bs (cm (mB n) (fD n)).2,.int .i64 (cm (mB n) (fD n)).1]):=by
 have fs:=bK hr.sub
 have fk:=hr.key.fs
 have fa:=hr.alt.fs
 have fg:=hr.sig.fs
 have e:=wM n hn sub key alt sig hr
 generalize cm (mB n) (fD n)=o at *
 rw[Call_fn Q (m:=m24) rfl rfl]
 apply ae;intro rhs hrhs
 simp(maxSteps:=4000000) (disch:=first|omega|exact aI (by(try simp only[bB.u,seval,cut,fs.a,fk.a,fa.a,fg.a]);kernel_rfl)|decide) only[bB.u,seval,cut,m24,e,ag,aj,fs.a,fk.a,fa.a,fg.a]
 all_goals(subst hrhs;rfl)
theorem Jf {n:Nat} (hn:n≤300):mB n=if n≤256 then(0,false)else(30,false):=by
 have h1:ul (fC n) (0,false)=(0,false):=by kernel_rfl
 have h2:lO (fC n) (0,false)=bl (decide (n≤256)) (0,false):=by
  unfold lO
  rw[show(fC n).alt=List.replicate n hE from rfl,List.length_replicate,h1]
  split
  ·rename_i h;rw[h];rfl
  ·rw[sd]
 unfold mB
 rw[h2]
 by_cases h:n≤256
 ·rw[if_pos h,decide_eq_true h];show dD 1 (bl true (0,false))=(0,false);kernel_rfl
 ·rw[if_neg h,decide_eq_false h];show dD 1 (bl false (0,false))=(30,false);kernel_rfl
theorem JJ (b:Bool) (cb tb:Int) (mb:Bool) (wb kb:MV) (hwb:Fs wb) (hkb:Fs kb) (ce te:Int) (me:Bool) (we ke:MV) (hwe:Fs we) (hke:Fs ke) (ks sc:Int) (d1 q:List MV) (kby sg:List UInt8) (v0:MV) (h2:CallH Q 38 [.ptr 0 0,.agg [.int .i64 cb,.int .i64 tb,.bool mb,wb,kb]] [.cells [.bool b]]=some (.sl 2 d1,[some (.cells [.bool b])])) (h7:CallH Q 41 [.ptr 0 0,.agg [.int .i64 ce,.int .i64 te,.bool me,we,ke]] [.cells [.bool b]]=some (.tup [.int .i64 ks,.bs kby],[some (.cells [.bool b])])):CallH Q 62 [.ptr 0 0,.sl 5 (v0:: .agg [.int .i64 cb,.int .i64 tb,.bool mb,wb,kb]:: .agg [.int .i64 ce,.int .i64 te,.bool me,we,ke]::zV::q),.int .i64 sc,.bs sg] [.cells [.bool b]]=some (.agg [.sl 2 d1,.int .i64 ks,.bs kby,.nilsl,.int .i64 sc,.bs sg],[some (.cells [.bool b])]):=by
 have h8:Call Q 42 [zV,.int .i64 0]=some (.tup [.sl 5 [],.bool false]):=fN 0 0 false .nilsl .nilsl aV aV 0 (.inl rfl)
 unfold zV at h8 ⊢
 rw[aC Q (m:=m62) rfl]
 apply ae;intro rhs hrhs
 simp(maxSteps:=4000000) (disch:=first|omega|exact aI (by(try simp only[bB.u,seval,cut,hwb.a,hkb.a,hwe.a,hke.a]);kernel_rfl)|decide) only[bB.u,seval,cut,m62,h2,h7,h8,hwb.a,hkb.a,hwe.a,hke.a,ag,aj]
 subst hrhs;rfl
theorem JK (b:Bool) (cb tb:Int) (mb:Bool) (wb kb:MV) (hwb:Fs wb) (hkb:Fs kb) (ce te:Int) (me:Bool) (we ke:MV) (hwe:Fs we) (hke:Fs ke) (ks sc:Int) (d1 q:List MV) (kby sg:List UInt8) (v0:MV) (h2:CallH Q 38 [.ptr 0 0,.agg [.int .i64 cb,.int .i64 tb,.bool mb,wb,kb]] [.cells [.bool b]]=some (.sl 2 d1,[some (.cells [.bool b])])) (h7:CallH Q 41 [.ptr 0 0,.agg [.int .i64 ce,.int .i64 te,.bool me,we,ke]] [.cells [.bool b]]=some (.tup [.int .i64 ks,.bs kby],[some (.cells [.bool b])])) (l gv:List MV) (h9:CallH Q 63 [.ptr 0 0,.sl 5 l,.bool false] [.cells [.bool b]]=some (.sl 3 gv,[some (.cells [.bool b])])):CallH Q 62 [.ptr 0 0,.sl 5 (v0:: .agg [.int .i64 cb,.int .i64 tb,.bool mb,wb,kb]:: .agg [.int .i64 ce,.int .i64 te,.bool me,we,ke]:: .agg [.int .i64 2,.int .i64 0,.bool true,.nilsl,.sl 5 l]::q),.int .i64 sc,.bs sg] [.cells [.bool b]]=some (.agg [.sl 2 d1,.int .i64 ks,.bs kby,.sl 3 gv,.int .i64 sc,.bs sg],[some (.cells [.bool b])]):=by
 have h8:Call Q 42 [.agg [.int .i64 2,.int .i64 0,.bool true,.nilsl,.sl 5 l],.int .i64 0]=some (.tup [.sl 5 l,.bool true]):=fN 2 0 true .nilsl (.sl 5 l) aV (dB _) 0 (.inr ⟨_,rfl⟩)
 rw[aC Q (m:=m62) rfl]
 apply ae;intro rhs hrhs
 simp(maxSteps:=4000000) (disch:=first|omega|exact aI (by(try simp only[bB.u,seval,cut,hwb.a,hkb.a,hwe.a,hke.a]);kernel_rfl)|decide) only[bB.u,seval,cut,m62,h2,h7,h8,h9,hwb.a,hkb.a,hwe.a,hke.a,ag,aj]
 subst hrhs;rfl
theorem F7 (ca ta:Int) (ma:Bool) (wa ka:MV) (hwa:Fs wa) (hka:Fs ka) (cb tb:Int) (mb:Bool) (wb kb:MV) (hwb:Fs wb) (hkb:Fs kb) (a1 a4:Int) (d1:List MV) (kby sg:List UInt8) (alt:MV) (f4:Fs alt) (sc:Int) (l:List MV) (sg2 bs:List UInt8) (hl:l.length≤2^30) (h1:Call Q 77 [.bs bs]=some (.tup [.agg [.int .i64 0,.int .i64 16,.bool true,.nilsl,.sl 5 [.agg [.int .i64 0,.int .i64 16,.bool true,.nilsl,.sl 5 l],.agg [.int .i64 ca,.int .i64 ta,.bool ma,wa,ka],.agg [.int .i64 cb,.int .i64 tb,.bool mb,wb,kb]]],.int .i64 0])) (h4:CallH Q 78 [.ptr 0 0,.agg [.int .i64 ca,.int .i64 ta,.bool ma,wa,ka]] [.cells [.bool false]]=some (.int .i64 sc,[some (.cells [.bool false])])) (h5:CallH Q 79 [.ptr 0 0,.agg [.int .i64 cb,.int .i64 tb,.bool mb,wb,kb]] [.cells [.bool false]]=some (.bs sg2,[some (.cells [.bool false])])) (h6:CallH Q 62 [.ptr 0 0,.sl 5 (l++List.replicate 10 zV),.int .i64 sc,.bs sg2] [.cells [.bool false]]=some (.agg [.sl 2 d1,.int .i64 a1,.bs kby,alt,.int .i64 a4,.bs sg],[some (.cells [.bool false])])) (h7:Call Q 34 [.iface 64 (.agg [.sl 2 d1,.int .i64 a1,.bs kby,alt,.int .i64 a4,.bs sg])]=some (.tup [.bs bs,.int .i64 0])):Call Q 61 [.bs bs,.fn 62 []]=some (.tup [.agg [.sl 2 d1,.int .i64 a1,.bs kby,alt,.int .i64 a4,.bs sg],.int .i64 0]):=by
 have h2:=df [.agg [.int .i64 0,.int .i64 16,.bool true,.nilsl,.sl 5 l],.agg [.int .i64 ca,.int .i64 ta,.bool ma,wa,ka],.agg [.int .i64 cb,.int .i64 tb,.bool mb,wb,kb]] (by simp) 3 3 (by simp) (by simp) false
 simp only[List.cons_append,List.nil_append]at h2
 have h3:=df l hl 0 l.length (by omega) (by omega) false
 have h8:=Dk bs bs
 rw[beq_self_eq_true]at h8
 generalize l++List.replicate 10 zV=q3 at *
 generalize List.replicate 10 zV=q at *
 rw[Call_fn Q (m:=m61) rfl rfl]
 apply ae;intro rhs hrhs
 simp(maxSteps:=4000000) (disch:=first|omega|exact aI (by(try simp only[bB.u,seval,cut,hwa.a,hka.a,hwb.a,hkb.a,f4.a]);kernel_rfl)|decide) only[bB.u,seval,cut,m61,h1,h2,h3,h4,h5,h6,h7,h8,hwa.a,hka.a,hwb.a,hkb.a,f4.a,ag,aj]
 subst hrhs;rfl
theorem xg (a1 a4:Int) (d1:List MV) (kby sg:List UInt8) (alt:MV) (f4:Fs alt) (bs:List UInt8) (h:Call Q 61 [.bs bs,.fn 62 []]=some (.tup [.agg [.sl 2 d1,.int .i64 a1,.bs kby,alt,.int .i64 a4,.bs sg],.int .i64 0])):Call Q 25 [.bs bs]=some (.tup [.agg [.sl 2 d1,.int .i64 a1,.bs kby,alt,.int .i64 a4,.bs sg],.int .i64 0]):=by
 rw[Call_fn Q (m:=m25) rfl rfl]
 apply ae;intro rhs hrhs
 simp(maxSteps:=4000000) (disch:=first|omega|exact aI (by(try simp only[bB.u,seval,cut,f4.a]);kernel_rfl)|decide) only[bB.u,seval,cut,m25,h,f4.a,ag,aj]
 subst hrhs;rfl
theorem DV:∀n:Nat,GTs false (List.replicate n hE) (List.replicate n gE)
 | 0=>.nil
 |n+1=>.cons ⟨DP false,by kernel_rfl,by simp[gE,nrm,bU],by simp[gE,low,bg],of_decide_eq_true kr⟩ (DV n)
theorem zw (b:Bool):CallH Q 38 [.ptr 0 0,.agg [.int .i64 0,.int .i64 16,.bool true,.nilsl,.nilsl]] [.cells [.bool b]]=some (.sl 2 [],[some (.cells [.bool b])]):=by
 obtain⟨c,tg,m,w,k,he,_,_,h⟩:=yy (d:=[]) (D:=.mk 0 16 true [] []) kr kr
 rw[show av (.mk 0 16 true [] [])= .agg [.int .i64 0,.int .i64 16,.bool true,.nilsl,.nilsl]from rfl]at he
 cases he
 exact h b
theorem Ih (n:Nat) (hn:n≤256):∃alt,Gs alt (List.replicate n hE)∧CallH Q 62 [.ptr 0 0,.sl 5 ((jG n).map av++List.replicate 10 zV),.int .i64 1,.bs []] [.cells [.bool false]]=some (.agg [.sl 2 [],.int .i64 1,.bs [],alt,.int .i64 1,.bs []],[some (.cells [.bool false])]):=by
 have k1:=Bs 1 (by omega) [] (by simp) false
 rw[show av (zn 1 [])= .agg [.int .i64 0,.int .i64 16,.bool true,.nilsl,.sl 5 [av (bx 1),bY []]]from rfl]at k1
 have h3:q3T.map av=[av (cB 2 0),.agg [.int .i64 0,.int .i64 16,.bool true,.nilsl,.nilsl],.agg [.int .i64 0,.int .i64 16,.bool true,.nilsl,.sl 5 [av (bx 1),bY []]]]:=rfl
 unfold jG
 by_cases h0:n=0
 ·rw[if_pos h0,h3]
  exact⟨.nilsl,.inr ⟨rfl,by rw[h0];rfl⟩,JJ false 0 16 true .nilsl .nilsl aV aV 0 16 true .nilsl _ aV (dB _) 1 1 [] (List.replicate 9 zV) [] [] _ (zw false) k1⟩
 ·obtain⟨gv,g1,g2⟩:=tF false (DV n) (by simp;omega)
  rw[if_neg h0,List.map_append,h3,List.map_cons,List.map_nil,aX,dN (by simpa using h0)]
  exact⟨.sl 3 gv,.inl ⟨gv,rfl,g1⟩,JK false 0 16 true .nilsl .nilsl aV aV 0 16 true .nilsl _ aV (dB _) 1 1 [] (List.replicate 10 zV) [] [] _ (zw false) k1 _ gv g2⟩
theorem I1 (n:Nat) (hn:n≤300):am bL (RunL Q m7k0 m7b0 [.blk 0,.code aL] (bz n 4 (List.replicate n (hV [97])) n))=some (.bool true):=by
 have hl:(List.replicate n (hV [97])).length=n:=by simp
 have e1:=Dq n hn .nilsl .nilsl _ .nilsl ⟨.inr ⟨rfl,rfl⟩,.nil,zr n,.nil⟩
 obtain⟨w1,w2⟩:=Je hn
 obtain⟨w3,_⟩:=jF w1 (by omega)
 by_cases h:n≤256
 ·have hS:mB n=(0,false):=by rw[Jf hn,if_pos h]
  have hr:cm (mB n) (fD n)=wrW (fD n):=by rw[hS];rfl
  have hrd:=jU _ (DU n) w3
  have hlen:=(fK w3).2.2
  have hR:=pR (wrW (fD n)).2 (by rw[(fK w3).2.1];omega)
  rw[hrd]at hR
  have hne:(jG n).length≠0:=by unfold jG;split<;>simp[q3T]
  have hkl:(jG n).length≤8:=by unfold jG;split<;>simp[q3T]
  have hm:av (fD n)= .agg [.int .i64 0,.int .i64 16,.bool true,.nilsl,.sl 5 [.agg [.int .i64 0,.int .i64 16,.bool true,.nilsl,.sl 5 ((jG n).map av)],.agg [.int .i64 0,.int .i64 16,.bool true,.nilsl,.sl 5 [.agg [.int .i64 0,.int .i64 6,.bool false,.bs (jr 1),.nilsl]]],.agg [.int .i64 0,.int .i64 3,.bool false,.bs [0],.nilsl]]]:=by
   unfold fD wK
   rw[aX,dN (by simp),List.map_cons,List.map_cons,List.map_cons,List.map_nil,ic 1 (by omega),aX,dN hne]
   rfl
  have hR':Call Q 77 [.bs (wrW (fD n)).2]=some (.tup [av (fD n),.int .i64 0]):=hR
  rw[hm]at hR'
  have h4:=q7 1 (by omega) false
  rw[ic 1 (by omega)]at h4
  have h5:=q6 [] (by simp) false
  unfold bY at h5
  obtain⟨alt,ga,hk⟩:=Ih n h
  have hen:=wM n hn (.sl 2 []) (.bs []) alt (.bs []) ⟨.inl rfl,.bs _,ga,.bs _⟩
  rw[hr]at hen e1
  rw[w3]at hen e1
  have e2:=xg 1 1 [] [] [] alt ga.fs _ (F7 0 16 true .nilsl _ aV (dB _) 0 3 false (.bs [0]) .nilsl (cT _) aV 1 1 [] [] [] alt ga.fs 1 ((jG n).map av) [] _ (by rw[List.length_map];omega) hR' h4 h5 hk hen)
  exact H' n h _ hl _ (.sl 2 []) (.bs []) alt (.bs []) 1 1 (eN _) (cT _) ga.fs (cT _) (eG ga) e1 e2
 ·have hS:mB n=(30,false):=by rw[Jf hn,if_neg h]
  have hr:cm (mB n) (fD n)=(30,[]):=by rw[hS];rfl
  rw[hr]at e1
  have e2:∃f:Int,Call Q 25 [.bs []]=some (.tup [.agg [.nilsl,.int .i64 0,.nilsl,.nilsl,.int .i64 0,.nilsl],.int .i64 f]):=⟨20,Call_iff.2 ⟨3000,by kernel_rfl⟩⟩
  obtain⟨f,e2⟩:=e2
  exact Ia n (by omega) hn _ hl f e1 e2
end Go.Mini

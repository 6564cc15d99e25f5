/- a certificate's law by that interpreter (part 22): what the program's functions answer, or plain laws of it; no conditions. -/
import Derived.Test.YtgiobgojobegfaaGreatDoorA21
set_option linter.all false
namespace Go.Mini
open Go Go.Mini.Nm Go.Proofs.YtgiobgojobegfaaGreatDoor
set_option maxRecDepth 100000
set_option maxHeartbeats 4000000
theorem bs_fs (b:List UInt8):Fs (.bs b):=⟨fun _=>rfl,rfl,rfl,rfl,rfl,fun _=>rfl,fun _=>rfl⟩
theorem time_fit {n:Int} {x:T} (h:timeS n= .ok x):nrm x∧low x:=by
 unfold timeS at h
 split at h
 ·cases h
 ·split at h<;>cases h<;>exact⟨by simp[nrm,nrms],by simp[low,lows]⟩
theorem dn_back {d:Dn} {D:T} (h:dnS d= .ok D) (hw:(wrW D).1=0):∃c tg m w k,mvT D= .agg [.int .i64 c,.int .i64 tg,.bool m,w,k]∧Fs w∧Fs k∧∀b,CallH Q 38 [.ptr 0 0,.agg [.int .i64 c,.int .i64 tg,.bool m,w,k]] [.cells [.bool b]]=some (.sl 2 (attrs d),[some (.cells [.bool b])]):=by
 obtain⟨c,tg,m,w,k,he,h1,h2⟩:=mvT_ag D
 obtain⟨f1,f2⟩:=dnS_fit h
 have hc:=c_ParseDN (mvT D) D (Wv_mvT false D f2) f1 (sz_wrW hw)
 rw[pdn_dnS h hw,he]at hc
 refine⟨c,tg,m,w,k,he,h1,h2,fun b=>?_⟩
 have:=h_rdn c tg m w k h1 h2 (attrs d) 0 hc b
 rw[or_zero]at this
 exact this
theorem time_back {n:Int} {x:T} (h:timeS n= .ok x) (hw:(wrW x).1=0):∃c tg m w k,mvT x= .agg [.int .i64 c,.int .i64 tg,.bool m,w,k]∧Fs w∧Fs k∧∀b,CallH Q 40 [.ptr 0 0,.agg [.int .i64 c,.int .i64 tg,.bool m,w,k]] [.cells [.bool b]]=some (.int .i64 n,[some (.cells [.bool b])]):=by
 obtain⟨c,tg,m,w,k,he,h1,h2⟩:=mvT_ag x
 obtain⟨f1,f2⟩:=time_fit h
 have hs:=sz_wrW hw
 have hc:=c_Time (mvT x) x (Wv_mvT false x f1) f2 (by omega)
 rw[timeR_timeS h hw,he]at hc
 refine⟨c,tg,m,w,k,he,h1,h2,fun b=>?_⟩
 have:=h_rtime c tg m w k h1 h2 n 0 hc b
 rw[or_zero]at this
 exact this
theorem num_back {n:Int} (h0:0≤n) (h:n<9223372036854775808) (b:Bool):CallH Q 37 [.ptr 0 0,.agg [.int .i64 0,.int .i64 2,.bool false,.bs (numB n),.nilsl]] [.cells [.bool b]]=some (.int .i64 n,[some (.cells [.bool b])]):=by
 have e:sizeB (numB n)=n.toNat:=numB_val h0 h
 have:=h_rint 0 2 (numB n) (by omega) (numB_ln h0 h) b
 rw[show((sizeB (numB n):Nat):Int)=n by omega]at this
 exact this
def cv0 (c:Crt):CV:=⟨c.serial,c.scheme,c.from_,c.to,c.keyScheme,false,-1,0,.sl 2 (attrs c.issuer),.sl 2 (attrs c.subject),.bs c.key,.nilsl,.nilsl,.nilsl,.bs c.sig⟩
theorem sl_f2 (l:List MV):Fs (.sl 2 l):=⟨fun _=>rfl,rfl,rfl,rfl,rfl,fun _=>rfl,fun _=>rfl⟩
theorem kids_back (c:Crt) (hok:CrtOK c) (hk:c.key.length≤2^20) (hw:(wrW (certT c)).1=0) (ha:c.alt.length≠0→(wrW (altT c.alt)).1=0) (hl:c.permit.length+c.exclude.length≠0→(wrW (limT c.permit c.exclude)).1=0):
  ∃w p x,Gs w c.alt∧Gs p c.permit∧Gs x c.exclude∧CallH Q 36 [.ptr 0 0,.sl 5 ((certKT c).map mvT++List.replicate 10 zV),.int .i64 c.scheme,.bs c.sig] [.cells [.bool false]]=some (crtV c (.sl 2 (attrs c.issuer)) (.sl 2 (attrs c.subject)) (.bs c.key) w p x (.bs c.sig),[some (.cells [.bool false])]):=by
 obtain⟨D1,hD1⟩:=hok.issuer
 obtain⟨D2,hD2⟩:=hok.subject
 obtain⟨T1,hT1⟩:=hok.from_
 obtain⟨T2,hT2⟩:=hok.to
 have v1:VR.t (dnS c.issuer)=D1:=by rw[hD1];rfl
 have v2:VR.t (dnS c.subject)=D2:=by rw[hD2];rfl
 have v3:VR.t (timeS c.from_)=T1:=by rw[hT1];rfl
 have v4:VR.t (timeS c.to)=T2:=by rw[hT2];rfl
 have hsv:∀y∈sevT c,(wrW y).1=0:=by
  intro y hy
  refine wrW_kid hw ?_
  unfold certKT
  split
  ·exact hy
  ·exact List.mem_append_left _ hy
 have w1:(wrW D1).1=0:=hsv D1 (by unfold sevT;rw[v1];simp)
 have w2:(wrW D2).1=0:=hsv D2 (by unfold sevT;rw[v2];simp)
 have w3:(wrW (.mk 0 16 true [] [T1,T2])).1=0:=hsv _ (by unfold sevT;rw[v3,v4];simp)
 have w4:(wrW T1).1=0:=wrW_kid w3 (by simp)
 have w5:(wrW T2).1=0:=wrW_kid w3 (by simp)
 obtain⟨cb,tb,mb,wb,kb,eb,hwb,hkb,r1⟩:=dn_back hD1 w1
 obtain⟨cd,td,md,wd,kd,ed,hwd,hkd,r2⟩:=dn_back hD2 w2
 obtain⟨cf,tf,mf,wf,kf,ef,hwf,hkf,r3⟩:=time_back hT1 w4
 obtain⟨cg,tg,mg,wg,kg,eg,hwg,hkg,r4⟩:=time_back hT2 w5
 have n1:=num_back (n:=c.serial) (by have:=hok.serial;omega) (by have:=hok.serial;omega) false
 have s1:=h_seq [mvT T1,mvT T2] (by simp) 2 2 (by simp) (by simp) false
 rw[ef,eg,List.cons_append,List.cons_append,List.nil_append]at s1
 have k1:=h_rkey c.keyScheme hok.keyScheme c.key (by omega) false
 rw[show mvT (keyT c.keyScheme c.key)= .agg [.int .i64 0,.int .i64 16,.bool true,.nilsl,.sl 5 [mvT (schT c.keyScheme),octV c.key]]from rfl]at k1
 have hsev:(sevT c).map mvT=[mvT (.mk 2 0 true [] [numT 2 2]),.agg [.int .i64 0,.int .i64 2,.bool false,.bs (numB c.serial),.nilsl],mvT (schT c.scheme),.agg [.int .i64 cb,.int .i64 tb,.bool mb,wb,kb],.agg [.int .i64 0,.int .i64 16,.bool true,.nilsl,.sl 5 [.agg [.int .i64 cf,.int .i64 tf,.bool mf,wf,kf],.agg [.int .i64 cg,.int .i64 tg,.bool mg,wg,kg]]],.agg [.int .i64 cd,.int .i64 td,.bool md,wd,kd],.agg [.int .i64 0,.int .i64 16,.bool true,.nilsl,.sl 5 [mvT (schT c.keyScheme),octV c.key]]]:=by
  unfold sevT
  rw[v1,v2,v3,v4]
  simp only[List.map_cons,List.map_nil]
  rw[eb,ed,show mvT (.mk 0 16 true [] [T1,T2])= .agg [.int .i64 0,.int .i64 16,.bool true,.nilsl,.sl 5 [mvT T1,mvT T2]]from rfl,ef,eg]
  rfl
 by_cases hE:(extsL c).length=0
 ·have hK:certKT c=sevT c:=by unfold certKT;rw[if_pos hE]
  obtain⟨w,p,x,gw,gp,gx,e⟩:=exts_back false c hok ha hl [] (by unfold extsT;rw[List.eq_nil_of_length_eq_zero hE];rfl) (cv0 c) ⟨sl_f2 _,sl_f2 _,bs_fs _,nil_fs,nil_fs,nil_fs,bs_fs _⟩ rfl rfl rfl rfl rfl rfl
  refine⟨w,p,x,gw,gp,gx,?_⟩
  rw[go_end false [] (cv0 c) ⟨sl_f2 _,sl_f2 _,bs_fs _,nil_fs,nil_fs,nil_fs,bs_fs _⟩ 0 (by simp)]at e
  rw[hK,hsev]
  have h0:=p_cert0 false 0 2 false (.bs (numB c.serial)) .nilsl (bs_fs _) nil_fs cb tb mb wb kb hwb hkb 0 16 true .nilsl (.sl 5 [.agg [.int .i64 cf,.int .i64 tf,.bool mf,wf,kf],.agg [.int .i64 cg,.int .i64 tg,.bool mg,wg,kg]]) nil_fs (sl_fs _) cd td md wd kd hwd hkd 0 16 true .nilsl (.sl 5 [mvT (schT c.keyScheme),octV c.key]) nil_fs (sl_fs _) cf tf mf wf kf hwf hkf cg tg mg wg kg hwg hkg c.serial c.scheme c.from_ c.to c.keyScheme (attrs c.issuer) (attrs c.subject) (List.replicate 9 zV) (List.replicate 10 zV) c.key c.sig n1 (r1 false) (r2 false) s1 (r3 false) (r4 false) k1 (mvT (.mk 2 0 true [] [numT 2 2])) (mvT (schT c.scheme))
  refine h0.trans ?_
  exact e
 ·have hK:certKT c=sevT c++[.mk 2 3 true [] [.mk 0 16 true [] (extsT c)]]:=by unfold certKT;rw[if_neg hE]
  obtain⟨w,p,x,gw,gp,gx,e⟩:=exts_back false c hok ha hl ((extsT c).map mvT) rfl (cv0 c) ⟨sl_f2 _,sl_f2 _,bs_fs _,nil_fs,nil_fs,nil_fs,bs_fs _⟩ rfl rfl rfl rfl rfl rfl
  refine⟨w,p,x,gw,gp,gx,?_⟩
  have hX:mvT (.mk 2 3 true [] [.mk 0 16 true [] (extsT c)])= .agg [.int .i64 2,.int .i64 3,.bool true,.nilsl,.sl 5 [.agg [.int .i64 0,.int .i64 16,.bool true,.nilsl,.sl 5 ((extsT c).map mvT)]]]:=by
   rw[mvT_eq,mvK_ne (by simp),List.map_cons,List.map_nil,mvT_eq,mvK_ne (by unfold extsT;rw[List.length_map];exact hE)]
   rfl
  rw[hK,List.map_append,hsev,List.map_cons,List.map_nil,hX]
  exact p_cert1 false 0 2 false (.bs (numB c.serial)) .nilsl (bs_fs _) nil_fs cb tb mb wb kb hwb hkb 0 16 true .nilsl (.sl 5 [.agg [.int .i64 cf,.int .i64 tf,.bool mf,wf,kf],.agg [.int .i64 cg,.int .i64 tg,.bool mg,wg,kg]]) nil_fs (sl_fs _) cd td md wd kd hwd hkd 0 16 true .nilsl (.sl 5 [mvT (schT c.keyScheme),octV c.key]) nil_fs (sl_fs _) cf tf mf wf kf hwf hkf cg tg mg wg kg hwg hkg c.serial c.scheme c.from_ c.to c.keyScheme (attrs c.issuer) (attrs c.subject) (List.replicate 10 zV) (List.replicate 10 zV) c.key c.sig n1 (r1 false) (r2 false) s1 (r3 false) (r4 false) k1 (mvT (.mk 2 0 true [] [numT 2 2])) (mvT (schT c.scheme)) ((extsT c).map mvT) _ e
theorem c_back (c:Crt) (hb:CrtB c) (hsz:sz (wholeT c)≤2^30) (h:(wrS (oneS c) (wholeT c)).1=0) (ha:c.alt.length≠0→(wrW (altT c.alt)).1=0) (hl:c.permit.length+c.exclude.length≠0→(wrW (limT c.permit c.exclude)).1=0):
  ∃w p x,Gs w c.alt∧Gs p c.permit∧Gs x c.exclude∧Call Q 14 [.bs (wrS (oneS c) (wholeT c)).2]=some (.tup [crtV c (.sl 2 (attrs c.issuer)) (.sl 2 (attrs c.subject)) (.bs c.key) w p x (.bs c.sig),.int .i64 0]):=by
 obtain⟨hok,hw0,hrd⟩:=wrote_ok h
 have wC:(wrW (certT c)).1=0:=wrW_kid hw0 (by simp)
 obtain⟨w,p,x,gw,gp,gx,hk⟩:=kids_back c hok hb.key wC ha hl
 refine⟨w,p,x,gw,gp,gx,?_⟩
 have hen:=c_encode c (.sl 2 (attrs c.issuer)) (.sl 2 (attrs c.subject)) (.bs c.key) w p x (.bs c.sig) ⟨.inl rfl,.inl rfl,.bs _,gw,gp,gx,.bs _⟩ hb (low_whole c) hsz
 rw[h]at hen
 have hlen:(wrS (oneS c) (wholeT c)).2.length≤65536:=by
  by_cases hb:65536<(wrS (oneS c) (wholeT c)).2.length
  ·unfold readS at hrd
   rw[if_pos hb]at hrd
   cases hrd
  ·omega
 have hR:=c_Read (wrS (oneS c) (wholeT c)).2 (by omega)
 rw[hrd]at hR
 have hne:(certKT c).length≠0:=by unfold certKT sevT;split<;>simp
 have hkl:(certKT c).length≤8:=by unfold certKT sevT;split<;>simp
 have hm:mvT (wholeT c)= .agg [.int .i64 0,.int .i64 16,.bool true,.nilsl,.sl 5 [.agg [.int .i64 0,.int .i64 16,.bool true,.nilsl,.sl 5 ((certKT c).map mvT)],.agg [.int .i64 0,.int .i64 16,.bool true,.nilsl,.sl 5 [.agg [.int .i64 0,.int .i64 6,.bool false,.bs (schB c.scheme),.nilsl]]],.agg [.int .i64 0,.int .i64 3,.bool false,.bs (0::c.sig),.nilsl]]]:=by
  unfold wholeT
  rw[mvT_eq,mvK_ne (by simp),List.map_cons,List.map_cons,List.map_cons,List.map_nil,schT_mv c.scheme hok.scheme]
  unfold certT
  rw[mvT_eq,mvK_ne hne]
  rfl
 have hR':Call Q 77 [.bs (wrS (oneS c) (wholeT c)).2]=some (.tup [mvT (wholeT c),.int .i64 0]):=hR
 rw[hm]at hR'
 have h4:=h_rsch c.scheme hok.scheme false
 rw[schT_mv c.scheme hok.scheme]at h4
 have h5:=h_roct c.sig (by have:=hb.sig;omega) false
 unfold octV at h5
 have h6:=c_parse 0 16 true .nilsl (.sl 5 [.agg [.int .i64 0,.int .i64 6,.bool false,.bs (schB c.scheme),.nilsl]]) nil_fs (sl_fs _) 0 3 false (.bs (0::c.sig)) .nilsl (bs_fs _) nil_fs c.serial c.scheme c.from_ c.to c.keyScheme c.path c.usage c.scheme (attrs c.issuer) (attrs c.subject) [] ((certKT c).map mvT) c.ca c.key c.sig c.sig (wrS (oneS c) (wholeT c)).2 w p x gw.fs gp.fs gx.fs (by rw[List.length_map];omega) hR' h4 h5 hk hen
 exact c_ParseCert c.serial c.scheme c.from_ c.to c.keyScheme c.path c.usage (attrs c.issuer) (attrs c.subject) c.ca c.key c.sig (wrS (oneS c) (wholeT c)).2 w p x gw.fs gp.fs gx.fs h6
end Go.Mini

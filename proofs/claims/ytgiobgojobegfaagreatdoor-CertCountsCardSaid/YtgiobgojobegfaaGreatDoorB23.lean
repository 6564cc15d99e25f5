/- a certificate's law by that interpreter (part 23): what the program's functions answer, or plain laws of it; no conditions. -/
import Derived.Test.YtgiobgojobegfaaGreatDoorB22
set_option linter.all false
namespace Go.Mini
open Go Go.Mini.Nm Go.Proofs.YtgiobgojobegfaaGreatDoor
set_option maxRecDepth 100000
set_option maxHeartbeats 4000000
theorem cT (b:List UInt8):Fs (.bs b):=⟨fun _=>rfl,rfl,rfl,rfl,rfl,fun _=>rfl,fun _=>rfl⟩
theorem Dp {n:Int} {x:T} (h:timeS n= .ok x):nrm x∧low x:=by
 unfold timeS at h
 split at h
 ·cases h
 ·split at h<;>cases h<;>exact⟨by simp[nrm,bU],by simp[low,bg]⟩
theorem yy {d:Dn} {D:T} (h:dnS d= .ok D) (hw:(wrW D).1=0):∃c tg m w k,av D= .agg [.int .i64 c,.int .i64 tg,.bool m,w,k]∧Fs w∧Fs k∧∀b,CallH Q 38 [.ptr 0 0,.agg [.int .i64 c,.int .i64 tg,.bool m,w,k]] [.cells [.bool b]]=some (.sl 2 (bh d),[some (.cells [.bool b])]):=by
 obtain⟨c,tg,m,w,k,he,h1,h2⟩:=q9 D
 obtain⟨f1,f2⟩:=nS h
 have hc:=s9 (av D) D (jw false D f2) f1 (ra hw)
 rw[yn h hw,he]at hc
 refine⟨c,tg,m,w,k,he,h1,h2,fun b=>?_⟩
 have:=IS c tg m w k h1 h2 (bh d) 0 hc b
 rw[nY]at this
 exact this
theorem nF {n:Int} {x:T} (h:timeS n= .ok x) (hw:(wrW x).1=0):∃c tg m w k,av x= .agg [.int .i64 c,.int .i64 tg,.bool m,w,k]∧Fs w∧Fs k∧∀b,CallH Q 40 [.ptr 0 0,.agg [.int .i64 c,.int .i64 tg,.bool m,w,k]] [.cells [.bool b]]=some (.int .i64 n,[some (.cells [.bool b])]):=by
 obtain⟨c,tg,m,w,k,he,h1,h2⟩:=q9 x
 obtain⟨f1,f2⟩:=Dp h
 have hs:=ra hw
 have hc:=Hg (av x) x (jw false x f1) f2 (by omega)
 rw[xe h hw,he]at hc
 refine⟨c,tg,m,w,k,he,h1,h2,fun b=>?_⟩
 have:=FH c tg m w k h1 h2 n 0 hc b
 rw[nY]at this
 exact this
theorem jE {n:Int} (h0:0≤n) (h:n<9223372036854775808) (b:Bool):CallH Q 37 [.ptr 0 0,.agg [.int .i64 0,.int .i64 2,.bool false,.bs (aE n),.nilsl]] [.cells [.bool b]]=some (.int .i64 n,[some (.cells [.bool b])]):=by
 have e:aU (aE n)=n.toNat:=wy h0 h
 have:=qZ 0 2 (aE n) (by omega) (yw h0 h) b
 rw[show((aU (aE n):Nat):Int)=n by omega]at this
 exact this
def H0 (c:Crt):CV:=⟨c.serial,c.scheme,c.from_,c.to,c.keyScheme,false,-1,0,.sl 2 (bh c.issuer),.sl 2 (bh c.subject),.bs c.key,.nilsl,.nilsl,.nilsl,.bs c.sig⟩
theorem eN (l:List MV):Fs (.sl 2 l):=⟨fun _=>rfl,rfl,rfl,rfl,rfl,fun _=>rfl,fun _=>rfl⟩
theorem BA (c:Crt) (hok:CrtOK c) (hk:c.key.length≤2^20) (hw:(wrW (fQ c)).1=0) (ha:c.alt.length≠0→(wrW (altT c.alt)).1=0) (hl:c.permit.length+c.exclude.length≠0→(wrW (limT c.permit c.exclude)).1=0):
  ∃w p x,Gs w c.alt∧Gs p c.permit∧Gs x c.exclude∧CallH Q 36 [.ptr 0 0,.sl 5 ((cF c).map av++List.replicate 10 zV),.int .i64 c.scheme,.bs c.sig] [.cells [.bool false]]=some (hJ c (.sl 2 (bh c.issuer)) (.sl 2 (bh c.subject)) (.bs c.key) w p x (.bs c.sig),[some (.cells [.bool false])]):=by
 obtain⟨D1,hD1⟩:=hok.issuer
 obtain⟨D2,hD2⟩:=hok.subject
 obtain⟨T1,hT1⟩:=hok.from_
 obtain⟨T2,hT2⟩:=hok.to
 have v1:VR.t (dnS c.issuer)=D1:=by rw[hD1];rfl
 have v2:VR.t (dnS c.subject)=D2:=by rw[hD2];rfl
 have v3:VR.t (timeS c.from_)=T1:=by rw[hT1];rfl
 have v4:VR.t (timeS c.to)=T2:=by rw[hT2];rfl
 have hsv:∀y∈eq c,(wrW y).1=0:=by
  intro y hy
  refine dk hw ?_
  unfold cF
  split
  ·exact hy
  ·exact List.mem_append_left _ hy
 have w1:(wrW D1).1=0:=hsv D1 (by unfold eq;rw[v1];simp)
 have w2:(wrW D2).1=0:=hsv D2 (by unfold eq;rw[v2];simp)
 have w3:(wrW (.mk 0 16 true [] [T1,T2])).1=0:=hsv _ (by unfold eq;rw[v3,v4];simp)
 have w4:(wrW T1).1=0:=dk w3 (by simp)
 have w5:(wrW T2).1=0:=dk w3 (by simp)
 obtain⟨cb,tb,mb,wb,kb,eb,hwb,hkb,r1⟩:=yy hD1 w1
 obtain⟨cd,td,md,wd,kd,ed,hwd,hkd,r2⟩:=yy hD2 w2
 obtain⟨cf,tf,mf,wf,kf,ef,hwf,hkf,r3⟩:=nF hT1 w4
 obtain⟨cg,tg,mg,wg,kg,eg,hwg,hkg,r4⟩:=nF hT2 w5
 have n1:=jE (n:=c.serial) (by have:=hok.serial;omega) (by have:=hok.serial;omega) false
 have s1:=df [av T1,av T2] (by simp) 2 2 (by simp) (by simp) false
 rw[ef,eg,List.cons_append,List.cons_append,List.nil_append]at s1
 have k1:=Bs c.keyScheme hok.keyScheme c.key (by omega) false
 rw[show av (zn c.keyScheme c.key)= .agg [.int .i64 0,.int .i64 16,.bool true,.nilsl,.sl 5 [av (bx c.keyScheme),bY c.key]]from rfl]at k1
 have hsev:(eq c).map av=[av (.mk 2 0 true [] [cB 2 2]),.agg [.int .i64 0,.int .i64 2,.bool false,.bs (aE c.serial),.nilsl],av (bx c.scheme),.agg [.int .i64 cb,.int .i64 tb,.bool mb,wb,kb],.agg [.int .i64 0,.int .i64 16,.bool true,.nilsl,.sl 5 [.agg [.int .i64 cf,.int .i64 tf,.bool mf,wf,kf],.agg [.int .i64 cg,.int .i64 tg,.bool mg,wg,kg]]],.agg [.int .i64 cd,.int .i64 td,.bool md,wd,kd],.agg [.int .i64 0,.int .i64 16,.bool true,.nilsl,.sl 5 [av (bx c.keyScheme),bY c.key]]]:=by
  unfold eq
  rw[v1,v2,v3,v4]
  simp only[List.map_cons,List.map_nil]
  rw[eb,ed,show av (.mk 0 16 true [] [T1,T2])= .agg [.int .i64 0,.int .i64 16,.bool true,.nilsl,.sl 5 [av T1,av T2]]from rfl,ef,eg]
  rfl
 by_cases hE:(de c).length=0
 ·have hK:cF c=eq c:=by unfold cF;rw[if_pos hE]
  obtain⟨w,p,x,gw,gp,gx,e⟩:=tH false c hok ha hl [] (by unfold b9;rw[List.eq_nil_of_length_eq_zero hE];rfl) (H0 c) ⟨eN _,eN _,cT _,aV,aV,aV,cT _⟩ rfl rfl rfl rfl rfl rfl
  refine⟨w,p,x,gw,gp,gx,?_⟩
  rw[By false [] (H0 c) ⟨eN _,eN _,cT _,aV,aV,aV,cT _⟩ 0 (by simp)]at e
  rw[hK,hsev]
  have h0:=FV false 0 2 false (.bs (aE c.serial)) .nilsl (cT _) aV cb tb mb wb kb hwb hkb 0 16 true .nilsl (.sl 5 [.agg [.int .i64 cf,.int .i64 tf,.bool mf,wf,kf],.agg [.int .i64 cg,.int .i64 tg,.bool mg,wg,kg]]) aV (dB _) cd td md wd kd hwd hkd 0 16 true .nilsl (.sl 5 [av (bx c.keyScheme),bY c.key]) aV (dB _) cf tf mf wf kf hwf hkf cg tg mg wg kg hwg hkg c.serial c.scheme c.from_ c.to c.keyScheme (bh c.issuer) (bh c.subject) (List.replicate 9 zV) (List.replicate 10 zV) c.key c.sig n1 (r1 false) (r2 false) s1 (r3 false) (r4 false) k1 (av (.mk 2 0 true [] [cB 2 2])) (av (bx c.scheme))
  refine h0.trans ?_
  exact e
 ·have hK:cF c=eq c++[.mk 2 3 true [] [.mk 0 16 true [] (b9 c)]]:=by unfold cF;rw[if_neg hE]
  obtain⟨w,p,x,gw,gp,gx,e⟩:=tH false c hok ha hl ((b9 c).map av) rfl (H0 c) ⟨eN _,eN _,cT _,aV,aV,aV,cT _⟩ rfl rfl rfl rfl rfl rfl
  refine⟨w,p,x,gw,gp,gx,?_⟩
  have hX:av (.mk 2 3 true [] [.mk 0 16 true [] (b9 c)])= .agg [.int .i64 2,.int .i64 3,.bool true,.nilsl,.sl 5 [.agg [.int .i64 0,.int .i64 16,.bool true,.nilsl,.sl 5 ((b9 c).map av)]]]:=by
   rw[aX,dN (by simp),List.map_cons,List.map_nil,aX,dN (by unfold b9;rw[List.length_map];exact hE)]
   rfl
  rw[hK,List.map_append,hsev,List.map_cons,List.map_nil,hX]
  exact FW false 0 2 false (.bs (aE c.serial)) .nilsl (cT _) aV cb tb mb wb kb hwb hkb 0 16 true .nilsl (.sl 5 [.agg [.int .i64 cf,.int .i64 tf,.bool mf,wf,kf],.agg [.int .i64 cg,.int .i64 tg,.bool mg,wg,kg]]) aV (dB _) cd td md wd kd hwd hkd 0 16 true .nilsl (.sl 5 [av (bx c.keyScheme),bY c.key]) aV (dB _) cf tf mf wf kf hwf hkf cg tg mg wg kg hwg hkg c.serial c.scheme c.from_ c.to c.keyScheme (bh c.issuer) (bh c.subject) (List.replicate 10 zV) (List.replicate 10 zV) c.key c.sig n1 (r1 false) (r2 false) s1 (r3 false) (r4 false) k1 (av (.mk 2 0 true [] [cB 2 2])) (av (bx c.scheme)) ((b9 c).map av) _ e
theorem wI (c:Crt) (hb:CrtB c) (hsz:sz (bc c)≤2^30) (h:(cm (dx c) (bc c)).1=0) (ha:c.alt.length≠0→(wrW (altT c.alt)).1=0) (hl:c.permit.length+c.exclude.length≠0→(wrW (limT c.permit c.exclude)).1=0):
  ∃w p x,Gs w c.alt∧Gs p c.permit∧Gs x c.exclude∧Call Q 14 [.bs (cm (dx c) (bc c)).2]=some (.tup [hJ c (.sl 2 (bh c.issuer)) (.sl 2 (bh c.subject)) (.bs c.key) w p x (.bs c.sig),.int .i64 0]):=by
 obtain⟨hok,hw0,hrd⟩:=lQ h
 have wC:(wrW (fQ c)).1=0:=dk hw0 (by simp)
 obtain⟨w,p,x,gw,gp,gx,hk⟩:=BA c hok hb.key wC ha hl
 refine⟨w,p,x,gw,gp,gx,?_⟩
 have hen:=v7 c (.sl 2 (bh c.issuer)) (.sl 2 (bh c.subject)) (.bs c.key) w p x (.bs c.sig) ⟨.inl rfl,.inl rfl,.bs _,gw,gp,gx,.bs _⟩ hb (nC c) hsz
 rw[h]at hen
 have hlen:(cm (dx c) (bc c)).2.length≤65536:=by
  by_cases hb:65536<(cm (dx c) (bc c)).2.length
  ·unfold lG at hrd
   rw[if_pos hb]at hrd
   cases hrd
  ·omega
 have hR:=pR (cm (dx c) (bc c)).2 (by omega)
 rw[hrd]at hR
 have hne:(cF c).length≠0:=by unfold cF eq;split<;>simp
 have hkl:(cF c).length≤8:=by unfold cF eq;split<;>simp
 have hm:av (bc c)= .agg [.int .i64 0,.int .i64 16,.bool true,.nilsl,.sl 5 [.agg [.int .i64 0,.int .i64 16,.bool true,.nilsl,.sl 5 ((cF c).map av)],.agg [.int .i64 0,.int .i64 16,.bool true,.nilsl,.sl 5 [.agg [.int .i64 0,.int .i64 6,.bool false,.bs (jr c.scheme),.nilsl]]],.agg [.int .i64 0,.int .i64 3,.bool false,.bs (0::c.sig),.nilsl]]]:=by
  unfold bc
  rw[aX,dN (by simp),List.map_cons,List.map_cons,List.map_cons,List.map_nil,ic c.scheme hok.scheme]
  unfold fQ
  rw[aX,dN hne]
  rfl
 have hR':Call Q 77 [.bs (cm (dx c) (bc c)).2]=some (.tup [av (bc c),.int .i64 0]):=hR
 rw[hm]at hR'
 have h4:=q7 c.scheme hok.scheme false
 rw[ic c.scheme hok.scheme]at h4
 have h5:=q6 c.sig (by have:=hb.sig;omega) false
 unfold bY at h5
 have h6:=FX 0 16 true .nilsl (.sl 5 [.agg [.int .i64 0,.int .i64 6,.bool false,.bs (jr c.scheme),.nilsl]]) aV (dB _) 0 3 false (.bs (0::c.sig)) .nilsl (cT _) aV c.serial c.scheme c.from_ c.to c.keyScheme c.path c.usage c.scheme (bh c.issuer) (bh c.subject) [] ((cF c).map av) c.ca c.key c.sig c.sig (cm (dx c) (bc c)).2 w p x gw.fs gp.fs gx.fs (by rw[List.length_map];omega) hR' h4 h5 hk hen
 exact xf c.serial c.scheme c.from_ c.to c.keyScheme c.path c.usage (bh c.issuer) (bh c.subject) c.ca c.key c.sig (cm (dx c) (bc c)).2 w p x gw.fs gp.fs gx.fs h6
end Go.Mini

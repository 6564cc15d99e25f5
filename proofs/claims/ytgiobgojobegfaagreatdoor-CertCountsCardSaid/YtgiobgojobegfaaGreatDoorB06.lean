/- a certificate's law by that interpreter (part 6): what the program's functions answer, or plain laws of it; no conditions. -/
import Derived.Test.YtgiobgojobegfaaGreatDoorB05
set_option linter.all false
namespace Go.Mini.Nm
open Go Go.Mini Go.Proofs.YtgiobgojobegfaaGreatDoor
set_option maxRecDepth 100000
set_option maxHeartbeats 4000000
def dw (t:T) (tag n:Int):Bool:=match t with
 | .mk c tg _ _ ks=>decide (c=0)&&decide (tg=tag)&&decide ((ks.length:Int)=n)
structure Fa (w:MV):Prop where
 l:∀st,lend w st=some (w,st)
 c:MV.cells w=[w]
 f:MV.fit w=true
theorem Rb.fa {w:MV} {b:List UInt8} (h:Rb w b):Fa w∧(∀st,lenV false w st=some (.int .i64 b.length))∧∀st,bytesOf w st=some b:=by
 cases h<;>exact⟨⟨fun _=>rfl,rfl,rfl⟩,fun _=>rfl,fun _=>rfl⟩
theorem Rs.fa {w:MV} {ks:List T} (h:Rs w ks):Fa w∧∀st,lenV false w st=some (.int .i64 ks.length):=by
 cases h with
 |nil=>exact⟨⟨fun _=>rfl,rfl,rfl⟩,fun _=>rfl⟩
 |sl h=>exact⟨⟨fun _=>rfl,rfl,rfl⟩,fun _=>by simp only[lenV,h.length]⟩
theorem nq (v:MV) (t:T) (hv:Rv v t) (tag n:Int):Call Q 111 [v,.int .i64 tag,.int .i64 n]=some (.bool (dw t tag n)):=by
 cases hv with
 | @mk _ c tg m w k b ks hb hk=>
 obtain⟨⟨b1,b2,b3⟩,b4,b5⟩:=Rb.fa hb
 obtain⟨⟨k1,k2,k3⟩,k4⟩:=Rs.fa hk
 rw[dw]
 rw[Call_fn Q (m:=m111) rfl rfl]
 apply ae;intro rhs hrhs
 simp(maxSteps:=4000000)(disch:=first|exact dz|fail)only[bB.u,seval,cut,m111,b1,b2,b3,k1,k2,k3,k4]
 repeat'((with_reducible first|refine sp ?_ ?_|fail)<;>intro hx<;>(try simp only[bI.u]at hx)<;>(first|exact xz|(try simp(maxSteps:=4000000)(disch:=first|exact dz|fail)only[bB.u,seval,cut,hx,m111,b1,b2,b3,k1,k2,k3,k4])))
 all_goals first|exact xz|(subst hrhs;(first|rfl|(refine congrArg some (congrArg MV.bool ?_);rw[Bool.eq_iff_iff];simp only[Bool.and_eq_true,Bool.or_eq_true,Bool.not_eq_true',Bool.not_eq_true,decide_eq_true_eq,decide_eq_false_iff_not,beq_iff_eq,Bool.false_eq_true,false_iff,true_iff,iff_true,iff_false,←UInt8.toNat_inj];omega)|(refine congrArg some (congrArg MV.bool ?_);rw[Bool.eq_iff_iff];simp[←UInt8.toNat_inj]at *<;>omega)|(refine congrArg some (congrArg MV.bool ?_);rw[Bool.eq_iff_iff];simp_all[←UInt8.toNat_inj]<;>omega)))
inductive PR where
 |er (e:Int)
 |ok (d:Dn)
def PR.mv:PR→MV
 | .er e=>.tup [.sl 2 [],.int .i64 e]
 | .ok d=>.tup [.sl 2 (bh d),.int .i64 0]
def ky:T→Option (T × T)
 | .mk c t _ _ [.mk c2 t2 _ _ [o,x]]=>if c=0∧t=17∧c2=0∧t2=16 then some (o,x)else none
 |_=>none
def gP (s:Dn × Int) (k:T):(Dn × Int) ⊕ Unit:=match ky k with
 |none=>.inr ()
 |some (o,x)=>match iJ o with
  | .no=>.inr ()
  | .ok n=>match x with
   | .mk cx tx _ xb kx=>if cx=0∧(tx=12∨tx=19)∧kx=[]then .inl (s.1++[(n,xb)],if bW xb=false∨dK xb≠tx then 31 else s.2)else .inr ()
def oq:T→PR
 | .mk c t m b ks=>if(wrW (.mk c t m b ks)).1≠0∨c≠0∨t≠16∨16<ks.length then .er 30 else match aG gP ([],0) ks with
  | .inr _=>.er 30
  | .inl s=>if s.2≠0 then .er s.2 else .ok s.1
def R_p:List (Nat × Option (Bool × Nat) × PK):=[(2,none,.el 2),(3,none,.other)]
def p_st (kv:MV) (n:Nat) (d:Dn) (e:Int) (i:Nat):DS:=⟨[(6,.own 0 d.length),(7,.int .i64 e),(38,kv),(39,.int .i64 n),(40,.int .i64 i)],[],[(0,.el 2 (bh d) false)],2⟩
theorem Ha (K:List Item) (l:List MV) (n:Nat) (d:Dn) (e:Int) (i:Nat) (hi:i<n) (v:MV) (k:T) (hg:l[i]? = some v) (hn:l.length=n) (hn2:n≤16) (hv:Rv v k) (h:dw k 17 1=false):
  am R_p (RunL Q m81k0 m81b0 K (p_st (.sl 5 l) n d e i))=some (PR.er 30).mv:=by
 have hc:=nq v k hv 17 1
 rw[h]at hc
 cases hv with
 | @mk _ c tg m w kv b ks hb hk=>
 obtain⟨⟨b1,b2,b3⟩,b4,b5⟩:=Rb.fa hb
 obtain⟨⟨k1,k2,k3⟩,k4⟩:=Rs.fa hk
 have hlt:decide ((i:Int)<(n:Int))=true:=by simp;omega
 have i1:(i:Int)<(n:Int):=by omega
 simp only[PR.mv]
 unfold p_st
 obtain⟨b',hb'⟩:∃b',b'=m81b0:=⟨_,rfl⟩
 rw[ah,show Item.lp m81k0 m81b0=Item.lp m81k0 b' by rw[hb']]
 apply ae;intro rhs hrhs
 simp(maxSteps:=4000000)(disch:=first|exact dz|fail)only[bB.u,seval,cut,m81b0,R_p,hlt,i1,hn,hg,hc,b1,b2,b3,k1,k2,k3,k4]
 subst hrhs;rfl
theorem Hb (K:List Item) (l:List MV) (n:Nat) (d:Dn) (e:Int) (i:Nat) (hi:i<n) (c tg:Int) (m:Bool) (w:MV) (b:List UInt8) (v1:MV) (t1:T) (hb:Rb w b) (hv1:Rv v1 t1) (hg:l[i]? = some (.agg [.int .i64 c,.int .i64 tg,.bool m,w,.sl 5 [v1]])) (hn:l.length=n) (hn2:n≤16) (h0:dw (.mk c tg m b [t1]) 17 1=true) (h:dw t1 16 2=false):
  am R_p (RunL Q m81k0 m81b0 K (p_st (.sl 5 l) n d e i))=some (PR.er 30).mv:=by
 have hc:=nq _ _ (Wv.mk (c:=c) (t:=tg) (m:=m) hb (.sl (.cons hv1 .nil))) 17 1
 rw[h0]at hc
 have hc1:=nq v1 t1 hv1 16 2
 rw[h]at hc1
 cases hv1 with
 | @mk _ c' tg' m' w' kv' b' ks' hb' hk'=>
 obtain⟨⟨b1,b2,b3⟩,b4,b5⟩:=Rb.fa hb
 obtain⟨⟨d1,d2,d3⟩,d4,d5⟩:=Rb.fa hb'
 obtain⟨⟨k1,k2,k3⟩,k4⟩:=Rs.fa hk'
 have hlt:decide ((i:Int)<(n:Int))=true:=by simp;omega
 have i1:(i:Int)<(n:Int):=by omega
 simp only[PR.mv]
 unfold p_st
 obtain⟨b',hb'⟩:∃b',b'=m81b0:=⟨_,rfl⟩
 rw[ah,show Item.lp m81k0 m81b0=Item.lp m81k0 b' by rw[hb']]
 apply ae;intro rhs hrhs
 simp(maxSteps:=4000000)(disch:=first|exact dz|fail)only[bB.u,seval,cut,m81b0,R_p,hlt,i1,hn,hg,hc,hc1,b1,b2,b3,d1,d2,d3,k1,k2,k3,k4]
 subst hrhs;rfl
theorem Hc (K:List Item) (l:List MV) (n:Nat) (d:Dn) (hd:d.length≤2^20) (e:Int) (i:Nat) (hi:i<n) (c tg:Int) (m:Bool) (w:MV) (b:List UInt8) (c1 t1:Int) (m1:Bool) (w1:MV) (b1:List UInt8) (vo:MV) (to:T) (cx tx:Int) (mx:Bool) (wx kx:MV) (xb:List UInt8) (xk:List T)
  (hb:Rb w b) (hb1:Rb w1 b1) (hvo:Rv vo to) (hbx:Rb wx xb) (hkx:Rs kx xk) (hxl:xb.length<1000000)
  (hg:l[i]? = some (.agg [.int .i64 c,.int .i64 tg,.bool m,w,.sl 5 [.agg [.int .i64 c1,.int .i64 t1,.bool m1,w1,.sl 5 [vo,.agg [.int .i64 cx,.int .i64 tx,.bool mx,wx,kx]]]]])) (hn:l.length=n) (hn2:n≤16)
  (h0:dw (.mk c tg m b [.mk c1 t1 m1 b1 [to,.mk cx tx mx xb xk]]) 17 1=true) (h1:dw (.mk c1 t1 m1 b1 [to,.mk cx tx mx xb xk]) 16 2=true) (ho:Call Q 83 [vo]=some (iJ to).mv):
  am R_p (RunL Q m81k0 m81b0 K (p_st (.sl 5 l) n d e i))=match iJ to with
   | .no=>some (PR.er 30).mv
   | .ok s=>if cx=0∧(tx=12∨tx=19)∧xk=[]then am R_p (RunL Q m81k0 m81b0 K (p_st (.sl 5 l) n (d++[(s,xb)]) (if bW xb=false∨dK xb≠tx then 31 else e) (i+1)))else some (PR.er 30).mv:=by
 have hvx:Rv (.agg [.int .i64 cx,.int .i64 tx,.bool mx,wx,kx]) (.mk cx tx mx xb xk):=.mk hbx hkx
 have hv1:Rv (.agg [.int .i64 c1,.int .i64 t1,.bool m1,w1,.sl 5 [vo,.agg [.int .i64 cx,.int .i64 tx,.bool mx,wx,kx]]]) (.mk c1 t1 m1 b1 [to,.mk cx tx mx xb xk]):=.mk hb1 (.sl (.cons hvo (.cons hvx .nil)))
 have hc:=nq _ _ (Wv.mk (c:=c) (t:=tg) (m:=m) hb (.sl (.cons hv1 .nil))) 17 1
 rw[h0]at hc
 have hc1:=nq _ _ hv1 16 2
 rw[h1]at hc1
 have hx1:=nq _ _ hvx 12 0
 have hx2:=nq _ _ hvx 19 0
 have htx:=c46 xb hxl
 have hpr:=Ja xb hxl
 have htag:(if xb.all printB=true then(19:Int)else 12)=dK xb:=rfl
 rw[htag]at hpr
 have hal:=cy d
 have e9:((i+1:Nat):Int)=(i:Int)+1:=rfl
 have hlt:decide ((i:Int)<(n:Int))=true:=by simp;omega
 have i1:(i:Int)<(n:Int):=by omega
 have xl:((xk.length:Int)=0)=(xk=[]):=by
  rw[eq_iff_iff]
  cases xk with
  |nil=>simp
  |cons a r=>simp;omega
 obtain⟨⟨g1,g2,g3⟩,g4,g5⟩:=Rb.fa hb1
 cases hvo with
 | @mk _ oc ot om ow okk ob oks hob hok=>
 obtain⟨⟨p1,p2,p3⟩,p4,p5⟩:=Rb.fa hob
 obtain⟨⟨q1,q2,q3⟩,q4⟩:=Rs.fa hok
 cases hoid:iJ (.mk oc ot om ob oks)with
 |no=>
  rw[hoid]at ho
  simp only[OR.mv]at ho
  simp only[PR.mv]
  unfold p_st
  cases hb<;>cases hbx<;>cases hkx
  all_goals(
  obtain⟨b',hb'⟩:∃b',b'=m81b0:=⟨_,rfl⟩
  rw[ah,show Item.lp m81k0 m81b0=Item.lp m81k0 b' by rw[hb']]
  apply ae;intro rhs hrhs
  simp(maxSteps:=4000000)(disch:=first|exact dz|fail)only[bB.u,seval,cut,m81b0,R_p,hlt,i1,hn,hg,hc,hc1,ho,g1,g2,g3,p1,p2,p3,q1,q2,q3]
  subst hrhs;rfl)
 |ok s=>
  rw[hoid]at ho
  simp only[OR.mv]at ho
  dsimp only
  by_cases hX:cx=0∧(tx=12∨tx=19)∧xk=[]
  ·rw[if_pos hX]
   obtain⟨rfl,hX2,rfl⟩:=hX
   have hat:bh (d++[(s,xb)])=bh d++[.agg [.str s,.str xb]]:=by simp[bh,attr]
   have hle:(d++[(s,xb)]).length=d.length+1:=by simp
   have y1:dw (.mk 0 tx mx xb []) 12 0=decide (tx=12):=by simp[dw]
   have y2:dw (.mk 0 tx mx xb []) 19 0=decide (tx=19):=by simp[dw]
   rw[y1]at hx1
   rw[y2]at hx2
   by_cases hbad:bW xb=false∨dK xb≠tx
   ·rw[if_pos hbad]
    unfold p_st
    rw[hat,hle,e9]
    cases htb:bW xb
    ·rw[htb]at htx
     rcases hX2 with rfl|rfl<;>cases hb<;>cases hbx<;>cases hkx
     all_goals(
     obtain⟨b',hb'⟩:∃b',b'=m81b0:=⟨_,rfl⟩
     rw[ah,show Item.lp m81k0 m81b0=Item.lp m81k0 b' by rw[hb']]
     apply ae;intro rhs hrhs
     simp(maxSteps:=4000000)(disch:=first|exact dz|fail)only[bB.u,seval,cut,m81b0,R_p,hlt,i1,hn,hg,hc,hc1,ho,hx1,hx2,htx,hpr,hal,g1,g2,g3,p1,p2,p3,q1,q2,q3]
     subst hrhs;(subst hb';refine(congrArg (am _) (aA Q _ _ _ _)).trans ?_;exact congrArg (am R_p) (af (canon_cong kr kr kr))))
    ·rw[htb]at htx
     have hT:(dK xb==tx)=false:=by
      rcases hbad with h|h
      ·rw[htb]at h;cases h
      ·simpa using h
     rcases hX2 with rfl|rfl<;>cases hb<;>cases hbx<;>cases hkx
     all_goals(
     obtain⟨b',hb'⟩:∃b',b'=m81b0:=⟨_,rfl⟩
     rw[ah,show Item.lp m81k0 m81b0=Item.lp m81k0 b' by rw[hb']]
     apply ae;intro rhs hrhs
     simp(maxSteps:=4000000)(disch:=first|exact dz|fail)only[bB.u,seval,cut,m81b0,R_p,hlt,i1,hn,hg,hc,hc1,ho,hx1,hx2,htx,hpr,hT,hal,g1,g2,g3,p1,p2,p3,q1,q2,q3]
     subst hrhs;(subst hb';refine(congrArg (am _) (aA Q _ _ _ _)).trans ?_;exact congrArg (am R_p) (af (canon_cong kr kr kr))))
   ·rw[if_neg hbad]
    have htb:bW xb=true:=by
     cases h:bW xb
     ·exact absurd (.inl h) hbad
     ·rfl
    rw[htb]at htx
    have hT:dK xb=tx:=Decidable.not_not.1 fun h=>hbad (.inr h)
    rw[hT]at hpr
    unfold p_st
    rw[hat,hle,e9]
    rcases hX2 with rfl|rfl<;>cases hb<;>cases hbx<;>cases hkx
    all_goals(
    obtain⟨b',hb'⟩:∃b',b'=m81b0:=⟨_,rfl⟩
    rw[ah,show Item.lp m81k0 m81b0=Item.lp m81k0 b' by rw[hb']]
    apply ae;intro rhs hrhs
    simp(maxSteps:=4000000)(disch:=first|exact dz|fail)only[bB.u,seval,cut,m81b0,R_p,hlt,i1,hn,hg,hc,hc1,ho,hx1,hx2,htx,hpr,hal,g1,g2,g3,p1,p2,p3,q1,q2,q3]
    subst hrhs;(subst hb';refine(congrArg (am _) (aA Q _ _ _ _)).trans ?_;exact congrArg (am R_p) (af (canon_cong kr kr kr))))
  ·rw[if_neg hX]
   simp only[PR.mv]
   have y1:dw (.mk cx tx mx xb xk) 12 0=false:=by
    simp only[dw,xl]
    cases h:(decide (cx=0)&&decide (tx=12)&&decide (xk=[]))
    ·rfl
    ·simp at h;exact absurd ⟨h.1.1,.inl h.1.2,h.2⟩ hX
   have y2:dw (.mk cx tx mx xb xk) 19 0=false:=by
    simp only[dw,xl]
    cases h:(decide (cx=0)&&decide (tx=19)&&decide (xk=[]))
    ·rfl
    ·simp at h;exact absurd ⟨h.1.1,.inr h.1.2,h.2⟩ hX
   rw[y1]at hx1
   rw[y2]at hx2
   unfold p_st
   cases hb<;>cases hbx<;>cases hkx
   all_goals(
   obtain⟨b',hb'⟩:∃b',b'=m81b0:=⟨_,rfl⟩
   rw[ah,show Item.lp m81k0 m81b0=Item.lp m81k0 b' by rw[hb']]
   apply ae;intro rhs hrhs
   simp(maxSteps:=4000000)(disch:=first|exact dz|fail)only[bB.u,seval,cut,m81b0,R_p,hlt,i1,hn,hg,hc,hc1,ho,hx1,hx2,g1,g2,g3,p1,p2,p3,q1,q2,q3]
   subst hrhs;rfl)
def p_tail:MCode:=(.seq (sq [qa 106 7,qC 107 .neq 106 0] (.cond (.v 107) (sq [qa 108 7,qn 2,qb 3 108] .ret) .skip)) (sq [qa 109 6,qb 2 109,qe 3 0] .ret))
theorem p_end (kv:MV) (n:Nat) (d:Dn) (hd:d.length≤2^20) (e:Int):am R_p (RunL Q m81k0 m81b0 [.blk 0,.code p_tail] (p_st kv n d e n))=some (PR.mv (if e≠0 then .er e else .ok d)):=by
 have hlt:decide ((n:Int)<(n:Int))=false:=by simp
 have hal:=cy d
 by_cases h:e=0
 ·subst h
  rw[if_neg (by simp)]
  simp only[PR.mv]
  unfold p_st
  obtain⟨b',hb'⟩:∃b',b'=m81b0:=⟨_,rfl⟩
  rw[ah,show Item.lp m81k0 m81b0=Item.lp m81k0 b' by rw[hb']]
  apply ae;intro rhs hrhs
  simp(maxSteps:=4000000)(disch:=first|exact dz|fail)only[bB.u,seval,cut,m81b0,R_p,p_tail,hlt,hal]
  subst hrhs;rfl
 ·rw[if_pos h]
  have h':(e==0)=false:=by simpa using h
  simp only[PR.mv]
  unfold p_st
  obtain⟨b',hb'⟩:∃b',b'=m81b0:=⟨_,rfl⟩
  rw[ah,show Item.lp m81k0 m81b0=Item.lp m81k0 b' by rw[hb']]
  apply ae;intro rhs hrhs
  simp(maxSteps:=4000000)(disch:=first|exact dz|fail)only[bB.u,seval,cut,m81b0,R_p,p_tail,hlt,hal,h']
  subst hrhs;rfl
theorem s8 {t:T} {tag n:Int} (h:dw t tag n=true):∃m b ks,t= .mk 0 tag m b ks∧(ks.length:Int)=n:=by
 obtain⟨c,tg,m,b,ks⟩:=t
 rw[dw]at h
 simp only[Bool.and_eq_true,decide_eq_true_eq]at h
 obtain⟨⟨rfl,rfl⟩,h⟩:=h
 exact⟨m,b,ks,rfl,h⟩
theorem Hd (K:List Item) (l:List MV) (ks:List T) (hl:Rl l ks) (hlow:bg ks) (hsz:szs ks<900000) (hn2:ks.length≤16) (s:Dn × Int) (i:Nat) (k:T) (hI:s.1.length≤i) (hg:ks[i]? = some k):
  cS (fun s i=>s.1.length≤i) (fun s i=>am R_p (RunL Q m81k0 m81b0 K (p_st (.sl 5 l) ks.length s.1 s.2 i))) (fun _=>some (PR.er 30).mv)
   (am R_p (RunL Q m81k0 m81b0 K (p_st (.sl 5 l) ks.length s.1 s.2 i))) (i+1) (gP s k):=by
 obtain⟨hi,hxx⟩:=List.getElem?_eq_some_iff.1 hg
 obtain⟨v,hv,hr⟩:=hl.get hg
 have hll:=hl.length
 have hkm:=List.mem_of_getElem? hg
 have hlk:=jk hlow k hkm
 have hsk:=xL hkm
 obtain⟨d,e⟩:=s
 simp only at hI ⊢
 cases h1:dw k 17 1
 ·have ht:ky k=none:=by
   cases hk:ky k with
   |none=>rfl
   |some p=>
    exfalso
    unfold ky at hk
    split at hk
    ·split at hk
     ·rename_i hc
      rw[dw,hc.1,hc.2.1]at h1
      simp at h1
     ·cases hk
    ·cases hk
  unfold gP
  rw[ht]
  exact Ha K l _ d e i hi v k hv hll hn2 hr h1
 obtain⟨m,b,k1s,rfl,hk1⟩:=s8 h1
 match k1s,hk1 with
 | [t1],_=>
 cases hr with
 | @mk _ _ _ _ w kv _ _ hb hk=>
 cases hk with
 | @sl _ l1 _ hl1=>
 cases hl1 with
 | @cons _ v1 _ lr _ hv1 hr1=>
 cases hr1
 cases h2:dw t1 16 2
 ·have ht:ky (.mk 0 17 m b [t1])=none:=by
   cases hk:ky (.mk 0 17 m b [t1])with
   |none=>rfl
   |some p=>
    exfalso
    unfold ky at hk
    split at hk
    ·split at hk
     ·rename_i heq hc
      cases heq
      rw[dw,hc.2.2.1,hc.2.2.2]at h2
      simp at h2
     ·cases hk
    ·cases hk
  unfold gP
  rw[ht]
  exact Hb K l _ d e i hi 0 17 m w b v1 t1 hb hv1 hv hll hn2 h1 h2
 obtain⟨m1,b1,k2s,rfl,hk2⟩:=s8 h2
 match k2s,hk2 with
 | [to,tx],_=>
 cases hv1 with
 | @mk _ _ _ _ w1 kv1 _ _ hb1 hkk=>
 cases hkk with
 | @sl _ l2 _ hl2=>
 cases hl2 with
 | @cons _ vo _ lr2 _ hvo hr2=>
 cases hr2 with
 | @cons _ vx _ lr3 _ hvx hr3=>
 cases hr3
 obtain⟨cx,txx,mx,xb,xk⟩:=tx
 have htw:ky (.mk 0 17 m b [.mk 0 16 m1 b1 [to,.mk cx txx mx xb xk]])=some (to,.mk cx txx mx xb xk):=by
  simp[ky]
 simp only[low,bg,sz,szs]at hlk hsk
 have ho:=IH vo to hvo hlk.2.1.2.1 (by omega)
 cases hvx with
 | @mk _ _ _ _ wx kx _ _ hbx hkx=>
 have hm:=Hc K l ks.length d (by omega) e i hi 0 17 m w b 0 16 m1 w1 b1 vo to cx txx mx wx kx xb xk hb hb1 hvo hbx hkx (by omega) hv hll hn2 h1 h2 ho
 unfold gP
 rw[htw]
 dsimp only
 rw[hm]
 cases iJ to with
 |no=>rfl
 |ok n=>
  dsimp only
  by_cases hX:cx=0∧(txx=12∨txx=19)∧xk=[]
  ·rw[if_pos hX,if_pos hX]
   exact⟨by simp;omega,rfl⟩
  ·rw[if_neg hX,if_neg hX];rfl
theorem s9 (v:MV) (t:T) (hv:Rv v t) (hl:low t) (hs:sz t<900000):Call Q 81 [v]=some (oq t).mv:=by
 have hw:=iZ v t hv hl (by omega)
 cases hv with
 | @mk _ c tg m w k b ks hb hk=>
 rw[sz]at hs
 rw[low]at hl
 have his:=nq _ _ (Wv.mk (c:=c) (t:=tg) (m:=m) hb hk) 16 (ks.length:Nat)
 have y:dw (.mk c tg m b ks) 16 (ks.length:Nat)=(decide (c=0)&&decide (tg=16)):=by simp[dw]
 rw[y]at his
 rw[oq]
 obtain⟨e0,he0⟩:∃e0,e0=(wrW (.mk c tg m b ks)).1:=⟨_,rfl⟩
 rw[←he0]at hw ⊢
 generalize(wrW (.mk c tg m b ks)).2=bs at hw
 have hkl:=g_ ks
 have hlen:∀st,lenV false k st=some (.int .i64 ks.length):=(Rs.fa hk).2
 by_cases h:e0≠0∨c≠0∨tg≠16∨16<ks.length
 ·rw[if_pos h]
  simp only[PR.mv]
  rw[Call_fn Q (m:=m81) rfl rfl]
  cases hk with
  |nil=>
   rw[show(([]:List T).length:Int)=0 from rfl]at his
   cases hb
   all_goals(
   apply ae;intro rhs hrhs
   simp(maxSteps:=4000000)(disch:=first|exact dz|fail)only[bB.u,seval,cut,m81,hw,his]
   repeat'((with_reducible first|refine sp ?_ ?_|fail)<;>intro hx<;>(try simp only[bI.u]at hx)<;>(first|exact xz|(try simp(maxSteps:=4000000)(disch:=first|exact dz|fail)only[bB.u,seval,cut,hx,m81,hw,his])))
   all_goals first|exact xz|(subst hrhs;first|rfl|(exfalso;(try simp only[List.length_nil]at h);omega)))
  | @sl _ l _ hll=>
   have hln:=hll.length
   cases hb
   all_goals(
   apply ae;intro rhs hrhs
   simp(maxSteps:=4000000)(disch:=first|exact dz|fail)only[bB.u,seval,cut,m81,hw,his,hln]
   repeat'((with_reducible first|refine sp ?_ ?_|fail)<;>intro hx<;>(try simp only[bI.u]at hx)<;>(first|exact xz|(try simp(maxSteps:=4000000)(disch:=first|exact dz|fail)only[bB.u,seval,cut,hx,m81,hw,his,hln])))
   all_goals first|exact xz|(subst hrhs;first|rfl|(exfalso;(try simp only[List.length_nil]at h);omega)))
 rw[if_neg h]
 have h1:e0=0:=Decidable.not_not.1 fun x=>h (.inl x)
 have h2:c=0:=Decidable.not_not.1 fun x=>h (.inr (.inl x))
 have h3:tg=16:=Decidable.not_not.1 fun x=>h (.inr (.inr (.inl x)))
 have h4:ks.length≤16:=Nat.le_of_not_lt fun x=>h (.inr (.inr (.inr x)))
 clear he0
 subst h1;subst h2;subst h3
 have h4':decide (16<(ks.length:Int))=false:=by simp;omega
 cases hk with
 |nil=>
  rw[show(([]:List T).length:Int)=0 from rfl]at his
  have he:=p_end .nilsl 0 [] (by simp) 0
  rw[if_neg (by simp)]at he
  show Call Q 81 _=some (PR.ok []).mv
  unfold p_st at he
  rw[Call_fn Q (m:=m81) rfl rfl]
  cases hb
  all_goals(
  apply ae;intro rhs hrhs
  simp(maxSteps:=4000000)(disch:=first|exact dz|fail)only[bB.u,seval,cut,m81,hw,his,aq]
  repeat'((with_reducible first|refine sp ?_ ?_|fail)<;>intro hx<;>(try simp only[bI.u]at hx)<;>(first|exact xz|(try simp(maxSteps:=4000000)(disch:=first|exact dz|fail)only[bB.u,seval,cut,hx,m81,hw,his,aq])))
  all_goals first|exact xz|(subst hrhs;exact(congrArg (am _) (af (canon_cong kr kr kr))).trans he))
 | @sl _ l _ hll=>
  have hln:=hll.length
  have loop:am R_p (RunL Q m81k0 m81b0 [.blk 0,.code p_tail] (p_st (.sl 5 l) ks.length [] 0 0))=some (PR.mv (match aG gP ([],0) ks with
  | .inr _=>.er 30
  | .inl s=>if s.2≠0 then .er s.2 else .ok s.1)):=by
   refine gC ks gP (fun s i=>am R_p (RunL Q m81k0 m81b0 [.blk 0,.code p_tail] (p_st (.sl 5 l) ks.length s.1 s.2 i))) (fun _=>some (PR.er 30).mv) (fun s i=>s.1.length≤i)
    (fun s i k hI hg=>Hd _ l ks hll hl.2 (by omega) h4 s i k hI hg) ([],0) (by simp) rfl ?_ ?_
   ·intro s hf hI
    rw[hf]
    exact p_end _ _ s.1 (by omega) s.2
   ·intro u hf
    rw[hf]
  unfold p_st at loop
  rw[Call_fn Q (m:=m81) rfl rfl]
  cases hb
  all_goals(
  apply ae;intro rhs hrhs
  simp(maxSteps:=4000000)(disch:=first|exact dz|fail)only[bB.u,seval,cut,m81,hw,his,hln,h4',aq]
  repeat'((with_reducible first|refine sp ?_ ?_|fail)<;>intro hx<;>(try simp only[bI.u]at hx)<;>(first|exact xz|(try simp(maxSteps:=4000000)(disch:=first|exact dz|fail)only[bB.u,seval,cut,hx,m81,hw,his,hln,h4',aq])))
  all_goals first|exact xz|(subst hrhs;exact(congrArg (am _) (af (canon_cong kr kr kr))).trans loop))
theorem He (a b:UInt8) (ha:dg a=true) (hb:dg b=true):Lib.atoiAll [a,b]= .ok (tv a b):=by
 unfold dg at ha hb
 simp only[Bool.and_eq_true,decide_eq_true_eq]at ha hb
 rw[Lib.atoiAll_plain a [b] (by omega) (by omega)]
 have h:Lib.parseMag [a,b]= .ok ((a.toNat-48)*10+(b.toNat-48)):=by
  unfold Lib.parseMag
  rw[if_neg (by simp)]
  simp only[Lib.parseUint10]
  rw[if_pos ha,if_neg (by omega),if_neg (by omega),if_pos hb,if_neg (by omega),if_neg (by omega)]
  simp
 rw[h]
 simp only[Lib.signless]
 rw[if_neg (by omega)]
 congr 1
 unfold tv
 omega
theorem Hf (a b c d:UInt8) (ha:dg a=true) (hb:dg b=true) (hc:dg c=true) (hd:dg d=true):Lib.atoiAll [a,b,c,d]= .ok (100*tv a b+tv c d):=by
 unfold dg at ha hb hc hd
 simp only[Bool.and_eq_true,decide_eq_true_eq]at ha hb hc hd
 rw[Lib.atoiAll_plain a [b,c,d] (by omega) (by omega)]
 have h:Lib.parseMag [a,b,c,d]= .ok (1000*(a.toNat-48)+100*(b.toNat-48)+10*(c.toNat-48)+(d.toNat-48)):=by
  unfold Lib.parseMag
  rw[if_neg (by simp)]
  simp only[Lib.parseUint10]
  rw[if_pos ha,if_neg (by omega),if_neg (by omega),if_pos hb,if_neg (by omega),if_neg (by omega),if_pos hc,if_neg (by omega),if_neg (by omega),if_pos hd,if_neg (by omega),if_neg (by omega)]
  congr 1;omega
 rw[h]
 simp only[Lib.signless]
 rw[if_neg (by omega)]
 congr 1
 unfold tv
 omega
theorem eD (a b:UInt8) (ha:dg a=true) (hb:dg b=true):Call Q 114 [.str [a,b]]=some (.tup [.int .i64 (tv a b),.nilif]):=
 rL (by simp) (He a b ha hb) (by have:=Lib.atoiAll_bounds (He a b ha hb);omega)
theorem rQ (a b c d:UInt8) (ha:dg a=true) (hb:dg b=true) (hc:dg c=true) (hd:dg d=true):Call Q 114 [.str [a,b,c,d]]=some (.tup [.int .i64 (100*tv a b+tv c d),.nilif]):=
 rL (by simp) (Hf a b c d ha hb hc hd) (by have:=Lib.atoiAll_bounds (Hf a b c d ha hb hc hd);omega)
def lH (tg n0 n1 n2 n3 n4 n5:Int):Int × Int:=if n0<1970∨tg=24∧n0<2050 then(0,32)else(86400*a_ n0 n1 n2+3600*n3+60*n4+n5,0)
def fW (a b:UInt8):Int:=if 53≤a.toNat then 1900+tv a b else 2000+tv a b
def pY (tg:Int):List UInt8→Int × Int
 | [a0,a1,a2,a3,a4,a5,a6,a7,a8,a9,a10,a11,_]=>lH tg (fW a0 a1) (tv a2 a3) (tv a4 a5) (tv a6 a7) (tv a8 a9) (tv a10 a11)
 | [y0,y1,a0,a1,a2,a3,a4,a5,a6,a7,a8,a9,a10,a11,_]=>lH tg (100*tv y0 y1+tv a0 a1) (tv a2 a3) (tv a4 a5) (tv a6 a7) (tv a8 a9) (tv a10 a11)
 |_=>(0,30)
def nR:T→Int × Int
 | .mk c t m b ks=>if(wrW (.mk c t m b ks)).1≠0∨c≠0∨t≠23∧t≠24 then(0,30)else pY t b
def R_m:List (Nat × Option (Bool × Nat) × PK):=[(2,none,.other),(3,none,.other)]
def m_tail:MCode:=(.seq (sq [qa 73 7,qs 74 1 73 0,qc 75 74,qx 76 .lss 75 1970,qf 77 76,qQ 78 1 1 77,qO 79 78 77,qW 80 .eql 79 24 77,gF 81 (.mv (.t 80)) 77,qM 82 7 81,qS 83 1 82 0 81,qP 84 83 81,qV 85 .lss 84 2050 81,gF 86 (.pick (.t 81) (.t 85) qF) 77,qq 87 77 86] (.cond (.v 87) (sq [qe 2 0,qe 3 32] .ret) .skip)) (.seq (.rgd [qa 88 7,qs 89 1 88 0,qc 90 89,qa 91 7,qs 92 1 91 1,qc 93 92,qa 94 7,qs 95 1 94 2,qc 96 95,oT 97 (.call 115 [.t 90,.t 93,.t 96]),oT 98 (.bin .mul (qk 86400) (.t 97)),qa 99 7,qs 100 1 99 3,qc 101 100,oT 102 (.bin .mul (qk 3600) (.t 101)),qB 103 .add 98 102,qa 104 7,qs 105 1 104 4,qc 106 105,oT 107 (.bin .mul (qk 60) (.t 106)),qB 108 .add 103 107,qa 109 7,qs 110 1 109 5,qc 111 110,qB 112 .add 108 111,qb 2 112,qe 3 0] (bn [[],[0],[1],[],[3],[4],[],[6],[7],[2,5,8],[9],[],[11],[12],[13],[10,14],[],[16],[17],[18],[15,19],[],[21],[22],[20,23],[24],[25]])) .ret))
def jq (tg:Int) (m:Bool) (b:List UInt8) (k:MV) (ss:List MV) (a:Nat) (l:List Int) (i:Nat):DS:=⟨[(1,.ptr 0 0),(7,.own a l.length),(59,.agg ss),(60,.int .i64 i)],[],[(0,.cells [.int .i64 0,.int .i64 tg,.bool m,.bs b,k]),(a,.el 1 (iv l) false)],3⟩
theorem kO (K:List Item) (tg:Int) (m:Bool) (b:List UInt8) (k:MV) (hk:Rk k) (s0 s1 s2 s3 s4 s5:List UInt8) (a:Nat) (ha:1≤a∧a≤2) (l:List Int) (hl:l.length≤6) (i:Nat) (hi:i<6) (n:Int) (s:List UInt8) (hs:[s0,s1,s2,s3,s4,s5][i]? = some s) (hc:Call Q 114 [.str s]=some (.tup [.int .i64 n,.nilif])):
  am R_m (RunL Q m82k0 m82b0 K (jq tg m b k [.str s0,.str s1,.str s2,.str s3,.str s4,.str s5] a l i))=am R_m (RunL Q m82k0 m82b0 K (jq tg m b k [.str s0,.str s1,.str s2,.str s3,.str s4,.str s5] 1 (l++[n]) (i+1))):=by
 have hlt:decide ((i:Int)<6)=true:=by simp;omega
 have i1:(i:Int)<6:=by omega
 have hg:[MV.str s0,.str s1,.str s2,.str s3,.str s4,.str s5][i]? = some (.str s):=by
  have:=congrArg (Option.map MV.str) hs
  rw[←List.getElem?_map]at this
  exact this
 have hle:(l++[n]).length=l.length+1:=by simp
 have hil:=Ag l
 have e9:((i+1:Nat):Int)=(i:Int)+1:=rfl
 unfold jq
 rw[xH,hle,e9]
 generalize hss:[MV.str s0,.str s1,.str s2,.str s3,.str s4,.str s5]=ss at hg ⊢
 have hsl:ss.length=6:=by rw[←hss];rfl
 cases hk
 all_goals(
 obtain⟨b',hb'⟩:∃b',b'=m82b0:=⟨_,rfl⟩
 rw[ah,show Item.lp m82k0 m82b0=Item.lp m82k0 b' by rw[hb']]
 apply ae;intro rhs hrhs
 simp(maxSteps:=4000000)(disch:=first|exact dz|fail)only[bB.u,seval,cut,m82b0,R_m,hlt,i1,hg,hsl,hc,hil]
 subst hrhs;(subst hb';refine(congrArg (am _) (aA Q _ _ _ _)).trans ?_;exact congrArg (am R_m) (af (canon_cong kr kr kr))))
theorem yW (tg:Int) (htg:tg=23∨tg=24) (m:Bool) (b:List UInt8) (k:MV) (hk:Rk k) (ss:List MV) (n0 n1 n2 n3 n4 n5:Int) (h0:0≤n0∧n0<10000) (h1:1≤n1∧n1<100) (h2:0≤n2∧n2<100) (h3:0≤n3∧n3<100) (h4:0≤n4∧n4<100) (h5:0≤n5∧n5<100):
  am R_m (RunL Q m82k0 m82b0 [.blk 0,.code m_tail] (jq tg m b k ss 1 [n0,n1,n2,n3,n4,n5] 6))=some (.tup [.int .i64 (lH tg n0 n1 n2 n3 n4 n5).1,.int .i64 (lH tg n0 n1 n2 n3 n4 n5).2]):=by
 unfold lH
 by_cases h:n0<1970∨tg=24∧n0<2050
 ·rw[if_pos h]
  unfold jq iv
  rcases htg with rfl|rfl<;>cases hk
  all_goals(
  obtain⟨b',hb'⟩:∃b',b'=m82b0:=⟨_,rfl⟩
  rw[ah,show Item.lp m82k0 m82b0=Item.lp m82k0 b' by rw[hb']]
  apply ae;intro rhs hrhs
  simp(maxSteps:=4000000)(disch:=first|exact dz|fail)only[bB.u,seval,cut,m82b0,R_m,m_tail]
  repeat'((with_reducible first|refine sp ?_ ?_|fail)<;>intro hx<;>(try simp only[bI.u]at hx)<;>(first|exact xz|(try simp(maxSteps:=4000000)(disch:=first|exact dz|fail)only[bB.u,seval,cut,hx,m82b0,R_m,m_tail])))
  all_goals first|exact xz|(subst hrhs;rfl))
 ·rw[if_neg h]
  have c:=AJ n0 n1 n2 (by omega) (by omega) (by omega)
  have hB: -800000≤a_ n0 n1 n2∧a_ n0 n1 n2≤4000000:=by
   simp only[a_,im,oI];split<;>omega
  generalize a_ n0 n1 n2=D at c hB ⊢
  unfold jq iv
  rcases htg with rfl|rfl<;>cases hk
  all_goals(
  obtain⟨b',hb'⟩:∃b',b'=m82b0:=⟨_,rfl⟩
  rw[ah,show Item.lp m82k0 m82b0=Item.lp m82k0 b' by rw[hb']]
  apply ae;intro rhs hrhs
  simp(maxSteps:=4000000)(disch:=first|exact dz|fail)only[bB.u,seval,cut,m82b0,R_m,m_tail,c]
  repeat'((with_reducible first|refine sp ?_ ?_|fail)<;>intro hx<;>(try simp only[bI.u]at hx)<;>(first|exact xz|(try simp(maxSteps:=4000000)(disch:=first|exact dz|fail)only[bB.u,seval,cut,hx,m82b0,R_m,m_tail,c])))
  all_goals first|exact xz|(subst hrhs;rfl))
theorem vP (b:List UInt8):∀(js:List Nat) (l r:List Int),aG (gTm b) l js= .inl r→(∀j∈js,dg (g0 b (2*j))=true∧dg (g0 b (2*j+1))=true)∧r=l++js.map fun j=>tv (g0 b (2*j)) (g0 b (2*j+1))
 | [],l,r,h=>by cases h;simp
 |j::js,l,r,h=>by
  rw[bw]at h
  cases hc:(dg (g0 b (2*j))&&dg (g0 b (2*j+1)))
  ·rw[show gTm b l j= .inr () by unfold gTm;rw[hc];rfl]at h;cases h
  ·rw[show gTm b l j= .inl (l++[tv (g0 b (2*j)) (g0 b (2*j+1))]) by unfold gTm;rw[hc];rfl]at h
   obtain⟨h1,h2⟩:=vP b js _ _ h
   simp only[Bool.and_eq_true]at hc
   refine⟨?_,by rw[h2];simp⟩
   intro i hi
   rcases List.mem_cons.1 hi with rfl|hi
   ·exact hc
   ·exact h1 i hi
theorem dj (x y:UInt8) (hx:dg x=true) (hy:dg y=true):0≤tv x y∧tv x y≤99:=Ah x y (by rw[hx,hy];rfl)
theorem thirteen {α:Type} (l:List α) (h:l.length=13):∃a0 a1 a2 a3 a4 a5 a6 a7 a8 a9 a10 a11 a12,l=[a0,a1,a2,a3,a4,a5,a6,a7,a8,a9,a10,a11,a12]:=by
 match l,h with
 | [a0,a1,a2,a3,a4,a5,a6,a7,a8,a9,a10,a11,a12],_=>exact⟨a0,a1,a2,a3,a4,a5,a6,a7,a8,a9,a10,a11,a12,rfl⟩
theorem fifteen {α:Type} (l:List α) (h:l.length=15):∃y0 y1 a0 a1 a2 a3 a4 a5 a6 a7 a8 a9 a10 a11 a12,l=[y0,y1,a0,a1,a2,a3,a4,a5,a6,a7,a8,a9,a10,a11,a12]:=by
 match l,h with
 | [y0,y1,a0,a1,a2,a3,a4,a5,a6,a7,a8,a9,a10,a11,a12],_=>exact⟨y0,y1,a0,a1,a2,a3,a4,a5,a6,a7,a8,a9,a10,a11,a12,rfl⟩
theorem yX (K:List Item) (tg:Int) (m:Bool) (b:List UInt8) (k:MV) (hk:Rk k) (s0 s1 s2 s3 s4 s5:List UInt8) (n0 n1 n2 n3 n4 n5:Int)
  (h0:Call Q 114 [.str s0]=some (.tup [.int .i64 n0,.nilif])) (h1:Call Q 114 [.str s1]=some (.tup [.int .i64 n1,.nilif])) (h2:Call Q 114 [.str s2]=some (.tup [.int .i64 n2,.nilif]))
  (h3:Call Q 114 [.str s3]=some (.tup [.int .i64 n3,.nilif])) (h4:Call Q 114 [.str s4]=some (.tup [.int .i64 n4,.nilif])) (h5:Call Q 114 [.str s5]=some (.tup [.int .i64 n5,.nilif])):
  am R_m (RunL Q m82k0 m82b0 K (jq tg m b k [.str s0,.str s1,.str s2,.str s3,.str s4,.str s5] 2 [] 0))=am R_m (RunL Q m82k0 m82b0 K (jq tg m b k [.str s0,.str s1,.str s2,.str s3,.str s4,.str s5] 1 [n0,n1,n2,n3,n4,n5] 6)):=by
 rw[kO K tg m b k hk s0 s1 s2 s3 s4 s5 2 (by omega) [] (by simp) 0 (by omega) n0 s0 rfl h0]
 rw[kO K tg m b k hk s0 s1 s2 s3 s4 s5 1 (by omega) _ (by simp) 1 (by omega) n1 s1 rfl h1]
 rw[kO K tg m b k hk s0 s1 s2 s3 s4 s5 1 (by omega) _ (by simp) 2 (by omega) n2 s2 rfl h2]
 rw[kO K tg m b k hk s0 s1 s2 s3 s4 s5 1 (by omega) _ (by simp) 3 (by omega) n3 s3 rfl h3]
 rw[kO K tg m b k hk s0 s1 s2 s3 s4 s5 1 (by omega) _ (by simp) 4 (by omega) n4 s4 rfl h4]
 rw[kO K tg m b k hk s0 s1 s2 s3 s4 s5 1 (by omega) _ (by simp) 5 (by omega) n5 s5 rfl h5]
 rfl
theorem Hg (v:MV) (t:T) (hv:Rv v t) (hl:low t) (hs:sz t≤2^29):Call Q 82 [v]=some (.tup [.int .i64 (nR t).1,.int .i64 (nR t).2]):=by
 have hw:=iZ v t hv hl (by omega)
 cases hv with
 | @mk _ c tg m w k b ks hb hk=>
 have hRk:Rk k:=by cases hk<;>constructor
 rw[nR]
 by_cases h:(wrW (.mk c tg m b ks)).1≠0∨c≠0∨tg≠23∧tg≠24
 ·rw[if_pos h]
  generalize wrW (.mk c tg m b ks)=W at hw h
  obtain⟨e,bs⟩:=W
  simp only at hw h
  rw[Call_fn Q (m:=m82) rfl rfl]
  cases hb<;>cases hk
  all_goals(
  apply ae;intro rhs hrhs
  simp(maxSteps:=4000000)(disch:=first|exact dz|fail)only[bB.u,seval,cut,m82,hw]
  repeat'((with_reducible first|refine sp ?_ ?_|fail)<;>intro hx<;>(try simp only[bI.u]at hx)<;>(first|exact xz|(try simp(maxSteps:=4000000)(disch:=first|exact dz|fail)only[bB.u,seval,cut,hx,m82,hw])))
  all_goals first|exact xz|(subst hrhs;rfl))
 rw[if_neg h]
 have h1:(wrW (.mk c tg m b ks)).1=0:=Decidable.not_not.1 fun x=>h (.inl x)
 have h2:c=0:=Decidable.not_not.1 fun x=>h (.inr (.inl x))
 have h3:tg=23∨tg=24:=by omega
 subst h2
 have hf:=(iR (fK h1).1).2.2.1
 have hm:m=false:=by
  cases m
  ·rfl
  ·have hb0:=(iR (fK h1).1).2.2.2.1 rfl
   subst hb0
   rcases h3 with rfl|rfl<;>exact absurd hf (by decide)
 subst hm
 rw[h1]at hw
 generalize(wrW (.mk 0 tg false b ks)).2=bs at hw
 rcases h3 with rfl|rfl
 ·have hT:eI b 6=true:=by
   cases hx:eI b 6
   ·simp[aR,right,hx]at hf
   ·rfl
  unfold eI at hT
  simp only[Bool.and_eq_true,decide_eq_true_eq]at hT
  obtain⟨⟨hlen,hz⟩,hfold⟩:=hT
  cases hr:aG (gTm b) [] (List.range 6)with
  |inr u=>rw[hr]at hfold;cases hfold
  |inl r=>
  rw[hr]at hfold
  obtain⟨hd,rfl⟩:=vP b _ _ _ hr
  obtain⟨a0,a1,a2,a3,a4,a5,a6,a7,a8,a9,a10,a11,a12,rfl⟩:=thirteen b hlen
  have d0:=hd 0 (by simp)
  have d1:=hd 1 (by simp)
  have d2:=hd 2 (by simp)
  have d3:=hd 3 (by simp)
  have d4:=hd 4 (by simp)
  have d5:=hd 5 (by simp)
  simp only[g0,List.getD_cons_zero,List.getD_cons_succ,Nat.mul_zero,Nat.zero_add,Nat.reduceMul,Nat.reduceAdd,Nat.mul_one]at d0 d1 d2 d3 d4 d5
  rw[show(List.range 6)=[0,1,2,3,4,5]from rfl]at hfold
  simp only[g0,List.map_cons,List.map_nil,List.nil_append,List.getD_cons_zero,List.getD_cons_succ,Nat.mul_zero,Nat.zero_add,Nat.reduceMul,Nat.reduceAdd,Nat.mul_one,ku,if_true,dC,Bool.and_eq_true,decide_eq_true_eq]at hfold
  have r0:=dj a0 a1 d0.1 d0.2
  have r1:=dj a2 a3 d1.1 d1.2
  have r2:=dj a4 a5 d2.1 d2.2
  have r3:=dj a6 a7 d3.1 d3.2
  have r4:=dj a8 a9 d4.1 d4.2
  have r5:=dj a10 a11 d5.1 d5.2
  have q1:=eD a2 a3 d1.1 d1.2
  have q2:=eD a4 a5 d2.1 d2.2
  have q3:=eD a6 a7 d3.1 d3.2
  have q4:=eD a8 a9 d4.1 d4.2
  have q5:=eD a10 a11 d5.1 d5.2
  cases hb with
  |bs=>
  simp only[pY]
  by_cases hc:53≤a0.toNat
  ·have hc':decide (53≤(a0.toNat:Int))=true:=by simp;omega
   have q0:=rQ 49 57 a0 a1 rfl rfl d0.1 d0.2
   rw[show 100*tv 49 57+tv a0 a1=fW a0 a1 by rw[fW,if_pos hc];rfl]at q0
   have hcr:1900≤fW a0 a1∧fW a0 a1<2100:=by rw[fW,if_pos hc];omega
   have hA:=(yX [.blk 0,.code m_tail] 23 false [a0,a1,a2,a3,a4,a5,a6,a7,a8,a9,a10,a11,a12] k hRk [49,57,a0,a1] [a2,a3] [a4,a5] [a6,a7] [a8,a9] [a10,a11] _ _ _ _ _ _ q0 q1 q2 q3 q4 q5).trans (yW 23 (.inl rfl) false _ k hRk _ (fW a0 a1) (tv a2 a3) (tv a4 a5) (tv a6 a7) (tv a8 a9) (tv a10 a11) (by omega) (by omega) (by omega) (by omega) (by omega) (by omega))
   unfold jq at hA
   rw[Call_fn Q (m:=m82) rfl rfl]
   cases hk
   all_goals(
   apply ae;intro rhs hrhs
   simp(maxSteps:=4000000)(disch:=first|exact dz|fail)only[bB.u,seval,cut,m82,aq,hw,List.getD_cons_zero,hc']
   repeat'((with_reducible first|refine sp ?_ ?_|fail)<;>intro hx<;>(try simp only[bI.u]at hx)<;>(first|exact xz|(try simp(maxSteps:=4000000)(disch:=first|exact dz|fail)only[bB.u,seval,cut,hx,m82,aq,hw,List.getD_cons_zero,hc'])))
   all_goals first|exact xz|(subst hrhs;exact(congrArg (am _) (af (canon_cong kr kr kr))).trans hA))
  ·have hc':decide (53≤(a0.toNat:Int))=false:=by simp;omega
   have q0:=rQ 50 48 a0 a1 rfl rfl d0.1 d0.2
   rw[show 100*tv 50 48+tv a0 a1=fW a0 a1 by rw[fW,if_neg hc];rfl]at q0
   have hcr:1900≤fW a0 a1∧fW a0 a1<2100:=by rw[fW,if_neg hc];omega
   have hA:=(yX [.blk 0,.code m_tail] 23 false [a0,a1,a2,a3,a4,a5,a6,a7,a8,a9,a10,a11,a12] k hRk [50,48,a0,a1] [a2,a3] [a4,a5] [a6,a7] [a8,a9] [a10,a11] _ _ _ _ _ _ q0 q1 q2 q3 q4 q5).trans (yW 23 (.inl rfl) false _ k hRk _ (fW a0 a1) (tv a2 a3) (tv a4 a5) (tv a6 a7) (tv a8 a9) (tv a10 a11) (by omega) (by omega) (by omega) (by omega) (by omega) (by omega))
   unfold jq at hA
   rw[Call_fn Q (m:=m82) rfl rfl]
   cases hk
   all_goals(
   apply ae;intro rhs hrhs
   simp(maxSteps:=4000000)(disch:=first|exact dz|fail)only[bB.u,seval,cut,m82,aq,hw,List.getD_cons_zero,hc']
   repeat'((with_reducible first|refine sp ?_ ?_|fail)<;>intro hx<;>(try simp only[bI.u]at hx)<;>(first|exact xz|(try simp(maxSteps:=4000000)(disch:=first|exact dz|fail)only[bB.u,seval,cut,hx,m82,aq,hw,List.getD_cons_zero,hc'])))
   all_goals first|exact xz|(subst hrhs;exact(congrArg (am _) (af (canon_cong kr kr kr))).trans hA))
 ·have hT:eI b 7=true:=by
   cases hx:eI b 7
   ·simp[aR,right,hx]at hf
   ·rfl
  unfold eI at hT
  simp only[Bool.and_eq_true,decide_eq_true_eq]at hT
  obtain⟨⟨hlen,hz⟩,hfold⟩:=hT
  cases hr:aG (gTm b) [] (List.range 7)with
  |inr u=>rw[hr]at hfold;cases hfold
  |inl r=>
  rw[hr]at hfold
  obtain⟨hd,rfl⟩:=vP b _ _ _ hr
  obtain⟨y0,y1,a0,a1,a2,a3,a4,a5,a6,a7,a8,a9,a10,a11,a12,rfl⟩:=fifteen b hlen
  have dy:=hd 0 (by simp)
  have d0:=hd 1 (by simp)
  have d1:=hd 2 (by simp)
  have d2:=hd 3 (by simp)
  have d3:=hd 4 (by simp)
  have d4:=hd 5 (by simp)
  have d5:=hd 6 (by simp)
  simp only[g0,List.getD_cons_zero,List.getD_cons_succ,Nat.mul_zero,Nat.zero_add,Nat.reduceMul,Nat.reduceAdd,Nat.mul_one]at dy d0 d1 d2 d3 d4 d5
  rw[show(List.range 7)=[0,1,2,3,4,5,6]from rfl]at hfold
  simp only[g0,List.map_cons,List.map_nil,List.nil_append,List.getD_cons_zero,List.getD_cons_succ,Nat.mul_zero,Nat.zero_add,Nat.reduceMul,Nat.reduceAdd,Nat.mul_one,ku,if_true,dC,Bool.and_eq_true,decide_eq_true_eq]at hfold
  have ry:=dj y0 y1 dy.1 dy.2
  have r0:=dj a0 a1 d0.1 d0.2
  have r1:=dj a2 a3 d1.1 d1.2
  have r2:=dj a4 a5 d2.1 d2.2
  have r3:=dj a6 a7 d3.1 d3.2
  have r4:=dj a8 a9 d4.1 d4.2
  have r5:=dj a10 a11 d5.1 d5.2
  have q0:=rQ y0 y1 a0 a1 dy.1 dy.2 d0.1 d0.2
  have q1:=eD a2 a3 d1.1 d1.2
  have q2:=eD a4 a5 d2.1 d2.2
  have q3:=eD a6 a7 d3.1 d3.2
  have q4:=eD a8 a9 d4.1 d4.2
  have q5:=eD a10 a11 d5.1 d5.2
  cases hb with
  |bs=>
  simp only[pY]
  have hA:=(yX [.blk 0,.code m_tail] 24 false [y0,y1,a0,a1,a2,a3,a4,a5,a6,a7,a8,a9,a10,a11,a12] k hRk [y0,y1,a0,a1] [a2,a3] [a4,a5] [a6,a7] [a8,a9] [a10,a11] _ _ _ _ _ _ q0 q1 q2 q3 q4 q5).trans (yW 24 (.inr rfl) false _ k hRk _ (100*tv y0 y1+tv a0 a1) (tv a2 a3) (tv a4 a5) (tv a6 a7) (tv a8 a9) (tv a10 a11) (by omega) (by omega) (by omega) (by omega) (by omega) (by omega))
  unfold jq at hA
  rw[Call_fn Q (m:=m82) rfl rfl]
  cases hk
  all_goals(
  apply ae;intro rhs hrhs
  simp(maxSteps:=4000000)(disch:=first|exact dz|fail)only[bB.u,seval,cut,m82,aq,hw]
  repeat'((with_reducible first|refine sp ?_ ?_|fail)<;>intro hx<;>(try simp only[bI.u]at hx)<;>(first|exact xz|(try simp(maxSteps:=4000000)(disch:=first|exact dz|fail)only[bB.u,seval,cut,hx,m82,aq,hw])))
  all_goals first|exact xz|(subst hrhs;exact(congrArg (am _) (af (canon_cong kr kr kr))).trans hA))
inductive GR where
 |er (e:Int)
 |ok (k:Int) (t:List UInt8) (dv:MV)
def GR.mv:GR→MV
 | .er e=>.tup [.agg [.int .i64 0,.str [],.nilsl],.int .i64 e]
 | .ok k t dv=>.tup [gM k t dv,.int .i64 0]
def vQ (lim:Bool):T→GR
 | .mk c tg m b ks=>if(wrW (.mk c tg m b ks)).1≠0∨c≠2∨dL tg=false∨m≠decide (tg=4)∨tg=4∧ks.length≠1 then .er 30
  else match(if tg=4 then ks else [])with
   |k::_=>match oq k with
    | .er _=>.er 31
    | .ok d=>if fJ tg b d lim=true then .ok tg b (.sl 2 (bh d))else .er 31
   | []=>if fJ tg b [] lim=true then .ok tg b .nilsl else .er 31
theorem s_:∀(ks:List T) (s s':Dn × Int),aG gP s ks= .inl s'→s'.1.length=s.1.length+ks.length
 | [],s,s',h=>by cases h;simp
 |k::r,s,s',h=>by
  rw[bw]at h
  cases hg:gP s k with
  |inr u=>rw[hg]at h;cases h
  |inl s1=>
   rw[hg]at h
   have h2:=s_ r s1 s' h
   have:s1.1.length=s.1.length+1:=by
    unfold gP at hg
    split at hg
    ·cases hg
    ·split at hg
     ·cases hg
     ·split at hg
      split at hg
      ·cases hg;simp
      ·cases hg
   rw[h2,this,List.length_cons];omega
theorem Hh {t:T} {d:Dn} (h:oq t= .ok d):d.length≤16:=by
 obtain⟨c,tg,m,b,ks⟩:=t
 rw[oq]at h
 split at h
 ·cases h
 ·rename_i hn
  split at h
  ·cases h
  ·rename_i s hs
   split at h
   ·cases h
   ·cases h
    have:=s_ ks _ _ hs
    simp at this
    omega
theorem Hi {t:T} {e:Int} (h:oq t= .er e):e≠0:=by
 obtain⟨c,tg,m,b,ks⟩:=t
 rw[oq]at h
 split at h
 ·cases h;decide
 ·split at h
  ·cases h;decide
  ·split at h
   ·rename_i h2;cases h;exact h2
   ·cases h
theorem Hj (v:MV) (t:T) (hv:Rv v t) (hl:low t) (hs:sz t<900000) (lim:Bool):Call Q 101 [v,.bool lim]=some (vQ lim t).mv:=by
 have hw:=iZ v t hv hl (by omega)
 cases hv with
 | @mk _ c tg m w k b ks hb hk=>
 rw[sz]at hs
 rw[low]at hl
 have hkd:=xW tg
 have hlen:∀st,lenV false k st=some (.int .i64 ks.length):=(Rs.fa hk).2
 rw[vQ]
 obtain⟨e0,he0⟩:∃e0,e0=(wrW (.mk c tg m b ks)).1:=⟨_,rfl⟩
 rw[←he0]at hw ⊢
 generalize(wrW (.mk c tg m b ks)).2=bs at hw
 have hkl:=g_ ks
 by_cases h:e0≠0∨c≠2∨dL tg=false∨m≠decide (tg=4)∨tg=4∧ks.length≠1
 ·rw[if_pos h]
  clear he0
  simp only[GR.mv]
  rw[Call_fn Q (m:=m101) rfl rfl]
  by_cases h1:e0=0
  rotate_left
  ·have h1':(e0==0)=false:=by simpa using h1
   cases hb<;>cases hk
   all_goals(
   apply ae;intro rhs hrhs
   simp(maxSteps:=4000000)(disch:=first|exact dz|fail)only[bB.u,seval,cut,m101,hw,h1']
   subst hrhs;rfl)
  subst h1
  by_cases h2:c=2
  rotate_left
  ·have h2':(c==2)=false:=by simpa using h2
   cases hb<;>cases hk
   all_goals(
   apply ae;intro rhs hrhs
   simp(maxSteps:=4000000)(disch:=first|exact dz|fail)only[bB.u,seval,cut,m101,hw,h2']
   subst hrhs;rfl)
  subst h2
  cases h3:dL tg
  ·rw[h3]at hkd
   cases hb<;>cases hk
   all_goals(
   apply ae;intro rhs hrhs
   simp(maxSteps:=4000000)(disch:=first|exact dz|fail)only[bB.u,seval,cut,m101,hw,hkd]
   subst hrhs;rfl)
  rw[h3]at hkd
  by_cases h4:tg=4
  ·subst h4
   cases m
   ·cases hb<;>cases hk
    all_goals(
    apply ae;intro rhs hrhs
    simp(maxSteps:=4000000)(disch:=first|exact dz|fail)only[bB.u,seval,cut,m101,hw,hkd]
    subst hrhs;rfl)
   ·have h5:ks.length≠1:=by
     rcases h with h|h|h|h|h
     ·exact absurd rfl h
     ·exact absurd rfl h
     ·rw[h3]at h;cases h
     ·exact absurd rfl h
     ·exact h.2
    cases hk with
    |nil=>
     cases hb
     all_goals(
     apply ae;intro rhs hrhs
     simp(maxSteps:=4000000)(disch:=first|exact dz|fail)only[bB.u,seval,cut,m101,hw,hkd]
     subst hrhs;rfl)
    | @sl _ l _ hll=>
     have hln:=hll.length
     have h5':((ks.length:Int)==1)=false:=by rw[beq_eq_false_iff_ne];omega
     cases hb
     all_goals(
     apply ae;intro rhs hrhs
     simp(maxSteps:=4000000)(disch:=first|exact dz|fail)only[bB.u,seval,cut,m101,hw,hkd,hln,h5']
     subst hrhs;rfl)
  ·have h4':(tg==4)=false:=by simpa using h4
   have hm:m=true:=by
    rcases h with h|h|h|h|h
    ·exact absurd rfl h
    ·exact absurd rfl h
    ·rw[h3]at h;cases h
    ·cases m
     ·rw[show decide (tg=4)=false by simpa using h4]at h;exact absurd rfl h
     ·rfl
    ·exact absurd h.1 h4
   subst hm
   cases hb<;>cases hk
   all_goals(
   apply ae;intro rhs hrhs
   simp(maxSteps:=4000000)(disch:=first|exact dz|fail)only[bB.u,seval,cut,m101,hw,hkd,h4']
   subst hrhs;rfl)
 rw[if_neg h]
 have h1:e0=0:=Decidable.not_not.1 fun x=>h (.inl x)
 have h2:c=2:=Decidable.not_not.1 fun x=>h (.inr (.inl x))
 have h3:dL tg=true:=by
  cases hx:dL tg
  ·exact absurd (.inr (.inr (.inl hx))) h
  ·rfl
 have h4:m=decide (tg=4):=Decidable.not_not.1 fun x=>h (.inr (.inr (.inr (.inl x))))
 subst h1;subst h2
 rw[h3]at hkd
 by_cases ht:tg=4
 ·have h5:ks.length=1:=Decidable.not_not.1 fun x=>h (.inr (.inr (.inr (.inr ⟨ht,x⟩))))
  subst ht
  rw[show decide ((4:Int)=4)=true from rfl]at h4
  subst h4
  have hb0:=(iR (fK he0.symm).1).2.2.2.1 rfl
  subst hb0
  clear he0
  rw[if_pos rfl]
  match ks,h5 with
  | [k0],_=>
  cases hk with
  | @sl _ l _ hll=>
  cases hll with
  | @cons _ v0 _ lr _ hv0 hr=>
  cases hr
  simp only[bg,szs]at hl hs
  have hp:=s9 v0 k0 hv0 hl.2.1 (by omega)
  dsimp only
  cases hv0 with
  | @mk _ c0 t0 m0 w0 kk0 b0 ks0 hb0 hk0=>
  obtain⟨⟨g1,g2,g3⟩,g4,g5⟩:=Rb.fa hb0
  obtain⟨⟨q1,q2,q3⟩,q4⟩:=Rs.fa hk0
  cases hd:oq (.mk c0 t0 m0 b0 ks0)with
  |er e=>
   rw[hd]at hp
   have he:=Hi hd
   have he':(e==0)=false:=by simpa using he
   simp only[PR.mv]at hp
   simp only[GR.mv]
   rw[Call_fn Q (m:=m101) rfl rfl]
   cases hb
   all_goals(
   apply ae;intro rhs hrhs
   simp(maxSteps:=4000000)(disch:=first|exact dz|fail)only[bB.u,seval,cut,m101,hw,hkd,hp,he',g1,g2,g3,q1,q2,q3]
   subst hrhs;rfl)
  |ok d=>
   rw[hd]at hp
   have hdl:=Hh hd
   simp only[PR.mv]at hp
   have hr:=rN 4 [] (.sl 2 (bh d)) d (.inl rfl) (by omega) (by simp) lim
   unfold gM at hr
   dsimp only
   cases hR:fJ 4 [] d lim
   ·rw[hR]at hr
    rw[if_neg (by simp)]
    simp only[GR.mv]
    rw[Call_fn Q (m:=m101) rfl rfl]
    cases hb
    all_goals(
    apply ae;intro rhs hrhs
    simp(maxSteps:=4000000)(disch:=first|exact dz|fail)only[bB.u,seval,cut,m101,hw,hkd,hp,hr,g1,g2,g3,q1,q2,q3]
    subst hrhs;rfl)
   ·rw[hR]at hr
    rw[if_pos rfl]
    simp only[GR.mv,gM]
    rw[Call_fn Q (m:=m101) rfl rfl]
    cases hb
    all_goals(
    apply ae;intro rhs hrhs
    simp(maxSteps:=4000000)(disch:=first|exact dz|fail)only[bB.u,seval,cut,m101,hw,hkd,hp,hr,g1,g2,g3,q1,q2,q3]
    subst hrhs;rfl)
 ·rw[show decide (tg=4)=false by simpa using ht]at h4
  subst h4
  have hks:=(iR (fK he0.symm).1).2.2.2.2.1 rfl
  subst hks
  clear he0
  have ht':(tg==4)=false:=by simpa using ht
  rw[if_neg ht]
  dsimp only
  have hr:=rN tg b .nilsl [] (.inr ⟨rfl,rfl⟩) (by simp) (by omega) lim
  unfold gM at hr
  cases hR:fJ tg b [] lim
  ·rw[hR]at hr
   rw[if_neg (by simp)]
   simp only[GR.mv]
   rw[Call_fn Q (m:=m101) rfl rfl]
   cases hb<;>cases hk
   all_goals(
   apply ae;intro rhs hrhs
   simp(maxSteps:=4000000)(disch:=first|exact dz|fail)only[bB.u,seval,cut,m101,hw,hkd,hr,ht']
   subst hrhs;rfl)
  ·rw[hR]at hr
   rw[if_pos rfl]
   simp only[GR.mv,gM]
   rw[Call_fn Q (m:=m101) rfl rfl]
   cases hb<;>cases hk
   all_goals(
   apply ae;intro rhs hrhs
   simp(maxSteps:=4000000)(disch:=first|exact dz|fail)only[bB.u,seval,cut,m101,hw,hkd,hr,ht']
   subst hrhs;rfl)
end Go.Mini.Nm

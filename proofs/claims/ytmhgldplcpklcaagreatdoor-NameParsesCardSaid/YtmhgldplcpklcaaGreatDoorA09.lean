/- any value's DN and any DN's value are the document's: the law by that interpreter (part 9): what the program's functions answer, or plain laws of it; no conditions. -/
import Derived.Test.YtmhgldplcpklcaaGreatDoorA08
set_option linter.all false
namespace Go.Mini.Nm
open Go Go.Mini Go.Proofs.YtmhgldplcpklcaaGreatDoor
set_option maxRecDepth 100000
set_option maxHeartbeats 4000000
def isB2 (t:T) (tag n:Int):Bool:=match t with
 | .mk c tg _ _ ks=>decide (c=0)&&decide (tg=tag)&&decide ((ks.length:Int)=n)
structure Fa (w:MV):Prop where
 l:∀st,lend w st=some (w,st)
 c:MV.cells w=[w]
 f:MV.fit w=true
theorem Rb.fa {w:MV} {b:List UInt8} (h:Rb w b):Fa w∧(∀st,lenV false w st=some (.int .i64 b.length))∧∀st,bytesOf w st=some b:=by
 cases h<;>exact⟨⟨fun _=>rfl,rfl,rfl⟩,fun _=>rfl,fun _=>rfl⟩
theorem Rs.fa {w:MV} {ks:List T} (h:Rs w ks):Fa w∧∀st,lenV false w st=some (.int .i64 ks.length):=by
 cases h with
 |nil=>exact⟨⟨fun _=>rfl,rfl,rfl⟩,fun _=>rfl⟩
 |sl h=>exact⟨⟨fun _=>rfl,rfl,rfl⟩,fun _=>by simp only[lenV,h.length]⟩
theorem c_is (v:MV) (t:T) (hv:Rv v t) (tag n:Int):Call Q 20 [v,.int .i64 tag,.int .i64 n]=some (.bool (isB2 t tag n)):=by
 cases hv with
 | @mk _ c tg m w k b ks hb hk=>
 obtain⟨⟨b1,b2,b3⟩,b4,b5⟩:=Rb.fa hb
 obtain⟨⟨k1,k2,k3⟩,k4⟩:=Rs.fa hk
 rw[isB2]
 rw[Call_fn Q (m:=m20) rfl rfl]
 apply hide;intro rhs hrhs
 simp(maxSteps:=4000000)(disch:=first|exact dz|fail)only[bB.u,seval,cut,m20,b1,b2,b3,k1,k2,k3,k4]
 repeat'((with_reducible first|refine sp ?_ ?_|fail)<;>intro hx<;>(try simp only[bI.u]at hx)<;>(first|exact xz|(try simp(maxSteps:=4000000)(disch:=first|exact dz|fail)only[bB.u,seval,cut,hx,m20,b1,b2,b3,k1,k2,k3,k4])))
 all_goals first|exact xz|(subst hrhs;(first|rfl|(refine congrArg some (congrArg MV.bool ?_);rw[Bool.eq_iff_iff];simp only[Bool.and_eq_true,Bool.or_eq_true,Bool.not_eq_true',Bool.not_eq_true,decide_eq_true_eq,decide_eq_false_iff_not,beq_iff_eq,Bool.false_eq_true,false_iff,true_iff,iff_true,iff_false,←UInt8.toNat_inj];omega)|(refine congrArg some (congrArg MV.bool ?_);rw[Bool.eq_iff_iff];simp[←UInt8.toNat_inj]at *<;>omega)|(refine congrArg some (congrArg MV.bool ?_);rw[Bool.eq_iff_iff];simp_all[←UInt8.toNat_inj]<;>omega)))
inductive PR where
 |er (e:Int)
 |ok (d:Dn)
def PR.mv:PR→MV
 | .er e=>.tup [.sl 2 [],.int .i64 e]
 | .ok d=>.tup [.sl 2 (attrs d),.int .i64 0]
def two?:T→Option (T × T)
 | .mk c t _ _ [.mk c2 t2 _ _ [o,x]]=>if c=0∧t=17∧c2=0∧t2=16 then some (o,x)else none
 |_=>none
def gP (s:Dn × Int) (k:T):(Dn × Int) ⊕ Unit:=match two? k with
 |none=>.inr ()
 |some (o,x)=>match oidR o with
  | .no=>.inr ()
  | .ok n=>match x with
   | .mk cx tx _ xb kx=>if cx=0∧(tx=12∨tx=19)∧kx=[]then .inl (s.1++[(n,xb)],if textB xb=false∨tagOf xb≠tx then 31 else s.2)else .inr ()
def pdn:T→PR
 | .mk c t m b ks=>if(wrW (.mk c t m b ks)).1≠0∨c≠0∨t≠16∨16<ks.length then .er 30 else match foldE gP ([],0) ks with
  | .inr _=>.er 30
  | .inl s=>if s.2≠0 then .er s.2 else .ok s.1
def R_p:List (Nat × Option (Bool × Nat) × PK):=[(2,none,.el 2),(3,none,.other)]
def p_st (kv:MV) (n:Nat) (d:Dn) (e:Int) (i:Nat):DS:=⟨[(6,.own 0 d.length),(7,.int .i64 e),(38,kv),(39,.int .i64 n),(40,.int .i64 i)],[],[(0,.el 2 (attrs d) false)],2⟩
theorem p_bad1 (K:List Item) (l:List MV) (n:Nat) (d:Dn) (e:Int) (i:Nat) (hi:i<n) (v:MV) (k:T) (hg:l[i]? = some v) (hn:l.length=n) (hn2:n≤16) (hv:Rv v k) (h:isB2 k 17 1=false):
  fin R_p (RunL Q m7k0 m7b0 K (p_st (.sl 5 l) n d e i))=some (PR.er 30).mv:=by
 have hc:=c_is v k hv 17 1
 rw[h]at hc
 cases hv with
 | @mk _ c tg m w kv b ks hb hk=>
 obtain⟨⟨b1,b2,b3⟩,b4,b5⟩:=Rb.fa hb
 obtain⟨⟨k1,k2,k3⟩,k4⟩:=Rs.fa hk
 have hlt:decide ((i:Int)<(n:Int))=true:=by simp;omega
 have i1:(i:Int)<(n:Int):=by omega
 simp only[PR.mv]
 unfold p_st
 obtain⟨b',hb'⟩:∃b',b'=m7b0:=⟨_,rfl⟩
 rw[RunL_eq,show Item.lp m7k0 m7b0=Item.lp m7k0 b' by rw[hb']]
 apply hide;intro rhs hrhs
 simp(maxSteps:=4000000)(disch:=first|exact dz|fail)only[bB.u,seval,cut,m7b0,R_p,hlt,i1,hn,hg,hc,b1,b2,b3,k1,k2,k3,k4]
 repeat'((with_reducible first|refine sp ?_ ?_|fail)<;>intro hx<;>(try simp only[bI.u]at hx)<;>(first|exact xz|(try simp(maxSteps:=4000000)(disch:=first|exact dz|fail)only[bB.u,seval,cut,hx,m7b0,R_p,hlt,i1,hn,hg,hc,b1,b2,b3,k1,k2,k3,k4])))
 all_goals first|exact xz|(subst hrhs;rfl)
theorem p_bad2 (K:List Item) (l:List MV) (n:Nat) (d:Dn) (e:Int) (i:Nat) (hi:i<n) (c tg:Int) (m:Bool) (w:MV) (b:List UInt8) (v1:MV) (t1:T) (hb:Rb w b) (hv1:Rv v1 t1) (hg:l[i]? = some (.agg [.int .i64 c,.int .i64 tg,.bool m,w,.sl 5 [v1]])) (hn:l.length=n) (hn2:n≤16) (h0:isB2 (.mk c tg m b [t1]) 17 1=true) (h:isB2 t1 16 2=false):
  fin R_p (RunL Q m7k0 m7b0 K (p_st (.sl 5 l) n d e i))=some (PR.er 30).mv:=by
 have hc:=c_is _ _ (Wv.mk (c:=c) (t:=tg) (m:=m) hb (.sl (.cons hv1 .nil))) 17 1
 rw[h0]at hc
 have hc1:=c_is v1 t1 hv1 16 2
 rw[h]at hc1
 cases hv1 with
 | @mk _ c' tg' m' w' kv' b' ks' hb' hk'=>
 obtain⟨⟨b1,b2,b3⟩,b4,b5⟩:=Rb.fa hb
 obtain⟨⟨d1,d2,d3⟩,d4,d5⟩:=Rb.fa hb'
 obtain⟨⟨k1,k2,k3⟩,k4⟩:=Rs.fa hk'
 have hlt:decide ((i:Int)<(n:Int))=true:=by simp;omega
 have i1:(i:Int)<(n:Int):=by omega
 simp only[PR.mv]
 unfold p_st
 obtain⟨b',hb'⟩:∃b',b'=m7b0:=⟨_,rfl⟩
 rw[RunL_eq,show Item.lp m7k0 m7b0=Item.lp m7k0 b' by rw[hb']]
 apply hide;intro rhs hrhs
 simp(maxSteps:=4000000)(disch:=first|exact dz|fail)only[bB.u,seval,cut,m7b0,R_p,hlt,i1,hn,hg,hc,hc1,b1,b2,b3,d1,d2,d3,k1,k2,k3,k4]
 repeat'((with_reducible first|refine sp ?_ ?_|fail)<;>intro hx<;>(try simp only[bI.u]at hx)<;>(first|exact xz|(try simp(maxSteps:=4000000)(disch:=first|exact dz|fail)only[bB.u,seval,cut,hx,m7b0,R_p,hlt,i1,hn,hg,hc,hc1,b1,b2,b3,d1,d2,d3,k1,k2,k3,k4])))
 all_goals first|exact xz|(subst hrhs;rfl)
theorem p_main (K:List Item) (l:List MV) (n:Nat) (d:Dn) (hd:d.length≤2^20) (e:Int) (i:Nat) (hi:i<n) (c tg:Int) (m:Bool) (w:MV) (b:List UInt8) (c1 t1:Int) (m1:Bool) (w1:MV) (b1:List UInt8) (vo:MV) (to:T) (cx tx:Int) (mx:Bool) (wx kx:MV) (xb:List UInt8) (xk:List T)
  (hb:Rb w b) (hb1:Rb w1 b1) (hvo:Rv vo to) (hbx:Rb wx xb) (hkx:Rs kx xk) (hxl:xb.length<1000000)
  (hg:l[i]? = some (.agg [.int .i64 c,.int .i64 tg,.bool m,w,.sl 5 [.agg [.int .i64 c1,.int .i64 t1,.bool m1,w1,.sl 5 [vo,.agg [.int .i64 cx,.int .i64 tx,.bool mx,wx,kx]]]]])) (hn:l.length=n) (hn2:n≤16)
  (h0:isB2 (.mk c tg m b [.mk c1 t1 m1 b1 [to,.mk cx tx mx xb xk]]) 17 1=true) (h1:isB2 (.mk c1 t1 m1 b1 [to,.mk cx tx mx xb xk]) 16 2=true) (ho:Call Q 16 [vo]=some (oidR to).mv):
  fin R_p (RunL Q m7k0 m7b0 K (p_st (.sl 5 l) n d e i))=match oidR to with
   | .no=>some (PR.er 30).mv
   | .ok s=>if cx=0∧(tx=12∨tx=19)∧xk=[]then fin R_p (RunL Q m7k0 m7b0 K (p_st (.sl 5 l) n (d++[(s,xb)]) (if textB xb=false∨tagOf xb≠tx then 31 else e) (i+1)))else some (PR.er 30).mv:=by
 have hvx:Rv (.agg [.int .i64 cx,.int .i64 tx,.bool mx,wx,kx]) (.mk cx tx mx xb xk):=.mk hbx hkx
 have hv1:Rv (.agg [.int .i64 c1,.int .i64 t1,.bool m1,w1,.sl 5 [vo,.agg [.int .i64 cx,.int .i64 tx,.bool mx,wx,kx]]]) (.mk c1 t1 m1 b1 [to,.mk cx tx mx xb xk]):=.mk hb1 (.sl (.cons hvo (.cons hvx .nil)))
 have hc:=c_is _ _ (Wv.mk (c:=c) (t:=tg) (m:=m) hb (.sl (.cons hv1 .nil))) 17 1
 rw[h0]at hc
 have hc1:=c_is _ _ hv1 16 2
 rw[h1]at hc1
 have hx1:=c_is _ _ hvx 12 0
 have hx2:=c_is _ _ hvx 19 0
 have htx:=c46 xb hxl
 have hpr:=c47 xb hxl
 have htag:(if xb.all printB=true then(19:Int)else 12)=tagOf xb:=rfl
 rw[htag]at hpr
 have hal:=attrs_length d
 have e9:((i+1:Nat):Int)=(i:Int)+1:=rfl
 have hlt:decide ((i:Int)<(n:Int))=true:=by simp;omega
 have i1:(i:Int)<(n:Int):=by omega
 have xl:((xk.length:Int)=0)=(xk=[]):=by
  rw[eq_iff_iff]
  cases xk with
  |nil=>simp
  |cons a r=>simp;omega
 obtain⟨⟨g1,g2,g3⟩,g4,g5⟩:=Rb.fa hb1
 cases hvo with
 | @mk _ oc ot om ow okk ob oks hob hok=>
 obtain⟨⟨p1,p2,p3⟩,p4,p5⟩:=Rb.fa hob
 obtain⟨⟨q1,q2,q3⟩,q4⟩:=Rs.fa hok
 cases hoid:oidR (.mk oc ot om ob oks)with
 |no=>
  rw[hoid]at ho
  simp only[OR.mv]at ho
  simp only[PR.mv]
  unfold p_st
  cases hb<;>cases hbx<;>cases hkx
  all_goals(
  obtain⟨b',hb'⟩:∃b',b'=m7b0:=⟨_,rfl⟩
  rw[RunL_eq,show Item.lp m7k0 m7b0=Item.lp m7k0 b' by rw[hb']]
  apply hide;intro rhs hrhs
  simp(maxSteps:=4000000)(disch:=first|exact dz|fail)only[bB.u,seval,cut,m7b0,R_p,hlt,i1,hn,hg,hc,hc1,ho,g1,g2,g3,p1,p2,p3,q1,q2,q3]
  repeat'((with_reducible first|refine sp ?_ ?_|fail)<;>intro hx<;>(try simp only[bI.u]at hx)<;>(first|exact xz|(try simp(maxSteps:=4000000)(disch:=first|exact dz|fail)only[bB.u,seval,cut,hx,m7b0,R_p,hlt,i1,hn,hg,hc,hc1,ho,g1,g2,g3,p1,p2,p3,q1,q2,q3])))
  all_goals first|exact xz|(subst hrhs;rfl))
 |ok s=>
  rw[hoid]at ho
  simp only[OR.mv]at ho
  dsimp only
  by_cases hX:cx=0∧(tx=12∨tx=19)∧xk=[]
  ·rw[if_pos hX]
   obtain⟨rfl,hX2,rfl⟩:=hX
   have hat:attrs (d++[(s,xb)])=attrs d++[.agg [.str s,.str xb]]:=by simp[attrs,attr]
   have hle:(d++[(s,xb)]).length=d.length+1:=by simp
   have y1:isB2 (.mk 0 tx mx xb []) 12 0=decide (tx=12):=by simp[isB2]
   have y2:isB2 (.mk 0 tx mx xb []) 19 0=decide (tx=19):=by simp[isB2]
   rw[y1]at hx1
   rw[y2]at hx2
   by_cases hbad:textB xb=false∨tagOf xb≠tx
   ·rw[if_pos hbad]
    unfold p_st
    rw[hat,hle,e9]
    cases htb:textB xb
    ·rw[htb]at htx
     rcases hX2 with rfl|rfl<;>cases hb<;>cases hbx<;>cases hkx
     all_goals(
     obtain⟨b',hb'⟩:∃b',b'=m7b0:=⟨_,rfl⟩
     rw[RunL_eq,show Item.lp m7k0 m7b0=Item.lp m7k0 b' by rw[hb']]
     apply hide;intro rhs hrhs
     simp(maxSteps:=4000000)(disch:=first|exact dz|fail)only[bB.u,seval,cut,m7b0,R_p,hlt,i1,hn,hg,hc,hc1,ho,hx1,hx2,htx,hpr,hal,g1,g2,g3,p1,p2,p3,q1,q2,q3]
     repeat'((with_reducible first|refine sp ?_ ?_|fail)<;>intro hx<;>(try simp only[bI.u]at hx)<;>(first|exact xz|(try simp(maxSteps:=4000000)(disch:=first|exact dz|fail)only[bB.u,seval,cut,hx,m7b0,R_p,hlt,i1,hn,hg,hc,hc1,ho,hx1,hx2,htx,hpr,hal,g1,g2,g3,p1,p2,p3,q1,q2,q3])))
     all_goals first|exact xz|(subst hrhs;(subst hb';refine(congrArg (fin _) (Run_lp Q _ _ _ _)).trans ?_;exact congrArg (fin R_p) (RunL_canon (canon_cong kr kr kr)))))
    ·rw[htb]at htx
     have hT:(tagOf xb==tx)=false:=by
      rcases hbad with h|h
      ·rw[htb]at h;cases h
      ·simpa using h
     rcases hX2 with rfl|rfl<;>cases hb<;>cases hbx<;>cases hkx
     all_goals(
     obtain⟨b',hb'⟩:∃b',b'=m7b0:=⟨_,rfl⟩
     rw[RunL_eq,show Item.lp m7k0 m7b0=Item.lp m7k0 b' by rw[hb']]
     apply hide;intro rhs hrhs
     simp(maxSteps:=4000000)(disch:=first|exact dz|fail)only[bB.u,seval,cut,m7b0,R_p,hlt,i1,hn,hg,hc,hc1,ho,hx1,hx2,htx,hpr,hT,hal,g1,g2,g3,p1,p2,p3,q1,q2,q3]
     repeat'((with_reducible first|refine sp ?_ ?_|fail)<;>intro hx<;>(try simp only[bI.u]at hx)<;>(first|exact xz|(try simp(maxSteps:=4000000)(disch:=first|exact dz|fail)only[bB.u,seval,cut,hx,m7b0,R_p,hlt,i1,hn,hg,hc,hc1,ho,hx1,hx2,htx,hpr,hT,hal,g1,g2,g3,p1,p2,p3,q1,q2,q3])))
     all_goals first|exact xz|(subst hrhs;(subst hb';refine(congrArg (fin _) (Run_lp Q _ _ _ _)).trans ?_;exact congrArg (fin R_p) (RunL_canon (canon_cong kr kr kr)))))
   ·rw[if_neg hbad]
    have htb:textB xb=true:=by
     cases h:textB xb
     ·exact absurd (.inl h) hbad
     ·rfl
    rw[htb]at htx
    have hT:tagOf xb=tx:=Decidable.not_not.1 fun h=>hbad (.inr h)
    rw[hT]at hpr
    unfold p_st
    rw[hat,hle,e9]
    rcases hX2 with rfl|rfl<;>cases hb<;>cases hbx<;>cases hkx
    all_goals(
    obtain⟨b',hb'⟩:∃b',b'=m7b0:=⟨_,rfl⟩
    rw[RunL_eq,show Item.lp m7k0 m7b0=Item.lp m7k0 b' by rw[hb']]
    apply hide;intro rhs hrhs
    simp(maxSteps:=4000000)(disch:=first|exact dz|fail)only[bB.u,seval,cut,m7b0,R_p,hlt,i1,hn,hg,hc,hc1,ho,hx1,hx2,htx,hpr,hal,g1,g2,g3,p1,p2,p3,q1,q2,q3]
    repeat'((with_reducible first|refine sp ?_ ?_|fail)<;>intro hx<;>(try simp only[bI.u]at hx)<;>(first|exact xz|(try simp(maxSteps:=4000000)(disch:=first|exact dz|fail)only[bB.u,seval,cut,hx,m7b0,R_p,hlt,i1,hn,hg,hc,hc1,ho,hx1,hx2,htx,hpr,hal,g1,g2,g3,p1,p2,p3,q1,q2,q3])))
    all_goals first|exact xz|(subst hrhs;(subst hb';refine(congrArg (fin _) (Run_lp Q _ _ _ _)).trans ?_;exact congrArg (fin R_p) (RunL_canon (canon_cong kr kr kr)))))
  ·rw[if_neg hX]
   simp only[PR.mv]
   have y1:isB2 (.mk cx tx mx xb xk) 12 0=false:=by
    simp only[isB2,xl]
    cases h:(decide (cx=0)&&decide (tx=12)&&decide (xk=[]))
    ·rfl
    ·simp at h;exact absurd ⟨h.1.1,.inl h.1.2,h.2⟩ hX
   have y2:isB2 (.mk cx tx mx xb xk) 19 0=false:=by
    simp only[isB2,xl]
    cases h:(decide (cx=0)&&decide (tx=19)&&decide (xk=[]))
    ·rfl
    ·simp at h;exact absurd ⟨h.1.1,.inr h.1.2,h.2⟩ hX
   rw[y1]at hx1
   rw[y2]at hx2
   unfold p_st
   cases hb<;>cases hbx<;>cases hkx
   all_goals(
   obtain⟨b',hb'⟩:∃b',b'=m7b0:=⟨_,rfl⟩
   rw[RunL_eq,show Item.lp m7k0 m7b0=Item.lp m7k0 b' by rw[hb']]
   apply hide;intro rhs hrhs
   simp(maxSteps:=4000000)(disch:=first|exact dz|fail)only[bB.u,seval,cut,m7b0,R_p,hlt,i1,hn,hg,hc,hc1,ho,hx1,hx2,g1,g2,g3,p1,p2,p3,q1,q2,q3]
   repeat'((with_reducible first|refine sp ?_ ?_|fail)<;>intro hx<;>(try simp only[bI.u]at hx)<;>(first|exact xz|(try simp(maxSteps:=4000000)(disch:=first|exact dz|fail)only[bB.u,seval,cut,hx,m7b0,R_p,hlt,i1,hn,hg,hc,hc1,ho,hx1,hx2,g1,g2,g3,p1,p2,p3,q1,q2,q3])))
   all_goals first|exact xz|(subst hrhs;rfl))
def p_tail:MCode:=(.seq (sq [qa 106 7,qC 107 .neq 106 0] (.cond (.v 107) (sq [qa 108 7,qn 2,qb 3 108] .ret) .skip)) (sq [qa 109 6,qb 2 109,qe 3 0] .ret))
theorem p_end (kv:MV) (n:Nat) (d:Dn) (hd:d.length≤2^20) (e:Int):fin R_p (RunL Q m7k0 m7b0 [.blk 0,.code p_tail] (p_st kv n d e n))=some (PR.mv (if e≠0 then .er e else .ok d)):=by
 have hlt:decide ((n:Int)<(n:Int))=false:=by simp
 have hal:=attrs_length d
 by_cases h:e=0
 ·subst h
  rw[if_neg (by simp)]
  simp only[PR.mv]
  unfold p_st
  obtain⟨b',hb'⟩:∃b',b'=m7b0:=⟨_,rfl⟩
  rw[RunL_eq,show Item.lp m7k0 m7b0=Item.lp m7k0 b' by rw[hb']]
  apply hide;intro rhs hrhs
  simp(maxSteps:=4000000)(disch:=first|exact dz|fail)only[bB.u,seval,cut,m7b0,R_p,p_tail,hlt,hal]
  repeat'((with_reducible first|refine sp ?_ ?_|fail)<;>intro hx<;>(try simp only[bI.u]at hx)<;>(first|exact xz|(try simp(maxSteps:=4000000)(disch:=first|exact dz|fail)only[bB.u,seval,cut,hx,m7b0,R_p,p_tail,hlt,hal])))
  all_goals first|exact xz|(subst hrhs;rfl)
 ·rw[if_pos h]
  have h':(e==0)=false:=by simpa using h
  simp only[PR.mv]
  unfold p_st
  obtain⟨b',hb'⟩:∃b',b'=m7b0:=⟨_,rfl⟩
  rw[RunL_eq,show Item.lp m7k0 m7b0=Item.lp m7k0 b' by rw[hb']]
  apply hide;intro rhs hrhs
  simp(maxSteps:=4000000)(disch:=first|exact dz|fail)only[bB.u,seval,cut,m7b0,R_p,p_tail,hlt,hal,h']
  repeat'((with_reducible first|refine sp ?_ ?_|fail)<;>intro hx<;>(try simp only[bI.u]at hx)<;>(first|exact xz|(try simp(maxSteps:=4000000)(disch:=first|exact dz|fail)only[bB.u,seval,cut,hx,m7b0,R_p,p_tail,hlt,hal,h'])))
  all_goals first|exact xz|(subst hrhs;rfl)
theorem isB2_true {t:T} {tag n:Int} (h:isB2 t tag n=true):∃m b ks,t= .mk 0 tag m b ks∧(ks.length:Int)=n:=by
 obtain⟨c,tg,m,b,ks⟩:=t
 rw[isB2]at h
 simp only[Bool.and_eq_true,decide_eq_true_eq]at h
 obtain⟨⟨rfl,rfl⟩,h⟩:=h
 exact⟨m,b,ks,rfl,h⟩
theorem p_step (K:List Item) (l:List MV) (ks:List T) (hl:Rl l ks) (hlow:lows ks) (hsz:szs ks<900000) (hn2:ks.length≤16) (s:Dn × Int) (i:Nat) (k:T) (hI:s.1.length≤i) (hg:ks[i]? = some k):
  After (fun s i=>s.1.length≤i) (fun s i=>fin R_p (RunL Q m7k0 m7b0 K (p_st (.sl 5 l) ks.length s.1 s.2 i))) (fun _=>some (PR.er 30).mv)
   (fin R_p (RunL Q m7k0 m7b0 K (p_st (.sl 5 l) ks.length s.1 s.2 i))) (i+1) (gP s k):=by
 obtain⟨hi,hxx⟩:=List.getElem?_eq_some_iff.1 hg
 obtain⟨v,hv,hr⟩:=hl.get hg
 have hll:=hl.length
 have hkm:=List.mem_of_getElem? hg
 have hlk:=lows_mem hlow k hkm
 have hsk:=szs_mem hkm
 obtain⟨d,e⟩:=s
 simp only at hI ⊢
 cases h1:isB2 k 17 1
 ·have ht:two? k=none:=by
   cases hk:two? k with
   |none=>rfl
   |some p=>
    exfalso
    unfold two? at hk
    split at hk
    ·split at hk
     ·rename_i hc
      rw[isB2,hc.1,hc.2.1]at h1
      simp at h1
     ·cases hk
    ·cases hk
  unfold gP
  rw[ht]
  exact p_bad1 K l _ d e i hi v k hv hll hn2 hr h1
 obtain⟨m,b,k1s,rfl,hk1⟩:=isB2_true h1
 match k1s,hk1 with
 | [t1],_=>
 cases hr with
 | @mk _ _ _ _ w kv _ _ hb hk=>
 cases hk with
 | @sl _ l1 _ hl1=>
 cases hl1 with
 | @cons _ v1 _ lr _ hv1 hr1=>
 cases hr1
 cases h2:isB2 t1 16 2
 ·have ht:two? (.mk 0 17 m b [t1])=none:=by
   cases hk:two? (.mk 0 17 m b [t1])with
   |none=>rfl
   |some p=>
    exfalso
    unfold two? at hk
    split at hk
    ·split at hk
     ·rename_i heq hc
      cases heq
      rw[isB2,hc.2.2.1,hc.2.2.2]at h2
      simp at h2
     ·cases hk
    ·cases hk
  unfold gP
  rw[ht]
  exact p_bad2 K l _ d e i hi 0 17 m w b v1 t1 hb hv1 hv hll hn2 h1 h2
 obtain⟨m1,b1,k2s,rfl,hk2⟩:=isB2_true h2
 match k2s,hk2 with
 | [to,tx],_=>
 cases hv1 with
 | @mk _ _ _ _ w1 kv1 _ _ hb1 hkk=>
 cases hkk with
 | @sl _ l2 _ hl2=>
 cases hl2 with
 | @cons _ vo _ lr2 _ hvo hr2=>
 cases hr2 with
 | @cons _ vx _ lr3 _ hvx hr3=>
 cases hr3
 obtain⟨cx,txx,mx,xb,xk⟩:=tx
 have htw:two? (.mk 0 17 m b [.mk 0 16 m1 b1 [to,.mk cx txx mx xb xk]])=some (to,.mk cx txx mx xb xk):=by
  simp[two?]
 simp only[low,lows,sz,szs]at hlk hsk
 have ho:=c_Oid vo to hvo hlk.2.1.2.1 (by omega)
 cases hvx with
 | @mk _ _ _ _ wx kx _ _ hbx hkx=>
 have hm:=p_main K l ks.length d (by omega) e i hi 0 17 m w b 0 16 m1 w1 b1 vo to cx txx mx wx kx xb xk hb hb1 hvo hbx hkx (by omega) hv hll hn2 h1 h2 ho
 unfold gP
 rw[htw]
 dsimp only
 rw[hm]
 cases oidR to with
 |no=>rfl
 |ok n=>
  dsimp only
  by_cases hX:cx=0∧(txx=12∨txx=19)∧xk=[]
  ·rw[if_pos hX,if_pos hX]
   exact⟨by simp;omega,rfl⟩
  ·rw[if_neg hX,if_neg hX];rfl
theorem c_ParseDN (v:MV) (t:T) (hv:Rv v t) (hl:low t) (hs:sz t<900000):Call Q 7 [v]=some (pdn t).mv:=by
 have hw:=c_Write v t hv hl (by omega)
 cases hv with
 | @mk _ c tg m w k b ks hb hk=>
 rw[sz]at hs
 rw[low]at hl
 have his:=c_is _ _ (Wv.mk (c:=c) (t:=tg) (m:=m) hb hk) 16 (ks.length:Nat)
 have y:isB2 (.mk c tg m b ks) 16 (ks.length:Nat)=(decide (c=0)&&decide (tg=16)):=by simp[isB2]
 rw[y]at his
 rw[pdn]
 obtain⟨e0,he0⟩:∃e0,e0=(wrW (.mk c tg m b ks)).1:=⟨_,rfl⟩
 rw[←he0]at hw ⊢
 generalize(wrW (.mk c tg m b ks)).2=bs at hw
 have hkl:=szs_len ks
 have hlen:∀st,lenV false k st=some (.int .i64 ks.length):=(Rs.fa hk).2
 by_cases h:e0≠0∨c≠0∨tg≠16∨16<ks.length
 ·rw[if_pos h]
  simp only[PR.mv]
  rw[Call_fn Q (m:=m7) rfl rfl]
  cases hk with
  |nil=>
   rw[show(([]:List T).length:Int)=0 from rfl]at his
   cases hb
   all_goals(
   apply hide;intro rhs hrhs
   simp(maxSteps:=4000000)(disch:=first|exact dz|fail)only[bB.u,seval,cut,m7,hw,his]
   repeat'((with_reducible first|refine sp ?_ ?_|fail)<;>intro hx<;>(try simp only[bI.u]at hx)<;>(first|exact xz|(try simp(maxSteps:=4000000)(disch:=first|exact dz|fail)only[bB.u,seval,cut,hx,m7,hw,his])))
   all_goals first|exact xz|(subst hrhs;first|rfl|(exfalso;(try simp only[List.length_nil]at h);omega)))
  | @sl _ l _ hll=>
   have hln:=hll.length
   cases hb
   all_goals(
   apply hide;intro rhs hrhs
   simp(maxSteps:=4000000)(disch:=first|exact dz|fail)only[bB.u,seval,cut,m7,hw,his,hln]
   repeat'((with_reducible first|refine sp ?_ ?_|fail)<;>intro hx<;>(try simp only[bI.u]at hx)<;>(first|exact xz|(try simp(maxSteps:=4000000)(disch:=first|exact dz|fail)only[bB.u,seval,cut,hx,m7,hw,his,hln])))
   all_goals first|exact xz|(subst hrhs;first|rfl|(exfalso;(try simp only[List.length_nil]at h);omega)))
 rw[if_neg h]
 have h1:e0=0:=Decidable.not_not.1 fun x=>h (.inl x)
 have h2:c=0:=Decidable.not_not.1 fun x=>h (.inr (.inl x))
 have h3:tg=16:=Decidable.not_not.1 fun x=>h (.inr (.inr (.inl x)))
 have h4:ks.length≤16:=Nat.le_of_not_lt fun x=>h (.inr (.inr (.inr x)))
 clear he0
 subst h1;subst h2;subst h3
 have h4':decide (16<(ks.length:Int))=false:=by simp;omega
 cases hk with
 |nil=>
  rw[show(([]:List T).length:Int)=0 from rfl]at his
  have he:=p_end .nilsl 0 [] (by simp) 0
  rw[if_neg (by simp)]at he
  show Call Q 7 _=some (PR.ok []).mv
  unfold p_st at he
  rw[Call_fn Q (m:=m7) rfl rfl]
  cases hb
  all_goals(
  apply hide;intro rhs hrhs
  simp(maxSteps:=4000000)(disch:=first|exact dz|fail)only[bB.u,seval,cut,m7,hw,his,Run_loop]
  repeat'((with_reducible first|refine sp ?_ ?_|fail)<;>intro hx<;>(try simp only[bI.u]at hx)<;>(first|exact xz|(try simp(maxSteps:=4000000)(disch:=first|exact dz|fail)only[bB.u,seval,cut,hx,m7,hw,his,Run_loop])))
  all_goals first|exact xz|(subst hrhs;exact(congrArg (fin _) (RunL_canon (canon_cong kr kr kr))).trans he))
 | @sl _ l _ hll=>
  have hln:=hll.length
  have loop:fin R_p (RunL Q m7k0 m7b0 [.blk 0,.code p_tail] (p_st (.sl 5 l) ks.length [] 0 0))=some (PR.mv (match foldE gP ([],0) ks with
  | .inr _=>.er 30
  | .inl s=>if s.2≠0 then .er s.2 else .ok s.1)):=by
   refine loopR ks gP (fun s i=>fin R_p (RunL Q m7k0 m7b0 [.blk 0,.code p_tail] (p_st (.sl 5 l) ks.length s.1 s.2 i))) (fun _=>some (PR.er 30).mv) (fun s i=>s.1.length≤i)
    (fun s i k hI hg=>p_step _ l ks hll hl.2 (by omega) h4 s i k hI hg) ([],0) (by simp) rfl ?_ ?_
   ·intro s hf hI
    rw[hf]
    exact p_end _ _ s.1 (by omega) s.2
   ·intro u hf
    rw[hf]
  unfold p_st at loop
  rw[Call_fn Q (m:=m7) rfl rfl]
  cases hb
  all_goals(
  apply hide;intro rhs hrhs
  simp(maxSteps:=4000000)(disch:=first|exact dz|fail)only[bB.u,seval,cut,m7,hw,his,hln,h4',Run_loop]
  repeat'((with_reducible first|refine sp ?_ ?_|fail)<;>intro hx<;>(try simp only[bI.u]at hx)<;>(first|exact xz|(try simp(maxSteps:=4000000)(disch:=first|exact dz|fail)only[bB.u,seval,cut,hx,m7,hw,his,hln,h4',Run_loop])))
  all_goals first|exact xz|(subst hrhs;exact(congrArg (fin _) (RunL_canon (canon_cong kr kr kr))).trans loop))
end Go.Mini.Nm

/- any value's DN and any DN's value are the document's: the law by that interpreter (part 12): what the program's functions answer, or plain laws of it; no conditions. -/
import Derived.Test.YtmhgldplcpklcaaGreatDoorA05
import Derived.Test.YtmhgldplcpklcaaGreatDoorA04
import Derived.Test.YtmhgldplcpklcaaGreatDoorA07
set_option linter.all false
namespace Go.Mini
open Go Go.Proofs.YtmhgldplcpklcaaGreatDoor
set_option maxRecDepth 100000
set_option maxHeartbeats 4000000
mutual
def fewT (d:Nat) (left:Int):T→Int
 | .mk _ _ _ b ks=>if d=0∨left≤0∨left≤b.length then -1 else fewL (d-1) (left-(1+b.length)) ks
def fewL (d:Nat) (left:Int):List T→Int
 | []=>left
 |k::r=>if fewT d left k<0 then -1 else fewL d (fewT d left k) r
end
mutual
def okT:T→Prop
 | .mk c t _ b ks=>-9223372036854775808≤c∧c≤9223372036854775807∧ -9223372036854775808≤t∧t≤9223372036854775807∧b.length≤2^50∧ks.length≤2^50∧okTs ks
def okTs:List T→Prop
 | []=>True
 |k::r=>okT k∧okTs r
end
theorem okTs_mem:∀ {ts:List T},okTs ts→∀t∈ts,okT t
 | [],_,t,h=>by simp at h
 |k::r,hl,t,h=>by
  rw[okTs]at hl
  rcases List.mem_cons.1 h with rfl|h
  ·exact hl.1
  ·exact okTs_mem hl.2 t h
theorem szs_mem' {ts:List T} {t:T} (h:t∈ts):sz t≤szs ts:=by
 obtain⟨i,hi⟩:=List.getElem?_of_mem h
 exact szs_get hi
mutual
theorem fewT_le (d:Nat) (left:Int):∀t:T,fewT d left t≤left∨fewT d left t= -1
 | .mk c t m b ks=>by
  rw[fewT]
  split
  ·exact .inr rfl
  ·rcases fewL_le (d-1) (left-(1+b.length)) ks with h|h
   ·exact .inl (by omega)
   ·exact .inr h
theorem fewL_le (d:Nat) (left:Int):∀ts:List T,fewL d left ts≤left∨fewL d left ts= -1
 | []=>.inl (Int.le_refl _)
 |k::r=>by
  rw[fewL]
  split
  ·exact .inr rfl
  ·rcases fewT_le d left k with h|h
   ·rcases fewL_le d (fewT d left k) r with h'|h'
    ·exact .inl (by omega)
    ·exact .inr h'
   ·rename_i hn;omega
end
def gFew (d:Nat) (left:Int) (k:T):Int ⊕ Unit:=if fewT d left k<0 then .inr ()else .inl (fewT d left k)
theorem few_fold (d:Nat):∀(ts:List T) (left:Int),fewL d left ts=match foldE (gFew d) left ts with| .inl s=>s| .inr _=>-1
 | [],left=>by simp[foldE,fewL]
 |k::r,left=>by
  rw[foldE_cons,fewL]
  by_cases h:fewT d left k<0
  ·rw[if_pos h,show gFew d left k= .inr ()from if_pos h]
  ·rw[if_neg h,show gFew d left k= .inl (fewT d left k)from if_neg h]
   exact few_fold d r _
def R_few:List (Nat × Option (Bool × Nat) × PK):=[(6,none,.other)]
def few_tail:MCode:=(.seq (.rg [oT 43 (.mv (.v 2)),
  oV 6 (.mv (.t 43))])
  (.ret))
def few_st (d:Nat) (left:Int) (kv:MV) (n i:Nat):DS:=⟨[(1,.int .i64 (d:Nat)),(2,.int .i64 left),(29,kv),(30,.int .i64 (n:Nat)),(31,.int .i64 (i:Nat))],[],[],1⟩
theorem few_loop (d:Nat) (hd0:0<d) (hd:d≤1000) (ks:List T) (kv:MV) (kl:List MV) (hk:(kv= .sl 5 kl∧Wl false kl ks)∨(kv= .nilsl∧ks=[])) (hl:ks.length≤2^50)
  (ih:∀t v l,t∈ks→Rv v t→l≤3000→-1≤l→Call Q 5 [v,.int .i64 ((d:Int)-1),.int .i64 l]=some (.int .i64 (fewT (d-1) l t))) (left:Int) (hle:left≤3000) (hge: -1≤left):
  fin R_few (RunL Q m5k0 m5b0 [.blk 0,.code few_tail] (few_st d left kv ks.length 0))=some (.int .i64 (fewL (d-1) left ks)):=by
 rw[few_fold]
 refine loopR ks (gFew (d-1)) (fun l i=>fin R_few (RunL Q m5k0 m5b0 [.blk 0,.code few_tail] (few_st d l kv ks.length i))) (fun _=>some (.int .i64 (-1))) (fun l _=>-1≤l∧l≤3000) ?_ left ⟨hge,hle⟩ rfl ?_ ?_
 ·intro l i x hI hg
  rcases hk with⟨rfl,hw⟩|⟨_,rfl⟩
  rotate_left
  ·simp at hg
  obtain⟨hi,hxx⟩:=List.getElem?_eq_some_iff.1 hg
  obtain⟨w,hwv,hrv⟩:=hw.get hg
  have hlt:decide ((i:Int)<(ks.length:Int))=true:=by simp;omega
  have hcall:=ih x w l (List.mem_of_getElem? hg) hrv hI.2 hI.1
  have hll:=hw.length
  have e9:((i+1:Nat):Int)=(i:Int)+1:=rfl
  have hdm:IntKind.i64.wrap ((d:Int)-1)=(d:Int)-1:=by rw[w64 (by omega) (by omega)]
  have hbd:=fewT_le (d-1) l x
  unfold gFew
  cases hrv with
  | @mk _ c' t' m' v' k' b' ks' hb' hk'=>
  have hlv:∀st,lend v' st=some (v',st):=by cases hb'<;>intro st<;>rfl
  have hlk:∀st,lend k' st=some (k',st):=by cases hk'<;>intro st<;>rfl
  generalize fewT (d-1) l (T.mk c' t' m' b' ks')=q at hcall hbd ⊢
  unfold few_st
  split
  ·rename_i hq
   have hq':decide (q<0)=true:=by simpa using hq
   simp only[After]
   obtain⟨b',hb'⟩:∃b',b'=m5b0:=⟨_,rfl⟩
   rw[RunL_eq,show Item.lp m5k0 m5b0=Item.lp m5k0 b' by rw[hb']]
   apply hide;intro rhs hrhs
   simp(maxSteps:=4000000)(disch:=first|exact dz|fail)only[bB.u,seval,cut,m5b0,R_few,hlt,hwv,hll,hdm,hcall,hq',hlv,hlk]
   repeat'((with_reducible first|refine sp ?_ ?_|fail)<;>intro hx<;>(try simp only[bI.u]at hx)<;>(first|exact xz|(try simp(maxSteps:=4000000)(disch:=first|exact dz|fail)only[bB.u,seval,cut,hx,m5b0,R_few,hlt,hwv,hll,hdm,hcall,hq',hlv,hlk])))
   all_goals first|exact xz|(subst hrhs;rfl)
  ·rename_i hq
   have hq':decide (q<0)=false:=by simpa using hq
   refine⟨by omega,?_⟩
   obtain⟨b',hb'⟩:∃b',b'=m5b0:=⟨_,rfl⟩
   rw[RunL_eq,show Item.lp m5k0 m5b0=Item.lp m5k0 b' by rw[hb']]
   apply hide;intro rhs hrhs
   simp(maxSteps:=4000000)(disch:=first|exact dz|fail)only[bB.u,seval,cut,m5b0,R_few,hlt,hwv,hll,hdm,hcall,hq',hlv,hlk]
   repeat'((with_reducible first|refine sp ?_ ?_|fail)<;>intro hx<;>(try simp only[bI.u]at hx)<;>(first|exact xz|(try simp(maxSteps:=4000000)(disch:=first|exact dz|fail)only[bB.u,seval,cut,hx,m5b0,R_few,hlt,hwv,hll,hdm,hcall,hq',hlv,hlk])))
   all_goals first|exact xz|(subst hrhs;(subst hb';refine(congrArg (fin _) (Run_lp Q _ _ _ _)).trans ?_;dsimp only;rw[e9];exact congrArg (fin R_few) (RunL_canon (canon_cong kr kr kr))))
 ·intro l hf hI
  rw[hf]
  have hlt:decide ((ks.length:Int)<(ks.length:Int))=false:=by simp
  unfold few_st
  obtain⟨b',hb'⟩:∃b',b'=m5b0:=⟨_,rfl⟩
  rw[RunL_eq,show Item.lp m5k0 m5b0=Item.lp m5k0 b' by rw[hb']]
  apply hide;intro rhs hrhs
  simp(maxSteps:=4000000)(disch:=first|exact dz|fail)only[bB.u,seval,cut,m5b0,few_tail,R_few,hlt]
  repeat'((with_reducible first|refine sp ?_ ?_|fail)<;>intro hx<;>(try simp only[bI.u]at hx)<;>(first|exact xz|(try simp(maxSteps:=4000000)(disch:=first|exact dz|fail)only[bB.u,seval,cut,hx,m5b0,few_tail,R_few,hlt])))
  all_goals first|exact xz|(subst hrhs;rfl)
 ·intro u hf
  rw[hf]
theorem c_few (N:Nat):∀(t:T) (v:MV) (d:Nat) (left:Int),sz t≤N→okT t→Rv v t→d≤1000→left≤3000→-9223372036854775808≤left→Call Q 5 [v,.int .i64 (d:Nat),.int .i64 left]=some (.int .i64 (fewT d left t)):=by
 induction N with
 |zero=>intro t v d left hs;cases t;rw[sz]at hs;omega
 |succ N ih=>
  intro T0 v d left hs hok hv hd hle hlo
  obtain⟨c,t,m,b,ks⟩:=T0
  rw[sz]at hs
  rw[okT]at hok
  obtain⟨_,_,_,_,hbl,hkl,hoks⟩:=hok
  rw[fewT]
  cases hv with
  | @mk _ _ _ _ v k _ _ hb hk=>
  have hlenb:∀st,lenV false v st=some (.int .i64 b.length):=by cases hb<;>exact fun _=>rfl
  have hlv:∀st,lend v st=some (v,st):=by cases hb<;>intro st<;>rfl
  by_cases h:d=0∨left≤0∨left≤b.length
  ·rw[if_pos h,Call_fn Q (m:=m5) rfl rfl]
   by_cases h1:d=0
   ·subst h1
    cases hb<;>cases hk
    all_goals(
    apply hide;intro rhs hrhs
    simp(maxSteps:=4000000)(disch:=first|exact dz|fail)only[bB.u,seval,cut,m5]
    repeat'((with_reducible first|refine sp ?_ ?_|fail)<;>intro hx<;>(try simp only[bI.u]at hx)<;>(first|exact xz|(try simp(maxSteps:=4000000)(disch:=first|exact dz|fail)only[bB.u,seval,cut,hx,m5])))
    all_goals first|exact xz|(subst hrhs;rfl))
   ·have g1:((d:Int)==0)=false:=by simpa using h1
    by_cases h2:left≤0
    ·have g2:decide (left≤0)=true:=by simpa using h2
     cases hb<;>cases hk
     all_goals(
     apply hide;intro rhs hrhs
     simp(maxSteps:=4000000)(disch:=first|exact dz|fail)only[bB.u,seval,cut,m5,g1,g2]
     repeat'((with_reducible first|refine sp ?_ ?_|fail)<;>intro hx<;>(try simp only[bI.u]at hx)<;>(first|exact xz|(try simp(maxSteps:=4000000)(disch:=first|exact dz|fail)only[bB.u,seval,cut,hx,m5,g1,g2])))
     all_goals first|exact xz|(subst hrhs;rfl))
    ·have g2:decide (left≤0)=false:=by simpa using h2
     have g3:decide (left≤(b.length:Int))=true:=by simp;omega
     have h3:left≤(b.length:Int):=by omega
     cases hb<;>cases hk
     all_goals first|(exfalso;simp only[List.length_nil]at h3;omega)|(
      apply hide;intro rhs hrhs
      simp(maxSteps:=4000000)(disch:=first|exact dz|fail)only[bB.u,seval,cut,m5,g1,g2,g3]
      repeat'((with_reducible first|refine sp ?_ ?_|fail)<;>intro hx<;>(try simp only[bI.u]at hx)<;>(first|exact xz|(try simp(maxSteps:=4000000)(disch:=first|exact dz|fail)only[bB.u,seval,cut,hx,m5,g1,g2,g3])))
      all_goals first|exact xz|(subst hrhs;rfl))
  ·rw[if_neg h]
   have g1:((d:Int)==0)=false:=by simp;omega
   have g2:decide (left≤0)=false:=by simp;omega
   have g3:decide (left≤(b.length:Int))=false:=by simp;omega
   have w1:IntKind.i64.wrap (1+(b.length:Int))=1+(b.length:Int):=by rw[w64 (by omega) (by omega)]
   have w2:IntKind.i64.wrap (left-(1+(b.length:Int)))=left-(1+(b.length:Int)):=by rw[w64 (by omega) (by omega)]
   have ih':∀t v l,t∈ks→Rv v t→l≤3000→-1≤l→Call Q 5 [v,.int .i64 ((d:Int)-1),.int .i64 l]=some (.int .i64 (fewT (d-1) l t)):=by
    intro t' v' l hm hv' hl' hl0
    have:=szs_mem' hm
    have e:=ih t' v' (d-1) l (by omega) (okTs_mem hoks t' hm) hv' (by omega) hl' (by omega)
    rwa [show((d-1:Nat):Int)=(d:Int)-1 by omega]at e
   rw[Call_fn Q (m:=m5) rfl rfl]
   cases hk with
   |nil=>
    have loop:=few_loop d (by omega) hd [] .nilsl [] (.inr ⟨rfl,rfl⟩) (by simp) (by intro t v l hm;cases hm) (left-(1+b.length)) (by omega) (by omega)
    cases hb
    all_goals(
     apply hide;intro rhs hrhs
     simp(maxSteps:=4000000)(disch:=first|exact dz|fail)only[bB.u,seval,cut,m5,g1,g2,g3,w1,w2,Run_loop]
     repeat'((with_reducible first|refine sp ?_ ?_|fail)<;>intro hx<;>(try simp only[bI.u]at hx)<;>(first|exact xz|(try simp(maxSteps:=4000000)(disch:=first|exact dz|fail)only[bB.u,seval,cut,hx,m5,g1,g2,g3,w1,w2,Run_loop])))
     all_goals first|exact xz|(subst hrhs;exact(congrArg (fin _) (RunL_canon (canon_cong kr kr kr))).trans loop))
   | @sl _ l _ hl=>
    have loop:=few_loop d (by omega) hd ks (.sl 5 l) l (.inl ⟨rfl,hl⟩) hkl ih' (left-(1+b.length)) (by omega) (by omega)
    have hll:=hl.length
    cases hb
    all_goals(
     apply hide;intro rhs hrhs
     simp(maxSteps:=4000000)(disch:=first|exact dz|fail)only[bB.u,seval,cut,m5,g1,g2,g3,w1,w2,hll,Run_loop]
     repeat'((with_reducible first|refine sp ?_ ?_|fail)<;>intro hx<;>(try simp only[bI.u]at hx)<;>(first|exact xz|(try simp(maxSteps:=4000000)(disch:=first|exact dz|fail)only[bB.u,seval,cut,hx,m5,g1,g2,g3,w1,w2,hll,Run_loop])))
     all_goals first|exact xz|(subst hrhs;exact(congrArg (fin _) (RunL_canon (canon_cong kr kr kr))).trans loop))
structure Fs (w:MV):Prop where
 l:∀st,lend w st=some (w,st)
 c:MV.cells w=[w]
 f:MV.fit w=true
 n:MV.names w=[]
 n2:MV.names2 w=[]
 mr:∀g,mapRef g w=w
 mv:∀g,mapV g w=w
theorem Fs.a {w:MV} (h:Fs w):(∀st,lend w st=some (w,st))∧MV.cells w=[w]∧MV.fit w=true∧MV.names w=[]∧MV.names2 w=[]∧(∀g,mapRef g w=w)∧∀g,mapV g w=w:=⟨h.l,h.c,h.f,h.n,h.n2,h.mr,h.mv⟩
theorem Rb.fs {w:MV} {b:List UInt8} (h:Rb w b):Fs w:=by cases h<;>exact⟨fun _=>rfl,rfl,rfl,rfl,rfl,fun _=>rfl,fun _=>rfl⟩
theorem nil_fs:Fs .nilsl:=⟨fun _=>rfl,rfl,rfl,rfl,rfl,fun _=>rfl,fun _=>rfl⟩
theorem sl_fs (l:List MV):Fs (.sl 5 l):=⟨fun _=>rfl,rfl,rfl,rfl,rfl,fun _=>rfl,fun _=>rfl⟩
theorem Ws.fs {w:MV} {ks:List T} (h:Ws false w ks):Fs w:=by
 cases h with
 |nil=>exact nil_fs
 |sl _=>exact sl_fs _
def R_pl:List (Nat × Option (Bool × Nat) × PK):=[(2,some (true,5),.other)]
def pl_tail:MCode:=(.seq (.rg [oT 30 (.load true 5 (.v 3)),
  oN (.store 5 (.v 2) (.t 30))])
  (.ret))
def zz5:List MV:=[.int .i64 0,.int .i64 0,.bool false,.nilsl,.nilsl]
def pl_st0 (c t:Int) (m:Bool) (w:MV) (kv:MV) (l:Nat):DS:=⟨[(2,.ptr 0 0),(3,.ptr 1 0),(16,kv),(17,.int .i64 (l:Nat)),(18,.int .i64 0)],[],[(0,.cells zz5),(1,.cells [.int .i64 c,.int .i64 t,.bool m,w,.nilsl])],3⟩
def pl_st (c t:Int) (m:Bool) (w:MV) (kv:MV) (l:Nat) (vs:List MV) (i:Nat):DS:=⟨[(2,.ptr 0 0),(3,.ptr 1 0),(16,kv),(17,.int .i64 (l:Nat)),(18,.int .i64 (i:Nat))],[],[(0,.cells zz5),(1,.cells [.int .i64 c,.int .i64 t,.bool m,w,.own 2 i]),(2,.el 5 vs false)],4⟩
theorem pl_step0 (c t:Int) (m:Bool) (w:MV) (hw:Fs w) (kl:List MV) (hl:kl.length≤2^40) (c1 t1:Int) (m1:Bool) (w1 k1:MV) (h1:Fs w1) (h2:Fs k1) (c2 t2:Int) (m2:Bool) (w2 k2:MV) (h3:Fs w2) (h4:Fs k2) (hc:Call Q 9 [.agg [.int .i64 c1,.int .i64 t1,.bool m1,w1,k1]]=some (.agg [.int .i64 c2,.int .i64 t2,.bool m2,w2,k2])) (hg:kl[0]? = some (.agg [.int .i64 c1,.int .i64 t1,.bool m1,w1,k1])):fin R_pl (RunL Q m9k0 m9b0 [.blk 0,.code pl_tail] (pl_st0 c t m w (.sl 5 kl) kl.length))=fin R_pl (RunL Q m9k0 m9b0 [.blk 0,.code pl_tail] (pl_st c t m w (.sl 5 kl) kl.length [.agg [.int .i64 c2,.int .i64 t2,.bool m2,w2,k2]] 1)):=by
 obtain⟨hi,hxx⟩:=List.getElem?_eq_some_iff.1 hg
 have hlt:decide ((0:Int)<(kl.length:Int))=true:=by simp;omega
 have i1:(0:Int)<(kl.length:Int):=by omega
 unfold pl_st0 pl_st zz5
 rw[show((1:Nat):Int)=(0:Int)+1 from rfl]
 obtain⟨b',hb'⟩:∃b',b'=m9b0:=⟨_,rfl⟩
 rw[RunL_eq,show Item.lp m9k0 m9b0=Item.lp m9k0 b' by rw[hb']]
 apply hide;intro rhs hrhs
 simp(maxSteps:=4000000) (disch:=first|omega|exact ok_of (by(try simp only[bB.u,seval,cut,hw.a,h1.a,h2.a,h3.a,h4.a]);kernel_rfl)|decide) only[bB.u,seval,cut,m9b0,hlt,i1,hg,hc,show(0:Int).toNat=0 from rfl,Run_nil,reach,hw.a,h1.a,h2.a,h3.a,h4.a]
 repeat'((with_reducible first|refine sp ?_ ?_|fail)<;>intro hx<;>(try simp only[bI.u]at hx)<;>(first|exact xz|(try simp(maxSteps:=4000000) (disch:=first|omega|exact ok_of (by(try simp only[bB.u,seval,cut,hw.a,h1.a,h2.a,h3.a,h4.a]);kernel_rfl)|decide) only[bB.u,seval,cut,hx,m9b0,hlt,i1,hg,hc,show(0:Int).toNat=0 from rfl,Run_nil,reach,hw.a,h1.a,h2.a,h3.a,h4.a])))
 all_goals first|exact xz|(subst hrhs;(subst hb';refine(congrArg (fin _) (Run_lp Q _ _ _ _)).trans ?_;exact congrArg (fin R_pl) (RunL_canon (canon_cong (by simp only[bA.u,seval,canon,liveNames,inhOf,keptNames,reach,nub,has,inner,newObjs,keepV,renObj,m9k0,hw.a,h1.a,h2.a,h3.a,h4.a]) (by simp only[bA.u,seval,canon,liveNames,inhOf,keptNames,reach,nub,has,inner,newObjs,keepV,renObj,m9k0,hw.a,h1.a,h2.a,h3.a,h4.a]) (by simp only[bA.u,seval,canon,liveNames,inhOf,keptNames,reach,nub,has,inner,newObjs,keepV,renObj,m9k0,hw.a,h1.a,h2.a,h3.a,h4.a])))))
theorem pl_step (c t:Int) (m:Bool) (w:MV) (hw:Fs w) (kl:List MV) (hl:kl.length≤2^40) (c1 t1:Int) (m1:Bool) (w1 k1:MV) (h1:Fs w1) (h2:Fs k1) (c2 t2:Int) (m2:Bool) (w2 k2:MV) (h3:Fs w2) (h4:Fs k2) (hc:Call Q 9 [.agg [.int .i64 c1,.int .i64 t1,.bool m1,w1,k1]]=some (.agg [.int .i64 c2,.int .i64 t2,.bool m2,w2,k2])) (vs:List MV) (i:Nat) (hI:vs.length=i) (hg:kl[i]? = some (.agg [.int .i64 c1,.int .i64 t1,.bool m1,w1,k1])):fin R_pl (RunL Q m9k0 m9b0 [.blk 0,.code pl_tail] (pl_st c t m w (.sl 5 kl) kl.length vs i))=fin R_pl (RunL Q m9k0 m9b0 [.blk 0,.code pl_tail] (pl_st c t m w (.sl 5 kl) kl.length (vs++[.agg [.int .i64 c2,.int .i64 t2,.bool m2,w2,k2]]) (i+1))):=by
 obtain⟨hi,hxx⟩:=List.getElem?_eq_some_iff.1 hg
 have hlt:decide ((i:Int)<(kl.length:Int))=true:=by simp;omega
 have i1:(i:Int)<(kl.length:Int):=by omega
 have e9:((i+1:Nat):Int)=(i:Int)+1:=rfl
 unfold pl_st zz5
 rw[e9]
 obtain⟨b',hb'⟩:∃b',b'=m9b0:=⟨_,rfl⟩
 rw[RunL_eq,show Item.lp m9k0 m9b0=Item.lp m9k0 b' by rw[hb']]
 apply hide;intro rhs hrhs
 simp(maxSteps:=4000000) (disch:=first|omega|exact ok_of (by(try simp only[bB.u,seval,cut,hw.a,h1.a,h2.a,h3.a,h4.a]);kernel_rfl)|decide) only[bB.u,seval,cut,m9b0,hlt,i1,hg,hI,hc,Run_nil,reach,hw.a,h1.a,h2.a,h3.a,h4.a]
 repeat'((with_reducible first|refine sp ?_ ?_|fail)<;>intro hx<;>(try simp only[bI.u]at hx)<;>(first|exact xz|(try simp(maxSteps:=4000000) (disch:=first|omega|exact ok_of (by(try simp only[bB.u,seval,cut,hw.a,h1.a,h2.a,h3.a,h4.a]);kernel_rfl)|decide) only[bB.u,seval,cut,hx,m9b0,hlt,i1,hg,hI,hc,Run_nil,reach,hw.a,h1.a,h2.a,h3.a,h4.a])))
 all_goals first|exact xz|(subst hrhs;(subst hb';refine(congrArg (fin _) (Run_lp Q _ _ _ _)).trans ?_;exact congrArg (fin R_pl) (RunL_canon (canon_cong (by simp only[bA.u,seval,canon,liveNames,inhOf,keptNames,reach,nub,has,inner,newObjs,keepV,renObj,m9k0,hw.a,h1.a,h2.a,h3.a,h4.a]) (by simp only[bA.u,seval,canon,liveNames,inhOf,keptNames,reach,nub,has,inner,newObjs,keepV,renObj,m9k0,hw.a,h1.a,h2.a,h3.a,h4.a]) (by simp only[bA.u,seval,canon,liveNames,inhOf,keptNames,reach,nub,has,inner,newObjs,keepV,renObj,m9k0,hw.a,h1.a,h2.a,h3.a,h4.a])))))
theorem pl_end (c t:Int) (m:Bool) (w:MV) (hw:Fs w) (kl vs:List MV) (hI:vs.length=kl.length):fin R_pl (RunL Q m9k0 m9b0 [.blk 0,.code pl_tail] (pl_st c t m w (.sl 5 kl) kl.length vs kl.length))=some (.agg [.int .i64 c,.int .i64 t,.bool m,w,.sl 5 vs]):=by
 have hlt:decide ((kl.length:Int)<(kl.length:Int))=false:=by simp
 unfold pl_st zz5
 obtain⟨b',hb'⟩:∃b',b'=m9b0:=⟨_,rfl⟩
 rw[RunL_eq,show Item.lp m9k0 m9b0=Item.lp m9k0 b' by rw[hb']]
 apply hide;intro rhs hrhs
 simp(maxSteps:=4000000) (disch:=first|omega|exact ok_of (by(try simp only[bB.u,seval,cut,hw.a]);kernel_rfl)|decide) only[bB.u,seval,cut,m9b0,pl_tail,R_pl,hlt,hI,Run_nil,reach,hw.a]
 repeat'((with_reducible first|refine sp ?_ ?_|fail)<;>intro hx<;>(try simp only[bI.u]at hx)<;>(first|exact xz|(try simp(maxSteps:=4000000) (disch:=first|omega|exact ok_of (by(try simp only[bB.u,seval,cut,hw.a]);kernel_rfl)|decide) only[bB.u,seval,cut,hx,m9b0,pl_tail,R_pl,hlt,hI,Run_nil,reach,hw.a])))
 all_goals first|exact xz|(subst hrhs;rfl)
theorem pl_none (c t:Int) (m:Bool) (w kv:MV) (hw:Fs w) (hk:Fs kv):fin R_pl (RunL Q m9k0 m9b0 [.blk 0,.code pl_tail] (pl_st0 c t m w kv 0))=some (.agg [.int .i64 c,.int .i64 t,.bool m,w,.nilsl]):=by
 unfold pl_st0 zz5
 obtain⟨b',hb'⟩:∃b',b'=m9b0:=⟨_,rfl⟩
 rw[RunL_eq,show Item.lp m9k0 m9b0=Item.lp m9k0 b' by rw[hb']]
 apply hide;intro rhs hrhs
 simp(maxSteps:=4000000) (disch:=first|omega|exact ok_of (by(try simp only[bB.u,seval,cut,hw.a,hk.a]);kernel_rfl)|decide) only[bB.u,seval,cut,m9b0,pl_tail,R_pl,Run_nil,reach,hw.a,hk.a]
 repeat'((with_reducible first|refine sp ?_ ?_|fail)<;>intro hx<;>(try simp only[bI.u]at hx)<;>(first|exact xz|(try simp(maxSteps:=4000000) (disch:=first|omega|exact ok_of (by(try simp only[bB.u,seval,cut,hw.a,hk.a]);kernel_rfl)|decide) only[bB.u,seval,cut,hx,m9b0,pl_tail,R_pl,Run_nil,reach,hw.a,hk.a])))
 all_goals first|exact xz|(subst hrhs;rfl)
theorem pl_start (c t:Int) (m:Bool) (w kv:MV) (hw:Fs w) (hk:Fs kv) (l:Nat) (hkl:∀st,lenV false kv st=some (.int .i64 (l:Nat))) (r:MV) (loop:fin R_pl (RunL Q m9k0 m9b0 [.blk 0,.code pl_tail] (pl_st0 c t m w kv l))=some r):Call Q 9 [.agg [.int .i64 c,.int .i64 t,.bool m,w,kv]]=some r:=by
 unfold pl_st0 zz5 at loop
 rw[Call_fn Q (m:=m9) rfl rfl]
 apply hide;intro rhs hrhs
 simp(maxSteps:=4000000) (disch:=first|omega|exact ok_of (by(try simp only[bB.u,seval,cut,hw.a,hk.a]);kernel_rfl)|decide) only[bB.u,seval,cut,m9,hkl,Run_loop,Run_nil,reach,hw.a,hk.a]
 repeat'((with_reducible first|refine sp ?_ ?_|fail)<;>intro hx<;>(try simp only[bI.u]at hx)<;>(first|exact xz|(try simp(maxSteps:=4000000) (disch:=first|omega|exact ok_of (by(try simp only[bB.u,seval,cut,hw.a,hk.a]);kernel_rfl)|decide) only[bB.u,seval,cut,hx,m9,hkl,Run_loop,Run_nil,reach,hw.a,hk.a])))
 all_goals first|exact xz|(subst hrhs;exact(congrArg (fin _) (RunL_canon (canon_cong (by simp only[bA.u,seval,canon,liveNames,inhOf,keptNames,reach,nub,has,inner,newObjs,keepV,renObj,m9k0,hw.a,hk.a]) (by simp only[bA.u,seval,canon,liveNames,inhOf,keptNames,reach,nub,has,inner,newObjs,keepV,renObj,m9k0,hw.a,hk.a]) (by simp only[bA.u,seval,canon,liveNames,inhOf,keptNames,reach,nub,has,inner,newObjs,keepV,renObj,m9k0,hw.a,hk.a])))).trans loop)
theorem rv_form {v:MV} {t:T} (h:Rv v t):∃w k,v= .agg [.int .i64 (match t with| .mk c _ _ _ _=>c),.int .i64 (match t with| .mk _ t _ _ _=>t),.bool (match t with| .mk _ _ m _ _=>m),w,k]∧Rb w (match t with| .mk _ _ _ b _=>b)∧Ws false k (match t with| .mk _ _ _ _ ks=>ks):=by
 cases h with
 |mk hb hk=>exact⟨_,_,rfl,hb,hk⟩
theorem pl_all (c t:Int) (m:Bool) (w:MV) (hw:Fs w) (kl:List MV) (hl:kl.length≤2^40) (ks:List T) (ih:∀k∈ks,∀v,Rv v k→∃v',Call Q 9 [v]=some v'∧Rv v' k):∀(r:List T) (ws:List MV) (i:Nat) (vs:List MV),(∀k∈r,k∈ks)→kl.drop i=ws→Wl false ws r→vs.length=i→i≤kl.length →
  ∃us,Wl false us r∧fin R_pl (RunL Q m9k0 m9b0 [.blk 0,.code pl_tail] (pl_st c t m w (.sl 5 kl) kl.length vs i))=some (.agg [.int .i64 c,.int .i64 t,.bool m,w,.sl 5 (vs++us)]):=by
 intro r
 induction r with
 |nil=>
  intro ws i vs _ hd hw' hi hle
  cases hw'
  have:i=kl.length:=by
   have:=congrArg List.length hd
   simp at this;omega
  subst this
  exact⟨[],.nil,by rw[pl_end c t m w hw kl vs hi,List.append_nil]⟩
 |cons k r IH=>
  intro ws i vs hm hd hw' hi hle
  cases hw' with
  | @cons _ v1 _ ws _ h1 hr=>
  obtain⟨v2,hc,h2⟩:=ih k (hm k (List.mem_cons_self ..)) v1 h1
  have hg:kl[i]? = some v1:=by rw[←List.head?_drop,hd];rfl
  have hd2:kl.drop (i+1)=ws:=by rw[←List.drop_drop,hd];rfl
  have hlt:i<kl.length:=(List.getElem?_eq_some_iff.1 hg).1
  obtain⟨us,g1,g2⟩:=IH ws (i+1) (vs++[v2]) (fun x hx=>hm x (List.mem_cons_of_mem _ hx)) hd2 hr (by simp[hi]) hlt
  refine⟨v2::us,.cons h2 g1,?_⟩
  obtain⟨w1,k1,rfl,b1,s1⟩:=rv_form h1
  obtain⟨w2,k2,rfl,b2,s2⟩:=rv_form h2
  rw[pl_step c t m w hw kl hl _ _ _ w1 k1 b1.fs s1.fs _ _ _ w2 k2 b2.fs s2.fs hc vs i hi hg,g2,List.append_assoc]
  rfl
theorem c_plain (N:Nat):∀(t:T) (v:MV),sz t≤N→N≤2^40→Rv v t→∃v',Call Q 9 [v]=some v'∧Rv v' t:=by
 induction N with
 |zero=>intro t v hs;cases t;rw[sz]at hs;omega
 |succ N ih=>
  intro T0 v hs hN hv
  obtain⟨c,t,m,b,ks⟩:=T0
  rw[sz]at hs
  have hkl:=szs_len ks
  have ih':∀k∈ks,∀v,Rv v k→∃v',Call Q 9 [v]=some v'∧Rv v' k:=by
   intro k hk v hv
   have:=szs_mem' hk
   exact ih k v (by omega) (by omega) hv
  cases hv with
  | @mk _ _ _ _ w kv _ _ hb hk=>
  cases ks with
  |nil=>
   have h0:∀st,lenV false kv st=some (.int .i64 (0:Nat)):=by
    cases hk with
    |nil=>exact fun _=>rfl
    |sl hl=>cases hl;exact fun _=>rfl
   exact⟨_,pl_start c t m w kv hb.fs hk.fs 0 h0 _ (pl_none c t m w kv hb.fs hk.fs),.mk hb .nil⟩
  |cons k r=>
   cases hk with
   | @sl _ l _ hl=>
    have hll:=hl.length
    cases hl with
    | @cons _ v1 _ ws _ h1 hr=>
     obtain⟨v2,hc,h2⟩:=ih' k (List.mem_cons_self ..) v1 h1
     obtain⟨us,g1,g2⟩:=pl_all c t m w hb.fs (v1::ws) (by rw[hll];omega) (k::r) ih' r ws 1 [v2] (fun x hx=>List.mem_cons_of_mem _ hx) rfl hr rfl (by simp)
     refine⟨.agg [.int .i64 c,.int .i64 t,.bool m,w,.sl 5 (v2::us)],pl_start c t m w _ hb.fs (sl_fs _) (v1::ws).length (fun _=>rfl) _ ?_,.mk hb (.sl (.cons h2 g1))⟩
     obtain⟨w1,k1,rfl,b1,s1⟩:=rv_form h1
     obtain⟨w2,k2,rfl,b2,s2⟩:=rv_form h2
     rw[pl_step0 c t m w hb.fs _ (by rw[hll];omega) _ _ _ w1 k1 b1.fs s1.fs _ _ _ w2 k2 b2.fs s2.fs hc rfl]
     exact g2
def R_m:List (Nat × Option (Bool × Nat) × PK):=[(4,none,.other)]
def m_tail:MCode:=(.seq (.rg [oV 4 (.mv (.c (.bool true)))])
  (.ret))
theorem same_in (a b:List UInt8) (hl:a.length=b.length) (ha:a.length<2^62):∀(ra rb:List UInt8) (i:Nat),a.drop i=ra→b.drop i=rb→i+ra.length=a.length →
  fin R_m (RunL Q m32k0 m32b0 [.blk 0,.code m_tail] ⟨[(0,.bs a),(1,.bs b),(5,.int .i64 i)],[],[],1⟩)=some (.bool (ra==rb))
 | [],rb,i,h1,h2,h3=>by
  have hi:i=a.length:=by simpa using h3
  have hb:rb=[]:=by rw[←h2,hi,hl];simp
  subst hb
  have hlt:decide ((i:Int)<(a.length:Int))=false:=by simp;omega
  obtain⟨b',hb'⟩:∃b',b'=m32b0:=⟨_,rfl⟩
  rw[RunL_eq,show Item.lp m32k0 m32b0=Item.lp m32k0 b' by rw[hb']]
  apply hide;intro rhs hrhs
  simp(maxSteps:=4000000)(disch:=first|exact dz|fail)only[bB.u,seval,cut,m32b0,m_tail,R_m,hlt]
  repeat'((with_reducible first|refine sp ?_ ?_|fail)<;>intro hx<;>(try simp only[bI.u]at hx)<;>(first|exact xz|(try simp(maxSteps:=4000000)(disch:=first|exact dz|fail)only[bB.u,seval,cut,hx,m32b0,m_tail,R_m,hlt])))
  all_goals first|exact xz|(subst hrhs;rfl)
 |x::ra,rb,i,h1,h2,h3=>by
  have hg:a[i]? = some x:=by
   have:=congrArg (·[0]?) h1
   simpa[List.getElem?_drop]using this
  have hd:a.drop (i+1)=ra:=by
   have:=congrArg (List.drop 1) h1
   simpa[List.drop_drop]using this
  simp only[List.length_cons]at h3
  match rb,h2 with
  | [],h2=>
   have:=congrArg List.length h2
   simp at this
   omega
  |y::rb,h2=>
   have hg2:b[i]? = some y:=by
    have:=congrArg (·[0]?) h2
    simpa[List.getElem?_drop]using this
   have hd2:b.drop (i+1)=rb:=by
    have:=congrArg (List.drop 1) h2
    simpa[List.drop_drop]using this
   have hlt:decide ((i:Int)<(a.length:Int))=true:=by simp;omega
   have i1:(i:Int)<(a.length:Int):=by omega
   have i2:(i:Int)<(b.length:Int):=by omega
   by_cases hxy:x=y
   ·subst hxy
    have hne:((x.toNat:Int)==(x.toNat:Int))=true:=by simp
    have hne2:((x.toNat:Int) != (x.toNat:Int))=false:=by simp
    have e:((x::ra)==(x::rb))=(ra==rb):=by simp
    rw[e,←same_in a b hl ha ra rb (i+1) hd hd2 (by omega)]
    obtain⟨b',hb'⟩:∃b',b'=m32b0:=⟨_,rfl⟩
    rw[RunL_eq,show Item.lp m32k0 m32b0=Item.lp m32k0 b' by rw[hb']]
    apply hide;intro rhs hrhs
    simp(maxSteps:=4000000)(disch:=first|exact dz|fail)only[bB.u,seval,cut,m32b0,R_m,hlt,i1,i2,hg,hg2,hne,hne2]
    repeat'((with_reducible first|refine sp ?_ ?_|fail)<;>intro hx<;>(try simp only[bI.u]at hx)<;>(first|exact xz|(try simp(maxSteps:=4000000)(disch:=first|exact dz|fail)only[bB.u,seval,cut,hx,m32b0,R_m,hlt,i1,i2,hg,hg2,hne,hne2])))
    all_goals first|exact xz|(subst hrhs;(subst hb';refine(congrArg (fin _) (Run_lp Q _ _ _ _)).trans ?_;exact congrArg (fin R_m) (RunL_canon (canon_cong kr kr kr))))
   ·have hn:¬(x.toNat:Int)=(y.toNat:Int):=fun h=>hxy (UInt8.toNat_inj.1 (by omega))
    have hne:((x.toNat:Int)==(y.toNat:Int))=false:=by simpa using hn
    have hne2:((x.toNat:Int) != (y.toNat:Int))=true:=by simpa using hn
    have e:((x::ra)==(y::rb))=false:=by simp[hxy]
    rw[e]
    obtain⟨b',hb'⟩:∃b',b'=m32b0:=⟨_,rfl⟩
    rw[RunL_eq,show Item.lp m32k0 m32b0=Item.lp m32k0 b' by rw[hb']]
    apply hide;intro rhs hrhs
    simp(maxSteps:=4000000)(disch:=first|exact dz|fail)only[bB.u,seval,cut,m32b0,m_tail,R_m,hlt,i1,i2,hg,hg2,hne,hne2]
    repeat'((with_reducible first|refine sp ?_ ?_|fail)<;>intro hx<;>(try simp only[bI.u]at hx)<;>(first|exact xz|(try simp(maxSteps:=4000000)(disch:=first|exact dz|fail)only[bB.u,seval,cut,hx,m32b0,m_tail,R_m,hlt,i1,i2,hg,hg2,hne,hne2])))
    all_goals first|exact xz|(subst hrhs;rfl)
theorem c_Same (a b:List UInt8) (ha:a.length<2^62):Call Q 32 [.bs a,.bs b]=some (.bool (a==b)):=by
 rw[Call_fn Q (m:=m32) rfl rfl]
 by_cases hl:a.length=b.length
 ·have h1:((a.length:Int)==(b.length:Int))=true:=by rw[hl];simp
  have h2:((a.length:Int) != (b.length:Int))=false:=by rw[hl];simp
  have loop:=same_in a b hl ha a b 0 rfl rfl (by simp)
  rw[show((0:Nat):Int)=0 from rfl]at loop
  apply hide;intro rhs hrhs
  simp(maxSteps:=4000000)(disch:=first|exact dz|fail)only[bB.u,seval,cut,m32,h1,h2,Run_loop]
  repeat'((with_reducible first|refine sp ?_ ?_|fail)<;>intro hx<;>(try simp only[bI.u]at hx)<;>(first|exact xz|(try simp(maxSteps:=4000000)(disch:=first|exact dz|fail)only[bB.u,seval,cut,hx,m32,h1,h2,Run_loop])))
  all_goals first|exact xz|(subst hrhs;exact(congrArg (fin _) (RunL_canon (canon_cong kr kr kr))).trans loop)
 ·have hn:¬(a.length:Int)=(b.length:Int):=by omega
  have h1:((a.length:Int)==(b.length:Int))=false:=by simpa using hn
  have h2:((a.length:Int) != (b.length:Int))=true:=by simpa using hn
  have e:(a==b)=false:=by
   rw[beq_eq_false_iff_ne]
   rintro rfl
   exact hl rfl
  rw[e]
  apply hide;intro rhs hrhs
  simp(maxSteps:=4000000)(disch:=first|exact dz|fail)only[bB.u,seval,cut,m32,h1,h2]
  repeat'((with_reducible first|refine sp ?_ ?_|fail)<;>intro hx<;>(try simp only[bI.u]at hx)<;>(first|exact xz|(try simp(maxSteps:=4000000)(disch:=first|exact dz|fail)only[bB.u,seval,cut,hx,m32,h1,h2])))
  all_goals first|exact xz|(subst hrhs;rfl)
theorem call_entry (f:Nat) (m:MFunc) (hf:Q.prim f=none) (hm:Q.fn f=some m) {a b:List MV} (h:entry m a=entry m b):Call Q f a=Call Q f b:=by
 rw[Call_fn Q hf hm,Call_fn Q hf hm,h]
theorem same_nil (b:List UInt8) (hb:b.length<2^62) (v:MV) (hv:Rb v b) (u:MV) (b2:List UInt8) (hu:Rb u b2):Call Q 32 [v,u]=some (.bool (b==b2)):=by
 have e:=c_Same b b2 hb
 cases hv<;>cases hu
 ·exact e
 ·exact(call_entry 32 m32 rfl rfl (a:=[.bs b,.nilsl]) (b:=[.bs b,.bs []]) rfl).trans e
 ·exact(call_entry 32 m32 rfl rfl (a:=[.nilsl,.bs b2]) (b:=[.bs [],.bs b2]) rfl).trans e
 ·exact(call_entry 32 m32 rfl rfl (a:=[.nilsl,.nilsl]) (b:=[.bs [],.bs []]) rfl).trans e
mutual
def sameT:T→T→Bool
 | .mk c t m b ks,.mk c' t' m' b' ks'=>c==c'&&t==t'&&m==m'&&b==b'&&sameTs ks ks'
def sameTs:List T→List T→Bool
 | [],[]=>true
 |k::r,k'::r'=>sameT k k'&&sameTs r r'
 |_,_=>false
end
mutual
theorem sameT_eq:∀a b:T,sameT a b=true→a=b
 | .mk c t m b ks,.mk c' t' m' b' ks',h=>by
  rw[sameT]at h
  simp only[Bool.and_eq_true,beq_iff_eq]at h
  obtain⟨⟨⟨⟨rfl,rfl⟩,rfl⟩,rfl⟩,h⟩:=h
  rw[sameTs_eq ks ks' h]
theorem sameTs_eq:∀a b:List T,sameTs a b=true→a=b
 | [],[],_=>rfl
 |k::r,k'::r',h=>by
  rw[sameTs]at h
  simp only[Bool.and_eq_true]at h
  rw[sameT_eq k k' h.1,sameTs_eq r r' h.2]
 | [],_::_,h=>by rw[sameTs]at h;cases h;all_goals simp
 |_::_,[],h=>by rw[sameTs]at h;cases h;all_goals simp
end
mutual
theorem sameT_refl:∀a:T,sameT a a=true
 | .mk c t m b ks=>by rw[sameT,sameTs_refl ks];simp
theorem sameTs_refl:∀a:List T,sameTs a a=true
 | []=>rfl
 |k::r=>by rw[sameTs,sameT_refl k,sameTs_refl r];rfl
end
def R_sm:List (Nat × Option (Bool × Nat) × PK):=[(4,none,.other)]
def sm_tail:MCode:=(.seq (.rg [oV 4 (.mv (.c (.bool true)))])
  (.ret))
def sm_st (cs:List MV) (kv:MV) (l i:Nat):DS:=⟨[(3,.ptr 0 0),(44,kv),(45,.int .i64 (l:Nat)),(46,.int .i64 (i:Nat))],[],[(0,.cells cs)],2⟩
theorem sm_yes (c t:Int) (m:Bool) (w:MV) (hw:Fs w) (l1 l2:List MV) (hl:l1.length≤2^40) (i:Nat) (c1 t1:Int) (m1:Bool) (w1 k1:MV) (h1:Fs w1) (h2:Fs k1) (c2 t2:Int) (m2:Bool) (w2 k2:MV) (h3:Fs w2) (h4:Fs k2) (hg:l1[i]? = some (.agg [.int .i64 c1,.int .i64 t1,.bool m1,w1,k1])) (hg2:l2[i]? = some (.agg [.int .i64 c2,.int .i64 t2,.bool m2,w2,k2])) (hc:Call Q 14 [.agg [.int .i64 c1,.int .i64 t1,.bool m1,w1,k1],.agg [.int .i64 c2,.int .i64 t2,.bool m2,w2,k2]]=some (.bool true)):fin R_sm (RunL Q m14k0 m14b0 [.blk 0,.code sm_tail] (sm_st [.int .i64 c,.int .i64 t,.bool m,w,.sl 5 l2] (.sl 5 l1) l1.length i))=fin R_sm (RunL Q m14k0 m14b0 [.blk 0,.code sm_tail] (sm_st [.int .i64 c,.int .i64 t,.bool m,w,.sl 5 l2] (.sl 5 l1) l1.length (i+1))):=by
 obtain⟨hi,hxx⟩:=List.getElem?_eq_some_iff.1 hg
 obtain⟨hi2,hxx2⟩:=List.getElem?_eq_some_iff.1 hg2
 have hlt:decide ((i:Int)<(l1.length:Int))=true:=by simp;omega
 have i1:(i:Int)<(l1.length:Int):=by omega
 have i2:(i:Int)<(l2.length:Int):=by omega
 have e9:((i+1:Nat):Int)=(i:Int)+1:=rfl
 unfold sm_st
 rw[e9]
 obtain⟨b',hb'⟩:∃b',b'=m14b0:=⟨_,rfl⟩
 rw[RunL_eq,show Item.lp m14k0 m14b0=Item.lp m14k0 b' by rw[hb']]
 apply hide;intro rhs hrhs
 simp(maxSteps:=4000000) (disch:=first|omega|exact ok_of (by(try simp only[bB.u,seval,cut,hw.a,h1.a,h2.a,h3.a,h4.a]);kernel_rfl)|decide) only[bB.u,seval,cut,m14b0,R_sm,hlt,i1,i2,hg,hg2,hc,Run_nil,reach,hw.a,h1.a,h2.a,h3.a,h4.a]
 repeat'((with_reducible first|refine sp ?_ ?_|fail)<;>intro hx<;>(try simp only[bI.u]at hx)<;>(first|exact xz|(try simp(maxSteps:=4000000) (disch:=first|omega|exact ok_of (by(try simp only[bB.u,seval,cut,hw.a,h1.a,h2.a,h3.a,h4.a]);kernel_rfl)|decide) only[bB.u,seval,cut,hx,m14b0,R_sm,hlt,i1,i2,hg,hg2,hc,Run_nil,reach,hw.a,h1.a,h2.a,h3.a,h4.a])))
 all_goals first|exact xz|(subst hrhs;(subst hb';refine(congrArg (fin _) (Run_lp Q _ _ _ _)).trans ?_;exact congrArg (fin R_sm) (RunL_canon (canon_cong (by simp only[bA.u,seval,canon,liveNames,inhOf,keptNames,reach,nub,has,inner,newObjs,keepV,renObj,m14k0,hw.a,h1.a,h2.a,h3.a,h4.a]) (by simp only[bA.u,seval,canon,liveNames,inhOf,keptNames,reach,nub,has,inner,newObjs,keepV,renObj,m14k0,hw.a,h1.a,h2.a,h3.a,h4.a]) (by simp only[bA.u,seval,canon,liveNames,inhOf,keptNames,reach,nub,has,inner,newObjs,keepV,renObj,m14k0,hw.a,h1.a,h2.a,h3.a,h4.a])))))
theorem sm_no (c t:Int) (m:Bool) (w:MV) (hw:Fs w) (l1 l2:List MV) (hl:l1.length≤2^40) (i:Nat) (c1 t1:Int) (m1:Bool) (w1 k1:MV) (h1:Fs w1) (h2:Fs k1) (c2 t2:Int) (m2:Bool) (w2 k2:MV) (h3:Fs w2) (h4:Fs k2) (hg:l1[i]? = some (.agg [.int .i64 c1,.int .i64 t1,.bool m1,w1,k1])) (hg2:l2[i]? = some (.agg [.int .i64 c2,.int .i64 t2,.bool m2,w2,k2])) (hc:Call Q 14 [.agg [.int .i64 c1,.int .i64 t1,.bool m1,w1,k1],.agg [.int .i64 c2,.int .i64 t2,.bool m2,w2,k2]]=some (.bool false)):fin R_sm (RunL Q m14k0 m14b0 [.blk 0,.code sm_tail] (sm_st [.int .i64 c,.int .i64 t,.bool m,w,.sl 5 l2] (.sl 5 l1) l1.length i))=some (.bool false):=by
 obtain⟨hi,hxx⟩:=List.getElem?_eq_some_iff.1 hg
 obtain⟨hi2,hxx2⟩:=List.getElem?_eq_some_iff.1 hg2
 have hlt:decide ((i:Int)<(l1.length:Int))=true:=by simp;omega
 have i1:(i:Int)<(l1.length:Int):=by omega
 have i2:(i:Int)<(l2.length:Int):=by omega
 have e9:((i+1:Nat):Int)=(i:Int)+1:=rfl
 unfold sm_st
 obtain⟨b',hb'⟩:∃b',b'=m14b0:=⟨_,rfl⟩
 rw[RunL_eq,show Item.lp m14k0 m14b0=Item.lp m14k0 b' by rw[hb']]
 apply hide;intro rhs hrhs
 simp(maxSteps:=4000000) (disch:=first|omega|exact ok_of (by(try simp only[bB.u,seval,cut,hw.a,h1.a,h2.a,h3.a,h4.a]);kernel_rfl)|decide) only[bB.u,seval,cut,m14b0,R_sm,hlt,i1,i2,hg,hg2,hc,Run_nil,reach,hw.a,h1.a,h2.a,h3.a,h4.a]
 repeat'((with_reducible first|refine sp ?_ ?_|fail)<;>intro hx<;>(try simp only[bI.u]at hx)<;>(first|exact xz|(try simp(maxSteps:=4000000) (disch:=first|omega|exact ok_of (by(try simp only[bB.u,seval,cut,hw.a,h1.a,h2.a,h3.a,h4.a]);kernel_rfl)|decide) only[bB.u,seval,cut,hx,m14b0,R_sm,hlt,i1,i2,hg,hg2,hc,Run_nil,reach,hw.a,h1.a,h2.a,h3.a,h4.a])))
 all_goals first|exact xz|(subst hrhs;rfl)
theorem sm_end (c t:Int) (m:Bool) (w:MV) (hw:Fs w) (l1 l2:List MV):fin R_sm (RunL Q m14k0 m14b0 [.blk 0,.code sm_tail] (sm_st [.int .i64 c,.int .i64 t,.bool m,w,.sl 5 l2] (.sl 5 l1) l1.length l1.length))=some (.bool true):=by
 have hlt:decide ((l1.length:Int)<(l1.length:Int))=false:=by simp
 unfold sm_st
 obtain⟨b',hb'⟩:∃b',b'=m14b0:=⟨_,rfl⟩
 rw[RunL_eq,show Item.lp m14k0 m14b0=Item.lp m14k0 b' by rw[hb']]
 apply hide;intro rhs hrhs
 simp(maxSteps:=4000000) (disch:=first|omega|exact ok_of (by(try simp only[bB.u,seval,cut,hw.a]);kernel_rfl)|decide) only[bB.u,seval,cut,m14b0,sm_tail,R_sm,hlt,Run_nil,reach,hw.a]
 repeat'((with_reducible first|refine sp ?_ ?_|fail)<;>intro hx<;>(try simp only[bI.u]at hx)<;>(first|exact xz|(try simp(maxSteps:=4000000) (disch:=first|omega|exact ok_of (by(try simp only[bB.u,seval,cut,hw.a]);kernel_rfl)|decide) only[bB.u,seval,cut,hx,m14b0,sm_tail,R_sm,hlt,Run_nil,reach,hw.a])))
 all_goals first|exact xz|(subst hrhs;rfl)
theorem sm_none (cs:List MV) (kv:MV) (hk:Fs kv):fin R_sm (RunL Q m14k0 m14b0 [.blk 0,.code sm_tail] (sm_st cs kv 0 0))=some (.bool true):=by
 unfold sm_st
 obtain⟨b',hb'⟩:∃b',b'=m14b0:=⟨_,rfl⟩
 rw[RunL_eq,show Item.lp m14k0 m14b0=Item.lp m14k0 b' by rw[hb']]
 apply hide;intro rhs hrhs
 simp(maxSteps:=4000000) (disch:=first|omega|exact ok_of (by(try simp only[bB.u,seval,cut,hk.a]);kernel_rfl)|decide) only[bB.u,seval,cut,m14b0,sm_tail,R_sm,Run_nil,reach,hk.a]
 repeat'((with_reducible first|refine sp ?_ ?_|fail)<;>intro hx<;>(try simp only[bI.u]at hx)<;>(first|exact xz|(try simp(maxSteps:=4000000) (disch:=first|omega|exact ok_of (by(try simp only[bB.u,seval,cut,hk.a]);kernel_rfl)|decide) only[bB.u,seval,cut,hx,m14b0,sm_tail,R_sm,Run_nil,reach,hk.a])))
 all_goals first|exact xz|(subst hrhs;rfl)
theorem sm_all (c t:Int) (m:Bool) (w:MV) (hw:Fs w) (l1 l2:List MV) (hl:l1.length≤2^40) (ks:List T) (ih:∀k∈ks,∀k2 v u,Rv v k→Rv u k2→Call Q 14 [v,u]=some (.bool (sameT k k2))):∀(r r2:List T) (w1 w2:List MV) (i:Nat),(∀k∈r,k∈ks)→l1.drop i=w1→l2.drop i=w2→Wl false w1 r→Wl false w2 r2→r.length=r2.length→i≤l1.length →
  fin R_sm (RunL Q m14k0 m14b0 [.blk 0,.code sm_tail] (sm_st [.int .i64 c,.int .i64 t,.bool m,w,.sl 5 l2] (.sl 5 l1) l1.length i))=some (.bool (sameTs r r2)):=by
 intro r
 induction r with
 |nil=>
  intro r2 w1 w2 i _ hd1 _ hw1 _ hlr hle
  cases hw1
  cases r2 with
  |cons=>simp at hlr
  |nil=>
  have:i=l1.length:=by
   have:=congrArg List.length hd1
   simp at this;omega
  subst this
  rw[sm_end c t m w hw];rfl
 |cons k r IH=>
  intro r2 w1 w2 i hm hd1 hd2 hw1 hw2 hlr hle
  cases r2 with
  |nil=>simp at hlr
  |cons k2 r2=>
  cases hw1 with
  | @cons _ v1 _ ws1 _ a1 b1=>
  cases hw2 with
  | @cons _ v2 _ ws2 _ a2 b2=>
  have hc:=ih k (hm k (List.mem_cons_self ..)) k2 v1 v2 a1 a2
  have hg:l1[i]? = some v1:=by rw[←List.head?_drop,hd1];rfl
  have hg2:l2[i]? = some v2:=by rw[←List.head?_drop,hd2];rfl
  have hlt:i<l1.length:=(List.getElem?_eq_some_iff.1 hg).1
  have he1:l1.drop (i+1)=ws1:=by rw[←List.drop_drop,hd1];rfl
  have he2:l2.drop (i+1)=ws2:=by rw[←List.drop_drop,hd2];rfl
  obtain⟨x1,y1,rfl,p1,q1⟩:=rv_form a1
  obtain⟨x2,y2,rfl,p2,q2⟩:=rv_form a2
  rw[sameTs]
  cases hs:sameT k k2 with
  |true=>
   rw[hs]at hc
   rw[sm_yes c t m w hw l1 l2 hl i _ _ _ x1 y1 p1.fs q1.fs _ _ _ x2 y2 p2.fs q2.fs hg hg2 hc,IH r2 ws1 ws2 (i+1) (fun x hx=>hm x (List.mem_cons_of_mem _ hx)) he1 he2 b1 b2 (by simpa using hlr) hlt]
   rfl
  |false=>
   rw[hs]at hc
   rw[sm_no c t m w hw l1 l2 hl i _ _ _ x1 y1 p1.fs q1.fs _ _ _ x2 y2 p2.fs q2.fs hg hg2 hc]
   rfl
theorem sm_1 (c t c' t':Int) (m m':Bool) (w k w' k':MV) (f1:Fs w) (f2:Fs k) (f3:Fs w') (f4:Fs k') (h1:¬c=c'):Call Q 14 [.agg [.int .i64 c,.int .i64 t,.bool m,w,k],.agg [.int .i64 c',.int .i64 t',.bool m',w',k']]=some (.bool false):=by
 have n1:(c != c')=true:=by simp[h1]
 have n2:(c==c')=false:=by simp[h1]
 rw[Call_fn Q (m:=m14) rfl rfl]
 apply hide;intro rhs hrhs
 simp(maxSteps:=4000000) (disch:=first|omega|exact ok_of (by(try simp only[bB.u,seval,cut,f1.a,f2.a,f3.a,f4.a]);kernel_rfl)|decide) only[bB.u,seval,cut,m14,n1,n2,Run_nil,reach,f1.a,f2.a,f3.a,f4.a]
 repeat'((with_reducible first|refine sp ?_ ?_|fail)<;>intro hx<;>(try simp only[bI.u]at hx)<;>(first|exact xz|(try simp(maxSteps:=4000000) (disch:=first|omega|exact ok_of (by(try simp only[bB.u,seval,cut,f1.a,f2.a,f3.a,f4.a]);kernel_rfl)|decide) only[bB.u,seval,cut,hx,m14,n1,n2,Run_nil,reach,f1.a,f2.a,f3.a,f4.a])))
 all_goals first|exact xz|(subst hrhs;rfl)
theorem sm_2 (c t c' t':Int) (m m':Bool) (w k w' k':MV) (f1:Fs w) (f2:Fs k) (f3:Fs w') (f4:Fs k') (h1:c=c') (h2:¬t=t'):Call Q 14 [.agg [.int .i64 c,.int .i64 t,.bool m,w,k],.agg [.int .i64 c',.int .i64 t',.bool m',w',k']]=some (.bool false):=by
 have n1:(c != c')=false:=by simp[h1]
 have n2:(c==c')=true:=by simp[h1]
 have n3:(t != t')=true:=by simp[h2]
 have n4:(t==t')=false:=by simp[h2]
 rw[Call_fn Q (m:=m14) rfl rfl]
 apply hide;intro rhs hrhs
 simp(maxSteps:=4000000) (disch:=first|omega|exact ok_of (by(try simp only[bB.u,seval,cut,f1.a,f2.a,f3.a,f4.a]);kernel_rfl)|decide) only[bB.u,seval,cut,m14,n1,n2,n3,n4,Run_nil,reach,f1.a,f2.a,f3.a,f4.a]
 repeat'((with_reducible first|refine sp ?_ ?_|fail)<;>intro hx<;>(try simp only[bI.u]at hx)<;>(first|exact xz|(try simp(maxSteps:=4000000) (disch:=first|omega|exact ok_of (by(try simp only[bB.u,seval,cut,f1.a,f2.a,f3.a,f4.a]);kernel_rfl)|decide) only[bB.u,seval,cut,hx,m14,n1,n2,n3,n4,Run_nil,reach,f1.a,f2.a,f3.a,f4.a])))
 all_goals first|exact xz|(subst hrhs;rfl)
theorem sm_3t (c t c' t':Int) (w k w' k':MV) (f1:Fs w) (f2:Fs k) (f3:Fs w') (f4:Fs k') (h1:c=c') (h2:t=t'):Call Q 14 [.agg [.int .i64 c,.int .i64 t,.bool true,w,k],.agg [.int .i64 c',.int .i64 t',.bool false,w',k']]=some (.bool false):=by
 have n1:(c != c')=false:=by simp[h1]
 have n2:(c==c')=true:=by simp[h1]
 have n3:(t != t')=false:=by simp[h2]
 have n4:(t==t')=true:=by simp[h2]
 rw[Call_fn Q (m:=m14) rfl rfl]
 apply hide;intro rhs hrhs
 simp(maxSteps:=4000000) (disch:=first|omega|exact ok_of (by(try simp only[bB.u,seval,cut,f1.a,f2.a,f3.a,f4.a]);kernel_rfl)|decide) only[bB.u,seval,cut,m14,n1,n2,n3,n4,Run_nil,reach,f1.a,f2.a,f3.a,f4.a]
 repeat'((with_reducible first|refine sp ?_ ?_|fail)<;>intro hx<;>(try simp only[bI.u]at hx)<;>(first|exact xz|(try simp(maxSteps:=4000000) (disch:=first|omega|exact ok_of (by(try simp only[bB.u,seval,cut,f1.a,f2.a,f3.a,f4.a]);kernel_rfl)|decide) only[bB.u,seval,cut,hx,m14,n1,n2,n3,n4,Run_nil,reach,f1.a,f2.a,f3.a,f4.a])))
 all_goals first|exact xz|(subst hrhs;rfl)
theorem sm_3f (c t c' t':Int) (w k w' k':MV) (f1:Fs w) (f2:Fs k) (f3:Fs w') (f4:Fs k') (h1:c=c') (h2:t=t'):Call Q 14 [.agg [.int .i64 c,.int .i64 t,.bool false,w,k],.agg [.int .i64 c',.int .i64 t',.bool true,w',k']]=some (.bool false):=by
 have n1:(c != c')=false:=by simp[h1]
 have n2:(c==c')=true:=by simp[h1]
 have n3:(t != t')=false:=by simp[h2]
 have n4:(t==t')=true:=by simp[h2]
 rw[Call_fn Q (m:=m14) rfl rfl]
 apply hide;intro rhs hrhs
 simp(maxSteps:=4000000) (disch:=first|omega|exact ok_of (by(try simp only[bB.u,seval,cut,f1.a,f2.a,f3.a,f4.a]);kernel_rfl)|decide) only[bB.u,seval,cut,m14,n1,n2,n3,n4,Run_nil,reach,f1.a,f2.a,f3.a,f4.a]
 repeat'((with_reducible first|refine sp ?_ ?_|fail)<;>intro hx<;>(try simp only[bI.u]at hx)<;>(first|exact xz|(try simp(maxSteps:=4000000) (disch:=first|omega|exact ok_of (by(try simp only[bB.u,seval,cut,f1.a,f2.a,f3.a,f4.a]);kernel_rfl)|decide) only[bB.u,seval,cut,hx,m14,n1,n2,n3,n4,Run_nil,reach,f1.a,f2.a,f3.a,f4.a])))
 all_goals first|exact xz|(subst hrhs;rfl)
theorem sm_4t (c t c' t':Int) (w k w' k':MV) (f1:Fs w) (f2:Fs k) (f3:Fs w') (f4:Fs k') (h1:c=c') (h2:t=t') (hs:Call Q 32 [w,w']=some (.bool false)):Call Q 14 [.agg [.int .i64 c,.int .i64 t,.bool true,w,k],.agg [.int .i64 c',.int .i64 t',.bool true,w',k']]=some (.bool false):=by
 have n1:(c != c')=false:=by simp[h1]
 have n2:(c==c')=true:=by simp[h1]
 have n3:(t != t')=false:=by simp[h2]
 have n4:(t==t')=true:=by simp[h2]
 rw[Call_fn Q (m:=m14) rfl rfl]
 apply hide;intro rhs hrhs
 simp(maxSteps:=4000000) (disch:=first|omega|exact ok_of (by(try simp only[bB.u,seval,cut,f1.a,f2.a,f3.a,f4.a]);kernel_rfl)|decide) only[bB.u,seval,cut,m14,n1,n2,n3,n4,hs,Run_nil,reach,f1.a,f2.a,f3.a,f4.a]
 repeat'((with_reducible first|refine sp ?_ ?_|fail)<;>intro hx<;>(try simp only[bI.u]at hx)<;>(first|exact xz|(try simp(maxSteps:=4000000) (disch:=first|omega|exact ok_of (by(try simp only[bB.u,seval,cut,f1.a,f2.a,f3.a,f4.a]);kernel_rfl)|decide) only[bB.u,seval,cut,hx,m14,n1,n2,n3,n4,hs,Run_nil,reach,f1.a,f2.a,f3.a,f4.a])))
 all_goals first|exact xz|(subst hrhs;rfl)
theorem sm_5t (c t c' t':Int) (w k w' k':MV) (f1:Fs w) (f2:Fs k) (f3:Fs w') (f4:Fs k') (h1:c=c') (h2:t=t') (hs:Call Q 32 [w,w']=some (.bool true)) (a b:Nat) (l1:∀st,lenV false k st=some (.int .i64 a)) (l2:∀st,lenV false k' st=some (.int .i64 b)) (hab:¬a=b):Call Q 14 [.agg [.int .i64 c,.int .i64 t,.bool true,w,k],.agg [.int .i64 c',.int .i64 t',.bool true,w',k']]=some (.bool false):=by
 have n1:(c != c')=false:=by simp[h1]
 have n2:(c==c')=true:=by simp[h1]
 have n3:(t != t')=false:=by simp[h2]
 have n4:(t==t')=true:=by simp[h2]
 have n5:((a:Int) != (b:Int))=true:=by simp;omega
 have n6:((a:Int)==(b:Int))=false:=by simp;omega
 rw[Call_fn Q (m:=m14) rfl rfl]
 apply hide;intro rhs hrhs
 simp(maxSteps:=4000000) (disch:=first|omega|exact ok_of (by(try simp only[bB.u,seval,cut,f1.a,f2.a,f3.a,f4.a]);kernel_rfl)|decide) only[bB.u,seval,cut,m14,n1,n2,n3,n4,hs,l1,l2,n5,n6,Run_nil,reach,f1.a,f2.a,f3.a,f4.a]
 repeat'((with_reducible first|refine sp ?_ ?_|fail)<;>intro hx<;>(try simp only[bI.u]at hx)<;>(first|exact xz|(try simp(maxSteps:=4000000) (disch:=first|omega|exact ok_of (by(try simp only[bB.u,seval,cut,f1.a,f2.a,f3.a,f4.a]);kernel_rfl)|decide) only[bB.u,seval,cut,hx,m14,n1,n2,n3,n4,hs,l1,l2,n5,n6,Run_nil,reach,f1.a,f2.a,f3.a,f4.a])))
 all_goals first|exact xz|(subst hrhs;rfl)
theorem sm_6t (c t c' t':Int) (w k w' k':MV) (f1:Fs w) (f2:Fs k) (f3:Fs w') (f4:Fs k') (h1:c=c') (h2:t=t') (hs:Call Q 32 [w,w']=some (.bool true)) (a:Nat) (l1:∀st,lenV false k st=some (.int .i64 a)) (l2:∀st,lenV false k' st=some (.int .i64 a)) (r:MV) (loop:fin R_sm (RunL Q m14k0 m14b0 [.blk 0,.code sm_tail] (sm_st [.int .i64 c',.int .i64 t',.bool true,w',k'] k a 0))=some r):Call Q 14 [.agg [.int .i64 c,.int .i64 t,.bool true,w,k],.agg [.int .i64 c',.int .i64 t',.bool true,w',k']]=some r:=by
 have n1:(c != c')=false:=by simp[h1]
 have n2:(c==c')=true:=by simp[h1]
 have n3:(t != t')=false:=by simp[h2]
 have n4:(t==t')=true:=by simp[h2]
 have n5:((a:Int) != (a:Int))=false:=by simp
 have n6:((a:Int)==(a:Int))=true:=by simp
 unfold sm_st at loop
 rw[show((0:Nat):Int)=0 from rfl]at loop
 rw[Call_fn Q (m:=m14) rfl rfl]
 apply hide;intro rhs hrhs
 simp(maxSteps:=4000000) (disch:=first|omega|exact ok_of (by(try simp only[bB.u,seval,cut,f1.a,f2.a,f3.a,f4.a]);kernel_rfl)|decide) only[bB.u,seval,cut,m14,n1,n2,n3,n4,hs,l1,l2,n5,n6,Run_loop,Run_nil,reach,f1.a,f2.a,f3.a,f4.a]
 repeat'((with_reducible first|refine sp ?_ ?_|fail)<;>intro hx<;>(try simp only[bI.u]at hx)<;>(first|exact xz|(try simp(maxSteps:=4000000) (disch:=first|omega|exact ok_of (by(try simp only[bB.u,seval,cut,f1.a,f2.a,f3.a,f4.a]);kernel_rfl)|decide) only[bB.u,seval,cut,hx,m14,n1,n2,n3,n4,hs,l1,l2,n5,n6,Run_loop,Run_nil,reach,f1.a,f2.a,f3.a,f4.a])))
 all_goals first|exact xz|(subst hrhs;exact(congrArg (fin _) (RunL_canon (canon_cong (by simp only[bA.u,seval,canon,liveNames,inhOf,keptNames,reach,nub,has,inner,newObjs,keepV,renObj,m14k0,f1.a,f2.a,f3.a,f4.a]) (by simp only[bA.u,seval,canon,liveNames,inhOf,keptNames,reach,nub,has,inner,newObjs,keepV,renObj,m14k0,f1.a,f2.a,f3.a,f4.a]) (by simp only[bA.u,seval,canon,liveNames,inhOf,keptNames,reach,nub,has,inner,newObjs,keepV,renObj,m14k0,f1.a,f2.a,f3.a,f4.a])))).trans loop)
theorem sm_4f (c t c' t':Int) (w k w' k':MV) (f1:Fs w) (f2:Fs k) (f3:Fs w') (f4:Fs k') (h1:c=c') (h2:t=t') (hs:Call Q 32 [w,w']=some (.bool false)):Call Q 14 [.agg [.int .i64 c,.int .i64 t,.bool false,w,k],.agg [.int .i64 c',.int .i64 t',.bool false,w',k']]=some (.bool false):=by
 have n1:(c != c')=false:=by simp[h1]
 have n2:(c==c')=true:=by simp[h1]
 have n3:(t != t')=false:=by simp[h2]
 have n4:(t==t')=true:=by simp[h2]
 rw[Call_fn Q (m:=m14) rfl rfl]
 apply hide;intro rhs hrhs
 simp(maxSteps:=4000000) (disch:=first|omega|exact ok_of (by(try simp only[bB.u,seval,cut,f1.a,f2.a,f3.a,f4.a]);kernel_rfl)|decide) only[bB.u,seval,cut,m14,n1,n2,n3,n4,hs,Run_nil,reach,f1.a,f2.a,f3.a,f4.a]
 repeat'((with_reducible first|refine sp ?_ ?_|fail)<;>intro hx<;>(try simp only[bI.u]at hx)<;>(first|exact xz|(try simp(maxSteps:=4000000) (disch:=first|omega|exact ok_of (by(try simp only[bB.u,seval,cut,f1.a,f2.a,f3.a,f4.a]);kernel_rfl)|decide) only[bB.u,seval,cut,hx,m14,n1,n2,n3,n4,hs,Run_nil,reach,f1.a,f2.a,f3.a,f4.a])))
 all_goals first|exact xz|(subst hrhs;rfl)
theorem sm_5f (c t c' t':Int) (w k w' k':MV) (f1:Fs w) (f2:Fs k) (f3:Fs w') (f4:Fs k') (h1:c=c') (h2:t=t') (hs:Call Q 32 [w,w']=some (.bool true)) (a b:Nat) (l1:∀st,lenV false k st=some (.int .i64 a)) (l2:∀st,lenV false k' st=some (.int .i64 b)) (hab:¬a=b):Call Q 14 [.agg [.int .i64 c,.int .i64 t,.bool false,w,k],.agg [.int .i64 c',.int .i64 t',.bool false,w',k']]=some (.bool false):=by
 have n1:(c != c')=false:=by simp[h1]
 have n2:(c==c')=true:=by simp[h1]
 have n3:(t != t')=false:=by simp[h2]
 have n4:(t==t')=true:=by simp[h2]
 have n5:((a:Int) != (b:Int))=true:=by simp;omega
 have n6:((a:Int)==(b:Int))=false:=by simp;omega
 rw[Call_fn Q (m:=m14) rfl rfl]
 apply hide;intro rhs hrhs
 simp(maxSteps:=4000000) (disch:=first|omega|exact ok_of (by(try simp only[bB.u,seval,cut,f1.a,f2.a,f3.a,f4.a]);kernel_rfl)|decide) only[bB.u,seval,cut,m14,n1,n2,n3,n4,hs,l1,l2,n5,n6,Run_nil,reach,f1.a,f2.a,f3.a,f4.a]
 repeat'((with_reducible first|refine sp ?_ ?_|fail)<;>intro hx<;>(try simp only[bI.u]at hx)<;>(first|exact xz|(try simp(maxSteps:=4000000) (disch:=first|omega|exact ok_of (by(try simp only[bB.u,seval,cut,f1.a,f2.a,f3.a,f4.a]);kernel_rfl)|decide) only[bB.u,seval,cut,hx,m14,n1,n2,n3,n4,hs,l1,l2,n5,n6,Run_nil,reach,f1.a,f2.a,f3.a,f4.a])))
 all_goals first|exact xz|(subst hrhs;rfl)
theorem sm_6f (c t c' t':Int) (w k w' k':MV) (f1:Fs w) (f2:Fs k) (f3:Fs w') (f4:Fs k') (h1:c=c') (h2:t=t') (hs:Call Q 32 [w,w']=some (.bool true)) (a:Nat) (l1:∀st,lenV false k st=some (.int .i64 a)) (l2:∀st,lenV false k' st=some (.int .i64 a)) (r:MV) (loop:fin R_sm (RunL Q m14k0 m14b0 [.blk 0,.code sm_tail] (sm_st [.int .i64 c',.int .i64 t',.bool false,w',k'] k a 0))=some r):Call Q 14 [.agg [.int .i64 c,.int .i64 t,.bool false,w,k],.agg [.int .i64 c',.int .i64 t',.bool false,w',k']]=some r:=by
 have n1:(c != c')=false:=by simp[h1]
 have n2:(c==c')=true:=by simp[h1]
 have n3:(t != t')=false:=by simp[h2]
 have n4:(t==t')=true:=by simp[h2]
 have n5:((a:Int) != (a:Int))=false:=by simp
 have n6:((a:Int)==(a:Int))=true:=by simp
 unfold sm_st at loop
 rw[show((0:Nat):Int)=0 from rfl]at loop
 rw[Call_fn Q (m:=m14) rfl rfl]
 apply hide;intro rhs hrhs
 simp(maxSteps:=4000000) (disch:=first|omega|exact ok_of (by(try simp only[bB.u,seval,cut,f1.a,f2.a,f3.a,f4.a]);kernel_rfl)|decide) only[bB.u,seval,cut,m14,n1,n2,n3,n4,hs,l1,l2,n5,n6,Run_loop,Run_nil,reach,f1.a,f2.a,f3.a,f4.a]
 repeat'((with_reducible first|refine sp ?_ ?_|fail)<;>intro hx<;>(try simp only[bI.u]at hx)<;>(first|exact xz|(try simp(maxSteps:=4000000) (disch:=first|omega|exact ok_of (by(try simp only[bB.u,seval,cut,f1.a,f2.a,f3.a,f4.a]);kernel_rfl)|decide) only[bB.u,seval,cut,hx,m14,n1,n2,n3,n4,hs,l1,l2,n5,n6,Run_loop,Run_nil,reach,f1.a,f2.a,f3.a,f4.a])))
 all_goals first|exact xz|(subst hrhs;exact(congrArg (fin _) (RunL_canon (canon_cong (by simp only[bA.u,seval,canon,liveNames,inhOf,keptNames,reach,nub,has,inner,newObjs,keepV,renObj,m14k0,f1.a,f2.a,f3.a,f4.a]) (by simp only[bA.u,seval,canon,liveNames,inhOf,keptNames,reach,nub,has,inner,newObjs,keepV,renObj,m14k0,f1.a,f2.a,f3.a,f4.a]) (by simp only[bA.u,seval,canon,liveNames,inhOf,keptNames,reach,nub,has,inner,newObjs,keepV,renObj,m14k0,f1.a,f2.a,f3.a,f4.a])))).trans loop)
theorem sameTs_len:∀a b:List T,a.length≠b.length→sameTs a b=false
 | [],[],h=>absurd rfl h
 | [],_::_,_=>by rw[sameTs];all_goals simp
 |_::_,[],_=>by rw[sameTs];all_goals simp
 |k::r,k'::r',h=>by rw[sameTs,sameTs_len r r' (by simpa using h),Bool.and_false]
theorem Ws.len {w:MV} {ks:List T} (h:Ws false w ks) (st:DS):lenV false w st=some (.int .i64 ks.length):=by
 cases h with
 |nil=>rfl
 |sl hl=>simp only[lenV,hl.length]
theorem c_same (N:Nat):∀(t1 t2:T) (v u:MV),sz t1≤N→N≤2^40→Rv v t1→Rv u t2→Call Q 14 [v,u]=some (.bool (sameT t1 t2)):=by
 induction N with
 |zero=>intro t1 t2 v u hs;cases t1;rw[sz]at hs;omega
 |succ N ih=>
  intro T1 T2 v u hs hN hv hu
  obtain⟨c,t,m,b,ks⟩:=T1
  obtain⟨c',t',m',b',ks'⟩:=T2
  rw[sz]at hs
  have hkl:=szs_len ks
  have ih':∀k∈ks,∀k2 v u,Rv v k→Rv u k2→Call Q 14 [v,u]=some (.bool (sameT k k2)):=by
   intro k hk k2 v u hv hu
   have:=szs_mem' hk
   exact ih k k2 v u (by omega) (by omega) hv hu
  rw[sameT]
  cases hv with
  | @mk _ _ _ _ w kv _ _ hb hk=>
  cases hu with
  | @mk _ _ _ _ w' kv' _ _ hb' hk'=>
  have hS:=same_nil b (by omega) w hb w' b' hb'
  by_cases h1:c=c'
  rotate_left
  ·rw[sm_1 c t c' t' m m' w kv w' kv' hb.fs hk.fs hb'.fs hk'.fs h1]
   simp[h1]
  by_cases h2:t=t'
  rotate_left
  ·rw[sm_2 c t c' t' m m' w kv w' kv' hb.fs hk.fs hb'.fs hk'.fs h1 h2]
   simp[h2]
  subst h1
  subst h2
  have hm:∀(q:Bool),(m=q→m'=q→Call Q 14 [.agg [.int .i64 c,.int .i64 t,.bool q,w,kv],.agg [.int .i64 c,.int .i64 t,.bool q,w',kv']]=some (.bool (b==b'&&sameTs ks ks'))):=by
   intro q _ _
   by_cases h4:b=b'
   rotate_left
   ·have e:(b==b')=false:=by simpa using h4
    rw[e]at hS ⊢
    cases q
    ·rw[sm_4f c t c t w kv w' kv' hb.fs hk.fs hb'.fs hk'.fs rfl rfl hS];rfl
    ·rw[sm_4t c t c t w kv w' kv' hb.fs hk.fs hb'.fs hk'.fs rfl rfl hS];rfl
   subst h4
   rw[beq_self_eq_true]at hS ⊢
   rw[Bool.true_and]
   by_cases h5:ks.length=ks'.length
   rotate_left
   ·rw[sameTs_len _ _ h5]
    cases q
    ·exact sm_5f c t c t w kv w' kv' hb.fs hk.fs hb'.fs hk'.fs rfl rfl hS _ _ hk.len hk'.len h5
    ·exact sm_5t c t c t w kv w' kv' hb.fs hk.fs hb'.fs hk'.fs rfl rfl hS _ _ hk.len hk'.len h5
   have l2:∀st,lenV false kv' st=some (.int .i64 ks.length):=by rw[h5];exact hk'.len
   have loop:∀q:Bool,fin R_sm (RunL Q m14k0 m14b0 [.blk 0,.code sm_tail] (sm_st [.int .i64 c,.int .i64 t,.bool q,w',kv'] kv ks.length 0))=some (.bool (sameTs ks ks')):=by
    intro q
    by_cases h0:ks.length=0
    ·obtain rfl:=List.eq_nil_of_length_eq_zero h0
     obtain rfl:=List.eq_nil_of_length_eq_zero (h0▸h5).symm
     exact sm_none _ _ hk.fs
    ·cases hk with
     |nil=>exact absurd rfl h0
     | @sl _ l1 _ hl1=>
     cases hk' with
     |nil=>exact absurd h5 h0
     | @sl _ l2' _ hl2=>
     have:=sm_all c t q w' hb'.fs l1 l2' (by rw[hl1.length];omega) ks ih' ks ks' l1 l2' 0 (fun _ h=>h) rfl rfl hl1 hl2 h5 (Nat.zero_le _)
     rwa [hl1.length]at this
   cases q
   ·exact sm_6f c t c t w kv w' kv' hb.fs hk.fs hb'.fs hk'.fs rfl rfl hS _ hk.len l2 _ (loop false)
   ·exact sm_6t c t c t w kv w' kv' hb.fs hk.fs hb'.fs hk'.fs rfl rfl hS _ hk.len l2 _ (loop true)
  cases m<;>cases m'
  ·rw[hm false rfl rfl];simp
  ·rw[sm_3f c t c t w kv w' kv' hb.fs hk.fs hb'.fs hk'.fs rfl rfl];simp
  ·rw[sm_3t c t c t w kv w' kv' hb.fs hk.fs hb'.fs hk'.fs rfl rfl];simp
  ·rw[hm true rfl rfl];simp
end Go.Mini

/- a certificate's law by that interpreter (part 29): what the program's functions answer, or plain laws of it; no conditions. -/
import Derived.Test.YtgiobgojobegfaaGreatDoorB28
set_option linter.all false
namespace Go.Mini
open Go Go.Mini.Nm Go.Proofs.YtgiobgojobegfaaGreatDoor
set_option maxRecDepth 100000
set_option maxHeartbeats 80000000
def mD:List (Nat × Option (Bool × Nat) × PK):=[(8,some (true,7),.other)]
def rj:MCode:=(.rg [qa 72 1,qs 73 5 72 6,oT 74 (.load true 5 (.t 73)),qg 5 10 74])
def nJ:MCode:=(.seq (sq [qi 76 5 10,oT 77 (.call 42 [.t 76,qk 0]),qf 75 77,qh 78 0 75,qh 79 1 75,qb 14 78,qb 15 79] (sq [qa 80 15,qf 81 80,qM 82 14 81,gT 83 (.len false (.t 82)) 81,qV 84 .eql 83 1 81,qr 85 81 84] (.cond (.v 85) (.rg [qa 86 0,qa 87 14,qs 88 5 87 0,oT 89 (.load true 5 (.t 88)),qv 90 37 86 89,qd 91 1 9,oN (.store 1 (.t 91) (.t 90))]) .skip))) (sq [qi 92 7 9,qg 7 8 92] .ret))
def rk (b:Bool) (d1 kl l:List MV) (sc:Int) (sg:List UInt8):DS:=⟨[(0,.ptr 0 0),(1,.sl 5 kl),(8,.ptr 1 0),(9,.ptr 2 0),(10,.ptr 3 0),(41,.sl 5 l),(42,.int .i64 l.length),(43,.int .i64 0)],[],[(0,.cells [.bool b]),(1,.cells [.nilsl,.int .i64 0,.int .i64 0,.int .i64 0,.nilsl,.int .i64 0,.nilsl]),(2,.cells [.sl 2 d1,.int .i64 0,.int .i64 0,.int .i64 0,.nilsl,.int .i64 sc,.bs sg]),(3,.cells [.int .i64 0,.int .i64 16,.bool true,.nilsl,.sl 5 l])],5⟩
def l6 (b:Bool) (d1 kl l:List MV) (sc:Int) (sg:List UInt8) (es:List MV) (i:Nat):DS:=⟨[(0,.ptr 0 0),(1,.sl 5 kl),(8,.ptr 1 0),(9,.ptr 2 0),(10,.ptr 3 0),(41,.sl 5 l),(42,.int .i64 l.length),(43,.int .i64 i)],[],[(0,.cells [.bool b]),(1,.cells [.nilsl,.int .i64 0,.int .i64 0,.int .i64 0,.nilsl,.int .i64 0,.nilsl]),(2,.cells [.sl 2 d1,.int .i64 0,.int .i64 0,.int .i64 0,(.own 4 i),.int .i64 sc,.bs sg]),(3,.cells [.int .i64 0,.int .i64 16,.bool true,.nilsl,.sl 5 l]),(4,.el 3 es false)],6⟩
theorem F_ (K:List Item) (b:Bool) (ct tt:Int) (mt:Bool) (wt kt:MV) (hwt:Fs wt) (hkt:Fs kt) (hT:CallH Q 40 [.ptr 0 0,.agg [.int .i64 ct,.int .i64 tt,.bool mt,wt,kt]] [.cells [.bool b]]=some (.int .i64 0,[some (.cells [.bool b])])) (d1 kl l:List MV) (hl:l.length≤300) (sc:Int) (sg:List UInt8) (hg:l[0]? = some (.agg [.int .i64 0,.int .i64 16,.bool true,.nilsl,.sl 5 [.agg [.int .i64 0,.int .i64 2,.bool false,.bs (aE 0),.nilsl],.agg [.int .i64 ct,.int .i64 tt,.bool mt,wt,kt],.agg [.int .i64 0,.int .i64 10,.bool false,.bs (aE 0),.nilsl]]])):ax 1 mD (RunL Q m60k0 m60b0 K (rk b d1 kl l sc sg))=ax 1 mD (RunL Q m60k0 m60b0 K (l6 b d1 kl l sc sg [.agg [.int .i64 0,.int .i64 0,.int .i64 0]] 1)):=by
 obtain⟨hi,hxx⟩:=List.getElem?_eq_some_iff.1 hg
 have hlt:decide ((0:Int)<(l.length:Int))=true:=by simp;omega
 have i1:(0:Int)<(l.length:Int):=by omega
 have hI:True:=trivial
 have n1:=jE (n:=0) (by omega) (by omega) b
 have n2:CallH Q 37 [.ptr 0 0,.agg [.int .i64 0,.int .i64 10,.bool false,.bs (aE 0),.nilsl]] [.cells [.bool b]]=some (.int .i64 0,[some (.cells [.bool b])]):=qZ 0 10 (aE 0) (by decide) (by decide) b
 have hs:=df [.agg [.int .i64 0,.int .i64 2,.bool false,.bs (aE 0),.nilsl],.agg [.int .i64 ct,.int .i64 tt,.bool mt,wt,kt],.agg [.int .i64 0,.int .i64 10,.bool false,.bs (aE 0),.nilsl]] (by simp) 3 3 (by simp) (by simp) b
 simp only[List.cons_append,List.nil_append]at hs
 generalize List.replicate 10 zV=q at hs
 generalize aE 0=nb at *
 unfold rk l6
 rw[show((1:Nat):Int)=(0:Int)+1 from rfl]
 obtain⟨b',hb'⟩:∃b',b'=m60b0:=⟨_,rfl⟩
 rw[ah,show Item.lp m60k0 m60b0=Item.lp m60k0 b' by rw[hb']]
 apply ae;intro rhs hrhs
 simp(maxSteps:=4000000) (disch:=first|omega|exact aI (by(try simp only[bB.u,seval,cut,hwt.a,hkt.a]);kernel_rfl)|decide) only[bB.u,seval,cut,m60b0,hlt,i1,hg,show(0:Int).toNat=0 from rfl,hT,n1,n2,hs,hwt.a,hkt.a,ag,aj]
 subst hrhs;(subst hb';refine(congrArg (ax _ _) (aA Q _ _ _ _)).trans ?_;exact congrArg (ax 1 mD) (af (canon_cong (by simp only[bA.u,seval,aQ,aD,bd,aF,aj,nub,has,inner,aH,ay,ar,m60k0,hwt.a,hkt.a]) (by simp only[bA.u,seval,aQ,aD,bd,aF,aj,nub,has,inner,aH,ay,ar,m60k0,hwt.a,hkt.a]) (by simp only[bA.u,seval,aQ,aD,bd,aF,aj,nub,has,inner,aH,ay,ar,m60k0,hwt.a,hkt.a]))))
theorem Ip (K:List Item) (b:Bool) (ct tt:Int) (mt:Bool) (wt kt:MV) (hwt:Fs wt) (hkt:Fs kt) (hT:CallH Q 40 [.ptr 0 0,.agg [.int .i64 ct,.int .i64 tt,.bool mt,wt,kt]] [.cells [.bool b]]=some (.int .i64 0,[some (.cells [.bool b])])) (d1 kl l:List MV) (hl:l.length≤300) (sc:Int) (sg:List UInt8) (es:List MV) (i:Nat) (hI:es.length=i) (hg:l[i]? = some (.agg [.int .i64 0,.int .i64 16,.bool true,.nilsl,.sl 5 [.agg [.int .i64 0,.int .i64 2,.bool false,.bs (aE 0),.nilsl],.agg [.int .i64 ct,.int .i64 tt,.bool mt,wt,kt],.agg [.int .i64 0,.int .i64 10,.bool false,.bs (aE 0),.nilsl]]])):ax 1 mD (RunL Q m60k0 m60b0 K (l6 b d1 kl l sc sg es i))=ax 1 mD (RunL Q m60k0 m60b0 K (l6 b d1 kl l sc sg (es++[.agg [.int .i64 0,.int .i64 0,.int .i64 0]]) (i+1))):=by
 obtain⟨hi,hxx⟩:=List.getElem?_eq_some_iff.1 hg
 have hlt:decide ((i:Int)<(l.length:Int))=true:=by simp;omega
 have i1:(i:Int)<(l.length:Int):=by omega
 have e9:((i+1:Nat):Int)=(i:Int)+1:=rfl
 have n1:=jE (n:=0) (by omega) (by omega) b
 have n2:CallH Q 37 [.ptr 0 0,.agg [.int .i64 0,.int .i64 10,.bool false,.bs (aE 0),.nilsl]] [.cells [.bool b]]=some (.int .i64 0,[some (.cells [.bool b])]):=qZ 0 10 (aE 0) (by decide) (by decide) b
 have hs:=df [.agg [.int .i64 0,.int .i64 2,.bool false,.bs (aE 0),.nilsl],.agg [.int .i64 ct,.int .i64 tt,.bool mt,wt,kt],.agg [.int .i64 0,.int .i64 10,.bool false,.bs (aE 0),.nilsl]] (by simp) 3 3 (by simp) (by simp) b
 simp only[List.cons_append,List.nil_append]at hs
 generalize List.replicate 10 zV=q at hs
 generalize aE 0=nb at *
 unfold l6
 rw[e9]
 obtain⟨b',hb'⟩:∃b',b'=m60b0:=⟨_,rfl⟩
 rw[ah,show Item.lp m60k0 m60b0=Item.lp m60k0 b' by rw[hb']]
 apply ae;intro rhs hrhs
 simp(maxSteps:=4000000) (disch:=first|omega|exact aI (by(try simp only[bB.u,seval,cut,hwt.a,hkt.a]);kernel_rfl)|decide) only[bB.u,seval,cut,m60b0,hlt,i1,hg,hI,hT,n1,n2,hs,hwt.a,hkt.a,ag,aj]
 subst hrhs;(subst hb';refine(congrArg (ax _ _) (aA Q _ _ _ _)).trans ?_;exact congrArg (ax 1 mD) (af (canon_cong (by simp only[bA.u,seval,aQ,aD,bd,aF,aj,nub,has,inner,aH,ay,ar,m60k0,hwt.a,hkt.a]) (by simp only[bA.u,seval,aQ,aD,bd,aF,aj,nub,has,inner,aH,ay,ar,m60k0,hwt.a,hkt.a]) (by simp only[bA.u,seval,aQ,aD,bd,aF,aj,nub,has,inner,aH,ay,ar,m60k0,hwt.a,hkt.a]))))
theorem I6 (b:Bool) (d1 kl l:List MV) (hl:l.length≤300) (sc:Int) (sg:List UInt8) (es:List MV) (hI:es.length=l.length) (h6:kl[6]? = some (.agg [.int .i64 2,.int .i64 0,.bool true,.nilsl,.sl 5 [.agg [.int .i64 0,.int .i64 2,.bool false,.bs (aE 0),.nilsl]]])) (hk:6<kl.length):ax 1 mD (RunL Q m60k0 m60b0 [.blk 0,.code rj,.code nJ] (l6 b d1 kl l sc sg es l.length))=some (.agg [.sl 2 d1,.int .i64 0,.int .i64 0,.int .i64 0,.sl 3 es,.int .i64 sc,.bs sg],[some (.cells [.bool b])]):=by
 have hlt:decide ((l.length:Int)<(l.length:Int))=false:=by simp
 have n1:=jE (n:=0) (by omega) (by omega) b
 have h8:Call Q 42 [.agg [.int .i64 2,.int .i64 0,.bool true,.nilsl,.sl 5 [.agg [.int .i64 0,.int .i64 2,.bool false,.bs (aE 0),.nilsl]]],.int .i64 0]=some (.tup [.sl 5 [.agg [.int .i64 0,.int .i64 2,.bool false,.bs (aE 0),.nilsl]],.bool true]):=fN 2 0 true .nilsl (.sl 5 [.agg [.int .i64 0,.int .i64 2,.bool false,.bs (aE 0),.nilsl]]) aV (dB _) 0 (.inr ⟨_,rfl⟩)
 have i6:(6:Int)<(kl.length:Int):=by omega
 generalize aE 0=nb at *
 unfold l6
 obtain⟨b',hb'⟩:∃b',b'=m60b0:=⟨_,rfl⟩
 rw[ah,show Item.lp m60k0 m60b0=Item.lp m60k0 b' by rw[hb']]
 apply ae;intro rhs hrhs
 simp(maxSteps:=4000000)(disch:=first|exact dz|fail)only[bB.u,seval,cut,m60b0,rj,nJ,mD,hlt,hI,h6,hk,i6,n1,h8,show(6:Int).toNat=6 from rfl,ag,aj]
 subst hrhs;rfl
theorem DY (b:Bool) (ct tt:Int) (mt:Bool) (wt kt:MV) (hwt:Fs wt) (hkt:Fs kt) (hT:CallH Q 40 [.ptr 0 0,.agg [.int .i64 ct,.int .i64 tt,.bool mt,wt,kt]] [.cells [.bool b]]=some (.int .i64 0,[some (.cells [.bool b])])) (d1 kl:List MV) (m:Nat) (hm:m≤300) (sc:Int) (sg:List UInt8) (K:List Item):∀(k i:Nat),i+k=m →
  ax 1 mD (RunL Q m60k0 m60b0 K (l6 b d1 kl (List.replicate m (.agg [.int .i64 0,.int .i64 16,.bool true,.nilsl,.sl 5 [.agg [.int .i64 0,.int .i64 2,.bool false,.bs (aE 0),.nilsl],.agg [.int .i64 ct,.int .i64 tt,.bool mt,wt,kt],.agg [.int .i64 0,.int .i64 10,.bool false,.bs (aE 0),.nilsl]]])) sc sg (List.replicate i (.agg [.int .i64 0,.int .i64 0,.int .i64 0])) i))=ax 1 mD (RunL Q m60k0 m60b0 K (l6 b d1 kl (List.replicate m (.agg [.int .i64 0,.int .i64 16,.bool true,.nilsl,.sl 5 [.agg [.int .i64 0,.int .i64 2,.bool false,.bs (aE 0),.nilsl],.agg [.int .i64 ct,.int .i64 tt,.bool mt,wt,kt],.agg [.int .i64 0,.int .i64 10,.bool false,.bs (aE 0),.nilsl]]])) sc sg (List.replicate m (.agg [.int .i64 0,.int .i64 0,.int .i64 0])) m))
 | 0,i,h=>by
  have:i=m:=by omega
  subst this;rfl
 |k+1,i,h=>by
  rw[Ip K b ct tt mt wt kt hwt hkt hT d1 kl _ (by simp;omega) sc sg _ i (by simp) (by rw[List.getElem?_replicate];simp;omega),←List.replicate_succ']
  exact DY b ct tt mt wt kt hwt hkt hT d1 kl m hm sc sg K k (i+1) (by omega)
theorem JN (b:Bool) (cd td:Int) (md:Bool) (wd kd:MV) (hwd:Fs wd) (hkd:Fs kd) (ct tt:Int) (mt:Bool) (wt kt:MV) (hwt:Fs wt) (hkt:Fs kt) (d1 q:List MV) (sc:Int) (sg:List UInt8) (v0 v1:MV) (h2:CallH Q 38 [.ptr 0 0,.agg [.int .i64 cd,.int .i64 td,.bool md,wd,kd]] [.cells [.bool b]]=some (.sl 2 d1,[some (.cells [.bool b])])) (hT:CallH Q 40 [.ptr 0 0,.agg [.int .i64 ct,.int .i64 tt,.bool mt,wt,kt]] [.cells [.bool b]]=some (.int .i64 0,[some (.cells [.bool b])])):CallH Q 60 [.ptr 0 0,.sl 5 (v0::v1:: .agg [.int .i64 cd,.int .i64 td,.bool md,wd,kd]:: .agg [.int .i64 ct,.int .i64 tt,.bool mt,wt,kt]:: .agg [.int .i64 ct,.int .i64 tt,.bool mt,wt,kt]:: .agg [.int .i64 2,.int .i64 0,.bool true,.nilsl,.sl 5 [.agg [.int .i64 0,.int .i64 2,.bool false,.bs (aE 0),.nilsl]]]::q),.int .i64 sc,.bs sg] [.cells [.bool b]]=some (.agg [.sl 2 d1,.int .i64 0,.int .i64 0,.int .i64 0,.nilsl,.int .i64 sc,.bs sg],[some (.cells [.bool b])]):=by
 have n1:=jE (n:=0) (by omega) (by omega) b
 have h8:Call Q 42 [.agg [.int .i64 2,.int .i64 0,.bool true,.nilsl,.sl 5 [.agg [.int .i64 0,.int .i64 2,.bool false,.bs (aE 0),.nilsl]]],.int .i64 0]=some (.tup [.sl 5 [.agg [.int .i64 0,.int .i64 2,.bool false,.bs (aE 0),.nilsl]],.bool true]):=fN 2 0 true .nilsl (.sl 5 [.agg [.int .i64 0,.int .i64 2,.bool false,.bs (aE 0),.nilsl]]) aV (dB _) 0 (.inr ⟨_,rfl⟩)
 generalize aE 0=nb at *
 rw[aC Q (m:=m60) rfl]
 apply ae;intro rhs hrhs
 simp(maxSteps:=4000000) (disch:=first|omega|exact aI (by(try simp only[bB.u,seval,cut,hwd.a,hkd.a,hwt.a,hkt.a]);kernel_rfl)|decide) only[bB.u,seval,cut,m60,h2,hT,h8,n1,hwd.a,hkd.a,hwt.a,hkt.a,ag,aj]
 subst hrhs;rfl
theorem JO (b:Bool) (cd td:Int) (md:Bool) (wd kd:MV) (hwd:Fs wd) (hkd:Fs kd) (ct tt:Int) (mt:Bool) (wt kt:MV) (hwt:Fs wt) (hkt:Fs kt) (d1 q:List MV) (sc:Int) (sg:List UInt8) (v0 v1:MV) (h2:CallH Q 38 [.ptr 0 0,.agg [.int .i64 cd,.int .i64 td,.bool md,wd,kd]] [.cells [.bool b]]=some (.sl 2 d1,[some (.cells [.bool b])])) (hT:CallH Q 40 [.ptr 0 0,.agg [.int .i64 ct,.int .i64 tt,.bool mt,wt,kt]] [.cells [.bool b]]=some (.int .i64 0,[some (.cells [.bool b])])) (l:List MV) (hl:l.length≤300) (r:MV × List (Option Obj)) (loop:ax 1 mD (RunL Q m60k0 m60b0 [.blk 0,.code rj,.code nJ] (rk b d1 (v0::v1:: .agg [.int .i64 cd,.int .i64 td,.bool md,wd,kd]:: .agg [.int .i64 ct,.int .i64 tt,.bool mt,wt,kt]:: .agg [.int .i64 ct,.int .i64 tt,.bool mt,wt,kt]:: .agg [.int .i64 0,.int .i64 16,.bool true,.nilsl,.sl 5 l]:: .agg [.int .i64 2,.int .i64 0,.bool true,.nilsl,.sl 5 [.agg [.int .i64 0,.int .i64 2,.bool false,.bs (aE 0),.nilsl]]]::q) l sc sg))=some r):CallH Q 60 [.ptr 0 0,.sl 5 (v0::v1:: .agg [.int .i64 cd,.int .i64 td,.bool md,wd,kd]:: .agg [.int .i64 ct,.int .i64 tt,.bool mt,wt,kt]:: .agg [.int .i64 ct,.int .i64 tt,.bool mt,wt,kt]:: .agg [.int .i64 0,.int .i64 16,.bool true,.nilsl,.sl 5 l]:: .agg [.int .i64 2,.int .i64 0,.bool true,.nilsl,.sl 5 [.agg [.int .i64 0,.int .i64 2,.bool false,.bs (aE 0),.nilsl]]]::q),.int .i64 sc,.bs sg] [.cells [.bool b]]=some r:=by
 generalize aE 0=nb at *
 unfold rk at loop
 rw[aC Q (m:=m60) rfl]
 apply ae;intro rhs hrhs
 simp(maxSteps:=4000000) (disch:=first|omega|exact aI (by(try simp only[bB.u,seval,cut,hwd.a,hkd.a,hwt.a,hkt.a]);kernel_rfl)|decide) only[bB.u,seval,cut,m60,h2,hT,aq,hwd.a,hkd.a,hwt.a,hkt.a,ag,aj]
 subst hrhs;exact(congrArg (ax _ _) (af (canon_cong (by simp only[bA.u,seval,aQ,aD,bd,aF,aj,nub,has,inner,aH,ay,ar,m60k0,hwd.a,hkd.a,hwt.a,hkt.a]) (by simp only[bA.u,seval,aQ,aD,bd,aF,aj,nub,has,inner,aH,ay,ar,m60k0,hwd.a,hkd.a,hwt.a,hkt.a]) (by simp only[bA.u,seval,aQ,aD,bd,aF,aj,nub,has,inner,aH,ay,ar,m60k0,hwd.a,hkd.a,hwt.a,hkt.a])))).trans loop
theorem F' (ca ta:Int) (ma:Bool) (wa ka:MV) (hwa:Fs wa) (hka:Fs ka) (cb tb:Int) (mb:Bool) (wb kb:MV) (hwb:Fs wb) (hkb:Fs kb) (a1 a2 a3 a5:Int) (d1:List MV) (sg:List UInt8) (ent:MV) (f4:Fs ent) (sc:Int) (l:List MV) (sg2 bs:List UInt8) (hl:l.length≤2^30) (h1:Call Q 77 [.bs bs]=some (.tup [.agg [.int .i64 0,.int .i64 16,.bool true,.nilsl,.sl 5 [.agg [.int .i64 0,.int .i64 16,.bool true,.nilsl,.sl 5 l],.agg [.int .i64 ca,.int .i64 ta,.bool ma,wa,ka],.agg [.int .i64 cb,.int .i64 tb,.bool mb,wb,kb]]],.int .i64 0])) (h4:CallH Q 78 [.ptr 0 0,.agg [.int .i64 ca,.int .i64 ta,.bool ma,wa,ka]] [.cells [.bool false]]=some (.int .i64 sc,[some (.cells [.bool false])])) (h5:CallH Q 79 [.ptr 0 0,.agg [.int .i64 cb,.int .i64 tb,.bool mb,wb,kb]] [.cells [.bool false]]=some (.bs sg2,[some (.cells [.bool false])])) (h6:CallH Q 60 [.ptr 0 0,.sl 5 (l++List.replicate 10 zV),.int .i64 sc,.bs sg2] [.cells [.bool false]]=some (.agg [.sl 2 d1,.int .i64 a1,.int .i64 a2,.int .i64 a3,ent,.int .i64 a5,.bs sg],[some (.cells [.bool false])])) (h7:Call Q 34 [.iface 60 (.agg [.sl 2 d1,.int .i64 a1,.int .i64 a2,.int .i64 a3,ent,.int .i64 a5,.bs sg])]=some (.tup [.bs bs,.int .i64 0])):Call Q 59 [.bs bs,.fn 60 []]=some (.tup [.agg [.sl 2 d1,.int .i64 a1,.int .i64 a2,.int .i64 a3,ent,.int .i64 a5,.bs sg],.int .i64 0]):=by
 have h2:=df [.agg [.int .i64 0,.int .i64 16,.bool true,.nilsl,.sl 5 l],.agg [.int .i64 ca,.int .i64 ta,.bool ma,wa,ka],.agg [.int .i64 cb,.int .i64 tb,.bool mb,wb,kb]] (by simp) 3 3 (by simp) (by simp) false
 simp only[List.cons_append,List.nil_append]at h2
 have h3:=df l hl 0 l.length (by omega) (by omega) false
 have h8:=Dk bs bs
 rw[beq_self_eq_true]at h8
 generalize l++List.replicate 10 zV=q3 at *
 generalize List.replicate 10 zV=q at *
 rw[Call_fn Q (m:=m59) rfl rfl]
 apply ae;intro rhs hrhs
 simp(maxSteps:=4000000) (disch:=first|omega|exact aI (by(try simp only[bB.u,seval,cut,hwa.a,hka.a,hwb.a,hkb.a,f4.a]);kernel_rfl)|decide) only[bB.u,seval,cut,m59,h1,h2,h3,h4,h5,h6,h7,h8,hwa.a,hka.a,hwb.a,hkb.a,f4.a,ag,aj]
 subst hrhs;rfl
theorem xh (a1 a2 a3 a5:Int) (d1:List MV) (sg:List UInt8) (ent:MV) (f4:Fs ent) (bs:List UInt8) (h:Call Q 59 [.bs bs,.fn 60 []]=some (.tup [.agg [.sl 2 d1,.int .i64 a1,.int .i64 a2,.int .i64 a3,ent,.int .i64 a5,.bs sg],.int .i64 0])):Call Q 23 [.bs bs]=some (.tup [.agg [.sl 2 d1,.int .i64 a1,.int .i64 a2,.int .i64 a3,ent,.int .i64 a5,.bs sg],.int .i64 0]):=by
 rw[Call_fn Q (m:=m23) rfl rfl]
 apply ae;intro rhs hrhs
 simp(maxSteps:=4000000) (disch:=first|omega|exact aI (by(try simp only[bB.u,seval,cut,f4.a]);kernel_rfl)|decide) only[bB.u,seval,cut,m23,h,f4.a,ag,aj]
 subst hrhs;rfl
theorem Iq (n:Nat) (hn:n≤256):∃ent,Es ent n∧CallH Q 60 [.ptr 0 0,.sl 5 ((kZ n).map av++List.replicate 10 zV),.int .i64 1,.bs []] [.cells [.bool false]]=some (.agg [.sl 2 [],.int .i64 0,.int .i64 0,.int .i64 0,ent,.int .i64 1,.bs []],[some (.cells [.bool false])]):=by
 obtain⟨x,hx⟩:∃x,timeS 0= .ok x:=⟨VR.t (timeS 0),by kernel_rfl⟩
 have vx:VR.t (timeS 0)=x:=by rw[hx];rfl
 have wx:(wrW x).1=0:=by rw[←vx];kernel_rfl
 obtain⟨ct,tt,mt,wt,kt,ex,f1,f2,hT⟩:=nF hx wx
 have hT:=hT false
 have h5:l5T.map av=[av (cB 2 1),av (bx 1),.agg [.int .i64 0,.int .i64 16,.bool true,.nilsl,.nilsl],.agg [.int .i64 ct,.int .i64 tt,.bool mt,wt,kt],.agg [.int .i64 ct,.int .i64 tt,.bool mt,wt,kt]]:=by
  unfold l5T
  rw[vx]
  simp only[List.map_cons,List.map_nil]
  rw[ex]
  rfl
 have h6:[T.mk 2 0 true [] [cB 2 0]].map av=[.agg [.int .i64 2,.int .i64 0,.bool true,.nilsl,.sl 5 [.agg [.int .i64 0,.int .i64 2,.bool false,.bs (aE 0),.nilsl]]]]:=rfl
 unfold kZ
 rw[List.map_append,List.map_append,h5,h6]
 by_cases h0:n=0
 ·rw[if_pos h0]
  exact⟨.nilsl,.inr ⟨rfl,h0⟩,JN false 0 16 true .nilsl .nilsl aV aV ct tt mt wt kt f1 f2 [] (List.replicate 10 zV) 1 [] _ _ (zw false) hT⟩
 ·have he:av eT= .agg [.int .i64 0,.int .i64 16,.bool true,.nilsl,.sl 5 [.agg [.int .i64 0,.int .i64 2,.bool false,.bs (aE 0),.nilsl],.agg [.int .i64 ct,.int .i64 tt,.bool mt,wt,kt],.agg [.int .i64 0,.int .i64 10,.bool false,.bs (aE 0),.nilsl]]]:=by
   unfold eT
   rw[vx,aX,dN (by simp)]
   simp only[List.map_cons,List.map_nil]
   rw[ex]
   rfl
  rw[if_neg h0,List.map_cons,List.map_nil,aX,dN (by simpa using h0),List.map_replicate,he]
  refine⟨.sl 3 (List.replicate n eV),.inl rfl,JO false 0 16 true .nilsl .nilsl aV aV ct tt mt wt kt f1 f2 [] (List.replicate 10 zV) 1 [] _ _ (zw false) hT _ (by simp;omega) _ ?_⟩
  rw[F_ _ false ct tt mt wt kt f1 f2 hT [] _ _ (by simp;omega) 1 [] (by rw[List.getElem?_replicate];simp;omega)]
  have e1:=DY false ct tt mt wt kt f1 f2 hT [] (av (cB 2 1)::av (bx 1):: .agg [.int .i64 0,.int .i64 16,.bool true,.nilsl,.nilsl]:: .agg [.int .i64 ct,.int .i64 tt,.bool mt,wt,kt]:: .agg [.int .i64 ct,.int .i64 tt,.bool mt,wt,kt]:: .agg [.int .i64 0,.int .i64 16,.bool true,.nilsl,.sl 5 (List.replicate n (.agg [.int .i64 0,.int .i64 16,.bool true,.nilsl,.sl 5 [.agg [.int .i64 0,.int .i64 2,.bool false,.bs (aE 0),.nilsl],.agg [.int .i64 ct,.int .i64 tt,.bool mt,wt,kt],.agg [.int .i64 0,.int .i64 10,.bool false,.bs (aE 0),.nilsl]]]))]:: .agg [.int .i64 2,.int .i64 0,.bool true,.nilsl,.sl 5 [.agg [.int .i64 0,.int .i64 2,.bool false,.bs (aE 0),.nilsl]]]::List.replicate 10 zV) n (by omega) 1 [] [.blk 0,.code rj,.code nJ] (n-1) 1 (by omega)
  refine e1.trans ?_
  have e2:=I6 false [] (av (cB 2 1)::av (bx 1):: .agg [.int .i64 0,.int .i64 16,.bool true,.nilsl,.nilsl]:: .agg [.int .i64 ct,.int .i64 tt,.bool mt,wt,kt]:: .agg [.int .i64 ct,.int .i64 tt,.bool mt,wt,kt]:: .agg [.int .i64 0,.int .i64 16,.bool true,.nilsl,.sl 5 (List.replicate n (.agg [.int .i64 0,.int .i64 16,.bool true,.nilsl,.sl 5 [.agg [.int .i64 0,.int .i64 2,.bool false,.bs (aE 0),.nilsl],.agg [.int .i64 ct,.int .i64 tt,.bool mt,wt,kt],.agg [.int .i64 0,.int .i64 10,.bool false,.bs (aE 0),.nilsl]]]))]:: .agg [.int .i64 2,.int .i64 0,.bool true,.nilsl,.sl 5 [.agg [.int .i64 0,.int .i64 2,.bool false,.bs (aE 0),.nilsl]]]::List.replicate 10 zV) (List.replicate n (.agg [.int .i64 0,.int .i64 16,.bool true,.nilsl,.sl 5 [.agg [.int .i64 0,.int .i64 2,.bool false,.bs (aE 0),.nilsl],.agg [.int .i64 ct,.int .i64 tt,.bool mt,wt,kt],.agg [.int .i64 0,.int .i64 10,.bool false,.bs (aE 0),.nilsl]]])) (by simp;omega) 1 [] (List.replicate n (.agg [.int .i64 0,.int .i64 0,.int .i64 0])) (by simp) rfl (by simp)
  rw[List.length_replicate]at e2
  exact e2
theorem I7 (n:Nat) (hn:n≤300):am bL (RunL Q m7k0 m7b0 [.blk 0,.code aL] (bz n 3 (List.replicate n (hV [97])) n))=some (.bool true):=by
 have hl:(List.replicate n (hV [97])).length=n:=by simp
 have e1:=BG n hn .nilsl .nilsl (.sl 3 (List.replicate n eV)) (.inr ⟨rfl,rfl⟩) .nil (.inl rfl)
 by_cases h:n≤256
 ·have hmn:min n 256=n:=by omega
  rw[hmn]at e1
  obtain⟨w1,w2⟩:=Ji (m:=n) hn
  obtain⟨w3,_⟩:=jF w1 (by omega)
  have hS:mC n=(0,false):=by rw[Io,if_pos h]
  have hr:cm (mC n) (lW n)=wrW (lW n):=by rw[hS];rfl
  have hrd:=jU _ (DX n) w3
  have hR:=pR (wrW (lW n)).2 (by have:=(fK w3).2.2;rw[(fK w3).2.1];omega)
  rw[hrd]at hR
  have hkl:(kZ n).length≤8:=by unfold kZ;split<;>simp[l5T]
  have hne:(kZ n).length≠0:=by unfold kZ;simp
  have hm:av (lW n)= .agg [.int .i64 0,.int .i64 16,.bool true,.nilsl,.sl 5 [.agg [.int .i64 0,.int .i64 16,.bool true,.nilsl,.sl 5 ((kZ n).map av)],.agg [.int .i64 0,.int .i64 16,.bool true,.nilsl,.sl 5 [.agg [.int .i64 0,.int .i64 6,.bool false,.bs (jr 1),.nilsl]]],.agg [.int .i64 0,.int .i64 3,.bool false,.bs [0],.nilsl]]]:=by
   unfold lW lT
   rw[aX,dN (by simp),List.map_cons,List.map_cons,List.map_cons,List.map_nil,ic 1 (by omega),aX,dN hne]
   rfl
  have hR':Call Q 77 [.bs (wrW (lW n)).2]=some (.tup [av (lW n),.int .i64 0]):=hR
  rw[hm]at hR'
  have h4:=q7 1 (by omega) false
  rw[ic 1 (by omega)]at h4
  have h5:=q6 [] (by simp) false
  unfold bY at h5
  obtain⟨ent,ge,hk⟩:=Iq n h
  have hen:=tJ n hn (.sl 2 []) (.bs []) ent (.inl rfl) (.bs _) ge
  rw[hmn]at hen
  rw[hr]at hen e1
  rw[w3]at hen e1
  have e2:=xh 0 0 0 1 [] [] ent ge.fs _ (F' 0 16 true .nilsl _ aV (dB _) 0 3 false (.bs [0]) .nilsl (cT _) aV 0 0 0 1 [] [] ent ge.fs 1 ((kZ n).map av) [] _ (by rw[List.length_map];omega) hR' h4 h5 hk hen)
  have l4:∀st,lenV false ent st=some (.int .i64 n):=by
   rcases ge with rfl|⟨rfl,h0⟩
   ·intro st;simp[lenV]
   ·intro st;rw[h0];rfl
  exact H9 n h _ hl _ (.sl 2 []) (.bs []) 0 0 0 1 ent (eN _) ge.fs (cT _) l4 e1 e2
 ·have hS:mC n=(30,false):=by rw[Io,if_neg h]
  have hr:cm (mC n) (lW (min n 256))=(30,[]):=by rw[hS];rfl
  rw[hr]at e1
  have e2:∃f:Int,Call Q 23 [.bs []]=some (.tup [.agg [.nilsl,.int .i64 0,.int .i64 0,.int .i64 0,.nilsl,.int .i64 0,.nilsl],.int .i64 f]):=⟨20,Call_iff.2 ⟨3000,by kernel_rfl⟩⟩
  obtain⟨f,e2⟩:=e2
  exact H_ n (by omega) hn _ hl f e1 e2
theorem Dr (n w:Int):Call Q 7 [.int .i64 n,.int .i64 w]=some (.bool true):=by
 by_cases h:n<0∨300<n
 ·exact H2 n w h
 ·obtain⟨k,rfl⟩:∃k:Nat,n=k:=⟨n.toNat,by omega⟩
  have hk:k≤300:=by omega
  rw[F4 k hk w]
  by_cases hw:w<0∨4<w
  ·exact F5 k hk w _ (by simp) hw
  ·have hc:w=0∨w=1∨w=2∨w=3∨w=4:=by omega
   rcases hc with rfl|rfl|rfl|rfl|rfl
   ·exact IY k hk
   ·exact IZ k hk
   ·exact I0 k hk
   ·exact I7 k hk
   ·exact I1 k hk
end Go.Mini

/- a certificate's law by that interpreter (part 27): what the program's functions answer, or plain laws of it; no conditions. -/
import Derived.Test.YtgiobgojobegfaaGreatDoorB11
set_option linter.all false
namespace Go.Mini
open Go Go.Mini.Nm Go.Proofs.YtgiobgojobegfaaGreatDoor
set_option maxRecDepth 100000
set_option maxHeartbeats 80000000
def eV:MV:=.agg [.int .i64 0,.int .i64 0,.int .i64 0]
def eT:T:=.mk 0 16 true [] [cB 2 0,VR.t (timeS 0),cB 10 0]
def kY:List (Nat × Option (Bool × Nat) × PK):=[(4,some (true,5),.other)]
def gQ:MCode:=(.seq (sq [qa 65 6,qj 66 65,qC 67 .gtr 66 0] (.cond (.v 67) (.rgd [qd 68 4 5,qc 69 68,qa 70 6,qt 71 74 70,oT 72 (.bslF 5 (.agg az) 1 [(0,.t 71)]),qH 73 5 72 69 72,qd 74 4 5,oN (.store 1 (.t 74) (.t 73))] (bn [[],[0],[],[2],[3],[1,4],[5],[6]])) .skip)) (.seq (.rgd [qd 75 4 5,qc 76 75,qa 77 1,qd 78 1 2,qc 79 78,qv 80 255 77 79,oT 81 (.bslF 5 (.agg az) 1 [(0,.t 80)]),oT 82 (.call 254 [qk 0,.t 81]),oT 83 (.bslF 5 (.agg az) 1 [(0,.t 82)]),qH 84 5 72 76 83,qd 85 4 5,oN (.store 1 (.t 85) (.t 84))] (bn [[],[0],[],[],[3],[2,4],[5],[6],[7],[1,8],[9],[10]])) (sq [qi 86 5 5,qg 5 4 86] .ret)))
def nI (a:Int) (b:Bool) (c1 c3:List MV) (l vs:List MV) (i:Nat):DS:=⟨[(1,.ptr 0 0),(2,.ptr 1 0),(4,.ptr 2 0),(5,.ptr 3 0),(6,.own (if i=0 then 5 else 4) i),(41,.sl 3 l),(42,.int .i64 l.length),(43,.int .i64 i)],[],[(0,.cells [.int .i64 a,.bool b]),(1,.cells c1),(2,.cells [.int .i64 0,.int .i64 0,.bool false,.nilsl,.nilsl]),(3,.cells c3),(if i=0 then 5 else 4,.el 5 vs false)],6⟩
theorem I2 (a:Int) (b:Bool):CallH Q 253 [.ptr 0 0,.int .i64 10,.int .i64 0,.int .i64 0,.int .i64 10] [.cells [.int .i64 a,.bool b]]=some (.agg [.int .i64 0,.int .i64 10,.bool false,.bs (aE 0),.nilsl],[some (.cells [.int .i64 a,.bool b])]):=yY 10 0 0 10 (by omega) a b
theorem zx (a:Int) (b:Bool):CallH Q 255 [.ptr 0 0,.int .i64 0] [.cells [.int .i64 a,.bool b]]=some (.agg [.int .i64 0,.int .i64 2,.bool false,.bs (aE 0),.nilsl],[some (.cells [.int .i64 a,.bool b])]):=lI 0 (by omega) a b
theorem JL (a:Int) (b:Bool):CallH Q 255 [.ptr 0 0,.int .i64 1] [.cells [.int .i64 a,.bool b]]=some (.agg [.int .i64 0,.int .i64 2,.bool false,.bs (aE 1),.nilsl],[some (.cells [.int .i64 a,.bool b])]):=lI 1 (by omega) a b
theorem Ii (K:List Item) (a:Int) (b:Bool) (ct tt:Int) (mt:Bool) (wt kt:MV) (hwt:Fs wt) (hkt:Fs kt) (ht:∀a b,CallH Q 257 [.ptr 0 0,.int .i64 0] [.cells [.int .i64 a,.bool b]]=some (.agg [.int .i64 ct,.int .i64 tt,.bool mt,wt,kt],[some (.cells [.int .i64 a,.bool b])])) (iss sig ent:MV) (fi:Fs iss) (fg:Fs sig) (fe:Fs ent) (l5:List MV) (l vs:List MV) (hl:l.length≤300) (i:Nat) (hI:vs.length=i) (hg:l[i]? = some eV):
  ax 1 kY (RunL Q m281k0 m281b0 K (nI a b [iss,.int .i64 0,.int .i64 0,.int .i64 0,ent,.int .i64 1,sig] [.int .i64 0,.int .i64 16,.bool true,.nilsl,.fsl 5 l5] l vs i))=ax 1 kY (RunL Q m281k0 m281b0 K (nI a b [iss,.int .i64 0,.int .i64 0,.int .i64 0,ent,.int .i64 1,sig] [.int .i64 0,.int .i64 16,.bool true,.nilsl,.fsl 5 l5] l (vs++[.agg [.int .i64 0,.int .i64 16,.bool true,.nilsl,.fsl 5 [.agg [.int .i64 0,.int .i64 2,.bool false,.bs (aE 0),.nilsl],.agg [.int .i64 ct,.int .i64 tt,.bool mt,wt,kt],.agg [.int .i64 0,.int .i64 10,.bool false,.bs (aE 0),.nilsl]]]]) (i+1))):=by
 obtain⟨hi,hxx⟩:=List.getElem?_eq_some_iff.1 hg
 have hlt:decide ((i:Int)<(l.length:Int))=true:=by simp;omega
 have i1:(i:Int)<(l.length:Int):=by omega
 have e9:((i+1:Nat):Int)=(i:Int)+1:=rfl
 have ha:(if i=0 then 5 else 4)≤5:=by split<;>omega
 have ha':4≤(if i=0 then 5 else 4):=by split<;>omega
 have n1:=zx
 have n2:=I2
 unfold nI eV at *
 rw[if_neg (Nat.succ_ne_zero i),e9]
 generalize(if i=0 then 5 else 4)=aa at ha ha' ⊢
 generalize aE 0=nb at *
 obtain⟨b',hb'⟩:∃b',b'=m281b0:=⟨_,rfl⟩
 rw[ah,show Item.lp m281k0 m281b0=Item.lp m281k0 b' by rw[hb']]
 apply ae;intro rhs hrhs
 simp(maxSteps:=4000000) (disch:=first|omega|exact aI (by(try simp only[bB.u,seval,cut,hwt.a,hkt.a,fi.a,fg.a,fe.a]);kernel_rfl)|decide) only[bB.u,seval,cut,m281b0,hlt,i1,hg,hI,ht,n1,n2,bG,hwt.a,hkt.a,fi.a,fg.a,fe.a,ag,aj]
 subst hrhs;(subst hb';refine(congrArg (ax _ _) (aA Q _ _ _ _)).trans ?_;exact congrArg (ax 1 kY) (af (canon_cong (by simp only[bA.u,seval,aQ,aD,bd,aF,aj,nub,has,inner,aH,ay,ar,m281k0,hwt.a,hkt.a,fi.a,fg.a,fe.a]) (by simp only[bA.u,seval,aQ,aD,bd,aF,aj,nub,has,inner,aH,ay,ar,m281k0,hwt.a,hkt.a,fi.a,fg.a,fe.a]) (by simp only[bA.u,seval,aQ,aD,bd,aF,aj,nub,has,inner,aH,ay,ar,m281k0,hwt.a,hkt.a,fi.a,fg.a,fe.a]))))
theorem DW (a:Int) (b:Bool) (ct tt:Int) (mt:Bool) (wt kt:MV) (hwt:Fs wt) (hkt:Fs kt) (ht:∀a b,CallH Q 257 [.ptr 0 0,.int .i64 0] [.cells [.int .i64 a,.bool b]]=some (.agg [.int .i64 ct,.int .i64 tt,.bool mt,wt,kt],[some (.cells [.int .i64 a,.bool b])])) (iss sig ent:MV) (fi:Fs iss) (fg:Fs sig) (fe:Fs ent) (l5:List MV) (m:Nat) (hm:m≤300) (K:List Item):∀(k i:Nat),i+k=m →
  ax 1 kY (RunL Q m281k0 m281b0 K (nI a b [iss,.int .i64 0,.int .i64 0,.int .i64 0,ent,.int .i64 1,sig] [.int .i64 0,.int .i64 16,.bool true,.nilsl,.fsl 5 l5] (List.replicate m eV) (List.replicate i (.agg [.int .i64 0,.int .i64 16,.bool true,.nilsl,.fsl 5 [.agg [.int .i64 0,.int .i64 2,.bool false,.bs (aE 0),.nilsl],.agg [.int .i64 ct,.int .i64 tt,.bool mt,wt,kt],.agg [.int .i64 0,.int .i64 10,.bool false,.bs (aE 0),.nilsl]]])) i))=ax 1 kY (RunL Q m281k0 m281b0 K (nI a b [iss,.int .i64 0,.int .i64 0,.int .i64 0,ent,.int .i64 1,sig] [.int .i64 0,.int .i64 16,.bool true,.nilsl,.fsl 5 l5] (List.replicate m eV) (List.replicate m (.agg [.int .i64 0,.int .i64 16,.bool true,.nilsl,.fsl 5 [.agg [.int .i64 0,.int .i64 2,.bool false,.bs (aE 0),.nilsl],.agg [.int .i64 ct,.int .i64 tt,.bool mt,wt,kt],.agg [.int .i64 0,.int .i64 10,.bool false,.bs (aE 0),.nilsl]]])) m))
 | 0,i,h=>by
  have:i=m:=by omega
  subst this;rfl
 |k+1,i,h=>by
  rw[Ii K a b ct tt mt wt kt hwt hkt ht iss sig ent fi fg fe l5 _ _ (by simp;omega) i (by simp) (by rw[List.getElem?_replicate];simp;omega),←List.replicate_succ']
  exact DW a b ct tt mt wt kt hwt hkt ht iss sig ent fi fg fe l5 m hm K k (i+1) (by omega)
theorem Ij (a:Int) (b:Bool) (iss sig ent:MV) (fi:Fs iss) (fg:Fs sig) (fe:Fs ent) (l5:List MV) (hl5:l5.length=5) (l:List MV) (hl:l.length≤300) (vs:List MV) (hI:vs.length=l.length):
  ax 1 kY (RunL Q m281k0 m281b0 [.blk 0,.code gQ] (nI a b [iss,.int .i64 0,.int .i64 0,.int .i64 0,ent,.int .i64 1,sig] [.int .i64 0,.int .i64 16,.bool true,.nilsl,.fsl 5 l5] l vs l.length))=some (.agg [.int .i64 0,.int .i64 16,.bool true,.nilsl,.sl 5 (l5++((if l.length=0 then []else [.agg [.int .i64 0,.int .i64 16,.bool true,.nilsl,.sl 5 vs]])++[.agg [.int .i64 2,.int .i64 0,.bool true,.nilsl,.fsl 5 [.agg [.int .i64 0,.int .i64 2,.bool false,.bs (aE 0),.nilsl]]]]))],[some (.cells [.int .i64 a,.bool b])]):=by
 have hlt:decide ((l.length:Int)<(l.length:Int))=false:=by simp
 have n1:=zx
 unfold nI
 generalize aE 0=nb at *
 by_cases h0:l.length=0
 ·have hd0:decide (0<(l.length:Int))=false:=by rw[decide_eq_false_iff_not];omega
  simp only[if_pos h0]
  obtain⟨b',hb'⟩:∃b',b'=m281b0:=⟨_,rfl⟩
  rw[ah,show Item.lp m281k0 m281b0=Item.lp m281k0 b' by rw[hb']]
  apply ae;intro rhs hrhs
  simp(maxSteps:=4000000) (disch:=first|omega|exact aI (by(try simp only[bB.u,seval,cut,fi.a,fg.a,fe.a]);kernel_rfl)|decide) only[bB.u,seval,cut,m281b0,gQ,kY,hlt,hI,hl5,hd0,n1,da,io,List.append_assoc,fi.a,fg.a,fe.a,ag,aj]
  subst hrhs;rfl
 ·have hd0:decide (0<(l.length:Int))=true:=by rw[decide_eq_true_eq];omega
  simp only[if_neg h0]
  obtain⟨b',hb'⟩:∃b',b'=m281b0:=⟨_,rfl⟩
  rw[ah,show Item.lp m281k0 m281b0=Item.lp m281k0 b' by rw[hb']]
  apply ae;intro rhs hrhs
  simp(maxSteps:=4000000) (disch:=first|omega|exact aI (by(try simp only[bB.u,seval,cut,fi.a,fg.a,fe.a]);kernel_rfl)|decide) only[bB.u,seval,cut,m281b0,gQ,kY,hlt,hI,hl5,hd0,n1,da,io,List.append_assoc,fi.a,fg.a,fe.a,ag,aj]
  subst hrhs;rfl
theorem Ik (a:Int) (b:Bool) (iss sig:MV) (fi:Fs iss) (fg:Fs sig) (l5:List MV) (hl5:l5.length=5):
  ax 1 kY (RunL Q m281k0 m281b0 [.blk 0,.code gQ] ⟨[(1,.ptr 0 0),(2,.ptr 1 0),(4,.ptr 2 0),(5,.ptr 3 0),(6,.own 5 0),(41,.nilsl),(42,.int .i64 0),(43,.int .i64 0)],[],[(0,.cells [.int .i64 a,.bool b]),(1,.cells [iss,.int .i64 0,.int .i64 0,.int .i64 0,.nilsl,.int .i64 1,sig]),(2,.cells [.int .i64 0,.int .i64 0,.bool false,.nilsl,.nilsl]),(3,.cells [.int .i64 0,.int .i64 16,.bool true,.nilsl,.fsl 5 l5]),(5,.el 5 [] false)],6⟩)=some (.agg [.int .i64 0,.int .i64 16,.bool true,.nilsl,.sl 5 (l5++[.agg [.int .i64 2,.int .i64 0,.bool true,.nilsl,.fsl 5 [.agg [.int .i64 0,.int .i64 2,.bool false,.bs (aE 0),.nilsl]]]])],[some (.cells [.int .i64 a,.bool b])]):=by
 have n1:=zx
 generalize aE 0=nb at *
 obtain⟨b',hb'⟩:∃b',b'=m281b0:=⟨_,rfl⟩
 rw[ah,show Item.lp m281k0 m281b0=Item.lp m281k0 b' by rw[hb']]
 apply ae;intro rhs hrhs
 simp(maxSteps:=4000000) (disch:=first|omega|exact aI (by(try simp only[bB.u,seval,cut,fi.a,fg.a]);kernel_rfl)|decide) only[bB.u,seval,cut,m281b0,gQ,kY,hl5,n1,da,io,fi.a,fg.a,ag,aj]
 subst hrhs;rfl
theorem F8 (a:Int) (b:Bool) (iss sig ent:MV) (n:Nat) (hn:n≤300) (fi:Fs iss) (fg:Fs sig) (he:ent= .sl 3 (List.replicate n eV)∨ent= .nilsl∧n=0) (m:Nat) (hm:m=min n 256) (sk:List MV) (hsv:∀a b,CallH Q 75 [.ptr 0 0,.int .i64 1] [.cells [.int .i64 a,.bool b]]=some (.agg [.int .i64 0,.int .i64 16,.bool true,.nilsl,.fsl 5 sk],[some (.cells [.int .i64 a,.bool b])]))
  (ct tt:Int) (mt:Bool) (wt kt:MV) (hwt:Fs wt) (hkt:Fs kt) (ht:∀a b,CallH Q 257 [.ptr 0 0,.int .i64 0] [.cells [.int .i64 a,.bool b]]=some (.agg [.int .i64 ct,.int .i64 tt,.bool mt,wt,kt],[some (.cells [.int .i64 a,.bool b])])) (cd td:Int) (md:Bool) (wd kd:MV) (hwd:Fs wd) (hkd:Fs kd) (hd:∀a b,CallH Q 256 [.ptr 0 0,iss] [.cells [.int .i64 a,.bool b]]=some (.agg [.int .i64 cd,.int .i64 td,.bool md,wd,kd],[some (.cells [.int .i64 a,.bool b])])):
  CallH Q 281 [.agg [iss,.int .i64 0,.int .i64 0,.int .i64 0,ent,.int .i64 1,sig],.ptr 0 0] [.cells [.int .i64 a,.bool b]]=some (.agg [.int .i64 0,.int .i64 16,.bool true,.nilsl,.sl 5 ([.agg [.int .i64 0,.int .i64 2,.bool false,.bs (aE 1),.nilsl],.agg [.int .i64 0,.int .i64 16,.bool true,.nilsl,.fsl 5 sk],.agg [.int .i64 cd,.int .i64 td,.bool md,wd,kd],.agg [.int .i64 ct,.int .i64 tt,.bool mt,wt,kt],.agg [.int .i64 ct,.int .i64 tt,.bool mt,wt,kt]]++((if m=0 then []else [.agg [.int .i64 0,.int .i64 16,.bool true,.nilsl,.sl 5 (List.replicate m (.agg [.int .i64 0,.int .i64 16,.bool true,.nilsl,.fsl 5 [.agg [.int .i64 0,.int .i64 2,.bool false,.bs (aE 0),.nilsl],.agg [.int .i64 ct,.int .i64 tt,.bool mt,wt,kt],.agg [.int .i64 0,.int .i64 10,.bool false,.bs (aE 0),.nilsl]]]))]])++[.agg [.int .i64 2,.int .i64 0,.bool true,.nilsl,.fsl 5 [.agg [.int .i64 0,.int .i64 2,.bool false,.bs (aE 0),.nilsl]]]]))],[some (.cells [.int .i64 (bl (decide (n≤256)) (a,b)).1,.bool (bl (decide (n≤256)) (a,b)).2])]):=by
 have n0:=zx
 have n1:=JL
 have hne:=kQ (decide (n≤256)) a b
 generalize bl (decide (n≤256)) (a,b)=s' at hne ⊢
 obtain⟨a',b'⟩:=s'
 simp only at hne ⊢
 have hq:decide ((n:Int)≤256)=decide (n≤256):=by by_cases h:n≤256<;>simp[h]<;>omega
 rcases he with rfl|⟨rfl,rfl⟩
 ·have fe:Fs (.sl 3 (List.replicate n eV)):=⟨fun _=>rfl,rfl,rfl,rfl,rfl,fun _=>rfl,fun _=>rfl⟩
  have loop:=(DW a' b' ct tt mt wt kt hwt hkt ht iss sig (.sl 3 (List.replicate n eV)) fi fg fe ([.agg [.int .i64 0,.int .i64 2,.bool false,.bs (aE 1),.nilsl],.agg [.int .i64 0,.int .i64 16,.bool true,.nilsl,.fsl 5 sk],.agg [.int .i64 cd,.int .i64 td,.bool md,wd,kd],.agg [.int .i64 ct,.int .i64 tt,.bool mt,wt,kt],.agg [.int .i64 ct,.int .i64 tt,.bool mt,wt,kt]]) m (by omega) [.blk 0,.code gQ] m 0 (by omega))
  have e:=Ij a' b' iss sig (.sl 3 (List.replicate n eV)) fi fg fe ([.agg [.int .i64 0,.int .i64 2,.bool false,.bs (aE 1),.nilsl],.agg [.int .i64 0,.int .i64 16,.bool true,.nilsl,.fsl 5 sk],.agg [.int .i64 cd,.int .i64 td,.bool md,wd,kd],.agg [.int .i64 ct,.int .i64 tt,.bool mt,wt,kt],.agg [.int .i64 ct,.int .i64 tt,.bool mt,wt,kt]]) rfl (List.replicate m eV) (by simp;omega) (List.replicate m (.agg [.int .i64 0,.int .i64 16,.bool true,.nilsl,.fsl 5 [.agg [.int .i64 0,.int .i64 2,.bool false,.bs (aE 0),.nilsl],.agg [.int .i64 ct,.int .i64 tt,.bool mt,wt,kt],.agg [.int .i64 0,.int .i64 10,.bool false,.bs (aE 0),.nilsl]]])) (by simp)
  have hl2:(List.replicate m eV).length=m:=by simp
  have hl:(List.replicate n eV).length=n:=by simp
  have htk:(List.replicate n eV).take m=List.replicate m eV:=by rw[List.take_replicate,show min m n=m by omega]
  have hmn:(if(256:Int)<(n:Int)then(256:Int)else(n:Int))=(m:Int):=by split<;>omega
  have hmle:m≤n:=by omega
  rw[hl2]at e
  replace loop:=loop.trans e
  rw[List.replicate_zero]at loop
  generalize List.replicate m eV=l2 at *
  generalize List.replicate n eV=l1 at *
  generalize List.replicate m ((.agg [.int .i64 0,.int .i64 16,.bool true,.nilsl,.fsl 5 [.agg [.int .i64 0,.int .i64 2,.bool false,.bs (aE 0),.nilsl],.agg [.int .i64 ct,.int .i64 tt,.bool mt,wt,kt],.agg [.int .i64 0,.int .i64 10,.bool false,.bs (aE 0),.nilsl]]]):MV)=vs at *
  unfold nI at loop
  rw[if_pos rfl,hl2]at loop
  generalize aE 0=nb0 at *
  generalize aE 1=nb1 at *
  rw[aC Q (m:=m281) rfl]
  apply ae;intro rhs hrhs
  simp(maxSteps:=4000000) (disch:=first|omega|exact aI (by(try simp only[bB.u,seval,cut,fi.a,fg.a,hwt.a,hkt.a,hwd.a,hkd.a]);kernel_rfl)|decide) only[bB.u,seval,cut,m281,n0,n1,hsv,hd,ht,hne,hq,hmn,hl,hl2,htk,bG,show(0:Int).toNat=0 from rfl,Nat.sub_zero,aq,fi.a,fg.a,hwt.a,hkt.a,hwd.a,hkd.a,ag,aj]
  subst hrhs;exact(congrArg (ax _ _) (af (canon_cong (by simp only[bA.u,seval,aQ,aD,bd,aF,aj,nub,has,inner,aH,ay,ar,m281k0,hl2,fi.a,fg.a,hwt.a,hkt.a,hwd.a,hkd.a]) (by simp only[bA.u,seval,aQ,aD,bd,aF,aj,nub,has,inner,aH,ay,ar,m281k0,hl2,fi.a,fg.a,hwt.a,hkt.a,hwd.a,hkd.a]) (by simp only[bA.u,seval,aQ,aD,bd,aF,aj,nub,has,inner,aH,ay,ar,m281k0,hl2,fi.a,fg.a,hwt.a,hkt.a,hwd.a,hkd.a])))).trans loop
 ·obtain rfl:m=0:=by omega
  have loop:=Ik a' b' iss sig fi fg ([.agg [.int .i64 0,.int .i64 2,.bool false,.bs (aE 1),.nilsl],.agg [.int .i64 0,.int .i64 16,.bool true,.nilsl,.fsl 5 sk],.agg [.int .i64 cd,.int .i64 td,.bool md,wd,kd],.agg [.int .i64 ct,.int .i64 tt,.bool mt,wt,kt],.agg [.int .i64 ct,.int .i64 tt,.bool mt,wt,kt]]) rfl
  replace hne:CallH Q 260 [.ptr 0 0,.bool true] [.cells [.int .i64 a,.bool b]]=some (.tup [],[some (.cells [.int .i64 a',.bool b'])]):=hne
  rw[if_pos rfl,List.nil_append]
  generalize aE 0=nb0 at *
  generalize aE 1=nb1 at *
  rw[aC Q (m:=m281) rfl]
  apply ae;intro rhs hrhs
  simp(maxSteps:=4000000) (disch:=first|omega|exact aI (by(try simp only[bB.u,seval,cut,fi.a,fg.a,hwt.a,hkt.a,hwd.a,hkd.a]);kernel_rfl)|decide) only[bB.u,seval,cut,m281,n0,n1,hsv,hd,ht,hne,hq,bG,show(0:Int).toNat=0 from rfl,Nat.sub_zero,aq,fi.a,fg.a,hwt.a,hkt.a,hwd.a,hkd.a,ag,aj]
  subst hrhs;exact(congrArg (ax _ _) (af (canon_cong (by simp only[bA.u,seval,aQ,aD,bd,aF,aj,nub,has,inner,aH,ay,ar,m281k0,fi.a,fg.a,hwt.a,hkt.a,hwd.a,hkd.a]) (by simp only[bA.u,seval,aQ,aD,bd,aF,aj,nub,has,inner,aH,ay,ar,m281k0,fi.a,fg.a,hwt.a,hkt.a,hwd.a,hkd.a]) (by simp only[bA.u,seval,aQ,aD,bd,aF,aj,nub,has,inner,aH,ay,ar,m281k0,fi.a,fg.a,hwt.a,hkt.a,hwd.a,hkd.a])))).trans loop
end Go.Mini

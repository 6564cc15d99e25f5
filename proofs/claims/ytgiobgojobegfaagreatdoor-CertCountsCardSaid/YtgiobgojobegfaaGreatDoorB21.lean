/- a certificate's law by that interpreter (part 21): what the program's functions answer, or plain laws of it; no conditions. -/
import Derived.Test.YtgiobgojobegfaaGreatDoorB20
import Derived.Test.YtgiobgojobegfaaGreatDoorB16
set_option linter.all false
namespace Go.Mini
open Go Go.Mini.Nm Go.Proofs.YtgiobgojobegfaaGreatDoor
set_option maxRecDepth 100000
set_option maxHeartbeats 4000000
theorem ic (n:Int) (h:1≤n∧n≤9):av (bx n)= .agg [.int .i64 0,.int .i64 16,.bool true,.nilsl,.sl 5 [.agg [.int .i64 0,.int .i64 6,.bool false,.bs (jr n),.nilsl]]]:=by
 unfold bx
 rw[if_neg (by omega)]
 rfl
def zn (n:Int) (w:List UInt8):T:=.mk 0 16 true [] [bx n,fj w]
theorem Bs (n:Int) (h:1≤n∧n≤9) (w:List UInt8) (hl:w.length<2^60) (b:Bool):CallH Q 41 [.ptr 0 0,av (zn n w)] [.cells [.bool b]]=some (.tup [.int .i64 n,.bs w],[some (.cells [.bool (b)])]):=by
 have h1:=Bh 0 16 true .nilsl aV [av (bx n),bY w] (by simp) 2 2 b
 rw[show kU 0 16 (([av (bx n),bY w]:List MV).length:Int) 2 2=false from rfl,Bool.or_false,List.cons_append,List.cons_append,List.nil_append]at h1
 have h2:=q7 n h b
 have h3:=q6 w hl b
 rw[show av (zn n w)= .agg [.int .i64 0,.int .i64 16,.bool true,.nilsl,.sl 5 [av (bx n),bY w]]from rfl]
 rw[ic n h]at h1 h2 ⊢
 unfold bY at h1 h3 ⊢
 generalize List.replicate 10 zV=q at h1
 generalize jr n=s at *
 rw[aC Q (m:=m41) rfl]
 apply ae;intro rhs hrhs
 simp(maxSteps:=4000000)(disch:=first|exact dz|fail)only[bB.u,seval,cut,m41,h1,h2,h3,ag,aj]
 repeat'((with_reducible first|refine sp ?_ ?_|fail)<;>intro hx<;>(try simp only[bI.u]at hx)<;>(first|exact xz|(try simp(maxSteps:=4000000)(disch:=first|exact dz|fail)only[bB.u,seval,cut,hx,m41,h1,h2,h3,ag,aj])))
 all_goals first|exact xz|(subst hrhs;rfl)
def j5:List (Nat × Option (Bool × Nat) × PK):=[(6,none,.el 3)]
def iC:MCode:=(.seq (.rg [oT 46 (.mv (.v 7)),
  oV 6 (.mv (.t 46))])
  (.ret))
def iK (b:Bool) (lim:Bool) (l:List MV) (vs:List MV) (i:Nat):DS:=⟨[(0,.ptr 0 0),(2,.bool lim),(7,.own (if i=0 then 2 else 1) i),(12,.sl 5 l),(13,.int .i64 l.length),(14,.int .i64 i)],[],[(0,.cells [.bool b]),(if i=0 then 2 else 1,.el 3 vs false)],3⟩
theorem FS (K:List Item) (b:Bool) (l:List MV) (hl:l.length≤2^30) (vs:List MV) (i:Nat) (hI:vs.length=i) (c t:Int) (m:Bool) (w k:MV) (hw:Fs w) (hk:Fs k) (hg:l[i]? = some (.agg [.int .i64 c,.int .i64 t,.bool m,w,k])) (g:Int) (gt:List UInt8) (dv:MV) (hd:Fs dv) (e:Int) (hc:Call Q 101 [.agg [.int .i64 c,.int .i64 t,.bool m,w,k],.bool false]=some (.tup [.agg [.int .i64 g,.str gt,dv],.int .i64 e])):
  ax 1 j5 (RunL Q m63k0 m63b0 K (iK b false l vs i))=ax 1 j5 (RunL Q m63k0 m63b0 K (iK (b||e != 0) false l (vs++[.agg [.int .i64 g,.str gt,dv]]) (i+1))):=by
 obtain⟨hi,hxx⟩:=List.getElem?_eq_some_iff.1 hg
 have hlt:decide ((i:Int)<(l.length:Int))=true:=by simp;omega
 have i1:(i:Int)<(l.length:Int):=by omega
 have e9:((i+1:Nat):Int)=(i:Int)+1:=rfl
 have ha:(if i=0 then 2 else 1)≤2:=by split<;>omega
 have ha':1≤(if i=0 then 2 else 1):=by split<;>omega
 unfold iK
 rw[if_neg (Nat.succ_ne_zero i),e9]
 generalize(if i=0 then 2 else 1)=aa at ha ha' ⊢
 cases b
 ·rw[Bool.false_or]
  obtain⟨b',hb'⟩:∃b',b'=m63b0:=⟨_,rfl⟩
  rw[ah,show Item.lp m63k0 m63b0=Item.lp m63k0 b' by rw[hb']]
  apply ae;intro rhs hrhs
  simp(maxSteps:=4000000)(disch:=first|exact dz|fail)only[bB.u,seval,cut,m63b0,hlt,i1,hc,hg,hI,hw.a,hk.a,hd.a,ag,aj]
  repeat'((with_reducible first|refine sp ?_ ?_|fail)<;>intro hx<;>(try simp only[bI.u]at hx)<;>(first|exact xz|(try simp(maxSteps:=4000000)(disch:=first|exact dz|fail)only[bB.u,seval,cut,hx,m63b0,hlt,i1,hc,hg,hI,hw.a,hk.a,hd.a,ag,aj])))
  all_goals first|exact xz|(subst hrhs;(subst hb';refine(congrArg (ax _ _) (aA Q _ _ _ _)).trans ?_;exact congrArg (ax 1 j5) (af (canon_cong kr kr kr))))
 ·rw[Bool.true_or]
  obtain⟨b',hb'⟩:∃b',b'=m63b0:=⟨_,rfl⟩
  rw[ah,show Item.lp m63k0 m63b0=Item.lp m63k0 b' by rw[hb']]
  apply ae;intro rhs hrhs
  simp(maxSteps:=4000000)(disch:=first|exact dz|fail)only[bB.u,seval,cut,m63b0,hlt,i1,hc,hg,hI,hw.a,hk.a,hd.a,ag,aj]
  repeat'((with_reducible first|refine sp ?_ ?_|fail)<;>intro hx<;>(try simp only[bI.u]at hx)<;>(first|exact xz|(try simp(maxSteps:=4000000)(disch:=first|exact dz|fail)only[bB.u,seval,cut,hx,m63b0,hlt,i1,hc,hg,hI,hw.a,hk.a,hd.a,ag,aj])))
  all_goals first|exact xz|(subst hrhs;(subst hb';refine(congrArg (ax _ _) (aA Q _ _ _ _)).trans ?_;exact congrArg (ax 1 j5) (af (canon_cong kr kr kr))))
theorem FT (K:List Item) (b:Bool) (l:List MV) (hl:l.length≤2^30) (vs:List MV) (i:Nat) (hI:vs.length=i) (c t:Int) (m:Bool) (w k:MV) (hw:Fs w) (hk:Fs k) (c0 t0:Int) (m0:Bool) (w0 k0:MV) (hw0:Fs w0) (hk0:Fs k0) (q:List MV) (b1:Bool) (h9:CallH Q 39 [.ptr 0 0,.agg [.int .i64 c0,.int .i64 t0,.bool m0,w0,k0],.int .i64 1,.int .i64 1] [.cells [.bool b]]=some (.sl 5 (.agg [.int .i64 c,.int .i64 t,.bool m,w,k]::q),[some (.cells [.bool b1])])) (hg:l[i]? = some (.agg [.int .i64 c0,.int .i64 t0,.bool m0,w0,k0])) (g:Int) (gt:List UInt8) (dv:MV) (hd:Fs dv) (e:Int) (hc:Call Q 101 [.agg [.int .i64 c,.int .i64 t,.bool m,w,k],.bool true]=some (.tup [.agg [.int .i64 g,.str gt,dv],.int .i64 e])):
  ax 1 j5 (RunL Q m63k0 m63b0 K (iK b true l vs i))=ax 1 j5 (RunL Q m63k0 m63b0 K (iK (b1||e != 0) true l (vs++[.agg [.int .i64 g,.str gt,dv]]) (i+1))):=by
 obtain⟨hi,hxx⟩:=List.getElem?_eq_some_iff.1 hg
 have hlt:decide ((i:Int)<(l.length:Int))=true:=by simp;omega
 have i1:(i:Int)<(l.length:Int):=by omega
 have e9:((i+1:Nat):Int)=(i:Int)+1:=rfl
 have ha:(if i=0 then 2 else 1)≤2:=by split<;>omega
 have ha':1≤(if i=0 then 2 else 1):=by split<;>omega
 unfold iK
 rw[if_neg (Nat.succ_ne_zero i),e9]
 generalize(if i=0 then 2 else 1)=aa at ha ha' ⊢
 cases b1
 ·rw[Bool.false_or]
  obtain⟨b',hb'⟩:∃b',b'=m63b0:=⟨_,rfl⟩
  rw[ah,show Item.lp m63k0 m63b0=Item.lp m63k0 b' by rw[hb']]
  apply ae;intro rhs hrhs
  simp(maxSteps:=4000000)(disch:=first|exact dz|fail)only[bB.u,seval,cut,m63b0,hlt,i1,hc,hg,hI,h9,hw0.a,hk0.a,hw.a,hk.a,hd.a,ag,aj]
  repeat'((with_reducible first|refine sp ?_ ?_|fail)<;>intro hx<;>(try simp only[bI.u]at hx)<;>(first|exact xz|(try simp(maxSteps:=4000000)(disch:=first|exact dz|fail)only[bB.u,seval,cut,hx,m63b0,hlt,i1,hc,hg,hI,h9,hw0.a,hk0.a,hw.a,hk.a,hd.a,ag,aj])))
  all_goals first|exact xz|(subst hrhs;(subst hb';refine(congrArg (ax _ _) (aA Q _ _ _ _)).trans ?_;exact congrArg (ax 1 j5) (af (canon_cong kr kr kr))))
 ·rw[Bool.true_or]
  obtain⟨b',hb'⟩:∃b',b'=m63b0:=⟨_,rfl⟩
  rw[ah,show Item.lp m63k0 m63b0=Item.lp m63k0 b' by rw[hb']]
  apply ae;intro rhs hrhs
  simp(maxSteps:=4000000)(disch:=first|exact dz|fail)only[bB.u,seval,cut,m63b0,hlt,i1,hc,hg,hI,h9,hw0.a,hk0.a,hw.a,hk.a,hd.a,ag,aj]
  repeat'((with_reducible first|refine sp ?_ ?_|fail)<;>intro hx<;>(try simp only[bI.u]at hx)<;>(first|exact xz|(try simp(maxSteps:=4000000)(disch:=first|exact dz|fail)only[bB.u,seval,cut,hx,m63b0,hlt,i1,hc,hg,hI,h9,hw0.a,hk0.a,hw.a,hk.a,hd.a,ag,aj])))
  all_goals first|exact xz|(subst hrhs;(subst hb';refine(congrArg (ax _ _) (aA Q _ _ _ _)).trans ?_;exact congrArg (ax 1 j5) (af (canon_cong kr kr kr))))
theorem DL (b lim:Bool) (l:List MV) (vs:List MV) (hI:vs.length=l.length):ax 1 j5 (RunL Q m63k0 m63b0 [.blk 0,.code iC] (iK b lim l vs l.length))=some (.sl 3 vs,[some (.cells [.bool (b)])]):=by
 have hlt:decide ((l.length:Int)<(l.length:Int))=false:=by simp
 have ha:(if l.length=0 then 2 else 1)≤2:=by split<;>omega
 have ha':1≤(if l.length=0 then 2 else 1):=by split<;>omega
 unfold iK
 generalize(if l.length=0 then 2 else 1)=aa at ha ha' ⊢
 obtain⟨b',hb'⟩:∃b',b'=m63b0:=⟨_,rfl⟩
 rw[ah,show Item.lp m63k0 m63b0=Item.lp m63k0 b' by rw[hb']]
 apply ae;intro rhs hrhs
 simp(maxSteps:=4000000)(disch:=first|exact dz|fail)only[bB.u,seval,cut,m63b0,iC,j5,hlt,hI,ag,aj]
 repeat'((with_reducible first|refine sp ?_ ?_|fail)<;>intro hx<;>(try simp only[bI.u]at hx)<;>(first|exact xz|(try simp(maxSteps:=4000000)(disch:=first|exact dz|fail)only[bB.u,seval,cut,hx,m63b0,iC,j5,hlt,hI,ag,aj])))
 all_goals first|exact xz|(subst hrhs;rfl)
theorem yr (b lim:Bool) (l:List MV) (r:MV × List (Option Obj)) (h:ax 1 j5 (RunL Q m63k0 m63b0 [.blk 0,.code iC] (iK b lim l [] 0))=some r):CallH Q 63 [.ptr 0 0,.sl 5 l,.bool lim] [.cells [.bool b]]=some r:=by
 unfold iK at h
 rw[if_pos rfl]at h
 rw[aC Q (m:=m63) rfl]
 apply ae;intro rhs hrhs
 simp(maxSteps:=4000000)(disch:=first|exact dz|fail)only[bB.u,seval,cut,m63,aq,ag,aj]
 repeat'((with_reducible first|refine sp ?_ ?_|fail)<;>intro hx<;>(try simp only[bI.u]at hx)<;>(first|exact xz|(try simp(maxSteps:=4000000)(disch:=first|exact dz|fail)only[bB.u,seval,cut,hx,m63,aq,ag,aj])))
 all_goals first|exact xz|(subst hrhs;exact(congrArg (ax _ _) (af (canon_cong kr kr kr))).trans h)
theorem zo:Call Q 83 [.agg [.int .i64 0,.int .i64 6,.bool false,.bs [85,29,19],.nilsl]]=some (.tup [.str [50,46,53,46,50,57,46,49,57],.bool true]):=Call_iff.2 ⟨3000,by kernel_rfl⟩
theorem HU:Call Q 83 [.agg [.int .i64 0,.int .i64 6,.bool false,.bs [85,29,15],.nilsl]]=some (.tup [.str [50,46,53,46,50,57,46,49,53],.bool true]):=Call_iff.2 ⟨3000,by kernel_rfl⟩
theorem HV:Call Q 83 [.agg [.int .i64 0,.int .i64 6,.bool false,.bs [85,29,17],.nilsl]]=some (.tup [.str [50,46,53,46,50,57,46,49,55],.bool true]):=Call_iff.2 ⟨3000,by kernel_rfl⟩
theorem HW:Call Q 83 [.agg [.int .i64 0,.int .i64 6,.bool false,.bs [85,29,30],.nilsl]]=some (.tup [.str [50,46,53,46,50,57,46,51,48],.bool true]):=Call_iff.2 ⟨3000,by kernel_rfl⟩
theorem df (l:List MV) (hl:l.length≤2^30) (lo hi:Int) (h1:lo≤l.length) (h2:(l.length:Int)≤hi) (b:Bool):CallH Q 39 [.ptr 0 0,.agg [.int .i64 0,.int .i64 16,.bool true,.nilsl,.sl 5 l],.int .i64 lo,.int .i64 hi] [.cells [.bool b]]=some (.sl 5 (l++List.replicate 10 zV),[some (.cells [.bool b])]):=by
 rw[Bh 0 16 true .nilsl aV l hl lo hi b]
 have:kU 0 16 l.length lo hi=false:=by unfold kU;simp;omega
 rw[this,Bool.or_false]
theorem IT (bs:List UInt8) (b:Bool) (hr:Call Q 77 [.bs bs]=some (.tup [.agg [.int .i64 0,.int .i64 16,.bool true,.nilsl,.sl 5 [.agg [.int .i64 0,.int .i64 1,.bool false,.bs [255],.nilsl]]],.int .i64 0])) (a0 a1 a4 a5 a6:Int) (ca:Bool) (pa us:Int) (iss sub key alt per exc sig:MV) (f1:Fs iss) (f2:Fs sub) (f3:Fs key) (f4:Fs alt) (f5:Fs per) (f6:Fs exc) (f7:Fs sig):CallH Q 43 [.ptr 0 0,.ptr 1 0,.agg [.int .i64 0,.int .i64 16,.bool true,.nilsl,.sl 5 [.agg [.int .i64 0,.int .i64 6,.bool false,.bs [85,29,19],.nilsl],.agg [.int .i64 0,.int .i64 1,.bool false,.bs [255],.nilsl],.agg [.int .i64 0,.int .i64 4,.bool false,.bs bs,.nilsl]]]] [.cells [.bool b],.cells [.int .i64 a0,.int .i64 a1,iss,sub,.int .i64 a4,.int .i64 a5,.int .i64 a6,key,.bool ca,.int .i64 pa,.int .i64 us,alt,per,exc,sig]]=some (.tup [],[some (.cells [.bool b]),some (.cells [.int .i64 a0,.int .i64 a1,iss,sub,.int .i64 a4,.int .i64 a5,.int .i64 a6,key,.bool true,.int .i64 pa,.int .i64 us,alt,per,exc,sig])]):=by
 have hk:=df [.agg [.int .i64 0,.int .i64 6,.bool false,.bs [85,29,19],.nilsl],.agg [.int .i64 0,.int .i64 1,.bool false,.bs [255],.nilsl],.agg [.int .i64 0,.int .i64 4,.bool false,.bs bs,.nilsl]] (by simp) 2 3 (by simp) (by simp) b
 simp only[List.cons_append,List.nil_append]at hk
 generalize List.replicate 10 zV=q at hk
 have hi:=df [.agg [.int .i64 0,.int .i64 1,.bool false,.bs [255],.nilsl]] (by simp) 1 2 (by simp) (by simp) b
 simp only[List.cons_append,List.nil_append]at hi
 generalize List.replicate 10 zV=q2 at hi
 rw[aC Q (m:=m43) rfl]
 apply ae;intro rhs hrhs
 simp(maxSteps:=4000000)(disch:=first|exact dz|fail)only[bB.u,seval,cut,m43,hk,hr,zo,hi,f1.a,f2.a,f3.a,f4.a,f5.a,f6.a,f7.a,ag,aj]
 repeat'((with_reducible first|refine sp ?_ ?_|fail)<;>intro hx<;>(try simp only[bI.u]at hx)<;>(first|exact xz|(try simp(maxSteps:=4000000)(disch:=first|exact dz|fail)only[bB.u,seval,cut,hx,m43,hk,hr,zo,hi,f1.a,f2.a,f3.a,f4.a,f5.a,f6.a,f7.a,ag,aj])))
 all_goals first|exact xz|(subst hrhs;rfl)
theorem IU (bs:List UInt8) (b:Bool) (w:List UInt8) (hw:aU w<9223372036854775808) (hwl:w.length≤8) (hr:Call Q 77 [.bs bs]=some (.tup [.agg [.int .i64 0,.int .i64 16,.bool true,.nilsl,.sl 5 [.agg [.int .i64 0,.int .i64 1,.bool false,.bs [255],.nilsl],.agg [.int .i64 0,.int .i64 2,.bool false,.bs w,.nilsl]]],.int .i64 0])) (a0 a1 a4 a5 a6:Int) (ca:Bool) (pa us:Int) (iss sub key alt per exc sig:MV) (f1:Fs iss) (f2:Fs sub) (f3:Fs key) (f4:Fs alt) (f5:Fs per) (f6:Fs exc) (f7:Fs sig):CallH Q 43 [.ptr 0 0,.ptr 1 0,.agg [.int .i64 0,.int .i64 16,.bool true,.nilsl,.sl 5 [.agg [.int .i64 0,.int .i64 6,.bool false,.bs [85,29,19],.nilsl],.agg [.int .i64 0,.int .i64 1,.bool false,.bs [255],.nilsl],.agg [.int .i64 0,.int .i64 4,.bool false,.bs bs,.nilsl]]]] [.cells [.bool b],.cells [.int .i64 a0,.int .i64 a1,iss,sub,.int .i64 a4,.int .i64 a5,.int .i64 a6,key,.bool ca,.int .i64 pa,.int .i64 us,alt,per,exc,sig]]=some (.tup [],[some (.cells [.bool b]),some (.cells [.int .i64 a0,.int .i64 a1,iss,sub,.int .i64 a4,.int .i64 a5,.int .i64 a6,key,.bool true,.int .i64 (aU w:Nat),.int .i64 us,alt,per,exc,sig])]):=by
 have hk:=df [.agg [.int .i64 0,.int .i64 6,.bool false,.bs [85,29,19],.nilsl],.agg [.int .i64 0,.int .i64 1,.bool false,.bs [255],.nilsl],.agg [.int .i64 0,.int .i64 4,.bool false,.bs bs,.nilsl]] (by simp) 2 3 (by simp) (by simp) b
 simp only[List.cons_append,List.nil_append]at hk
 generalize List.replicate 10 zV=q at hk
 have hi:=df [.agg [.int .i64 0,.int .i64 1,.bool false,.bs [255],.nilsl],.agg [.int .i64 0,.int .i64 2,.bool false,.bs w,.nilsl]] (by simp) 1 2 (by simp) (by simp) b
 simp only[List.cons_append,List.nil_append]at hi
 generalize List.replicate 10 zV=q2 at hi
 have hn:=qZ 0 2 w hw hwl b
 rw[aC Q (m:=m43) rfl]
 apply ae;intro rhs hrhs
 simp(maxSteps:=4000000)(disch:=first|exact dz|fail)only[bB.u,seval,cut,m43,hk,hr,zo,hi,hn,f1.a,f2.a,f3.a,f4.a,f5.a,f6.a,f7.a,ag,aj]
 repeat'((with_reducible first|refine sp ?_ ?_|fail)<;>intro hx<;>(try simp only[bI.u]at hx)<;>(first|exact xz|(try simp(maxSteps:=4000000)(disch:=first|exact dz|fail)only[bB.u,seval,cut,hx,m43,hk,hr,zo,hi,hn,f1.a,f2.a,f3.a,f4.a,f5.a,f6.a,f7.a,ag,aj])))
 all_goals first|exact xz|(subst hrhs;rfl)
theorem JF (bs:List UInt8) (b:Bool) (l:List MV) (hl:1≤l.length∧l.length≤256) (gv:List MV) (b1:Bool) (hg:CallH Q 63 [.ptr 0 0,.sl 5 l,.bool false] [.cells [.bool b]]=some (.sl 3 gv,[some (.cells [.bool b1])])) (hr:Call Q 77 [.bs bs]=some (.tup [.agg [.int .i64 0,.int .i64 16,.bool true,.nilsl,.sl 5 l],.int .i64 0])) (a0 a1 a4 a5 a6:Int) (ca:Bool) (pa us:Int) (iss sub key alt per exc sig:MV) (f1:Fs iss) (f2:Fs sub) (f3:Fs key) (f4:Fs alt) (f5:Fs per) (f6:Fs exc) (f7:Fs sig):CallH Q 43 [.ptr 0 0,.ptr 1 0,.agg [.int .i64 0,.int .i64 16,.bool true,.nilsl,.sl 5 [.agg [.int .i64 0,.int .i64 6,.bool false,.bs [85,29,17],.nilsl],.agg [.int .i64 0,.int .i64 4,.bool false,.bs bs,.nilsl]]]] [.cells [.bool b],.cells [.int .i64 a0,.int .i64 a1,iss,sub,.int .i64 a4,.int .i64 a5,.int .i64 a6,key,.bool ca,.int .i64 pa,.int .i64 us,alt,per,exc,sig]]=some (.tup [],[some (.cells [.bool b1]),some (.cells [.int .i64 a0,.int .i64 a1,iss,sub,.int .i64 a4,.int .i64 a5,.int .i64 a6,key,.bool ca,.int .i64 pa,.int .i64 us,.sl 3 gv,per,exc,sig])]):=by
 have hk:=df [.agg [.int .i64 0,.int .i64 6,.bool false,.bs [85,29,17],.nilsl],.agg [.int .i64 0,.int .i64 4,.bool false,.bs bs,.nilsl]] (by simp) 2 3 (by simp) (by simp) b
 simp only[List.cons_append,List.nil_append]at hk
 generalize List.replicate 10 zV=q at hk
 have hi:=df l (by omega) 1 256 (by omega) (by omega) b
 have ht:List.take (l.length-0) (l++List.replicate 10 zV)=l:=List.take_left' rfl
 have hm:l.length≤(l++List.replicate 10 zV).length:=by simp
 generalize l++List.replicate 10 zV=q2 at *
 rw[aC Q (m:=m43) rfl]
 apply ae;intro rhs hrhs
 simp(maxSteps:=4000000)(disch:=first|exact dz|fail)only[bB.u,seval,cut,m43,hk,hr,HV,hi,ht,hm,hg,f1.a,f2.a,f3.a,f4.a,f5.a,f6.a,f7.a,ag,aj]
 repeat'((with_reducible first|refine sp ?_ ?_|fail)<;>intro hx<;>(try simp only[bI.u]at hx)<;>(first|exact xz|(try simp(maxSteps:=4000000)(disch:=first|exact dz|fail)only[bB.u,seval,cut,hx,m43,hk,hr,HV,hi,ht,hm,hg,f1.a,f2.a,f3.a,f4.a,f5.a,f6.a,f7.a,ag,aj])))
 all_goals first|exact xz|(subst hrhs;rfl)
def j6 (us y:Int):Int:=IntKind.i64.wrap ((BitVec.ofInt IntKind.i64.bits us|||BitVec.ofInt IntKind.i64.bits y).toNat:Int)
theorem JG (y:UInt8):bf .shl .i64 (y.toNat:Int) 0=some (.int .i64 (y.toNat:Int)):=by
 have:=y.toNat_lt
 unfold bf
 rw[if_neg (by omega)]
 show some (MV.int .i64 (IntKind.i64.wrap ((y.toNat:Int)*1)))=_
 rw[fG (by omega) (by omega)];simp
theorem Bt (b:Bool) (a0 a1 a4 a5 a6:Int) (ca:Bool) (pa us:Int) (iss sub key alt per exc sig:MV) (f1:Fs iss) (f2:Fs sub) (f3:Fs key) (f4:Fs alt) (f5:Fs per) (f6:Fs exc) (f7:Fs sig) (w:List UInt8) (x:UInt8) (hg:w[0]? = some x):ax 2 [] (RunL Q m43k0 m43b0 [.blk 1,.blk 0] ⟨[(1,.ptr 1 0),(75,.bs w),(76,.int .i64 w.length),(77,.int .i64 0)],[],[(0,.cells [.bool b]),(1,.cells [.int .i64 a0,.int .i64 a1,iss,sub,.int .i64 a4,.int .i64 a5,.int .i64 a6,key,.bool ca,.int .i64 pa,.int .i64 us,alt,per,exc,sig])],3⟩)=ax 2 [] (RunL Q m43k0 m43b0 [.blk 1,.blk 0] ⟨[(1,.ptr 1 0),(75,.bs w),(76,.int .i64 w.length),(77,.int .i64 1)],[],[(0,.cells [.bool b]),(1,.cells [.int .i64 a0,.int .i64 a1,iss,sub,.int .i64 a4,.int .i64 a5,.int .i64 a6,key,.bool ca,.int .i64 pa,.int .i64 (j6 us (cI x).toNat),alt,per,exc,sig])],3⟩):=by
 obtain⟨hi,hxx⟩:=List.getElem?_eq_some_iff.1 hg
 have hlt:decide ((0:Int)<(w.length:Int))=true:=by simp;omega
 have i1:(0:Int)<(w.length:Int):=by omega
 have hr:=y_ x
 have hw:=wU (cI x)
 have hs:=JG (cI x)
 have hlt8:=(cI x).toNat_lt
 unfold j6
 obtain⟨b',hb'⟩:∃b',b'=m43b0:=⟨_,rfl⟩
 rw[ah,show Item.lp m43k0 m43b0=Item.lp m43k0 b' by rw[hb']]
 apply ae;intro rhs hrhs
 simp(maxSteps:=4000000)(disch:=first|exact dz|fail)only[bB.u,seval,cut,m43b0,hlt,i1,hg,hr,hw,hs,f1.a,f2.a,f3.a,f4.a,f5.a,f6.a,f7.a,ag,aj]
 repeat'((with_reducible first|refine sp ?_ ?_|fail)<;>intro hx<;>(try simp only[bI.u]at hx)<;>(first|exact xz|(try simp(maxSteps:=4000000)(disch:=first|exact dz|fail)only[bB.u,seval,cut,hx,m43b0,hlt,i1,hg,hr,hw,hs,f1.a,f2.a,f3.a,f4.a,f5.a,f6.a,f7.a,ag,aj])))
 all_goals first|exact xz|(subst hrhs;(subst hb';refine(congrArg (ax _ _) (aA Q _ _ _ _)).trans ?_;exact congrArg (ax 2 []) (af (canon_cong (by simp only[bA.u,seval,aQ,aD,bd,aF,aj,nub,has,inner,aH,ay,ar,m43k0,f1.a,f2.a,f3.a,f4.a,f5.a,f6.a,f7.a]) (by simp only[bA.u,seval,aQ,aD,bd,aF,aj,nub,has,inner,aH,ay,ar,m43k0,f1.a,f2.a,f3.a,f4.a,f5.a,f6.a,f7.a]) (by simp only[bA.u,seval,aQ,aD,bd,aF,aj,nub,has,inner,aH,ay,ar,m43k0,f1.a,f2.a,f3.a,f4.a,f5.a,f6.a,f7.a])))))
theorem HX (b:Bool) (a0 a1 a4 a5 a6:Int) (ca:Bool) (pa us:Int) (iss sub key alt per exc sig:MV) (f1:Fs iss) (f2:Fs sub) (f3:Fs key) (f4:Fs alt) (f5:Fs per) (f6:Fs exc) (f7:Fs sig) (w:List UInt8) (x:UInt8) (hg:w[1]? = some x):ax 2 [] (RunL Q m43k0 m43b0 [.blk 1,.blk 0] ⟨[(1,.ptr 1 0),(75,.bs w),(76,.int .i64 w.length),(77,.int .i64 1)],[],[(0,.cells [.bool b]),(1,.cells [.int .i64 a0,.int .i64 a1,iss,sub,.int .i64 a4,.int .i64 a5,.int .i64 a6,key,.bool ca,.int .i64 pa,.int .i64 us,alt,per,exc,sig])],3⟩)=ax 2 [] (RunL Q m43k0 m43b0 [.blk 1,.blk 0] ⟨[(1,.ptr 1 0),(75,.bs w),(76,.int .i64 w.length),(77,.int .i64 2)],[],[(0,.cells [.bool b]),(1,.cells [.int .i64 a0,.int .i64 a1,iss,sub,.int .i64 a4,.int .i64 a5,.int .i64 a6,key,.bool ca,.int .i64 pa,.int .i64 (j6 us ((cI x).toNat*256)),alt,per,exc,sig])],3⟩):=by
 obtain⟨hi,hxx⟩:=List.getElem?_eq_some_iff.1 hg
 have hlt:decide ((1:Int)<(w.length:Int))=true:=by simp;omega
 have i1:(1:Int)<(w.length:Int):=by omega
 have hr:=y_ x
 have hw:=wU (cI x)
 have hs:=HS (a:=((cI x).toNat:Int)) (by omega) (by have:=(cI x).toNat_lt;omega)
 have hlt8:=(cI x).toNat_lt
 unfold j6
 obtain⟨b',hb'⟩:∃b',b'=m43b0:=⟨_,rfl⟩
 rw[ah,show Item.lp m43k0 m43b0=Item.lp m43k0 b' by rw[hb']]
 apply ae;intro rhs hrhs
 simp(maxSteps:=4000000)(disch:=first|exact dz|fail)only[bB.u,seval,cut,m43b0,hlt,i1,hg,hr,hw,hs,f1.a,f2.a,f3.a,f4.a,f5.a,f6.a,f7.a,ag,aj]
 repeat'((with_reducible first|refine sp ?_ ?_|fail)<;>intro hx<;>(try simp only[bI.u]at hx)<;>(first|exact xz|(try simp(maxSteps:=4000000)(disch:=first|exact dz|fail)only[bB.u,seval,cut,hx,m43b0,hlt,i1,hg,hr,hw,hs,f1.a,f2.a,f3.a,f4.a,f5.a,f6.a,f7.a,ag,aj])))
 all_goals first|exact xz|(subst hrhs;(subst hb';refine(congrArg (ax _ _) (aA Q _ _ _ _)).trans ?_;exact congrArg (ax 2 []) (af (canon_cong (by simp only[bA.u,seval,aQ,aD,bd,aF,aj,nub,has,inner,aH,ay,ar,m43k0,f1.a,f2.a,f3.a,f4.a,f5.a,f6.a,f7.a]) (by simp only[bA.u,seval,aQ,aD,bd,aF,aj,nub,has,inner,aH,ay,ar,m43k0,f1.a,f2.a,f3.a,f4.a,f5.a,f6.a,f7.a]) (by simp only[bA.u,seval,aQ,aD,bd,aF,aj,nub,has,inner,aH,ay,ar,m43k0,f1.a,f2.a,f3.a,f4.a,f5.a,f6.a,f7.a])))))
theorem DM (b:Bool) (a0 a1 a4 a5 a6:Int) (ca:Bool) (pa us:Int) (iss sub key alt per exc sig:MV) (f1:Fs iss) (f2:Fs sub) (f3:Fs key) (f4:Fs alt) (f5:Fs per) (f6:Fs exc) (f7:Fs sig) (w:List UInt8) (n:Int) (hn:(w.length:Int)=n):ax 2 [] (RunL Q m43k0 m43b0 [.blk 1,.blk 0] ⟨[(1,.ptr 1 0),(75,.bs w),(76,.int .i64 w.length),(77,.int .i64 n)],[],[(0,.cells [.bool b]),(1,.cells [.int .i64 a0,.int .i64 a1,iss,sub,.int .i64 a4,.int .i64 a5,.int .i64 a6,key,.bool ca,.int .i64 pa,.int .i64 us,alt,per,exc,sig])],3⟩)=some (.tup [],[some (.cells [.bool b]),some (.cells [.int .i64 a0,.int .i64 a1,iss,sub,.int .i64 a4,.int .i64 a5,.int .i64 a6,key,.bool ca,.int .i64 pa,.int .i64 us,alt,per,exc,sig])]):=by
 subst hn
 have hlt:decide ((w.length:Int)<(w.length:Int))=false:=by simp
 obtain⟨b',hb'⟩:∃b',b'=m43b0:=⟨_,rfl⟩
 rw[ah,show Item.lp m43k0 m43b0=Item.lp m43k0 b' by rw[hb']]
 apply ae;intro rhs hrhs
 simp(maxSteps:=4000000)(disch:=first|exact dz|fail)only[bB.u,seval,cut,m43b0,hlt,f1.a,f2.a,f3.a,f4.a,f5.a,f6.a,f7.a,ag,aj]
 repeat'((with_reducible first|refine sp ?_ ?_|fail)<;>intro hx<;>(try simp only[bI.u]at hx)<;>(first|exact xz|(try simp(maxSteps:=4000000)(disch:=first|exact dz|fail)only[bB.u,seval,cut,hx,m43b0,hlt,f1.a,f2.a,f3.a,f4.a,f5.a,f6.a,f7.a,ag,aj])))
 all_goals first|exact xz|(subst hrhs;rfl)
theorem FU (u:UInt8) (w:List UInt8) (hl:w.length<2^60) (b:Bool):CallH Q 79 [.ptr 0 0,.agg [.int .i64 0,.int .i64 3,.bool false,.bs (u::w),.nilsl]] [.cells [.bool b]]=some (.bs w,[some (.cells [.bool b])]):=by
 have h1:(((w.length+1:Nat):Int)==0)=false:=by rw[beq_eq_false_iff_ne];omega
 have h2:List.take (((w.length:Int)+1).toNat-1) w=w:=List.take_of_length_le (by omega)
 have h3:(1:Int)≤(w.length:Int)+1:=by omega
 rw[aC Q (m:=m79) rfl]
 apply ae;intro rhs hrhs
 simp(maxSteps:=4000000)(disch:=first|exact dz|fail)only[bB.u,seval,cut,m79,h1,h2,h3,List.drop_succ_cons,List.drop_zero,Int.natCast_add,Int.cast_ofNat_Int,Nat.add_sub_cancel,ag,aj]
 repeat'((with_reducible first|refine sp ?_ ?_|fail)<;>intro hx<;>(try simp only[bI.u]at hx)<;>(first|exact xz|(try simp(maxSteps:=4000000)(disch:=first|exact dz|fail)only[bB.u,seval,cut,hx,m79,h1,h2,h3,List.drop_succ_cons,List.drop_zero,Int.natCast_add,Int.cast_ofNat_Int,Nat.add_sub_cancel,ag,aj])))
 all_goals first|exact xz|(subst hrhs;rfl)
theorem HY (bs:List UInt8) (b:Bool) (u:UInt8) (w:List UInt8) (hl:w.length<2^60) (hr:Call Q 77 [.bs bs]=some (.tup [.agg [.int .i64 0,.int .i64 3,.bool false,.bs (u::w),.nilsl],.int .i64 0])) (a0 a1 a4 a5 a6:Int) (ca:Bool) (pa us:Int) (iss sub key alt per exc sig:MV) (f1:Fs iss) (f2:Fs sub) (f3:Fs key) (f4:Fs alt) (f5:Fs per) (f6:Fs exc) (f7:Fs sig) (r:MV × List (Option Obj)) (loop:ax 2 [] (RunL Q m43k0 m43b0 [.blk 1,.blk 0] ⟨[(1,.ptr 1 0),(75,.bs w),(76,.int .i64 w.length),(77,.int .i64 0)],[],[(0,.cells [.bool b]),(1,.cells [.int .i64 a0,.int .i64 a1,iss,sub,.int .i64 a4,.int .i64 a5,.int .i64 a6,key,.bool ca,.int .i64 pa,.int .i64 us,alt,per,exc,sig])],3⟩)=some r):CallH Q 43 [.ptr 0 0,.ptr 1 0,.agg [.int .i64 0,.int .i64 16,.bool true,.nilsl,.sl 5 [.agg [.int .i64 0,.int .i64 6,.bool false,.bs [85,29,15],.nilsl],.agg [.int .i64 0,.int .i64 1,.bool false,.bs [255],.nilsl],.agg [.int .i64 0,.int .i64 4,.bool false,.bs bs,.nilsl]]]] [.cells [.bool b],.cells [.int .i64 a0,.int .i64 a1,iss,sub,.int .i64 a4,.int .i64 a5,.int .i64 a6,key,.bool ca,.int .i64 pa,.int .i64 us,alt,per,exc,sig]]=some r:=by
 have hk:=df [.agg [.int .i64 0,.int .i64 6,.bool false,.bs [85,29,15],.nilsl],.agg [.int .i64 0,.int .i64 1,.bool false,.bs [255],.nilsl],.agg [.int .i64 0,.int .i64 4,.bool false,.bs bs,.nilsl]] (by simp) 2 3 (by simp) (by simp) b
 simp only[List.cons_append,List.nil_append]at hk
 generalize List.replicate 10 zV=q at hk
 have hi:=FU u w hl b
 rw[aC Q (m:=m43) rfl]
 apply ae;intro rhs hrhs
 simp(maxSteps:=4000000)(disch:=first|exact dz|fail)only[bB.u,seval,cut,m43,hk,hr,HU,hi,aq,f1.a,f2.a,f3.a,f4.a,f5.a,f6.a,f7.a,ag,aj]
 repeat'((with_reducible first|refine sp ?_ ?_|fail)<;>intro hx<;>(try simp only[bI.u]at hx)<;>(first|exact xz|(try simp(maxSteps:=4000000)(disch:=first|exact dz|fail)only[bB.u,seval,cut,hx,m43,hk,hr,HU,hi,aq,f1.a,f2.a,f3.a,f4.a,f5.a,f6.a,f7.a,ag,aj])))
 all_goals first|exact xz|(subst hrhs;exact(congrArg (ax _ _) (af (canon_cong (by simp only[bA.u,seval,aQ,aD,bd,aF,aj,nub,has,inner,aH,ay,ar,m43k0,f1.a,f2.a,f3.a,f4.a,f5.a,f6.a,f7.a]) (by simp only[bA.u,seval,aQ,aD,bd,aF,aj,nub,has,inner,aH,ay,ar,m43k0,f1.a,f2.a,f3.a,f4.a,f5.a,f6.a,f7.a]) (by simp only[bA.u,seval,aQ,aD,bd,aF,aj,nub,has,inner,aH,ay,ar,m43k0,f1.a,f2.a,f3.a,f4.a,f5.a,f6.a,f7.a])))).trans loop)
theorem dB (l:List MV):Fs (.sl 5 l):=⟨fun _=>rfl,rfl,rfl,rfl,rfl,fun _=>rfl,fun _=>rfl⟩
theorem Bv (b:Bool) (a0 a1 a4 a5 a6:Int) (ca:Bool) (pa us:Int) (iss sub key alt per exc sig:MV) (f1:Fs iss) (f2:Fs sub) (f3:Fs key) (f4:Fs alt) (f5:Fs per) (f6:Fs exc) (f7:Fs sig) (l:List MV) (hll:l.length≤2) (i:Nat) (gl:List MV) (hg:l[i]? = some (.agg [.int .i64 2,.int .i64 0,.bool true,.nilsl,.sl 5 gl])) (gv:List MV) (b1:Bool) (hc:CallH Q 63 [.ptr 0 0,.sl 5 gl,.bool true] [.cells [.bool b]]=some (.sl 3 gv,[some (.cells [.bool b1])])):ax 2 [] (RunL Q m43k1 m43b1 [.blk 3,.blk 0] ⟨[(0,.ptr 0 0),(1,.ptr 1 0),(119,.sl 5 l),(120,.int .i64 l.length),(121,.int .i64 i)],[],[(0,.cells [.bool b]),(1,.cells [.int .i64 a0,.int .i64 a1,iss,sub,.int .i64 a4,.int .i64 a5,.int .i64 a6,key,.bool ca,.int .i64 pa,.int .i64 us,alt,per,exc,sig])],3⟩)=ax 2 [] (RunL Q m43k1 m43b1 [.blk 3,.blk 0] ⟨[(0,.ptr 0 0),(1,.ptr 1 0),(119,.sl 5 l),(120,.int .i64 l.length),(121,.int .i64 (i+1))],[],[(0,.cells [.bool b1]),(1,.cells [.int .i64 a0,.int .i64 a1,iss,sub,.int .i64 a4,.int .i64 a5,.int .i64 a6,key,.bool ca,.int .i64 pa,.int .i64 us,alt,.sl 3 gv,exc,sig])],3⟩):=by
 obtain⟨hi,hxx⟩:=List.getElem?_eq_some_iff.1 hg
 have hlt:decide ((i:Int)<(l.length:Int))=true:=by simp;omega
 have i1:(i:Int)<(l.length:Int):=by omega
 have hA:Call Q 42 [.agg [.int .i64 2,.int .i64 0,.bool true,.nilsl,.sl 5 gl],.int .i64 0]=some (.tup [.sl 5 gl,.bool true]):=fN 2 0 true .nilsl (.sl 5 gl) aV (dB gl) 0 (.inr ⟨gl,rfl⟩)
 have hB:Call Q 42 [.agg [.int .i64 2,.int .i64 0,.bool true,.nilsl,.sl 5 gl],.int .i64 1]=some (.tup [.sl 5 gl,.bool false]):=fN 2 0 true .nilsl (.sl 5 gl) aV (dB gl) 1 (.inr ⟨gl,rfl⟩)
 obtain⟨b',hb'⟩:∃b',b'=m43b1:=⟨_,rfl⟩
 rw[ah,show Item.lp m43k1 m43b1=Item.lp m43k1 b' by rw[hb']]
 apply ae;intro rhs hrhs
 simp(maxSteps:=4000000)(disch:=first|exact dz|fail)only[bB.u,seval,cut,m43b1,hlt,i1,hg,hA,hB,hc,f1.a,f2.a,f3.a,f4.a,f5.a,f6.a,f7.a,ag,aj]
 repeat'((with_reducible first|refine sp ?_ ?_|fail)<;>intro hx<;>(try simp only[bI.u]at hx)<;>(first|exact xz|(try simp(maxSteps:=4000000)(disch:=first|exact dz|fail)only[bB.u,seval,cut,hx,m43b1,hlt,i1,hg,hA,hB,hc,f1.a,f2.a,f3.a,f4.a,f5.a,f6.a,f7.a,ag,aj])))
 all_goals first|exact xz|(subst hrhs;(subst hb';refine(congrArg (ax _ _) (aA Q _ _ _ _)).trans ?_;exact congrArg (ax 2 []) (af (canon_cong (by simp only[bA.u,seval,aQ,aD,bd,aF,aj,nub,has,inner,aH,ay,ar,m43k1,f1.a,f2.a,f3.a,f4.a,f5.a,f6.a,f7.a]) (by simp only[bA.u,seval,aQ,aD,bd,aF,aj,nub,has,inner,aH,ay,ar,m43k1,f1.a,f2.a,f3.a,f4.a,f5.a,f6.a,f7.a]) (by simp only[bA.u,seval,aQ,aD,bd,aF,aj,nub,has,inner,aH,ay,ar,m43k1,f1.a,f2.a,f3.a,f4.a,f5.a,f6.a,f7.a])))))
theorem Bw (b:Bool) (a0 a1 a4 a5 a6:Int) (ca:Bool) (pa us:Int) (iss sub key alt per exc sig:MV) (f1:Fs iss) (f2:Fs sub) (f3:Fs key) (f4:Fs alt) (f5:Fs per) (f6:Fs exc) (f7:Fs sig) (l:List MV) (hll:l.length≤2) (i:Nat) (gl:List MV) (hg:l[i]? = some (.agg [.int .i64 2,.int .i64 1,.bool true,.nilsl,.sl 5 gl])) (gv:List MV) (b1:Bool) (hc:CallH Q 63 [.ptr 0 0,.sl 5 gl,.bool true] [.cells [.bool b]]=some (.sl 3 gv,[some (.cells [.bool b1])])):ax 2 [] (RunL Q m43k1 m43b1 [.blk 3,.blk 0] ⟨[(0,.ptr 0 0),(1,.ptr 1 0),(119,.sl 5 l),(120,.int .i64 l.length),(121,.int .i64 i)],[],[(0,.cells [.bool b]),(1,.cells [.int .i64 a0,.int .i64 a1,iss,sub,.int .i64 a4,.int .i64 a5,.int .i64 a6,key,.bool ca,.int .i64 pa,.int .i64 us,alt,per,exc,sig])],3⟩)=ax 2 [] (RunL Q m43k1 m43b1 [.blk 3,.blk 0] ⟨[(0,.ptr 0 0),(1,.ptr 1 0),(119,.sl 5 l),(120,.int .i64 l.length),(121,.int .i64 (i+1))],[],[(0,.cells [.bool b1]),(1,.cells [.int .i64 a0,.int .i64 a1,iss,sub,.int .i64 a4,.int .i64 a5,.int .i64 a6,key,.bool ca,.int .i64 pa,.int .i64 us,alt,per,.sl 3 gv,sig])],3⟩):=by
 obtain⟨hi,hxx⟩:=List.getElem?_eq_some_iff.1 hg
 have hlt:decide ((i:Int)<(l.length:Int))=true:=by simp;omega
 have i1:(i:Int)<(l.length:Int):=by omega
 have hA:Call Q 42 [.agg [.int .i64 2,.int .i64 1,.bool true,.nilsl,.sl 5 gl],.int .i64 0]=some (.tup [.sl 5 gl,.bool false]):=fN 2 1 true .nilsl (.sl 5 gl) aV (dB gl) 0 (.inr ⟨gl,rfl⟩)
 have hB:Call Q 42 [.agg [.int .i64 2,.int .i64 1,.bool true,.nilsl,.sl 5 gl],.int .i64 1]=some (.tup [.sl 5 gl,.bool true]):=fN 2 1 true .nilsl (.sl 5 gl) aV (dB gl) 1 (.inr ⟨gl,rfl⟩)
 obtain⟨b',hb'⟩:∃b',b'=m43b1:=⟨_,rfl⟩
 rw[ah,show Item.lp m43k1 m43b1=Item.lp m43k1 b' by rw[hb']]
 apply ae;intro rhs hrhs
 simp(maxSteps:=4000000)(disch:=first|exact dz|fail)only[bB.u,seval,cut,m43b1,hlt,i1,hg,hA,hB,hc,f1.a,f2.a,f3.a,f4.a,f5.a,f6.a,f7.a,ag,aj]
 repeat'((with_reducible first|refine sp ?_ ?_|fail)<;>intro hx<;>(try simp only[bI.u]at hx)<;>(first|exact xz|(try simp(maxSteps:=4000000)(disch:=first|exact dz|fail)only[bB.u,seval,cut,hx,m43b1,hlt,i1,hg,hA,hB,hc,f1.a,f2.a,f3.a,f4.a,f5.a,f6.a,f7.a,ag,aj])))
 all_goals first|exact xz|(subst hrhs;(subst hb';refine(congrArg (ax _ _) (aA Q _ _ _ _)).trans ?_;exact congrArg (ax 2 []) (af (canon_cong (by simp only[bA.u,seval,aQ,aD,bd,aF,aj,nub,has,inner,aH,ay,ar,m43k1,f1.a,f2.a,f3.a,f4.a,f5.a,f6.a,f7.a]) (by simp only[bA.u,seval,aQ,aD,bd,aF,aj,nub,has,inner,aH,ay,ar,m43k1,f1.a,f2.a,f3.a,f4.a,f5.a,f6.a,f7.a]) (by simp only[bA.u,seval,aQ,aD,bd,aF,aj,nub,has,inner,aH,ay,ar,m43k1,f1.a,f2.a,f3.a,f4.a,f5.a,f6.a,f7.a])))))
theorem zp (b:Bool) (a0 a1 a4 a5 a6:Int) (ca:Bool) (pa us:Int) (iss sub key alt per exc sig:MV) (f1:Fs iss) (f2:Fs sub) (f3:Fs key) (f4:Fs alt) (f5:Fs per) (f6:Fs exc) (f7:Fs sig) (l:List MV):ax 2 [] (RunL Q m43k1 m43b1 [.blk 3,.blk 0] ⟨[(0,.ptr 0 0),(1,.ptr 1 0),(119,.sl 5 l),(120,.int .i64 l.length),(121,.int .i64 l.length)],[],[(0,.cells [.bool b]),(1,.cells [.int .i64 a0,.int .i64 a1,iss,sub,.int .i64 a4,.int .i64 a5,.int .i64 a6,key,.bool ca,.int .i64 pa,.int .i64 us,alt,per,exc,sig])],3⟩)=some (.tup [],[some (.cells [.bool b]),some (.cells [.int .i64 a0,.int .i64 a1,iss,sub,.int .i64 a4,.int .i64 a5,.int .i64 a6,key,.bool ca,.int .i64 pa,.int .i64 us,alt,per,exc,sig])]):=by
 have hlt:decide ((l.length:Int)<(l.length:Int))=false:=by simp
 obtain⟨b',hb'⟩:∃b',b'=m43b1:=⟨_,rfl⟩
 rw[ah,show Item.lp m43k1 m43b1=Item.lp m43k1 b' by rw[hb']]
 apply ae;intro rhs hrhs
 simp(maxSteps:=4000000)(disch:=first|exact dz|fail)only[bB.u,seval,cut,m43b1,hlt,f1.a,f2.a,f3.a,f4.a,f5.a,f6.a,f7.a,ag,aj]
 repeat'((with_reducible first|refine sp ?_ ?_|fail)<;>intro hx<;>(try simp only[bI.u]at hx)<;>(first|exact xz|(try simp(maxSteps:=4000000)(disch:=first|exact dz|fail)only[bB.u,seval,cut,hx,m43b1,hlt,f1.a,f2.a,f3.a,f4.a,f5.a,f6.a,f7.a,ag,aj])))
 all_goals first|exact xz|(subst hrhs;rfl)
theorem Dj (bs:List UInt8) (b:Bool) (l:List MV) (hl:1≤l.length∧l.length≤2) (hr:Call Q 77 [.bs bs]=some (.tup [.agg [.int .i64 0,.int .i64 16,.bool true,.nilsl,.sl 5 l],.int .i64 0])) (a0 a1 a4 a5 a6:Int) (ca:Bool) (pa us:Int) (iss sub key alt per exc sig:MV) (f1:Fs iss) (f2:Fs sub) (f3:Fs key) (f4:Fs alt) (f5:Fs per) (f6:Fs exc) (f7:Fs sig) (r:MV × List (Option Obj)) (loop:ax 2 [] (RunL Q m43k1 m43b1 [.blk 3,.blk 0] ⟨[(0,.ptr 0 0),(1,.ptr 1 0),(119,.sl 5 l),(120,.int .i64 l.length),(121,.int .i64 0)],[],[(0,.cells [.bool b]),(1,.cells [.int .i64 a0,.int .i64 a1,iss,sub,.int .i64 a4,.int .i64 a5,.int .i64 a6,key,.bool ca,.int .i64 pa,.int .i64 us,alt,per,exc,sig])],3⟩)=some r):CallH Q 43 [.ptr 0 0,.ptr 1 0,.agg [.int .i64 0,.int .i64 16,.bool true,.nilsl,.sl 5 [.agg [.int .i64 0,.int .i64 6,.bool false,.bs [85,29,30],.nilsl],.agg [.int .i64 0,.int .i64 1,.bool false,.bs [255],.nilsl],.agg [.int .i64 0,.int .i64 4,.bool false,.bs bs,.nilsl]]]] [.cells [.bool b],.cells [.int .i64 a0,.int .i64 a1,iss,sub,.int .i64 a4,.int .i64 a5,.int .i64 a6,key,.bool ca,.int .i64 pa,.int .i64 us,alt,per,exc,sig]]=some r:=by
 have hk:=df [.agg [.int .i64 0,.int .i64 6,.bool false,.bs [85,29,30],.nilsl],.agg [.int .i64 0,.int .i64 1,.bool false,.bs [255],.nilsl],.agg [.int .i64 0,.int .i64 4,.bool false,.bs bs,.nilsl]] (by simp) 2 3 (by simp) (by simp) b
 simp only[List.cons_append,List.nil_append]at hk
 generalize List.replicate 10 zV=q at hk
 have hi:=df l (by omega) 1 2 (by omega) (by omega) b
 have ht:List.take (l.length-0) (l++List.replicate 10 zV)=l:=List.take_left' rfl
 have hm:l.length≤(l++List.replicate 10 zV).length:=by simp
 generalize l++List.replicate 10 zV=q2 at *
 rw[aC Q (m:=m43) rfl]
 apply ae;intro rhs hrhs
 simp(maxSteps:=4000000)(disch:=first|exact dz|fail)only[bB.u,seval,cut,m43,hk,hr,HW,hi,ht,hm,aq,f1.a,f2.a,f3.a,f4.a,f5.a,f6.a,f7.a,ag,aj]
 repeat'((with_reducible first|refine sp ?_ ?_|fail)<;>intro hx<;>(try simp only[bI.u]at hx)<;>(first|exact xz|(try simp(maxSteps:=4000000)(disch:=first|exact dz|fail)only[bB.u,seval,cut,hx,m43,hk,hr,HW,hi,ht,hm,aq,f1.a,f2.a,f3.a,f4.a,f5.a,f6.a,f7.a,ag,aj])))
 all_goals first|exact xz|(subst hrhs;exact(congrArg (ax _ _) (af (canon_cong (by simp only[bA.u,seval,aQ,aD,bd,aF,aj,nub,has,inner,aH,ay,ar,m43k1,f1.a,f2.a,f3.a,f4.a,f5.a,f6.a,f7.a]) (by simp only[bA.u,seval,aQ,aD,bd,aF,aj,nub,has,inner,aH,ay,ar,m43k1,f1.a,f2.a,f3.a,f4.a,f5.a,f6.a,f7.a]) (by simp only[bA.u,seval,aQ,aD,bd,aF,aj,nub,has,inner,aH,ay,ar,m43k1,f1.a,f2.a,f3.a,f4.a,f5.a,f6.a,f7.a])))).trans loop)
def R_p:List (Nat × Option (Bool × Nat) × PK):=[(8,some (true,15),.other)]
def p_tail:MCode:=.seq (.rg [oT 86 (.load true 15 (.v 9)),oN (.store 15 (.v 8) (.t 86))]) .ret
theorem IV (b:Bool) (a0 a1 a4 a5 a6:Int) (ca:Bool) (pa us:Int) (iss sub key alt per exc sig:MV) (f1:Fs iss) (f2:Fs sub) (f3:Fs key) (f4:Fs alt) (f5:Fs per) (f6:Fs exc) (f7:Fs sig) (ca2:Bool) (pa2 us2:Int) (alt2 per2 exc2:MV) (g4:Fs alt2) (g5:Fs per2) (g6:Fs exc2) (l:List MV) (hl:l.length≤2^30) (i:Nat) (el:List MV) (hg:l[i]? = some (.agg [.int .i64 0,.int .i64 16,.bool true,.nilsl,.sl 5 el])) (hc:CallH Q 43 [.ptr 0 0,.ptr 1 0,.agg [.int .i64 0,.int .i64 16,.bool true,.nilsl,.sl 5 el]] [.cells [.bool b],.cells [.int .i64 a0,.int .i64 a1,iss,sub,.int .i64 a4,.int .i64 a5,.int .i64 a6,key,.bool ca,.int .i64 pa,.int .i64 us,alt,per,exc,sig]]=some (.tup [],[some (.cells [.bool b]),some (.cells [.int .i64 a0,.int .i64 a1,iss,sub,.int .i64 a4,.int .i64 a5,.int .i64 a6,key,.bool ca2,.int .i64 pa2,.int .i64 us2,alt2,per2,exc2,sig])])):ax 1 R_p (RunL Q m36k0 m36b0 [.blk 0,.code p_tail] ⟨[(0,.ptr 0 0),(8,.ptr 1 0),(9,.ptr 2 0),(76,.sl 5 l),(77,.int .i64 l.length),(78,.int .i64 i)],[],[(0,.cells [.bool b]),(1,.cells [.int .i64 0,.int .i64 0,.nilsl,.nilsl,.int .i64 0,.int .i64 0,.int .i64 0,.nilsl,.bool false,.int .i64 0,.int .i64 0,.nilsl,.nilsl,.nilsl,.nilsl]),(2,.cells [.int .i64 a0,.int .i64 a1,iss,sub,.int .i64 a4,.int .i64 a5,.int .i64 a6,key,.bool ca,.int .i64 pa,.int .i64 us,alt,per,exc,sig])],4⟩)=ax 1 R_p (RunL Q m36k0 m36b0 [.blk 0,.code p_tail] ⟨[(0,.ptr 0 0),(8,.ptr 1 0),(9,.ptr 2 0),(76,.sl 5 l),(77,.int .i64 l.length),(78,.int .i64 (i+1))],[],[(0,.cells [.bool b]),(1,.cells [.int .i64 0,.int .i64 0,.nilsl,.nilsl,.int .i64 0,.int .i64 0,.int .i64 0,.nilsl,.bool false,.int .i64 0,.int .i64 0,.nilsl,.nilsl,.nilsl,.nilsl]),(2,.cells [.int .i64 a0,.int .i64 a1,iss,sub,.int .i64 a4,.int .i64 a5,.int .i64 a6,key,.bool ca2,.int .i64 pa2,.int .i64 us2,alt2,per2,exc2,sig])],4⟩):=by
 obtain⟨hi,hxx⟩:=List.getElem?_eq_some_iff.1 hg
 have hlt:decide ((i:Int)<(l.length:Int))=true:=by simp;omega
 have i1:(i:Int)<(l.length:Int):=by omega
 obtain⟨b',hb'⟩:∃b',b'=m36b0:=⟨_,rfl⟩
 rw[ah,show Item.lp m36k0 m36b0=Item.lp m36k0 b' by rw[hb']]
 apply ae;intro rhs hrhs
 simp(maxSteps:=4000000)(disch:=first|exact dz|fail)only[bB.u,seval,cut,m36b0,hlt,i1,hg,hc,g4.a,g5.a,g6.a,f1.a,f2.a,f3.a,f4.a,f5.a,f6.a,f7.a,ag,aj]
 repeat'((with_reducible first|refine sp ?_ ?_|fail)<;>intro hx<;>(try simp only[bI.u]at hx)<;>(first|exact xz|(try simp(maxSteps:=4000000)(disch:=first|exact dz|fail)only[bB.u,seval,cut,hx,m36b0,hlt,i1,hg,hc,g4.a,g5.a,g6.a,f1.a,f2.a,f3.a,f4.a,f5.a,f6.a,f7.a,ag,aj])))
 all_goals first|exact xz|(subst hrhs;(subst hb';refine(congrArg (ax _ _) (aA Q _ _ _ _)).trans ?_;exact congrArg (ax 1 R_p) (af (canon_cong (by simp only[bA.u,seval,aQ,aD,bd,aF,aj,nub,has,inner,aH,ay,ar,m36k0,f1.a,f2.a,f3.a,f4.a,f5.a,f6.a,f7.a,g4.a,g5.a,g6.a]) (by simp only[bA.u,seval,aQ,aD,bd,aF,aj,nub,has,inner,aH,ay,ar,m36k0,f1.a,f2.a,f3.a,f4.a,f5.a,f6.a,f7.a,g4.a,g5.a,g6.a]) (by simp only[bA.u,seval,aQ,aD,bd,aF,aj,nub,has,inner,aH,ay,ar,m36k0,f1.a,f2.a,f3.a,f4.a,f5.a,f6.a,f7.a,g4.a,g5.a,g6.a])))))
theorem p_end (b:Bool) (a0 a1 a4 a5 a6:Int) (ca:Bool) (pa us:Int) (iss sub key alt per exc sig:MV) (f1:Fs iss) (f2:Fs sub) (f3:Fs key) (f4:Fs alt) (f5:Fs per) (f6:Fs exc) (f7:Fs sig) (l:List MV) (i:Nat) (hi:l.length≤i):ax 1 R_p (RunL Q m36k0 m36b0 [.blk 0,.code p_tail] ⟨[(0,.ptr 0 0),(8,.ptr 1 0),(9,.ptr 2 0),(76,.sl 5 l),(77,.int .i64 l.length),(78,.int .i64 i)],[],[(0,.cells [.bool b]),(1,.cells [.int .i64 0,.int .i64 0,.nilsl,.nilsl,.int .i64 0,.int .i64 0,.int .i64 0,.nilsl,.bool false,.int .i64 0,.int .i64 0,.nilsl,.nilsl,.nilsl,.nilsl]),(2,.cells [.int .i64 a0,.int .i64 a1,iss,sub,.int .i64 a4,.int .i64 a5,.int .i64 a6,key,.bool ca,.int .i64 pa,.int .i64 us,alt,per,exc,sig])],4⟩)=some (.agg [.int .i64 a0,.int .i64 a1,iss,sub,.int .i64 a4,.int .i64 a5,.int .i64 a6,key,.bool ca,.int .i64 pa,.int .i64 us,alt,per,exc,sig],[some (.cells [.bool b])]):=by
 have hlt:decide ((i:Int)<(l.length:Int))=false:=by simp;omega
 obtain⟨b',hb'⟩:∃b',b'=m36b0:=⟨_,rfl⟩
 rw[ah,show Item.lp m36k0 m36b0=Item.lp m36k0 b' by rw[hb']]
 apply ae;intro rhs hrhs
 simp(maxSteps:=4000000)(disch:=first|exact dz|fail)only[bB.u,seval,cut,m36b0,hlt,R_p,p_tail,f1.a,f2.a,f3.a,f4.a,f5.a,f6.a,f7.a,ag,aj]
 repeat'((with_reducible first|refine sp ?_ ?_|fail)<;>intro hx<;>(try simp only[bI.u]at hx)<;>(first|exact xz|(try simp(maxSteps:=4000000)(disch:=first|exact dz|fail)only[bB.u,seval,cut,hx,m36b0,hlt,R_p,p_tail,f1.a,f2.a,f3.a,f4.a,f5.a,f6.a,f7.a,ag,aj])))
 all_goals first|exact xz|(subst hrhs;rfl)
theorem FV (b:Bool) (ca ta:Int) (ma:Bool) (wa ka:MV) (hwa:Fs wa) (hka:Fs ka) (cb tb:Int) (mb:Bool) (wb kb:MV) (hwb:Fs wb) (hkb:Fs kb) (cc tc:Int) (mc:Bool) (wc kc:MV) (hwc:Fs wc) (hkc:Fs kc) (cd td:Int) (md:Bool) (wd kd:MV) (hwd:Fs wd) (hkd:Fs kd) (ce te:Int) (me:Bool) (we ke:MV) (hwe:Fs we) (hke:Fs ke) (cf tf:Int) (mf:Bool) (wf kf:MV) (hwf:Fs wf) (hkf:Fs kf) (cg tg:Int) (mg:Bool) (wg kg:MV) (hwg:Fs wg) (hkg:Fs kg) (sn sc f0 f1 ks:Int) (d1 d2 q q4:List MV) (kby sg:List UInt8) (h1:CallH Q 37 [.ptr 0 0,.agg [.int .i64 ca,.int .i64 ta,.bool ma,wa,ka]] [.cells [.bool b]]=some (.int .i64 sn,[some (.cells [.bool b])])) (h2:CallH Q 38 [.ptr 0 0,.agg [.int .i64 cb,.int .i64 tb,.bool mb,wb,kb]] [.cells [.bool b]]=some (.sl 2 d1,[some (.cells [.bool b])])) (h3:CallH Q 38 [.ptr 0 0,.agg [.int .i64 cd,.int .i64 td,.bool md,wd,kd]] [.cells [.bool b]]=some (.sl 2 d2,[some (.cells [.bool b])])) (h4:CallH Q 39 [.ptr 0 0,.agg [.int .i64 cc,.int .i64 tc,.bool mc,wc,kc],.int .i64 2,.int .i64 2] [.cells [.bool b]]=some (.sl 5 (.agg [.int .i64 cf,.int .i64 tf,.bool mf,wf,kf]:: .agg [.int .i64 cg,.int .i64 tg,.bool mg,wg,kg]::q4),[some (.cells [.bool b])])) (h5:CallH Q 40 [.ptr 0 0,.agg [.int .i64 cf,.int .i64 tf,.bool mf,wf,kf]] [.cells [.bool b]]=some (.int .i64 f0,[some (.cells [.bool b])])) (h6:CallH Q 40 [.ptr 0 0,.agg [.int .i64 cg,.int .i64 tg,.bool mg,wg,kg]] [.cells [.bool b]]=some (.int .i64 f1,[some (.cells [.bool b])])) (h7:CallH Q 41 [.ptr 0 0,.agg [.int .i64 ce,.int .i64 te,.bool me,we,ke]] [.cells [.bool b]]=some (.tup [.int .i64 ks,.bs kby],[some (.cells [.bool b])])) (v0 v2:MV):CallH Q 36 [.ptr 0 0,.sl 5 (v0:: .agg [.int .i64 ca,.int .i64 ta,.bool ma,wa,ka]::v2:: .agg [.int .i64 cb,.int .i64 tb,.bool mb,wb,kb]:: .agg [.int .i64 cc,.int .i64 tc,.bool mc,wc,kc]:: .agg [.int .i64 cd,.int .i64 td,.bool md,wd,kd]:: .agg [.int .i64 ce,.int .i64 te,.bool me,we,ke]::zV::q),.int .i64 sc,.bs sg] [.cells [.bool b]]=some (.agg [.int .i64 sn,.int .i64 sc,.sl 2 d1,.sl 2 d2,.int .i64 f0,.int .i64 f1,.int .i64 ks,.bs kby,.bool false,.int .i64 (-1),.int .i64 0,.nilsl,.nilsl,.nilsl,.bs sg],[some (.cells [.bool b])]):=by
 have h8:Call Q 42 [zV,.int .i64 3]=some (.tup [.sl 5 [],.bool false]):=fN 0 0 false .nilsl .nilsl aV aV 3 (.inl rfl)
 unfold zV at h8 ⊢
 rw[aC Q (m:=m36) rfl]
 apply ae;intro rhs hrhs
 simp(maxSteps:=4000000) (disch:=first|omega|exact aI (by(try simp only[bB.u,seval,cut,hwa.a,hka.a,hwb.a,hkb.a,hwc.a,hkc.a,hwd.a,hkd.a,hwe.a,hke.a,hwf.a,hkf.a,hwg.a,hkg.a]);kernel_rfl)|decide) only[bB.u,seval,cut,m36,h1,h2,h3,h4,h5,h6,h7,h8,hwa.a,hka.a,hwb.a,hkb.a,hwc.a,hkc.a,hwd.a,hkd.a,hwe.a,hke.a,hwf.a,hkf.a,hwg.a,hkg.a,ag,aj]
 repeat'((with_reducible first|refine sp ?_ ?_|fail)<;>intro hx<;>(try simp only[bI.u]at hx)<;>(first|exact xz|(try simp(maxSteps:=4000000) (disch:=first|omega|exact aI (by(try simp only[bB.u,seval,cut,hwa.a,hka.a,hwb.a,hkb.a,hwc.a,hkc.a,hwd.a,hkd.a,hwe.a,hke.a,hwf.a,hkf.a,hwg.a,hkg.a]);kernel_rfl)|decide) only[bB.u,seval,cut,hx,m36,h1,h2,h3,h4,h5,h6,h7,h8,hwa.a,hka.a,hwb.a,hkb.a,hwc.a,hkc.a,hwd.a,hkd.a,hwe.a,hke.a,hwf.a,hkf.a,hwg.a,hkg.a,ag,aj])))
 all_goals first|exact xz|(subst hrhs;rfl)
theorem FW (b:Bool) (ca ta:Int) (ma:Bool) (wa ka:MV) (hwa:Fs wa) (hka:Fs ka) (cb tb:Int) (mb:Bool) (wb kb:MV) (hwb:Fs wb) (hkb:Fs kb) (cc tc:Int) (mc:Bool) (wc kc:MV) (hwc:Fs wc) (hkc:Fs kc) (cd td:Int) (md:Bool) (wd kd:MV) (hwd:Fs wd) (hkd:Fs kd) (ce te:Int) (me:Bool) (we ke:MV) (hwe:Fs we) (hke:Fs ke) (cf tf:Int) (mf:Bool) (wf kf:MV) (hwf:Fs wf) (hkf:Fs kf) (cg tg:Int) (mg:Bool) (wg kg:MV) (hwg:Fs wg) (hkg:Fs kg) (sn sc f0 f1 ks:Int) (d1 d2 q q4:List MV) (kby sg:List UInt8) (h1:CallH Q 37 [.ptr 0 0,.agg [.int .i64 ca,.int .i64 ta,.bool ma,wa,ka]] [.cells [.bool b]]=some (.int .i64 sn,[some (.cells [.bool b])])) (h2:CallH Q 38 [.ptr 0 0,.agg [.int .i64 cb,.int .i64 tb,.bool mb,wb,kb]] [.cells [.bool b]]=some (.sl 2 d1,[some (.cells [.bool b])])) (h3:CallH Q 38 [.ptr 0 0,.agg [.int .i64 cd,.int .i64 td,.bool md,wd,kd]] [.cells [.bool b]]=some (.sl 2 d2,[some (.cells [.bool b])])) (h4:CallH Q 39 [.ptr 0 0,.agg [.int .i64 cc,.int .i64 tc,.bool mc,wc,kc],.int .i64 2,.int .i64 2] [.cells [.bool b]]=some (.sl 5 (.agg [.int .i64 cf,.int .i64 tf,.bool mf,wf,kf]:: .agg [.int .i64 cg,.int .i64 tg,.bool mg,wg,kg]::q4),[some (.cells [.bool b])])) (h5:CallH Q 40 [.ptr 0 0,.agg [.int .i64 cf,.int .i64 tf,.bool mf,wf,kf]] [.cells [.bool b]]=some (.int .i64 f0,[some (.cells [.bool b])])) (h6:CallH Q 40 [.ptr 0 0,.agg [.int .i64 cg,.int .i64 tg,.bool mg,wg,kg]] [.cells [.bool b]]=some (.int .i64 f1,[some (.cells [.bool b])])) (h7:CallH Q 41 [.ptr 0 0,.agg [.int .i64 ce,.int .i64 te,.bool me,we,ke]] [.cells [.bool b]]=some (.tup [.int .i64 ks,.bs kby],[some (.cells [.bool b])])) (v0 v2:MV) (l:List MV) (r:MV × List (Option Obj)) (loop:ax 1 R_p (RunL Q m36k0 m36b0 [.blk 0,.code p_tail] ⟨[(0,.ptr 0 0),(8,.ptr 1 0),(9,.ptr 2 0),(76,.sl 5 l),(77,.int .i64 l.length),(78,.int .i64 0)],[],[(0,.cells [.bool b]),(1,.cells [.int .i64 0,.int .i64 0,.nilsl,.nilsl,.int .i64 0,.int .i64 0,.int .i64 0,.nilsl,.bool false,.int .i64 0,.int .i64 0,.nilsl,.nilsl,.nilsl,.nilsl]),(2,.cells [.int .i64 sn,.int .i64 sc,.sl 2 d1,.sl 2 d2,.int .i64 f0,.int .i64 f1,.int .i64 ks,.bs kby,.bool false,.int .i64 (-1),.int .i64 0,.nilsl,.nilsl,.nilsl,.bs sg])],4⟩)=some r):CallH Q 36 [.ptr 0 0,.sl 5 (v0:: .agg [.int .i64 ca,.int .i64 ta,.bool ma,wa,ka]::v2:: .agg [.int .i64 cb,.int .i64 tb,.bool mb,wb,kb]:: .agg [.int .i64 cc,.int .i64 tc,.bool mc,wc,kc]:: .agg [.int .i64 cd,.int .i64 td,.bool md,wd,kd]:: .agg [.int .i64 ce,.int .i64 te,.bool me,we,ke]:: .agg [.int .i64 2,.int .i64 3,.bool true,.nilsl,.sl 5 [.agg [.int .i64 0,.int .i64 16,.bool true,.nilsl,.sl 5 l]]]::q),.int .i64 sc,.bs sg] [.cells [.bool b]]=some r:=by
 have h8:Call Q 42 [.agg [.int .i64 2,.int .i64 3,.bool true,.nilsl,.sl 5 [.agg [.int .i64 0,.int .i64 16,.bool true,.nilsl,.sl 5 l]]],.int .i64 3]=some (.tup [.sl 5 [.agg [.int .i64 0,.int .i64 16,.bool true,.nilsl,.sl 5 l]],.bool true]):=fN 2 3 true .nilsl (.sl 5 [.agg [.int .i64 0,.int .i64 16,.bool true,.nilsl,.sl 5 l]]) aV (dB _) 3 (.inr ⟨_,rfl⟩)
 rw[aC Q (m:=m36) rfl]
 apply ae;intro rhs hrhs
 simp(maxSteps:=4000000) (disch:=first|omega|exact aI (by(try simp only[bB.u,seval,cut,hwa.a,hka.a,hwb.a,hkb.a,hwc.a,hkc.a,hwd.a,hkd.a,hwe.a,hke.a,hwf.a,hkf.a,hwg.a,hkg.a]);kernel_rfl)|decide) only[bB.u,seval,cut,m36,h1,h2,h3,h4,h5,h6,h7,h8,aq,hwa.a,hka.a,hwb.a,hkb.a,hwc.a,hkc.a,hwd.a,hkd.a,hwe.a,hke.a,hwf.a,hkf.a,hwg.a,hkg.a,ag,aj]
 repeat'((with_reducible first|refine sp ?_ ?_|fail)<;>intro hx<;>(try simp only[bI.u]at hx)<;>(first|exact xz|(try simp(maxSteps:=4000000) (disch:=first|omega|exact aI (by(try simp only[bB.u,seval,cut,hwa.a,hka.a,hwb.a,hkb.a,hwc.a,hkc.a,hwd.a,hkd.a,hwe.a,hke.a,hwf.a,hkf.a,hwg.a,hkg.a]);kernel_rfl)|decide) only[bB.u,seval,cut,hx,m36,h1,h2,h3,h4,h5,h6,h7,h8,aq,hwa.a,hka.a,hwb.a,hkb.a,hwc.a,hkc.a,hwd.a,hkd.a,hwe.a,hke.a,hwf.a,hkf.a,hwg.a,hkg.a,ag,aj])))
 all_goals first|exact xz|(subst hrhs;exact(congrArg (ax _ _) (af (canon_cong kr kr kr))).trans loop)
theorem Dk (a b:List UInt8):Call Q 80 [.bs a,.bs b]=some (.bool (a==b)):=by
 rw[Call_fn Q (m:=m80) rfl rfl]
 apply ae;intro rhs hrhs
 simp(maxSteps:=4000000)(disch:=first|exact dz|fail)only[bB.u,seval,cut,m80]
 repeat'((with_reducible first|refine sp ?_ ?_|fail)<;>intro hx<;>(try simp only[bI.u]at hx)<;>(first|exact xz|(try simp(maxSteps:=4000000)(disch:=first|exact dz|fail)only[bB.u,seval,cut,hx,m80])))
 all_goals first|exact xz|(subst hrhs;rfl)
theorem FX (ca ta:Int) (ma:Bool) (wa ka:MV) (hwa:Fs wa) (hka:Fs ka) (cb tb:Int) (mb:Bool) (wb kb:MV) (hwb:Fs wb) (hkb:Fs kb) (a0 a1 a4 a5 a6 pa us sc:Int) (d1 d2 q2 l:List MV) (cav:Bool) (kby sg sg2 bs:List UInt8) (alt per exc:MV) (f4:Fs alt) (f5:Fs per) (f6:Fs exc) (hl:l.length≤2^30) (h1:Call Q 77 [.bs bs]=some (.tup [.agg [.int .i64 0,.int .i64 16,.bool true,.nilsl,.sl 5 [.agg [.int .i64 0,.int .i64 16,.bool true,.nilsl,.sl 5 l],.agg [.int .i64 ca,.int .i64 ta,.bool ma,wa,ka],.agg [.int .i64 cb,.int .i64 tb,.bool mb,wb,kb]]],.int .i64 0])) (h4:CallH Q 78 [.ptr 0 0,.agg [.int .i64 ca,.int .i64 ta,.bool ma,wa,ka]] [.cells [.bool false]]=some (.int .i64 sc,[some (.cells [.bool false])])) (h5:CallH Q 79 [.ptr 0 0,.agg [.int .i64 cb,.int .i64 tb,.bool mb,wb,kb]] [.cells [.bool false]]=some (.bs sg2,[some (.cells [.bool false])])) (h6:CallH Q 36 [.ptr 0 0,.sl 5 (l++List.replicate 10 zV),.int .i64 sc,.bs sg2] [.cells [.bool false]]=some (.agg [.int .i64 a0,.int .i64 a1,.sl 2 d1,.sl 2 d2,.int .i64 a4,.int .i64 a5,.int .i64 a6,.bs kby,.bool cav,.int .i64 pa,.int .i64 us,alt,per,exc,.bs sg],[some (.cells [.bool false])])) (h7:Call Q 34 [.iface 27 (.agg [.int .i64 a0,.int .i64 a1,.sl 2 d1,.sl 2 d2,.int .i64 a4,.int .i64 a5,.int .i64 a6,.bs kby,.bool cav,.int .i64 pa,.int .i64 us,alt,per,exc,.bs sg])]=some (.tup [.bs bs,.int .i64 0])):Call Q 35 [.bs bs,.fn 36 []]=some (.tup [.agg [.int .i64 a0,.int .i64 a1,.sl 2 d1,.sl 2 d2,.int .i64 a4,.int .i64 a5,.int .i64 a6,.bs kby,.bool cav,.int .i64 pa,.int .i64 us,alt,per,exc,.bs sg],.int .i64 0]):=by
 have h2:=df [.agg [.int .i64 0,.int .i64 16,.bool true,.nilsl,.sl 5 l],.agg [.int .i64 ca,.int .i64 ta,.bool ma,wa,ka],.agg [.int .i64 cb,.int .i64 tb,.bool mb,wb,kb]] (by simp) 3 3 (by simp) (by simp) false
 simp only[List.cons_append,List.nil_append]at h2
 have h3:=df l hl 0 l.length (by omega) (by omega) false
 have h8:=Dk bs bs
 rw[beq_self_eq_true]at h8
 generalize l++List.replicate 10 zV=q3 at *
 generalize List.replicate 10 zV=q at *
 rw[Call_fn Q (m:=m35) rfl rfl]
 apply ae;intro rhs hrhs
 simp(maxSteps:=4000000) (disch:=first|omega|exact aI (by(try simp only[bB.u,seval,cut,hwa.a,hka.a,hwb.a,hkb.a,f4.a,f5.a,f6.a]);kernel_rfl)|decide) only[bB.u,seval,cut,m35,h1,h2,h3,h4,h5,h6,h7,h8,hwa.a,hka.a,hwb.a,hkb.a,f4.a,f5.a,f6.a,ag,aj]
 repeat'((with_reducible first|refine sp ?_ ?_|fail)<;>intro hx<;>(try simp only[bI.u]at hx)<;>(first|exact xz|(try simp(maxSteps:=4000000) (disch:=first|omega|exact aI (by(try simp only[bB.u,seval,cut,hwa.a,hka.a,hwb.a,hkb.a,f4.a,f5.a,f6.a]);kernel_rfl)|decide) only[bB.u,seval,cut,hx,m35,h1,h2,h3,h4,h5,h6,h7,h8,hwa.a,hka.a,hwb.a,hkb.a,f4.a,f5.a,f6.a,ag,aj])))
 all_goals first|exact xz|(subst hrhs;rfl)
theorem xf (a0 a1 a4 a5 a6 pa us:Int) (d1 d2:List MV) (cav:Bool) (kby sg bs:List UInt8) (alt per exc:MV) (f4:Fs alt) (f5:Fs per) (f6:Fs exc) (h:Call Q 35 [.bs bs,.fn 36 []]=some (.tup [.agg [.int .i64 a0,.int .i64 a1,.sl 2 d1,.sl 2 d2,.int .i64 a4,.int .i64 a5,.int .i64 a6,.bs kby,.bool cav,.int .i64 pa,.int .i64 us,alt,per,exc,.bs sg],.int .i64 0])):Call Q 14 [.bs bs]=some (.tup [.agg [.int .i64 a0,.int .i64 a1,.sl 2 d1,.sl 2 d2,.int .i64 a4,.int .i64 a5,.int .i64 a6,.bs kby,.bool cav,.int .i64 pa,.int .i64 us,alt,per,exc,.bs sg],.int .i64 0]):=by
 rw[Call_fn Q (m:=m14) rfl rfl]
 apply ae;intro rhs hrhs
 simp(maxSteps:=4000000) (disch:=first|omega|exact aI (by(try simp only[bB.u,seval,cut,f4.a,f5.a,f6.a]);kernel_rfl)|decide) only[bB.u,seval,cut,m14,h,f4.a,f5.a,f6.a,ag,aj]
 repeat'((with_reducible first|refine sp ?_ ?_|fail)<;>intro hx<;>(try simp only[bI.u]at hx)<;>(first|exact xz|(try simp(maxSteps:=4000000) (disch:=first|omega|exact aI (by(try simp only[bB.u,seval,cut,f4.a,f5.a,f6.a]);kernel_rfl)|decide) only[bB.u,seval,cut,hx,m14,h,f4.a,f5.a,f6.a,ag,aj])))
 all_goals first|exact xz|(subst hrhs;rfl)
end Go.Mini

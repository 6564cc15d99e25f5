/- a certificate's law by that interpreter (part 16): what the program's functions answer, or plain laws of it; no conditions. -/
import Derived.Test.YtgiobgojobegfaaGreatDoorA06
import Derived.Test.YtgiobgojobegfaaGreatDoorA15
set_option linter.all false
namespace Go.Mini
open Go Go.Mini.Nm Go.Proofs.YtgiobgojobegfaaGreatDoor
set_option maxRecDepth 100000
set_option maxHeartbeats 4000000
theorem cf0 (C:CallT) (nm s:Nat) (x h m:X) (st:DS):dOp C nm (.cutF s x h m) st=sliceF s (st.rd x) (st.rd h) (st.rd m) st:=rfl
theorem cf1 (s:Nat) (x h m:X):MOp.xs (.cutF s x h m)=[x,h,m]:=rfl
theorem cf2 (s:Nat) (x h m:X) (st:DS):handed (.cutF s x h m) st=[]:=rfl
theorem cf3 (s:Nat) (x h m:X) (st:DS):loud (.cutF s x h m) st=shared (handed (.cutF s x h m) st) st:=rfl
theorem cf4 (s:Nat) (x h m:X) (st:DS):MOp.nms (.cutF s x h m) st=(MOp.xs (.cutF s x h m)).flatMap fun x=>(st.rd x).names2:=rfl
def dsV (c:Bool) (l:List MV):MV:=if c then .own 0 l.length else .sl 1 l
def dsO (c:Bool) (l:List MV):List (Nat × Obj):=if c then [(0,.el 1 l false)]else []
def dsN (c:Bool):Nat:=if c then 2 else 1
def stI (n:Int) (c:Bool) (l:List MV) (lv:MV) (len i:Int) (w:MV) (gl:Int) (j:Int):DS:=⟨[(0,dsV c l),(5,.int .i64 n),(14,lv),(15,.int .i64 len),(16,.int .i64 i),(23,w),(24,.int .i64 gl),(25,.int .i64 j)],[],dsO c l,dsN c⟩
def R_s:List (Nat × Option (Bool × Nat) × PK):=[(4,none,.other)]
theorem s_step (K:List Item) (n:Int) (hn:0≤n∧n≤2^61) (c:Bool) (l:List MV) (hl:l.length≤2^40) (lv:List MV) (len i:Int) (L:List MV) (gl j:Nat) (hgl:gl=L.length) (hglb:gl≤2^40) (k:Int) (tx:List UInt8) (dv:MV) (d:Dn) (hdv:isDir dv d) (htx:tx.length≤2^50)
  (hg:L[j]? = some (gM k tx dv)):fin R_s (RunL Q m10k1 m10b1 K (stI n c l (.sl 1 lv) len i (.sl 3 L) gl j))=fin R_s (RunL Q m10k1 m10b1 K (stI (n+(tx.length+1)) true (l++[dv]) (.sl 1 lv) len i (.sl 3 L) gl ((j:Int)+1))):=by
 obtain⟨hj,_⟩:=List.getElem?_eq_some_iff.1 hg
 have hlt:decide ((j:Int)<(gl:Int))=true:=by simp;omega
 have i1:(j:Int)<(L.length:Int):=by omega
 unfold gM at hg
 have hlen:(l++[dv]).length=l.length+1:=by simp
 unfold stI dsV dsO dsN
 cases c<;>rcases hdv with rfl|⟨rfl,rfl⟩<;>simp only[if_true,if_false,Bool.false_eq_true,hlen]
 all_goals(
  obtain⟨b',hb'⟩:∃b',b'=m10b1:=⟨_,rfl⟩
  rw[RunL_eq,show Item.lp m10k1 m10b1=Item.lp m10k1 b' by rw[hb']]
  apply hide;intro rhs hrhs
  simp(maxSteps:=4000000)(disch:=first|exact dz|fail)only[bA.u,seval,cut,if_pos,if_neg,m10b1,R_s,hlt,i1,hg,cf0,cf1,cf2,cf3,cf4,sliceF,sliceV,List.drop_zero,Nat.sub_zero,List.take_length]
  subst hrhs;(subst hb';refine(congrArg (fin _) (Run_lp Q _ _ _ _)).trans ?_;exact congrArg (fin R_s) (RunL_canon (canon_cong kr kr kr))))
theorem s_end (K:List Item) (n:Int) (c:Bool) (l:List MV) (lv:List MV) (len i:Int) (w:MV) (hw:Fs w) (gl:Nat):fin R_s (RunL Q m10k1 m10b1 (.blk 2::K) (stI n c l (.sl 1 lv) len i w gl gl))=fin R_s (Run Q K ⟨(26,.bool false)::(stI n c l (.sl 1 lv) len i w gl gl).V,[],dsO c l,dsN c+4⟩):=by
 have hlt:decide ((gl:Int)<(gl:Int))=false:=by simp
 unfold stI dsV dsO dsN
 cases c<;>simp only[if_true,if_false,Bool.false_eq_true]
 all_goals(
  obtain⟨b',hb'⟩:∃b',b'=m10b1:=⟨_,rfl⟩
  rw[RunL_eq,show Item.lp m10k1 m10b1=Item.lp m10k1 b' by rw[hb']]
  apply hide;intro rhs hrhs
  simp(maxSteps:=4000000)(disch:=first|exact dz|fail)only[bA.u,seval,cut,if_pos,if_neg,m10b1,R_s,hlt]
  subst hrhs;rfl)
def gTxt:List Gn→Int
 | []=>0
 |g::r=>(g.2.1.length+1)+gTxt r
def dirV:MV→MV
 | .agg [_,_,dv]=>dv
 |v=>v
theorem gTxt_rng:∀gs:List Gn,(∀g∈gs,g.2.1.length≤2^50)→0≤gTxt gs∧gTxt gs≤gs.length*(2^50+1)
 | [],_=>by simp[gTxt]
 |g::r,h=>by
  have ih:=gTxt_rng r fun x hx=>h x (List.mem_cons_of_mem _ hx)
  have h1:=h g (List.mem_cons_self ..)
  rw[gTxt,List.length_cons]
  omega
theorem s_in (K:List Item) (lv:List MV) (len i:Int) (L:List MV) (hL:L.length≤2^9):∀(rest:List MV) (gs:List Gn) (j:Nat) (n:Int) (c:Bool) (l:List MV),Gl rest gs→L.drop j=rest→j+rest.length=L.length→(∀g∈gs,g.2.1.length≤2^50)→0≤n→n+gs.length*(2^50+1)≤2^61→l.length+gs.length≤2^40 →
  fin R_s (RunL Q m10k1 m10b1 (.blk 2::K) (stI n c l (.sl 1 lv) len i (.sl 3 L) L.length j))=fin R_s (Run Q K ⟨(26,.bool false)::(stI (n+gTxt gs) (c|| !gs.isEmpty) (l++rest.map dirV) (.sl 1 lv) len i (.sl 3 L) L.length L.length).V,[],dsO (c|| !gs.isEmpty) (l++rest.map dirV),dsN (c|| !gs.isEmpty)+4⟩):=by
 intro rest gs j n c l h
 induction h generalizing j n c l with
 |nil=>
  intro _ h2 _ _ _ _
  have hj:j=L.length:=by simpa using h2
  subst hj
  rw[s_end K n c l lv len i (.sl 3 L) ⟨fun _=>rfl,rfl,rfl,rfl,rfl,fun _=>rfl,fun _=>rfl⟩ L.length]
  simp[gTxt]
 | @cons k tx dv d l' gs' hdv hr ih=>
  intro h1 h2 h3 h4 h5 h6
  have hg:L[j]? = some (gM k tx dv):=by
   have:=congrArg (·[0]?) h1
   simpa[List.getElem?_drop]using this
  have hd:L.drop (j+1)=l':=by
   have:=congrArg (List.drop 1) h1
   simpa[List.drop_drop]using this
  have hb:=h3 (k,tx,d) (List.mem_cons_self ..)
  simp only at hb
  simp only[List.length_cons]at h2 h5 h6
  rw[s_step _ n ⟨h4,by omega⟩ c l (by omega) lv len i L L.length j rfl (by omega) k tx dv d hdv hb hg]
  have:=ih (j+1) (n+(tx.length+1)) true (l++[dv]) hd (by omega) (fun x hx=>h3 x (List.mem_cons_of_mem _ hx)) (by omega) (by omega) (by simp;omega)
  rw[show(((j+1:Nat):Int))=(j:Int)+1 from rfl]at this
  rw[this]
  have e1:n+(tx.length+1:Int)+gTxt gs'=n+gTxt ((k,tx,d)::gs'):=by
   show _=n+((tx.length+1:Int)+gTxt gs')
   omega
  have e2:l++[dv]++l'.map dirV=l++(gM k tx dv::l').map dirV:=by simp[dirV,gM]
  rw[e1,e2]
  simp
def stO (n:Int) (c:Bool) (l:List MV) (lv:MV) (len i:Int):DS:=⟨[(0,dsV c l),(5,.int .i64 n),(14,lv),(15,.int .i64 len),(16,.int .i64 i)],[],dsO c l,dsN c⟩
def dirsOf:MV→List MV
 | .sl _ l=>l.map dirV
 |_=>[]
theorem o_step (K:List Item) (n:Int) (hn:0≤n∧n≤2^60) (c:Bool) (l:List MV) (hl:l.length≤2^30) (lv:List MV) (hlv:lv.length≤2^20) (i:Nat) (w:MV) (gs:List Gn) (hw:Gs w gs) (hgb:∀g∈gs,g.2.1.length≤2^50) (hgl:gs.length≤2^50) (hg:lv[i]? = some w):
  fin R_s (RunL Q m10k0 m10b0 (.blk 0::K) (stO n c l (.sl 1 lv) lv.length i))=if 300<gs.length then some (.int .i64 1000000)else fin R_s (RunL Q m10k0 m10b0 (.blk 0::K) (stO (n+gTxt gs) (c|| !gs.isEmpty) (l++dirsOf w) (.sl 1 lv) lv.length ((i:Int)+1))):=by
 obtain⟨hi,_⟩:=List.getElem?_eq_some_iff.1 hg
 have hlt:decide ((i:Int)<(lv.length:Int))=true:=by simp;omega
 have i1:(i:Int)<(lv.length:Int):=by omega
 have fs:=hw.fs
 have hc1:w.cells=[w]:=fs.c
 by_cases h3:300<gs.length
 ·rw[if_pos h3]
  have h3':decide (300<(gs.length:Int))=true:=by simp;omega
  rcases hw with⟨L,rfl,hL⟩|⟨rfl,rfl⟩
  ·have hll:=hL.length
   unfold stO dsV dsO dsN
   cases c<;>simp only[if_true,if_false,Bool.false_eq_true]
   all_goals(
    obtain⟨b',hb'⟩:∃b',b'=m10b0:=⟨_,rfl⟩
    rw[RunL_eq,show Item.lp m10k0 m10b0=Item.lp m10k0 b' by rw[hb']]
    apply hide;intro rhs hrhs
    simp(maxSteps:=4000000)(disch:=first|exact dz|fail)only[bA.u,seval,cut,if_pos,if_neg,m10b0,R_s,hlt,i1,hg,hll,h3']
    subst hrhs;rfl)
  ·simp at h3
 ·rw[if_neg h3]
  have h3':decide (300<(gs.length:Int))=false:=by simp;omega
  rcases hw with⟨L,rfl,hL⟩|⟨rfl,rfl⟩
  ·have hll:=hL.length
   have hin:=fun K=>s_in K lv lv.length i L (by omega) L gs 0 n c l hL rfl (by simp) hgb hn.1 (by omega) (by omega)
   rw[hll]at hin
   have hsn:0≤n+gTxt gs∧n+gTxt gs≤2^61:=by have:=gTxt_rng gs hgb;omega
   generalize n+gTxt gs=n' at *
   generalize(c|| !gs.isEmpty)=c' at *
   unfold dirsOf
   simp only
   generalize l++L.map dirV=l' at *
   unfold stI dsV dsO dsN at hin
   unfold stO dsV dsO dsN
   cases c<;>cases c'<;>simp only[if_true,if_false,Bool.false_eq_true]at hin ⊢
   all_goals(
    obtain⟨b',hb'⟩:∃b',b'=m10b0:=⟨_,rfl⟩
    rw[RunL_eq,show Item.lp m10k0 m10b0=Item.lp m10k0 b' by rw[hb']]
    apply hide;intro rhs hrhs
    simp(maxSteps:=4000000)(disch:=first|exact dz|fail)only[bA.u,seval,cut,if_pos,if_neg,m10b0,R_s,hlt,i1,hg,hll,h3',Run_loop]
    subst hrhs;(refine(congrArg (fin _) (RunL_canon (canon_cong kr kr kr))).trans ((hin _).trans ?_);simp(maxSteps:=4000000)(disch:=first|exact dz|fail)only[bA.u,seval,cut,if_pos,if_neg,Run_loop];(subst hb';refine(congrArg (fin _) (Run_lp Q _ _ _ _)).trans ?_;exact congrArg (fin R_s) (RunL_canon (canon_cong kr kr kr)))))
  ·have hin:=fun K=>s_end K n c l lv lv.length i .nilsl ⟨fun _=>rfl,rfl,rfl,rfl,rfl,fun _=>rfl,fun _=>rfl⟩ 0
   have e1:n+gTxt []=n:=by simp[gTxt]
   have e2:l++dirsOf .nilsl=l:=by simp[dirsOf]
   have e3:(c|| !([]:List Gn).isEmpty)=c:=by simp
   rw[e1,e2,e3]
   unfold stI dsV dsO dsN at hin
   unfold stO dsV dsO dsN
   cases c<;>simp only[if_true,if_false,Bool.false_eq_true]at hin ⊢
   all_goals(
    obtain⟨b',hb'⟩:∃b',b'=m10b0:=⟨_,rfl⟩
    rw[RunL_eq,show Item.lp m10k0 m10b0=Item.lp m10k0 b' by rw[hb']]
    apply hide;intro rhs hrhs
    simp(maxSteps:=4000000)(disch:=first|exact dz|fail)only[bA.u,seval,cut,if_pos,if_neg,m10b0,R_s,hlt,i1,hg,h3',List.length_nil,Run_loop]
    subst hrhs;(refine(congrArg (fin _) (RunL_canon (canon_cong kr kr kr))).trans ((hin _).trans ?_);simp(maxSteps:=4000000)(disch:=first|exact dz|fail)only[bA.u,seval,cut,if_pos,if_neg,Run_loop];(subst hb';refine(congrArg (fin _) (Run_lp Q _ _ _ _)).trans ?_;exact congrArg (fin R_s) (RunL_canon (canon_cong kr kr kr)))))
def aF:Int→Dn→Option Int
 |n,[]=>some n
 |n,a::r=>if 20000<n+(a.1.length+a.2.length:Int)then none else aF (n+(a.1.length+a.2.length)) r
def dF:Int→List Dn→Option Int
 |n,[]=>some n
 |n,d::r=>if 100<d.length then none else match aF n d with
  |none=>none
  |some m=>dF m r
def stA (n:Int) (c:Bool) (l:List MV) (len i:Int) (w:MV) (wl j:Int):DS:=⟨[(5,.int .i64 n),(47,dsV c l),(48,.int .i64 len),(49,.int .i64 i),(56,w),(57,.int .i64 wl),(58,.int .i64 j)],[],dsO c l,dsN c⟩
def stD (n:Int) (c:Bool) (l:List MV) (len i:Int):DS:=⟨[(5,.int .i64 n),(47,dsV c l),(48,.int .i64 len),(49,.int .i64 i)],[],dsO c l,dsN c⟩
theorem a_end (K:List Item) (n:Int) (c:Bool) (l:List MV) (len i:Int) (w:MV) (hw:Fs w) (wl:Nat):fin R_s (RunL Q m10k3 m10b3 (.blk 6::K) (stA n c l len i w wl wl))=fin R_s (Run Q K ⟨(59,.bool false)::(stA n c l len i w wl wl).V,[],dsO c l,dsN c+4⟩):=by
 have hlt:decide ((wl:Int)<(wl:Int))=false:=by simp
 unfold stA dsV dsO dsN
 cases c<;>simp only[if_true,if_false,Bool.false_eq_true]
 all_goals(
  obtain⟨b',hb'⟩:∃b',b'=m10b3:=⟨_,rfl⟩
  rw[RunL_eq,show Item.lp m10k3 m10b3=Item.lp m10k3 b' by rw[hb']]
  apply hide;intro rhs hrhs
  simp(maxSteps:=4000000)(disch:=first|exact dz|fail)only[bA.u,seval,cut,if_pos,if_neg,m10b3,R_s,hlt]
  subst hrhs;rfl)
theorem a_step (K:List Item) (n:Int) (hn:0≤n∧n≤2^61) (c:Bool) (l:List MV) (len i:Int) (d:Dn) (hd:d.length≤2^50) (j:Nat) (ty tx:List UInt8) (ht:ty.length≤2^50∧tx.length≤2^50) (hg:(attrs d)[j]? = some (.agg [.str ty,.str tx])):
  fin R_s (RunL Q m10k3 m10b3 (.blk 6::K) (stA n c l len i (.sl 2 (attrs d)) d.length j))=if 20000<n+(ty.length+tx.length:Int)then some (.int .i64 1000000)else fin R_s (RunL Q m10k3 m10b3 (.blk 6::K) (stA (n+(ty.length+tx.length)) c l len i (.sl 2 (attrs d)) d.length ((j:Int)+1))):=by
 have hal:=attrs_length d
 obtain⟨hj,_⟩:=List.getElem?_eq_some_iff.1 hg
 rw[hal]at hj
 have hlt:decide ((j:Int)<(d.length:Int))=true:=by simp;omega
 have i1:(j:Int)<(d.length:Int):=by omega
 generalize attrs d=L at *
 by_cases h2:20000<n+(ty.length+tx.length:Int)
 ·rw[if_pos h2]
  have h2':decide (20000<n+(ty.length+tx.length:Int))=true:=by simpa using h2
  unfold stA dsV dsO dsN
  cases c<;>simp only[if_true,if_false,Bool.false_eq_true]
  all_goals(
   obtain⟨b',hb'⟩:∃b',b'=m10b3:=⟨_,rfl⟩
   rw[RunL_eq,show Item.lp m10k3 m10b3=Item.lp m10k3 b' by rw[hb']]
   apply hide;intro rhs hrhs
   simp(maxSteps:=4000000)(disch:=first|exact dz|fail)only[bA.u,seval,cut,if_pos,if_neg,m10b3,R_s,hlt,i1,hg,hal,h2']
   subst hrhs;rfl)
 ·rw[if_neg h2]
  have h2':decide (20000<n+(ty.length+tx.length:Int))=false:=by simpa using h2
  unfold stA dsV dsO dsN
  cases c<;>simp only[if_true,if_false,Bool.false_eq_true]
  all_goals(
   obtain⟨b',hb'⟩:∃b',b'=m10b3:=⟨_,rfl⟩
   rw[RunL_eq,show Item.lp m10k3 m10b3=Item.lp m10k3 b' by rw[hb']]
   apply hide;intro rhs hrhs
   simp(maxSteps:=4000000)(disch:=first|exact dz|fail)only[bA.u,seval,cut,if_pos,if_neg,m10b3,R_s,hlt,i1,hg,hal,h2']
   subst hrhs;(subst hb';refine(congrArg (fin _) (Run_lp Q _ _ _ _)).trans ?_;exact congrArg (fin R_s) (RunL_canon (canon_cong kr kr kr))))
theorem attrs_get (d:Dn) (j:Nat) (a:List UInt8 × List UInt8) (h:d[j]? = some a):(attrs d)[j]? = some (.agg [.str a.1,.str a.2]):=by
 unfold attrs;rw[List.getElem?_map,h];rfl
theorem a_in (K:List Item) (c:Bool) (l:List MV) (len i:Int) (d:Dn) (hd:d.length≤2^50) (hb:∀a∈d,a.1.length≤2^50∧a.2.length≤2^50):∀(rest:Dn) (j:Nat) (n:Int),d.drop j=rest→j+rest.length=d.length→0≤n→n≤2^61 →
  fin R_s (RunL Q m10k3 m10b3 (.blk 6::K) (stA n c l len i (.sl 2 (attrs d)) d.length j))=match aF n rest with
   |none=>some (.int .i64 1000000)
   |some m=>fin R_s (Run Q K ⟨(59,.bool false)::(stA m c l len i (.sl 2 (attrs d)) d.length d.length).V,[],dsO c l,dsN c+4⟩)
 | [],j,n,h1,h2,h3,h4=>by
  have hj:j=d.length:=by simpa using h2
  subst hj
  exact a_end K n c l len i _ ⟨fun _=>rfl,rfl,rfl,rfl,rfl,fun _=>rfl,fun _=>rfl⟩ d.length
 |a::rest,j,n,h1,h2,h3,h4=>by
  have hg:d[j]? = some a:=by
   have:=congrArg (·[0]?) h1
   simpa[List.getElem?_drop]using this
  have hd':d.drop (j+1)=rest:=by
   have:=congrArg (List.drop 1) h1
   simpa[List.drop_drop]using this
  have ha:=hb a (List.mem_of_getElem? hg)
  simp only[List.length_cons]at h2
  rw[a_step K n ⟨h3,h4⟩ c l len i d hd j a.1 a.2 ha (attrs_get d j a hg),aF]
  by_cases h5:20000<n+(a.1.length+a.2.length:Int)
  ·rw[if_pos h5,if_pos h5]
  ·rw[if_neg h5,if_neg h5]
   exact a_in K c l len i d hd hb rest (j+1) _ hd' (by omega) (by omega) (by omega)
theorem d_end (K:List Item) (n:Int) (c:Bool) (l:List MV):fin R_s (RunL Q m10k2 m10b2 (.blk 4::K) (stD n c l l.length l.length))=fin R_s (Run Q K ⟨(50,.bool false)::(stD n c l l.length l.length).V,[],dsO c l,dsN c+4⟩):=by
 have hlt:decide ((l.length:Int)<(l.length:Int))=false:=by simp
 unfold stD dsV dsO dsN
 cases c<;>simp only[if_true,if_false,Bool.false_eq_true]
 all_goals(
  obtain⟨b',hb'⟩:∃b',b'=m10b2:=⟨_,rfl⟩
  rw[RunL_eq,show Item.lp m10k2 m10b2=Item.lp m10k2 b' by rw[hb']]
  apply hide;intro rhs hrhs
  simp(maxSteps:=4000000)(disch:=first|exact dz|fail)only[bA.u,seval,cut,if_pos,if_neg,m10b2,R_s,hlt]
  subst hrhs;rfl)
theorem aF_rng:∀(d:Dn) (n m:Int),0≤n→n≤2^61→aF n d=some m→0≤m∧m≤2^61
 | [],n,m,h0,h1,h=>by rw[aF]at h;cases h;exact⟨h0,h1⟩
 |a::r,n,m,h0,h1,h=>by
  rw[aF]at h
  split at h
  ·cases h
  ·exact aF_rng r _ m (by omega) (by omega) h
theorem d_step (K:List Item) (n:Int) (hn:0≤n∧n≤2^61) (c:Bool) (l:List MV) (hl:l.length≤2^40) (i:Nat) (w:MV) (d:Dn) (hw:isDir w d) (hd:d.length≤2^50) (hb:∀a∈d,a.1.length≤2^50∧a.2.length≤2^50) (hg:l[i]? = some w):
  fin R_s (RunL Q m10k2 m10b2 (.blk 4::K) (stD n c l l.length i))=if 100<d.length then some (.int .i64 1000000)else match aF n d with
   |none=>some (.int .i64 1000000)
   |some m=>fin R_s (RunL Q m10k2 m10b2 (.blk 4::K) (stD m c l l.length ((i:Int)+1))):=by
 obtain⟨hi,_⟩:=List.getElem?_eq_some_iff.1 hg
 have hlt:decide ((i:Int)<(l.length:Int))=true:=by simp;omega
 have i1:(i:Int)<(l.length:Int):=by omega
 have hal:=attrs_length d
 by_cases h3:100<d.length
 ·rw[if_pos h3]
  have h3':decide (100<(d.length:Int))=true:=by simp;omega
  rcases hw with rfl|⟨rfl,rfl⟩
  ·unfold stD dsV dsO dsN
   generalize attrs d=L at *
   cases c<;>simp only[if_true,if_false,Bool.false_eq_true]
   all_goals(
    obtain⟨b',hb'⟩:∃b',b'=m10b2:=⟨_,rfl⟩
    rw[RunL_eq,show Item.lp m10k2 m10b2=Item.lp m10k2 b' by rw[hb']]
    apply hide;intro rhs hrhs
    simp(maxSteps:=4000000)(disch:=first|exact dz|fail)only[bA.u,seval,cut,if_pos,if_neg,m10b2,R_s,hlt,i1,hg,hal,h3']
    subst hrhs;rfl)
  ·simp at h3
 ·rw[if_neg h3]
  have h3':decide (100<(d.length:Int))=false:=by simp;omega
  rcases hw with rfl|⟨rfl,rfl⟩
  ·have hin:=fun K=>a_in K c l l.length i d hd hb d 0 n rfl (by simp) hn.1 hn.2
   have ez:((0:Nat):Int)=0:=rfl
   rw[ez]at hin
   cases ha:aF n d with
   |none=>
    rw[ha]at hin
    simp only at hin ⊢
    unfold stA dsV dsO dsN at hin
    unfold stD dsV dsO dsN
    generalize attrs d=L at *
    cases c<;>simp only[if_true,if_false,Bool.false_eq_true]at hin ⊢
    all_goals(
     obtain⟨b',hb'⟩:∃b',b'=m10b2:=⟨_,rfl⟩
     rw[RunL_eq,show Item.lp m10k2 m10b2=Item.lp m10k2 b' by rw[hb']]
     apply hide;intro rhs hrhs
     simp(maxSteps:=4000000)(disch:=first|exact dz|fail)only[bA.u,seval,cut,if_pos,if_neg,m10b2,R_s,hlt,i1,hg,hal,h3',Run_loop]
     subst hrhs;exact(congrArg (fin _) (RunL_canon (canon_cong kr kr kr))).trans (hin _))
   |some m=>
    rw[ha]at hin
    have hm:=aF_rng d n m hn.1 hn.2 ha
    simp only at hin ⊢
    unfold stA dsV dsO dsN at hin
    unfold stD dsV dsO dsN
    generalize attrs d=L at *
    cases c<;>simp only[if_true,if_false,Bool.false_eq_true]at hin ⊢
    all_goals(
     obtain⟨b',hb'⟩:∃b',b'=m10b2:=⟨_,rfl⟩
     rw[RunL_eq,show Item.lp m10k2 m10b2=Item.lp m10k2 b' by rw[hb']]
     apply hide;intro rhs hrhs
     simp(maxSteps:=4000000)(disch:=first|exact dz|fail)only[bA.u,seval,cut,if_pos,if_neg,m10b2,R_s,hlt,i1,hg,hal,h3',Run_loop]
     subst hrhs;(refine(congrArg (fin _) (RunL_canon (canon_cong kr kr kr))).trans ((hin _).trans ?_);simp(maxSteps:=4000000)(disch:=first|exact dz|fail)only[bA.u,seval,cut,if_pos,if_neg,Run_loop];(subst hb';refine(congrArg (fin _) (Run_lp Q _ _ _ _)).trans ?_;exact congrArg (fin R_s) (RunL_canon (canon_cong kr kr kr)))))
  ·have hin:=fun K=>a_end K n c l l.length i .nilsl ⟨fun _=>rfl,rfl,rfl,rfl,rfl,fun _=>rfl,fun _=>rfl⟩ 0
   simp only[aF]
   unfold stA dsV dsO dsN at hin
   unfold stD dsV dsO dsN
   cases c<;>simp only[if_true,if_false,Bool.false_eq_true]at hin ⊢
   all_goals(
    obtain⟨b',hb'⟩:∃b',b'=m10b2:=⟨_,rfl⟩
    rw[RunL_eq,show Item.lp m10k2 m10b2=Item.lp m10k2 b' by rw[hb']]
    apply hide;intro rhs hrhs
    simp(maxSteps:=4000000)(disch:=first|exact dz|fail)only[bA.u,seval,cut,if_pos,if_neg,m10b2,R_s,hlt,i1,hg,h3',List.length_nil,Run_loop]
    subst hrhs;(refine(congrArg (fin _) (RunL_canon (canon_cong kr kr kr))).trans ((hin _).trans ?_);simp(maxSteps:=4000000)(disch:=first|exact dz|fail)only[bA.u,seval,cut,if_pos,if_neg,Run_loop];(subst hb';refine(congrArg (fin _) (Run_lp Q _ _ _ _)).trans ?_;exact congrArg (fin R_s) (RunL_canon (canon_cong kr kr kr)))))
def s_ret:MCode:=(.seq (.rg [oT 75 (.mv (.v 5)),
  oV 4 (.mv (.t 75))])
  (.ret))
def s_rest:MCode:=(.seq (.seq (.rg [oV 47 (.mv (.v 0)),
  oV 48 (.len false (.v 47)),
  oV 49 (.mv (.c (.int .i64 0)))])
  (.block 4 (.loop m10k2 m10b2)))
  (.seq (.rg [oT 75 (.mv (.v 5)),
  oV 4 (.mv (.t 75))])
  (.ret)))
inductive Dl:List MV→List Dn→Prop
 |nil:Dl [] []
 |cons {v d l ds}:isDir v d→Dl l ds→Dl (v::l) (d::ds)
theorem Dl.length {l:List MV} {ds:List Dn} (h:Dl l ds):l.length=ds.length:=by
 induction h with
 |nil=>rfl
 |cons _ _ ih=>simp[ih]
theorem Dl.append {l l':List MV} {ds ds':List Dn} (h:Dl l ds) (h':Dl l' ds'):Dl (l++l') (ds++ds'):=by
 induction h with
 |nil=>exact h'
 |cons a _ ih=>exact .cons a ih
theorem Gl.dirs {l:List MV} {gs:List Gn} (h:Gl l gs):Dl (l.map dirV) (gs.map (·.2.2)):=by
 induction h with
 |nil=>exact .nil
 |cons a _ ih=>exact .cons a ih
theorem Gs.dirs {w:MV} {gs:List Gn} (h:Gs w gs):Dl (dirsOf w) (gs.map (·.2.2)):=by
 rcases h with⟨l,rfl,h⟩|⟨rfl,rfl⟩
 ·exact h.dirs
 ·exact .nil
def okD (d:Dn):Prop:=d.length≤2^50∧∀a∈d,a.1.length≤2^50∧a.2.length≤2^50
theorem d_in (K:List Item) (c:Bool) (l:List MV) (hl:l.length≤2^40):∀(rest:List MV) (ds:List Dn) (i:Nat) (n:Int),Dl rest ds→(∀d∈ds,okD d)→l.drop i=rest→i+rest.length=l.length→0≤n→n≤2^61 →
  fin R_s (RunL Q m10k2 m10b2 (.blk 4::K) (stD n c l l.length i))=match dF n ds with
   |none=>some (.int .i64 1000000)
   |some m=>fin R_s (Run Q K ⟨(50,.bool false)::(stD m c l l.length l.length).V,[],dsO c l,dsN c+4⟩):=by
 intro rest ds i n h
 induction h generalizing i n with
 |nil=>
  intro _ _ h2 _ _
  have hi:i=l.length:=by simpa using h2
  subst hi
  exact d_end K n c l
 | @cons w d l' ds' hd hr ih=>
  intro hok h1 h2 h3 h4
  have hg:l[i]? = some w:=by
   have:=congrArg (·[0]?) h1
   simpa[List.getElem?_drop]using this
  have hd':l.drop (i+1)=l':=by
   have:=congrArg (List.drop 1) h1
   simpa[List.drop_drop]using this
  have ho:=hok d (List.mem_cons_self ..)
  simp only[List.length_cons]at h2
  rw[d_step K n ⟨h3,h4⟩ c l hl i w d hd ho.1 ho.2 hg,dF]
  split
  ·rfl
  ·cases ha:aF n d with
   |none=>rfl
   |some m=>
    have hm:=aF_rng d n m h3 h4 ha
    exact ih (i+1) m (fun x hx=>hok x (List.mem_cons_of_mem _ hx)) hd' (by omega) hm.1 hm.2
def lF:Int→List (List Gn)→Option Int
 |n,[]=>some n
 |n,gs::r=>if 300<gs.length then none else lF (n+gTxt gs) r
def szS (ds:List Dn) (ls:List (List Gn)):Int:=match lF 0 ls with
 |none=>1000000
 |some n=>match dF n (ds++ls.flatMap fun gs=>gs.map (·.2.2))with
  |none=>1000000
  |some m=>m
def okGs (gs:List Gn):Prop:=gs.length≤2^50∧∀g∈gs,g.2.1.length≤2^50∧okD g.2.2
theorem s_tail (K:List Item) (n:Int) (c:Bool) (l:List MV):fin R_s (Run Q (.code s_ret::K) ⟨(50,.bool false)::(stD n c l l.length l.length).V,[],dsO c l,dsN c+4⟩)=some (.int .i64 n):=by
 unfold stD dsV dsO dsN
 cases c<;>simp only[if_true,if_false,Bool.false_eq_true]
 all_goals(
  apply hide;intro rhs hrhs
  simp(maxSteps:=4000000)(disch:=first|exact dz|fail)only[bA.u,seval,cut,if_pos,if_neg,s_ret,R_s]
  subst hrhs;rfl)
theorem s_two (K:List Item) (n:Int) (hn:0≤n∧n≤2^61) (c:Bool) (l:List MV) (ds:List Dn) (h:Dl l ds) (hl:l.length≤2^40) (hok:∀d∈ds,okD d) (lv:List MV) (len i:Int):fin R_s (Run Q (.code s_rest::K) ⟨(17,.bool false)::(stO n c l (.sl 1 lv) len i).V,[],dsO c l,dsN c+4⟩)=match dF n ds with
   |none=>some (.int .i64 1000000)
   |some m=>some (.int .i64 m):=by
 have hin:=fun K=>d_in K c l hl l ds 0 n h hok rfl (by simp) hn.1 hn.2
 have ez:((0:Nat):Int)=0:=rfl
 rw[ez]at hin
 have ht:=fun m=>s_tail K m c l
 cases hd:dF n ds with
 |none=>
  rw[hd]at hin
  simp only at hin ⊢
  unfold stD dsV dsO dsN at hin
  unfold stO dsV dsO dsN
  cases c<;>simp only[if_true,if_false,Bool.false_eq_true]at hin ⊢
  all_goals(
   apply hide;intro rhs hrhs
   simp(maxSteps:=4000000)(disch:=first|exact dz|fail)only[bA.u,seval,cut,if_pos,if_neg,s_rest,R_s,Run_loop]
   subst hrhs;exact(congrArg (fin _) (RunL_canon (canon_cong kr kr kr))).trans (hin _))
 |some m=>
  rw[hd]at hin
  have ht:=ht m
  simp only at hin ⊢
  unfold stD dsV dsO dsN at hin ht
  unfold stO dsV dsO dsN
  cases c<;>simp only[if_true,if_false,Bool.false_eq_true]at hin ht ⊢
  all_goals(
   apply hide;intro rhs hrhs
   simp(maxSteps:=4000000)(disch:=first|exact dz|fail)only[bA.u,seval,cut,if_pos,if_neg,s_rest,R_s,Run_loop]
   subst hrhs;exact(congrArg (fin _) (RunL_canon (canon_cong kr kr kr))).trans ((hin _).trans ht))
theorem o_end (K:List Item) (n:Int) (c:Bool) (l:List MV) (lv:List MV):fin R_s (RunL Q m10k0 m10b0 (.blk 0::K) (stO n c l (.sl 1 lv) lv.length lv.length))=fin R_s (Run Q K ⟨(17,.bool false)::(stO n c l (.sl 1 lv) lv.length lv.length).V,[],dsO c l,dsN c+4⟩):=by
 have hlt:decide ((lv.length:Int)<(lv.length:Int))=false:=by simp
 unfold stO dsV dsO dsN
 cases c<;>simp only[if_true,if_false,Bool.false_eq_true]
 all_goals(
  obtain⟨b',hb'⟩:∃b',b'=m10b0:=⟨_,rfl⟩
  rw[RunL_eq,show Item.lp m10k0 m10b0=Item.lp m10k0 b' by rw[hb']]
  apply hide;intro rhs hrhs
  simp(maxSteps:=4000000)(disch:=first|exact dz|fail)only[bA.u,seval,cut,if_pos,if_neg,m10b0,R_s,hlt]
  subst hrhs;rfl)
theorem c_sizes3 (dvs:List MV) (ds:List Dn) (hd:Dl dvs ds) (hdl:dvs.length≤2^10) (hok:∀d∈ds,okD d) (w1 w2 w3:MV) (g1 g2 g3:List Gn) (h1:Gs w1 g1) (h2:Gs w2 g2) (h3:Gs w3 g3) (k1:okGs g1) (k2:okGs g2) (k3:okGs g3):
  Call Q 10 [.sl 1 dvs,.sl 1 [w1,w2,w3]]=some (.int .i64 (szS ds [g1,g2,g3])):=by
 have ez:((0:Nat):Int)=0:=rfl
 have loop:fin R_s (RunL Q m10k0 m10b0 [.blk 0,.code s_rest] (stO 0 false dvs (.sl 1 [w1,w2,w3]) 3 0))=some (.int .i64 (szS ds [g1,g2,g3])):=by
  have o1:=o_step [.code s_rest] 0 (by omega) false dvs (by omega) [w1,w2,w3] (by simp) 0 w1 g1 h1 (fun g hg=>(k1.2 g hg).1) k1.1 rfl
  rw[ez]at o1
  refine o1.trans ?_
  unfold szS lF
  by_cases q1:300<g1.length
  ·rw[if_pos q1,if_pos q1]
  rw[if_neg q1,if_neg q1]
  unfold lF
  have b1:=gTxt_rng g1 fun g hg=>(k1.2 g hg).1
  have l1:=h1.dirs.length
  rw[List.length_map]at l1
  have o2:=o_step [.code s_rest] (0+gTxt g1) (by omega) (false|| !g1.isEmpty) (dvs++dirsOf w1) (by rw[List.length_append];omega) [w1,w2,w3] (by simp) 1 w2 g2 h2 (fun g hg=>(k2.2 g hg).1) k2.1 rfl
  refine o2.trans ?_
  by_cases q2:300<g2.length
  ·rw[if_pos q2,if_pos q2]
  rw[if_neg q2,if_neg q2]
  unfold lF
  have b2:=gTxt_rng g2 fun g hg=>(k2.2 g hg).1
  have l2:=h2.dirs.length
  rw[List.length_map]at l2
  have o3:=o_step [.code s_rest] (0+gTxt g1+gTxt g2) (by omega) (false|| !g1.isEmpty|| !g2.isEmpty) (dvs++dirsOf w1++dirsOf w2) (by rw[List.length_append,List.length_append];omega) [w1,w2,w3] (by simp) 2 w3 g3 h3 (fun g hg=>(k3.2 g hg).1) k3.1 rfl
  refine o3.trans ?_
  by_cases q3:300<g3.length
  ·rw[if_pos q3,if_pos q3]
  rw[if_neg q3,if_neg q3]
  unfold lF
  have b3:=gTxt_rng g3 fun g hg=>(k3.2 g hg).1
  have l3:=h3.dirs.length
  rw[List.length_map]at l3
  generalize(false|| !g1.isEmpty|| !g2.isEmpty|| !g3.isEmpty)=c
  refine(o_end [.code s_rest] (0+gTxt g1+gTxt g2+gTxt g3) c (dvs++dirsOf w1++dirsOf w2++dirsOf w3) [w1,w2,w3]).trans ?_
  have hall:=((hd.append h1.dirs).append h2.dirs).append h3.dirs
  have e:=s_two [] (0+gTxt g1+gTxt g2+gTxt g3) (by omega) c _ _ hall (by simp only[List.length_append];omega) (by
   intro d hd
   simp only[List.mem_append,List.mem_map]at hd
   rcases hd with((hd|⟨g,hg,rfl⟩)|⟨g,hg,rfl⟩)|⟨g,hg,rfl⟩
   ·exact hok d hd
   ·exact(k1.2 g hg).2
   ·exact(k2.2 g hg).2
   ·exact(k3.2 g hg).2) [w1,w2,w3] 3 3
  refine e.trans ?_
  simp only[List.flatMap_cons,List.flatMap_nil,List.append_nil,List.append_assoc]
  cases dF (0+gTxt g1+gTxt g2+gTxt g3) (ds++(g1.map (·.2.2)++(g2.map (·.2.2)++g3.map (·.2.2))))<;>rfl
 unfold stO dsV dsO dsN at loop
 simp only[if_false,Bool.false_eq_true]at loop
 have f1:=h1.fs
 have f2:=h2.fs
 have f3:=h3.fs
 rw[Call_fn Q (m:=m10) rfl rfl]
 apply hide;intro rhs hrhs
 simp(maxSteps:=4000000)(disch:=first|exact dz|fail)only[bA.u,seval,cut,if_pos,if_neg,m10,Run_loop]
 subst hrhs;exact(congrArg (fin _) (RunL_canon (canon_cong kr kr kr))).trans loop
def R_m:List (Nat × Option (Bool × Nat) × PK):=[(4,none,.other)]
def m_tail:MCode:=(.seq (.rg [oV 4 (.mv (.c (.bool true)))])
  (.ret))
theorem same_in (a b:List UInt8) (hl:a.length=b.length) (ha:a.length<2^62):∀(ra rb:List UInt8) (i:Nat),a.drop i=ra→b.drop i=rb→i+ra.length=a.length →
  fin R_m (RunL Q m13k0 m13b0 [.blk 0,.code m_tail] ⟨[(0,.bs a),(1,.bs b),(5,.int .i64 i)],[],[],1⟩)=some (.bool (ra==rb))
 | [],rb,i,h1,h2,h3=>by
  have hi:i=a.length:=by simpa using h3
  have hb:rb=[]:=by rw[←h2,hi,hl];simp
  subst hb
  have hlt:decide ((i:Int)<(a.length:Int))=false:=by simp;omega
  obtain⟨b',hb'⟩:∃b',b'=m13b0:=⟨_,rfl⟩
  rw[RunL_eq,show Item.lp m13k0 m13b0=Item.lp m13k0 b' by rw[hb']]
  apply hide;intro rhs hrhs
  simp(maxSteps:=4000000)(disch:=first|exact dz|fail)only[bA.u,seval,cut,if_pos,if_neg,m13b0,m_tail,R_m,hlt]
  repeat'((with_reducible first|refine sp ?_ ?_|fail)<;>intro hx<;>(try simp only[bI.u]at hx)<;>(first|exact xz|(try simp(maxSteps:=4000000)(disch:=first|exact dz|fail)only[bA.u,seval,cut,if_pos,if_neg,hx,m13b0,m_tail,R_m,hlt])))
  all_goals first|exact xz|(subst hrhs;rfl)
 |x::ra,rb,i,h1,h2,h3=>by
  have hg:a[i]? = some x:=by
   have:=congrArg (·[0]?) h1
   simpa[List.getElem?_drop]using this
  have hd:a.drop (i+1)=ra:=by
   have:=congrArg (List.drop 1) h1
   simpa[List.drop_drop]using this
  simp only[List.length_cons]at h3
  match rb,h2 with
  | [],h2=>
   have:=congrArg List.length h2
   simp at this
   omega
  |y::rb,h2=>
   have hg2:b[i]? = some y:=by
    have:=congrArg (·[0]?) h2
    simpa[List.getElem?_drop]using this
   have hd2:b.drop (i+1)=rb:=by
    have:=congrArg (List.drop 1) h2
    simpa[List.drop_drop]using this
   have hlt:decide ((i:Int)<(a.length:Int))=true:=by simp;omega
   have i1:(i:Int)<(a.length:Int):=by omega
   have i2:(i:Int)<(b.length:Int):=by omega
   by_cases hxy:x=y
   ·subst hxy
    have hne:((x.toNat:Int)==(x.toNat:Int))=true:=by simp
    have hne2:((x.toNat:Int) != (x.toNat:Int))=false:=by simp
    have e:((x::ra)==(x::rb))=(ra==rb):=by simp
    rw[e,←same_in a b hl ha ra rb (i+1) hd hd2 (by omega)]
    obtain⟨b',hb'⟩:∃b',b'=m13b0:=⟨_,rfl⟩
    rw[RunL_eq,show Item.lp m13k0 m13b0=Item.lp m13k0 b' by rw[hb']]
    apply hide;intro rhs hrhs
    simp(maxSteps:=4000000)(disch:=first|exact dz|fail)only[bA.u,seval,cut,if_pos,if_neg,m13b0,R_m,hlt,i1,i2,hg,hg2,hne,hne2]
    repeat'((with_reducible first|refine sp ?_ ?_|fail)<;>intro hx<;>(try simp only[bI.u]at hx)<;>(first|exact xz|(try simp(maxSteps:=4000000)(disch:=first|exact dz|fail)only[bA.u,seval,cut,if_pos,if_neg,hx,m13b0,R_m,hlt,i1,i2,hg,hg2,hne,hne2])))
    all_goals first|exact xz|(subst hrhs;(subst hb';refine(congrArg (fin _) (Run_lp Q _ _ _ _)).trans ?_;exact congrArg (fin R_m) (RunL_canon (canon_cong kr kr kr))))
   ·have hn:¬(x.toNat:Int)=(y.toNat:Int):=fun h=>hxy (UInt8.toNat_inj.1 (by omega))
    have hne:((x.toNat:Int)==(y.toNat:Int))=false:=by simpa using hn
    have hne2:((x.toNat:Int) != (y.toNat:Int))=true:=by simpa using hn
    have e:((x::ra)==(y::rb))=false:=by simp[hxy]
    rw[e]
    obtain⟨b',hb'⟩:∃b',b'=m13b0:=⟨_,rfl⟩
    rw[RunL_eq,show Item.lp m13k0 m13b0=Item.lp m13k0 b' by rw[hb']]
    apply hide;intro rhs hrhs
    simp(maxSteps:=4000000)(disch:=first|exact dz|fail)only[bA.u,seval,cut,if_pos,if_neg,m13b0,m_tail,R_m,hlt,i1,i2,hg,hg2,hne,hne2]
    repeat'((with_reducible first|refine sp ?_ ?_|fail)<;>intro hx<;>(try simp only[bI.u]at hx)<;>(first|exact xz|(try simp(maxSteps:=4000000)(disch:=first|exact dz|fail)only[bA.u,seval,cut,if_pos,if_neg,hx,m13b0,m_tail,R_m,hlt,i1,i2,hg,hg2,hne,hne2])))
    all_goals first|exact xz|(subst hrhs;rfl)
theorem c_Same (a b:List UInt8) (ha:a.length<2^62):Call Q 13 [.bs a,.bs b]=some (.bool (a==b)):=by
 rw[Call_fn Q (m:=m13) rfl rfl]
 by_cases hl:a.length=b.length
 ·have h1:((a.length:Int)==(b.length:Int))=true:=by rw[hl];simp
  have h2:((a.length:Int) != (b.length:Int))=false:=by rw[hl];simp
  have loop:=same_in a b hl ha a b 0 rfl rfl (by simp)
  rw[show((0:Nat):Int)=0 from rfl]at loop
  apply hide;intro rhs hrhs
  simp(maxSteps:=4000000)(disch:=first|exact dz|fail)only[bA.u,seval,cut,if_pos,if_neg,m13,h1,h2,Run_loop]
  subst hrhs;exact(congrArg (fin _) (RunL_canon (canon_cong kr kr kr))).trans loop
 ·have hn:¬(a.length:Int)=(b.length:Int):=by omega
  have h1:((a.length:Int)==(b.length:Int))=false:=by simpa using hn
  have h2:((a.length:Int) != (b.length:Int))=true:=by simpa using hn
  have e:(a==b)=false:=by
   rw[beq_eq_false_iff_ne]
   rintro rfl
   exact hl rfl
  rw[e]
  apply hide;intro rhs hrhs
  simp(maxSteps:=4000000)(disch:=first|exact dz|fail)only[bA.u,seval,cut,if_pos,if_neg,m13,h1,h2]
  subst hrhs;rfl
end Go.Mini
namespace Go.Mini
open Go Go.Mini.Nm Go.Proofs.YtgiobgojobegfaaGreatDoor
set_option maxRecDepth 100000
set_option maxHeartbeats 80000000
theorem aF_le:∀(d:Dn) (n m:Int),0≤n→aF n d=some m→n≤m∧∀a∈d,(a.1.length:Int)≤m∧(a.2.length:Int)≤m
 | [],n,m,h0,h=>by rw[aF]at h;cases h;exact⟨Int.le_refl _,by simp⟩
 |a::r,n,m,h0,h=>by
  rw[aF]at h
  split at h
  ·cases h
  ·obtain⟨h1,h2⟩:=aF_le r _ m (by omega) h
   refine⟨by omega,fun x hx=>?_⟩
   rcases List.mem_cons.1 hx with rfl|hx
   ·omega
   ·exact h2 x hx
theorem dF_le:∀(ds:List Dn) (n m:Int),0≤n→dF n ds=some m→n≤m∧∀d∈ds,d.length≤100∧∀a∈d,(a.1.length:Int)≤m∧(a.2.length:Int)≤m
 | [],n,m,h0,h=>by rw[dF]at h;cases h;exact⟨Int.le_refl _,by simp⟩
 |d::r,n,m,h0,h=>by
  rw[dF]at h
  split at h
  ·cases h
  ·rename_i h100
   split at h
   ·cases h
   ·rename_i k hk
    obtain⟨a1,a2⟩:=aF_le d n k h0 hk
    obtain⟨h1,h2⟩:=dF_le r k m (by omega) h
    refine⟨by omega,fun x hx=>?_⟩
    rcases List.mem_cons.1 hx with rfl|hx
    ·exact⟨by omega,fun a ha=>by have:=a2 a ha;omega⟩
    ·exact h2 x hx
theorem gTxt_le:∀gs:List Gn,0≤gTxt gs∧∀g∈gs,(g.2.1.length:Int)≤gTxt gs
 | []=>by simp[gTxt]
 |g::r=>by
  obtain⟨h1,h2⟩:=gTxt_le r
  rw[gTxt]
  refine⟨by omega,fun x hx=>?_⟩
  rcases List.mem_cons.1 hx with rfl|hx
  ·omega
  ·have:=h2 x hx;omega
theorem lF_le:∀(ls:List (List Gn)) (n m:Int),0≤n→lF n ls=some m→n≤m∧∀gs∈ls,gs.length≤300∧∀g∈gs,(g.2.1.length:Int)≤m
 | [],n,m,h0,h=>by rw[lF]at h;cases h;exact⟨Int.le_refl _,by simp⟩
 |gs::r,n,m,h0,h=>by
  rw[lF]at h
  split at h
  ·cases h
  ·obtain⟨g1,g2⟩:=gTxt_le gs
   obtain⟨h1,h2⟩:=lF_le r _ m (by omega) h
   refine⟨by omega,fun x hx=>?_⟩
   rcases List.mem_cons.1 hx with rfl|hx
   ·exact⟨by omega,fun g hg=>by have:=g2 g hg;omega⟩
   ·exact h2 x hx
theorem szS_le {ds:List Dn} {ls:List (List Gn)} (h:szS ds ls≤5000):(∀gs∈ls,gs.length≤300∧∀g∈gs,g.2.1.length≤5000∧g.2.2.length≤100∧∀a∈g.2.2,a.1.length≤5000∧a.2.length≤5000)∧∀d∈ds,d.length≤100∧∀a∈d,a.1.length≤5000∧a.2.length≤5000:=by
 unfold szS at h
 split at h
 ·omega
 ·rename_i n hn
  split at h
  ·omega
  ·rename_i m hm
   obtain⟨l1,l2⟩:=lF_le ls 0 n (by omega) hn
   obtain⟨d1,d2⟩:=dF_le _ n m (by omega) hm
   refine⟨fun gs hgs=>⟨(l2 gs hgs).1,fun g hg=>?_⟩,fun d hd=>?_⟩
   ·have a:=(l2 gs hgs).2 g hg
    have b:=d2 g.2.2 (List.mem_append_right _ (List.mem_flatMap.2 ⟨gs,hgs,List.mem_map.2 ⟨g,hg,rfl⟩⟩))
    exact⟨by omega,b.1,fun x hx=>by have:=b.2 x hx;omega⟩
   ·have b:=d2 d (List.mem_append_left _ hd)
    exact⟨b.1,fun x hx=>by have:=b.2 x hx;omega⟩
structure CrtS (c:Crt):Prop where
 iss:okD c.issuer
 sub:okD c.subject
 alt:okGs c.alt
 per:okGs c.permit
 exc:okGs c.exclude
 key:c.key.length≤2^50
 sig:c.sig.length≤2^50
 serial:c.serial<9223372036854775808
 path:c.path<9223372036854775808
theorem okLens_of {d:Dn} (h:d.length≤100∧∀a∈d,a.1.length≤5000∧a.2.length≤5000):okLens d:=⟨by omega,fun a ha=>by have:=h.2 a ha;omega⟩
theorem okG_of {gs:List Gn} (h:gs.length≤300∧∀g∈gs,g.2.1.length≤5000∧g.2.2.length≤100∧∀a∈g.2.2,a.1.length≤5000∧a.2.length≤5000):okG gs∧gs.length≤2^20:=
 ⟨fun g hg=>⟨by have:=(h.2 g hg).1;omega,okLens_of (h.2 g hg).2⟩,by omega⟩
theorem crtB_of {c:Crt} (hs:CrtS c) (h1:(c.key.length:Int)+c.sig.length≤10000) (h2:szS [c.issuer,c.subject] [c.alt,c.permit,c.exclude]≤5000):CrtB c:=by
 obtain⟨a,b⟩:=szS_le h2
 have ga:=a c.alt (by simp)
 have gp:=a c.permit (by simp)
 have ge:=a c.exclude (by simp)
 exact { iss:=okLens_of (b _ (by simp)),sub:=okLens_of (b _ (by simp)),key:=by omega,alt:=okG_of ga,per:=okG_of gp,exc:=okG_of ge,sig:=by omega,
         ba:=gensT_szB false ga.1 fun g hg=>⟨(ga.2 g hg).1,fun x hx=>((ga.2 g hg).2.2 x hx).2⟩
         bp:=gensT_szB true gp.1 fun g hg=>⟨(gp.2 g hg).1,fun x hx=>((gp.2 g hg).2.2 x hx).2⟩
         be:=gensT_szB true ge.1 fun g hg=>⟨(ge.2 g hg).1,fun x hx=>((ge.2 g hg).2.2 x hx).2⟩
         serial:=hs.serial,path:=hs.path }
theorem one_ne {c d:Crt} (h:¬(c.serial=d.serial∧c.from_=d.from_∧c.to=d.to∧c.usage=d.usage∧c.key=d.key∧c.sig=d.sig∧c.ca=d.ca∧c.path=d.path)) (h1:(wrS (oneS c) (wholeT c)).1=0) (h2:(wrS (oneS d) (wholeT d)).1=0):
  ((wrS (oneS c) (wholeT c)).2==(wrS (oneS d) (wholeT d)).2)=false:=by
 obtain⟨a1,_,a3⟩:=wrote_ok h1
 obtain⟨b1,_,b3⟩:=wrote_ok h2
 rw[beq_eq_false_iff_ne]
 intro e
 rw[e,b3]at a3
 simp only[RD.ok.injEq]at a3
 exact h (whole_inj a1 b1 a3.symm)
theorem wrS_len (s:MS) (t:T):(wrS s t).2.length≤65536:=by
 unfold wrS
 split
 ·simp
 ·split
  ·simp
  ·exact wrW_short t
end Go.Mini

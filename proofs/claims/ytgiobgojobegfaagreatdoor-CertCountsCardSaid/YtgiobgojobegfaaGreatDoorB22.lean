/- a certificate's law by that interpreter (part 22): what the program's functions answer, or plain laws of it; no conditions. -/
import Derived.Test.YtgiobgojobegfaaGreatDoorB21
import Derived.Test.YtgiobgojobegfaaGreatDoorB19
set_option linter.all false
namespace Go.Mini
open Go Go.Mini.Nm Go.Proofs.YtgiobgojobegfaaGreatDoor
set_option maxRecDepth 100000
set_option maxHeartbeats 4000000
structure GT (lim:Bool) (g:Gn) (t:T):Prop where
 gen:genS g.1 g.2.1 g.2.2 lim= .ok t
 wr:(wrW t).1=0
 nrm:nrm t
 low:low t
 sz:sz t<900000
inductive GTs (lim:Bool):List Gn→List T→Prop
 |nil:GTs lim [] []
 |cons {g t gs ts}:GT lim g t→GTs lim gs ts→GTs lim (g::gs) (t::ts)
theorem q9 (t:T):∃c tg m w k,av t= .agg [.int .i64 c,.int .i64 tg,.bool m,w,k]∧Fs w∧Fs k:=by
 obtain⟨c,tg,m,b,ks⟩:=t
 refine⟨c,tg,m,_,_,aX c tg m b ks,?_,AX ks⟩
 cases m<;>exact⟨fun _=>rfl,rfl,rfl,rfl,rfl,fun _=>rfl,fun _=>rfl⟩
theorem yt {lim:Bool} {g:Gn} {t:T} (h:GT lim g t):∃dv,isDir dv g.2.2∧Call Q 101 [av t,.bool lim]=some (.tup [.agg [.int .i64 g.1,.str g.2.1,dv],.int .i64 0]):=by
 obtain⟨dv,h1,h2⟩:=Bo h.gen h.wr
 refine⟨dv,h1,?_⟩
 rw[Hj (av t) t (jw false t h.nrm) h.low h.sz lim,h2]
 rfl
theorem nY (b:Bool):(b||(0:Int) != 0)=b:=by cases b<;>rfl
theorem Bx (b:Bool) (l:List MV) (hl:l.length≤2^30):∀(gs:List Gn) (ts:List T) (i:Nat) (vs:List MV),GTs false gs ts→vs.length=i→l.drop i=ts.map av→i≤l.length →
  ∃gv,Gl gv gs∧ax 1 j5 (RunL Q m63k0 m63b0 [.blk 0,.code iC] (iK b false l vs i))=some (.sl 3 (vs++gv),[some (.cells [.bool b])])
 |_,_,i,vs,.nil,hi,hd,hle=>by
  have:i=l.length:=by
   have:=congrArg List.length hd
   simp at this;omega
  subst this
  refine⟨[],.nil,?_⟩
  rw[DL b false l vs hi,List.append_nil]
 |_,_,i,vs,.cons (g:=g) (t:=t) (ts:=ts) h hr,hi,hd,hle=>by
  obtain⟨dv,hdv,hc⟩:=yt h
  obtain⟨c,tg,m,w,k,he,hw,hk⟩:=q9 t
  have hg:l[i]? = some (av t):=by
   rw[←List.head?_drop,hd];rfl
  rw[he]at hg hc
  have hd2:l.drop (i+1)=ts.map av:=by
   rw[←List.drop_drop,hd];rfl
  have hlt:i<l.length:=(List.getElem?_eq_some_iff.1 hg).1
  obtain⟨gv,h1,h2⟩:=Bx b l hl _ ts (i+1) (vs++[.agg [.int .i64 g.1,.str g.2.1,dv]]) hr (by simp[hi]) hd2 (by omega)
  have hs:=FS [.blk 0,.code iC] b l hl vs i hi c tg m w k hw hk hg g.1 g.2.1 dv (bK hdv) 0 hc
  rw[nY]at hs
  refine⟨gM g.1 g.2.1 dv::gv,.cons hdv h1,?_⟩
  rw[hs,h2,List.append_assoc]
  rfl
theorem yu (b:Bool) (l:List MV) (hl:l.length≤2^30):∀(gs:List Gn) (ts:List T) (i:Nat) (vs:List MV),GTs true gs ts→vs.length=i→l.drop i=ts.map (fun t=>av (wt t))→i≤l.length →
  ∃gv,Gl gv gs∧ax 1 j5 (RunL Q m63k0 m63b0 [.blk 0,.code iC] (iK b true l vs i))=some (.sl 3 (vs++gv),[some (.cells [.bool b])])
 |_,_,i,vs,.nil,hi,hd,hle=>by
  have:i=l.length:=by
   have:=congrArg List.length hd
   simp at this;omega
  subst this
  refine⟨[],.nil,?_⟩
  rw[DL b true l vs hi,List.append_nil]
 |_,_,i,vs,.cons (g:=g) (t:=t) (ts:=ts) h hr,hi,hd,hle=>by
  obtain⟨dv,hdv,hc⟩:=yt h
  obtain⟨c,tg,m,w,k,he,hw,hk⟩:=q9 t
  have hg:l[i]? = some (.agg [.int .i64 0,.int .i64 16,.bool true,.nilsl,.sl 5 [av t]]):=by
   rw[←List.head?_drop,hd];rfl
  have h9:=df [av t] (by simp) 1 1 (by simp) (by simp) b
  rw[List.cons_append,List.nil_append]at h9
  rw[he]at hg hc h9
  have hd2:l.drop (i+1)=ts.map (fun t=>av (wt t)):=by
   rw[←List.drop_drop,hd];rfl
  have hlt:i<l.length:=(List.getElem?_eq_some_iff.1 hg).1
  obtain⟨gv,h1,h2⟩:=yu b l hl _ ts (i+1) (vs++[.agg [.int .i64 g.1,.str g.2.1,dv]]) hr (by simp[hi]) hd2 (by omega)
  have hs:=FT [.blk 0,.code iC] b l hl vs i hi c tg m w k hw hk 0 16 true .nilsl _ aV (dB _) _ b h9 hg g.1 g.2.1 dv (bK hdv) 0 hc
  rw[nY]at hs
  refine⟨gM g.1 g.2.1 dv::gv,.cons hdv h1,?_⟩
  rw[hs,h2,List.append_assoc]
  rfl
theorem tF (b:Bool) {gs:List Gn} {ts:List T} (h:GTs false gs ts) (hl:ts.length≤2^30):∃gv,Gl gv gs∧CallH Q 63 [.ptr 0 0,.sl 5 (ts.map av),.bool false] [.cells [.bool b]]=some (.sl 3 gv,[some (.cells [.bool b])]):=by
 obtain⟨gv,h1,h2⟩:=Bx b (ts.map av) (by simpa using hl) gs ts 0 [] h rfl rfl (Nat.zero_le _)
 exact⟨gv,h1,yr b false _ _ h2⟩
theorem q_ (b:Bool) {gs:List Gn} {ts:List T} (h:GTs true gs ts) (hl:ts.length≤2^30):∃gv,Gl gv gs∧CallH Q 63 [.ptr 0 0,.sl 5 (ts.map fun t=>av (wt t)),.bool true] [.cells [.bool b]]=some (.sl 3 gv,[some (.cells [.bool b])]):=by
 obtain⟨gv,h1,h2⟩:=yu b (ts.map fun t=>av (wt t)) (by simpa using hl) gs ts 0 [] h rfl rfl (Nat.zero_le _)
 exact⟨gv,h1,yr b true _ _ h2⟩
theorem wH (lim:Bool):∀(gs:List Gn) (ts0 ts:List T),aG (gG lim) ts0 gs= .inl ts→∃us,ts=ts0++us∧((∀u∈us,(wrW u).1=0∧nrm u∧low u∧sz u<900000)→GTs lim gs us)
 | [],ts0,ts,h=>by cases h;exact⟨[],by simp,fun _=>.nil⟩
 |g::gs,ts0,ts,h=>by
  rw[bw]at h
  unfold gG at h
  cases hx:genS g.1 g.2.1 g.2.2 lim with
  |er e=>rw[hx]at h;cases h
  |ok x=>
   rw[hx]at h
   obtain⟨us,h1,h2⟩:=wH lim gs (ts0++[x]) ts h
   refine⟨x::us,by rw[h1];simp,fun hu=>?_⟩
   have h3:=hu x (by simp)
   exact .cons ⟨hx,h3.1,h3.2.1,h3.2.2.1,h3.2.2.2⟩ (h2 fun u m=>hu u (by simp[m]))
theorem yv:∀(k:Nat) (n:Int) (acc:List UInt8),0≤n→n<128*256^k→∀m,k≤m→(eJ (m+1) n acc).length≤acc.length+k+1
 | 0,n,acc,h0,h,m,hm=>by
  rw[eJ,if_pos (by omega)]
  simp
 |k+1,n,acc,h0,h,m,hm=>by
  rw[eJ]
  by_cases hn:n<128
  ·rw[if_pos hn];simp
  ·rw[if_neg hn]
   obtain⟨m',rfl⟩:∃m',m=m'+1:=⟨m-1,by omega⟩
   have:=yv k (n/256) (UInt8.ofNat (n%256).toNat::acc) (by omega) (by rw[Int.pow_succ]at h;omega) m' (by omega)
   simp only[List.length_cons]at this
   omega
theorem yw {n:Int} (h0:0≤n) (h:n<9223372036854775808):(aE n).length≤8:=by
 unfold aE
 rw[if_neg (by omega)]
 have:=yv 7 n [] h0 (by omega) 8 (by omega)
 simpa using this
theorem nZ {t:T} (hl:low t) (h:(wrW t).1=0):Call Q 77 [.bs (wrW t).2]=some (.tup [av t,.int .i64 0]):=by
 have h1:=jU t hl h
 have h2:(wrW t).2.length≤65536:=by
  by_cases hb:65536<(wrW t).2.length
  ·unfold lG at h1
   rw[if_pos hb]at h1
   cases h1
  ·omega
 rw[pR _ (by omega),h1]
 rfl
structure CV where
 a0:Int
 a1:Int
 a4:Int
 a5:Int
 a6:Int
 ca:Bool
 pa:Int
 us:Int
 iss:MV
 sub:MV
 key:MV
 alt:MV
 per:MV
 exc:MV
 sig:MV
def CV.l (v:CV):List MV:=[.int .i64 v.a0,.int .i64 v.a1,v.iss,v.sub,.int .i64 v.a4,.int .i64 v.a5,.int .i64 v.a6,v.key,.bool v.ca,.int .i64 v.pa,.int .i64 v.us,v.alt,v.per,v.exc,v.sig]
structure CVF (v:CV):Prop where
 f1:Fs v.iss
 f2:Fs v.sub
 f3:Fs v.key
 f4:Fs v.alt
 f5:Fs v.per
 f6:Fs v.exc
 f7:Fs v.sig
def p_st (b:Bool) (l:List MV) (v:CV) (i:Nat):DS:=⟨[(0,.ptr 0 0),(8,.ptr 1 0),(9,.ptr 2 0),(76,.sl 5 l),(77,.int .i64 l.length),(78,.int .i64 i)],[],[(0,.cells [.bool b]),(1,.cells [.int .i64 0,.int .i64 0,.nilsl,.nilsl,.int .i64 0,.int .i64 0,.int .i64 0,.nilsl,.bool false,.int .i64 0,.int .i64 0,.nilsl,.nilsl,.nilsl,.nilsl]),(2,.cells v.l)],4⟩
noncomputable def p_go (b:Bool) (l:List MV) (v:CV) (i:Nat):Option (MV × List (Option Obj)):=ax 1 R_p (RunL Q m36k0 m36b0 [.blk 0,.code p_tail] (p_st b l v i))
theorem By (b:Bool) (l:List MV) (v:CV) (hv:CVF v) (i:Nat) (hi:l.length≤i):p_go b l v i=some (.agg v.l,[some (.cells [.bool b])]):=
 p_end b v.a0 v.a1 v.a4 v.a5 v.a6 v.ca v.pa v.us v.iss v.sub v.key v.alt v.per v.exc v.sig hv.f1 hv.f2 hv.f3 hv.f4 hv.f5 hv.f6 hv.f7 l i hi
theorem jD (b:Bool) (l:List MV) (hl:l.length≤2^30) (v:CV) (hv:CVF v) (ca:Bool) (pa us:Int) (alt per exc:MV) (h4:Fs alt) (h5:Fs per) (h6:Fs exc) (i:Nat) (el:List MV) (hg:l[i]? = some (.agg [.int .i64 0,.int .i64 16,.bool true,.nilsl,.sl 5 el]))
  (hc:CallH Q 43 [.ptr 0 0,.ptr 1 0,.agg [.int .i64 0,.int .i64 16,.bool true,.nilsl,.sl 5 el]] [.cells [.bool b],.cells v.l]=some (.tup [],[some (.cells [.bool b]),some (.cells ({ v with ca:=ca,pa:=pa,us:=us,alt:=alt,per:=per,exc:=exc }:CV).l)])):
  p_go b l v i=p_go b l { v with ca:=ca,pa:=pa,us:=us,alt:=alt,per:=per,exc:=exc } (i+1):=
 IV b v.a0 v.a1 v.a4 v.a5 v.a6 v.ca v.pa v.us v.iss v.sub v.key v.alt v.per v.exc v.sig hv.f1 hv.f2 hv.f3 hv.f4 hv.f5 hv.f6 hv.f7 ca pa us alt per exc h4 h5 h6 l hl i el hg hc
def tG (x:List UInt8 × Bool × List UInt8):MV:=av (jv x.1 x.2.1 x.2.2)
theorem lY {l r:List MV} {a:MV} {i:Nat} (h:l.drop i=a::r):l[i]? = some a∧l.drop (i+1)=r:=by
 refine⟨by rw[←List.head?_drop,h];rfl,?_⟩
 rw[←List.drop_drop,h];rfl
theorem s_B (b:Bool) (l r:List MV) (hl:l.length≤2^30) (v:CV) (hv:CVF v) (c:Crt) (hp:pathOK c=true) (hca:v.ca=false) (hpa:v.pa= -1) (i:Nat) (h:l.drop i=(eB c).map tG++r):
  ∃j,l.drop j=r∧p_go b l v i=p_go b l { v with ca:=c.ca,pa:=c.path } j:=by
 unfold pathOK at hp
 simp only[Bool.and_eq_true,decide_eq_true_eq,Bool.or_eq_true,beq_iff_eq]at hp
 cases hc:c.ca
 ·have:c.path= -1:=by simpa[hc]using hp.2
  unfold eB at h
  rw[hc]at h
  refine⟨i,by simpa using h,?_⟩
  rw[this,←hca,←hpa]
 ·unfold eB at h
  rw[hc,if_pos rfl,List.map_cons,List.map_nil,List.cons_append,List.nil_append]at h
  obtain⟨h1,h2⟩:=lY h
  refine⟨i+1,h2,?_⟩
  have hr:=nZ (nw c.path) (Bg (by omega))
  by_cases hq:0≤c.path
  ·have e:aU (aE c.path)=c.path.toNat:=wy hq (by omega)
   have hm:av (basicT c.path)= .agg [.int .i64 0,.int .i64 16,.bool true,.nilsl,.sl 5 [.agg [.int .i64 0,.int .i64 1,.bool false,.bs [255],.nilsl],.agg [.int .i64 0,.int .i64 2,.bool false,.bs (aE c.path),.nilsl]]]:=by unfold basicT;rw[if_pos hq];rfl
   rw[hm]at hr
   have hx:=IU (wrW (basicT c.path)).2 b (aE c.path) (by omega) (yw hq (by omega)) hr v.a0 v.a1 v.a4 v.a5 v.a6 v.ca v.pa v.us v.iss v.sub v.key v.alt v.per v.exc v.sig hv.f1 hv.f2 hv.f3 hv.f4 hv.f5 hv.f6 hv.f7
   rw[show((aU (aE c.path):Nat):Int)=c.path by omega]at hx
   exact jD b l hl v hv true c.path v.us v.alt v.per v.exc hv.f4 hv.f5 hv.f6 i _ h1 hx
  ·have hm:av (basicT c.path)= .agg [.int .i64 0,.int .i64 16,.bool true,.nilsl,.sl 5 [.agg [.int .i64 0,.int .i64 1,.bool false,.bs [255],.nilsl]]]:=by unfold basicT;rw[if_neg hq];rfl
   rw[hm]at hr
   have hx:=IT (wrW (basicT c.path)).2 b hr v.a0 v.a1 v.a4 v.a5 v.a6 v.ca v.pa v.us v.iss v.sub v.key v.alt v.per v.exc v.sig hv.f1 hv.f2 hv.f3 hv.f4 hv.f5 hv.f6 hv.f7
   have:c.path=v.pa:=by omega
   rw[this]
   exact jD b l hl v hv true v.pa v.us v.alt v.per v.exc hv.f4 hv.f5 hv.f6 i _ h1 hx
def Jd (l:List UInt8):Int:=match l with
 | [_,x]=>j6 0 (cI x).toNat
 | [_,x,y]=>j6 (j6 0 (cI x).toNat) ((cI y).toNat*256)
 |_=>0
theorem IW:(List.range 512).all (fun n=>n==0||((wrW (flT (n:Int))).1==0&&Jd (mA (n:Int))==(n:Int)))=true:=by kernel_rfl
theorem FY {n:Int} (h:0<n∧n≤511):(wrW (flT n)).1=0∧Jd (mA n)=n:=by
 obtain⟨m,rfl⟩:=Int.eq_ofNat_of_zero_le (show 0≤n by omega)
 have h1:=List.all_eq_true.1 IW m (List.mem_range.2 (by omega))
 simp only[Bool.or_eq_true,beq_iff_eq,Bool.and_eq_true]at h1
 rcases h1 with h1|h1
 ·omega
 ·exact h1
theorem s_U (b:Bool) (l r:List MV) (hl:l.length≤2^30) (v:CV) (hv:CVF v) (c:Crt) (hu:0≤c.usage∧c.usage≤511) (hus:v.us=0) (i:Nat) (h:l.drop i=(eU c).map tG++r):
  ∃j,l.drop j=r∧p_go b l v i=p_go b l { v with us:=c.usage } j:=by
 unfold eU at h
 by_cases h0:c.usage=0
 ·rw[if_pos h0]at h
  refine⟨i,by simpa using h,?_⟩
  rw[h0,←hus]
 ·rw[if_neg h0,List.map_cons,List.map_nil,List.cons_append,List.nil_append]at h
  obtain⟨h1,h2⟩:=lY h
  refine⟨i+1,h2,?_⟩
  obtain⟨e1,e2⟩:=FY (n:=c.usage) (by omega)
  have hlw:low (flT c.usage):=by unfold flT;rw[low];exact⟨by omega,trivial⟩
  have hr:=nZ hlw e1
  rw[show av (flT c.usage)= .agg [.int .i64 0,.int .i64 3,.bool false,.bs (mA c.usage),.nilsl]from rfl]at hr
  refine jD b l hl v hv v.ca v.pa c.usage v.alt v.per v.exc hv.f4 hv.f5 hv.f6 i _ h1 ?_
  have hfl:(∃u x,mA c.usage=[u,x])∨∃u x y,mA c.usage=[u,x,y]:=by
   unfold mA;split
   ·exact .inr ⟨_,_,_,rfl⟩
   ·exact .inl ⟨_,_,rfl⟩
  rcases hfl with⟨u,x,hf⟩|⟨u,x,y,hf⟩
  ·rw[hf]at hr e2
   have e3:j6 v.us (cI x).toNat=c.usage:=by rw[hus];exact e2
   have k1:=Bt b v.a0 v.a1 v.a4 v.a5 v.a6 v.ca v.pa v.us v.iss v.sub v.key v.alt v.per v.exc v.sig hv.f1 hv.f2 hv.f3 hv.f4 hv.f5 hv.f6 hv.f7 [x] x rfl
   have k2:=DM b v.a0 v.a1 v.a4 v.a5 v.a6 v.ca v.pa (j6 v.us (cI x).toNat) v.iss v.sub v.key v.alt v.per v.exc v.sig hv.f1 hv.f2 hv.f3 hv.f4 hv.f5 hv.f6 hv.f7 [x] 1 rfl
   rw[e3]at k1 k2
   exact HY (wrW (flT c.usage)).2 b u [x] (by simp) hr v.a0 v.a1 v.a4 v.a5 v.a6 v.ca v.pa v.us v.iss v.sub v.key v.alt v.per v.exc v.sig hv.f1 hv.f2 hv.f3 hv.f4 hv.f5 hv.f6 hv.f7 _ (k1.trans k2)
  ·rw[hf]at hr e2
   have e3:j6 (j6 v.us (cI x).toNat) ((cI y).toNat*256)=c.usage:=by rw[hus];exact e2
   have k1:=Bt b v.a0 v.a1 v.a4 v.a5 v.a6 v.ca v.pa v.us v.iss v.sub v.key v.alt v.per v.exc v.sig hv.f1 hv.f2 hv.f3 hv.f4 hv.f5 hv.f6 hv.f7 [x,y] x rfl
   have k2:=HX b v.a0 v.a1 v.a4 v.a5 v.a6 v.ca v.pa (j6 v.us (cI x).toNat) v.iss v.sub v.key v.alt v.per v.exc v.sig hv.f1 hv.f2 hv.f3 hv.f4 hv.f5 hv.f6 hv.f7 [x,y] y rfl
   have k3:=DM b v.a0 v.a1 v.a4 v.a5 v.a6 v.ca v.pa (j6 (j6 v.us (cI x).toNat) ((cI y).toNat*256)) v.iss v.sub v.key v.alt v.per v.exc v.sig hv.f1 hv.f2 hv.f3 hv.f4 hv.f5 hv.f6 hv.f7 [x,y] 2 rfl
   rw[e3]at k2 k3
   exact HY (wrW (flT c.usage)).2 b u [x,y] (by simp) hr v.a0 v.a1 v.a4 v.a5 v.a6 v.ca v.pa v.us v.iss v.sub v.key v.alt v.per v.exc v.sig hv.f1 hv.f2 hv.f3 hv.f4 hv.f5 hv.f6 hv.f7 _ (k1.trans (k2.trans k3))
theorem GTs.length {lim:Bool} {gs:List Gn} {ts:List T} (h:GTs lim gs ts):ts.length=gs.length:=by
 induction h with
 |nil=>rfl
 |cons _ _ ih=>simp[ih]
theorem iq (l:List MV):Fs (.sl 3 l):=⟨fun _=>rfl,rfl,rfl,rfl,rfl,fun _=>rfl,fun _=>rfl⟩
theorem dN {ks:List T} (h:ks.length≠0):dm ks= .sl 5 (ks.map av):=by
 cases ks with
 |nil=>exact(h rfl).elim
 |cons k q=>rw[show dm (k::q)= .sl 5 (kw (k::q))from rfl,jl]
theorem s_A (b:Bool) (l r:List MV) (hl:l.length≤2^30) (v:CV) (hv:CVF v) (c:Crt) (hg:GTs false c.alt (gensT false c.alt)) (hn:c.alt.length≤256) (hlw:low (altT c.alt)) (hw:c.alt.length≠0→(wrW (altT c.alt)).1=0) (ha:v.alt= .nilsl) (i:Nat) (h:l.drop i=(eA c).map tG++r):
  ∃w,Gs w c.alt∧∃j,l.drop j=r∧p_go b l v i=p_go b l { v with alt:=w } j:=by
 unfold eA at h
 by_cases h0:c.alt.length=0
 ·rw[if_pos h0]at h
  refine⟨.nilsl,.inr ⟨rfl,List.eq_nil_of_length_eq_zero h0⟩,i,by simpa using h,?_⟩
  rw[←ha]
 ·rw[if_neg h0,List.map_cons,List.map_nil,List.cons_append,List.nil_append]at h
  obtain⟨h1,h2⟩:=lY h
  have hgl:=hg.length
  obtain⟨gv,g1,g2⟩:=tF b hg (by omega)
  refine⟨.sl 3 gv,.inl ⟨gv,rfl,g1⟩,i+1,h2,?_⟩
  have hr:=nZ hlw (hw h0)
  have hm:av (altT c.alt)= .agg [.int .i64 0,.int .i64 16,.bool true,.nilsl,.sl 5 ((gensT false c.alt).map av)]:=by
   unfold altT
   rw[aX]
   rw[dN (by omega)]
   rfl
  rw[hm]at hr
  refine jD b l hl v hv v.ca v.pa v.us (.sl 3 gv) v.per v.exc (iq gv) hv.f5 hv.f6 i _ h1 ?_
  exact JF (wrW (altT c.alt)).2 b ((gensT false c.alt).map av) (by simp;omega) gv b g2 hr v.a0 v.a1 v.a4 v.a5 v.a6 v.ca v.pa v.us v.iss v.sub v.key v.alt v.per v.exc v.sig hv.f1 hv.f2 hv.f3 hv.f4 hv.f5 hv.f6 hv.f7
theorem n6 (k:Int) {gs:List Gn} (h:(gensT true gs).length=gs.length) (h0:gs.length≠0):(cD k gs).map av=[.agg [.int .i64 2,.int .i64 k,.bool true,.nilsl,.sl 5 ((gensT true gs).map fun t=>av (wt t))]]:=by
 unfold cD
 rw[if_neg h0,List.map_cons,List.map_nil,aX,dN (by rw[List.length_map];omega),List.map_map]
 rfl
theorem s_L (b:Bool) (l r:List MV) (hl:l.length≤2^30) (v:CV) (hv:CVF v) (c:Crt) (hp:GTs true c.permit (gensT true c.permit)) (he:GTs true c.exclude (gensT true c.exclude)) (np:c.permit.length≤256) (ne:c.exclude.length≤256) (hlw:low (limT c.permit c.exclude)) (hw:c.permit.length+c.exclude.length≠0→(wrW (limT c.permit c.exclude)).1=0) (h5:v.per= .nilsl) (h6:v.exc= .nilsl) (i:Nat) (h:l.drop i=(eL c).map tG++r):
  ∃w x,Gs w c.permit∧Gs x c.exclude∧∃j,l.drop j=r∧p_go b l v i=p_go b l { v with per:=w,exc:=x } j:=by
 unfold eL at h
 by_cases h0:c.permit.length+c.exclude.length=0
 ·rw[if_pos h0]at h
  refine⟨.nilsl,.nilsl,.inr ⟨rfl,List.eq_nil_of_length_eq_zero (by omega)⟩,.inr ⟨rfl,List.eq_nil_of_length_eq_zero (by omega)⟩,i,by simpa using h,?_⟩
  have hz:({ v with per:=.nilsl,exc:=.nilsl }:CV)=v:=by
   cases v;simp only at h5 h6;rw[h5,h6]
  rw[hz]
 ·rw[if_neg h0,List.map_cons,List.map_nil,List.cons_append,List.nil_append]at h
  obtain⟨h1,h2⟩:=lY h
  have lp:=hp.length
  have le:=he.length
  have hr:=nZ hlw (hw h0)
  obtain⟨gp,p1,p2⟩:=q_ b hp (by omega)
  obtain⟨ge,e1,e2⟩:=q_ b he (by omega)
  have hm:cD 0 c.permit++cD 1 c.exclude≠[]→av (limT c.permit c.exclude)= .agg [.int .i64 0,.int .i64 16,.bool true,.nilsl,.sl 5 ((cD 0 c.permit).map av++(cD 1 c.exclude).map av)]:=by
   intro hne
   unfold limT
   rw[aX,dN (fun h=>hne (List.eq_nil_of_length_eq_zero h)),List.map_append]
   rfl
  by_cases q1:c.permit.length=0
  ·have z1:cD 0 c.permit=[]:=by unfold cD;rw[if_pos q1]
   have z2:=n6 1 le (by omega)
   rw[z1,z2]at hm
   simp only[List.map_nil,List.nil_append]at hm
   rw[hm (by intro hh;rw[hh]at z2;cases z2)]at hr
   refine⟨.nilsl,.sl 3 ge,.inr ⟨rfl,List.eq_nil_of_length_eq_zero q1⟩,.inl ⟨ge,rfl,e1⟩,i+1,h2,?_⟩
   rw[←h5]
   refine jD b l hl v hv v.ca v.pa v.us v.alt v.per (.sl 3 ge) hv.f4 hv.f5 (iq ge) i _ h1 ?_
   have k1:=Bw b v.a0 v.a1 v.a4 v.a5 v.a6 v.ca v.pa v.us v.iss v.sub v.key v.alt v.per v.exc v.sig hv.f1 hv.f2 hv.f3 hv.f4 hv.f5 hv.f6 hv.f7 [.agg [.int .i64 2,.int .i64 1,.bool true,.nilsl,.sl 5 ((gensT true c.exclude).map fun t=>av (wt t))]] (by simp) 0 _ (by rfl) ge b e2
   have k2:=zp b v.a0 v.a1 v.a4 v.a5 v.a6 v.ca v.pa v.us v.iss v.sub v.key v.alt v.per (.sl 3 ge) v.sig hv.f1 hv.f2 hv.f3 hv.f4 hv.f5 (iq ge) hv.f7 [.agg [.int .i64 2,.int .i64 1,.bool true,.nilsl,.sl 5 ((gensT true c.exclude).map fun t=>av (wt t))]]
   exact Dj (wrW (limT c.permit c.exclude)).2 b _ (by simp) hr v.a0 v.a1 v.a4 v.a5 v.a6 v.ca v.pa v.us v.iss v.sub v.key v.alt v.per v.exc v.sig hv.f1 hv.f2 hv.f3 hv.f4 hv.f5 hv.f6 hv.f7 _ (k1.trans k2)
  ·by_cases q2:c.exclude.length=0
   ·have z2:cD 1 c.exclude=[]:=by unfold cD;rw[if_pos q2]
    have z1:=n6 0 lp (by omega)
    rw[z1,z2]at hm
    simp only[List.map_nil,List.append_nil]at hm
    rw[hm (by intro hh;rw[hh]at z1;cases z1)]at hr
    refine⟨.sl 3 gp,.nilsl,.inl ⟨gp,rfl,p1⟩,.inr ⟨rfl,List.eq_nil_of_length_eq_zero q2⟩,i+1,h2,?_⟩
    rw[←h6]
    refine jD b l hl v hv v.ca v.pa v.us v.alt (.sl 3 gp) v.exc hv.f4 (iq gp) hv.f6 i _ h1 ?_
    have k1:=Bv b v.a0 v.a1 v.a4 v.a5 v.a6 v.ca v.pa v.us v.iss v.sub v.key v.alt v.per v.exc v.sig hv.f1 hv.f2 hv.f3 hv.f4 hv.f5 hv.f6 hv.f7 [.agg [.int .i64 2,.int .i64 0,.bool true,.nilsl,.sl 5 ((gensT true c.permit).map fun t=>av (wt t))]] (by simp) 0 _ (by rfl) gp b p2
    have k2:=zp b v.a0 v.a1 v.a4 v.a5 v.a6 v.ca v.pa v.us v.iss v.sub v.key v.alt (.sl 3 gp) v.exc v.sig hv.f1 hv.f2 hv.f3 hv.f4 (iq gp) hv.f6 hv.f7 [.agg [.int .i64 2,.int .i64 0,.bool true,.nilsl,.sl 5 ((gensT true c.permit).map fun t=>av (wt t))]]
    exact Dj (wrW (limT c.permit c.exclude)).2 b _ (by simp) hr v.a0 v.a1 v.a4 v.a5 v.a6 v.ca v.pa v.us v.iss v.sub v.key v.alt v.per v.exc v.sig hv.f1 hv.f2 hv.f3 hv.f4 hv.f5 hv.f6 hv.f7 _ (k1.trans k2)
   ·have z1:=n6 0 lp q1
    have z2:=n6 1 le q2
    rw[z1,z2,List.cons_append,List.nil_append]at hm
    rw[hm (by intro hh;rw[(List.append_eq_nil_iff.1 hh).1]at z1;cases z1)]at hr
    refine⟨.sl 3 gp,.sl 3 ge,.inl ⟨gp,rfl,p1⟩,.inl ⟨ge,rfl,e1⟩,i+1,h2,?_⟩
    refine jD b l hl v hv v.ca v.pa v.us v.alt (.sl 3 gp) (.sl 3 ge) hv.f4 (iq gp) (iq ge) i _ h1 ?_
    have k1:=Bv b v.a0 v.a1 v.a4 v.a5 v.a6 v.ca v.pa v.us v.iss v.sub v.key v.alt v.per v.exc v.sig hv.f1 hv.f2 hv.f3 hv.f4 hv.f5 hv.f6 hv.f7 [.agg [.int .i64 2,.int .i64 0,.bool true,.nilsl,.sl 5 ((gensT true c.permit).map fun t=>av (wt t))],.agg [.int .i64 2,.int .i64 1,.bool true,.nilsl,.sl 5 ((gensT true c.exclude).map fun t=>av (wt t))]] (by simp) 0 _ (by rfl) gp b p2
    have k2:=Bw b v.a0 v.a1 v.a4 v.a5 v.a6 v.ca v.pa v.us v.iss v.sub v.key v.alt (.sl 3 gp) v.exc v.sig hv.f1 hv.f2 hv.f3 hv.f4 (iq gp) hv.f6 hv.f7 [.agg [.int .i64 2,.int .i64 0,.bool true,.nilsl,.sl 5 ((gensT true c.permit).map fun t=>av (wt t))],.agg [.int .i64 2,.int .i64 1,.bool true,.nilsl,.sl 5 ((gensT true c.exclude).map fun t=>av (wt t))]] (by simp) 1 _ (by rfl) ge b e2
    have k3:=zp b v.a0 v.a1 v.a4 v.a5 v.a6 v.ca v.pa v.us v.iss v.sub v.key v.alt (.sl 3 gp) (.sl 3 ge) v.sig hv.f1 hv.f2 hv.f3 hv.f4 (iq gp) (iq ge) hv.f7 [.agg [.int .i64 2,.int .i64 0,.bool true,.nilsl,.sl 5 ((gensT true c.permit).map fun t=>av (wt t))],.agg [.int .i64 2,.int .i64 1,.bool true,.nilsl,.sl 5 ((gensT true c.exclude).map fun t=>av (wt t))]]
    exact Dj (wrW (limT c.permit c.exclude)).2 b _ (by simp) hr v.a0 v.a1 v.a4 v.a5 v.a6 v.ca v.pa v.us v.iss v.sub v.key v.alt v.per v.exc v.sig hv.f1 hv.f2 hv.f3 hv.f4 hv.f5 hv.f6 hv.f7 _ (k1.trans (k2.trans k3))
theorem Dm (c t:Int) (m:Bool):1≤(cw c t m).length:=by unfold cw;split<;>simp
theorem Do (n:Nat):1≤(ch n).length:=by unfold ch;(repeat' split)<;>simp
theorem HZ {d:Nat} {c t:Int} {m:Bool} {b:List UInt8} {ks:List T} (h:(wr d (.mk c t m b ks)).1=0):(wr d (.mk c t m b ks)).2=cw c t m++(ch (if m then(aP (d+1) ks).2.flatten else b).length++(if m then(aP (d+1) ks).2.flatten else b)):=by
 obtain⟨a1,a2,a3,a4,a5,a6,a7⟩:=iR h
 rw[wr]
 unfold gc
 rw[if_neg (by omega),if_neg (by simp[a2]),if_neg (by omega),if_neg (by
  rintro(h|⟨h,h'⟩|⟨h,h'⟩)
  ·exact h a3
  ·exact h' (a4 h)
  ·rw[a5 h]at h';simp at h'),if_neg (by omega),if_neg a7]
mutual
theorem DN (d:Nat):∀t:T,(wr d t).1=0→sz t≤8*(wr d t).2.length
 | .mk c t m b ks,h=>by
  obtain⟨a1,a2,a3,a4,a5,a6,a7⟩:=iR h
  have ih:=Bz (d+1) ks a6
  have e:=HZ h
  have p1:=Dm c t m
  have p2:=Do (if m then(aP (d+1) ks).2.flatten else b).length
  rw[e,sz]
  simp only[List.length_append]
  cases m
  ·rw[a5 rfl]at ih ⊢
   simp only[Bool.false_eq_true,if_false,szs]at p2 ⊢
   omega
  ·rw[a4 rfl]
   simp only[if_true,List.length_nil]at p2 ⊢
   omega
theorem Bz (d:Nat):∀ks:List T,(aP d ks).1=0→szs ks≤8*(aP d ks).2.flatten.length
 | [],_=>by simp[szs]
 |a::r,h=>by
  rw[aP]at h ⊢
  by_cases h1:(wr d a).1=0
  ·rw[if_neg (by simp[h1])]at h ⊢
   by_cases h2:(aP d r).1=0
   ·rw[if_neg (by simp[h2])]
    have i1:=DN d a h1
    have i2:=Bz d r h2
    rw[szs,List.flatten_cons,List.length_append]
    omega
   ·rw[if_pos h2]at h;exact absurd h h2
  ·rw[if_pos h1]at h;exact absurd h h1
end
theorem ra {t:T} (h:(wrW t).1=0):sz t<900000:=by
 obtain⟨h1,h2⟩:=wD h
 have:=DN 0 t h1
 omega
theorem oZ:∀ {ts:List T},bU ts→∀t∈ts,nrm t
 | [],_,t,h=>by simp at h
 |k::r,hl,t,h=>by
  rw[bU]at hl
  rcases List.mem_cons.1 h with rfl|h
  ·exact hl.1
  ·exact oZ hl.2 t h
theorem FZ {c:Crt} (hg:gOK false c.alt) (hw:c.alt.length≠0→(wrW (altT c.alt)).1=0):GTs false c.alt (gensT false c.alt):=by
 obtain⟨us,h1,h2⟩:=wH false c.alt [] _ hg.2
 rw[List.nil_append]at h1
 rw[h1]
 apply h2
 intro u hu
 rw[←h1]at hu
 obtain⟨f1,f2⟩:=cE false c.alt
 have hne:c.alt.length≠0:=by
  intro h0
  rw[List.eq_nil_of_length_eq_zero h0]at hu
  simp[gensT,aG]at hu
 have hk:(wrW u).1=0:=dk (hw hne) hu
 exact⟨hk,oZ f2 u hu,jk f1 u hu,ra hk⟩
theorem yx {gs:List Gn} (k:Int) (hg:gOK true gs) (hw:gs.length≠0→∀x∈cD k gs,(wrW x).1=0):GTs true gs (gensT true gs):=by
 obtain⟨us,h1,h2⟩:=wH true gs [] _ hg.2
 rw[List.nil_append]at h1
 rw[h1]
 apply h2
 intro u hu
 rw[←h1]at hu
 obtain⟨f1,f2⟩:=cE true gs
 have hne:gs.length≠0:=by
  intro h0
  rw[List.eq_nil_of_length_eq_zero h0]at hu
  simp[gensT,aG]at hu
 have hx:=hw hne (.mk 2 k true [] ((gensT true gs).map wt)) (by unfold cD;rw[if_neg hne];simp)
 have hk:(wrW u).1=0:=dk (dk hx (List.mem_map.2 ⟨u,hu,rfl⟩)) (List.mem_singleton.2 rfl)
 exact⟨hk,oZ f2 u hu,jk f1 u hu,ra hk⟩
theorem F0 (gs:List Gn):low (altT gs):=by
 unfold altT;rw[low];exact⟨by omega,(cE false gs).1⟩
theorem tH (b:Bool) (c:Crt) (hok:CrtOK c) (ha:c.alt.length≠0→(wrW (altT c.alt)).1=0) (hl:c.permit.length+c.exclude.length≠0→(wrW (limT c.permit c.exclude)).1=0) (l:List MV) (hL:l=(b9 c).map av) (v:CV) (hv:CVF v) (h1:v.ca=false) (h2:v.pa= -1) (h3:v.us=0) (h4:v.alt= .nilsl) (h5:v.per= .nilsl) (h6:v.exc= .nilsl):
  ∃w p x,Gs w c.alt∧Gs p c.permit∧Gs x c.exclude∧p_go b l v 0=some (.agg ({ v with ca:=c.ca,pa:=c.path,us:=c.usage,alt:=w,per:=p,exc:=x }:CV).l,[some (.cells [.bool b])]):=by
 have hd:l.drop 0=(eB c).map tG++((eU c).map tG++((eA c).map tG++((eL c).map tG++[]))):=by
  rw[hL,List.drop_zero]
  unfold b9 de
  rw[List.map_map,List.append_nil]
  simp only[List.map_append]
  rfl
 have hll:l.length≤2^30:=by
  have:l.length≤4:=by
   rw[hL]
   unfold b9 de eB eU eA eL
   (repeat' split)<;>simp
  omega
 have hp:=yx 0 hok.per (fun hne x hx=>dk (hl (by omega)) (List.mem_append_left _ hx))
 have he:=yx 1 hok.exc (fun hne x hx=>dk (hl (by omega)) (List.mem_append_right _ hx))
 obtain⟨j1,d1,e1⟩:=s_B b l _ hll v hv c hok.path h1 h2 0 hd
 obtain⟨j2,d2,e2⟩:=s_U b l _ hll { v with ca:=c.ca,pa:=c.path } ⟨hv.f1,hv.f2,hv.f3,hv.f4,hv.f5,hv.f6,hv.f7⟩ c hok.usage h3 j1 d1
 obtain⟨w,gw,j3,d3,e3⟩:=s_A b l _ hll { v with ca:=c.ca,pa:=c.path,us:=c.usage } ⟨hv.f1,hv.f2,hv.f3,hv.f4,hv.f5,hv.f6,hv.f7⟩ c (FZ hok.alt ha) hok.alt.1 (F0 _) ha h4 j2 d2
 obtain⟨p,x,gp,gx,j4,d4,e4⟩:=s_L b l [] hll { v with ca:=c.ca,pa:=c.path,us:=c.usage,alt:=w } ⟨hv.f1,hv.f2,hv.f3,gw.fs,hv.f5,hv.f6,hv.f7⟩ c hp he hok.per.1 hok.exc.1 (yd _ _) hl h5 h6 j3 d3
 have hj:p_go b l { v with ca:=c.ca,pa:=c.path,us:=c.usage,alt:=w,per:=p,exc:=x } j4=some (.agg ({ v with ca:=c.ca,pa:=c.path,us:=c.usage,alt:=w,per:=p,exc:=x }:CV).l,[some (.cells [.bool b])]):=by
  have e5:=By b l { v with ca:=c.ca,pa:=c.path,us:=c.usage,alt:=w,per:=p,exc:=x } ⟨hv.f1,hv.f2,hv.f3,gw.fs,gp.fs,gx.fs,hv.f7⟩ j4 (List.drop_eq_nil_iff.1 d4)
  exact e5
 exact⟨w,p,x,gw,gp,gx,e1.trans (e2.trans (e3.trans (e4.trans hj)))⟩
end Go.Mini

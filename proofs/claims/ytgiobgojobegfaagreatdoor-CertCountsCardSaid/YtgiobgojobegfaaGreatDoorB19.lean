/- a certificate's law by that interpreter (part 19): what the program's functions answer, or plain laws of it; no conditions. -/
import Derived.Test.YtgiobgojobegfaaGreatDoorB11
import Derived.Test.YtgiobgojobegfaaGreatDoorB06
import Derived.Test.YtgiobgojobegfaaGreatDoorB16
import Derived.Lib.IndexMore
set_option linter.all false
namespace Go.Mini
open Go Go.Mini.Nm Go.Proofs.YtgiobgojobegfaaGreatDoor
set_option maxRecDepth 100000
set_option maxHeartbeats 4000000
def zV:MV:=.agg [.int .i64 0,.int .i64 0,.bool false,.nilsl,.nilsl]
def kU (c t n lo hi:Int):Bool:= !(c==0)||(!(t==16)||(decide (n<lo)||decide (hi<n)))
theorem Bh (c t:Int) (m:Bool) (w:MV) (hw:Fs w) (l:List MV) (hl:l.length≤2^30) (lo hi:Int) (b:Bool):CallH Q 39 [.ptr 0 0,.agg [.int .i64 c,.int .i64 t,.bool m,w,.sl 5 l],.int .i64 lo,.int .i64 hi] [.cells [.bool b]]=some (.sl 5 (l++List.replicate 10 zV),[some (.cells [.bool (b||kU c t l.length lo hi)])]):=by
 unfold kU zV
 have hA:l.length*72≤140737488355328:=by omega
 have hB:(l.length+10)*72≤140737488355328:=by omega
 rw[aC Q (m:=m39) rfl]
 cases h1:(c==0)<;>cases h2:(t==16)<;>cases h3:decide ((l.length:Int)<lo)<;>cases h4:decide (hi<(l.length:Int))
 all_goals(
  apply ae;intro rhs hrhs
  simp(maxSteps:=4000000)(disch:=first|exact dz|fail)only[bB.u,seval,cut,m39,h1,h2,h3,h4,hA,hB,List.length_append,List.length_replicate,ag,aj,hw.a]
  all_goals(subst hrhs;try simp only[Bool.not_true,Bool.not_false,Bool.or_false,Bool.or_true,Bool.true_or,Bool.false_or];try rfl))
theorem fN (c t:Int) (m:Bool) (w k:MV) (hw:Fs w) (hk:Fs k) (n:Int) (hkk:k= .nilsl∨∃l,k= .sl 5 l):Call Q 42 [.agg [.int .i64 c,.int .i64 t,.bool m,w,k],.int .i64 n]=some (.tup [(match k with| .nilsl=>.sl 5 []|v=>v),.bool (c==2&&t==n&&m)]):=by
 rw[Call_fn Q (m:=m42) rfl rfl]
 rcases hkk with rfl|⟨l,rfl⟩<;>cases h1:(c==2)<;>cases h2:(t==n)<;>cases m
 all_goals(
  apply ae;intro rhs hrhs
  simp(maxSteps:=4000000) (disch:=first|omega|exact aI (by(try simp only[bB.u,seval,cut,hw.a]);kernel_rfl)|decide) only[bB.u,seval,cut,m42,h1,h2,hw.a]
  all_goals(subst hrhs;try rfl))
theorem kV {n:Int} (h:0≤n∧n<100):tv (UInt8.ofNat (48+n.toNat/10)) (UInt8.ofNat (48+n.toNat%10))=n:=by
 unfold tv
 simp only[UInt8.toNat_ofNat']
 omega
theorem Dh {y:Int} (h:1970≤y∧y<2050):fW (UInt8.ofNat (48+(y%100).toNat/10)) (UInt8.ofNat (48+(y%100).toNat%10))=y:=by
 unfold fW
 rw[kV (by omega)]
 simp only[UInt8.toNat_ofNat']
 split<;>omega
theorem FD (y m d:Int):a_ y m d=a_ y m 1+(d-1):=by unfold a_;omega
theorem FE {y:Int} (h:0≤y∧y<10000):100*tv (UInt8.ofNat (48+y.toNat/1000)) (UInt8.ofNat (48+y.toNat/100%10))+tv (UInt8.ofNat (48+y.toNat/10%10)) (UInt8.ofNat (48+y.toNat%10))=y:=by
 unfold tv
 simp only[UInt8.toNat_ofNat']
 omega
theorem xe {t:Int} {x:T} (h:timeS t= .ok x) (hw:(wrW x).1=0):nR x=(t,0):=by
 unfold timeS at h
 split at h
 ·cases h
 rename_i r
 obtain⟨y1,y2,m1,m2,d1,d2,e1,_⟩:=vN t (by omega) (by omega)
 have hd:=FD (ew t) (fB t) (nl t)
 have a1:=kV (n:=fB t) (by omega)
 have a2:=kV (n:=nl t) (by omega)
 have a3:=kV (n:=t%86400/3600) (by omega)
 have a4:=kV (n:=t%86400/60%60) (by omega)
 have a5:=kV (n:=t%86400%60) (by omega)
 split at h<;>cases h
 ·rename_i hy
  rw[nR,if_neg (by simp[hw])]
  unfold nQ two
  simp only[List.cons_append,List.nil_append,pY]
  rw[Dh (by omega),a1,a2,a3,a4,a5]
  unfold lH
  rw[if_neg (by omega),hd]
  refine Prod.ext ?_ rfl
  simp only
  omega
 ·rename_i hy
  rw[nR,if_neg (by simp[hw])]
  unfold nQ two four
  simp only[List.cons_append,List.nil_append,pY]
  rw[FE (by omega),a1,a2,a3,a4,a5]
  unfold lH
  rw[if_neg (by omega),hd]
  refine Prod.ext ?_ rfl
  simp only
  omega
theorem Bi (sep:List UInt8) (k:Nat) (s:List UInt8):Lib.splitK sep 0 k s≠[]:=by
 cases k with
 |zero=>simp[Lib.splitK]
 |succ k=>unfold Lib.splitK;split<;>simp
theorem zi (x:List UInt8) {r:List (List UInt8)} (sep:List UInt8) (h:r≠[]):Lib.join (x::r) sep=x++(sep++Lib.join r sep):=by
 cases r with
 |nil=>exact(h rfl).elim
 |cons y r=>
  rw[Lib.join_cons,Lib.join_cons]
  unfold Lib.joinTail
  simp
theorem oz (sep:List UInt8):∀(k:Nat) (s:List UInt8),Lib.join (Lib.splitK sep 0 k s) sep=s
 | 0,s=>by simp[Lib.splitK,Lib.join_one]
 |k+1,s=>by
  unfold Lib.splitK
  split
  ·exact Lib.join_one s sep
  ·rename_i hi
   rcases Lib.index_spec s sep with⟨h,_⟩|⟨i,h1,h2,h3,_⟩
   ·rw[h]at hi;exact(hi (by decide)).elim
   ·rw[zi _ _ (Bi sep k _),oz sep k,h1]
    simp only[Int.toNat_natCast,Nat.add_zero]
    unfold Lib.occAt at h3
    obtain⟨z,hz⟩:=List.isPrefixOf_iff_prefix.1 h3
    have e:s.drop (i+sep.length)=z:=by rw[←List.drop_drop,←hz];simp
    rw[e,hz]
    exact List.take_append_drop i s
theorem lX:∀ {ps:List (List UInt8)} {l:List Int},eo ps=some l→ps=l.map cp∧∀n∈l,0≤n∧n<1099511627776
 | [],l,h=>by rw[eo]at h;cases h;exact⟨rfl,by simp⟩
 |p::r,l,h=>by
  rw[eo]at h
  split at h
  ·rename_i n l' h1 h2
   cases h
   obtain⟨a,b⟩:=lX h2
   unfold jm at h1
   split at h1
   ·rename_i n' _
    split at h1
    ·rename_i hc
     cases h1
     refine⟨by rw[List.map_cons,hc.2.2,←a],fun x hx=>?_⟩
     rcases List.mem_cons.1 hx with rfl|hx
     ·exact⟨hc.1,hc.2.1⟩
     ·exact b x hx
    ·cases h1
   ·cases h1
  ·cases h
theorem DK:∀x:Fin 128,(UInt8.ofNat x.val|||128).toNat=x.val+128:=by decide +kernel
theorem kW (s:List (List UInt8)) (n d:Int) (r:List UInt8) (hd:0<d) (hn:0≤n) (hb:n/d<1099511627776):aG gO (s,n/d/128) (Nm.part n d++r)=aG gO (s,n/d) r:=by
 unfold Nm.part
 split
 ·rw[List.singleton_append,bw]
  have h1:=DK ⟨(n/d%128).toNat,by omega⟩
  simp only at h1
  unfold gO
  rw[h1]
  have e:(n/d/128)*128+(((n/d%128).toNat+128:Nat):Int)%128=n/d:=by omega
  simp only
  rw[e,if_neg (by omega),if_pos (by omega)]
 ·have:n/d=0:=by
   have:=Int.ediv_nonneg hn (Int.le_of_lt hd)
   omega
  rw[this];rfl
theorem Bj (s:List (List UInt8)) (n:Int) (r:List UInt8) (h0:0≤n) (h:n<1099511627776+80) (h':n<1099511627776):aG gO (s,0) (enc n++r)=aG gO (s,n/128) (UInt8.ofNat (n%128).toNat::r):=by
 unfold enc
 simp only[bj,List.append_assoc,List.singleton_append]
 have e5:n/34359738368/128=0:=by omega
 have p5:=kW s n 34359738368 (Nm.part n 268435456++(Nm.part n 2097152++(Nm.part n 16384++(Nm.part n 128++UInt8.ofNat (n%128).toNat::r)))) (by omega) h0 (by omega)
 rw[e5]at p5
 rw[p5]
 have p4:=kW s n 268435456 (Nm.part n 2097152++(Nm.part n 16384++(Nm.part n 128++UInt8.ofNat (n%128).toNat::r))) (by omega) h0 (by omega)
 rw[show n/268435456/128=n/34359738368 by omega]at p4
 rw[p4]
 have p3:=kW s n 2097152 (Nm.part n 16384++(Nm.part n 128++UInt8.ofNat (n%128).toNat::r)) (by omega) h0 (by omega)
 rw[show n/2097152/128=n/268435456 by omega]at p3
 rw[p3]
 have p2:=kW s n 16384 (Nm.part n 128++UInt8.ofNat (n%128).toNat::r) (by omega) h0 (by omega)
 rw[show n/16384/128=n/2097152 by omega]at p2
 rw[p2]
 have p1:=kW s n 128 (UInt8.ofNat (n%128).toNat::r) (by omega) h0 (by omega)
 rw[show n/128/128=n/16384 by omega]at p1
 exact p1
theorem iT (n:Int):((UInt8.ofNat (n%128).toNat).toNat:Int)=n%128∧(UInt8.ofNat (n%128).toNat).toNat<128:=by
 simp only[UInt8.toNat_ofNat'];omega
theorem Di (s:List (List UInt8)) (hs:s≠[]) (n:Int) (r:List UInt8) (h0:0≤n) (h:n<1099511627776):aG gO (s,0) (enc n++r)=aG gO (s++[cp n],0) r:=by
 rw[Bj s n r h0 (by omega) h,bw]
 obtain⟨a,b⟩:=iT n
 unfold gO
 simp only
 rw[a,show n/128*128+n%128%128=n by omega,if_neg (by omega),if_neg (by omega),if_neg hs]
theorem Bk (n0 n1:Int) (r:List UInt8) (h0:0≤n0∧n0≤2) (h1:0≤n1) (h2:n0<2→n1≤39) (h3:n1+40*n0<1099511627776):aG gO ([],0) (enc (n1+40*n0)++r)=aG gO ([cp n0,cp n1],0) r:=by
 rw[Bj [] _ r (by omega) (by omega) h3,bw]
 obtain⟨a,b⟩:=iT (n1+40*n0)
 unfold gO
 simp only
 rw[a,show(n1+40*n0)/128*128+(n1+40*n0)%128%128=n1+40*n0 by omega,if_neg (by omega),if_neg (by omega),if_pos trivial]
 have e:min ((n1+40*n0)/40) 2=n0:=by omega
 rw[e,show n1+40*n0-40*n0=n1 by omega]
theorem yk:∀(l:List Int) (s:List (List UInt8)),s≠[]→(∀n∈l,0≤n∧n<1099511627776)→aG gO (s,0) (cH l)= .inl (s++l.map cp,0)
 | [],s,_,_=>by simp[cH,aG]
 |n::l,s,hs,h=>by
  have hn:=h n (List.mem_cons_self ..)
  show aG gO (s,0) (enc n++cH l)=_
  rw[Di s hs n _ hn.1 hn.2,yk l _ (by simp) fun x hx=>h x (List.mem_cons_of_mem _ hx)]
  simp
theorem Bl {s out:List UInt8} (h:gH s=some out) (hw:(wrW (ec out)).1=0):iJ (ec out)= .ok s:=by
 unfold gH at h
 simp only at h
 split at h
 ·cases h
 ·rename_i hlen
  split at h
  ·rename_i l hl
   obtain⟨a,b⟩:=lX hl
   unfold rK at h
   split at h
   ·rename_i n0 n1 r
    split at h
    ·cases h
    ·rename_i hc
     cases h
     have b0:=b n0 (by simp)
     have b1:=b n1 (by simp)
     unfold ec at hw ⊢
     rw[iJ,if_neg (by simp[hw])]
     unfold rO
     have e:aG gO ([],0) (cH ((n1+40*n0)::r))= .inl ((n0::n1::r).map cp,0):=by
      show aG gO ([],0) (enc (n1+40*n0)++cH r)=_
      rw[Bk n0 n1 _ (by omega) (by omega) (by omega) (by omega),yk r _ (by simp) fun x hx=>b x (by simp[hx])]
      simp
     rw[e]
     simp only
     rw[←a,if_neg (by omega),oz]
   ·cases h
  ·cases h
theorem yl {d:Nat}:∀ {ks:List T},(aP d ks).1=0→∀k∈ks,(wr d k).1=0∧(wr d k).2.length≤(aP d ks).2.flatten.length
 | [],_,k,hk=>by simp at hk
 |a::r,h,k,hk=>by
  rw[aP]at h ⊢
  by_cases h1:(wr d a).1=0
  ·rw[if_neg (by simp[h1])]at h ⊢
   by_cases h2:(aP d r).1=0
   ·rw[if_neg (by simp[h2])]at h ⊢
    simp only[List.flatten_cons,List.length_append]
    rcases List.mem_cons.1 hk with rfl|hk
    ·exact⟨h1,by omega⟩
    ·have:=yl h2 k hk
     exact⟨this.1,by omega⟩
   ·rw[if_pos h2]at h;exact absurd h h2
  ·rw[if_pos h1]at h;exact absurd h h1
mutual
theorem ym {d d':Nat} (hd:d'≤d):∀t:T,(wr d t).1=0→wr d' t=wr d t
 | .mk c t m b ks,h=>by
  obtain⟨h1,_,_,_,_,h2,_⟩:=iR h
  have e:=wB (d:=d+1) (d':=d'+1) (by omega) ks h2
  rw[wr,wr,e]
  unfold gc
  rw[if_neg (show ¬ 16<d' by omega),if_neg (show ¬ 16<d by omega)]
theorem wB {d d':Nat} (hd:d'≤d):∀ks:List T,(aP d ks).1=0→aP d' ks=aP d ks
 | [],_=>by rw[aP,aP]
 |a::r,h=>by
  rw[aP]at h
  by_cases h1:(wr d a).1=0
  ·rw[if_neg (by simp[h1])]at h
   by_cases h2:(aP d r).1=0
   ·rw[aP,aP,ym hd a h1,wB hd r h2]
   ·rw[if_pos h2]at h;exact absurd h h2
  ·rw[if_pos h1]at h;exact absurd h h1
end
theorem wD {t:T} (h:(wrW t).1=0):(wr 0 t).1=0∧(wr 0 t).2.length≤65536:=by
 unfold wrW at h
 split at h
 ·rename_i h1;exact absurd h h1
 ·rename_i h1
  split at h
  ·exact absurd h (by decide)
  ·exact⟨by simpa using h1,by omega⟩
theorem Bm {t:T} (h:(wr 0 t).1=0) (hl:(wr 0 t).2.length≤65536):(wrW t).1=0:=by
 unfold wrW
 rw[if_neg (by simp[h]),if_neg (by omega)]
theorem dk {c t:Int} {m:Bool} {b:List UInt8} {ks:List T} (h:(wrW (.mk c t m b ks)).1=0) {k:T} (hk:k∈ks):(wrW k).1=0:=by
 obtain⟨h1,h2⟩:=wD h
 obtain⟨_,a2,a3,a4,a5,a6,a7⟩:=iR h1
 obtain⟨b1,b2⟩:=yl a6 k hk
 have hm:m=true:=by
  cases m
  ·rw[a5 rfl]at hk;simp at hk
  ·rfl
 have e:=ym (d':=0) (Nat.zero_le 1) k b1
 refine Bm (by rw[e];exact b1) ?_
 rw[e]
 subst hm
 rw[wr]at h2
 unfold gc at h2
 rw[if_neg (by omega),if_neg (by rw[a2];simp),if_neg (by rw[a3];omega),if_neg (by rw[a3,a4 rfl];simp),if_neg (by simp[a6]),if_neg a7]at h2
 simp only[if_true,List.length_append]at h2
 have b2':(wr 1 k).2.length≤(aP (0+1) ks).2.flatten.length:=b2
 omega
theorem oY:∀(d:Dn) (ks ks':List T),aG jn ks d= .inl ks'→∃os:List (List UInt8),os.length=d.length∧ks'=ks++(os.zip d).map (fun p=>fV p.1 p.2.2)∧∀p∈os.zip d,gH p.2.1=some p.1
 | [],ks,ks',h=>by cases h;exact⟨[],rfl,by simp,by simp⟩
 |a::r,ks,ks',h=>by
  rw[bw]at h
  cases ho:gH a.1 with
  |none=>simp only[jn,ho]at h;cases h
  |some out=>
   simp only[jn,ho]at h
   obtain⟨os,h1,h2,h3⟩:=oY r _ ks' h
   refine⟨out::os,by simp[h1],by rw[h2];simp,fun p hp=>?_⟩
   rcases List.mem_cons.1 hp with rfl|hp
   ·exact ho
   ·exact h3 p hp
theorem HN {out s:List UInt8} {n:List UInt8} (st:Dn × Int) (ho:iJ (ec out)= .ok n) (ht:bW s=true):gP st (fV out s)= .inl (st.1++[(n,s)],st.2):=by
 unfold gP fV
 rw[ky,if_pos ⟨rfl,rfl,rfl,rfl⟩]
 simp only
 rw[ho]
 unfold iQ
 have h2:dK s=12∨dK s=19:=by unfold dK;split<;>simp
 simp only
 rw[if_pos ⟨trivial,h2,trivial⟩,if_neg (by simp[ht])]
theorem Bn:∀(os:List (List UInt8)) (d:Dn) (st:Dn × Int),os.length=d.length→(∀p∈os.zip d,iJ (ec p.1)= .ok p.2.1∧bW p.2.2=true)→aG gP st ((os.zip d).map fun p=>fV p.1 p.2.2)= .inl (st.1++d,st.2)
 | [],[],st,_,_=>by simp[aG]
 | [],_::_,_,h,_=>by simp at h
 |_::_,[],_,h,_=>by simp at h
 |o::os,a::d,st,h,hp=>by
  have h1:=hp (o,a) (by simp)
  simp only[List.zip_cons_cons,List.map_cons]
  rw[bw,HN st h1.1 h1.2]
  simp only
  rw[Bn os d _ (by simpa using h) fun p hq=>hp p (by simp[hq])]
  simp
theorem yn {d:Dn} {x:T} (h:dnS d= .ok x) (hw:(wrW x).1=0):oq x= .ok d:=by
 unfold dnS at h
 split at h
 ·cases h
 ·rename_i h16
  split at h
  ·cases h
  ·rename_i ks hf
   split at h
   ·cases h
   ·rename_i ht
    cases h
    obtain⟨os,h1,h2,h3⟩:=oY d [] ks hf
    simp only[List.nil_append]at h2
    have hl:ks.length≤16:=by rw[h2];simp;omega
    rw[oq,if_neg (by simp[hw];omega)]
    have hk:∀p∈os.zip d,iJ (ec p.1)= .ok p.2.1∧bW p.2.2=true:=by
     intro p hp
     have m1:fV p.1 p.2.2∈ks:=by rw[h2];exact List.mem_map.2 ⟨p,hp,rfl⟩
     have v1:=dk hw m1
     unfold fV at v1
     have v2:=dk v1 (List.mem_singleton.2 rfl)
     have v3:=dk v2 (List.mem_cons_self ..)
     refine⟨Bl (h3 p hp) v3,?_⟩
     have hm:p.2∈d:=(List.of_mem_zip hp).2
     simp only[List.any_eq_true,not_exists,not_and,Bool.not_eq_true',Bool.not_eq_false]at ht
     simpa using ht p.2 hm
    rw[h2,Bn os d ([],0) h1 hk]
    simp
theorem Bo {k:Int} {s:List UInt8} {d:Dn} {lim:Bool} {x:T} (h:genS k s d lim= .ok x) (hw:(wrW x).1=0):∃dv,isDir dv d∧vQ lim x= .ok k s dv:=by
 unfold genS at h
 split at h
 ·cases h
 ·rename_i hc
  simp only[not_or,not_and,Bool.not_eq_false]at hc
  obtain⟨c1,c2,c3⟩:=hc
  split at h
  ·rename_i h4
   subst h4
   have hs:s=[]:=by
    by_cases hs:s=[]
    ·exact hs
    ·exact(c3 rfl hs).elim
   subst hs
   split at h
   ·cases h
   ·rename_i D hD
    split at h
    ·rename_i hr
     cases h
     refine⟨.sl 2 (bh d),.inl rfl,?_⟩
     rw[vQ,if_neg (by simp[hw,c1])]
     simp only[if_true]
     rw[yn hD (dk hw (List.mem_singleton.2 rfl))]
     simp only
     rw[if_pos hr]
    ·cases h
  ·rename_i h4
   have hd:d=[]:=by
    cases d with
    |nil=>rfl
    |cons a r=>exact absurd (by simp) (c2 h4)
   subst hd
   split at h
   ·rename_i hr
    cases h
    refine⟨.nilsl,.inr ⟨rfl,rfl⟩,?_⟩
    rw[vQ,if_neg (by simp[hw,c1,h4]),if_neg h4]
    simp only
    rw[if_pos hr]
   ·cases h
theorem nE (p:Nat) (n d:Int) (r:List UInt8) (hn:0≤n/d) (hp:0<n/d/128→128≤p):∃q,aG oj p (Nm.part n d++r)=aG oj q r∧(0<n/d→128≤q):=by
 unfold Nm.part
 by_cases h:0<n/d
 ·rw[if_pos h,List.singleton_append,bw]
  have ho:=DK ⟨(n/d%128).toNat,by omega⟩
  simp only at ho
  unfold oj
  rw[ho,if_neg (by omega)]
  exact⟨_,rfl,fun _=>by omega⟩
 ·rw[if_neg h,List.nil_append]
  exact⟨p,rfl,fun h'=>absurd h' h⟩
theorem FF (p:Nat) (n:Int) (r:List UInt8) (h0:0≤n) (h:n<1099511627776):∃q,aG oj p (enc n++r)=aG oj q r:=by
 unfold enc
 simp only[bj,List.append_assoc,List.singleton_append]
 obtain⟨q5,e5,g5⟩:=nE p n 34359738368 (Nm.part n 268435456++(Nm.part n 2097152++(Nm.part n 16384++(Nm.part n 128++UInt8.ofNat (n%128).toNat::r)))) (by omega) (by omega)
 obtain⟨q4,e4,g4⟩:=nE q5 n 268435456 (Nm.part n 2097152++(Nm.part n 16384++(Nm.part n 128++UInt8.ofNat (n%128).toNat::r))) (by omega) (fun h=>g5 (by omega))
 obtain⟨q3,e3,g3⟩:=nE q4 n 2097152 (Nm.part n 16384++(Nm.part n 128++UInt8.ofNat (n%128).toNat::r)) (by omega) (fun h=>g4 (by omega))
 obtain⟨q2,e2,g2⟩:=nE q3 n 16384 (Nm.part n 128++UInt8.ofNat (n%128).toNat::r) (by omega) (fun h=>g3 (by omega))
 obtain⟨q1,e1,g1⟩:=nE q2 n 128 (UInt8.ofNat (n%128).toNat::r) (by omega) (fun h=>g2 (by omega))
 rw[e5,e4,e3,e2,e1,bw]
 obtain⟨_,b⟩:=iT n
 unfold oj
 rw[if_neg (by omega)]
 exact⟨_,rfl⟩
theorem wE:∀(l:List Int) (p:Nat),(∀n∈l,0≤n∧n<1099511627776)→∃q,aG oj p (cH l)= .inl q
 | [],p,_=>⟨p,rfl⟩
 |n::l,p,h=>by
  have hn:=h n (by simp)
  obtain⟨q,e⟩:=FF p n (cH l) hn.1 hn.2
  obtain⟨q',e'⟩:=wE l q fun x hx=>h x (by simp[hx])
  exact⟨q',by rw[show cH (n::l)=enc n++cH l from rfl,e,e']⟩
theorem tE:∀(l:List Int),l≠[]→∃pre c,cH l=pre++[c]∧c.toNat<128
 | [],h=>absurd rfl h
 | [n],_=>by
  refine⟨Nm.part n 34359738368++(Nm.part n 268435456++(Nm.part n 2097152++(Nm.part n 16384++Nm.part n 128))),UInt8.ofNat (n%128).toNat,?_,(iT n).2⟩
  simp[cH,enc,bj]
 |n::m::l,_=>by
  obtain⟨pre,c,e,hc⟩:=tE (m::l) (by simp)
  exact⟨enc n++pre,c,by rw[show cH (n::m::l)=enc n++cH (m::l)from rfl,e,List.append_assoc],hc⟩
theorem Bp {l:List Int} (hne:l≠[]) (h:∀n∈l,0≤n∧n<1099511627776):kq (cH l)=true:=by
 obtain⟨q,e⟩:=wE l 0 h
 obtain⟨pre,c,e2,hc⟩:=tE l hne
 unfold kq
 rw[e,e2]
 simp[g0,hc]
theorem Bq {s out:List UInt8} (h:gH s=some out):kq out=true:=by
 unfold gH at h
 simp only at h
 split at h
 ·cases h
 ·split at h
  ·rename_i l hl
   obtain⟨hh,b⟩:=lX hl
   unfold rK at h
   split at h
   ·rename_i n0 n1 r
    split at h
    ·cases h
    ·rename_i hc
     cases h
     have b0:=b n0 (by simp)
     have b1:=b n1 (by simp)
     refine Bp (by simp) fun n hn=>?_
     rcases List.mem_cons.1 hn with rfl|hn
     ·omega
     ·exact b n (by simp[hn])
   ·cases h
  ·cases h
theorem HP:(List.range 256).all (fun i=>!printB (UInt8.ofNat i)||m_ (UInt8.ofNat i))=true:=by kernel_rfl
theorem IQ {c:UInt8} (h:printB c=true):m_ c=true:=by
 have:=List.all_eq_true.1 HP c.toNat (List.mem_range.2 c.toNat_lt)
 rw[UInt8.ofNat_toNat,h]at this
 simpa using this
theorem zj {s:List UInt8} (h:bW s=true):right (dK s) s=true∧(dK s=12∨dK s=19):=by
 unfold bW at h
 simp only[Bool.and_eq_true]at h
 unfold dK
 by_cases hp:s.all printB=true
 ·rw[if_pos hp]
  refine⟨?_,.inr rfl⟩
  show s.all m_=true
  rw[List.all_eq_true]at hp ⊢
  exact fun c hc=>IQ (hp c hc)
 ·rw[if_neg hp]
  exact⟨h.2,.inl rfl⟩
theorem nX {d:Nat} {c t:Int} {b:List UInt8} (hd:d≤16) (hr:bT c t=false) (hf:aR c t false b=0) (h17:¬(c=0∧t=17)):(wr d (.mk c t false b [])).1=0:=by
 rw[wr]
 unfold gc
 rw[if_neg (by omega),if_neg (by simp[hr]),if_neg (by omega),if_neg (by simp[hf]),if_neg (by simp[aP]),if_neg (fun h=>h17 ⟨h.1,h.2.1⟩)]
theorem gn {d:Nat} {c t:Int} {ks:List T} (hd:d≤16) (hr:bT c t=false) (hf:aR c t true []=0) (hk:(aP (d+1) ks).1=0) (hs:¬(c=0∧t=17∧bP (aP (d+1) ks).2=false)):(wr d (.mk c t true [] ks)).1=0:=by
 rw[wr]
 unfold gc
 rw[if_neg (by omega),if_neg (by simp[hr]),if_neg (by omega),if_neg (by simp[hf]),if_neg (by simp[hk]),if_neg hs]
theorem fy {d:Nat}:∀ {ks:List T},(∀k∈ks,(wr d k).1=0)→(aP d ks).1=0
 | [],_=>rfl
 |k::r,h=>by
  rw[aP,if_neg (by simp[h k (by simp)]),if_neg (by simp[fy (ks:=r) fun x hx=>h x (List.mem_cons_of_mem _ hx)])]
theorem FG {d:Nat} (hd:d+2≤16) {out s:List UInt8} (ho:kq out=true) (ht:bW s=true):(wr d (fV out s)).1=0:=by
 obtain⟨h1,h2⟩:=zj ht
 have a1:(wr (d+2) (ec out)).1=0:=nX (by omega) rfl (by show(if right 6 out=true then(0:Int)else 24)=0;rw[show right 6 out=kq out from rfl,ho];rfl) (by omega)
 have a2:(wr (d+2) (iQ s)).1=0:=by
  unfold iQ
  rcases h2 with h2|h2<;>rw[h2]at h1 ⊢
  ·exact nX (by omega) rfl (by show(if right 12 s=true then(0:Int)else 24)=0;rw[h1];rfl) (by omega)
  ·exact nX (by omega) rfl (by show(if right 19 s=true then(0:Int)else 24)=0;rw[h1];rfl) (by omega)
 have a3:(wr (d+1) (.mk 0 16 true [] [ec out,iQ s])).1=0:=gn (by omega) rfl rfl (fy fun k hk=>by
  simp only[List.mem_cons,List.not_mem_nil,or_false]at hk
  rcases hk with rfl|rfl
  ·exact a1
  ·exact a2) (by omega)
 unfold fV
 refine gn (by omega) rfl rfl (fy fun k hk=>by rw[List.mem_singleton.1 hk];exact a3) ?_
 rw[aP,if_neg (by simp[a3])]
 simp[aP,bP,aG]
theorem IR {d:Nat} (hd:d+3≤16) {dn:Dn} {D:T} (h:dnS dn= .ok D):(wr d D).1=0:=by
 unfold dnS at h
 split at h
 ·cases h
 ·split at h
  ·cases h
  ·rename_i ks hf
   split at h
   ·cases h
   ·rename_i ht
    cases h
    obtain⟨os,h1,h2,h3⟩:=oY dn [] ks hf
    simp only[List.nil_append]at h2
    refine gn (by omega) rfl rfl (fy fun k hk=>?_) (by omega)
    rw[h2]at hk
    obtain⟨p,hp,rfl⟩:=List.mem_map.1 hk
    refine FG (by omega) (Bq (h3 p hp)) ?_
    have hm:p.2∈dn:=(List.of_mem_zip hp).2
    simp only[List.any_eq_true,not_exists,not_and,Bool.not_eq_true',Bool.not_eq_false]at ht
    simpa using ht p.2 hm
theorem HQ {d:Nat} (hd:d+4≤16) {k:Int} {s:List UInt8} {dn:Dn} {lim:Bool} {x:T} (h:genS k s dn lim= .ok x):(wr d x).1=0:=by
 unfold genS at h
 split at h
 ·cases h
 ·rename_i hc
  simp only[not_or,not_and,Bool.not_eq_false]at hc
  obtain⟨c1,c2,c3⟩:=hc
  have hk:k=1∨k=2∨k=4∨k=6∨k=7:=by
   unfold dL at c1
   simp only[Bool.or_eq_true,beq_iff_eq]at c1
   omega
  split at h
  ·split at h
   ·cases h
   ·rename_i D hD
    split at h
    ·cases h
     exact gn (by omega) rfl rfl (fy fun y hy=>by rw[List.mem_singleton.1 hy];exact IR (by omega) hD) (by omega)
    ·cases h
  ·split at h
   ·cases h
    refine nX (by omega) ?_ rfl (by omega)
    unfold bT
    simp only[Bool.or_eq_false_iff,decide_eq_false_iff_not]
    omega
   ·cases h
theorem wF (lim:Bool):∀(gs:List Gn) (ts0 ts:List T),aG (gG lim) ts0 gs= .inl ts→∀u∈ts,u∈ts0∨∃g∈gs,genS g.1 g.2.1 g.2.2 lim= .ok u
 | [],ts0,ts,h,u,hu=>by cases h;exact .inl hu
 |g::gs,ts0,ts,h,u,hu=>by
  rw[bw]at h
  unfold gG at h
  cases hx:genS g.1 g.2.1 g.2.2 lim with
  |er e=>rw[hx]at h;cases h
  |ok x=>
   rw[hx]at h
   rcases wF lim gs (ts0++[x]) ts h u hu with h1|⟨g',h1,h2⟩
   ·rcases List.mem_append.1 h1 with h1|h1
    ·exact .inl h1
    ·rw[List.mem_singleton.1 h1];exact .inr ⟨g,by simp,hx⟩
   ·exact .inr ⟨g',by simp[h1],h2⟩
theorem yo {d:Nat} (hd:d+4≤16) {lim:Bool} {gs:List Gn} (h:gOK lim gs):∀u∈gensT lim gs,(wr d u).1=0:=by
 intro u hu
 rcases wF lim gs [] _ h.2 u hu with h1|⟨g,_,h2⟩
 ·simp at h1
 ·exact HQ hd h2
theorem Br {t:T} (h:(wr 0 t).1=0) (h54:(wrW t).1≠54):(wrW t).1=0:=by
 by_cases hl:(wr 0 t).2.length≤65536
 ·exact Bm h hl
 ·exfalso
  apply h54
  unfold wrW
  rw[if_neg (by simp[h]),if_pos (by omega)]
theorem r8 {c:Crt} (hok:CrtOK c):c.alt.length≠0→(wrW (altT c.alt)).1=0:=fun h0=>
 Br (gn (by omega) rfl rfl (fy (yo (by omega) hok.alt)) (by omega)) (hok.wa h0)
theorem yp (k:Int) (hk:k=0∨k=1) {gs:List Gn} (h:gOK true gs):∀y∈cD k gs,(wr 1 y).1=0:=by
 intro y hy
 unfold cD at hy
 split at hy
 ·simp at hy
 ·rw[List.mem_singleton.1 hy]
  refine gn (by omega) (by rcases hk with rfl|rfl<;>rfl) rfl (fy fun z hz=>?_) (by omega)
  obtain⟨u,hu,rfl⟩:=List.mem_map.1 hz
  exact gn (by omega) rfl rfl (fy fun q hq=>by rw[List.mem_singleton.1 hq];exact yo (by omega) h u hu) (by omega)
theorem r9 {c:Crt} (hok:CrtOK c):c.permit.length+c.exclude.length≠0→(wrW (limT c.permit c.exclude)).1=0:=fun h0=>
 Br (gn (by omega) rfl rfl (fy fun y hy=>by
  rcases List.mem_append.1 hy with hy|hy
  ·exact yp 0 (.inl rfl) hok.per y hy
  ·exact yp 1 (.inr rfl) hok.exc y hy) (by omega))      (hok.wl h0)
end Go.Mini

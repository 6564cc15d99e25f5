/- a certificate's law by that interpreter (part 18): what the program's functions answer, or plain laws of it; no conditions. -/
import Derived.Test.YtgiobgojobegfaaGreatDoorA10
import Derived.Test.YtgiobgojobegfaaGreatDoorA15
import Derived.Lib.IndexMore
set_option linter.all false
namespace Go.Mini
open Go Go.Mini.Nm Go.Proofs.YtgiobgojobegfaaGreatDoor
set_option maxRecDepth 100000
set_option maxHeartbeats 4000000
def zV:MV:=.agg [.int .i64 0,.int .i64 0,.bool false,.nilsl,.nilsl]
def kidsBad (c t n lo hi:Int):Bool:= !(c==0)||(!(t==16)||(decide (n<lo)||decide (hi<n)))
theorem h_kids (c t:Int) (m:Bool) (w:MV) (hw:Fs w) (l:List MV) (hl:l.length≤2^30) (lo hi:Int) (b:Bool):CallH Q 39 [.ptr 0 0,.agg [.int .i64 c,.int .i64 t,.bool m,w,.sl 5 l],.int .i64 lo,.int .i64 hi] [.cells [.bool b]]=some (.sl 5 (l++List.replicate 10 zV),[some (.cells [.bool (b||kidsBad c t l.length lo hi)])]):=by
 unfold kidsBad zV
 have hA:l.length*72≤140737488355328:=by omega
 have hB:(l.length+10)*72≤140737488355328:=by omega
 rw[CallH_fn Q (m:=m39) rfl]
 cases h1:(c==0)<;>cases h2:(t==16)<;>cases h3:decide ((l.length:Int)<lo)<;>cases h4:decide (hi<(l.length:Int))
 all_goals(
  apply hide;intro rhs hrhs
  simp(maxSteps:=4000000)(disch:=first|exact dz|fail)only[bA.u,seval,cut,if_pos,if_neg,m39,h1,h2,h3,h4,hA,hB,List.length_append,List.length_replicate,Run_nil,reach,hw.a]
  all_goals(subst hrhs;try simp only[Bool.not_true,Bool.not_false,Bool.or_false,Bool.or_true,Bool.true_or,Bool.false_or];try rfl))
theorem c_at42 (c t:Int) (m:Bool) (w k:MV) (hw:Fs w) (hk:Fs k) (n:Int) (hkk:k= .nilsl∨∃l,k= .sl 5 l):Call Q 42 [.agg [.int .i64 c,.int .i64 t,.bool m,w,k],.int .i64 n]=some (.tup [(match k with| .nilsl=>.sl 5 []|v=>v),.bool (c==2&&t==n&&m)]):=by
 rw[Call_fn Q (m:=m42) rfl rfl]
 rcases hkk with rfl|⟨l,rfl⟩<;>cases h1:(c==2)<;>cases h2:(t==n)<;>cases m
 all_goals(
  apply hide;intro rhs hrhs
  simp(maxSteps:=4000000) (disch:=first|omega|exact ok_of (by(try simp only[bA.u,seval,cut,if_pos,if_neg,hw.a]);kernel_rfl)|decide) only[bA.u,seval,cut,if_pos,if_neg,m42,h1,h2,hw.a]
  all_goals(subst hrhs;try rfl))
theorem tv_two {n:Int} (h:0≤n∧n<100):tv (UInt8.ofNat (48+n.toNat/10)) (UInt8.ofNat (48+n.toNat%10))=n:=by
 unfold tv
 simp only[UInt8.toNat_ofNat']
 omega
theorem cent_two {y:Int} (h:1970≤y∧y<2050):cent (UInt8.ofNat (48+(y%100).toNat/10)) (UInt8.ofNat (48+(y%100).toNat%10))=y:=by
 unfold cent
 rw[tv_two (by omega)]
 simp only[UInt8.toNat_ofNat']
 split<;>omega
theorem daysF_d (y m d:Int):daysF y m d=daysF y m 1+(d-1):=by unfold daysF;omega
theorem four_tv {y:Int} (h:0≤y∧y<10000):100*tv (UInt8.ofNat (48+y.toNat/1000)) (UInt8.ofNat (48+y.toNat/100%10))+tv (UInt8.ofNat (48+y.toNat/10%10)) (UInt8.ofNat (48+y.toNat%10))=y:=by
 unfold tv
 simp only[UInt8.toNat_ofNat']
 omega
theorem timeR_timeS {t:Int} {x:T} (h:timeS t= .ok x) (hw:(wrW x).1=0):timeR x=(t,0):=by
 unfold timeS at h
 split at h
 ·cases h
 rename_i r
 obtain⟨y1,y2,m1,m2,d1,d2,e1,_⟩:=time_rng t (by omega) (by omega)
 have hd:=daysF_d (yOf t) (mOf t) (dOf t)
 have a1:=tv_two (n:=mOf t) (by omega)
 have a2:=tv_two (n:=dOf t) (by omega)
 have a3:=tv_two (n:=t%86400/3600) (by omega)
 have a4:=tv_two (n:=t%86400/60%60) (by omega)
 have a5:=tv_two (n:=t%86400%60) (by omega)
 split at h<;>cases h
 ·rename_i hy
  rw[timeR,if_neg (by simp[hw])]
  unfold restB two
  simp only[List.cons_append,List.nil_append,timeB]
  rw[cent_two (by omega),a1,a2,a3,a4,a5]
  unfold timeN
  rw[if_neg (by omega),hd]
  refine Prod.ext ?_ rfl
  simp only
  omega
 ·rename_i hy
  rw[timeR,if_neg (by simp[hw])]
  unfold restB two four
  simp only[List.cons_append,List.nil_append,timeB]
  rw[four_tv (by omega),a1,a2,a3,a4,a5]
  unfold timeN
  rw[if_neg (by omega),hd]
  refine Prod.ext ?_ rfl
  simp only
  omega
theorem splitK_ne (sep:List UInt8) (k:Nat) (s:List UInt8):Lib.splitK sep 0 k s≠[]:=by
 cases k with
 |zero=>simp[Lib.splitK]
 |succ k=>unfold Lib.splitK;split<;>simp
theorem join_cons2 (x:List UInt8) {r:List (List UInt8)} (sep:List UInt8) (h:r≠[]):Lib.join (x::r) sep=x++(sep++Lib.join r sep):=by
 cases r with
 |nil=>exact(h rfl).elim
 |cons y r=>
  rw[Lib.join_cons,Lib.join_cons]
  unfold Lib.joinTail
  simp
theorem join_splitK (sep:List UInt8):∀(k:Nat) (s:List UInt8),Lib.join (Lib.splitK sep 0 k s) sep=s
 | 0,s=>by simp[Lib.splitK,Lib.join_one]
 |k+1,s=>by
  unfold Lib.splitK
  split
  ·exact Lib.join_one s sep
  ·rename_i hi
   rcases Lib.index_spec s sep with⟨h,_⟩|⟨i,h1,h2,h3,_⟩
   ·rw[h]at hi;exact(hi (by decide)).elim
   ·rw[join_cons2 _ _ (splitK_ne sep k _),join_splitK sep k,h1]
    simp only[Int.toNat_natCast,Nat.add_zero]
    unfold Lib.occAt at h3
    obtain⟨z,hz⟩:=List.isPrefixOf_iff_prefix.1 h3
    have e:s.drop (i+sep.length)=z:=by rw[←List.drop_drop,←hz];simp
    rw[e,hz]
    exact List.take_append_drop i s
theorem numsP_itoa:∀ {ps:List (List UInt8)} {l:List Int},numsP ps=some l→ps=l.map itoaL∧∀n∈l,0≤n∧n<1099511627776
 | [],l,h=>by rw[numsP]at h;cases h;exact⟨rfl,by simp⟩
 |p::r,l,h=>by
  rw[numsP]at h
  split at h
  ·rename_i n l' h1 h2
   cases h
   obtain⟨a,b⟩:=numsP_itoa h2
   unfold numP at h1
   split at h1
   ·rename_i n' _
    split at h1
    ·rename_i hc
     cases h1
     refine⟨by rw[List.map_cons,hc.2.2,←a],fun x hx=>?_⟩
     rcases List.mem_cons.1 hx with rfl|hx
     ·exact⟨hc.1,hc.2.1⟩
     ·exact b x hx
    ·cases h1
   ·cases h1
  ·cases h
theorem or128:∀x:Fin 128,(UInt8.ofNat x.val|||128).toNat=x.val+128:=by decide +kernel
theorem part_go (s:List (List UInt8)) (n d:Int) (r:List UInt8) (hd:0<d) (hn:0≤n) (hb:n/d<1099511627776):foldE gO (s,n/d/128) (Nm.part n d++r)=foldE gO (s,n/d) r:=by
 unfold Nm.part
 split
 ·rw[List.singleton_append,foldE_cons]
  have h1:=or128 ⟨(n/d%128).toNat,by omega⟩
  simp only at h1
  unfold gO
  rw[h1]
  have e:(n/d/128)*128+(((n/d%128).toNat+128:Nat):Int)%128=n/d:=by omega
  simp only
  rw[e,if_neg (by omega),if_pos (by omega)]
 ·have:n/d=0:=by
   have:=Int.ediv_nonneg hn (Int.le_of_lt hd)
   omega
  rw[this];rfl
theorem enc_go (s:List (List UInt8)) (n:Int) (r:List UInt8) (h0:0≤n) (h:n<1099511627776+80) (h':n<1099511627776):foldE gO (s,0) (enc n++r)=foldE gO (s,n/128) (UInt8.ofNat (n%128).toNat::r):=by
 unfold enc
 simp only[encD,List.append_assoc,List.singleton_append]
 have e5:n/34359738368/128=0:=by omega
 have p5:=part_go s n 34359738368 (Nm.part n 268435456++(Nm.part n 2097152++(Nm.part n 16384++(Nm.part n 128++UInt8.ofNat (n%128).toNat::r)))) (by omega) h0 (by omega)
 rw[e5]at p5
 rw[p5]
 have p4:=part_go s n 268435456 (Nm.part n 2097152++(Nm.part n 16384++(Nm.part n 128++UInt8.ofNat (n%128).toNat::r))) (by omega) h0 (by omega)
 rw[show n/268435456/128=n/34359738368 by omega]at p4
 rw[p4]
 have p3:=part_go s n 2097152 (Nm.part n 16384++(Nm.part n 128++UInt8.ofNat (n%128).toNat::r)) (by omega) h0 (by omega)
 rw[show n/2097152/128=n/268435456 by omega]at p3
 rw[p3]
 have p2:=part_go s n 16384 (Nm.part n 128++UInt8.ofNat (n%128).toNat::r) (by omega) h0 (by omega)
 rw[show n/16384/128=n/2097152 by omega]at p2
 rw[p2]
 have p1:=part_go s n 128 (UInt8.ofNat (n%128).toNat::r) (by omega) h0 (by omega)
 rw[show n/128/128=n/16384 by omega]at p1
 exact p1
theorem last_toNat (n:Int):((UInt8.ofNat (n%128).toNat).toNat:Int)=n%128∧(UInt8.ofNat (n%128).toNat).toNat<128:=by
 simp only[UInt8.toNat_ofNat'];omega
theorem enc_more (s:List (List UInt8)) (hs:s≠[]) (n:Int) (r:List UInt8) (h0:0≤n) (h:n<1099511627776):foldE gO (s,0) (enc n++r)=foldE gO (s++[itoaL n],0) r:=by
 rw[enc_go s n r h0 (by omega) h,foldE_cons]
 obtain⟨a,b⟩:=last_toNat n
 unfold gO
 simp only
 rw[a,show n/128*128+n%128%128=n by omega,if_neg (by omega),if_neg (by omega),if_neg hs]
theorem enc_first (n0 n1:Int) (r:List UInt8) (h0:0≤n0∧n0≤2) (h1:0≤n1) (h2:n0<2→n1≤39) (h3:n1+40*n0<1099511627776):foldE gO ([],0) (enc (n1+40*n0)++r)=foldE gO ([itoaL n0,itoaL n1],0) r:=by
 rw[enc_go [] _ r (by omega) (by omega) h3,foldE_cons]
 obtain⟨a,b⟩:=last_toNat (n1+40*n0)
 unfold gO
 simp only
 rw[a,show(n1+40*n0)/128*128+(n1+40*n0)%128%128=n1+40*n0 by omega,if_neg (by omega),if_neg (by omega),if_pos trivial]
 have e:min ((n1+40*n0)/40) 2=n0:=by omega
 rw[e,show n1+40*n0-40*n0=n1 by omega]
theorem encs_go:∀(l:List Int) (s:List (List UInt8)),s≠[]→(∀n∈l,0≤n∧n<1099511627776)→foldE gO (s,0) (encs l)= .inl (s++l.map itoaL,0)
 | [],s,_,_=>by simp[encs,foldE]
 |n::l,s,hs,h=>by
  have hn:=h n (List.mem_cons_self ..)
  show foldE gO (s,0) (enc n++encs l)=_
  rw[enc_more s hs n _ hn.1 hn.2,encs_go l _ (by simp) fun x hx=>h x (List.mem_cons_of_mem _ hx)]
  simp
theorem oidR_oidS {s out:List UInt8} (h:oidS s=some out) (hw:(wrW (oidT out)).1=0):oidR (oidT out)= .ok s:=by
 unfold oidS at h
 simp only at h
 split at h
 ·cases h
 ·rename_i hlen
  split at h
  ·rename_i l hl
   obtain⟨a,b⟩:=numsP_itoa hl
   unfold oidN at h
   split at h
   ·rename_i n0 n1 r
    split at h
    ·cases h
    ·rename_i hc
     cases h
     have b0:=b n0 (by simp)
     have b1:=b n1 (by simp)
     unfold oidT at hw ⊢
     rw[oidR,if_neg (by simp[hw])]
     unfold oidG
     have e:foldE gO ([],0) (encs ((n1+40*n0)::r))= .inl ((n0::n1::r).map itoaL,0):=by
      show foldE gO ([],0) (enc (n1+40*n0)++encs r)=_
      rw[enc_first n0 n1 _ (by omega) (by omega) (by omega) (by omega),encs_go r _ (by simp) fun x hx=>b x (by simp[hx])]
      simp
     rw[e]
     simp only
     rw[←a,if_neg (by omega),join_splitK]
   ·cases h
  ·cases h
theorem wrs_mem {d:Nat}:∀ {ks:List T},(wrs d ks).1=0→∀k∈ks,(wr d k).1=0∧(wr d k).2.length≤(wrs d ks).2.flatten.length
 | [],_,k,hk=>by simp at hk
 |a::r,h,k,hk=>by
  rw[wrs]at h ⊢
  by_cases h1:(wr d a).1=0
  ·rw[if_neg (by simp[h1])]at h ⊢
   by_cases h2:(wrs d r).1=0
   ·rw[if_neg (by simp[h2])]at h ⊢
    simp only[List.flatten_cons,List.length_append]
    rcases List.mem_cons.1 hk with rfl|hk
    ·exact⟨h1,by omega⟩
    ·have:=wrs_mem h2 k hk
     exact⟨this.1,by omega⟩
   ·rw[if_pos h2]at h;exact absurd h h2
  ·rw[if_pos h1]at h;exact absurd h h1
mutual
theorem wr_down {d d':Nat} (hd:d'≤d):∀t:T,(wr d t).1=0→wr d' t=wr d t
 | .mk c t m b ks,h=>by
  obtain⟨h1,_,_,_,_,h2,_⟩:=wr_ok h
  have e:=wrs_down (d:=d+1) (d':=d'+1) (by omega) ks h2
  rw[wr,wr,e]
  unfold wrK
  rw[if_neg (show ¬ 16<d' by omega),if_neg (show ¬ 16<d by omega)]
theorem wrs_down {d d':Nat} (hd:d'≤d):∀ks:List T,(wrs d ks).1=0→wrs d' ks=wrs d ks
 | [],_=>by rw[wrs,wrs]
 |a::r,h=>by
  rw[wrs]at h
  by_cases h1:(wr d a).1=0
  ·rw[if_neg (by simp[h1])]at h
   by_cases h2:(wrs d r).1=0
   ·rw[wrs,wrs,wr_down hd a h1,wrs_down hd r h2]
   ·rw[if_pos h2]at h;exact absurd h h2
  ·rw[if_pos h1]at h;exact absurd h h1
end
theorem wrW_zero {t:T} (h:(wrW t).1=0):(wr 0 t).1=0∧(wr 0 t).2.length≤65536:=by
 unfold wrW at h
 split at h
 ·rename_i h1;exact absurd h h1
 ·rename_i h1
  split at h
  ·exact absurd h (by decide)
  ·exact⟨by simpa using h1,by omega⟩
theorem wrW_is {t:T} (h:(wr 0 t).1=0) (hl:(wr 0 t).2.length≤65536):(wrW t).1=0:=by
 unfold wrW
 rw[if_neg (by simp[h]),if_neg (by omega)]
theorem wrW_kid {c t:Int} {m:Bool} {b:List UInt8} {ks:List T} (h:(wrW (.mk c t m b ks)).1=0) {k:T} (hk:k∈ks):(wrW k).1=0:=by
 obtain⟨h1,h2⟩:=wrW_zero h
 obtain⟨_,a2,a3,a4,a5,a6,a7⟩:=wr_ok h1
 obtain⟨b1,b2⟩:=wrs_mem a6 k hk
 have hm:m=true:=by
  cases m
  ·rw[a5 rfl]at hk;simp at hk
  ·rfl
 have e:=wr_down (d':=0) (Nat.zero_le 1) k b1
 refine wrW_is (by rw[e];exact b1) ?_
 rw[e]
 subst hm
 rw[wr]at h2
 unfold wrK at h2
 rw[if_neg (by omega),if_neg (by rw[a2];simp),if_neg (by rw[a3];omega),if_neg (by rw[a3,a4 rfl];simp),if_neg (by simp[a6]),if_neg a7]at h2
 simp only[if_true,List.length_append]at h2
 have b2':(wr 1 k).2.length≤(wrs (0+1) ks).2.flatten.length:=b2
 omega
theorem gDn_kids:∀(d:Dn) (ks ks':List T),foldE gDn ks d= .inl ks'→∃os:List (List UInt8),os.length=d.length∧ks'=ks++(os.zip d).map (fun p=>kidT p.1 p.2.2)∧∀p∈os.zip d,oidS p.2.1=some p.1
 | [],ks,ks',h=>by cases h;exact⟨[],rfl,by simp,by simp⟩
 |a::r,ks,ks',h=>by
  rw[foldE_cons]at h
  cases ho:oidS a.1 with
  |none=>simp only[gDn,ho]at h;cases h
  |some out=>
   simp only[gDn,ho]at h
   obtain⟨os,h1,h2,h3⟩:=gDn_kids r _ ks' h
   refine⟨out::os,by simp[h1],by rw[h2];simp,fun p hp=>?_⟩
   rcases List.mem_cons.1 hp with rfl|hp
   ·exact ho
   ·exact h3 p hp
theorem gP_kid {out s:List UInt8} {n:List UInt8} (st:Dn × Int) (ho:oidR (oidT out)= .ok n) (ht:textB s=true):gP st (kidT out s)= .inl (st.1++[(n,s)],st.2):=by
 unfold gP kidT
 rw[two?,if_pos ⟨rfl,rfl,rfl,rfl⟩]
 simp only
 rw[ho]
 unfold textT
 have h2:tagOf s=12∨tagOf s=19:=by unfold tagOf;split<;>simp
 simp only
 rw[if_pos ⟨trivial,h2,trivial⟩,if_neg (by simp[ht])]
theorem gP_all:∀(os:List (List UInt8)) (d:Dn) (st:Dn × Int),os.length=d.length→(∀p∈os.zip d,oidR (oidT p.1)= .ok p.2.1∧textB p.2.2=true)→foldE gP st ((os.zip d).map fun p=>kidT p.1 p.2.2)= .inl (st.1++d,st.2)
 | [],[],st,_,_=>by simp[foldE]
 | [],_::_,_,h,_=>by simp at h
 |_::_,[],_,h,_=>by simp at h
 |o::os,a::d,st,h,hp=>by
  have h1:=hp (o,a) (by simp)
  simp only[List.zip_cons_cons,List.map_cons]
  rw[foldE_cons,gP_kid st h1.1 h1.2]
  simp only
  rw[gP_all os d _ (by simpa using h) fun p hq=>hp p (by simp[hq])]
  simp
theorem pdn_dnS {d:Dn} {x:T} (h:dnS d= .ok x) (hw:(wrW x).1=0):pdn x= .ok d:=by
 unfold dnS at h
 split at h
 ·cases h
 ·rename_i h16
  split at h
  ·cases h
  ·rename_i ks hf
   split at h
   ·cases h
   ·rename_i ht
    cases h
    obtain⟨os,h1,h2,h3⟩:=gDn_kids d [] ks hf
    simp only[List.nil_append]at h2
    have hl:ks.length≤16:=by rw[h2];simp;omega
    rw[pdn,if_neg (by simp[hw];omega)]
    have hk:∀p∈os.zip d,oidR (oidT p.1)= .ok p.2.1∧textB p.2.2=true:=by
     intro p hp
     have m1:kidT p.1 p.2.2∈ks:=by rw[h2];exact List.mem_map.2 ⟨p,hp,rfl⟩
     have v1:=wrW_kid hw m1
     unfold kidT at v1
     have v2:=wrW_kid v1 (List.mem_singleton.2 rfl)
     have v3:=wrW_kid v2 (List.mem_cons_self ..)
     refine⟨oidR_oidS (h3 p hp) v3,?_⟩
     have hm:p.2∈d:=(List.of_mem_zip hp).2
     simp only[List.any_eq_true,not_exists,not_and,Bool.not_eq_true',Bool.not_eq_false]at ht
     simpa using ht p.2 hm
    rw[h2,gP_all os d ([],0) h1 hk]
    simp
theorem pgen_genS {k:Int} {s:List UInt8} {d:Dn} {lim:Bool} {x:T} (h:genS k s d lim= .ok x) (hw:(wrW x).1=0):∃dv,isDir dv d∧pgen lim x= .ok k s dv:=by
 unfold genS at h
 split at h
 ·cases h
 ·rename_i hc
  simp only[not_or,not_and,Bool.not_eq_false]at hc
  obtain⟨c1,c2,c3⟩:=hc
  split at h
  ·rename_i h4
   subst h4
   have hs:s=[]:=by
    by_cases hs:s=[]
    ·exact hs
    ·exact(c3 rfl hs).elim
   subst hs
   split at h
   ·cases h
   ·rename_i D hD
    split at h
    ·rename_i hr
     cases h
     refine⟨.sl 2 (attrs d),.inl rfl,?_⟩
     rw[pgen,if_neg (by simp[hw,c1])]
     simp only[if_true]
     rw[pdn_dnS hD (wrW_kid hw (List.mem_singleton.2 rfl))]
     simp only
     rw[if_pos hr]
    ·cases h
  ·rename_i h4
   have hd:d=[]:=by
    cases d with
    |nil=>rfl
    |cons a r=>exact absurd (by simp) (c2 h4)
   subst hd
   split at h
   ·rename_i hr
    cases h
    refine⟨.nilsl,.inr ⟨rfl,rfl⟩,?_⟩
    rw[pgen,if_neg (by simp[hw,c1,h4]),if_neg h4]
    simp only
    rw[if_pos hr]
   ·cases h
theorem grp_go (p:Nat) (n d:Int) (r:List UInt8) (hn:0≤n/d) (hp:0<n/d/128→128≤p):∃q,foldE gGr p (Nm.part n d++r)=foldE gGr q r∧(0<n/d→128≤q):=by
 unfold Nm.part
 by_cases h:0<n/d
 ·rw[if_pos h,List.singleton_append,foldE_cons]
  have ho:=or128 ⟨(n/d%128).toNat,by omega⟩
  simp only at ho
  unfold gGr
  rw[ho,if_neg (by omega)]
  exact⟨_,rfl,fun _=>by omega⟩
 ·rw[if_neg h,List.nil_append]
  exact⟨p,rfl,fun h'=>absurd h' h⟩
theorem enc_grp (p:Nat) (n:Int) (r:List UInt8) (h0:0≤n) (h:n<1099511627776):∃q,foldE gGr p (enc n++r)=foldE gGr q r:=by
 unfold enc
 simp only[encD,List.append_assoc,List.singleton_append]
 obtain⟨q5,e5,g5⟩:=grp_go p n 34359738368 (Nm.part n 268435456++(Nm.part n 2097152++(Nm.part n 16384++(Nm.part n 128++UInt8.ofNat (n%128).toNat::r)))) (by omega) (by omega)
 obtain⟨q4,e4,g4⟩:=grp_go q5 n 268435456 (Nm.part n 2097152++(Nm.part n 16384++(Nm.part n 128++UInt8.ofNat (n%128).toNat::r))) (by omega) (fun h=>g5 (by omega))
 obtain⟨q3,e3,g3⟩:=grp_go q4 n 2097152 (Nm.part n 16384++(Nm.part n 128++UInt8.ofNat (n%128).toNat::r)) (by omega) (fun h=>g4 (by omega))
 obtain⟨q2,e2,g2⟩:=grp_go q3 n 16384 (Nm.part n 128++UInt8.ofNat (n%128).toNat::r) (by omega) (fun h=>g3 (by omega))
 obtain⟨q1,e1,g1⟩:=grp_go q2 n 128 (UInt8.ofNat (n%128).toNat::r) (by omega) (fun h=>g2 (by omega))
 rw[e5,e4,e3,e2,e1,foldE_cons]
 obtain⟨_,b⟩:=last_toNat n
 unfold gGr
 rw[if_neg (by omega)]
 exact⟨_,rfl⟩
theorem encs_grp:∀(l:List Int) (p:Nat),(∀n∈l,0≤n∧n<1099511627776)→∃q,foldE gGr p (encs l)= .inl q
 | [],p,_=>⟨p,rfl⟩
 |n::l,p,h=>by
  have hn:=h n (by simp)
  obtain⟨q,e⟩:=enc_grp p n (encs l) hn.1 hn.2
  obtain⟨q',e'⟩:=encs_grp l q fun x hx=>h x (by simp[hx])
  exact⟨q',by rw[show encs (n::l)=enc n++encs l from rfl,e,e']⟩
theorem encs_last:∀(l:List Int),l≠[]→∃pre c,encs l=pre++[c]∧c.toNat<128
 | [],h=>absurd rfl h
 | [n],_=>by
  refine⟨Nm.part n 34359738368++(Nm.part n 268435456++(Nm.part n 2097152++(Nm.part n 16384++Nm.part n 128))),UInt8.ofNat (n%128).toNat,?_,(last_toNat n).2⟩
  simp[encs,enc,encD]
 |n::m::l,_=>by
  obtain⟨pre,c,e,hc⟩:=encs_last (m::l) (by simp)
  exact⟨enc n++pre,c,by rw[show encs (n::m::l)=enc n++encs (m::l)from rfl,e,List.append_assoc],hc⟩
theorem rOid_encs {l:List Int} (hne:l≠[]) (h:∀n∈l,0≤n∧n<1099511627776):rOid (encs l)=true:=by
 obtain⟨q,e⟩:=encs_grp l 0 h
 obtain⟨pre,c,e2,hc⟩:=encs_last l hne
 unfold rOid
 rw[e,e2]
 simp[g0,hc]
theorem rOid_oidS {s out:List UInt8} (h:oidS s=some out):rOid out=true:=by
 unfold oidS at h
 simp only at h
 split at h
 ·cases h
 ·split at h
  ·rename_i l hl
   obtain⟨hh,b⟩:=numsP_itoa hl
   unfold oidN at h
   split at h
   ·rename_i n0 n1 r
    split at h
    ·cases h
    ·rename_i hc
     cases h
     have b0:=b n0 (by simp)
     have b1:=b n1 (by simp)
     refine rOid_encs (by simp) fun n hn=>?_
     rcases List.mem_cons.1 hn with rfl|hn
     ·omega
     ·exact b n (by simp[hn])
   ·cases h
  ·cases h
theorem pr_all:(List.range 256).all (fun i=>!printB (UInt8.ofNat i)||prB (UInt8.ofNat i))=true:=by kernel_rfl
theorem pr_of {c:UInt8} (h:printB c=true):prB c=true:=by
 have:=List.all_eq_true.1 pr_all c.toNat (List.mem_range.2 c.toNat_lt)
 rw[UInt8.ofNat_toNat,h]at this
 simpa using this
theorem right_text {s:List UInt8} (h:textB s=true):right (tagOf s) s=true∧(tagOf s=12∨tagOf s=19):=by
 unfold textB at h
 simp only[Bool.and_eq_true]at h
 unfold tagOf
 by_cases hp:s.all printB=true
 ·rw[if_pos hp]
  refine⟨?_,.inr rfl⟩
  show s.all prB=true
  rw[List.all_eq_true]at hp ⊢
  exact fun c hc=>pr_of (hp c hc)
 ·rw[if_neg hp]
  exact⟨h.2,.inl rfl⟩
theorem wr_leaf {d:Nat} {c t:Int} {b:List UInt8} (hd:d≤16) (hr:rangeB c t=false) (hf:formE c t false b=0) (h17:¬(c=0∧t=17)):(wr d (.mk c t false b [])).1=0:=by
 rw[wr]
 unfold wrK
 rw[if_neg (by omega),if_neg (by simp[hr]),if_neg (by omega),if_neg (by simp[hf]),if_neg (by simp[wrs]),if_neg (fun h=>h17 ⟨h.1,h.2.1⟩)]
theorem wr_node {d:Nat} {c t:Int} {ks:List T} (hd:d≤16) (hr:rangeB c t=false) (hf:formE c t true []=0) (hk:(wrs (d+1) ks).1=0) (hs:¬(c=0∧t=17∧sortedB (wrs (d+1) ks).2=false)):(wr d (.mk c t true [] ks)).1=0:=by
 rw[wr]
 unfold wrK
 rw[if_neg (by omega),if_neg (by simp[hr]),if_neg (by omega),if_neg (by simp[hf]),if_neg (by simp[hk]),if_neg hs]
theorem wrs_all {d:Nat}:∀ {ks:List T},(∀k∈ks,(wr d k).1=0)→(wrs d ks).1=0
 | [],_=>rfl
 |k::r,h=>by
  rw[wrs,if_neg (by simp[h k (by simp)]),if_neg (by simp[wrs_all (ks:=r) fun x hx=>h x (List.mem_cons_of_mem _ hx)])]
theorem wr_kidT {d:Nat} (hd:d+2≤16) {out s:List UInt8} (ho:rOid out=true) (ht:textB s=true):(wr d (kidT out s)).1=0:=by
 obtain⟨h1,h2⟩:=right_text ht
 have a1:(wr (d+2) (oidT out)).1=0:=wr_leaf (by omega) rfl (by show(if right 6 out=true then(0:Int)else 24)=0;rw[show right 6 out=rOid out from rfl,ho];rfl) (by omega)
 have a2:(wr (d+2) (textT s)).1=0:=by
  unfold textT
  rcases h2 with h2|h2<;>rw[h2]at h1 ⊢
  ·exact wr_leaf (by omega) rfl (by show(if right 12 s=true then(0:Int)else 24)=0;rw[h1];rfl) (by omega)
  ·exact wr_leaf (by omega) rfl (by show(if right 19 s=true then(0:Int)else 24)=0;rw[h1];rfl) (by omega)
 have a3:(wr (d+1) (.mk 0 16 true [] [oidT out,textT s])).1=0:=wr_node (by omega) rfl rfl (wrs_all fun k hk=>by
  simp only[List.mem_cons,List.not_mem_nil,or_false]at hk
  rcases hk with rfl|rfl
  ·exact a1
  ·exact a2) (by omega)
 unfold kidT
 refine wr_node (by omega) rfl rfl (wrs_all fun k hk=>by rw[List.mem_singleton.1 hk];exact a3) ?_
 rw[wrs,if_neg (by simp[a3])]
 simp[wrs,sortedB,foldE]
theorem wr_dn {d:Nat} (hd:d+3≤16) {dn:Dn} {D:T} (h:dnS dn= .ok D):(wr d D).1=0:=by
 unfold dnS at h
 split at h
 ·cases h
 ·split at h
  ·cases h
  ·rename_i ks hf
   split at h
   ·cases h
   ·rename_i ht
    cases h
    obtain⟨os,h1,h2,h3⟩:=gDn_kids dn [] ks hf
    simp only[List.nil_append]at h2
    refine wr_node (by omega) rfl rfl (wrs_all fun k hk=>?_) (by omega)
    rw[h2]at hk
    obtain⟨p,hp,rfl⟩:=List.mem_map.1 hk
    refine wr_kidT (by omega) (rOid_oidS (h3 p hp)) ?_
    have hm:p.2∈dn:=(List.of_mem_zip hp).2
    simp only[List.any_eq_true,not_exists,not_and,Bool.not_eq_true',Bool.not_eq_false]at ht
    simpa using ht p.2 hm
theorem wr_gen {d:Nat} (hd:d+4≤16) {k:Int} {s:List UInt8} {dn:Dn} {lim:Bool} {x:T} (h:genS k s dn lim= .ok x):(wr d x).1=0:=by
 unfold genS at h
 split at h
 ·cases h
 ·rename_i hc
  simp only[not_or,not_and,Bool.not_eq_false]at hc
  obtain⟨c1,c2,c3⟩:=hc
  have hk:k=1∨k=2∨k=4∨k=6∨k=7:=by
   unfold kindB at c1
   simp only[Bool.or_eq_true,beq_iff_eq]at c1
   omega
  split at h
  ·split at h
   ·cases h
   ·rename_i D hD
    split at h
    ·cases h
     exact wr_node (by omega) rfl rfl (wrs_all fun y hy=>by rw[List.mem_singleton.1 hy];exact wr_dn (by omega) hD) (by omega)
    ·cases h
  ·split at h
   ·cases h
    refine wr_leaf (by omega) ?_ rfl (by omega)
    unfold rangeB
    simp only[Bool.or_eq_false_iff,decide_eq_false_iff_not]
    omega
   ·cases h
theorem gens_mem (lim:Bool):∀(gs:List Gn) (ts0 ts:List T),foldE (gG lim) ts0 gs= .inl ts→∀u∈ts,u∈ts0∨∃g∈gs,genS g.1 g.2.1 g.2.2 lim= .ok u
 | [],ts0,ts,h,u,hu=>by cases h;exact .inl hu
 |g::gs,ts0,ts,h,u,hu=>by
  rw[foldE_cons]at h
  unfold gG at h
  cases hx:genS g.1 g.2.1 g.2.2 lim with
  |er e=>rw[hx]at h;cases h
  |ok x=>
   rw[hx]at h
   rcases gens_mem lim gs (ts0++[x]) ts h u hu with h1|⟨g',h1,h2⟩
   ·rcases List.mem_append.1 h1 with h1|h1
    ·exact .inl h1
    ·rw[List.mem_singleton.1 h1];exact .inr ⟨g,by simp,hx⟩
   ·exact .inr ⟨g',by simp[h1],h2⟩
theorem wr_gens {d:Nat} (hd:d+4≤16) {lim:Bool} {gs:List Gn} (h:gOK lim gs):∀u∈gensT lim gs,(wr d u).1=0:=by
 intro u hu
 rcases gens_mem lim gs [] _ h.2 u hu with h1|⟨g,_,h2⟩
 ·simp at h1
 ·exact wr_gen hd h2
theorem wrW_54 {t:T} (h:(wr 0 t).1=0) (h54:(wrW t).1≠54):(wrW t).1=0:=by
 by_cases hl:(wr 0 t).2.length≤65536
 ·exact wrW_is h hl
 ·exfalso
  apply h54
  unfold wrW
  rw[if_neg (by simp[h]),if_pos (by omega)]
theorem wrW_alt {c:Crt} (hok:CrtOK c):c.alt.length≠0→(wrW (altT c.alt)).1=0:=fun h0=>
 wrW_54 (wr_node (by omega) rfl rfl (wrs_all (wr_gens (by omega) hok.alt)) (by omega)) (hok.wa h0)
theorem wr_limK (k:Int) (hk:k=0∨k=1) {gs:List Gn} (h:gOK true gs):∀y∈limK k gs,(wr 1 y).1=0:=by
 intro y hy
 unfold limK at hy
 split at hy
 ·simp at hy
 ·rw[List.mem_singleton.1 hy]
  refine wr_node (by omega) (by rcases hk with rfl|rfl<;>rfl) rfl (wrs_all fun z hz=>?_) (by omega)
  obtain⟨u,hu,rfl⟩:=List.mem_map.1 hz
  exact wr_node (by omega) rfl rfl (wrs_all fun q hq=>by rw[List.mem_singleton.1 hq];exact wr_gens (by omega) h u hu) (by omega)
theorem wrW_lim {c:Crt} (hok:CrtOK c):c.permit.length+c.exclude.length≠0→(wrW (limT c.permit c.exclude)).1=0:=fun h0=>
 wrW_54 (wr_node (by omega) rfl rfl (wrs_all fun y hy=>by
  rcases List.mem_append.1 hy with hy|hy
  ·exact wr_limK 0 (.inl rfl) hok.per y hy
  ·exact wr_limK 1 (.inr rfl) hok.exc y hy) (by omega)) (hok.wl h0)
end Go.Mini

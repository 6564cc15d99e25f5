/- any value's DN and any DN's value are the document's: the law by that interpreter (part 17): what the program's functions answer, or plain laws of it; no conditions. -/
import Derived.Lib.IndexMore
import Derived.Test.YtmhgldplcpklcaaGreatDoorA16
set_option linter.all false
namespace Go.Mini.Nm
open Go Go.Mini Go.Proofs.YtmhgldplcpklcaaGreatDoor
set_option maxRecDepth 100000
set_option maxHeartbeats 4000000
theorem splitK_ne (sep:List UInt8) (k:Nat) (s:List UInt8):Lib.splitK sep 0 k s≠[]:=by
 cases k with
 |zero=>simp[Lib.splitK]
 |succ k=>unfold Lib.splitK;split<;>simp
theorem join_cons2 (x:List UInt8) {r:List (List UInt8)} (sep:List UInt8) (h:r≠[]):Lib.join (x::r) sep=x++(sep++Lib.join r sep):=by
 cases r with
 |nil=>exact(h rfl).elim
 |cons y r=>
  rw[Lib.join_cons,Lib.join_cons]
  unfold Lib.joinTail
  simp
theorem join_splitK (sep:List UInt8):∀(k:Nat) (s:List UInt8),Lib.join (Lib.splitK sep 0 k s) sep=s
 | 0,s=>by simp[Lib.splitK,Lib.join_one]
 |k+1,s=>by
  unfold Lib.splitK
  split
  ·exact Lib.join_one s sep
  ·rename_i hi
   rcases Lib.index_spec s sep with⟨h,_⟩|⟨i,h1,h2,h3,_⟩
   ·rw[h]at hi;exact(hi (by decide)).elim
   ·rw[join_cons2 _ _ (splitK_ne sep k _),join_splitK sep k,h1]
    simp only[Int.toNat_natCast,Nat.add_zero]
    unfold Lib.occAt at h3
    obtain⟨z,hz⟩:=List.isPrefixOf_iff_prefix.1 h3
    have e:s.drop (i+sep.length)=z:=by rw[←List.drop_drop,←hz];simp
    rw[e,hz]
    exact List.take_append_drop i s
theorem numsP_itoa:∀ {ps:List (List UInt8)} {l:List Int},numsP ps=some l→ps=l.map itoaL∧∀n∈l,0≤n∧n<1099511627776
 | [],l,h=>by rw[numsP]at h;cases h;exact⟨rfl,by simp⟩
 |p::r,l,h=>by
  rw[numsP]at h
  split at h
  ·rename_i n l' h1 h2
   cases h
   obtain⟨a,b⟩:=numsP_itoa h2
   unfold numP at h1
   split at h1
   ·rename_i n' _
    split at h1
    ·rename_i hc
     cases h1
     refine⟨by rw[List.map_cons,hc.2.2,←a],fun x hx=>?_⟩
     rcases List.mem_cons.1 hx with rfl|hx
     ·exact⟨hc.1,hc.2.1⟩
     ·exact b x hx
    ·cases h1
   ·cases h1
  ·cases h
theorem or128f:∀x:Fin 128,(UInt8.ofNat x.val|||128).toNat=x.val+128:=by decide +kernel
theorem part_go (s:List (List UInt8)) (n d:Int) (r:List UInt8) (hd:0<d) (hn:0≤n) (hb:n/d<1099511627776):foldE gO (s,n/d/128) (Nm.part n d++r)=foldE gO (s,n/d) r:=by
 unfold Nm.part
 split
 ·rw[List.singleton_append,foldE_cons]
  have h1:=or128f ⟨(n/d%128).toNat,by omega⟩
  simp only at h1
  unfold gO
  rw[h1]
  have e:(n/d/128)*128+(((n/d%128).toNat+128:Nat):Int)%128=n/d:=by omega
  simp only
  rw[e,if_neg (by omega),if_pos (by omega)]
 ·have:n/d=0:=by
   have:=Int.ediv_nonneg hn (Int.le_of_lt hd)
   omega
  rw[this];rfl
theorem enc_go (s:List (List UInt8)) (n:Int) (r:List UInt8) (h0:0≤n) (h:n<1099511627776+80) (h':n<1099511627776):foldE gO (s,0) (enc n++r)=foldE gO (s,n/128) (UInt8.ofNat (n%128).toNat::r):=by
 unfold enc
 simp only[encD,List.append_assoc,List.singleton_append]
 have e5:n/34359738368/128=0:=by omega
 have p5:=part_go s n 34359738368 (Nm.part n 268435456++(Nm.part n 2097152++(Nm.part n 16384++(Nm.part n 128++UInt8.ofNat (n%128).toNat::r)))) (by omega) h0 (by omega)
 rw[e5]at p5
 rw[p5]
 have p4:=part_go s n 268435456 (Nm.part n 2097152++(Nm.part n 16384++(Nm.part n 128++UInt8.ofNat (n%128).toNat::r))) (by omega) h0 (by omega)
 rw[show n/268435456/128=n/34359738368 by omega]at p4
 rw[p4]
 have p3:=part_go s n 2097152 (Nm.part n 16384++(Nm.part n 128++UInt8.ofNat (n%128).toNat::r)) (by omega) h0 (by omega)
 rw[show n/2097152/128=n/268435456 by omega]at p3
 rw[p3]
 have p2:=part_go s n 16384 (Nm.part n 128++UInt8.ofNat (n%128).toNat::r) (by omega) h0 (by omega)
 rw[show n/16384/128=n/2097152 by omega]at p2
 rw[p2]
 have p1:=part_go s n 128 (UInt8.ofNat (n%128).toNat::r) (by omega) h0 (by omega)
 rw[show n/128/128=n/16384 by omega]at p1
 exact p1
theorem last_toNat (n:Int):((UInt8.ofNat (n%128).toNat).toNat:Int)=n%128∧(UInt8.ofNat (n%128).toNat).toNat<128:=by
 simp only[UInt8.toNat_ofNat'];omega
theorem enc_more (s:List (List UInt8)) (hs:s≠[]) (n:Int) (r:List UInt8) (h0:0≤n) (h:n<1099511627776):foldE gO (s,0) (enc n++r)=foldE gO (s++[itoaL n],0) r:=by
 rw[enc_go s n r h0 (by omega) h,foldE_cons]
 obtain⟨a,b⟩:=last_toNat n
 unfold gO
 simp only
 rw[a,show n/128*128+n%128%128=n by omega,if_neg (by omega),if_neg (by omega),if_neg hs]
theorem enc_first (n0 n1:Int) (r:List UInt8) (h0:0≤n0∧n0≤2) (h1:0≤n1) (h2:n0<2→n1≤39) (h3:n1+40*n0<1099511627776):foldE gO ([],0) (enc (n1+40*n0)++r)=foldE gO ([itoaL n0,itoaL n1],0) r:=by
 rw[enc_go [] _ r (by omega) (by omega) h3,foldE_cons]
 obtain⟨a,b⟩:=last_toNat (n1+40*n0)
 unfold gO
 simp only
 rw[a,show(n1+40*n0)/128*128+(n1+40*n0)%128%128=n1+40*n0 by omega,if_neg (by omega),if_neg (by omega),if_pos trivial]
 have e:min ((n1+40*n0)/40) 2=n0:=by omega
 rw[e,show n1+40*n0-40*n0=n1 by omega]
theorem encs_go:∀(l:List Int) (s:List (List UInt8)),s≠[]→(∀n∈l,0≤n∧n<1099511627776)→foldE gO (s,0) (encs l)= .inl (s++l.map itoaL,0)
 | [],s,_,_=>by simp[encs,foldE]
 |n::l,s,hs,h=>by
  have hn:=h n (List.mem_cons_self ..)
  show foldE gO (s,0) (enc n++encs l)=_
  rw[enc_more s hs n _ hn.1 hn.2,encs_go l _ (by simp) fun x hx=>h x (List.mem_cons_of_mem _ hx)]
  simp
theorem oidR_oidS {s out:List UInt8} (h:oidS s=some out) (hw:(wrW (oidT out)).1=0):oidR (oidT out)= .ok s:=by
 unfold oidS at h
 simp only at h
 split at h
 ·cases h
 ·rename_i hlen
  split at h
  ·rename_i l hl
   obtain⟨a,b⟩:=numsP_itoa hl
   unfold oidN at h
   split at h
   ·rename_i n0 n1 r
    split at h
    ·cases h
    ·rename_i hc
     cases h
     have b0:=b n0 (by simp)
     have b1:=b n1 (by simp)
     unfold oidT at hw ⊢
     rw[oidR,if_neg (by simp[hw])]
     unfold oidG
     have e:foldE gO ([],0) (encs ((n1+40*n0)::r))= .inl ((n0::n1::r).map itoaL,0):=by
      show foldE gO ([],0) (enc (n1+40*n0)++encs r)=_
      rw[enc_first n0 n1 _ (by omega) (by omega) (by omega) (by omega),encs_go r _ (by simp) fun x hx=>b x (by simp[hx])]
      simp
     rw[e]
     simp only
     rw[←a,if_neg (by omega),join_splitK]
   ·cases h
  ·cases h
theorem part_gr (p:Nat) (n d:Int) (r:List UInt8) (hd:0<d) (hn:0≤n) (h:0<n/d/128∧128≤p∨n/d/128=0∧p<128):∃p',foldE gGr p (Nm.part n d++r)=foldE gGr p' r∧(0<n/d∧128≤p'∨n/d=0∧p'<128):=by
 unfold Nm.part
 split
 ·rename_i hp
  have h1:=or128f ⟨(n/d%128).toNat,by omega⟩
  simp only at h1
  refine⟨(n/d%128).toNat+128,?_,.inl ⟨hp,by omega⟩⟩
  rw[List.singleton_append,foldE_cons]
  rw[show gGr p (UInt8.ofNat (n/d%128).toNat|||128)= .inl ((n/d%128).toNat+128) by
   unfold gGr
   rw[h1,if_neg]
   rintro⟨a,b⟩
   rcases h with⟨_,h⟩|⟨h,_⟩<;>omega]
 ·rename_i hp
  have h0:n/d=0:=by
   have:=Int.ediv_nonneg hn (Int.le_of_lt hd)
   omega
  refine⟨p,rfl,.inr ⟨h0,?_⟩⟩
  rcases h with⟨h,_⟩|⟨_,h⟩
  ·rw[h0]at h;exact absurd h (by decide)
  ·exact h
theorem enc_gr (p:Nat) (hp:p<128) (n:Int) (r:List UInt8) (h0:0≤n) (h:n<4398046511104):∃p',foldE gGr p (enc n++r)=foldE gGr p' r∧p'<128:=by
 unfold enc
 simp only[encD,List.append_assoc,List.singleton_append]
 obtain⟨p5,e5,q5⟩:=part_gr p n 34359738368 (Nm.part n 268435456++(Nm.part n 2097152++(Nm.part n 16384++(Nm.part n 128++UInt8.ofNat (n%128).toNat::r)))) (by omega) h0 (.inr ⟨by omega,hp⟩)
 rw[e5]
 obtain⟨p4,e4,q4⟩:=part_gr p5 n 268435456 (Nm.part n 2097152++(Nm.part n 16384++(Nm.part n 128++UInt8.ofNat (n%128).toNat::r))) (by omega) h0 (by rw[show n/268435456/128=n/34359738368 by omega];exact q5)
 rw[e4]
 obtain⟨p3,e3,q3⟩:=part_gr p4 n 2097152 (Nm.part n 16384++(Nm.part n 128++UInt8.ofNat (n%128).toNat::r)) (by omega) h0 (by rw[show n/2097152/128=n/268435456 by omega];exact q4)
 rw[e3]
 obtain⟨p2,e2,q2⟩:=part_gr p3 n 16384 (Nm.part n 128++UInt8.ofNat (n%128).toNat::r) (by omega) h0 (by rw[show n/16384/128=n/2097152 by omega];exact q3)
 rw[e2]
 obtain⟨p1,e1,q1⟩:=part_gr p2 n 128 (UInt8.ofNat (n%128).toNat::r) (by omega) h0 (by rw[show n/128/128=n/16384 by omega];exact q2)
 rw[e1]
 have hl:(UInt8.ofNat (n%128).toNat).toNat=(n%128).toNat:=by simp only[UInt8.toNat_ofNat'];omega
 refine⟨(n%128).toNat,?_,by omega⟩
 rw[foldE_cons,show gGr p1 (UInt8.ofNat (n%128).toNat)= .inl (n%128).toNat by
  unfold gGr
  rw[hl,if_neg (by omega)]]
theorem encs_gr:∀(l:List Int) (p:Nat),p<128→(∀n∈l,0≤n∧n<4398046511104)→∃p',foldE gGr p (encs l)= .inl p'∧p'<128
 | [],p,hp,_=>⟨p,rfl,hp⟩
 |n::l,p,hp,h=>by
  have hn:=h n (List.mem_cons_self ..)
  obtain⟨p1,e1,q1⟩:=enc_gr p hp n (encs l) hn.1 hn.2
  obtain⟨p2,e2,q2⟩:=encs_gr l p1 q1 fun x hx=>h x (List.mem_cons_of_mem _ hx)
  exact⟨p2,by show foldE gGr p (enc n++encs l)=_;rw[e1,e2],q2⟩
theorem gr_last:∀(b:List UInt8) (p p':Nat),foldE gGr p b= .inl p'→b≠[]→p'=(g0 b (b.length-1)).toNat
 | [],_,_,_,h=>absurd rfl h
 |c::r,p,p',h,_=>by
  rw[foldE_cons]at h
  cases hg:gGr p c with
  |inr u=>rw[hg]at h;cases h
  |inl q=>
   rw[hg]at h
   have hq:q=c.toNat:=by
    unfold gGr at hg
    split at hg
    ·cases hg
    ·cases hg;rfl
   cases r with
   |nil=>cases h;rw[hq];rfl
   |cons a s=>
    have:=gr_last (a::s) q p' h (by simp)
    rw[this]
    unfold g0
    simp
theorem enc_ne (n:Int):enc n≠[]:=by
 unfold enc
 simp[encD]
theorem rOid_encs (l:List Int) (hne:l≠[]) (h:∀n∈l,0≤n∧n<4398046511104):rOid (encs l)=true:=by
 obtain⟨p',e,q⟩:=encs_gr l 0 (by omega) h
 have hb:encs l≠[]:=by
  cases l with
  |nil=>exact absurd rfl hne
  |cons n r=>
   show enc n++encs r≠[]
   simp[enc_ne]
 have:=gr_last _ _ _ e hb
 unfold rOid
 rw[e]
 have hl:0<(encs l).length:=List.length_pos_iff.2 hb
 simp only[Bool.and_eq_true,decide_eq_true_eq]
 exact⟨hl,by omega⟩
theorem part_len (n d:Int):(Nm.part n d).length≤1:=by
 unfold Nm.part
 split<;>simp
theorem enc_len6 (n:Int):(enc n).length≤6:=by
 unfold enc
 simp only[encD,List.length_append,List.length_cons,List.length_nil]
 have h1:=part_len n 34359738368
 have h2:=part_len n 268435456
 have h3:=part_len n 2097152
 have h4:=part_len n 16384
 have h5:=part_len n 128
 omega
theorem encs_len:∀l:List Int,(encs l).length≤6*l.length
 | []=>by simp[encs]
 |n::l=>by
  have h1:=enc_len6 n
  have h2:=encs_len l
  have e:encs (n::l)=enc n++encs l:=rfl
  rw[e,List.length_append,List.length_cons];omega
theorem oidS_ok {s out:List UInt8} (h:oidS s=some out):rOid out=true∧out.length≤120:=by
 unfold oidS at h
 simp only at h
 split at h
 ·cases h
 ·rename_i hlen
  split at h
  ·rename_i l hl
   obtain⟨a,b⟩:=numsP_itoa hl
   unfold oidN at h
   split at h
   ·rename_i n0 n1 r
    split at h
    ·cases h
    ·cases h
     have b0:=b n0 (by simp)
     have b1:=b n1 (by simp)
     have hll:=congrArg List.length a
     simp only[List.length_map,List.length_cons]at hll
     refine⟨rOid_encs _ (by simp) ?_,?_⟩
     ·intro x hx
      rcases List.mem_cons.1 hx with rfl|hx
      ·omega
      ·have:=b x (by simp[hx]);omega
     ·have:=encs_len ((n1+40*n0)::r)
      rw[List.length_cons]at this
      omega
   ·cases h
  ·cases h
def encH (m:Int):List UInt8:=Nm.part m 34359738368++(Nm.part m 268435456++(Nm.part m 2097152++(Nm.part m 16384++(Nm.part m 128++Nm.part m 1))))
theorem part_eq {n m d e:Int} (h:n/d=m/e):Nm.part n d=Nm.part m e:=by unfold Nm.part;rw[h]
theorem part_nil {n d:Int} (h:n/d=0):Nm.part n d=[]:=by unfold Nm.part;rw[h,if_neg (by decide)]
theorem encH_step (n N:Int) (c:UInt8) (hn:0≤n) (hc:128≤c.toNat) (hN:N=n*128+(c.toNat:Int)%128) (h1:0<N) (h2:N<1099511627776):encH N=encH n++[c]:=by
 have hcl:=c.toNat_lt
 unfold encH
 rw[part_nil (n:=n) (d:=34359738368) (by omega),part_eq (n:=N) (d:=34359738368) (m:=n) (e:=268435456) (by omega),part_eq (n:=N) (d:=268435456) (m:=n) (e:=2097152) (by omega),part_eq (n:=N) (d:=2097152) (m:=n) (e:=16384) (by omega),part_eq (n:=N) (d:=16384) (m:=n) (e:=128) (by omega),part_eq (n:=N) (d:=128) (m:=n) (e:=1) (by omega)]
 have e:Nm.part N 1=[c]:=by
  unfold Nm.part
  rw[if_pos (by omega)]
  refine congrArg (fun x=>[x]) (UInt8.toNat_inj.1 ?_)
  have h1:=or128f ⟨(N/1%128).toNat,by omega⟩
  simp only at h1
  rw[h1]
  omega
 rw[e]
 simp
theorem encH_end (n N:Int) (c:UInt8) (hn:0≤n) (hc:c.toNat<128) (hN:N=n*128+(c.toNat:Int)%128) (h2:N<1099511627776):enc N=encH n++[c]:=by
 unfold encH enc
 simp only[encD]
 rw[part_nil (n:=n) (d:=34359738368) (by omega),part_eq (n:=N) (d:=34359738368) (m:=n) (e:=268435456) (by omega),part_eq (n:=N) (d:=268435456) (m:=n) (e:=2097152) (by omega),part_eq (n:=N) (d:=2097152) (m:=n) (e:=16384) (by omega),part_eq (n:=N) (d:=16384) (m:=n) (e:=128) (by omega),part_eq (n:=N) (d:=128) (m:=n) (e:=1) (by omega)]
 have e:UInt8.ofNat (N%128).toNat=c:=by
  refine UInt8.toNat_inj.1 ?_
  simp only[UInt8.toNat_ofNat']
  omega
 rw[e]
 simp
def partsOf:List Int→List (List UInt8)
 | []=>[]
 |N::r=>itoaL (min (N/40) 2)::itoaL (N-40*min (N/40) 2)::r.map itoaL
theorem dec_enc:∀(b:List UInt8) (ps:List (List UInt8)) (n:Int) (p:Nat) (ps':List (List UInt8)) (n':Int) (p':Nat),0≤n→n<1099511627776→(n=0∧p<128∨0<n∧128≤p)→foldE gO (ps,n) b= .inl (ps',n')→foldE gGr p b= .inl p'→p'<128 →
  ∃l:List Int,encH n++b=encs l∧(∀N∈l,0≤N∧N<1099511627776)∧ps'=if ps=[]then partsOf l else ps++l.map itoaL
 | [],ps,n,p,ps',n',p',h0,h1,hI,hO,hG,hp=>by
  cases hO
  cases hG
  have hn:n=0:=by omega
  subst hn
  refine⟨[],?_,by simp,?_⟩
  ·rw[List.append_nil];rfl
  ·split
   ·rename_i h;rw[h];rfl
   ·simp
 |c::r,ps,n,p,ps',n',p',h0,h1,hI,hO,hG,hp=>by
  rw[foldE_cons]at hO hG
  have hcl:=c.toNat_lt
  cases hg:gGr p c with
  |inr u=>rw[hg]at hG;cases hG
  |inl q=>
   rw[hg]at hG
   have hq:q=c.toNat∧¬(c.toNat=128∧p<128):=by
    unfold gGr at hg
    split at hg
    ·cases hg
    ·rename_i h;cases hg;exact⟨rfl,h⟩
   obtain⟨rfl,hq⟩:=hq
   simp only at hG
   obtain⟨N,hN⟩:∃N,N=n*128+(c.toNat:Int)%128:=⟨_,rfl⟩
   unfold gO at hO
   simp only at hO
   rw[←hN]at hO
   by_cases a1:1099511627776≤N
   ·rw[if_pos a1]at hO;cases hO
   rw[if_neg a1]at hO
   by_cases a2:128≤c.toNat
   ·rw[if_pos a2]at hO
    simp only at hO
    have hN0:0<N:=by omega
    obtain⟨l,e,b1,b2⟩:=dec_enc r ps N c.toNat ps' n' p' (by omega) (by omega) (.inr ⟨hN0,a2⟩) hO hG hp
    refine⟨l,?_,b1,b2⟩
    rw[←e,encH_step n N c h0 a2 hN hN0 (by omega)]
    simp
   rw[if_neg a2]at hO
   have hE:=encH_end n N c h0 (by omega) hN (by omega)
   by_cases a3:ps=[]
   ·rw[if_pos a3]at hO
    simp only at hO
    obtain⟨l,e,b1,b2⟩:=dec_enc r _ 0 c.toNat ps' n' p' (by omega) (by omega) (.inl ⟨rfl,by omega⟩) hO hG hp
    refine⟨N::l,?_,?_,?_⟩
    ·show _=enc N++encs l
     rw[←e,hE,show encH 0=[]from rfl]
     simp
    ·intro x hx
     rcases List.mem_cons.1 hx with rfl|hx
     ·omega
     ·exact b1 x hx
    ·rw[if_pos a3,b2,if_neg (by simp)]
     rfl
   ·rw[if_neg a3]at hO
    simp only at hO
    obtain⟨l,e,b1,b2⟩:=dec_enc r _ 0 c.toNat ps' n' p' (by omega) (by omega) (.inl ⟨rfl,by omega⟩) hO hG hp
    refine⟨N::l,?_,?_,?_⟩
    ·show _=enc N++encs l
     rw[←e,hE,show encH 0=[]from rfl]
     simp
    ·intro x hx
     rcases List.mem_cons.1 hx with rfl|hx
     ·omega
     ·exact b1 x hx
    ·rw[if_neg a3,b2,if_neg (by simp)]
     simp
theorem decF_dig:∀(k n:Nat),n<10^(k+1)→(decF k n).all dig=true∧val 0 (decF k n)=n∧decF k n≠[]
 | 0,n,h=>by
  have hn:n<10:=by omega
  have e:(UInt8.ofNat (48+n)).toNat=48+n:=by simp only[UInt8.toNat_ofNat'];omega
  rw[decF]
  refine⟨?_,?_,by simp⟩
  ·simp only[List.all_cons,List.all_nil,Bool.and_true,dig,e];simp;omega
  ·simp only[val,List.foldl_cons,List.foldl_nil,e];omega
 |k+1,n,h=>by
  unfold decF
  by_cases hn:n<10
  ·have e:(UInt8.ofNat (48+n)).toNat=48+n:=by simp only[UInt8.toNat_ofNat'];omega
   rw[if_pos hn]
   refine⟨?_,?_,by simp⟩
   ·simp only[List.all_cons,List.all_nil,Bool.and_true,dig,e];simp;omega
   ·simp only[val,List.foldl_cons,List.foldl_nil,e];omega
  ·rw[if_neg hn]
   obtain⟨a,b,c⟩:=decF_dig k (n/10) (by rw[Nat.pow_succ]at h;omega)
   have e:(UInt8.ofNat (48+n%10)).toNat=48+n%10:=by simp only[UInt8.toNat_ofNat'];omega
   refine⟨?_,?_,by simp⟩
   ·rw[List.all_append,a]
    simp only[List.all_cons,List.all_nil,Bool.and_true,Bool.true_and,dig,e];simp;omega
   ·rw[val_snoc,b,e];omega
theorem itoa_dig {n:Int} (h0:0≤n) (h1:n<1099511627776):(itoaL n).all dig=true∧numP (itoaL n)=some n:=by
 have e:itoaL n=decF 19 n.toNat:=by unfold itoaL;rw[if_neg (by omega)]
 have hlt:n.toNat<10^(19+1):=by omega
 obtain⟨a,b,c⟩:=decF_dig 19 n.toNat hlt
 rw[←e]at a b c
 refine⟨a,?_⟩
 have h:=atoi_val c a (by omega)
 rw[b,show((n.toNat:Nat):Int)=n by omega]at h
 unfold numP
 rw[h]
 simp only
 rw[if_pos ⟨h0,h1,trivial⟩]
theorem nums_map:∀l:List Int,(∀n∈l,0≤n∧n<1099511627776)→numsP (l.map itoaL)=some l
 | [],_=>rfl
 |n::l,h=>by
  have hn:=h n (List.mem_cons_self ..)
  rw[List.map_cons,numsP,(itoa_dig hn.1 hn.2).2,nums_map l fun x hx=>h x (List.mem_cons_of_mem _ hx)]
theorem splits_dig:∀p:List UInt8,p.all dig=true→splits p=[p]
 | [],_=>rfl
 |c::r,h=>by
  simp only[List.all_cons,Bool.and_eq_true]at h
  have hc:c≠46:=by
   rintro rfl
   exact absurd h.1 (by decide)
  rw[splits,if_neg hc,splits_dig r h.2]
theorem splits_app:∀(p r:List UInt8),p.all dig=true→splits (p++46::r)=p::splits r
 | [],r,_=>by rw[List.nil_append,splits,if_pos rfl]
 |c::p,r,h=>by
  simp only[List.all_cons,Bool.and_eq_true]at h
  have hc:c≠46:=by
   rintro rfl
   exact absurd h.1 (by decide)
  rw[List.cons_append,splits,if_neg hc,splits_app p r h.2]
theorem splits_join:∀(ps:List (List UInt8)),ps≠[]→(∀p∈ps,p.all dig=true)→splits (Lib.join ps [46])=ps
 | [],h,_=>absurd rfl h
 | [p],_,h=>by rw[Lib.join_one];exact splits_dig p (h p (by simp))
 |p::q::r,_,h=>by
  rw[join_cons2 p [46] (by simp),List.singleton_append,splits_app _ _ (h p (by simp)),splits_join (q::r) (by simp) fun x hx=>h x (List.mem_cons_of_mem _ hx)]
theorem oidS_oidG {b s:List UInt8} (h:oidG b= .ok s) (hr:rOid b=true):oidS s=some b:=by
 unfold rOid at hr
 cases hG:foldE gGr 0 b with
 |inr u=>rw[hG]at hr;cases hr
 |inl p'=>
 rw[hG]at hr
 simp only[Bool.and_eq_true,decide_eq_true_eq]at hr
 have hb:b≠[]:=List.length_pos_iff.1 hr.1
 have hp':=gr_last b 0 p' hG hb
 unfold oidG at h
 cases hO:foldE gO ([],0) b with
 |inr u=>rw[hO]at h;cases h
 |inl st=>
 obtain⟨ps,n⟩:=st
 rw[hO]at h
 simp only at h
 by_cases h20:20<ps.length
 ·rw[if_pos h20]at h;cases h
 rw[if_neg h20]at h
 cases h
 obtain⟨l,e,b1,b2⟩:=dec_enc b [] 0 0 ps n p' (by omega) (by omega) (.inl ⟨rfl,by omega⟩) hO hG (by omega)
 rw[show encH 0=[]from rfl,List.nil_append]at e
 rw[if_pos rfl]at b2
 cases l with
 |nil=>exact absurd e hb
 |cons N r=>
 have hN:=b1 N (List.mem_cons_self ..)
 have hps:ps=(min (N/40) 2::(N-40*min (N/40) 2)::r).map itoaL:=by rw[b2];rfl
 have hall:∀n∈(min (N/40) 2::(N-40*min (N/40) 2)::r),0≤n∧n<1099511627776:=by
  intro x hx
  simp only[List.mem_cons]at hx
  rcases hx with rfl|rfl|hx
  ·omega
  ·omega
  ·exact b1 x (List.mem_cons_of_mem _ hx)
 unfold oidS
 simp only
 rw[split_eq,splits_join ps (by rw[hps];simp) (by
  intro p hp
  rw[hps]at hp
  obtain⟨x,hx,rfl⟩:=List.mem_map.1 hp
  exact(itoa_dig (hall x hx).1 (hall x hx).2).1)]
 have hl2:2≤ps.length:=by rw[hps];simp
 rw[if_neg (by omega),hps,nums_map _ hall]
 unfold oidN
 simp only
 rw[if_neg (by omega),show N-40*min (N/40) 2+40*min (N/40) 2=N by omega,e]
theorem gDn_kids:∀(d:Dn) (ks ks':List T),foldE gDn ks d= .inl ks'→∃os:List (List UInt8),os.length=d.length∧ks'=ks++(os.zip d).map (fun p=>kidT p.1 p.2.2)∧∀p∈os.zip d,oidS p.2.1=some p.1
 | [],ks,ks',h=>by cases h;exact⟨[],rfl,by simp,by simp⟩
 |a::r,ks,ks',h=>by
  rw[foldE_cons]at h
  cases ho:oidS a.1 with
  |none=>simp only[gDn,ho]at h;cases h
  |some out=>
   simp only[gDn,ho]at h
   obtain⟨os,h1,h2,h3⟩:=gDn_kids r _ ks' h
   refine⟨out::os,by simp[h1],by rw[h2];simp,fun p hp=>?_⟩
   rcases List.mem_cons.1 hp with rfl|hp
   ·exact ho
   ·exact h3 p hp
theorem gP_kid {out s:List UInt8} {n:List UInt8} (st:Dn × Int) (ho:oidR (oidT out)= .ok n) (ht:textB s=true):gP st (kidT out s)= .inl (st.1++[(n,s)],st.2):=by
 unfold gP kidT
 rw[two?,if_pos ⟨rfl,rfl,rfl,rfl⟩]
 simp only
 rw[ho]
 unfold textT
 have h2:tagOf s=12∨tagOf s=19:=by unfold tagOf;split<;>simp
 simp only
 rw[if_pos ⟨trivial,h2,trivial⟩,if_neg (by simp[ht])]
theorem gP_all:∀(os:List (List UInt8)) (d:Dn) (st:Dn × Int),os.length=d.length→(∀p∈os.zip d,oidR (oidT p.1)= .ok p.2.1∧textB p.2.2=true)→foldE gP st ((os.zip d).map fun p=>kidT p.1 p.2.2)= .inl (st.1++d,st.2)
 | [],[],st,_,_=>by simp[foldE]
 | [],_::_,_,h,_=>by simp at h
 |_::_,[],_,h,_=>by simp at h
 |o::os,a::d,st,h,hp=>by
  have h1:=hp (o,a) (by simp)
  simp only[List.zip_cons_cons,List.map_cons]
  rw[foldE_cons,gP_kid st h1.1 h1.2]
  simp only
  rw[gP_all os d _ (by simpa using h) fun p hq=>hp p (by simp[hq])]
  simp
theorem pdn_dnS {d:Dn} {x:T} (h:dnS d= .ok x) (hw:(wrW x).1=0):pdn x= .ok d:=by
 unfold dnS at h
 split at h
 ·cases h
 ·rename_i h16
  split at h
  ·cases h
  ·rename_i ks hf
   split at h
   ·cases h
   ·rename_i ht
    cases h
    obtain⟨os,h1,h2,h3⟩:=gDn_kids d [] ks hf
    simp only[List.nil_append]at h2
    have hl:ks.length≤16:=by rw[h2];simp;omega
    rw[pdn,if_neg (by simp[hw];omega)]
    have hk:∀p∈os.zip d,oidR (oidT p.1)= .ok p.2.1∧textB p.2.2=true:=by
     intro p hp
     have m1:kidT p.1 p.2.2∈ks:=by rw[h2];exact List.mem_map.2 ⟨p,hp,rfl⟩
     have v1:=wrW_kid hw m1
     unfold kidT at v1
     have v2:=wrW_kid v1 (List.mem_singleton.2 rfl)
     have v3:=wrW_kid v2 (List.mem_cons_self ..)
     refine⟨oidR_oidS (h3 p hp) v3,?_⟩
     have hm:p.2∈d:=(List.of_mem_zip hp).2
     simp only[List.any_eq_true,not_exists,not_and,Bool.not_eq_true',Bool.not_eq_false]at ht
     simpa using ht p.2 hm
    rw[h2,gP_all os d ([],0) h1 hk]
    simp
theorem wr_oid {d:Nat} (hd:d≤16) {o:List UInt8} (h:rOid o=true):(wr d (oidT o)).1=0:=by
 unfold oidT
 rw[wr,wrK,if_neg (by omega),if_neg (by decide)]
 have hf:formE 0 6 false o=0:=by unfold formE right;simp[h]
 rw[hf,if_neg (by decide),if_neg (by simp)]
 rw[show wrs (d+1) []=(0,[]) by rw[wrs]]
 rw[if_neg (by decide),if_neg (by rintro⟨_,h,_⟩;exact absurd h (by decide))]
theorem wr_text {d:Nat} (hd:d≤16) {s:List UInt8} (h:textB s=true):(wr d (textT s)).1=0:=by
 unfold textB at h
 simp only[Bool.and_eq_true,decide_eq_true_eq]at h
 unfold textT
 have ht:tagOf s=12∨tagOf s=19∧s.all prB=true:=by
  unfold tagOf
  by_cases hp:s.all printB=true
  ·rw[if_pos hp];exact .inr ⟨rfl,hp⟩
  ·rw[if_neg hp];exact .inl rfl
 have hf:formE 0 (tagOf s) false s=0:=by
  rcases ht with ht|⟨ht,hp⟩
  ·rw[ht];unfold formE right;simp[h.2]
  ·rw[ht]
   have:right 19 s=true:=by unfold right;simpa using hp
   unfold formE
   rw[this]
   simp
 have hr:rangeB 0 (tagOf s)=false:=by rcases ht with ht|⟨ht,_⟩<;>rw[ht]<;>decide
 have h17:tagOf s≠17:=by rcases ht with ht|⟨ht,_⟩<;>rw[ht]<;>decide
 rw[wr,wrK,if_neg (by omega),if_neg (by rw[hr];decide),hf,if_neg (by decide),if_neg (by simp)]
 rw[show wrs (d+1) []=(0,[]) by rw[wrs]]
 rw[if_neg (by decide),if_neg (by rintro⟨_,h,_⟩;exact h17 h)]
theorem wrs_all {d:Nat}:∀ {ks:List T},(∀k∈ks,(wr d k).1=0)→(wrs d ks).1=0
 | [],_=>by rw[wrs]
 |k::r,h=>by
  rw[wrs,if_neg (by rw[h k (List.mem_cons_self ..)];decide),if_neg (by rw[wrs_all fun x hx=>h x (List.mem_cons_of_mem _ hx)];decide)]
theorem wr_made {d:Nat} (hd:d≤16) {t:Int} {ks:List T} (ht:t=16∨t=17∧ks.length=1) (h:(wrs (d+1) ks).1=0):(wr d (.mk 0 t true [] ks)).1=0:=by
 have hf:formE 0 t true []=0:=by rcases ht with rfl|⟨rfl,_⟩<;>(unfold formE;simp)
 have hr:rangeB 0 t=false:=by rcases ht with rfl|⟨rfl,_⟩<;>decide
 rw[wr,wrK,if_neg (by omega),if_neg (by rw[hr];decide),hf,if_neg (by decide),if_neg (by simp),if_neg (by rw[h];decide),if_neg]
 rintro⟨_,h17,hs⟩
 rcases ht with rfl|⟨_,h1⟩
 ·exact absurd h17 (by decide)
 ·have:=wrs_cnt (d+1) ks h
  rw[h1]at this
  obtain⟨p,hp⟩:=List.length_eq_one_iff.1 this
  rw[hp]at hs
  exact absurd hs (by simp[sortedB,foldE])
theorem szs_le (n:Nat):∀ks:List T,(∀k∈ks,sz k≤n)→szs ks≤n*ks.length
 | [],_=>by simp[szs]
 |k::r,h=>by
  have h1:=h k (List.mem_cons_self ..)
  have h2:=szs_le n r fun x hx=>h x (List.mem_cons_of_mem _ hx)
  rw[szs,List.length_cons,Nat.mul_add];omega
theorem dnS_wr {d:Dn} {x:T} (h:dnS d= .ok x):(wrW x).1=0∧sz x≤8000:=by
 unfold dnS at h
 split at h
 ·cases h
 ·rename_i h16
  split at h
  ·cases h
  ·rename_i ks hf
   split at h
   ·cases h
   ·rename_i ht
    cases h
    obtain⟨os,h1,h2,h3⟩:=gDn_kids d [] ks hf
    simp only[List.nil_append]at h2
    have hl:ks.length≤16:=by rw[h2];simp;omega
    have hk:∀k∈ks,(wr 1 k).1=0∧sz k≤250:=by
     intro k hk
     rw[h2]at hk
     obtain⟨p,hp,rfl⟩:=List.mem_map.1 hk
     have ho:=oidS_ok (h3 p hp)
     have hm:p.2∈d:=(List.of_mem_zip hp).2
     have htx:textB p.2.2=true:=by
      simp only[List.any_eq_true,not_exists,not_and,Bool.not_eq_true',Bool.not_eq_false]at ht
      simpa using ht p.2 hm
     refine⟨?_,?_⟩
     ·unfold kidT
      refine wr_made (by omega) (.inr ⟨rfl,rfl⟩) (wrs_all fun k hk=>?_)
      rw[List.mem_singleton]at hk
      rw[hk]
      refine wr_made (by omega) (.inl rfl) (wrs_all fun k hk=>?_)
      simp only[List.mem_cons,List.not_mem_nil,or_false]at hk
      rcases hk with rfl|rfl
      ·exact wr_oid (by omega) ho.1
      ·exact wr_text (by omega) htx
     ·unfold textB at htx
      simp only[Bool.and_eq_true,decide_eq_true_eq]at htx
      simp only[kidT,oidT,textT,sz,szs,List.length_nil]
      omega
    have hsz:=szs_le 250 ks fun k hk'=>(hk k hk').2
    have hsz2:sz (.mk 0 16 true [] ks)≤8000:=by
     rw[sz,List.length_nil]
     have:250*ks.length≤250*16:=Nat.mul_le_mul_left _ hl
     omega
    refine⟨wrW_is (wr_made (by omega) (.inl rfl) (wrs_all fun k hk'=>(hk k hk').1)) ?_,hsz2⟩
    have:=wr_len 0 (.mk 0 16 true [] ks)
    omega
theorem gP_back:∀(ks:List T) (s s':Dn × Int),foldE gP s ks= .inl s'→s'.2=0→(∀k∈ks,(wrW k).1=0)→s.2=0∧∃d,s'.1=s.1++d∧(∀ks0,foldE gDn ks0 d= .inl (ks0++ks))∧d.length=ks.length∧∀a∈d,textB a.2=true
 | [],s,s',h,h0,_=>by
  cases h
  exact⟨h0,[],by simp,fun ks0=>by simp[foldE],rfl,by simp⟩
 |k::r,s,s',h,h0,hv=>by
  rw[foldE_cons]at h
  cases hg:gP s k with
  |inr u=>rw[hg]at h;cases h
  |inl s1=>
  rw[hg]at h
  obtain⟨e1,d,e2,e3,e4,e5⟩:=gP_back r s1 s' h h0 fun x hx=>hv x (List.mem_cons_of_mem _ hx)
  have hk:=hv k (List.mem_cons_self ..)
  unfold gP at hg
  split at hg
  ·cases hg
  ·rename_i o x h2
   split at hg
   ·cases hg
   ·rename_i n hn
    split at hg
    rename_i cx tx mx xb kx
    split at hg
    rotate_left
    ·cases hg
    rename_i hX
    obtain⟨rfl,htx,rfl⟩:=hX
    cases hg
    simp only at e1 e2
    have hb:¬(textB xb=false∨tagOf xb≠tx):=by
     intro hb
     rw[if_pos hb]at e1
     exact absurd e1 (by decide)
    rw[if_neg hb]at e1
    have htb:textB xb=true:=by
     cases hq:textB xb
     ·exact absurd (.inl hq) hb
     ·rfl
    have htg:tagOf xb=tx:=Decidable.not_not.1 fun q=>hb (.inr q)
    -- the kid's tree
    unfold two? at h2
    split at h2
    rotate_left
    ·cases h2
    split at h2
    rotate_left
    ·cases h2
    rename_i hh
    cases h2
    obtain⟨rfl,rfl,rfl,rfl⟩:=hh
    have v0:=wr_ok (wrW_wr hk).1
    have v1:=wrW_kid hk (List.mem_singleton.2 rfl)
    have v1':=wr_ok (wrW_wr v1).1
    have v2:=wrW_kid v1 (List.mem_cons_self ..)
    have v3:=wrW_kid v1 (List.mem_cons_of_mem _ (List.mem_singleton.2 rfl))
    have v3':=wr_ok (wrW_wr v3).1
    have m0:∀ {t:Int} {m:Bool} {b:List UInt8},t=16∨t=17→formE 0 t m b=0→m=true:=by
     intro t m b ht hf
     cases m
     ·rcases ht with rfl|rfl<;>exact absurd hf (by unfold formE;simp)
     ·rfl
    have a1:=m0 (.inr rfl) v0.2.2.1
    have a2:=v0.2.2.2.1 a1
    have a3:=m0 (.inl rfl) v1'.2.2.1
    have a4:=v1'.2.2.2.1 a3
    have a5:=form_flat v3'.2.2.1 (by rcases htx with h|h<;>simp[h])
    obtain⟨co,to,mo,bo,ko⟩:=o
    have ho:=hn
    rw[oidR]at ho
    split at ho
    ·cases ho
    rename_i hno
    have b1:co=0:=Decidable.not_not.1 fun q=>hno (.inr (.inl q))
    have b2:to=6:=Decidable.not_not.1 fun q=>hno (.inr (.inr q))
    have v2':=wr_ok (wrW_wr v2).1
    subst b1;subst b2
    have b3:=form_flat v2'.2.2.1 (.inr (.inr rfl))
    subst b3
    have b4:=v2'.2.2.2.2.1 rfl
    subst b4
    have hro:rOid bo=true:=by
     have hf:=v2'.2.2.1
     unfold formE right at hf
     cases hq:rOid bo
     ·simp[hq]at hf
     ·rfl
    have hos:=oidS_oidG ho hro
    refine⟨e1,(n,xb)::d,by rw[e2];simp,fun ks0=>?_,by simp[e4],?_⟩
    ·rw[foldE_cons,show gDn ks0 (n,xb)= .inl (ks0++[kidT bo xb]) by unfold gDn;rw[hos]]
     simp only
     rw[e3]
     rw[a1,a2,a3,a4,a5,←htg]
     simp[kidT,oidT,textT]
    ·intro a ha
     rcases List.mem_cons.1 ha with rfl|ha
     ·exact htb
     ·exact e5 a ha
theorem dnS_pdn {t:T} {d:Dn} (h:pdn t= .ok d):dnS d= .ok t∧(wrW t).1=0:=by
 obtain⟨c,tg,m,b,ks⟩:=t
 rw[pdn]at h
 split at h
 ·cases h
 rename_i hc
 have h1:(wrW (.mk c tg m b ks)).1=0:=Decidable.not_not.1 fun x=>hc (.inl x)
 have h2:c=0:=Decidable.not_not.1 fun x=>hc (.inr (.inl x))
 have h3:tg=16:=Decidable.not_not.1 fun x=>hc (.inr (.inr (.inl x)))
 have h4:ks.length≤16:=Nat.le_of_not_lt fun x=>hc (.inr (.inr (.inr x)))
 subst h2;subst h3
 have v0:=wr_ok (wrW_wr h1).1
 have hm:m=true:=by
  cases m
  ·exact absurd v0.2.2.1 (by unfold formE;simp)
  ·rfl
 subst hm
 have hb:=v0.2.2.2.1 rfl
 subst hb
 split at h
 ·cases h
 rename_i s hf
 split at h
 ·cases h
 rename_i hs
 cases h
 have hs0:s.2=0:=Decidable.not_not.1 hs
 obtain⟨_,d',e2,e3,e4,e5⟩:=gP_back ks ([],0) s hf hs0 fun k hk=>wrW_kid h1 hk
 rw[List.nil_append]at e2
 subst e2
 refine⟨?_,h1⟩
 unfold dnS
 rw[if_neg (by omega),e3 [],List.nil_append]
 simp only
 rw[if_neg]
 simp only[List.any_eq_true,not_exists,not_and,Bool.not_eq_true',Bool.not_eq_false]
 intro a ha
 exact e5 a ha
theorem sh_fold:∀(d:Dn) (n m:Int),0≤n→foldE gSh n d= .inl m→n≤m∧∀a∈d,(a.1.length:Int)+(a.2.length:Int)≤m
 | [],n,m,_,h=>by cases h;exact⟨Int.le_refl _,by simp⟩
 |a::r,n,m,h0,h=>by
  rw[foldE_cons]at h
  unfold gSh at h
  split at h
  ·rename_i x hx
   split at hx
   ·cases hx
   ·cases hx
    obtain⟨h1,h2⟩:=sh_fold r _ m (by omega) h
    refine⟨by omega,fun b hb=>?_⟩
    rcases List.mem_cons.1 hb with rfl|hb
    ·omega
    ·exact h2 b hb
  ·cases h
theorem sh_ok {d:Dn} (h:shB d=true):okLens d:=by
 unfold shB at h
 split at h
 ·rename_i n hn
  simp only[decide_eq_true_eq]at h
  obtain⟨h1,h2⟩:=sh_fold d _ n (by omega) hn
  refine⟨by omega,fun a ha=>?_⟩
  have:=h2 a ha
  omega
 ·cases h
end Go.Mini.Nm

/- a certificate's law by that interpreter (part 5): what the program's functions answer, or plain laws of it; no conditions. -/
import Derived.Test.YtgiobgojobegfaaGreatDoorB04
import Derived.Lib.TrimUEq
set_option linter.all false
namespace Go.Mini.Nm
open Go Go.Mini Go.Proofs.YtgiobgojobegfaaGreatDoor
set_option maxRecDepth 100000
set_option maxHeartbeats 4000000
def c_:List MV:=[.int .i64 0,.int .i64 0,.bool false,.nilsl,.nilsl]
def jm (p:List UInt8):Option Int:=match Lib.atoiAll p with
 | .ok n=>if 0≤n∧n<1099511627776∧cp n=p then some n else none
 |_=>none
def eo:List (List UInt8)→Option (List Int)
 | []=>some []
 |p::r=>match jm p,eo r with
  |some n,some l=>some (n::l)
  |_,_=>none
def part (n d:Int):List UInt8:=if 0<n/d then [UInt8.ofNat (n/d%128).toNat|||128]else []
def bj (n:Int):List Int→List UInt8
 | []=>[UInt8.ofNat (n%128).toNat]
 |d::r=>part n d++bj n r
def enc (n:Int):List UInt8:=bj n [34359738368,268435456,2097152,16384,128]
def cH (l:List Int):List UInt8:=l.flatMap enc
def rK (l:List Int):Option (List UInt8):=match l with
 |n0::n1::r=>if 2<n0∨n0<2∧39<n1∨n0=2∧1099511627776≤n1+80 then none else some (cH ((n1+40*n0)::r))
 |_=>none
def gH (s:List UInt8):Option (List UInt8):=
 let ps:=Lib.splitK [46] 0 (Lib.count s [46]) s
 if ps.length<2∨20<ps.length then none else match eo ps with
  |some l=>rK l
  |none=>none
theorem canon_cong {keep:List (Nat × KMode)} {st:DS} {V:List (Nat × MV)} {O:List (Nat × Obj)} {nx:Nat} (h1:(aQ keep st).V=V) (h2:(aQ keep st).O=O) (h3:(aQ keep st).nx=nx):aQ keep st=⟨V,[],O,nx⟩:=by
 subst h1;subst h2;subst h3;rfl
def ints (l:List Int):List MV:=l.map fun n=>.int .i64 n
theorem fH (l:List Int):(ints l).length=l.length:=by simp[ints]
def e_ (a:Nat) (ps:List (List UInt8)) (l:List Int) (i:Int):List (Nat × MV):=[(2,.ptr 0 0),(5,.own a l.length),(26,.sl 1 (ps.map .str)),(27,.int .i64 (ps.length:Int)),(28,.int .i64 i)]
def ff (a:Nat) (l:List Int):List (Nat × Obj):=[(0,.cells c_),(a,.el 1 (ints l) false)]
def gI:List (Nat × Option (Bool × Nat) × PK):=[(2,some (true,5),.other),(3,none,.other)]
def bad53:MV:=.tup [.agg c_,.bool false]
theorem Jq (ps:List (List UInt8)) (l:List Int) (n i:Int):[(2,MV.ptr 0 0),(5,.own 1 (l.length+1)),(26,.sl 1 (ps.map .str)),(27,.int .i64 (ps.length:Int)),(28,.int .i64 i)]=e_ 1 ps (l++[n]) i:=by simp[e_]
theorem Jr (l:List Int) (n:Int):[(0,Obj.cells c_),(1,.el 1 (ints l++[.int .i64 n]) false)]=ff 1 (l++[n]):=by simp[ff,ints]
theorem AE {p:List UInt8} {n:Int} (h:jm p=some n):0≤n∧n<1099511627776:=by
 unfold jm at h
 split at h
 ·split at h
  ·rename_i hc;cases h;exact⟨hc.1,hc.2.1⟩
  ·cases h
 ·cases h
theorem rL {p:List UInt8} {n:Int} (hp:p.length<1000000) (h:Lib.atoiAll p= .ok n) (h0: -9223372036854775808≤n∧n≤9223372036854775807):Call Q 114 [.str p]=some (.tup [.int .i64 n,.nilif]):=by
 rw[bJ Q (g:=lD) rfl]
 simp only[lD,h]
 rw[if_pos (by omega),if_pos h0]
theorem E9 {p:List UInt8} (hp:p.length<1000000) (h:∀n,Lib.atoiAll p≠ .ok n):∃n,Call Q 114 [.str p]=some (.tup [.int .i64 n,.iface gb (.cptr [])]):=by
 rw[bJ Q (g:=lD) rfl]
 simp only[lD]
 rw[if_pos (by omega)]
 cases h1:Lib.atoiAll p with
 |ok n=>exact(h n h1).elim
 |range=>exact⟨_,rfl⟩
 |_=>exact⟨_,rfl⟩
theorem kM (n:Int):Call Q 116 [.int .i64 n]=some (.str (cp n)):=bJ Q (g:=iO) rfl
theorem CH (a:Nat) (ha:a=1∨a=2) (ps:List (List UInt8)) (l:List Int) (i:Int) (h0:0≤i) (hi:i<ps.length) (hps:ps.length≤20) (hl:l.length≤20) (p:List UInt8) (hp:ps[i.toNat]? = some p) (hpl:p.length<1000000) (K:List Item):
  am gI (RunL Q m109k0 m109b0 (.blk 0::K) ⟨e_ a ps l i,[],ff a l,3⟩)=match jm p with
   |some n=>am gI (RunL Q m109k0 m109b0 (.blk 0::K) ⟨e_ 1 ps (l++[n]) (i+1),[],ff 1 (l++[n]),3⟩)
   |none=>some bad53:=by
 have hlt:decide (i<(ps.length:Int))=true:=by simp;omega
 have hlen:((ps.map MV.str).length:Int)=(ps.length:Int):=by simp
 have hget:(ps.map MV.str)[i.toNat]? = some (.str p):=by rw[List.getElem?_map,hp];rfl
 have hil:=fH l
 have step:∀(b':MCode) (n:Int) (V:List (Nat × MV)) (O:List (Nat × Obj)) (nx:Nat),b'=m109b0→aQ m109k0 ⟨V,[],O,nx⟩=⟨e_ 1 ps (l++[n]) (i+1),[],ff 1 (l++[n]),3⟩ →
   am gI (Run Q (.lp m109k0 b':: .blk 0::K) ⟨V,[],O,nx⟩)=am gI (RunL Q m109k0 m109b0 (.blk 0::K) ⟨e_ 1 ps (l++[n]) (i+1),[],ff 1 (l++[n]),3⟩):=by
  intro b' n V O nx hb hc
  subst hb
  rw[aA,hc]
 obtain⟨b',hb'⟩:∃b',b'=m109b0:=⟨_,rfl⟩
 rw[ah,show Item.lp m109k0 m109b0=Item.lp m109k0 b' by rw[hb']]
 have hcap:(l.length+1)*8≤2^47:=by omega
 by_cases hok:∃n,Lib.atoiAll p= .ok n
 ·obtain⟨n,hn⟩:=hok
  have hz:=rL hpl hn (Lib.atoiAll_bounds hn)
  have hi2:=kM n
  have numeq:jm p=if 0≤n∧n<1099511627776∧cp n=p then some n else none:=by simp only[jm,hn]
  by_cases c1:n<0
  ·have d1:decide (n<0)=true:=by simp;omega
   rw[numeq,if_neg (by omega)]
   rcases ha with rfl|rfl<;>
   simp(maxSteps:=4000000)(disch:=first|exact dz|fail)only[bB.u,seval,cut,m109b0,e_,ff,gI,bad53,hlt,hlen,hget,h0,hi,c_,hz,hi2,d1]
  ·have d1:decide (n<0)=false:=by simp;omega
   by_cases c2:1099511627776≤n
   ·have d2:decide (1099511627776≤n)=true:=by simp;omega
    rw[numeq,if_neg (by omega)]
    rcases ha with rfl|rfl<;>
    simp(maxSteps:=4000000)(disch:=first|exact dz|fail)only[bB.u,seval,cut,m109b0,e_,ff,gI,bad53,hlt,hlen,hget,h0,hi,c_,hz,hi2,d1,d2]
   ·have d2:decide (1099511627776≤n)=false:=by simp;omega
    by_cases c3:cp n=p
    ·have d3:(p==p)=true:=by simp
     rw[numeq,if_pos ⟨by omega,by omega,c3⟩]
     show _=am gI (RunL Q m109k0 m109b0 (.blk 0::K) ⟨e_ 1 ps (l++[n]) (i+1),[],ff 1 (l++[n]),3⟩)
     obtain⟨rhs,hr⟩:∃r,r=am gI (RunL Q m109k0 m109b0 (.blk 0::K) ⟨e_ 1 ps (l++[n]) (i+1),[],ff 1 (l++[n]),3⟩):=⟨_,rfl⟩
     rw[←hr]
     rcases ha with rfl|rfl<;>
     simp(maxSteps:=4000000)(disch:=first|exact dz|fail)only[bB.u,seval,cut,m109b0,e_,ff,gI,bad53,hlt,hlen,hget,h0,hi,c_,hz,hi2,d1,d2,c3,hil,hcap,List.set]
     all_goals(rw[hr];exact step b' n _ _ _ hb' (canon_cong (Eq.trans kr (Jq ps l n (i+1))) (Eq.trans kr (Jr l n)) kr))
    ·have d3:(cp n==p)=false:=by simpa using c3
     rw[numeq,if_neg (fun h=>c3 h.2.2)]
     rcases ha with rfl|rfl<;>
     simp(maxSteps:=4000000)(disch:=first|exact dz|fail)only[bB.u,seval,cut,m109b0,e_,ff,gI,bad53,hlt,hlen,hget,h0,hi,c_,hz,hi2,d1,d2,d3]
 ·have hnum:jm p=none:=by
   unfold jm
   split
   ·rename_i n hn;exact(hok ⟨n,hn⟩).elim
   ·rfl
  rw[hnum]
  obtain⟨z,hz⟩:=E9 hpl (fun n hn=>hok ⟨n,hn⟩)
  rcases ha with rfl|rfl<;>
  simp(maxSteps:=4000000)(disch:=first|exact dz|fail)only[bB.u,seval,cut,m109b0,e_,ff,gI,bad53,hlt,hlen,hget,h0,hi,hz,c_]
theorem pS (p:List UInt8) (r:List (List UInt8)):eo (p::r)=match jm p,eo r with
  |some n,some l=>some (n::l)
  |_,_=>none:=rfl
theorem vz (ps:List (List UInt8)) (hps:ps.length≤20) (hpl:∀p∈ps,p.length<1000000) (K:List Item):∀(r:List (List UInt8)) (a:Nat) (l:List Int) (i:Nat),(a=1∨a=2)→(a=2→r≠[])→ps.drop i=r→i+r.length=ps.length→l.length=i →
  am gI (RunL Q m109k0 m109b0 (.blk 0::K) ⟨e_ a ps l i,[],ff a l,3⟩)=match eo r with
   |some ns=>am gI (Run Q K ⟨(29,.bool false)::e_ 1 ps (l++ns) ps.length,[],ff 1 (l++ns),7⟩)
   |none=>some bad53
 | [],a,l,i,ha,ha2,hd,hi,hl=>by
  obtain rfl:a=1:=by
   rcases ha with h|h
   ·exact h
   ·exact(ha2 h rfl).elim
  have hi':i=ps.length:=by simpa using hi
  subst hi'
  have hlt:decide ((ps.length:Int)<(ps.length:Int))=false:=by simp
  obtain⟨b',hb'⟩:∃b',b'=m109b0:=⟨_,rfl⟩
  show _=am gI (Run Q K ⟨(29,.bool false)::e_ 1 ps (l++[]) ps.length,[],ff 1 (l++[]),7⟩)
  rw[List.append_nil,ah,show Item.lp m109k0 m109b0=Item.lp m109k0 b' by rw[hb']]
  simp(maxSteps:=4000000)(disch:=first|exact dz|fail)only[bB.u,seval,cut,m109b0,e_,ff,hlt]
 |p::r,a,l,i,ha,ha2,hd,hi,hl=>by
  simp only[List.length_cons]at hi
  have hlt:i<ps.length:=by omega
  have hp:ps[i]? = some p:=by
   have:=congrArg (·[0]?) hd
   simpa[List.getElem?_drop]using this
  have hd':ps.drop (i+1)=r:=by
   have:=congrArg (List.drop 1) hd
   simpa[List.drop_drop]using this
  rw[CH a ha ps l i (by omega) (by omega) hps (by omega) p (by simpa using hp) (hpl p (List.mem_of_getElem? hp)) K,pS]
  cases hn:jm p with
  |none=>rfl
  |some n=>
   have ih:=vz ps hps hpl K r 1 (l++[n]) (i+1) (.inl rfl) (fun h=>by omega) hd' (by omega) (by simp[hl])
   have e:((i:Int)+1)=((i+1:Nat):Int):=by omega
   rw[e]
   simp only
   rw[ih]
   cases eo r with
   |none=>rfl
   |some ns=>simp only[List.append_assoc,List.cons_append,List.nil_append]
theorem nj:∀ {r:List (List UInt8)} {ns:List Int},eo r=some ns→ns.length=r.length∧∀n∈ns,0≤n∧n<1099511627776
 | [],ns,h=>by simp only[eo,Option.some.injEq]at h;subst h;simp
 |p::r,ns,h=>by
  rw[pS]at h
  split at h
  ·rename_i n l h1 h2
   cases h
   have⟨a,b⟩:=nj h2
   refine⟨by simp[a],fun m hm=>?_⟩
   rcases List.mem_cons.1 hm with rfl|hm
   ·exact AE h1
   ·exact b m hm
  ·cases h
theorem shr64 {n b:Int} (h0:0≤b) (h1:b≤63):bf .shr .i64 n b=some (.int .i64 (n/2^b.toNat)):=by
 obtain⟨m,rfl⟩:=Int.eq_ofNat_of_zero_le h0
 unfold bf
 rw[if_neg (by omega)]
 simp only[Int.toNat_natCast]
 have e:min m IntKind.i64.bits=m:=by show min m 64=m;omega
 rw[e]
 congr 2
 have e2:((2:Int)^m)=((2^m:Nat):Int):=by simp
 rw[e2,Int.fdiv_eq_ediv_of_nonneg _ (Int.natCast_nonneg _)]
theorem cP {x:Int} (h0:0≤x) (h1:x≤9223372036854775807):IntKind.i64.wrap ((BitVec.ofInt IntKind.i64.bits x&&&BitVec.ofInt IntKind.i64.bits 127).toNat:Int)=x%128:=by
 obtain⟨n,rfl⟩:=Int.eq_ofNat_of_zero_le h0
 have e:(BitVec.ofInt IntKind.i64.bits (n:Int)&&&BitVec.ofInt IntKind.i64.bits 127).toNat=n%128:=by
  show(BitVec.ofInt 64 (n:Int)&&&BitVec.ofInt 64 127).toNat=n%128
  rw[BitVec.toNat_and,BitVec.ofInt_natCast,BitVec.toNat_ofNat]
  have:(BitVec.ofInt 64 127).toNat=127:=by decide
  rw[this,Nat.mod_eq_of_lt (by omega),show 127=2^7-1 by decide,Nat.and_two_pow_sub_one_eq_mod]
 rw[e,fG (by omega) (by omega)]
 omega
theorem eC {m:Int} (h0:0≤m) (h1:m<256):IntKind.u8.wrap ((BitVec.ofInt IntKind.u8.bits m|||BitVec.ofInt IntKind.u8.bits 128).toNat:Int)=((UInt8.ofNat m.toNat|||128).toNat:Int):=by
 obtain⟨n,rfl⟩:=Int.eq_ofNat_of_zero_le h0
 have:=GI (UInt8.ofNat n) 128
 have e:((UInt8.ofNat n).toNat:Int)=(n:Int):=by rw[UInt8.toNat_ofNat'];omega
 rw[e]at this
 exact this
def V2 (out:List UInt8) (n sh:Int) (tl:List MV) (len i:Int):List (Nat × MV):=[(2,.ptr 0 0),(10,.own 1 out.length),(12,.int .i64 n),(13,.int .i64 sh),(99,.sl 1 tl),(100,.int .i64 len),(101,.int .i64 i)]
def V1 (a:Nat) (out:List UInt8) (tl:List MV) (len i:Int):List (Nat × MV):=[(2,.ptr 0 0),(10,.own a out.length),(99,.sl 1 tl),(100,.int .i64 len),(101,.int .i64 i)]
def OB (a:Nat) (out:List UInt8):List (Nat × Obj):=[(0,.cells c_),(a,.byt out false)]
theorem stop (out:List UInt8) (n:Int) (tl:List MV) (len i:Int) (K:List Item):RunL Q m109k2 m109b2 (.blk 4::K) ⟨V2 out n (-7) tl len i,[],OB 1 out,3⟩=Run Q K ⟨(106,.bool false)::V2 out n (-7) tl len i,[],OB 1 out,11⟩:=by
 obtain⟨b',hb'⟩:∃b',b'=m109b2:=⟨_,rfl⟩
 rw[ah,show Item.lp m109k2 m109b2=Item.lp m109k2 b' by rw[hb']]
 simp(maxSteps:=4000000)(disch:=first|exact dz|fail)only[bB.u,seval,cut,m109b2,V2,OB]
theorem e0 (out:List UInt8) (n:Int) (hn:0≤n∧n<9223372036854775807) (ho:out.length<1000) (tl:List MV) (len i:Int) (K:List Item):RunL Q m109k2 m109b2 (.blk 4::K) ⟨V2 out n 0 tl len i,[],OB 1 out,3⟩=Run Q K ⟨(106,.bool false)::V2 (out++bj n []) n (-7) tl len i,[],OB 1 (out++bj n []),11⟩:=by
 obtain⟨rhs,hr⟩:∃r,r=Run Q K ⟨(106,.bool false)::V2 (out++bj n []) n (-7) tl len i,[],OB 1 (out++bj n []),11⟩:=⟨_,rfl⟩
 rw[←hr]
 obtain⟨b',hb'⟩:∃b',b'=m109b2:=⟨_,rfl⟩
 have hcap:out.length+1≤2^47:=by omega
 rw[ah,show Item.lp m109k2 m109b2=Item.lp m109k2 b' by rw[hb']]
 simp(maxSteps:=4000000)(disch:=first|exact dz|fail)only[bB.u,seval,cut,m109b2,V2,OB,hcap,shr64,Int.ediv_one,Int.reducePow,cP]
 subst hb'
 rw[aA,hr]
 have ve:∀b:UInt8,[(2,MV.ptr 0 0),(10,.own 1 (out.length+1)),(12,.int .i64 n),(13,.int .i64 (-7)),(99,.sl 1 tl),(100,.int .i64 len),(101,.int .i64 i)]=V2 (out++[b]) n (-7) tl len i:=fun b=>by simp[V2]
 exact(af (canon_cong (Eq.trans kr (ve _)) kr kr)).trans (stop _ n tl len i K)
theorem e1 (out:List UInt8) (n:Int) (hn:0≤n∧n<9223372036854775807) (ho:out.length<999) (tl:List MV) (len i:Int) (K:List Item):RunL Q m109k2 m109b2 (.blk 4::K) ⟨V2 out n 7 tl len i,[],OB 1 out,3⟩=Run Q K ⟨(106,.bool false)::V2 (out++bj n [128]) n (-7) tl len i,[],OB 1 (out++bj n [128]),11⟩:=by
 obtain⟨rhs,hr⟩:∃r,r=Run Q K ⟨(106,.bool false)::V2 (out++bj n [128]) n (-7) tl len i,[],OB 1 (out++bj n [128]),11⟩:=⟨_,rfl⟩
 rw[←hr]
 obtain⟨b',hb'⟩:∃b',b'=m109b2:=⟨_,rfl⟩
 have hcap:out.length+1≤2^47:=by omega
 rw[ah,show Item.lp m109k2 m109b2=Item.lp m109k2 b' by rw[hb']]
 by_cases hd:0<n/128
 ·have hd':decide (0<n/128)=true:=by simp;omega
  have hp:part n 128=[UInt8.ofNat (n/128%128).toNat|||128]:=if_pos hd
  simp(maxSteps:=4000000)(disch:=first|exact dz|fail)only[bB.u,seval,cut,m109b2,V2,OB,hd',hcap,shr64,Int.ediv_one,Int.reducePow,cP,eC]
  subst hb'
  rw[aA,hr]
  have ve:∀b:UInt8,[(2,MV.ptr 0 0),(10,.own 1 (out.length+1)),(12,.int .i64 n),(13,.int .i64 0),(99,.sl 1 tl),(100,.int .i64 len),(101,.int .i64 i)]=V2 (out++[b]) n 0 tl len i:=fun b=>by simp[V2]
  have ih:=e0 (out++[UInt8.ofNat (n/128%128).toNat|||128]) n hn (by simp;omega) tl len i K
  rw[show bj n [128]=part n 128++bj n []from rfl,hp,←List.append_assoc]
  exact(af (canon_cong (Eq.trans kr (ve _)) kr kr)).trans ih
 ·have hd':decide (0<n/128)=false:=by simp;omega
  have hp:part n 128=[]:=if_neg hd
  simp(maxSteps:=4000000)(disch:=first|exact dz|fail)only[bB.u,seval,cut,m109b2,V2,OB,hd',hcap,shr64,Int.ediv_one,Int.reducePow,cP,eC]
  subst hb'
  rw[aA,hr]
  have ih:=e0 out n hn (by omega) tl len i K
  rw[show bj n [128]=part n 128++bj n []from rfl,hp,List.nil_append]
  exact(af (canon_cong kr kr kr)).trans ih
theorem e2 (out:List UInt8) (n:Int) (hn:0≤n∧n<9223372036854775807) (ho:out.length<998) (tl:List MV) (len i:Int) (K:List Item):RunL Q m109k2 m109b2 (.blk 4::K) ⟨V2 out n 14 tl len i,[],OB 1 out,3⟩=Run Q K ⟨(106,.bool false)::V2 (out++bj n [16384,128]) n (-7) tl len i,[],OB 1 (out++bj n [16384,128]),11⟩:=by
 obtain⟨rhs,hr⟩:∃r,r=Run Q K ⟨(106,.bool false)::V2 (out++bj n [16384,128]) n (-7) tl len i,[],OB 1 (out++bj n [16384,128]),11⟩:=⟨_,rfl⟩
 rw[←hr]
 obtain⟨b',hb'⟩:∃b',b'=m109b2:=⟨_,rfl⟩
 have hcap:out.length+1≤2^47:=by omega
 rw[ah,show Item.lp m109k2 m109b2=Item.lp m109k2 b' by rw[hb']]
 by_cases hd:0<n/16384
 ·have hd':decide (0<n/16384)=true:=by simp;omega
  have hp:part n 16384=[UInt8.ofNat (n/16384%128).toNat|||128]:=if_pos hd
  simp(maxSteps:=4000000)(disch:=first|exact dz|fail)only[bB.u,seval,cut,m109b2,V2,OB,hd',hcap,shr64,Int.ediv_one,Int.reducePow,cP,eC]
  subst hb'
  rw[aA,hr]
  have ve:∀b:UInt8,[(2,MV.ptr 0 0),(10,.own 1 (out.length+1)),(12,.int .i64 n),(13,.int .i64 7),(99,.sl 1 tl),(100,.int .i64 len),(101,.int .i64 i)]=V2 (out++[b]) n 7 tl len i:=fun b=>by simp[V2]
  have ih:=e1 (out++[UInt8.ofNat (n/16384%128).toNat|||128]) n hn (by simp;omega) tl len i K
  rw[show bj n [16384,128]=part n 16384++bj n [128]from rfl,hp,←List.append_assoc]
  exact(af (canon_cong (Eq.trans kr (ve _)) kr kr)).trans ih
 ·have hd':decide (0<n/16384)=false:=by simp;omega
  have hp:part n 16384=[]:=if_neg hd
  simp(maxSteps:=4000000)(disch:=first|exact dz|fail)only[bB.u,seval,cut,m109b2,V2,OB,hd',hcap,shr64,Int.ediv_one,Int.reducePow,cP,eC]
  subst hb'
  rw[aA,hr]
  have ih:=e1 out n hn (by omega) tl len i K
  rw[show bj n [16384,128]=part n 16384++bj n [128]from rfl,hp,List.nil_append]
  exact(af (canon_cong kr kr kr)).trans ih
theorem e3 (out:List UInt8) (n:Int) (hn:0≤n∧n<9223372036854775807) (ho:out.length<997) (tl:List MV) (len i:Int) (K:List Item):RunL Q m109k2 m109b2 (.blk 4::K) ⟨V2 out n 21 tl len i,[],OB 1 out,3⟩=Run Q K ⟨(106,.bool false)::V2 (out++bj n [2097152,16384,128]) n (-7) tl len i,[],OB 1 (out++bj n [2097152,16384,128]),11⟩:=by
 obtain⟨rhs,hr⟩:∃r,r=Run Q K ⟨(106,.bool false)::V2 (out++bj n [2097152,16384,128]) n (-7) tl len i,[],OB 1 (out++bj n [2097152,16384,128]),11⟩:=⟨_,rfl⟩
 rw[←hr]
 obtain⟨b',hb'⟩:∃b',b'=m109b2:=⟨_,rfl⟩
 have hcap:out.length+1≤2^47:=by omega
 rw[ah,show Item.lp m109k2 m109b2=Item.lp m109k2 b' by rw[hb']]
 by_cases hd:0<n/2097152
 ·have hd':decide (0<n/2097152)=true:=by simp;omega
  have hp:part n 2097152=[UInt8.ofNat (n/2097152%128).toNat|||128]:=if_pos hd
  simp(maxSteps:=4000000)(disch:=first|exact dz|fail)only[bB.u,seval,cut,m109b2,V2,OB,hd',hcap,shr64,Int.ediv_one,Int.reducePow,cP,eC]
  subst hb'
  rw[aA,hr]
  have ve:∀b:UInt8,[(2,MV.ptr 0 0),(10,.own 1 (out.length+1)),(12,.int .i64 n),(13,.int .i64 14),(99,.sl 1 tl),(100,.int .i64 len),(101,.int .i64 i)]=V2 (out++[b]) n 14 tl len i:=fun b=>by simp[V2]
  have ih:=e2 (out++[UInt8.ofNat (n/2097152%128).toNat|||128]) n hn (by simp;omega) tl len i K
  rw[show bj n [2097152,16384,128]=part n 2097152++bj n [16384,128]from rfl,hp,←List.append_assoc]
  exact(af (canon_cong (Eq.trans kr (ve _)) kr kr)).trans ih
 ·have hd':decide (0<n/2097152)=false:=by simp;omega
  have hp:part n 2097152=[]:=if_neg hd
  simp(maxSteps:=4000000)(disch:=first|exact dz|fail)only[bB.u,seval,cut,m109b2,V2,OB,hd',hcap,shr64,Int.ediv_one,Int.reducePow,cP,eC]
  subst hb'
  rw[aA,hr]
  have ih:=e2 out n hn (by omega) tl len i K
  rw[show bj n [2097152,16384,128]=part n 2097152++bj n [16384,128]from rfl,hp,List.nil_append]
  exact(af (canon_cong kr kr kr)).trans ih
theorem e4 (out:List UInt8) (n:Int) (hn:0≤n∧n<9223372036854775807) (ho:out.length<996) (tl:List MV) (len i:Int) (K:List Item):RunL Q m109k2 m109b2 (.blk 4::K) ⟨V2 out n 28 tl len i,[],OB 1 out,3⟩=Run Q K ⟨(106,.bool false)::V2 (out++bj n [268435456,2097152,16384,128]) n (-7) tl len i,[],OB 1 (out++bj n [268435456,2097152,16384,128]),11⟩:=by
 obtain⟨rhs,hr⟩:∃r,r=Run Q K ⟨(106,.bool false)::V2 (out++bj n [268435456,2097152,16384,128]) n (-7) tl len i,[],OB 1 (out++bj n [268435456,2097152,16384,128]),11⟩:=⟨_,rfl⟩
 rw[←hr]
 obtain⟨b',hb'⟩:∃b',b'=m109b2:=⟨_,rfl⟩
 have hcap:out.length+1≤2^47:=by omega
 rw[ah,show Item.lp m109k2 m109b2=Item.lp m109k2 b' by rw[hb']]
 by_cases hd:0<n/268435456
 ·have hd':decide (0<n/268435456)=true:=by simp;omega
  have hp:part n 268435456=[UInt8.ofNat (n/268435456%128).toNat|||128]:=if_pos hd
  simp(maxSteps:=4000000)(disch:=first|exact dz|fail)only[bB.u,seval,cut,m109b2,V2,OB,hd',hcap,shr64,Int.ediv_one,Int.reducePow,cP,eC]
  subst hb'
  rw[aA,hr]
  have ve:∀b:UInt8,[(2,MV.ptr 0 0),(10,.own 1 (out.length+1)),(12,.int .i64 n),(13,.int .i64 21),(99,.sl 1 tl),(100,.int .i64 len),(101,.int .i64 i)]=V2 (out++[b]) n 21 tl len i:=fun b=>by simp[V2]
  have ih:=e3 (out++[UInt8.ofNat (n/268435456%128).toNat|||128]) n hn (by simp;omega) tl len i K
  rw[show bj n [268435456,2097152,16384,128]=part n 268435456++bj n [2097152,16384,128]from rfl,hp,←List.append_assoc]
  exact(af (canon_cong (Eq.trans kr (ve _)) kr kr)).trans ih
 ·have hd':decide (0<n/268435456)=false:=by simp;omega
  have hp:part n 268435456=[]:=if_neg hd
  simp(maxSteps:=4000000)(disch:=first|exact dz|fail)only[bB.u,seval,cut,m109b2,V2,OB,hd',hcap,shr64,Int.ediv_one,Int.reducePow,cP,eC]
  subst hb'
  rw[aA,hr]
  have ih:=e3 out n hn (by omega) tl len i K
  rw[show bj n [268435456,2097152,16384,128]=part n 268435456++bj n [2097152,16384,128]from rfl,hp,List.nil_append]
  exact(af (canon_cong kr kr kr)).trans ih
theorem e5 (out:List UInt8) (n:Int) (hn:0≤n∧n<9223372036854775807) (ho:out.length<995) (tl:List MV) (len i:Int) (K:List Item):RunL Q m109k2 m109b2 (.blk 4::K) ⟨V2 out n 35 tl len i,[],OB 1 out,3⟩=Run Q K ⟨(106,.bool false)::V2 (out++bj n [34359738368,268435456,2097152,16384,128]) n (-7) tl len i,[],OB 1 (out++bj n [34359738368,268435456,2097152,16384,128]),11⟩:=by
 obtain⟨rhs,hr⟩:∃r,r=Run Q K ⟨(106,.bool false)::V2 (out++bj n [34359738368,268435456,2097152,16384,128]) n (-7) tl len i,[],OB 1 (out++bj n [34359738368,268435456,2097152,16384,128]),11⟩:=⟨_,rfl⟩
 rw[←hr]
 obtain⟨b',hb'⟩:∃b',b'=m109b2:=⟨_,rfl⟩
 have hcap:out.length+1≤2^47:=by omega
 rw[ah,show Item.lp m109k2 m109b2=Item.lp m109k2 b' by rw[hb']]
 by_cases hd:0<n/34359738368
 ·have hd':decide (0<n/34359738368)=true:=by simp;omega
  have hp:part n 34359738368=[UInt8.ofNat (n/34359738368%128).toNat|||128]:=if_pos hd
  simp(maxSteps:=4000000)(disch:=first|exact dz|fail)only[bB.u,seval,cut,m109b2,V2,OB,hd',hcap,shr64,Int.ediv_one,Int.reducePow,cP,eC]
  subst hb'
  rw[aA,hr]
  have ve:∀b:UInt8,[(2,MV.ptr 0 0),(10,.own 1 (out.length+1)),(12,.int .i64 n),(13,.int .i64 28),(99,.sl 1 tl),(100,.int .i64 len),(101,.int .i64 i)]=V2 (out++[b]) n 28 tl len i:=fun b=>by simp[V2]
  have ih:=e4 (out++[UInt8.ofNat (n/34359738368%128).toNat|||128]) n hn (by simp;omega) tl len i K
  rw[show bj n [34359738368,268435456,2097152,16384,128]=part n 34359738368++bj n [268435456,2097152,16384,128]from rfl,hp,←List.append_assoc]
  exact(af (canon_cong (Eq.trans kr (ve _)) kr kr)).trans ih
 ·have hd':decide (0<n/34359738368)=false:=by simp;omega
  have hp:part n 34359738368=[]:=if_neg hd
  simp(maxSteps:=4000000)(disch:=first|exact dz|fail)only[bB.u,seval,cut,m109b2,V2,OB,hd',hcap,shr64,Int.ediv_one,Int.reducePow,cP,eC]
  subst hb'
  rw[aA,hr]
  have ih:=e4 out n hn (by omega) tl len i K
  rw[show bj n [34359738368,268435456,2097152,16384,128]=part n 34359738368++bj n [268435456,2097152,16384,128]from rfl,hp,List.nil_append]
  exact(af (canon_cong kr kr kr)).trans ih
theorem E_ (n:Int):(enc n).length≤6:=by
 unfold enc
 simp only[bj,part]
 repeat' split
 all_goals simp
theorem CI (a:Nat) (ha:a=1∨a=2) (out:List UInt8) (ho:out.length<200) (tl:List MV) (i:Int) (n:Int) (hn:0≤n∧n<9223372036854775807) (hi:0≤i∧i<tl.length) (hg:tl[i.toNat]? = some (.int .i64 n)) (hl:tl.length<1000) (K:List Item):
  RunL Q m109k1 m109b1 (.blk 2::K) ⟨V1 a out tl tl.length i,[],OB a out,3⟩=RunL Q m109k1 m109b1 (.blk 2::K) ⟨V1 1 (out++enc n) tl tl.length (i+1),[],OB 1 (out++enc n),3⟩:=by
 obtain⟨rhs,hr⟩:∃r,r=RunL Q m109k1 m109b1 (.blk 2::K) ⟨V1 1 (out++enc n) tl tl.length (i+1),[],OB 1 (out++enc n),3⟩:=⟨_,rfl⟩
 rw[←hr]
 obtain⟨b',hb'⟩:∃b',b'=m109b1:=⟨_,rfl⟩
 have hlt:decide (i<(tl.length:Int))=true:=by simp;omega
 have i0:=hi.1
 have i1:=hi.2
 rw[ah,show Item.lp m109k1 m109b1=Item.lp m109k1 b' by rw[hb']]
 have fin2:∀(V:List (Nat × MV)) (O:List (Nat × Obj)) (nx:Nat) (K':List Item),aQ m109k2 ⟨V,[],O,nx⟩=⟨V2 out n 35 tl tl.length i,[],OB 1 out,3⟩ →
   RunL Q m109k2 m109b2 (.blk 4::K') (aQ m109k2 ⟨V,[],O,nx⟩)=Run Q K' ⟨(106,.bool false)::V2 (out++enc n) n (-7) tl tl.length i,[],OB 1 (out++enc n),11⟩:=by
  intro V O nx K' hc
  rw[hc]
  exact e5 out n hn (by omega) tl tl.length i K'
 rcases ha with rfl|rfl
 ·simp(maxSteps:=4000000)(disch:=first|exact dz|fail)only[bB.u,seval,cut,m109b1,V1,OB,hlt,i0,i1,hg,aq]
  rw[fin2 _ _ _ _ (canon_cong kr kr kr)]
  simp(maxSteps:=4000000)(disch:=first|exact dz|fail)only[bB.u,seval,cut,V2,OB]
  subst hb'
  rw[aA,hr]
  exact af (canon_cong (Eq.trans kr (show [(2,MV.ptr 0 0),(10,.own 1 (out.length+(enc n).length)),(99,.sl 1 tl),(100,.int .i64 tl.length),(101,.int .i64 (i+1))]=V1 1 (out++enc n) tl tl.length (i+1)from by simp[V1])) kr kr)
 ·simp(maxSteps:=4000000)(disch:=first|exact dz|fail)only[bB.u,seval,cut,m109b1,V1,OB,hlt,i0,i1,hg,aq]
  rw[fin2 _ _ _ _ (canon_cong kr kr kr)]
  simp(maxSteps:=4000000)(disch:=first|exact dz|fail)only[bB.u,seval,cut,V2,OB]
  subst hb'
  rw[aA,hr]
  exact af (canon_cong (Eq.trans kr (show [(2,MV.ptr 0 0),(10,.own 1 (out.length+(enc n).length)),(99,.sl 1 tl),(100,.int .i64 tl.length),(101,.int .i64 (i+1))]=V1 1 (out++enc n) tl tl.length (i+1)from by simp[V1])) kr kr)
theorem vB (tl:List Int) (htl:tl.length≤20) (hr:∀n∈tl,0≤n∧n<9223372036854775807) (K:List Item):∀(r:List Int) (a:Nat) (out:List UInt8) (i:Nat),(a=1∨a=2)→(a=2→r≠[])→tl.drop i=r→i+r.length=tl.length→out.length≤6*i →
  RunL Q m109k1 m109b1 (.blk 2::K) ⟨V1 a out (ints tl) (ints tl).length i,[],OB a out,3⟩=Run Q K ⟨(102,.bool false)::V1 1 (out++cH r) (ints tl) (ints tl).length (ints tl).length,[],OB 1 (out++cH r),7⟩
 | [],a,out,i,ha,ha2,hd,hi,ho=>by
  obtain rfl:a=1:=by
   rcases ha with h|h
   ·exact h
   ·exact(ha2 h rfl).elim
  have hi':i=tl.length:=by simpa using hi
  have hlt:decide ((i:Int)<((ints tl).length:Int))=false:=by rw[fH];simp;omega
  have e:out++cH []=out:=by simp[cH]
  rw[e]
  have hi2:(ints tl).length=i:=by rw[fH];omega
  obtain⟨b',hb'⟩:∃b',b'=m109b1:=⟨_,rfl⟩
  obtain⟨rhs,hrr⟩:∃r,r=Run Q K ⟨(102,.bool false)::V1 1 out (ints tl) (ints tl).length (ints tl).length,[],OB 1 out,7⟩:=⟨_,rfl⟩
  rw[←hrr]
  rw[ah,show Item.lp m109k1 m109b1=Item.lp m109k1 b' by rw[hb']]
  simp(maxSteps:=4000000)(disch:=first|exact dz|fail)only[bB.u,seval,cut,m109b1,V1,OB,hlt]
  rw[hrr]
  unfold V1 OB
  rw[hi2]
 |n::r,a,out,i,ha,ha2,hd,hi,ho=>by
  simp only[List.length_cons]at hi
  have hg:tl[i]? = some n:=by
   have:=congrArg (·[0]?) hd
   simpa[List.getElem?_drop]using this
  have hd':tl.drop (i+1)=r:=by
   have:=congrArg (List.drop 1) hd
   simpa[List.drop_drop]using this
  have hl:=E_ n
  rw[CI a ha out (by omega) (ints tl) i n (hr n (List.mem_of_getElem? hg)) (by rw[fH];omega) (by simp[ints,List.getElem?_map,hg]) (by rw[fH];omega) K]
  have ih:=vB tl htl hr K r 1 (out++enc n) (i+1) (.inl rfl) (fun h=>by omega) hd' (by omega) (by simp;omega)
  have e:((i:Int)+1)=((i+1:Nat):Int):=by omega
  rw[e,ih]
  have e2:out++enc n++cH r=out++cH (n::r):=by simp[cH]
  rw[e2]
theorem vC (s:List UInt8):∀p∈Lib.splitK [46] 0 (Lib.count s [46]) s,p.length≤s.length:=lC [46] _ s
theorem Dz (x:Int) (r:List Int):[(2,MV.ptr 0 0),(10,.own 2 0),(99,.sl 1 (ints (x::r))),(100,.int .i64 ((r.length+1:Nat):Int)),(101,.int .i64 0)]=V1 2 [] (ints (x::r)) (ints (x::r)).length (0:Nat):=by simp[V1,ints]
def fh (out:List UInt8):MV:=.tup [.agg [.int .i64 0,.int .i64 6,.bool false,.bs out,.nilsl],.bool true]
def pT:Option (List UInt8)→MV
 |some out=>fh out
 |none=>bad53
theorem c53 (s:List UInt8) (hs:s.length<1000000):Call Q 109 [.str s]=some (pT (gH s)):=by
 obtain⟨ps,hps⟩:∃ps,ps=Lib.splitK [46] 0 (Lib.count s [46]) s:=⟨_,rfl⟩
 have hsp:Call Q 143 [.str s,.str [46]]=some (.sl 1 (ps.map .str)):=by
  rw[bJ Q (g:=mY) rfl,hps]
  simp only[mY,List.length_cons,List.length_nil]
  rw[if_pos ⟨by omega,by omega⟩]
 have hpl:∀p∈ps,p.length<1000000:=fun p hp=>by have:=vC s p (hps▸hp);omega
 unfold gH
 rw[←hps]
 simp only
 rw[Call_fn Q (m:=m109) rfl rfl]
 by_cases h1:ps.length<2
 ·have d1:decide ((ps.length:Int)<2)=true:=by simp;omega
  rw[if_pos (.inl h1)]
  simp(maxSteps:=4000000)(disch:=first|exact dz|fail)only[bB.u,seval,cut,m109,hsp,d1,List.length_map,bad53,c_]
  all_goals rfl
 have d1:decide ((ps.length:Int)<2)=false:=by simp;omega
 by_cases h2:20<ps.length
 ·have d2:decide (20<(ps.length:Int))=true:=by simp;omega
  rw[if_pos (.inr h2)]
  simp(maxSteps:=4000000)(disch:=first|exact dz|fail)only[bB.u,seval,cut,m109,hsp,d1,d2,List.length_map,bad53,c_]
  all_goals rfl
 have d2:decide (20<(ps.length:Int))=false:=by simp;omega
 rw[if_neg (by omega)]
 obtain⟨x,hx⟩:∃x,x=eo ps:=⟨_,rfl⟩
 rw[←hx]
 simp(maxSteps:=4000000)(disch:=first|exact dz|fail)only[bB.u,seval,cut,m109,hsp,d1,d2,List.length_map,aq]
 refine(congrArg (am _) (af (canon_cong (V:=e_ 2 ps [] (0:Nat)) (O:=ff 2 []) (nx:=3) kr kr kr))).trans ?_
 refine(vz ps (by omega) hpl _ ps 2 [] 0 (.inr rfl) (fun _ h=>by rw[h]at h1;simp at h1) rfl (by simp) rfl).trans ?_
 rw[←hx]
 cases x with
 |none=>rfl
 |some ns=>
  have hn:=hx.symm
  obtain⟨hl,hb⟩:=nj hn
  match ns,hl,hb with
  | [],hl,_=>simp at hl;omega
  | [_],hl,_=>simp at hl;omega
  |n0::n1::r,hl,hb=>
   simp only[List.nil_append]
   have b0:=hb n0 (by simp)
   have b1:=hb n1 (by simp)
   have hl':r.length+1+1=ps.length:=by simpa using hl
   have p0:(0:Int)<((r.length+1+1:Nat):Int):=by omega
   have p1:(1:Int)<((r.length+1+1:Nat):Int):=by omega
   have p2:(1:Int)≤((r.length+1+1:Nat):Int):=by omega
   have tk:∀f:Int→MV,List.take r.length (r.map f)=r.map f:=fun f=>by rw[List.take_of_length_le];simp
   have oe:rK (n0::n1::r)=if 2<n0∨n0<2∧39<n1∨n0=2∧1099511627776≤n1+80 then none else some (cH ((n1+40*n0)::r)):=rfl
   show _=some (pT (rK (n0::n1::r)))
   rw[oe]
   by_cases c1:2<n0
   ·have e1:decide (2<n0)=true:=by simp;omega
    rw[if_pos (.inl c1)]
    simp(maxSteps:=4000000)(disch:=first|exact dz|fail)only[bB.u,seval,cut,e_,ff,gI,ints,c_,p0,p1,p2,tk,Nat.add_sub_cancel,show r.length+2-1=r.length+1 from rfl,aq,List.length_map,e1]
    all_goals rfl
   have e1:decide (2<n0)=false:=by simp;omega
   have ok:∀out,out=cH ((n1+40*n0)::r)→some (fh out)=some (pT (some (cH ((n1+40*n0)::r)))):=fun out h=>by rw[h];rfl
   have outs:=fun K=>vB ((n1+40*n0)::r) (by simp;omega) (fun n hn=>by
    rcases List.mem_cons.1 hn with rfl|hn
    ·omega
    ·have:=hb n (by simp[hn]);omega) K ((n1+40*n0)::r) 2 [] 0 (.inr rfl) (fun _ h=>by cases h) rfl (by simp) (by simp)
   by_cases c2:n0<2
   ·have e2:decide (n0<2)=true:=by simp;omega
    have e4:(n0==2)=false:=by simp;omega
    by_cases c3:39<n1
    ·have e3:decide (39<n1)=true:=by simp;omega
     rw[if_pos (.inr (.inl ⟨c2,c3⟩))]
     simp(maxSteps:=4000000)(disch:=first|exact dz|fail)only[bB.u,seval,cut,e_,ff,gI,ints,c_,p0,p1,p2,tk,Nat.add_sub_cancel,show r.length+2-1=r.length+1 from rfl,aq,List.length_map,e1,e2,e3,e4]
     all_goals rfl
    ·have e3:decide (39<n1)=false:=by simp;omega
     rw[if_neg (by omega),←ok _ rfl]
     simp(maxSteps:=4000000)(disch:=first|exact dz|fail)only[bB.u,seval,cut,e_,ff,gI,ints,c_,p0,p1,p2,tk,Nat.add_sub_cancel,show r.length+2-1=r.length+1 from rfl,aq,List.length_map,e1,e2,e3,e4]
     refine(congrArg (am _) (af (canon_cong (V:=V1 2 [] (ints ((n1+40*n0)::r)) (ints ((n1+40*n0)::r)).length (0:Nat)) (O:=OB 2 []) (nx:=3) (Eq.trans kr (Dz (n1+40*n0) r)) kr kr))).trans ?_
     rw[outs]
     simp(maxSteps:=4000000)(disch:=first|exact dz|fail)only[bB.u,seval,cut,V1,OB,c_,fh]
   ·have e2:decide (n0<2)=false:=by simp;omega
    obtain rfl:n0=2:=by omega
    by_cases c3:1099511627776≤n1+80
    ·have e3:decide (1099511627776≤n1+80)=true:=by simp;omega
     rw[if_pos (.inr (.inr ⟨rfl,c3⟩))]
     simp(maxSteps:=4000000)(disch:=first|exact dz|fail)only[bB.u,seval,cut,e_,ff,gI,ints,c_,p0,p1,p2,tk,Nat.add_sub_cancel,show r.length+2-1=r.length+1 from rfl,aq,List.length_map,e1,e2,e3]
     all_goals rfl
    ·have e3:decide (1099511627776≤n1+80)=false:=by simp;omega
     rw[if_neg (by omega),←ok _ rfl]
     simp(maxSteps:=4000000)(disch:=first|exact dz|fail)only[bB.u,seval,cut,e_,ff,gI,ints,c_,p0,p1,p2,tk,Nat.add_sub_cancel,show r.length+2-1=r.length+1 from rfl,aq,List.length_map,e1,e2,e3]
     refine(congrArg (am _) (af (canon_cong (V:=V1 2 [] (ints ((n1+40*2)::r)) (ints ((n1+40*2)::r)).length (0:Nat)) (O:=OB 2 []) (nx:=3) (Eq.trans kr (Dz (n1+40*2) r)) kr kr))).trans ?_
     rw[outs]
     simp(maxSteps:=4000000)(disch:=first|exact dz|fail)only[bB.u,seval,cut,V1,OB,c_,fh]
abbrev printB:=m_
theorem c81 (c:UInt8):Call Q 148 [.int .u8 (c.toNat:Int)]=some (.bool (printB c)):=Dy c
def AF (s:List UInt8) (n i:Int):List (Nat × MV):=[(0,.str s),(5,.int .i64 n),(6,.int .i64 i)]
def xS:List (Nat × Option (Bool × Nat) × PK):=[(2,none,.other)]
def DA:List Item:=[.blk 0,.code (.seq (.rg [⟨some (.v 2),.mv (.c (.int .i64 19)),none⟩]) .ret)]
theorem vD (s:List UInt8) (hs:s.length<1000000):∀(r:List UInt8) (i:Nat),s.drop i=r→i+r.length=s.length →
  am xS (RunL Q m113k0 m113b0 DA ⟨AF s s.length i,[],[],1⟩)=some (.int .i64 (if r.all printB then 19 else 12))
 | [],i,hd,hi=>by
  have hi':i=s.length:=by simpa using hi
  subst hi'
  have hlt:decide ((s.length:Int)<(s.length:Int))=false:=by simp
  obtain⟨b',hb'⟩:∃b',b'=m113b0:=⟨_,rfl⟩
  rw[ah,show Item.lp m113k0 m113b0=Item.lp m113k0 b' by rw[hb']]
  simp(maxSteps:=4000000)(disch:=first|exact dz|fail)only[bB.u,seval,cut,m113b0,AF,xS,DA,hlt]
 |c::r,i,hd,hi=>by
  simp only[List.length_cons]at hi
  have hlt:decide ((i:Int)<(s.length:Int))=true:=by simp;omega
  have i0:(0:Int)≤(i:Int):=by omega
  have i1:(i:Int)<(s.length:Int):=by omega
  have hg:s[i]? = some c:=by
   have:=congrArg (·[0]?) hd
   simpa[List.getElem?_drop]using this
  have hg':s.getD i 0=c:=by rw[List.getD_eq_getElem?_getD,hg];rfl
  have hd':s.drop (i+1)=r:=by
   have:=congrArg (List.drop 1) hd
   simpa[List.drop_drop]using this
  have hc:=c81 c
  have ih:=vD s hs r (i+1) hd' (by omega)
  have e:((i:Int)+1)=((i+1:Nat):Int):=by omega
  obtain⟨b',hb'⟩:∃b',b'=m113b0:=⟨_,rfl⟩
  rw[ah,show Item.lp m113k0 m113b0=Item.lp m113k0 b' by rw[hb']]
  rw[List.all_cons]
  cases hp:printB c
  ·rw[hp]at hc
   simp(maxSteps:=4000000)(disch:=first|exact dz|fail)only[bB.u,seval,cut,m113b0,AF,xS,DA,hlt,i0,i1,hg',hc]
   all_goals rfl
  ·rw[hp]at hc
   simp(maxSteps:=4000000)(disch:=first|exact dz|fail)only[bB.u,seval,cut,m113b0,AF,xS,DA,hlt,i0,i1,hg',hc]
   subst hb'
   refine((congrArg (am _) (aA Q _ _ _ _)).trans ?_)
   (try rw[Bool.true_and]);rw[←ih]
   exact congrArg (am xS) (af (canon_cong (Eq.trans kr (show [(0,MV.str s),(5,.int .i64 (s.length:Int)),(6,.int .i64 ((i:Int)+1))]=AF s s.length (i+1:Nat)from by rw[e];rfl)) kr kr))
theorem Ja (s:List UInt8) (hs:s.length<1000000):Call Q 113 [.str s]=some (.int .i64 (if s.all printB then 19 else 12)):=by
 rw[Call_fn Q (m:=m113) rfl rfl,←vD s hs s 0 rfl (by omega)]
 simp(maxSteps:=4000000)(disch:=first|exact dz|fail)only[bB.u,seval,cut,m113,aq]
 exact congrArg (am xS) (af (canon_cong kr kr kr))
def bW (s:List UInt8):Bool:=decide (1≤s.length)&&decide (s.length≤64)&&Lib.validD s
theorem c46 (s:List UInt8) (hs:s.length<1000000):Call Q 112 [.str s]=some (.bool (bW s)):=by
 have hv:Call Q 147 [.str s]=some (.bool (Lib.validD s)):=by
  rw[bJ Q (g:=mZ) rfl]
  simp only[mZ]
  rw[if_pos (by omega)]
 unfold bW
 rw[Call_fn Q (m:=m112) rfl rfl]
 have e1:decide ((1:Int)≤(s.length:Int))=decide (1≤s.length):=by rw[Bool.eq_iff_iff];simp;omega
 have e2:decide ((s.length:Int)≤64)=decide (s.length≤64):=by rw[Bool.eq_iff_iff];simp;omega
 cases h1:decide (1≤s.length)
 ·simp(maxSteps:=4000000)(disch:=first|exact dz|fail)only[bB.u,seval,cut,m112,e1,e2,h1,hv]
  all_goals rfl
 ·cases h2:decide (s.length≤64)
  ·simp(maxSteps:=4000000)(disch:=first|exact dz|fail)only[bB.u,seval,cut,m112,e1,e2,h1,h2,hv]
   all_goals rfl
  ·simp(maxSteps:=4000000)(disch:=first|exact dz|fail)only[bB.u,seval,cut,m112,e1,e2,h1,h2,hv]
   all_goals rfl
abbrev Dn:=List (List UInt8 × List UInt8)
def attr (a:List UInt8 × List UInt8):MV:=.agg [.str a.1,.str a.2]
def bh (d:Dn):List MV:=d.map attr
theorem cy (d:Dn):(bh d).length=d.length:=by simp[bh]
theorem attrs_get {d:Dn} {i:Nat} {a:List UInt8 × List UInt8} (h:d[i]? = some a):(bh d)[i]? = some (.agg [.str a.1,.str a.2]):=by
 simp[bh,h,attr]
theorem c55 (t x:List UInt8) (hx:x.length<1000000):Call Q 262 [.agg [.str t,.str x]]=some (.bool (!bW x)):=by
 have h:=c46 x hx
 rw[Call_fn Q (m:=m262) rfl rfl]
 simp(maxSteps:=4000000)(disch:=first|exact dz|fail)only[bB.u,seval,cut,m262,h]
def gK:Dn→Int→Int
 | [],_=>-1
 |a::r,i=>if bW a.2 then gK r (i+1)else i
def xT:List (Nat × Option (Bool × Nat) × PK):=[(4,none,.other)]
def AG (d:Dn) (n i:Int):List (Nat × MV):=[(0,.sl 2 (bh d)),(1,.fn 262 []),(7,.int .i64 n),(8,.int .i64 i)]
def DB:List Item:=[.blk 0,.code (.seq (.rg [⟨some (.v 4),.mv (.c (.int .i64 (-1))),none⟩]) .ret)]
def okLens (d:Dn):Prop:=d.length<1000000∧∀a∈d,a.1.length<1000000∧a.2.length<1000000
theorem vE (d:Dn) (hl:okLens d):∀(r:Dn) (i:Nat),d.drop i=r→i+r.length=d.length →
  am xT (RunL Q m269k0 m269b0 DB ⟨AG d d.length i,[],[],1⟩)=some (.int .i64 (gK r i))
 | [],i,hd,hi=>by
  have hi':i=d.length:=by simpa using hi
  subst hi'
  have hlt:decide ((d.length:Int)<(d.length:Int))=false:=by simp
  obtain⟨b',hb'⟩:∃b',b'=m269b0:=⟨_,rfl⟩
  rw[ah,show Item.lp m269k0 m269b0=Item.lp m269k0 b' by rw[hb']]
  simp(maxSteps:=4000000)(disch:=first|exact dz|fail)only[bB.u,seval,cut,m269b0,AG,xT,DB,hlt]
  all_goals rfl
 |a::r,i,hd,hi=>by
  simp only[List.length_cons]at hi
  have hlen:=hl.1
  have hlt:decide ((i:Int)<(d.length:Int))=true:=by simp;omega
  have i0:(0:Int)≤(i:Int):=by omega
  have i1:(i:Int)<(d.length:Int):=by omega
  have hg:d[i]? = some a:=by
   have:=congrArg (·[0]?) hd
   simpa[List.getElem?_drop]using this
  have hg':=attrs_get hg
  have hal:=cy d
  have hd':d.drop (i+1)=r:=by
   have:=congrArg (List.drop 1) hd
   simpa[List.drop_drop]using this
  have hc:=c55 a.1 a.2 (hl.2 a (List.mem_of_getElem? hg)).2
  have ih:=vE d hl r (i+1) hd' (by omega)
  have e:((i:Int)+1)=((i+1:Nat):Int):=by omega
  obtain⟨b',hb'⟩:∃b',b'=m269b0:=⟨_,rfl⟩
  rw[ah,show Item.lp m269k0 m269b0=Item.lp m269k0 b' by rw[hb']]
  rw[show gK (a::r) i=if bW a.2 then gK r (i+1)else i from rfl]
  cases hp:bW a.2
  ·rw[hp]at hc
   simp(maxSteps:=4000000)(disch:=first|exact dz|fail)only[bB.u,seval,cut,m269b0,AG,xT,DB,hlt,i0,i1,hal,hg',hc]
  ·rw[hp]at hc
   obtain⟨rhs,hr⟩:∃x,x=gK r ((i:Int)+1):=⟨_,rfl⟩
   rw[←hr]
   simp(maxSteps:=4000000)(disch:=first|exact dz|fail)only[bB.u,seval,cut,m269b0,AG,xT,DB,hlt,i0,i1,hal,hg',hc]
   subst hb'
   refine((congrArg (am _) (aA Q _ _ _ _)).trans ?_)
   rw[hr,e,←ih]
   exact congrArg (am xT) (af (canon_cong (Eq.trans kr (show [(0,MV.sl 2 (bh d)),(1,.fn 262 []),(7,.int .i64 (d.length:Int)),(8,.int .i64 ((i:Int)+1))]=AG d d.length (i+1:Nat)from by rw[e];rfl)) kr kr))
theorem c86 (d:Dn) (hl:okLens d):Call Q 269 [.sl 2 (bh d),.fn 262 []]=some (.int .i64 (gK d 0)):=by
 have hal:=cy d
 rw[Call_fn Q (m:=m269) rfl rfl,show gK d 0=gK d ((0:Nat):Int)from rfl,←vE d hl d 0 rfl (by omega)]
 simp(maxSteps:=4000000)(disch:=first|exact dz|fail)only[bB.u,seval,cut,m269,hal,aq]
 exact congrArg (am xT) (af (canon_cong kr kr kr))
theorem sZ:∀(d:Dn) (i:Int),0≤i→decide (0≤gK d i)=d.any fun a=>!bW a.2
 | [],i,h=>rfl
 |a::r,i,h=>by
  rw[show gK (a::r) i=if bW a.2 then gK r (i+1)else i from rfl,List.any_cons]
  cases bW a.2
  ·simp;omega
  ·simpa using sZ r (i+1) (by omega)
theorem c54 (d:Dn) (hl:okLens d):Call Q 261 [.sl 2 (bh d),.fn 262 []]=some (.bool (d.any fun a=>!bW a.2)):=by
 have h:=c86 d hl
 have h2:=sZ d 0 (Int.le_refl _)
 rw[Call_fn Q (m:=m261) rfl rfl]
 simp(maxSteps:=4000000)(disch:=first|exact dz|fail)only[bB.u,seval,cut,m261,h,h2]
def dK (s:List UInt8):Int:=if s.all printB then 19 else 12
def ec (out:List UInt8):T:=.mk 0 6 false out []
def iQ (s:List UInt8):T:=.mk 0 (dK s) false s []
def fV (out s:List UInt8):T:=.mk 0 17 true [] [.mk 0 16 true [] [ec out,iQ s]]
def G7 (out:List UInt8):MV:=.agg [.int .i64 0,.int .i64 6,.bool false,.bs out,.nilsl]
def DC (s:List UInt8):MV:=.agg [.int .i64 0,.int .i64 (dK s),.bool false,.bs s,.nilsl]
def CK (out s:List UInt8):MV:=.agg [.int .i64 0,.int .i64 17,.bool true,.nilsl,.sl 5 [.agg [.int .i64 0,.int .i64 16,.bool true,.nilsl,.sl 5 [G7 out,DC s]]]]
theorem xU (out s:List UInt8):av (fV out s)=CK out s:=by
 simp[fV,CK,ec,iQ,G7,DC,aX,dm,kw]
def jn (ks:List T) (a:List UInt8 × List UInt8):List T ⊕ Unit:=match gH a.1 with
 |none=>.inr ()
 |some out=>.inl (ks++[fV out a.2])
def mu:List (Nat × Option (Bool × Nat) × PK):=[(2,some (true,5),.other),(3,none,.other)]
def mw (d:Dn) (i:Int):List (Nat × MV):=[(0,.sl 2 (bh d)),(2,.ptr 0 0),(4,.ptr 1 0),(15,.sl 2 (bh d)),(16,.int .i64 (d.length:Int)),(17,.int .i64 i)]
def mz:List MV→List (Nat × Obj)
 | []=>[(0,.cells aB),(1,.cells [.int .i64 0,.int .i64 16,.bool true,.nilsl,.nilsl])]
 |k::ks=>[(0,.cells aB),(1,.cells [.int .i64 0,.int .i64 16,.bool true,.nilsl,.own 2 (ks.length+1)]),(2,.el 5 (k::ks) false)]
def iI:List MV→Nat
 | []=>3
 |_=>4
theorem Fb (d:Dn) (hd:d.length≤16) (hl:okLens d) (K:List Item) (ks:List T) (i:Nat) (a:List UInt8 × List UInt8) (hk:ks.length=i) (hg:d[i]? = some a):
  cS (fun ks i=>ks.length=i) (fun ks i=>am mu (RunL Q m250k0 m250b0 K ⟨mw d (i:Nat),[],mz (ks.map av),iI (ks.map av)⟩)) (fun _=>some (.tup [.agg aB,.int .i64 30]))
   (am mu (RunL Q m250k0 m250b0 K ⟨mw d (i:Nat),[],mz (ks.map av),iI (ks.map av)⟩)) (i+1) (jn ks a):=by
 have hi:i<d.length:=(List.getElem?_eq_some_iff.1 hg).1
 have hlt:decide ((i:Int)<(d.length:Int))=true:=by simp;omega
 have i1:(i:Int)<(d.length:Int):=by omega
 have hal:=cy d
 have hg':=attrs_get hg
 have lens:=hl.2 a (List.mem_of_getElem? hg)
 have ho:=c53 a.1 lens.1
 have ht:=Ja a.2 lens.2
 have htag:(if a.2.all printB=true then(19:Int)else 12)=dK a.2:=rfl
 rw[htag]at ht
 have e:((i+1:Nat):Int)=(i:Int)+1:=rfl
 unfold jn
 cases hx:gH a.1 with
 |none=>
  rw[hx]at ho
  simp only[pT,bad53,c_,cS]at ho ⊢
  cases ks with
  |nil=>
   simp only[List.map_nil,mz,iI,mw]
   unfold aB
   obtain⟨b',hb'⟩:∃b',b'=m250b0:=⟨_,rfl⟩
   rw[ah,show Item.lp m250k0 m250b0=Item.lp m250k0 b' by rw[hb']]
   apply ae;intro rhs hrhs
   simp(maxSteps:=4000000)(disch:=first|exact dz|fail)only[bB.u,seval,cut,m250b0,mu,hlt,i1,hal,hg',ho]
   subst hrhs;rfl
  |cons k ks=>
   simp only[List.map_cons,mz,iI,mw]
   generalize av k::ks.map av=kl
   generalize(ks.map av).length+1=n
   unfold aB
   obtain⟨b',hb'⟩:∃b',b'=m250b0:=⟨_,rfl⟩
   rw[ah,show Item.lp m250k0 m250b0=Item.lp m250k0 b' by rw[hb']]
   apply ae;intro rhs hrhs
   simp(maxSteps:=4000000)(disch:=first|exact dz|fail)only[bB.u,seval,cut,m250b0,mu,hlt,i1,hal,hg',ho]
   subst hrhs;rfl
 |some out=>
  rw[hx]at ho
  simp only[pT,fh,cS]at ho ⊢
  refine⟨by simp[hk],?_⟩
  cases ks with
  |nil=>
   simp only[List.map_nil,List.nil_append,List.map_cons,xU,mz,iI,mw,e]
   unfold aB
   obtain⟨b',hb'⟩:∃b',b'=m250b0:=⟨_,rfl⟩
   rw[ah,show Item.lp m250k0 m250b0=Item.lp m250k0 b' by rw[hb']]
   apply ae;intro rhs hrhs
   simp(maxSteps:=4000000)(disch:=first|exact dz|fail)only[bB.u,seval,cut,m250b0,hlt,i1,hal,hg',ho,ht]
   subst hrhs;(subst hb';refine(congrArg (am _) (aA Q _ _ _ _)).trans ?_;exact congrArg (am mu) (af (canon_cong kr kr kr)))
  |cons k ks=>
   simp only[List.length_cons]at hk
   have hml:(ks.map av).length=ks.length:=by simp
   have hml2:(ks.map av++[CK out a.2]).length=ks.length+1:=by simp
   simp only[List.map_cons,List.map_append,List.map_nil,List.cons_append,xU,mz,iI,mw,e,hml,hml2]
   have hkl:(av k::ks.map av).length=i:=by simp;omega
   rw[←List.cons_append]
   generalize av k::ks.map av=kl at hkl ⊢
   rw[hk]
   unfold aB
   obtain⟨b',hb'⟩:∃b',b'=m250b0:=⟨_,rfl⟩
   rw[ah,show Item.lp m250k0 m250b0=Item.lp m250k0 b' by rw[hb']]
   apply ae;intro rhs hrhs
   simp(maxSteps:=4000000)(disch:=first|exact dz|fail)only[bB.u,seval,cut,m250b0,hlt,i1,hal,hg',ho,ht,hkl]
   subst hrhs;(subst hb';refine(congrArg (am _) (aA Q _ _ _ _)).trans ?_;exact congrArg (am mu) (af (canon_cong kr kr kr)))
def i_:MCode:=(.seq (sq [qa 49 0,oV 50 (.call 261 [.t 49,.c (.fn 262 [])])] (.cond (.v 50) (sq [oT 51 (.build az []),qg 5 2 51,qe 3 31] .ret) .skip)) (sq [qi 52 5 4,qg 5 2 52,qe 3 0] .ret))
inductive VR where
 |er (e:Int)
 |ok (t:T)
def VR.mv:VR→MV
 | .er e=>.tup [.agg aB,.int .i64 e]
 | .ok t=>.tup [av t,.int .i64 0]
def dnS (d:Dn):VR:=if 16<d.length then .er 30 else match aG jn [] d with
 | .inr _=>.er 30
 | .inl ks=>if(d.any fun a=>!bW a.2)=true then .er 31 else .ok (.mk 0 16 true [] ks)
theorem G8 (d:Dn) (hl:okLens d) (ks:List T) (hk:ks.length=d.length):am mu (RunL Q m250k0 m250b0 [.blk 0,.code i_] ⟨mw d (d.length:Nat),[],mz (ks.map av),iI (ks.map av)⟩)=some (VR.mv (if(d.any fun a=>!bW a.2)=true then .er 31 else .ok (.mk 0 16 true [] ks))):=by
 have hlt:decide ((d.length:Int)<(d.length:Int))=false:=by simp
 have hc:=c54 d hl
 have hal:=cy d
 cases hb:d.any fun a=>!bW a.2
 ·rw[hb]at hc
  rw[if_neg (by simp)]
  simp only[VR.mv,aX,if_true]
  cases ks with
  |nil=>
   simp only[List.map_nil,mz,iI,mw,dm]
   unfold aB
   obtain⟨b',hb'⟩:∃b',b'=m250b0:=⟨_,rfl⟩
   rw[ah,show Item.lp m250k0 m250b0=Item.lp m250k0 b' by rw[hb']]
   apply ae;intro rhs hrhs
   simp(maxSteps:=4000000)(disch:=first|exact dz|fail)only[bB.u,seval,cut,m250b0,mu,i_,hlt,hal,hc]
   subst hrhs;rfl
  |cons k ks=>
   have hkl:(av k::ks.map av).length=d.length:=by simpa using hk
   have hke:(ks.map av).length+1=d.length:=by simpa using hk
   simp only[List.map_cons,mz,iI,mw,dm,kw,jl,hke]
   generalize av k::ks.map av=kl at hkl ⊢
   unfold aB
   obtain⟨b',hb'⟩:∃b',b'=m250b0:=⟨_,rfl⟩
   rw[ah,show Item.lp m250k0 m250b0=Item.lp m250k0 b' by rw[hb']]
   apply ae;intro rhs hrhs
   simp(maxSteps:=4000000)(disch:=first|exact dz|fail)only[bB.u,seval,cut,m250b0,mu,i_,hlt,hal,hc,hkl]
   subst hrhs;rfl
 ·rw[hb]at hc
  rw[if_pos rfl]
  simp only[VR.mv]
  cases ks with
  |nil=>
   simp only[List.map_nil,mz,iI,mw]
   unfold aB
   obtain⟨b',hb'⟩:∃b',b'=m250b0:=⟨_,rfl⟩
   rw[ah,show Item.lp m250k0 m250b0=Item.lp m250k0 b' by rw[hb']]
   apply ae;intro rhs hrhs
   simp(maxSteps:=4000000)(disch:=first|exact dz|fail)only[bB.u,seval,cut,m250b0,mu,i_,hlt,hal,hc]
   subst hrhs;rfl
  |cons k ks=>
   have hkl:(av k::ks.map av).length=d.length:=by simpa using hk
   have hke:(ks.map av).length+1=d.length:=by simpa using hk
   simp only[List.map_cons,mz,iI,mw,hke]
   generalize av k::ks.map av=kl at hkl ⊢
   unfold aB
   obtain⟨b',hb'⟩:∃b',b'=m250b0:=⟨_,rfl⟩
   rw[ah,show Item.lp m250k0 m250b0=Item.lp m250k0 b' by rw[hb']]
   apply ae;intro rhs hrhs
   simp(maxSteps:=4000000)(disch:=first|exact dz|fail)only[bB.u,seval,cut,m250b0,mu,i_,hlt,hal,hc,hkl]
   subst hrhs;rfl
theorem CL (d:Dn) (hl:okLens d):Call Q 250 [.sl 2 (bh d)]=some (dnS d).mv:=by
 have hal:=cy d
 unfold dnS
 by_cases h16:16<d.length
 ·rw[if_pos h16]
  have h16':decide (16<(d.length:Int))=true:=by simp;omega
  simp only[VR.mv]
  unfold aB
  rw[Call_fn Q (m:=m250) rfl rfl]
  apply ae;intro rhs hrhs
  simp(maxSteps:=4000000)(disch:=first|exact dz|fail)only[bB.u,seval,cut,m250,hal,h16']
  subst hrhs;rfl
 rw[if_neg h16]
 have h16':decide (16<(d.length:Int))=false:=by simp;omega
 rw[Call_fn Q (m:=m250) rfl rfl]
 apply ae;intro rhs hrhs
 simp(maxSteps:=4000000)(disch:=first|exact dz|fail)only[bB.u,seval,cut,m250,aq,hal,h16']
 refine gC d jn (fun ks i=>am mu (RunL Q m250k0 m250b0 [.blk 0,.code i_] ⟨mw d (i:Nat),[],mz (ks.map av),iI (ks.map av)⟩)) (fun _=>some (.tup [.agg aB,.int .i64 30])) (fun ks i=>ks.length=i)
  (fun ks i a hk hg=>Fb d (by omega) hl _ ks i a hk hg) [] rfl (congrArg (am _) (af (canon_cong kr kr kr))) ?_ ?_
 ·intro ks hf hk
  rw[hrhs,hf]
  exact G8 d hl ks hk
 ·intro c hf
  rw[hrhs,hf]
  rfl
theorem CM (f:Nat) (m:MFunc) (hf:Q.prim f=none) (hm:Q.fn f=some m) (h:entry m [.nilsl]=entry m [.sl 2 (bh [])]):Call Q f [.nilsl]=Call Q f [.sl 2 (bh [])]:=by
 rw[Call_fn Q hf hm,Call_fn Q hf hm,h]
def isDir (v:MV) (d:Dn):Prop:=v= .sl 2 (bh d)∨v= .nilsl∧d=[]
theorem IF {v:MV} {d:Dn} (hv:isDir v d) (hl:okLens d):Call Q 250 [v]=some (dnS d).mv:=by
 rcases hv with rfl|⟨rfl,rfl⟩
 ·exact CL d hl
 ·rw[CM _ m250 rfl rfl rfl];exact CL [] hl
def gM (k:Int) (t:List UInt8) (dv:MV):MV:=.agg [.int .i64 k,.str t,dv]
def CN (x:UInt8) (j:Nat):Bool:=x>>>UInt8.ofNat j&&&1==1
def uh (m:List UInt8):Nat→Bool→Nat→Bool
 | 0,_,_=>true
 |k+1,over,i=>if(CN (m.getD (i/8) 0) (7-i%8)&&over)=true then false else uh m k (over|| !CN (m.getD (i/8) 0) (7-i%8)) (i+1)
def pU (m:List UInt8):Bool:=uh m (8*m.length) false 0
theorem wU (y:UInt8):IntKind.i64.wrap (y.toNat:Int)=(y.toNat:Int):=fG (by omega) (by have:=y.toNat_lt;omega)
def fJ (k:Int) (t:List UInt8) (d:Dn) (lim:Bool):Bool:=
 if k=4 then lim||decide (0<d.length)
 else if k=7 then(if lim=true then(decide (t.length=8)||decide (t.length=32))&&pU (t.drop (t.length/2))else decide (t.length=4)||decide (t.length=16))
 else(decide (0<t.length)||lim)&&decide (t.length≤64)&& !(t.any fun c=>decide (128≤c.toNat))
def dL (k:Int):Bool:=k==1||k==2||k==4||k==6||k==7
def nk (P:UInt8→Bool):List UInt8→Nat→Int
 | [],_=>-1
 |c::r,i=>if P c=true then i else nk P r (i+1)
theorem vF (P:UInt8→Bool):∀(r:List UInt8) (i:Nat),decide ((0:Int)≤nk P r i)=r.any P
 | [],i=>rfl
 |c::r,i=>by
  unfold nk
  rw[List.any_cons]
  cases hp:P c
  ·rw[if_neg (by decide),Bool.false_or];exact vF P r (i+1)
  ·rw[if_pos rfl,Bool.true_or];simp
def rM:List (Nat × Option (Bool × Nat) × PK):=[(6,none,.other)]
def yS (f:Nat):List (Nat × MV):=[(1,.fn f []),(2,.bool true),(10,.ptr 0 0)]
def yT:List Item:=[.blk 0,.code (.seq (.rg [⟨some (.v 6),.mv (.c (.int .i64 (-1))),none⟩]) .ret)]
def yU (f:Nat) (P:UInt8→Bool) (s:List UInt8):Prop:=∀(i:Nat) (c:UInt8),s[i]? = some c→Call Q f [.int .i32 ((Utf8.decode ⟨s.toArray⟩ i).1:Int)]=some (.bool (P c))∧(P c=false→(Utf8.decode ⟨s.toArray⟩ i).2=1)
theorem s6 (f:Nat) (P:UInt8→Bool) (s:List UInt8) (hs:s.length<1000000) (hf:yU f P s):∀(r:List UInt8) (i:Nat),s.drop i=r→i+r.length=s.length →
  am rM (RunL Q m211k0 m211b0 yT ⟨yS f,[],[(0,.iter s i)],2⟩)=some (.int .i64 (nk P r i))
 | [],i,hd,hi=>by
  have hi':i=s.length:=by simpa using hi
  subst hi'
  have hlt:(s.length<s.length)=False:=by simp
  obtain⟨b',hb'⟩:∃b',b'=m211b0:=⟨_,rfl⟩
  rw[ah,show Item.lp m211k0 m211b0=Item.lp m211k0 b' by rw[hb']]
  simp(maxSteps:=4000000)(disch:=first|exact dz|fail)only[bB.u,seval,cut,m211b0,yS,rM,yT,hlt]
  all_goals rfl
 |c::r,i,hd,hi=>by
  simp only[List.length_cons]at hi
  have hlt:decide ((i:Int)<(s.length:Int))=true:=by simp;omega
  have i0:(0:Int)≤(i:Int):=by omega
  have i1:(i:Int)<(s.length:Int):=by omega
  have hg:s[i]? = some c:=by
   have:=congrArg (·[0]?) hd
   simpa[List.getElem?_drop]using this
  have hg':s.getD i 0=c:=by rw[List.getD_eq_getElem?_getD,hg];rfl
  have hd':s.drop (i+1)=r:=by
   have:=congrArg (List.drop 1) hd
   simpa[List.drop_drop]using this
  have hlt2:(i<s.length)=True:=eq_true (by omega)
  obtain⟨h1,h2⟩:=hf i c hg
  have ih:=s6 f P s hs hf r (i+1) hd' (by omega)
  unfold nk
  obtain⟨b',hb'⟩:∃b',b'=m211b0:=⟨_,rfl⟩
  rw[ah,show Item.lp m211k0 m211b0=Item.lp m211k0 b' by rw[hb']]
  cases hp:P c
  ·rw[hp]at h1
   have hw:=h2 hp
   rw[if_neg (by decide)]
   obtain⟨rhs,hr⟩:∃y,y=nk P r (i+1):=⟨_,rfl⟩
   rw[←hr]
   simp(maxSteps:=4000000)(disch:=first|exact dz|fail)only[bB.u,seval,cut,m211b0,yS,rM,yT,hlt2,h1,hw]
   subst hb'
   refine((congrArg (am _) (aA Q _ _ _ _)).trans ?_)
   rw[hr,←ih]
   exact congrArg (am rM) (af (canon_cong kr kr kr))
  ·rw[hp]at h1
   rw[if_pos rfl]
   simp(maxSteps:=4000000)(disch:=first|exact dz|fail)only[bB.u,seval,cut,m211b0,yS,rM,yT,hlt2,h1]
theorem Ju (f:Nat) (P:UInt8→Bool) (s:List UInt8) (hs:s.length<1000000) (hf:yU f P s):Call Q 211 [.str s,.fn f [],.bool true]=some (.int .i64 (nk P s 0)):=by
 rw[Call_fn Q (m:=m211) rfl rfl,←s6 f P s hs hf s 0 rfl (by omega)]
 simp(maxSteps:=4000000)(disch:=first|exact dz|fail)only[bB.u,seval,cut,m211,aq]
 exact congrArg (am rM) (af (canon_cong kr kr kr))
theorem c65 (f:Nat) (P:UInt8→Bool) (s:List UInt8) (hs:s.length<1000000) (hf:yU f P s):Call Q 164 [.str s,.fn f []]=some (.bool (s.any P)):=by
 have h:=Ju f P s hs hf
 have h96:Call Q 182 [.str s,.fn f []]=some (.int .i64 (nk P s 0)):=by
  rw[Call_fn Q (m:=m182) rfl rfl]
  simp(maxSteps:=4000000)(disch:=first|exact dz|fail)only[bB.u,seval,cut,m182,h]
 have h0:=vF P s 0
 rw[Call_fn Q (m:=m164) rfl rfl]
 simp(maxSteps:=4000000)(disch:=first|exact dz|fail)only[bB.u,seval,cut,m164,h96,h0]
def high (c:UInt8):Bool:=decide (128≤c.toNat)
theorem c78 (n:Int):Call Q 165 [.int .i32 n]=some (.bool (decide (128≤n))):=by
 rw[Call_fn Q (m:=m165) rfl rfl]
 simp(maxSteps:=4000000)(disch:=first|exact dz|fail)only[bB.u,seval,cut,m165]
theorem vG (n b0 b1 b2 b3:Nat) (h:128≤b0):128≤(Lib.decodeN n b0 b1 b2 b3).1:=by
 unfold Lib.decodeN
 repeat' split
 all_goals simp only
 all_goals omega
theorem G_ {s:List UInt8} {i:Nat} {c:UInt8} (h:s[i]? = some c):(c.toNat<128→Utf8.decode ⟨s.toArray⟩ i=(c.toNat,1))∧(128≤c.toNat→128≤(Utf8.decode ⟨s.toArray⟩ i).1):=by
 have hg:s.getD i 0=c:=by rw[List.getD_eq_getElem?_getD,h];rfl
 have e:Utf8.decode ⟨s.toArray⟩ i=Lib.decodeN (s.length-i) (s.getD i 0).toNat (s.getD (i+1) 0).toNat (s.getD (i+2) 0).toNat (s.getD (i+3) 0).toNat:=Lib.decode_N ⟨s.toArray⟩ i
 rw[e,hg]
 refine⟨fun hc=>?_,fun hc=>vG _ _ _ _ _ hc⟩
 unfold Lib.decodeN
 rw[if_pos hc]
theorem AH (s:List UInt8):yU 165 high s:=by
 intro i c h
 obtain⟨h1,h2⟩:=G_ h
 rw[c78]
 unfold high
 by_cases hc:c.toNat<128
 ·have e:=h1 hc
  refine⟨?_,fun _=>by rw[e]⟩
  rw[e]
  have:decide ((128:Int)≤((c.toNat:Nat):Int))=decide (128≤c.toNat):=by rw[Bool.eq_iff_iff];simp;omega
  rw[this]
 ·have:=h2 (by omega)
  rw[decide_eq_true (show(128:Int)≤((Utf8.decode ⟨s.toArray⟩ i).1:Int) by omega),decide_eq_true (show 128≤c.toNat by omega)]
  exact⟨rfl,fun h=>by cases h⟩
def ol:List (Nat × Option (Bool × Nat) × PK):=[(2,none,.other)]
def pV (m:List UInt8) (over:Bool) (n i:Int):List (Nat × MV):=[(0,.str m),(3,.bool over),(8,.int .i64 n),(9,.int .i64 i)]
def xV:List Item:=[.blk 0,.code (.seq (.rg [⟨some (.v 2),.mv (.c (.bool true)),none⟩]) .ret)]
theorem ui (y:UInt8):(((y&&&1).toNat:Int)==1)=(y&&&1==1):=I9 (y&&&1) 1
theorem vH (m:List UInt8) (hm:m.length<1000000):∀(k:Nat) (over:Bool) (i:Nat),i+k=8*m.length →
  am ol (RunL Q m163k0 m163b0 xV ⟨pV m over (8*(m.length:Int)) i,[],[],1⟩)=some (.bool (uh m k over i))
 | 0,over,i,hi=>by
  have hi':i=8*m.length:=by omega
  subst hi'
  have hlt:decide (((8*m.length:Nat):Int)<8*(m.length:Int))=false:=by simp
  obtain⟨b',hb'⟩:∃b',b'=m163b0:=⟨_,rfl⟩
  rw[ah,show Item.lp m163k0 m163b0=Item.lp m163k0 b' by rw[hb']]
  simp(maxSteps:=4000000)(disch:=first|exact dz|fail)only[bB.u,seval,cut,m163b0,pV,xV,ol,hlt]
  all_goals rfl
 |k+1,over,i,hi=>by
  have hlt:decide ((i:Int)<8*(m.length:Int))=true:=by simp;omega
  have i0:(0:Int)≤(i:Int):=by omega
  have e:((i:Int)+1)=((i+1:Nat):Int):=by omega
  have tdi:(i:Int).tdiv 8=((i/8:Nat):Int):=by rw[Int.tdiv_eq_ediv_of_nonneg i0];omega
  have edv:((i:Int)/8).toNat=i/8:=by omega
  have j0:(0:Int)≤((i/8:Nat):Int):=by omega
  have j1:((i/8:Nat):Int)<(m.length:Int):=by omega
  have es:(7-(i:Int)%8).toNat=7-i%8:=by omega
  have i7:(0:Int)≤7-(i:Int)%8:=by omega
  have i8:7-(i:Int)%8<8:=by omega
  have tm8:(i:Int).tmod 8=(i:Int)%8:=Int.tmod_eq_emod_of_nonneg i0
  unfold uh CN
  generalize hx:m.getD (i/8) 0=x
  have ih:=fun over'=>vH m hm k over' (i+1) (by omega)
  obtain⟨b',hb'⟩:∃b',b'=m163b0:=⟨_,rfl⟩
  rw[ah,show Item.lp m163k0 m163b0=Item.lp m163k0 b' by rw[hb']]
  cases h1:(x>>>UInt8.ofNat (7-i%8)&&&1==1)
  ·rw[Bool.false_and,if_neg (by decide),Bool.not_false,Bool.or_true,←ih true]
   cases over
   ·simp(maxSteps:=4000000)(disch:=first|exact dz|fail)only[bB.u,seval,cut,m163b0,pV,xV,ol,hlt,i0,j0,j1,es,i7,i8,tm8,edv,hx,ui,h1]
    subst hb'
    refine((congrArg (am _) (aA Q _ _ _ _)).trans ?_)
    exact congrArg (am ol) (af (canon_cong (Eq.trans kr (show [(0,MV.str m),(3,.bool true),(8,.int .i64 (8*(m.length:Int))),(9,.int .i64 ((i:Int)+1))]=pV m true (8*(m.length:Int)) (i+1:Nat)from by rw[e];rfl)) kr kr))
   ·simp(maxSteps:=4000000)(disch:=first|exact dz|fail)only[bB.u,seval,cut,m163b0,pV,xV,ol,hlt,i0,j0,j1,es,i7,i8,tm8,edv,hx,ui,h1]
    subst hb'
    refine((congrArg (am _) (aA Q _ _ _ _)).trans ?_)
    exact congrArg (am ol) (af (canon_cong (Eq.trans kr (show [(0,MV.str m),(3,.bool true),(8,.int .i64 (8*(m.length:Int))),(9,.int .i64 ((i:Int)+1))]=pV m true (8*(m.length:Int)) (i+1:Nat)from by rw[e];rfl)) kr kr))
  ·cases over
   ·rw[Bool.and_false,if_neg (by decide),Bool.not_true,Bool.or_false,←ih false]
    simp(maxSteps:=4000000)(disch:=first|exact dz|fail)only[bB.u,seval,cut,m163b0,pV,xV,ol,hlt,i0,j0,j1,es,i7,i8,tm8,edv,hx,ui,h1]
    subst hb'
    refine((congrArg (am _) (aA Q _ _ _ _)).trans ?_)
    exact congrArg (am ol) (af (canon_cong (Eq.trans kr (show [(0,MV.str m),(3,.bool false),(8,.int .i64 (8*(m.length:Int))),(9,.int .i64 ((i:Int)+1))]=pV m false (8*(m.length:Int)) (i+1:Nat)from by rw[e];rfl)) kr kr))
   ·rw[Bool.and_true,if_pos rfl]
    simp(maxSteps:=4000000)(disch:=first|exact dz|fail)only[bB.u,seval,cut,m163b0,pV,xV,ol,hlt,i0,j0,j1,es,i7,i8,tm8,edv,hx,ui,h1]
theorem c77 (m:List UInt8) (hm:m.length<1000000):Call Q 163 [.str m]=some (.bool (pU m)):=by
 unfold pU
 rw[Call_fn Q (m:=m163) rfl rfl,←vH m hm (8*m.length) false 0 (by omega)]
 simp(maxSteps:=4000000)(disch:=first|exact dz|fail)only[bB.u,seval,cut,m163,aq]
 exact congrArg (am ol) (af (canon_cong kr kr kr))
theorem xW (k:Int):Call Q 138 [.int .i64 k]=some (.bool (dL k)):=by
 rw[Call_fn Q (m:=m138) rfl rfl]
 apply ae;intro rhs hrhs
 simp(maxSteps:=4000000)(disch:=first|exact dz|fail)only[bB.u,seval,cut,m138]
 repeat'((with_reducible first|refine sp ?_ ?_|fail)<;>intro hx<;>(try simp only[bI.u]at hx)<;>(first|exact xz|(try simp(maxSteps:=4000000)(disch:=first|exact dz|fail)only[bB.u,seval,cut,hx,m138])))
 all_goals first|exact xz|(subst hrhs;(first|rfl|(refine congrArg some (congrArg MV.bool ?_);rw[Bool.eq_iff_iff];simp only[dL,Bool.and_eq_true,Bool.or_eq_true,Bool.not_eq_true',Bool.not_eq_true,decide_eq_true_eq,decide_eq_false_iff_not,beq_iff_eq,Bool.false_eq_true,false_iff,true_iff,iff_true,iff_false,←UInt8.toNat_inj];omega)|(refine congrArg some (congrArg MV.bool ?_);rw[Bool.eq_iff_iff];simp[dL,←UInt8.toNat_inj]at *<;>omega)|(refine congrArg some (congrArg MV.bool ?_);rw[Bool.eq_iff_iff];simp_all[dL,←UInt8.toNat_inj]<;>omega)))
theorem rN (k:Int) (t:List UInt8) (dv:MV) (d:Dn) (hdv:isDir dv d) (hd:d.length<1000000) (ht:t.length<1000000) (lim:Bool):Call Q 139 [gM k t dv,.bool lim]=some (.bool (fJ k t d lim)):=by
 have hal:=cy d
 have hm:=c77 (t.drop (t.length/2)) (by simp;omega)
 have hc:=c65 165 (fun c=>decide (128≤c.toNat)) t ht (AH t)
 have hdn:∀st,lenV false dv st=some (.int .i64 d.length):=by
  intro st
  rcases hdv with rfl|⟨rfl,rfl⟩
  ·simp only[lenV,hal]
  ·rfl
 have ediv:((t.length:Int)/2).toNat=t.length/2:=by omega
 have htk:(t.drop (t.length/2)).take (t.length-t.length/2)=t.drop (t.length/2):=List.take_of_length_le (by simp)
 have hle:t.length/2≤t.length:=by omega
 have hm8:t.length=8→Call Q 163 [.str (List.take 4 (List.drop 4 t))]=some (.bool (pU (t.drop (t.length/2)))):=by
  intro h
  rw[←hm,h,List.take_of_length_le (l:=List.drop 4 t) (i:=4) (by simp;omega)]
 have hm32:t.length=32→Call Q 163 [.str (List.take 16 (List.drop 16 t))]=some (.bool (pU (t.drop (t.length/2)))):=by
  intro h
  rw[←hm,h,List.take_of_length_le (l:=List.drop 16 t) (i:=16) (by simp;omega)]
 unfold gM fJ
 by_cases h4:k=4
 ·subst h4
  rw[if_pos rfl]
  rw[Call_fn Q (m:=m139) rfl rfl]
  rcases hdv with rfl|⟨rfl,rfl⟩<;>cases lim
  all_goals(
  apply ae;intro rhs hrhs
  simp(maxSteps:=4000000)(disch:=first|exact dz|fail)only[bB.u,seval,cut,m139,hdn,hal]
  repeat'((with_reducible first|refine sp ?_ ?_|fail)<;>intro hx<;>(try simp only[bI.u]at hx)<;>(first|exact xz|(try simp(maxSteps:=4000000)(disch:=first|exact dz|fail)only[bB.u,seval,cut,hx,m139,hdn,hal])))
  all_goals first|exact xz|(subst hrhs;(first|rfl|(refine congrArg some (congrArg MV.bool ?_);rw[Bool.eq_iff_iff];simp only[Bool.and_eq_true,Bool.or_eq_true,Bool.not_eq_true',Bool.not_eq_true,decide_eq_true_eq,decide_eq_false_iff_not,beq_iff_eq,Bool.false_eq_true,false_iff,true_iff,iff_true,iff_false,←UInt8.toNat_inj];omega)|(refine congrArg some (congrArg MV.bool ?_);rw[Bool.eq_iff_iff];simp[←UInt8.toNat_inj]at *<;>omega)|(refine congrArg some (congrArg MV.bool ?_);rw[Bool.eq_iff_iff];simp_all[←UInt8.toNat_inj]<;>omega))))
 rw[if_neg h4]
 have h4':(k==4)=false:=by simpa using h4
 by_cases h7:k=7
 ·subst h7
  rw[if_pos rfl]
  rw[Call_fn Q (m:=m139) rfl rfl]
  rcases hdv with rfl|⟨rfl,rfl⟩<;>cases lim<;>simp only[if_true,if_false,Bool.false_eq_true]
  all_goals(
  apply ae;intro rhs hrhs
  simp(maxSteps:=4000000)(disch:=first|exact dz|fail)only[bB.u,seval,cut,m139,hal,hm,hm8,hm32,ediv,htk,hle]
  repeat'((with_reducible first|refine sp ?_ ?_|fail)<;>intro hx<;>(try simp only[bI.u]at hx)<;>(first|exact xz|(try simp(maxSteps:=4000000)(disch:=first|exact dz|fail)only[bB.u,seval,cut,hx,m139,hal,hm,hm8,hm32,ediv,htk,hle])))
  all_goals first|exact xz|(subst hrhs;first|rfl|(first|rfl|(refine congrArg some (congrArg MV.bool ?_);rw[Bool.eq_iff_iff];simp only[Bool.and_eq_true,Bool.or_eq_true,Bool.not_eq_true',Bool.not_eq_true,decide_eq_true_eq,decide_eq_false_iff_not,beq_iff_eq,Bool.false_eq_true,false_iff,true_iff,iff_true,iff_false,←UInt8.toNat_inj];omega)|(refine congrArg some (congrArg MV.bool ?_);rw[Bool.eq_iff_iff];simp[←UInt8.toNat_inj]at *<;>omega)|(refine congrArg some (congrArg MV.bool ?_);rw[Bool.eq_iff_iff];simp_all[←UInt8.toNat_inj]<;>omega))|(refine congrArg some (congrArg MV.bool ?_);rw[Bool.eq_iff_iff];simp;omega)))
 rw[if_neg h7]
 have h7':(k==7)=false:=by simpa using h7
 rw[Call_fn Q (m:=m139) rfl rfl]
 rcases hdv with rfl|⟨rfl,rfl⟩<;>cases lim
 all_goals(
 apply ae;intro rhs hrhs
 simp(maxSteps:=4000000)(disch:=first|exact dz|fail)only[bB.u,seval,cut,m139,hal,hc,h4',h7']
 repeat'((with_reducible first|refine sp ?_ ?_|fail)<;>intro hx<;>(try simp only[bI.u]at hx)<;>(first|exact xz|(try simp(maxSteps:=4000000)(disch:=first|exact dz|fail)only[bB.u,seval,cut,hx,m139,hal,hc,h4',h7'])))
 all_goals first|exact xz|(subst hrhs;first|rfl|(simp_all;done)|(first|rfl|(refine congrArg some (congrArg MV.bool ?_);rw[Bool.eq_iff_iff];simp only[Bool.and_eq_true,Bool.or_eq_true,Bool.not_eq_true',Bool.not_eq_true,decide_eq_true_eq,decide_eq_false_iff_not,beq_iff_eq,Bool.false_eq_true,false_iff,true_iff,iff_true,iff_false,←UInt8.toNat_inj];omega)|(refine congrArg some (congrArg MV.bool ?_);rw[Bool.eq_iff_iff];simp[←UInt8.toNat_inj]at *<;>omega)|(refine congrArg some (congrArg MV.bool ?_);rw[Bool.eq_iff_iff];simp_all[←UInt8.toNat_inj]<;>omega))|(refine congrArg some (congrArg MV.bool ?_);rw[Bool.eq_iff_iff];simp;omega)))
def genS (k:Int) (t:List UInt8) (d:Dn) (lim:Bool):VR:=
 if dL k=false∨k≠4∧0<d.length∨k=4∧t≠[]then .er 30
 else if k=4 then match dnS d with
  | .er _=>.er 31
  | .ok D=>if fJ k t d lim=true then .ok (.mk 2 4 true [] [D])else .er 31
 else if fJ k t d lim=true then .ok (.mk 2 k false t [])else .er 31
theorem AI {d:Dn} {e:Int} (h:dnS d= .er e):e≠0:=by
 unfold dnS at h
 split at h
 ·cases h;decide
 ·split at h
  ·cases h;decide
  ·split at h
   ·cases h;decide
   ·cases h
theorem vI {d:Dn} {D:T} (h:dnS d= .ok D):∃ks,D= .mk 0 16 true [] ks:=by
 unfold dnS at h
 split at h
 ·cases h
 ·split at h
  ·cases h
  ·split at h
   ·cases h
   ·cases h;exact⟨_,rfl⟩
theorem vJ (k:Int) (t:List UInt8) (dv:MV) (d:Dn) (hdv:isDir dv d) (hl:okLens d) (ht:t.length<1000000) (lim:Bool):Call Q 272 [gM k t dv,.bool lim]=some (genS k t d lim).mv:=by
 have hal:=cy d
 have hr:=rN k t dv d hdv hl.1 ht lim
 have hdv2:isDir dv d:=hdv
 have hd:=IF hdv hl
 have hk:=xW k
 unfold genS
 unfold gM at hr ⊢
 by_cases h0:dL k=false∨k≠4∧0<d.length∨k=4∧t≠[]
 ·rw[if_pos h0]
  simp only[VR.mv]
  unfold aB
  rw[Call_fn Q (m:=m272) rfl rfl]
  have ht0:t≠[]→(t== [])=false:=by intro h;simpa using h
  rcases hdv with rfl|⟨rfl,rfl⟩
  all_goals(
  apply ae;intro rhs hrhs
  simp(maxSteps:=4000000)(disch:=first|exact dz|fail)only[bB.u,seval,cut,m272,hal,hk]
  repeat'((with_reducible first|refine sp ?_ ?_|fail)<;>intro hx<;>(try simp only[bI.u]at hx)<;>(first|exact xz|(try simp(maxSteps:=4000000)(disch:=first|exact dz|fail)only[bB.u,seval,cut,hx,m272,hal,hk])))
  all_goals first|exact xz|(subst hrhs;first|rfl|(exfalso;simp_all;done)|(exfalso;simp_all;omega)))
 rw[if_neg h0]
 have hkt:dL k=true:=by
  cases h:dL k
  ·exact absurd (.inl h) h0
  ·rfl
 rw[hkt]at hk
 by_cases h4:k=4
 ·subst h4
  have ht0:t=[]:=Decidable.not_not.1 fun h=>h0 (.inr (.inr ⟨rfl,h⟩))
  subst ht0
  rw[if_pos rfl]
  cases hD:dnS d with
  |er e=>
   rw[hD]at hd
   have he:(e==0)=false:=by simpa using AI hD
   simp only[VR.mv]at hd ⊢
   unfold aB at hd ⊢
   rw[Call_fn Q (m:=m272) rfl rfl]
   rcases hdv with rfl|⟨rfl,rfl⟩
   all_goals(
   apply ae;intro rhs hrhs
   simp(maxSteps:=4000000)(disch:=first|exact dz|fail)only[bB.u,seval,cut,m272,hal,hk,hd,he]
   repeat'((with_reducible first|refine sp ?_ ?_|fail)<;>intro hx<;>(try simp only[bI.u]at hx)<;>(first|exact xz|(try simp(maxSteps:=4000000)(disch:=first|exact dz|fail)only[bB.u,seval,cut,hx,m272,hal,hk,hd,he])))
   all_goals first|exact xz|(subst hrhs;rfl))
  |ok D=>
   rw[hD]at hd
   obtain⟨ks,rfl⟩:=vI hD
   have hks:dm ks= .nilsl∨∃l,dm ks= .sl 5 l:=by cases ks<;>simp[dm]
   simp only[VR.mv,aX,if_true]at hd
   cases hR:fJ 4 [] d lim
   ·rw[hR]at hr
    dsimp only
    rw[if_neg (by simp)]
    simp only[VR.mv]
    unfold aB
    rw[Call_fn Q (m:=m272) rfl rfl]
    rcases hks with hks|⟨l,hks⟩<;>rw[hks]at hd<;>rcases hdv with rfl|⟨rfl,rfl⟩
    all_goals(
    apply ae;intro rhs hrhs
    simp(maxSteps:=4000000)(disch:=first|exact dz|fail)only[bB.u,seval,cut,m272,hal,hk,hd,hr]
    repeat'((with_reducible first|refine sp ?_ ?_|fail)<;>intro hx<;>(try simp only[bI.u]at hx)<;>(first|exact xz|(try simp(maxSteps:=4000000)(disch:=first|exact dz|fail)only[bB.u,seval,cut,hx,m272,hal,hk,hd,hr])))
    all_goals first|exact xz|(subst hrhs;rfl))
   ·rw[hR]at hr
    dsimp only
    rw[if_pos rfl]
    rw[show VR.mv (.ok (.mk 2 4 true [] [.mk 0 16 true [] ks]))= .tup [.agg [.int .i64 2,.int .i64 4,.bool true,.nilsl,.sl 5 [.agg [.int .i64 0,.int .i64 16,.bool true,.nilsl,dm ks]]],.int .i64 0] by rw[VR.mv,aX];show MV.tup [.agg [.int .i64 2,.int .i64 4,.bool true,.nilsl,.sl 5 [av _]],_]=_;rw[aX];rfl]
    rw[Call_fn Q (m:=m272) rfl rfl]
    rcases hks with hks|⟨l,hks⟩<;>rw[hks]at hd<;>rcases hdv with rfl|⟨rfl,rfl⟩
    all_goals(
    apply ae;intro rhs hrhs
    simp(maxSteps:=4000000)(disch:=first|exact dz|fail)only[bB.u,seval,cut,m272,hal,hk,hd,hr]
    repeat'((with_reducible first|refine sp ?_ ?_|fail)<;>intro hx<;>(try simp only[bI.u]at hx)<;>(first|exact xz|(try simp(maxSteps:=4000000)(disch:=first|exact dz|fail)only[bB.u,seval,cut,hx,m272,hal,hk,hd,hr])))
    all_goals first|exact xz|(subst hrhs;rw[hks]))
 ·rw[if_neg h4]
  have h4':(k==4)=false:=by simpa using h4
  have hd0:d=[]:=by
   cases d with
   |nil=>rfl
   |cons a r=>exact absurd (.inr (.inl ⟨h4,by simp⟩)) h0
  subst hd0
  cases hR:fJ k t [] lim
  ·rw[hR]at hr
   rw[if_neg (by simp)]
   simp only[VR.mv]
   unfold aB
   rw[Call_fn Q (m:=m272) rfl rfl]
   rcases hdv with rfl|⟨rfl,_⟩
   all_goals(
   apply ae;intro rhs hrhs
   simp(maxSteps:=4000000)(disch:=first|exact dz|fail)only[bB.u,seval,cut,m272,hal,hk,hr,h4']
   repeat'((with_reducible first|refine sp ?_ ?_|fail)<;>intro hx<;>(try simp only[bI.u]at hx)<;>(first|exact xz|(try simp(maxSteps:=4000000)(disch:=first|exact dz|fail)only[bB.u,seval,cut,hx,m272,hal,hk,hr,h4'])))
   all_goals first|exact xz|(subst hrhs;rfl))
  ·rw[hR]at hr
   rw[if_pos rfl]
   simp only[VR.mv,aX,if_false,Bool.false_eq_true,dm]
   rw[Call_fn Q (m:=m272) rfl rfl]
   rcases hdv with rfl|⟨rfl,_⟩
   all_goals(
   apply ae;intro rhs hrhs
   simp(maxSteps:=4000000)(disch:=first|exact dz|fail)only[bB.u,seval,cut,m272,hal,hk,hr,h4']
   repeat'((with_reducible first|refine sp ?_ ?_|fail)<;>intro hx<;>(try simp only[bI.u]at hx)<;>(first|exact xz|(try simp(maxSteps:=4000000)(disch:=first|exact dz|fail)only[bB.u,seval,cut,hx,m272,hal,hk,hr,h4'])))
   all_goals first|exact xz|(subst hrhs;rfl))
def im (y m:Int):Int:=if m≤2 then y-1 else y
def oI (m:Int):Int:=if m≤2 then m+12 else m
def a_ (y m d:Int):Int:=365*im y m+im y m/4-im y m/100+im y m/400+(153*(oI m-3)+2)/5+d-719469
theorem AJ (y m d:Int) (hy:1≤y∧y<100000) (hm:1≤m∧m<100) (hd:0≤d∧d<1000):Call Q 115 [.int .i64 y,.int .i64 m,.int .i64 d]=some (.int .i64 (a_ y m d)):=by
 rw[Call_fn Q (m:=m115) rfl rfl]
 unfold a_ im oI
 by_cases h:m≤2
 ·have h':decide (m≤2)=true:=by simpa using h
  rw[if_pos h,if_pos h]
  apply ae;intro rhs hrhs
  simp(maxSteps:=4000000)(disch:=first|exact dz|fail)only[bB.u,seval,cut,m115,h']
  subst hrhs;rfl
 ·have h':decide (m≤2)=false:=by simpa using h
  rw[if_neg h,if_neg h]
  apply ae;intro rhs hrhs
  simp(maxSteps:=4000000)(disch:=first|exact dz|fail)only[bB.u,seval,cut,m115,h']
  subst hrhs;rfl
def two (n:Int):List UInt8:=[UInt8.ofNat (48+n.toNat/10),UInt8.ofNat (48+n.toNat%10)]
theorem xX (n:Int):(two n).length=2:=rfl
theorem xY (n:Int) (h:0≤n∧n<100):Call Q 270 [.int .i64 n,.int .i64 2]=some (.str (two n)):=by
 have e:=bJ Q (f:=116) (args:=[.int .i64 n]) (g:=iO) rfl
 have r0:=bJ Q (f:=273) (args:=[.str [48],.int .i64 0]) (g:=dF) rfl
 have r1:=bJ Q (f:=273) (args:=[.str [48],.int .i64 1]) (g:=dF) rfl
 have r0':dF [.str [48],.int .i64 0]=some (.str []):=by simp[dF,Lib.repeatL]
 have r1':dF [.str [48],.int .i64 1]=some (.str [48]):=by simp[dF,Lib.repeatL]
 rw[r0']at r0
 rw[r1']at r1
 obtain⟨k,rfl⟩:=Int.eq_ofNat_of_zero_le h.1
 have hk:k<100:=by omega
 rw[Call_fn Q (m:=m270) rfl rfl]
 by_cases h1:k<10
 ·have e2:iO [.int .i64 (k:Int)]=some (.str [UInt8.ofNat (48+k)]):=by
   simp only[iO,cp,jj,Int.toNat_natCast]
   rw[if_neg (by omega),if_pos h1]
  rw[e2]at e
  have e3:two (k:Int)=[48,UInt8.ofNat (48+k)]:=by
   unfold two
   rw[Int.toNat_natCast,show k/10=0 by omega,show k%10=k by omega]
   all_goals rfl
  rw[e3]
  simp(maxSteps:=4000000)(disch:=first|exact dz|fail)only[bB.u,seval,cut,m270,e,r0,r1]
 ·have e2:iO [.int .i64 (k:Int)]=some (.str [UInt8.ofNat (48+k/10),UInt8.ofNat (48+k%10)]):=by
   simp only[iO,cp,jj,Int.toNat_natCast]
   rw[if_neg (by omega),if_neg h1,if_pos (by omega)]
   all_goals rfl
  rw[e2]at e
  have e3:two (k:Int)=[UInt8.ofNat (48+k/10),UInt8.ofNat (48+k%10)]:=by
   unfold two
   rw[Int.toNat_natCast]
  rw[e3]
  simp(maxSteps:=4000000)(disch:=first|exact dz|fail)only[bB.u,seval,cut,m270,e,r0,r1]
def four (n:Int):List UInt8:=[UInt8.ofNat (48+n.toNat/1000),UInt8.ofNat (48+n.toNat/100%10),UInt8.ofNat (48+n.toNat/10%10),UInt8.ofNat (48+n.toNat%10)]
theorem vK (n:Int):(four n).length=4:=rfl
theorem IG (n:Int) (h:1000≤n∧n<10000):cp n=four n:=by
 obtain⟨k,rfl⟩:=Int.eq_ofNat_of_zero_le (show 0≤n by omega)
 unfold cp four
 rw[if_neg (by omega),Int.toNat_natCast]
 simp only[jj]
 rw[if_neg (by omega),if_neg (by omega),if_neg (by omega),if_pos (by omega)]
 simp only[List.cons_append,List.nil_append]
 rw[show k/10/10/10=k/1000 by omega,show k/10/10%10=k/100%10 by omega]
theorem G' (n:Int) (h:1000≤n∧n<10000):Call Q 270 [.int .i64 n,.int .i64 4]=some (.str (four n)):=by
 have e:=kM n
 rw[IG n h]at e
 have r0:=bJ Q (f:=273) (args:=[.str [48],.int .i64 0]) (g:=dF) rfl
 have r0':dF [.str [48],.int .i64 0]=some (.str []):=by simp[dF,Lib.repeatL]
 rw[r0']at r0
 have hl:=vK n
 rw[Call_fn Q (m:=m270) rfl rfl]
 apply ae;intro rhs hrhs
 simp(maxSteps:=4000000)(disch:=first|exact dz|fail)only[bB.u,seval,cut,m270,e,r0,hl]
 subst hrhs;rfl
def dq (day:Int):Nat→Int→Int
 | 0,y=>y
 |k+1,y=>if a_ (y+1) 1 1≤day then dq day k (y+1)else y
def eM (day y:Int):Nat→Int→Int
 | 0,m=>m
 |k+1,m=>if a_ y (m+1) 1≤day then eM day y k (m+1)else m
def pW (day left y:Int):List (Nat × MV):=[(2,.ptr 0 0),(4,.int .i64 day),(5,.int .i64 left),(6,.int .i64 y)]
def pX (day left y m:Int):List (Nat × MV):=[(2,.ptr 0 0),(4,.int .i64 day),(5,.int .i64 left),(6,.int .i64 y),(7,.int .i64 m)]
def OT:List (Nat × Obj):=[(0,.cells aB)]
def oo:List (Nat × Option (Bool × Nat) × PK):=[(2,some (true,5),.other),(3,none,.other)]
theorem s7 (day:Int) (hday:day<a_ 10000 1 1):∀(k:Nat) (y:Int),1970≤y→y+k=9999→a_ y 1 1≤day→y≤dq day k y∧dq day k y≤9999∧a_ (dq day k y) 1 1≤day∧day<a_ (dq day k y+1) 1 1
 | 0,y,h0,h1,h2=>by
  obtain rfl:y=9999:=by omega
  exact⟨by rw[dq];omega,by rw[dq];omega,by rw[dq];omega,hday⟩
 |k+1,y,h0,h1,h2=>by
  rw[dq]
  split
  ·rename_i h
   have:=s7 day hday k (y+1) (by omega) (by omega) h
   omega
  ·exact⟨by omega,by omega,h2,by omega⟩
theorem vL (day y:Int):∀(k:Nat) (m:Int),1≤m→m+k=12→a_ y m 1≤day→m≤eM day y k m∧eM day y k m≤12∧a_ y (eM day y k m) 1≤day∧(eM day y k m<12→day<a_ y (eM day y k m+1) 1)
 | 0,m,h0,h1,h2=>by rw[eM];exact⟨by omega,by omega,h2,by omega⟩
 |k+1,m,h0,h1,h2=>by
  rw[eM]
  split
  ·rename_i h
   have:=vL day y k (m+1) (by omega) (by omega) h
   omega
  ·exact⟨by omega,by omega,h2,by omega⟩
theorem xZ (day left:Int) (hday:day<a_ 10000 1 1) (K:List Item):∀(k:Nat) (y:Int),1970≤y→y+k=9999 →
  am oo (RunL Q m263k0 m263b0 (.blk 0::K) ⟨pW day left y,[],OT,2⟩)=am oo (Run Q K ⟨(27,.bool false)::pW day left (dq day k y),[],OT,22⟩)
 | 0,y,h0,h1=>by
  obtain rfl:y=9999:=by omega
  have c:=AJ (9999+1) 1 1 (by omega) (by omega) (by omega)
  have hle:decide (a_ (9999+1) 1 1≤day)=false:=by simp;exact hday
  rw[dq]
  generalize a_ (9999+1) 1 1=D at c hle
  unfold pW OT aB
  rw[show(9999+1:Int)=10000 from rfl]at c
  obtain⟨b',hb'⟩:∃b',b'=m263b0:=⟨_,rfl⟩
  rw[ah,show Item.lp m263k0 m263b0=Item.lp m263k0 b' by rw[hb']]
  apply ae;intro rhs hrhs
  simp(maxSteps:=4000000)(disch:=first|exact dz|fail)only[bB.u,seval,cut,m263b0,c,hle]
  subst hrhs;rfl
 |k+1,y,h0,h1=>by
  have c:=AJ (y+1) 1 1 (by omega) (by omega) (by omega)
  rw[dq]
  by_cases h:a_ (y+1) 1 1≤day
  ·rw[if_pos h,←xZ day left hday K k (y+1) (by omega) (by omega)]
   have hle:decide (a_ (y+1) 1 1≤day)=true:=by simpa using h
   unfold pW OT aB
   obtain⟨b',hb'⟩:∃b',b'=m263b0:=⟨_,rfl⟩
   rw[ah,show Item.lp m263k0 m263b0=Item.lp m263k0 b' by rw[hb']]
   apply ae;intro rhs hrhs
   simp(maxSteps:=4000000)(disch:=first|exact dz|fail)only[bB.u,seval,cut,m263b0,oo,c,hle]
   subst hrhs;(subst hb';refine(congrArg (am _) (aA Q _ _ _ _)).trans ?_;exact congrArg (am oo) (af (canon_cong kr kr kr)))
  ·rw[if_neg h]
   have hle:decide (a_ (y+1) 1 1≤day)=false:=by simpa using h
   unfold pW OT aB
   obtain⟨b',hb'⟩:∃b',b'=m263b0:=⟨_,rfl⟩
   rw[ah,show Item.lp m263k0 m263b0=Item.lp m263k0 b' by rw[hb']]
   apply ae;intro rhs hrhs
   simp(maxSteps:=4000000)(disch:=first|exact dz|fail)only[bB.u,seval,cut,m263b0,c,hle]
   subst hrhs;rfl
theorem vM (day left y:Int) (hy:1970≤y∧y≤9999) (K:List Item):∀(k:Nat) (m:Int),1≤m→m+k=12 →
  am oo (RunL Q m263k1 m263b1 (.blk 2::K) ⟨pX day left y m,[],OT,2⟩)=am oo (Run Q K ⟨(39,.bool false)::pX day left y (eM day y k m),[],OT,42⟩)
 | 0,m,h0,h1=>by
  obtain rfl:m=12:=by omega
  rw[eM]
  unfold pX OT aB
  obtain⟨b',hb'⟩:∃b',b'=m263b1:=⟨_,rfl⟩
  rw[ah,show Item.lp m263k1 m263b1=Item.lp m263k1 b' by rw[hb']]
  apply ae;intro rhs hrhs
  simp(maxSteps:=4000000)(disch:=first|exact dz|fail)only[bB.u,seval,cut,m263b1]
  subst hrhs;rfl
 |k+1,m,h0,h1=>by
  have c:=AJ y (m+1) 1 (by omega) (by omega) (by omega)
  have hlt:decide (m<12)=true:=by simp;omega
  rw[eM]
  by_cases h:a_ y (m+1) 1≤day
  ·rw[if_pos h,←vM day left y hy K k (m+1) (by omega) (by omega)]
   have hle:decide (a_ y (m+1) 1≤day)=true:=by simpa using h
   unfold pX OT aB
   obtain⟨b',hb'⟩:∃b',b'=m263b1:=⟨_,rfl⟩
   rw[ah,show Item.lp m263k1 m263b1=Item.lp m263k1 b' by rw[hb']]
   apply ae;intro rhs hrhs
   simp(maxSteps:=4000000)(disch:=first|exact dz|fail)only[bB.u,seval,cut,m263b1,oo,hlt,c,hle]
   subst hrhs;(subst hb';refine(congrArg (am _) (aA Q _ _ _ _)).trans ?_;exact congrArg (am oo) (af (canon_cong kr kr kr)))
  ·rw[if_neg h]
   have hle:decide (a_ y (m+1) 1≤day)=false:=by simpa using h
   unfold pX OT aB
   obtain⟨b',hb'⟩:∃b',b'=m263b1:=⟨_,rfl⟩
   rw[ah,show Item.lp m263k1 m263b1=Item.lp m263k1 b' by rw[hb']]
   apply ae;intro rhs hrhs
   simp(maxSteps:=4000000)(disch:=first|exact dz|fail)only[bB.u,seval,cut,m263b1,hlt,c,hle]
   subst hrhs;rfl
def ew (t:Int):Int:=dq (t/86400) (9999-(1970+t/86400/366)).toNat (1970+t/86400/366)
def fB (t:Int):Int:=eM (t/86400) (ew t) 11 1
def nl (t:Int):Int:=t/86400-a_ (ew t) (fB t) 1+1
def nQ (m d l:Int):List UInt8:=two m++two d++two (l/3600)++two (l/60%60)++two (l%60)++[90]
def timeS (t:Int):VR:=if t<0∨253402300799<t then .er 32
 else if ew t<2050 then .ok (.mk 0 23 false (two (ew t%100)++nQ (fB t) (nl t) (t%86400)) [])
 else .ok (.mk 0 24 false (four (ew t)++nQ (fB t) (nl t) (t%86400)) [])
theorem AK (y m:Int) (hy:1970≤y∧y≤9999) (hm:1≤m∧m≤12):a_ y (m+1) 1-a_ y m 1≤31∧a_ (y+1) 1 1-a_ y 12 1≤31:=by
 have hc:m=1∨m=2∨m=3∨m=4∨m=5∨m=6∨m=7∨m=8∨m=9∨m=10∨m=11∨m=12:=by omega
 rcases hc with rfl|rfl|rfl|rfl|rfl|rfl|rfl|rfl|rfl|rfl|rfl|rfl<;>simp only[a_,im,oI,Int.reduceLE,Int.reduceAdd,if_true,if_false]<;>(try simp only[show ¬((13:Int)≤2) by decide,if_false])<;>omega
theorem vN (t:Int) (h0:0≤t) (h1:t≤253402300799):1970≤ew t∧ew t≤9999∧1≤fB t∧fB t≤12∧1≤nl t∧nl t≤31∧a_ (ew t) (fB t) 1+(nl t-1)=t/86400∧(fB t<12→t/86400<a_ (ew t) (fB t+1) 1)∧a_ (ew t) 1 1≤t/86400∧t/86400<a_ (ew t+1) 1 1:=by
 have hday:t/86400<a_ 10000 1 1:=by
  simp only[a_,im,oI,Int.reduceLE,if_true];omega
 have hyear:a_ (1970+t/86400/366) 1 1≤t/86400:=by
  simp only[a_,im,oI,Int.reduceLE,if_true];omega
 have hY:=s7 (t/86400) hday (9999-(1970+t/86400/366)).toNat (1970+t/86400/366) (by omega) (by omega) hyear
 rw[show dq (t/86400) (9999-(1970+t/86400/366)).toNat (1970+t/86400/366)=ew t from rfl]at hY
 obtain⟨y1,y2,y3,y4⟩:=hY
 have hM:=vL (t/86400) (ew t) 11 1 (by omega) (by omega) y3
 rw[show eM (t/86400) (ew t) 11 1=fB t from rfl]at hM
 obtain⟨m1,m2,m3,m4⟩:=hM
 have hl:=AK (ew t) (fB t) (by omega) (by omega)
 have hd:t/86400-a_ (ew t) (fB t) 1≤30:=by
  rcases Int.lt_or_le (fB t) 12 with hh|hh
  ·have:=m4 hh;omega
  ·have e:fB t=12:=by omega
   rw[e];omega
 unfold nl
 exact⟨by omega,y2,m1,m2,by omega,by omega,by omega,m4,y3,y4⟩
theorem xa (t:Int):Call Q 263 [.int .i64 t]=some (timeS t).mv:=by
 unfold timeS
 by_cases h:t<0∨253402300799<t
 ·rw[if_pos h]
  simp only[VR.mv]
  unfold aB
  rw[Call_fn Q (m:=m263) rfl rfl]
  apply ae;intro rhs hrhs
  simp(maxSteps:=4000000)(disch:=first|exact dz|fail)only[bB.u,seval,cut,m263]
  repeat'((with_reducible first|refine sp ?_ ?_|fail)<;>intro hx<;>(try simp only[bI.u]at hx)<;>(first|exact xz|(try simp(maxSteps:=4000000)(disch:=first|exact dz|fail)only[bB.u,seval,cut,hx,m263])))
  all_goals first|exact xz|(subst hrhs;rfl)
 rw[if_neg h]
 have lt0:decide (t<0)=false:=by simp;omega
 have gt0:decide (253402300799<t)=false:=by simp;omega
 obtain⟨y1,y2,m1,m2,d1,d2,e1,e2,e3,e4⟩:=vN t (by omega) (by omega)
 have hday:t/86400<a_ 10000 1 1:=by
  simp only[a_,im,oI,Int.reduceLE,if_true];omega
 have hY:=fun K=>xZ (t/86400) (t%86400) hday K (9999-(1970+t/86400/366)).toNat (1970+t/86400/366) (by omega) (by omega)
 rw[show dq (t/86400) (9999-(1970+t/86400/366)).toNat (1970+t/86400/366)=ew t from rfl]at hY
 have hM:=fun K=>vM (t/86400) (t%86400) (ew t) ⟨y1,y2⟩ K 11 1 (by omega) (by omega)
 rw[show eM (t/86400) (ew t) 11 1=fB t from rfl]at hM
 have hd:t/86400-a_ (ew t) (fB t) 1+1=nl t:=rfl
 have p1:=xY (fB t) (by omega)
 have p2:=xY (nl t) (by omega)
 have p3:=xY (t%86400/3600) (by omega)
 have p4:=xY (t%86400/60%60) (by omega)
 have p5:=xY (t%86400%60) (by omega)
 have q:=AJ (ew t) (fB t) 1 (by omega) (by omega) (by omega)
 unfold nQ
 rw[Call_fn Q (m:=m263) rfl rfl]
 have hB: -4000000≤a_ (ew t) (fB t) 1∧a_ (ew t) (fB t) 1≤4000000:=by omega
 generalize hY0:ew t=y at *
 generalize hM0:fB t=m at *
 generalize hD0:nl t=d at *
 generalize hDF:a_ y m 1=D at *
 by_cases hy:y<2050
 ·have p6:=xY (y%100) (by omega)
  have ly:decide (y<2050)=true:=by simpa using hy
  rw[if_pos hy]
  simp only[VR.mv,aX,if_false,Bool.false_eq_true,dm]
  apply ae;intro rhs hrhs
  simp(maxSteps:=4000000)(disch:=first|exact dz|fail)only[bB.u,seval,cut,m263,aq,lt0,gt0]
  refine(congrArg (am _) (af (st':=⟨pW (t/86400) (t%86400) (1970+t/86400/366),[],OT,2⟩) kr)).trans ?_
  refine(hY _).trans ?_
  unfold pW OT aB
  simp(maxSteps:=4000000)(disch:=first|exact dz|fail)only[bB.u,seval,cut,aq]
  refine(congrArg (am _) (af (st':=⟨pX (t/86400) (t%86400) y 1,[],OT,2⟩) kr)).trans ?_
  refine(hM _).trans ?_
  unfold pX OT aB
  simp(maxSteps:=4000000)(disch:=first|exact dz|fail)only[bB.u,seval,cut,oo,p1,p2,p3,p4,p5,p6,q,hd,ly,xX]
  rw[hrhs]
 ·have p6:=G' y (by omega)
  have ly:decide (y<2050)=false:=by simpa using hy
  rw[if_neg hy]
  simp only[VR.mv,aX,if_false,Bool.false_eq_true,dm]
  apply ae;intro rhs hrhs
  simp(maxSteps:=4000000)(disch:=first|exact dz|fail)only[bB.u,seval,cut,m263,aq,lt0,gt0]
  refine(congrArg (am _) (af (st':=⟨pW (t/86400) (t%86400) (1970+t/86400/366),[],OT,2⟩) kr)).trans ?_
  refine(hY _).trans ?_
  unfold pW OT aB
  simp(maxSteps:=4000000)(disch:=first|exact dz|fail)only[bB.u,seval,cut,aq]
  refine(congrArg (am _) (af (st':=⟨pX (t/86400) (t%86400) y 1,[],OT,2⟩) kr)).trans ?_
  refine(hM _).trans ?_
  unfold pX OT aB
  simp(maxSteps:=4000000)(disch:=first|exact dz|fail)only[bB.u,seval,cut,oo,p1,p2,p3,p4,p5,p6,q,hd,ly,xX,vK]
  rw[hrhs]
def gO (s:List (List UInt8) × Int) (c:UInt8):(List (List UInt8) × Int) ⊕ Unit:=
 if 1099511627776≤s.2*128+(c.toNat:Int)%128 then .inr ()
 else if 128≤c.toNat then .inl (s.1,s.2*128+(c.toNat:Int)%128)
 else if s.1=[]then .inl ([cp (min ((s.2*128+(c.toNat:Int)%128)/40) 2),cp (s.2*128+(c.toNat:Int)%128-40*min ((s.2*128+(c.toNat:Int)%128)/40) 2)],0)
 else .inl (s.1++[cp (s.2*128+(c.toNat:Int)%128)],0)
inductive OR where
 |no
 |ok (s:List UInt8)
def OR.mv:OR→MV
 | .no=>.tup [.str [],.bool false]
 | .ok s=>.tup [.str s,.bool true]
def rO (b:List UInt8):OR:=match aG gO ([],0) b with
 | .inr _=>.no
 | .inl s=>if 20<s.1.length then .no else .ok (Lib.join s.1 [46])
def iJ:T→OR
 | .mk c t m b ks=>if(wrW (.mk c t m b ks)).1≠0∨c≠0∨t≠6 then .no else rO b
def jV:List (Nat × Option (Bool × Nat) × PK):=[(2,none,.other),(3,none,.other)]
def jp (b:List UInt8) (a:Nat) (ps:List (List UInt8)) (n:Int) (i:Nat):DS:=⟨[(6,.own a ps.length),(7,.int .i64 n),(29,.bs b),(30,.int .i64 b.length),(31,.int .i64 i)],[],[(a,.el 1 (ps.map .str) false)],2⟩
theorem o_step (b:List UInt8) (hb:b.length<2^30) (K:List Item) (s:List (List UInt8) × Int) (i:Nat) (c:UInt8) (hI:s.1.length≤2*i∧0≤s.2∧s.2<1099511627776) (hg:b[i]? = some c):
  cS (fun s i=>s.1.length≤2*i∧0≤s.2∧s.2<1099511627776) (fun s i=>am jV (RunL Q m83k0 m83b0 K (jp b (if i=0 then 1 else 0) s.1 s.2 i))) (fun _=>some OR.no.mv)
   (am jV (RunL Q m83k0 m83b0 K (jp b (if i=0 then 1 else 0) s.1 s.2 i))) (i+1) (gO s c):=by
 obtain⟨ps,n⟩:=s
 simp only at hI
 obtain⟨hI,hn0,hn1⟩:=hI
 obtain⟨hi,hxx⟩:=List.getElem?_eq_some_iff.1 hg
 have hlt:decide ((i:Int)<(b.length:Int))=true:=by simp;omega
 have i1:(i:Int)<(b.length:Int):=by omega
 have hc:=c.toNat_lt
 have e9:((i+1:Nat):Int)=(i:Int)+1:=rfl
 have ha:(if i=0 then 1 else 0)≤1:=by split<;>omega
 have hml:(ps.map MV.str).length=ps.length:=by simp
 unfold gO
 simp only
 generalize hN:n*128+(c.toNat:Int)%128=N
 have hN0:0≤N:=by omega
 have hN1:N<1125899906842624:=by omega
 have hor:IntKind.i64.wrap ((BitVec.ofInt IntKind.i64.bits (n*128)|||BitVec.ofInt IntKind.i64.bits ((c.toNat:Int)%128)).toNat:Int)=N:=by rw[ng c hn0 (by omega),hN]
 by_cases h1:1099511627776≤N
 ·rw[if_pos h1]
  have h1':decide (1099511627776≤N)=true:=by simpa using h1
  simp only[cS,OR.mv]
  unfold jp
  generalize(if i=0 then 1 else 0)=a at ha ⊢
  obtain⟨b',hb'⟩:∃b',b'=m83b0:=⟨_,rfl⟩
  rw[ah,show Item.lp m83k0 m83b0=Item.lp m83k0 b' by rw[hb']]
  apply ae;intro rhs hrhs
  simp(maxSteps:=4000000)(disch:=first|exact dz|fail)only[bB.u,seval,cut,m83b0,jV,hlt,hg,gg,gh,hor,h1']
  subst hrhs;rfl
 rw[if_neg h1]
 have h1':decide (1099511627776≤N)=false:=by simpa using h1
 by_cases h2:128≤c.toNat
 ·rw[if_pos h2]
  have h2':decide (128≤(c.toNat:Int))=true:=by simp;omega
  refine⟨by simp only;exact⟨by omega,by omega,by omega⟩,?_⟩
  simp only
  unfold jp
  rw[if_neg (Nat.succ_ne_zero i),e9]
  rcases(show(if i=0 then 1 else 0)=1∨(if i=0 then 1 else 0)=0 by split<;>simp)with h|h<;>rw[h]
  all_goals(
  obtain⟨b',hb'⟩:∃b',b'=m83b0:=⟨_,rfl⟩
  rw[ah,show Item.lp m83k0 m83b0=Item.lp m83k0 b' by rw[hb']]
  apply ae;intro rhs hrhs
  simp(maxSteps:=4000000)(disch:=first|exact dz|fail)only[bB.u,seval,cut,m83b0,jV,hlt,hg,gg,gh,hor,h1',h2']
  subst hrhs;(subst hb';refine(congrArg (am _) (aA Q _ _ _ _)).trans ?_;exact congrArg (am jV) (af (canon_cong kr kr kr))))
 rw[if_neg h2]
 have h2':decide (128≤(c.toNat:Int))=false:=by simp;omega
 by_cases h3:ps=[]
 ·subst h3
  rw[if_pos rfl]
  have hmm:(if(2:Int)<N/40 then(2:Int)else N/40)=min (N/40) 2:=by omega
  have k1:=kM (min (N/40) 2)
  have k2:=kM (N-40*min (N/40) 2)
  refine⟨by simp;omega,?_⟩
  simp only
  unfold jp
  rw[if_neg (Nat.succ_ne_zero i),e9]
  generalize(if i=0 then 1 else 0)=a at ha ⊢
  generalize hM:min (N/40) 2=M at *
  have hM0:0≤M∧M≤2∧40*M≤N:=by omega
  obtain⟨b',hb'⟩:∃b',b'=m83b0:=⟨_,rfl⟩
  rw[ah,show Item.lp m83k0 m83b0=Item.lp m83k0 b' by rw[hb']]
  apply ae;intro rhs hrhs
  simp(maxSteps:=4000000)(disch:=first|exact dz|fail)only[bB.u,seval,cut,m83b0,jV,hlt,hg,gg,gh,hor,h1',h2',hmm,k1,k2,foldMM,minmaxV]
  subst hrhs;(subst hb';refine(congrArg (am _) (aA Q _ _ _ _)).trans ?_;exact congrArg (am jV) (af (canon_cong kr kr kr)))
 ·rw[if_neg h3]
  have h3':((ps.length:Int)==0)=false:=by
   cases ps with
   |nil=>exact absurd rfl h3
   |cons x r=>rw[beq_eq_false_iff_ne,List.length_cons];omega
  have k2:=kM N
  refine⟨by simp;omega,?_⟩
  simp only[List.map_append,List.map_cons,List.map_nil,List.length_append,List.length_cons,List.length_nil,Nat.zero_add]
  unfold jp
  simp only[List.map_append,List.map_cons,List.map_nil,List.length_append,List.length_cons,List.length_nil,Nat.zero_add]
  rw[if_neg (Nat.succ_ne_zero i),e9]
  generalize(if i=0 then 1 else 0)=a at ha ⊢
  generalize hml2:ps.map MV.str=pl at hml ⊢
  obtain⟨b',hb'⟩:∃b',b'=m83b0:=⟨_,rfl⟩
  rw[ah,show Item.lp m83k0 m83b0=Item.lp m83k0 b' by rw[hb']]
  apply ae;intro rhs hrhs
  simp(maxSteps:=4000000)(disch:=first|exact dz|fail)only[bB.u,seval,cut,m83b0,jV,hlt,hg,gg,gh,hor,h1',h2',h3',k2,hml]
  subst hrhs;(subst hb';refine(congrArg (am _) (aA Q _ _ _ _)).trans ?_;exact congrArg (am jV) (af (canon_cong kr kr kr)))
theorem Fc (ps:List (List UInt8)) (h1:(Lib.join ps [46]).length≤140737488355328) (h2:ps.length≤140737488355328):Call Q 117 [.sl 1 (ps.map .str),.str [46]]=some (.str (Lib.join ps [46])):=by
 rw[bJ Q (g:=tZ) rfl]
 have hs:∀ps:List (List UInt8),strs (ps.map .str)=some ps:=by
  intro ps
  induction ps with
  |nil=>rfl
  |cons p r ih=>
   show(strs (r.map .str)).map (p:: ·)=_
   rw[ih];rfl
 show(match strs (ps.map .str)with|some xs=>if(Lib.join xs [46]).length≤140737488355328∧xs.length≤140737488355328 then some (MV.str (Lib.join xs [46]))else none|none=>none)=_
 rw[hs]
 exact if_pos ⟨h1,h2⟩
theorem vO:∀(b:List UInt8) (s s':List (List UInt8) × Int),(∀p∈s.1,p.length≤21)→aG gO s b= .inl s'→∀p∈s'.1,p.length≤21
 | [],s,s',h,hf=>by cases hf;exact h
 |c::r,s,s',h,hf=>by
  rw[bw]at hf
  cases hg:gO s c with
  |inr u=>rw[hg]at hf;cases hf
  |inl s1=>
   rw[hg]at hf
   refine vO r s1 s' ?_ hf
   unfold gO at hg
   split at hg
   ·cases hg
   ·split at hg
    ·cases hg;exact h
    ·split at hg
     ·cases hg
      intro p hp
      simp only[List.mem_cons,List.not_mem_nil,or_false]at hp
      rcases hp with rfl|rfl<;>exact mX _
     ·cases hg
      intro p hp
      simp only[List.mem_append,List.mem_singleton]at hp
      rcases hp with hp|rfl
      ·exact h p hp
      ·exact mX _
theorem yV (ps:List (List UInt8)) (h:∀p∈ps,p.length≤21):(Lib.join ps [46]).length≤22*ps.length:=by
 cases ps with
 |nil=>simp[Lib.join_nil]
 |cons x r=>
  rw[Lib.join_length]
  have:∀l:List (List UInt8),(∀p∈l,p.length≤21)→Lib.lens l≤21*l.length:=by
   intro l
   induction l with
   |nil=>intro _;simp[Lib.lens]
   |cons y l ih=>
    intro h
    have h1:=h y (by simp)
    have h2:=ih fun p hp=>h p (by simp[hp])
    simp only[Lib.lens,List.map_cons,List.sum_cons,List.length_cons]at h2 ⊢
    omega
  have:=this _ h
  simp only[List.length_cons,List.length_nil]at this ⊢
  omega
def nn:MCode:=(.seq (sq [qa 66 6,qj 67 66,qC 68 .gtr 67 20] (.cond (.v 68) (sq [oV 2 (.mv (.c (.str []))),ql 3] .ret) .skip)) (sq [qa 69 6,oT 70 (.call 117 [.t 69,.c (.str [46])]),qb 2 70,qm 3] .ret))
theorem o_end (b:List UInt8) (ps:List (List UInt8)) (n:Int) (hp:∀p∈ps,p.length≤21) (hl:ps.length≤2^31):am jV (RunL Q m83k0 m83b0 [.blk 0,.code nn] (jp b (if b.length=0 then 1 else 0) ps n b.length))=some (OR.mv (if 20<ps.length then .no else .ok (Lib.join ps [46]))):=by
 have hlt:decide ((b.length:Int)<(b.length:Int))=false:=by simp
 have hml:(ps.map MV.str).length=ps.length:=by simp
 have hjl:=yV ps hp
 unfold jp
 have ha:(if b.length=0 then 1 else 0)≤1:=by split<;>omega
 generalize(if b.length=0 then 1 else 0)=a at ha ⊢
 by_cases h:20<ps.length
 ·rw[if_pos h]
  have h':decide (20<(ps.length:Int))=true:=by simp;omega
  simp only[OR.mv]
  obtain⟨b',hb'⟩:∃b',b'=m83b0:=⟨_,rfl⟩
  rw[ah,show Item.lp m83k0 m83b0=Item.lp m83k0 b' by rw[hb']]
  apply ae;intro rhs hrhs
  simp(maxSteps:=4000000)(disch:=first|exact dz|fail)only[bB.u,seval,cut,m83b0,jV,nn,hlt,hml,h']
  subst hrhs;rfl
 ·rw[if_neg h]
  have h':decide (20<(ps.length:Int))=false:=by simp;omega
  have hj:=Fc ps (by omega) (by omega)
  simp only[OR.mv]
  obtain⟨b',hb'⟩:∃b',b'=m83b0:=⟨_,rfl⟩
  rw[ah,show Item.lp m83k0 m83b0=Item.lp m83k0 b' by rw[hb']]
  apply ae;intro rhs hrhs
  simp(maxSteps:=4000000)(disch:=first|exact dz|fail)only[bB.u,seval,cut,m83b0,jV,nn,hlt,hml,h',hj]
  subst hrhs;rfl
theorem iR {d:Nat} {c t:Int} {m:Bool} {b:List UInt8} {ks:List T} (h:(wr d (.mk c t m b ks)).1=0):d≤16∧bT c t=false∧aR c t m b=0∧(m=true→b=[])∧(m=false→ks=[])∧(aP (d+1) ks).1=0∧¬(c=0∧t=17∧bP (aP (d+1) ks).2=false):=by
 rw[wr,gc]at h
 by_cases h1:16<d
 ·rw[if_pos h1]at h;cases h
 rw[if_neg h1]at h
 by_cases h2:bT c t=true
 ·rw[if_pos h2]at h;cases h
 rw[if_neg h2]at h
 by_cases h3:aR c t m b=21
 ·rw[if_pos h3]at h;cases h
 rw[if_neg h3]at h
 by_cases h4:aR c t m b≠0∨(m=true∧b≠[])∨(m=false∧(!ks.isEmpty)=true)
 ·rw[if_pos h4]at h;cases h
 rw[if_neg h4]at h
 by_cases h5:(aP (d+1) ks).1=0
 rotate_left
 ·rw[if_pos h5]at h;exact absurd h h5
 rw[if_neg (by simpa using h5)]at h
 by_cases h6:c=0∧t=17∧bP (aP (d+1) ks).2=false
 ·rw[if_pos h6]at h;cases h
 refine⟨by omega,by simpa using h2,Decidable.not_not.1 fun h=>h4 (.inl h),fun hm=>Decidable.not_not.1 fun h=>h4 (.inr (.inl ⟨hm,h⟩)),fun hm=>?_,h5,h6⟩
 cases ks with
 |nil=>rfl
 |cons x y=>exact absurd (.inr (.inr ⟨hm,rfl⟩)) h4
theorem fK {t:T} (h:(wrW t).1=0):(wr 0 t).1=0∧(wrW t).2=(wr 0 t).2∧(wr 0 t).2.length≤65536:=by
 unfold wrW at h ⊢
 by_cases h1:(wr 0 t).1=0
 rotate_left
 ·rw[if_pos h1]at h;exact absurd h h1
 rw[if_neg (by simpa using h1)]at h ⊢
 by_cases h2:65536<(wr 0 t).2.length
 ·rw[if_pos h2]at h;cases h
 rw[if_neg h2]
 exact⟨h1,rfl,by omega⟩
theorem IH (v:MV) (t:T) (hv:Rv v t) (hl:low t) (hs:sz t≤2^29):Call Q 83 [v]=some (iJ t).mv:=by
 have hw:=iZ v t hv hl (by omega)
 cases hv with
 | @mk _ c tg m w k b ks hb hk=>
 rw[sz]at hs
 rw[iJ]
 by_cases h:(wrW (.mk c tg m b ks)).1≠0∨c≠0∨tg≠6
 ·rw[if_pos h]
  simp only[OR.mv]
  generalize wrW (.mk c tg m b ks)=W at hw h
  obtain⟨e,bs⟩:=W
  simp only at hw h
  rw[Call_fn Q (m:=m83) rfl rfl]
  cases hb<;>cases hk
  all_goals(
  apply ae;intro rhs hrhs
  simp(maxSteps:=4000000)(disch:=first|exact dz|fail)only[bB.u,seval,cut,m83,hw]
  repeat'((with_reducible first|refine sp ?_ ?_|fail)<;>intro hx<;>(try simp only[bI.u]at hx)<;>(first|exact xz|(try simp(maxSteps:=4000000)(disch:=first|exact dz|fail)only[bB.u,seval,cut,hx,m83,hw])))
  all_goals first|exact xz|(subst hrhs;rfl))
 rw[if_neg h]
 have h1:(wrW (.mk c tg m b ks)).1=0:=Decidable.not_not.1 fun x=>h (.inl x)
 have h2:c=0:=Decidable.not_not.1 fun x=>h (.inr (.inl x))
 have h3:tg=6:=Decidable.not_not.1 fun x=>h (.inr (.inr x))
 subst h2;subst h3
 have hne:b≠[]:=by
  rintro rfl
  have:=(iR (fK h1).1).2.2.1
  cases m<;>exact absurd this (by decide)
 rw[h1]at hw
 generalize(wrW (.mk 0 6 m b ks)).2=bs at hw
 have loop:am jV (RunL Q m83k0 m83b0 [.blk 0,.code nn] (jp b 1 [] 0 0))=some (rO b).mv:=by
  refine gC b gO (fun s i=>am jV (RunL Q m83k0 m83b0 [.blk 0,.code nn] (jp b (if i=0 then 1 else 0) s.1 s.2 i))) (fun _=>some OR.no.mv) (fun s i=>s.1.length≤2*i∧0≤s.2∧s.2<1099511627776)
   (fun s i c hI hg=>o_step b (by omega) _ s i c hI hg) ([],0) ⟨by simp,by simp,by simp⟩ rfl ?_ ?_
  ·intro s hf hI
   have hp:=vO b ([],0) s (by simp) hf
   have hE:rO b=if 20<s.1.length then .no else .ok (Lib.join s.1 [46]):=by unfold rO;rw[hf]
   rw[hE]
   have he:=o_end b s.1 s.2 hp (by omega)
   exact he
  ·intro u hf
   unfold rO;rw[hf]
 unfold jp at loop
 rw[Call_fn Q (m:=m83) rfl rfl]
 cases hb
 rotate_left
 ·exact absurd rfl hne
 cases hk
 all_goals(
  apply ae;intro rhs hrhs
  simp(maxSteps:=4000000)(disch:=first|exact dz|fail)only[bB.u,seval,cut,m83,aq,hw]
  repeat'((with_reducible first|refine sp ?_ ?_|fail)<;>intro hx<;>(try simp only[bI.u]at hx)<;>(first|exact xz|(try simp(maxSteps:=4000000)(disch:=first|exact dz|fail)only[bB.u,seval,cut,hx,m83,aq,hw])))
  all_goals first|exact xz|(subst hrhs;exact(congrArg (am _) (af (canon_cong kr kr kr))).trans loop))
end Go.Mini.Nm

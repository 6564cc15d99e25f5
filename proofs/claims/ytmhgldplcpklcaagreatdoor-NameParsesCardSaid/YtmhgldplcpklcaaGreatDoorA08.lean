/- any value's DN and any DN's value are the document's: the law by that interpreter (part 8): what the program's functions answer, or plain laws of it; no conditions. -/
import Derived.Test.YtmhgldplcpklcaaGreatDoorA07
set_option linter.all false
namespace Go.Mini.Nm
open Go Go.Mini Go.Proofs.YtmhgldplcpklcaaGreatDoor
set_option maxRecDepth 100000
set_option maxHeartbeats 4000000
def zero5:List MV:=[.int .i64 0,.int .i64 0,.bool false,.nilsl,.nilsl]
def numP (p:List UInt8):Option Int:=match Lib.atoiAll p with
 | .ok n=>if 0≤n∧n<1099511627776∧itoaL n=p then some n else none
 |_=>none
def numsP:List (List UInt8)→Option (List Int)
 | []=>some []
 |p::r=>match numP p,numsP r with
  |some n,some l=>some (n::l)
  |_,_=>none
def part (n d:Int):List UInt8:=if 0<n/d then [UInt8.ofNat (n/d%128).toNat|||128]else []
def encD (n:Int):List Int→List UInt8
 | []=>[UInt8.ofNat (n%128).toNat]
 |d::r=>part n d++encD n r
def enc (n:Int):List UInt8:=encD n [34359738368,268435456,2097152,16384,128]
def encs (l:List Int):List UInt8:=l.flatMap enc
def oidN (l:List Int):Option (List UInt8):=match l with
 |n0::n1::r=>if 2<n0∨n0<2∧39<n1∨n0=2∧1099511627776≤n1+80 then none else some (encs ((n1+40*n0)::r))
 |_=>none
def oidS (s:List UInt8):Option (List UInt8):=
 let ps:=Lib.splitK [46] 0 (Lib.count s [46]) s
 if ps.length<2∨20<ps.length then none else match numsP ps with
  |some l=>oidN l
  |none=>none
theorem canon_cong {keep:List (Nat × KMode)} {st:DS} {V:List (Nat × MV)} {O:List (Nat × Obj)} {nx:Nat} (h1:(canon keep st).V=V) (h2:(canon keep st).O=O) (h3:(canon keep st).nx=nx):canon keep st=⟨V,[],O,nx⟩:=by
 subst h1;subst h2;subst h3;rfl
def ints (l:List Int):List MV:=l.map fun n=>.int .i64 n
theorem ints_length (l:List Int):(ints l).length=l.length:=by simp[ints]
def V53 (a:Nat) (ps:List (List UInt8)) (l:List Int) (i:Int):List (Nat × MV):=[(2,.ptr 0 0),(5,.own a l.length),(26,.sl 1 (ps.map .str)),(27,.int .i64 (ps.length:Int)),(28,.int .i64 i)]
def O53 (a:Nat) (l:List Int):List (Nat × Obj):=[(0,.cells zero5),(a,.el 1 (ints l) false)]
def R53:List (Nat × Option (Bool × Nat) × PK):=[(2,some (true,5),.other),(3,none,.other)]
def bad53:MV:=.tup [.agg zero5,.bool false]
theorem Vapp (ps:List (List UInt8)) (l:List Int) (n i:Int):[(2,MV.ptr 0 0),(5,.own 1 (l.length+1)),(26,.sl 1 (ps.map .str)),(27,.int .i64 (ps.length:Int)),(28,.int .i64 i)]=V53 1 ps (l++[n]) i:=by simp[V53]
theorem Oapp (l:List Int) (n:Int):[(0,Obj.cells zero5),(1,.el 1 (ints l++[.int .i64 n]) false)]=O53 1 (l++[n]):=by simp[O53,ints]
theorem numP_itoa {p:List UInt8} {n:Int} (h:numP p=some n):0≤n∧n<1099511627776:=by
 unfold numP at h
 split at h
 ·split at h
  ·rename_i hc;cases h;exact⟨hc.1,hc.2.1⟩
  ·cases h
 ·cases h
theorem atoi_ok {p:List UInt8} {n:Int} (hp:p.length<1000000) (h:Lib.atoiAll p= .ok n) (h0: -9223372036854775808≤n∧n≤9223372036854775807):Call Q 36 [.str p]=some (.tup [.int .i64 n,.nilif]):=by
 rw[Call_prim Q (g:=pAtoi) rfl]
 simp only[pAtoi,h]
 rw[if_pos (by omega),if_pos h0]
theorem atoi_no {p:List UInt8} (hp:p.length<1000000) (h:∀n,Lib.atoiAll p≠ .ok n):∃n,Call Q 36 [.str p]=some (.tup [.int .i64 n,.iface atoiErr (.cptr [])]):=by
 rw[Call_prim Q (g:=pAtoi) rfl]
 simp only[pAtoi]
 rw[if_pos (by omega)]
 cases h1:Lib.atoiAll p with
 |ok n=>exact(h n h1).elim
 |range=>exact⟨_,rfl⟩
 |_=>exact⟨_,rfl⟩
theorem itoa_ok (n:Int):Call Q 34 [.int .i64 n]=some (.str (itoaL n)):=Call_prim Q (g:=pItoa) rfl
theorem c53_step (a:Nat) (ha:a=1∨a=2) (ps:List (List UInt8)) (l:List Int) (i:Int) (h0:0≤i) (hi:i<ps.length) (hps:ps.length≤20) (hl:l.length≤20) (p:List UInt8) (hp:ps[i.toNat]? = some p) (hpl:p.length<1000000) (K:List Item):
  fin R53 (RunL Q m28k0 m28b0 (.blk 0::K) ⟨V53 a ps l i,[],O53 a l,3⟩)=match numP p with
   |some n=>fin R53 (RunL Q m28k0 m28b0 (.blk 0::K) ⟨V53 1 ps (l++[n]) (i+1),[],O53 1 (l++[n]),3⟩)
   |none=>some bad53:=by
 have hlt:decide (i<(ps.length:Int))=true:=by simp;omega
 have hlen:((ps.map MV.str).length:Int)=(ps.length:Int):=by simp
 have hget:(ps.map MV.str)[i.toNat]? = some (.str p):=by rw[List.getElem?_map,hp];rfl
 have hil:=ints_length l
 have step:∀(b':MCode) (n:Int) (V:List (Nat × MV)) (O:List (Nat × Obj)) (nx:Nat),b'=m28b0→canon m28k0 ⟨V,[],O,nx⟩=⟨V53 1 ps (l++[n]) (i+1),[],O53 1 (l++[n]),3⟩ →
   fin R53 (Run Q (.lp m28k0 b':: .blk 0::K) ⟨V,[],O,nx⟩)=fin R53 (RunL Q m28k0 m28b0 (.blk 0::K) ⟨V53 1 ps (l++[n]) (i+1),[],O53 1 (l++[n]),3⟩):=by
  intro b' n V O nx hb hc
  subst hb
  rw[Run_lp,hc]
 obtain⟨b',hb'⟩:∃b',b'=m28b0:=⟨_,rfl⟩
 rw[RunL_eq,show Item.lp m28k0 m28b0=Item.lp m28k0 b' by rw[hb']]
 have hcap:(l.length+1)*8≤2^47:=by omega
 by_cases hok:∃n,Lib.atoiAll p= .ok n
 ·obtain⟨n,hn⟩:=hok
  have hz:=atoi_ok hpl hn (Lib.atoiAll_bounds hn)
  have hi2:=itoa_ok n
  have numeq:numP p=if 0≤n∧n<1099511627776∧itoaL n=p then some n else none:=by simp only[numP,hn]
  by_cases c1:n<0
  ·have d1:decide (n<0)=true:=by simp;omega
   rw[numeq,if_neg (by omega)]
   rcases ha with rfl|rfl<;>
   simp(maxSteps:=4000000)(disch:=first|exact dz|fail)only[bB.u,seval,cut,m28b0,V53,O53,R53,bad53,hlt,hlen,hget,h0,hi,zero5,hz,hi2,d1]
  ·have d1:decide (n<0)=false:=by simp;omega
   by_cases c2:1099511627776≤n
   ·have d2:decide (1099511627776≤n)=true:=by simp;omega
    rw[numeq,if_neg (by omega)]
    rcases ha with rfl|rfl<;>
    simp(maxSteps:=4000000)(disch:=first|exact dz|fail)only[bB.u,seval,cut,m28b0,V53,O53,R53,bad53,hlt,hlen,hget,h0,hi,zero5,hz,hi2,d1,d2]
   ·have d2:decide (1099511627776≤n)=false:=by simp;omega
    by_cases c3:itoaL n=p
    ·have d3:(p==p)=true:=by simp
     rw[numeq,if_pos ⟨by omega,by omega,c3⟩]
     show _=fin R53 (RunL Q m28k0 m28b0 (.blk 0::K) ⟨V53 1 ps (l++[n]) (i+1),[],O53 1 (l++[n]),3⟩)
     obtain⟨rhs,hr⟩:∃r,r=fin R53 (RunL Q m28k0 m28b0 (.blk 0::K) ⟨V53 1 ps (l++[n]) (i+1),[],O53 1 (l++[n]),3⟩):=⟨_,rfl⟩
     rw[←hr]
     rcases ha with rfl|rfl<;>
     simp(maxSteps:=4000000)(disch:=first|exact dz|fail)only[bB.u,seval,cut,m28b0,V53,O53,R53,bad53,hlt,hlen,hget,h0,hi,zero5,hz,hi2,d1,d2,c3,hil,hcap,List.set]
     all_goals(rw[hr];exact step b' n _ _ _ hb' (canon_cong (Eq.trans kr (Vapp ps l n (i+1))) (Eq.trans kr (Oapp l n)) kr))
    ·have d3:(itoaL n==p)=false:=by simpa using c3
     rw[numeq,if_neg (fun h=>c3 h.2.2)]
     rcases ha with rfl|rfl<;>
     simp(maxSteps:=4000000)(disch:=first|exact dz|fail)only[bB.u,seval,cut,m28b0,V53,O53,R53,bad53,hlt,hlen,hget,h0,hi,zero5,hz,hi2,d1,d2,d3]
 ·have hnum:numP p=none:=by
   unfold numP
   split
   ·rename_i n hn;exact(hok ⟨n,hn⟩).elim
   ·rfl
  rw[hnum]
  obtain⟨z,hz⟩:=atoi_no hpl (fun n hn=>hok ⟨n,hn⟩)
  rcases ha with rfl|rfl<;>
  simp(maxSteps:=4000000)(disch:=first|exact dz|fail)only[bB.u,seval,cut,m28b0,V53,O53,R53,bad53,hlt,hlen,hget,h0,hi,hz,zero5]
theorem numsP_cons (p:List UInt8) (r:List (List UInt8)):numsP (p::r)=match numP p,numsP r with
  |some n,some l=>some (n::l)
  |_,_=>none:=rfl
theorem c53_nums (ps:List (List UInt8)) (hps:ps.length≤20) (hpl:∀p∈ps,p.length<1000000) (K:List Item):∀(r:List (List UInt8)) (a:Nat) (l:List Int) (i:Nat),(a=1∨a=2)→(a=2→r≠[])→ps.drop i=r→i+r.length=ps.length→l.length=i →
  fin R53 (RunL Q m28k0 m28b0 (.blk 0::K) ⟨V53 a ps l i,[],O53 a l,3⟩)=match numsP r with
   |some ns=>fin R53 (Run Q K ⟨(29,.bool false)::V53 1 ps (l++ns) ps.length,[],O53 1 (l++ns),7⟩)
   |none=>some bad53
 | [],a,l,i,ha,ha2,hd,hi,hl=>by
  obtain rfl:a=1:=by
   rcases ha with h|h
   ·exact h
   ·exact(ha2 h rfl).elim
  have hi':i=ps.length:=by simpa using hi
  subst hi'
  have hlt:decide ((ps.length:Int)<(ps.length:Int))=false:=by simp
  obtain⟨b',hb'⟩:∃b',b'=m28b0:=⟨_,rfl⟩
  show _=fin R53 (Run Q K ⟨(29,.bool false)::V53 1 ps (l++[]) ps.length,[],O53 1 (l++[]),7⟩)
  rw[List.append_nil,RunL_eq,show Item.lp m28k0 m28b0=Item.lp m28k0 b' by rw[hb']]
  simp(maxSteps:=4000000)(disch:=first|exact dz|fail)only[bB.u,seval,cut,m28b0,V53,O53,hlt]
 |p::r,a,l,i,ha,ha2,hd,hi,hl=>by
  simp only[List.length_cons]at hi
  have hlt:i<ps.length:=by omega
  have hp:ps[i]? = some p:=by
   have:=congrArg (·[0]?) hd
   simpa[List.getElem?_drop]using this
  have hd':ps.drop (i+1)=r:=by
   have:=congrArg (List.drop 1) hd
   simpa[List.drop_drop]using this
  rw[c53_step a ha ps l i (by omega) (by omega) hps (by omega) p (by simpa using hp) (hpl p (List.mem_of_getElem? hp)) K,numsP_cons]
  cases hn:numP p with
  |none=>rfl
  |some n=>
   have ih:=c53_nums ps hps hpl K r 1 (l++[n]) (i+1) (.inl rfl) (fun h=>by omega) hd' (by omega) (by simp[hl])
   have e:((i:Int)+1)=((i+1:Nat):Int):=by omega
   rw[e]
   simp only
   rw[ih]
   cases numsP r with
   |none=>rfl
   |some ns=>simp only[List.append_assoc,List.cons_append,List.nil_append]
theorem numsP_length:∀ {r:List (List UInt8)} {ns:List Int},numsP r=some ns→ns.length=r.length∧∀n∈ns,0≤n∧n<1099511627776
 | [],ns,h=>by simp only[numsP,Option.some.injEq]at h;subst h;simp
 |p::r,ns,h=>by
  rw[numsP_cons]at h
  split at h
  ·rename_i n l h1 h2
   cases h
   have⟨a,b⟩:=numsP_length h2
   refine⟨by simp[a],fun m hm=>?_⟩
   rcases List.mem_cons.1 hm with rfl|hm
   ·exact numP_itoa h1
   ·exact b m hm
  ·cases h
theorem shr64 {n b:Int} (h0:0≤b) (h1:b≤63):shiftI .shr .i64 n b=some (.int .i64 (n/2^b.toNat)):=by
 obtain⟨m,rfl⟩:=Int.eq_ofNat_of_zero_le h0
 unfold shiftI
 rw[if_neg (by omega)]
 simp only[Int.toNat_natCast]
 have e:min m IntKind.i64.bits=m:=by show min m 64=m;omega
 rw[e]
 congr 2
 have e2:((2:Int)^m)=((2^m:Nat):Int):=by simp
 rw[e2,Int.fdiv_eq_ediv_of_nonneg _ (Int.natCast_nonneg _)]
theorem and64_127 {x:Int} (h0:0≤x) (h1:x≤9223372036854775807):IntKind.i64.wrap ((BitVec.ofInt IntKind.i64.bits x&&&BitVec.ofInt IntKind.i64.bits 127).toNat:Int)=x%128:=by
 obtain⟨n,rfl⟩:=Int.eq_ofNat_of_zero_le h0
 have e:(BitVec.ofInt IntKind.i64.bits (n:Int)&&&BitVec.ofInt IntKind.i64.bits 127).toNat=n%128:=by
  show(BitVec.ofInt 64 (n:Int)&&&BitVec.ofInt 64 127).toNat=n%128
  rw[BitVec.toNat_and,BitVec.ofInt_natCast,BitVec.toNat_ofNat]
  have:(BitVec.ofInt 64 127).toNat=127:=by decide
  rw[this,Nat.mod_eq_of_lt (by omega),show 127=2^7-1 by decide,Nat.and_two_pow_sub_one_eq_mod]
 rw[e,w64 (by omega) (by omega)]
 omega
theorem or8_128 {m:Int} (h0:0≤m) (h1:m<256):IntKind.u8.wrap ((BitVec.ofInt IntKind.u8.bits m|||BitVec.ofInt IntKind.u8.bits 128).toNat:Int)=((UInt8.ofNat m.toNat|||128).toNat:Int):=by
 obtain⟨n,rfl⟩:=Int.eq_ofNat_of_zero_le h0
 have:=or8 (UInt8.ofNat n) 128
 have e:((UInt8.ofNat n).toNat:Int)=(n:Int):=by rw[UInt8.toNat_ofNat'];omega
 rw[e]at this
 exact this
def V2 (out:List UInt8) (n sh:Int) (tl:List MV) (len i:Int):List (Nat × MV):=[(2,.ptr 0 0),(10,.own 1 out.length),(12,.int .i64 n),(13,.int .i64 sh),(99,.sl 1 tl),(100,.int .i64 len),(101,.int .i64 i)]
def V1 (a:Nat) (out:List UInt8) (tl:List MV) (len i:Int):List (Nat × MV):=[(2,.ptr 0 0),(10,.own a out.length),(99,.sl 1 tl),(100,.int .i64 len),(101,.int .i64 i)]
def OB (a:Nat) (out:List UInt8):List (Nat × Obj):=[(0,.cells zero5),(a,.byt out false)]
theorem stop (out:List UInt8) (n:Int) (tl:List MV) (len i:Int) (K:List Item):RunL Q m28k2 m28b2 (.blk 4::K) ⟨V2 out n (-7) tl len i,[],OB 1 out,3⟩=Run Q K ⟨(106,.bool false)::V2 out n (-7) tl len i,[],OB 1 out,11⟩:=by
 obtain⟨b',hb'⟩:∃b',b'=m28b2:=⟨_,rfl⟩
 rw[RunL_eq,show Item.lp m28k2 m28b2=Item.lp m28k2 b' by rw[hb']]
 simp(maxSteps:=4000000)(disch:=first|exact dz|fail)only[bB.u,seval,cut,m28b2,V2,OB]
theorem e0 (out:List UInt8) (n:Int) (hn:0≤n∧n<9223372036854775807) (ho:out.length<1000) (tl:List MV) (len i:Int) (K:List Item):RunL Q m28k2 m28b2 (.blk 4::K) ⟨V2 out n 0 tl len i,[],OB 1 out,3⟩=Run Q K ⟨(106,.bool false)::V2 (out++encD n []) n (-7) tl len i,[],OB 1 (out++encD n []),11⟩:=by
 obtain⟨rhs,hr⟩:∃r,r=Run Q K ⟨(106,.bool false)::V2 (out++encD n []) n (-7) tl len i,[],OB 1 (out++encD n []),11⟩:=⟨_,rfl⟩
 rw[←hr]
 obtain⟨b',hb'⟩:∃b',b'=m28b2:=⟨_,rfl⟩
 have hcap:out.length+1≤2^47:=by omega
 rw[RunL_eq,show Item.lp m28k2 m28b2=Item.lp m28k2 b' by rw[hb']]
 simp(maxSteps:=4000000)(disch:=first|exact dz|fail)only[bB.u,seval,cut,m28b2,V2,OB,hcap,shr64,Int.ediv_one,Int.reducePow,and64_127]
 subst hb'
 rw[Run_lp,hr]
 have ve:∀b:UInt8,[(2,MV.ptr 0 0),(10,.own 1 (out.length+1)),(12,.int .i64 n),(13,.int .i64 (-7)),(99,.sl 1 tl),(100,.int .i64 len),(101,.int .i64 i)]=V2 (out++[b]) n (-7) tl len i:=fun b=>by simp[V2]
 exact(RunL_canon (canon_cong (Eq.trans kr (ve _)) kr kr)).trans (stop _ n tl len i K)
theorem e1 (out:List UInt8) (n:Int) (hn:0≤n∧n<9223372036854775807) (ho:out.length<999) (tl:List MV) (len i:Int) (K:List Item):RunL Q m28k2 m28b2 (.blk 4::K) ⟨V2 out n 7 tl len i,[],OB 1 out,3⟩=Run Q K ⟨(106,.bool false)::V2 (out++encD n [128]) n (-7) tl len i,[],OB 1 (out++encD n [128]),11⟩:=by
 obtain⟨rhs,hr⟩:∃r,r=Run Q K ⟨(106,.bool false)::V2 (out++encD n [128]) n (-7) tl len i,[],OB 1 (out++encD n [128]),11⟩:=⟨_,rfl⟩
 rw[←hr]
 obtain⟨b',hb'⟩:∃b',b'=m28b2:=⟨_,rfl⟩
 have hcap:out.length+1≤2^47:=by omega
 rw[RunL_eq,show Item.lp m28k2 m28b2=Item.lp m28k2 b' by rw[hb']]
 by_cases hd:0<n/128
 ·have hd':decide (0<n/128)=true:=by simp;omega
  have hp:part n 128=[UInt8.ofNat (n/128%128).toNat|||128]:=if_pos hd
  simp(maxSteps:=4000000)(disch:=first|exact dz|fail)only[bB.u,seval,cut,m28b2,V2,OB,hd',hcap,shr64,Int.ediv_one,Int.reducePow,and64_127,or8_128]
  subst hb'
  rw[Run_lp,hr]
  have ve:∀b:UInt8,[(2,MV.ptr 0 0),(10,.own 1 (out.length+1)),(12,.int .i64 n),(13,.int .i64 0),(99,.sl 1 tl),(100,.int .i64 len),(101,.int .i64 i)]=V2 (out++[b]) n 0 tl len i:=fun b=>by simp[V2]
  have ih:=e0 (out++[UInt8.ofNat (n/128%128).toNat|||128]) n hn (by simp;omega) tl len i K
  rw[show encD n [128]=part n 128++encD n []from rfl,hp,←List.append_assoc]
  exact(RunL_canon (canon_cong (Eq.trans kr (ve _)) kr kr)).trans ih
 ·have hd':decide (0<n/128)=false:=by simp;omega
  have hp:part n 128=[]:=if_neg hd
  simp(maxSteps:=4000000)(disch:=first|exact dz|fail)only[bB.u,seval,cut,m28b2,V2,OB,hd',hcap,shr64,Int.ediv_one,Int.reducePow,and64_127,or8_128]
  subst hb'
  rw[Run_lp,hr]
  have ih:=e0 out n hn (by omega) tl len i K
  rw[show encD n [128]=part n 128++encD n []from rfl,hp,List.nil_append]
  exact(RunL_canon (canon_cong kr kr kr)).trans ih
theorem e2 (out:List UInt8) (n:Int) (hn:0≤n∧n<9223372036854775807) (ho:out.length<998) (tl:List MV) (len i:Int) (K:List Item):RunL Q m28k2 m28b2 (.blk 4::K) ⟨V2 out n 14 tl len i,[],OB 1 out,3⟩=Run Q K ⟨(106,.bool false)::V2 (out++encD n [16384,128]) n (-7) tl len i,[],OB 1 (out++encD n [16384,128]),11⟩:=by
 obtain⟨rhs,hr⟩:∃r,r=Run Q K ⟨(106,.bool false)::V2 (out++encD n [16384,128]) n (-7) tl len i,[],OB 1 (out++encD n [16384,128]),11⟩:=⟨_,rfl⟩
 rw[←hr]
 obtain⟨b',hb'⟩:∃b',b'=m28b2:=⟨_,rfl⟩
 have hcap:out.length+1≤2^47:=by omega
 rw[RunL_eq,show Item.lp m28k2 m28b2=Item.lp m28k2 b' by rw[hb']]
 by_cases hd:0<n/16384
 ·have hd':decide (0<n/16384)=true:=by simp;omega
  have hp:part n 16384=[UInt8.ofNat (n/16384%128).toNat|||128]:=if_pos hd
  simp(maxSteps:=4000000)(disch:=first|exact dz|fail)only[bB.u,seval,cut,m28b2,V2,OB,hd',hcap,shr64,Int.ediv_one,Int.reducePow,and64_127,or8_128]
  subst hb'
  rw[Run_lp,hr]
  have ve:∀b:UInt8,[(2,MV.ptr 0 0),(10,.own 1 (out.length+1)),(12,.int .i64 n),(13,.int .i64 7),(99,.sl 1 tl),(100,.int .i64 len),(101,.int .i64 i)]=V2 (out++[b]) n 7 tl len i:=fun b=>by simp[V2]
  have ih:=e1 (out++[UInt8.ofNat (n/16384%128).toNat|||128]) n hn (by simp;omega) tl len i K
  rw[show encD n [16384,128]=part n 16384++encD n [128]from rfl,hp,←List.append_assoc]
  exact(RunL_canon (canon_cong (Eq.trans kr (ve _)) kr kr)).trans ih
 ·have hd':decide (0<n/16384)=false:=by simp;omega
  have hp:part n 16384=[]:=if_neg hd
  simp(maxSteps:=4000000)(disch:=first|exact dz|fail)only[bB.u,seval,cut,m28b2,V2,OB,hd',hcap,shr64,Int.ediv_one,Int.reducePow,and64_127,or8_128]
  subst hb'
  rw[Run_lp,hr]
  have ih:=e1 out n hn (by omega) tl len i K
  rw[show encD n [16384,128]=part n 16384++encD n [128]from rfl,hp,List.nil_append]
  exact(RunL_canon (canon_cong kr kr kr)).trans ih
theorem e3 (out:List UInt8) (n:Int) (hn:0≤n∧n<9223372036854775807) (ho:out.length<997) (tl:List MV) (len i:Int) (K:List Item):RunL Q m28k2 m28b2 (.blk 4::K) ⟨V2 out n 21 tl len i,[],OB 1 out,3⟩=Run Q K ⟨(106,.bool false)::V2 (out++encD n [2097152,16384,128]) n (-7) tl len i,[],OB 1 (out++encD n [2097152,16384,128]),11⟩:=by
 obtain⟨rhs,hr⟩:∃r,r=Run Q K ⟨(106,.bool false)::V2 (out++encD n [2097152,16384,128]) n (-7) tl len i,[],OB 1 (out++encD n [2097152,16384,128]),11⟩:=⟨_,rfl⟩
 rw[←hr]
 obtain⟨b',hb'⟩:∃b',b'=m28b2:=⟨_,rfl⟩
 have hcap:out.length+1≤2^47:=by omega
 rw[RunL_eq,show Item.lp m28k2 m28b2=Item.lp m28k2 b' by rw[hb']]
 by_cases hd:0<n/2097152
 ·have hd':decide (0<n/2097152)=true:=by simp;omega
  have hp:part n 2097152=[UInt8.ofNat (n/2097152%128).toNat|||128]:=if_pos hd
  simp(maxSteps:=4000000)(disch:=first|exact dz|fail)only[bB.u,seval,cut,m28b2,V2,OB,hd',hcap,shr64,Int.ediv_one,Int.reducePow,and64_127,or8_128]
  subst hb'
  rw[Run_lp,hr]
  have ve:∀b:UInt8,[(2,MV.ptr 0 0),(10,.own 1 (out.length+1)),(12,.int .i64 n),(13,.int .i64 14),(99,.sl 1 tl),(100,.int .i64 len),(101,.int .i64 i)]=V2 (out++[b]) n 14 tl len i:=fun b=>by simp[V2]
  have ih:=e2 (out++[UInt8.ofNat (n/2097152%128).toNat|||128]) n hn (by simp;omega) tl len i K
  rw[show encD n [2097152,16384,128]=part n 2097152++encD n [16384,128]from rfl,hp,←List.append_assoc]
  exact(RunL_canon (canon_cong (Eq.trans kr (ve _)) kr kr)).trans ih
 ·have hd':decide (0<n/2097152)=false:=by simp;omega
  have hp:part n 2097152=[]:=if_neg hd
  simp(maxSteps:=4000000)(disch:=first|exact dz|fail)only[bB.u,seval,cut,m28b2,V2,OB,hd',hcap,shr64,Int.ediv_one,Int.reducePow,and64_127,or8_128]
  subst hb'
  rw[Run_lp,hr]
  have ih:=e2 out n hn (by omega) tl len i K
  rw[show encD n [2097152,16384,128]=part n 2097152++encD n [16384,128]from rfl,hp,List.nil_append]
  exact(RunL_canon (canon_cong kr kr kr)).trans ih
theorem e4 (out:List UInt8) (n:Int) (hn:0≤n∧n<9223372036854775807) (ho:out.length<996) (tl:List MV) (len i:Int) (K:List Item):RunL Q m28k2 m28b2 (.blk 4::K) ⟨V2 out n 28 tl len i,[],OB 1 out,3⟩=Run Q K ⟨(106,.bool false)::V2 (out++encD n [268435456,2097152,16384,128]) n (-7) tl len i,[],OB 1 (out++encD n [268435456,2097152,16384,128]),11⟩:=by
 obtain⟨rhs,hr⟩:∃r,r=Run Q K ⟨(106,.bool false)::V2 (out++encD n [268435456,2097152,16384,128]) n (-7) tl len i,[],OB 1 (out++encD n [268435456,2097152,16384,128]),11⟩:=⟨_,rfl⟩
 rw[←hr]
 obtain⟨b',hb'⟩:∃b',b'=m28b2:=⟨_,rfl⟩
 have hcap:out.length+1≤2^47:=by omega
 rw[RunL_eq,show Item.lp m28k2 m28b2=Item.lp m28k2 b' by rw[hb']]
 by_cases hd:0<n/268435456
 ·have hd':decide (0<n/268435456)=true:=by simp;omega
  have hp:part n 268435456=[UInt8.ofNat (n/268435456%128).toNat|||128]:=if_pos hd
  simp(maxSteps:=4000000)(disch:=first|exact dz|fail)only[bB.u,seval,cut,m28b2,V2,OB,hd',hcap,shr64,Int.ediv_one,Int.reducePow,and64_127,or8_128]
  subst hb'
  rw[Run_lp,hr]
  have ve:∀b:UInt8,[(2,MV.ptr 0 0),(10,.own 1 (out.length+1)),(12,.int .i64 n),(13,.int .i64 21),(99,.sl 1 tl),(100,.int .i64 len),(101,.int .i64 i)]=V2 (out++[b]) n 21 tl len i:=fun b=>by simp[V2]
  have ih:=e3 (out++[UInt8.ofNat (n/268435456%128).toNat|||128]) n hn (by simp;omega) tl len i K
  rw[show encD n [268435456,2097152,16384,128]=part n 268435456++encD n [2097152,16384,128]from rfl,hp,←List.append_assoc]
  exact(RunL_canon (canon_cong (Eq.trans kr (ve _)) kr kr)).trans ih
 ·have hd':decide (0<n/268435456)=false:=by simp;omega
  have hp:part n 268435456=[]:=if_neg hd
  simp(maxSteps:=4000000)(disch:=first|exact dz|fail)only[bB.u,seval,cut,m28b2,V2,OB,hd',hcap,shr64,Int.ediv_one,Int.reducePow,and64_127,or8_128]
  subst hb'
  rw[Run_lp,hr]
  have ih:=e3 out n hn (by omega) tl len i K
  rw[show encD n [268435456,2097152,16384,128]=part n 268435456++encD n [2097152,16384,128]from rfl,hp,List.nil_append]
  exact(RunL_canon (canon_cong kr kr kr)).trans ih
theorem e5 (out:List UInt8) (n:Int) (hn:0≤n∧n<9223372036854775807) (ho:out.length<995) (tl:List MV) (len i:Int) (K:List Item):RunL Q m28k2 m28b2 (.blk 4::K) ⟨V2 out n 35 tl len i,[],OB 1 out,3⟩=Run Q K ⟨(106,.bool false)::V2 (out++encD n [34359738368,268435456,2097152,16384,128]) n (-7) tl len i,[],OB 1 (out++encD n [34359738368,268435456,2097152,16384,128]),11⟩:=by
 obtain⟨rhs,hr⟩:∃r,r=Run Q K ⟨(106,.bool false)::V2 (out++encD n [34359738368,268435456,2097152,16384,128]) n (-7) tl len i,[],OB 1 (out++encD n [34359738368,268435456,2097152,16384,128]),11⟩:=⟨_,rfl⟩
 rw[←hr]
 obtain⟨b',hb'⟩:∃b',b'=m28b2:=⟨_,rfl⟩
 have hcap:out.length+1≤2^47:=by omega
 rw[RunL_eq,show Item.lp m28k2 m28b2=Item.lp m28k2 b' by rw[hb']]
 by_cases hd:0<n/34359738368
 ·have hd':decide (0<n/34359738368)=true:=by simp;omega
  have hp:part n 34359738368=[UInt8.ofNat (n/34359738368%128).toNat|||128]:=if_pos hd
  simp(maxSteps:=4000000)(disch:=first|exact dz|fail)only[bB.u,seval,cut,m28b2,V2,OB,hd',hcap,shr64,Int.ediv_one,Int.reducePow,and64_127,or8_128]
  subst hb'
  rw[Run_lp,hr]
  have ve:∀b:UInt8,[(2,MV.ptr 0 0),(10,.own 1 (out.length+1)),(12,.int .i64 n),(13,.int .i64 28),(99,.sl 1 tl),(100,.int .i64 len),(101,.int .i64 i)]=V2 (out++[b]) n 28 tl len i:=fun b=>by simp[V2]
  have ih:=e4 (out++[UInt8.ofNat (n/34359738368%128).toNat|||128]) n hn (by simp;omega) tl len i K
  rw[show encD n [34359738368,268435456,2097152,16384,128]=part n 34359738368++encD n [268435456,2097152,16384,128]from rfl,hp,←List.append_assoc]
  exact(RunL_canon (canon_cong (Eq.trans kr (ve _)) kr kr)).trans ih
 ·have hd':decide (0<n/34359738368)=false:=by simp;omega
  have hp:part n 34359738368=[]:=if_neg hd
  simp(maxSteps:=4000000)(disch:=first|exact dz|fail)only[bB.u,seval,cut,m28b2,V2,OB,hd',hcap,shr64,Int.ediv_one,Int.reducePow,and64_127,or8_128]
  subst hb'
  rw[Run_lp,hr]
  have ih:=e4 out n hn (by omega) tl len i K
  rw[show encD n [34359738368,268435456,2097152,16384,128]=part n 34359738368++encD n [268435456,2097152,16384,128]from rfl,hp,List.nil_append]
  exact(RunL_canon (canon_cong kr kr kr)).trans ih
theorem enc_len (n:Int):(enc n).length≤6:=by
 unfold enc
 simp only[encD,part]
 repeat' split
 all_goals simp
theorem c53_out1 (a:Nat) (ha:a=1∨a=2) (out:List UInt8) (ho:out.length<200) (tl:List MV) (i:Int) (n:Int) (hn:0≤n∧n<9223372036854775807) (hi:0≤i∧i<tl.length) (hg:tl[i.toNat]? = some (.int .i64 n)) (hl:tl.length<1000) (K:List Item):
  RunL Q m28k1 m28b1 (.blk 2::K) ⟨V1 a out tl tl.length i,[],OB a out,3⟩=RunL Q m28k1 m28b1 (.blk 2::K) ⟨V1 1 (out++enc n) tl tl.length (i+1),[],OB 1 (out++enc n),3⟩:=by
 obtain⟨rhs,hr⟩:∃r,r=RunL Q m28k1 m28b1 (.blk 2::K) ⟨V1 1 (out++enc n) tl tl.length (i+1),[],OB 1 (out++enc n),3⟩:=⟨_,rfl⟩
 rw[←hr]
 obtain⟨b',hb'⟩:∃b',b'=m28b1:=⟨_,rfl⟩
 have hlt:decide (i<(tl.length:Int))=true:=by simp;omega
 have i0:=hi.1
 have i1:=hi.2
 rw[RunL_eq,show Item.lp m28k1 m28b1=Item.lp m28k1 b' by rw[hb']]
 have fin2:∀(V:List (Nat × MV)) (O:List (Nat × Obj)) (nx:Nat) (K':List Item),canon m28k2 ⟨V,[],O,nx⟩=⟨V2 out n 35 tl tl.length i,[],OB 1 out,3⟩ →
   RunL Q m28k2 m28b2 (.blk 4::K') (canon m28k2 ⟨V,[],O,nx⟩)=Run Q K' ⟨(106,.bool false)::V2 (out++enc n) n (-7) tl tl.length i,[],OB 1 (out++enc n),11⟩:=by
  intro V O nx K' hc
  rw[hc]
  exact e5 out n hn (by omega) tl tl.length i K'
 rcases ha with rfl|rfl
 ·simp(maxSteps:=4000000)(disch:=first|exact dz|fail)only[bB.u,seval,cut,m28b1,V1,OB,hlt,i0,i1,hg,Run_loop]
  rw[fin2 _ _ _ _ (canon_cong kr kr kr)]
  simp(maxSteps:=4000000)(disch:=first|exact dz|fail)only[bB.u,seval,cut,V2,OB]
  subst hb'
  rw[Run_lp,hr]
  exact RunL_canon (canon_cong (Eq.trans kr (show [(2,MV.ptr 0 0),(10,.own 1 (out.length+(enc n).length)),(99,.sl 1 tl),(100,.int .i64 tl.length),(101,.int .i64 (i+1))]=V1 1 (out++enc n) tl tl.length (i+1)from by simp[V1])) kr kr)
 ·simp(maxSteps:=4000000)(disch:=first|exact dz|fail)only[bB.u,seval,cut,m28b1,V1,OB,hlt,i0,i1,hg,Run_loop]
  rw[fin2 _ _ _ _ (canon_cong kr kr kr)]
  simp(maxSteps:=4000000)(disch:=first|exact dz|fail)only[bB.u,seval,cut,V2,OB]
  subst hb'
  rw[Run_lp,hr]
  exact RunL_canon (canon_cong (Eq.trans kr (show [(2,MV.ptr 0 0),(10,.own 1 (out.length+(enc n).length)),(99,.sl 1 tl),(100,.int .i64 tl.length),(101,.int .i64 (i+1))]=V1 1 (out++enc n) tl tl.length (i+1)from by simp[V1])) kr kr)
theorem c53_outs (tl:List Int) (htl:tl.length≤20) (hr:∀n∈tl,0≤n∧n<9223372036854775807) (K:List Item):∀(r:List Int) (a:Nat) (out:List UInt8) (i:Nat),(a=1∨a=2)→(a=2→r≠[])→tl.drop i=r→i+r.length=tl.length→out.length≤6*i →
  RunL Q m28k1 m28b1 (.blk 2::K) ⟨V1 a out (ints tl) (ints tl).length i,[],OB a out,3⟩=Run Q K ⟨(102,.bool false)::V1 1 (out++encs r) (ints tl) (ints tl).length (ints tl).length,[],OB 1 (out++encs r),7⟩
 | [],a,out,i,ha,ha2,hd,hi,ho=>by
  obtain rfl:a=1:=by
   rcases ha with h|h
   ·exact h
   ·exact(ha2 h rfl).elim
  have hi':i=tl.length:=by simpa using hi
  have hlt:decide ((i:Int)<((ints tl).length:Int))=false:=by rw[ints_length];simp;omega
  have e:out++encs []=out:=by simp[encs]
  rw[e]
  have hi2:(ints tl).length=i:=by rw[ints_length];omega
  obtain⟨b',hb'⟩:∃b',b'=m28b1:=⟨_,rfl⟩
  obtain⟨rhs,hrr⟩:∃r,r=Run Q K ⟨(102,.bool false)::V1 1 out (ints tl) (ints tl).length (ints tl).length,[],OB 1 out,7⟩:=⟨_,rfl⟩
  rw[←hrr]
  rw[RunL_eq,show Item.lp m28k1 m28b1=Item.lp m28k1 b' by rw[hb']]
  simp(maxSteps:=4000000)(disch:=first|exact dz|fail)only[bB.u,seval,cut,m28b1,V1,OB,hlt]
  rw[hrr]
  unfold V1 OB
  rw[hi2]
 |n::r,a,out,i,ha,ha2,hd,hi,ho=>by
  simp only[List.length_cons]at hi
  have hg:tl[i]? = some n:=by
   have:=congrArg (·[0]?) hd
   simpa[List.getElem?_drop]using this
  have hd':tl.drop (i+1)=r:=by
   have:=congrArg (List.drop 1) hd
   simpa[List.drop_drop]using this
  have hl:=enc_len n
  rw[c53_out1 a ha out (by omega) (ints tl) i n (hr n (List.mem_of_getElem? hg)) (by rw[ints_length];omega) (by simp[ints,List.getElem?_map,hg]) (by rw[ints_length];omega) K]
  have ih:=c53_outs tl htl hr K r 1 (out++enc n) (i+1) (.inl rfl) (fun h=>by omega) hd' (by omega) (by simp;omega)
  have e:((i:Int)+1)=((i+1:Nat):Int):=by omega
  rw[e,ih]
  have e2:out++enc n++encs r=out++encs (n::r):=by simp[encs]
  rw[e2]
theorem split_length (s:List UInt8):∀p∈Lib.splitK [46] 0 (Lib.count s [46]) s,p.length≤s.length:=splitK_len [46] _ s
theorem V1len (x:Int) (r:List Int):[(2,MV.ptr 0 0),(10,.own 2 0),(99,.sl 1 (ints (x::r))),(100,.int .i64 ((r.length+1:Nat):Int)),(101,.int .i64 0)]=V1 2 [] (ints (x::r)) (ints (x::r)).length (0:Nat):=by simp[V1,ints]
def good53 (out:List UInt8):MV:=.tup [.agg [.int .i64 0,.int .i64 6,.bool false,.bs out,.nilsl],.bool true]
def ans53:Option (List UInt8)→MV
 |some out=>good53 out
 |none=>bad53
theorem c53 (s:List UInt8) (hs:s.length<1000000):Call Q 28 [.str s]=some (ans53 (oidS s)):=by
 obtain⟨ps,hps⟩:∃ps,ps=Lib.splitK [46] 0 (Lib.count s [46]) s:=⟨_,rfl⟩
 have hsp:Call Q 53 [.str s,.str [46]]=some (.sl 1 (ps.map .str)):=by
  rw[Call_prim Q (g:=pSplit) rfl,hps]
  simp only[pSplit,List.length_cons,List.length_nil]
  rw[if_pos ⟨by omega,by omega⟩]
 have hpl:∀p∈ps,p.length<1000000:=fun p hp=>by have:=split_length s p (hps▸hp);omega
 unfold oidS
 rw[←hps]
 simp only
 rw[Call_fn Q (m:=m28) rfl rfl]
 by_cases h1:ps.length<2
 ·have d1:decide ((ps.length:Int)<2)=true:=by simp;omega
  rw[if_pos (.inl h1)]
  simp(maxSteps:=4000000)(disch:=first|exact dz|fail)only[bB.u,seval,cut,m28,hsp,d1,List.length_map,bad53,zero5]
  all_goals rfl
 have d1:decide ((ps.length:Int)<2)=false:=by simp;omega
 by_cases h2:20<ps.length
 ·have d2:decide (20<(ps.length:Int))=true:=by simp;omega
  rw[if_pos (.inr h2)]
  simp(maxSteps:=4000000)(disch:=first|exact dz|fail)only[bB.u,seval,cut,m28,hsp,d1,d2,List.length_map,bad53,zero5]
  all_goals rfl
 have d2:decide (20<(ps.length:Int))=false:=by simp;omega
 rw[if_neg (by omega)]
 obtain⟨x,hx⟩:∃x,x=numsP ps:=⟨_,rfl⟩
 rw[←hx]
 simp(maxSteps:=4000000)(disch:=first|exact dz|fail)only[bB.u,seval,cut,m28,hsp,d1,d2,List.length_map,Run_loop]
 refine(congrArg (fin _) (RunL_canon (canon_cong (V:=V53 2 ps [] (0:Nat)) (O:=O53 2 []) (nx:=3) kr kr kr))).trans ?_
 refine(c53_nums ps (by omega) hpl _ ps 2 [] 0 (.inr rfl) (fun _ h=>by rw[h]at h1;simp at h1) rfl (by simp) rfl).trans ?_
 rw[←hx]
 cases x with
 |none=>rfl
 |some ns=>
  have hn:=hx.symm
  obtain⟨hl,hb⟩:=numsP_length hn
  match ns,hl,hb with
  | [],hl,_=>simp at hl;omega
  | [_],hl,_=>simp at hl;omega
  |n0::n1::r,hl,hb=>
   simp only[List.nil_append]
   have b0:=hb n0 (by simp)
   have b1:=hb n1 (by simp)
   have hl':r.length+1+1=ps.length:=by simpa using hl
   have p0:(0:Int)<((r.length+1+1:Nat):Int):=by omega
   have p1:(1:Int)<((r.length+1+1:Nat):Int):=by omega
   have p2:(1:Int)≤((r.length+1+1:Nat):Int):=by omega
   have tk:∀f:Int→MV,List.take r.length (r.map f)=r.map f:=fun f=>by rw[List.take_of_length_le];simp
   have oe:oidN (n0::n1::r)=if 2<n0∨n0<2∧39<n1∨n0=2∧1099511627776≤n1+80 then none else some (encs ((n1+40*n0)::r)):=rfl
   show _=some (ans53 (oidN (n0::n1::r)))
   rw[oe]
   by_cases c1:2<n0
   ·have e1:decide (2<n0)=true:=by simp;omega
    rw[if_pos (.inl c1)]
    simp(maxSteps:=4000000)(disch:=first|exact dz|fail)only[bB.u,seval,cut,V53,O53,R53,ints,zero5,p0,p1,p2,tk,Nat.add_sub_cancel,show r.length+2-1=r.length+1 from rfl,Run_loop,List.length_map,e1]
    all_goals rfl
   have e1:decide (2<n0)=false:=by simp;omega
   have ok:∀out,out=encs ((n1+40*n0)::r)→some (good53 out)=some (ans53 (some (encs ((n1+40*n0)::r)))):=fun out h=>by rw[h];rfl
   have outs:=fun K=>c53_outs ((n1+40*n0)::r) (by simp;omega) (fun n hn=>by
    rcases List.mem_cons.1 hn with rfl|hn
    ·omega
    ·have:=hb n (by simp[hn]);omega) K ((n1+40*n0)::r) 2 [] 0 (.inr rfl) (fun _ h=>by cases h) rfl (by simp) (by simp)
   by_cases c2:n0<2
   ·have e2:decide (n0<2)=true:=by simp;omega
    have e4:(n0==2)=false:=by simp;omega
    by_cases c3:39<n1
    ·have e3:decide (39<n1)=true:=by simp;omega
     rw[if_pos (.inr (.inl ⟨c2,c3⟩))]
     simp(maxSteps:=4000000)(disch:=first|exact dz|fail)only[bB.u,seval,cut,V53,O53,R53,ints,zero5,p0,p1,p2,tk,Nat.add_sub_cancel,show r.length+2-1=r.length+1 from rfl,Run_loop,List.length_map,e1,e2,e3,e4]
     all_goals rfl
    ·have e3:decide (39<n1)=false:=by simp;omega
     rw[if_neg (by omega),←ok _ rfl]
     simp(maxSteps:=4000000)(disch:=first|exact dz|fail)only[bB.u,seval,cut,V53,O53,R53,ints,zero5,p0,p1,p2,tk,Nat.add_sub_cancel,show r.length+2-1=r.length+1 from rfl,Run_loop,List.length_map,e1,e2,e3,e4]
     refine(congrArg (fin _) (RunL_canon (canon_cong (V:=V1 2 [] (ints ((n1+40*n0)::r)) (ints ((n1+40*n0)::r)).length (0:Nat)) (O:=OB 2 []) (nx:=3) (Eq.trans kr (V1len (n1+40*n0) r)) kr kr))).trans ?_
     rw[outs]
     simp(maxSteps:=4000000)(disch:=first|exact dz|fail)only[bB.u,seval,cut,V1,OB,zero5,good53]
   ·have e2:decide (n0<2)=false:=by simp;omega
    obtain rfl:n0=2:=by omega
    by_cases c3:1099511627776≤n1+80
    ·have e3:decide (1099511627776≤n1+80)=true:=by simp;omega
     rw[if_pos (.inr (.inr ⟨rfl,c3⟩))]
     simp(maxSteps:=4000000)(disch:=first|exact dz|fail)only[bB.u,seval,cut,V53,O53,R53,ints,zero5,p0,p1,p2,tk,Nat.add_sub_cancel,show r.length+2-1=r.length+1 from rfl,Run_loop,List.length_map,e1,e2,e3]
     all_goals rfl
    ·have e3:decide (1099511627776≤n1+80)=false:=by simp;omega
     rw[if_neg (by omega),←ok _ rfl]
     simp(maxSteps:=4000000)(disch:=first|exact dz|fail)only[bB.u,seval,cut,V53,O53,R53,ints,zero5,p0,p1,p2,tk,Nat.add_sub_cancel,show r.length+2-1=r.length+1 from rfl,Run_loop,List.length_map,e1,e2,e3]
     refine(congrArg (fin _) (RunL_canon (canon_cong (V:=V1 2 [] (ints ((n1+40*2)::r)) (ints ((n1+40*2)::r)).length (0:Nat)) (O:=OB 2 []) (nx:=3) (Eq.trans kr (V1len (n1+40*2) r)) kr kr))).trans ?_
     rw[outs]
     simp(maxSteps:=4000000)(disch:=first|exact dz|fail)only[bB.u,seval,cut,V1,OB,zero5,good53]
abbrev printB:=prB
theorem c81 (c:UInt8):Call Q 48 [.int .u8 (c.toNat:Int)]=some (.bool (printB c)):=c_prn c
def V47 (s:List UInt8) (n i:Int):List (Nat × MV):=[(0,.str s),(5,.int .i64 n),(6,.int .i64 i)]
def R47:List (Nat × Option (Bool × Nat) × PK):=[(2,none,.other)]
def K47:List Item:=[.blk 0,.code (.seq (.rg [⟨some (.v 2),.mv (.c (.int .i64 19)),none⟩]) .ret)]
theorem c47_loop (s:List UInt8) (hs:s.length<1000000):∀(r:List UInt8) (i:Nat),s.drop i=r→i+r.length=s.length →
  fin R47 (RunL Q m22k0 m22b0 K47 ⟨V47 s s.length i,[],[],1⟩)=some (.int .i64 (if r.all printB then 19 else 12))
 | [],i,hd,hi=>by
  have hi':i=s.length:=by simpa using hi
  subst hi'
  have hlt:decide ((s.length:Int)<(s.length:Int))=false:=by simp
  obtain⟨b',hb'⟩:∃b',b'=m22b0:=⟨_,rfl⟩
  rw[RunL_eq,show Item.lp m22k0 m22b0=Item.lp m22k0 b' by rw[hb']]
  simp(maxSteps:=4000000)(disch:=first|exact dz|fail)only[bB.u,seval,cut,m22b0,V47,R47,K47,hlt]
 |c::r,i,hd,hi=>by
  simp only[List.length_cons]at hi
  have hlt:decide ((i:Int)<(s.length:Int))=true:=by simp;omega
  have i0:(0:Int)≤(i:Int):=by omega
  have i1:(i:Int)<(s.length:Int):=by omega
  have hg:s[i]? = some c:=by
   have:=congrArg (·[0]?) hd
   simpa[List.getElem?_drop]using this
  have hg':s.getD i 0=c:=by rw[List.getD_eq_getElem?_getD,hg];rfl
  have hd':s.drop (i+1)=r:=by
   have:=congrArg (List.drop 1) hd
   simpa[List.drop_drop]using this
  have hc:=c81 c
  have ih:=c47_loop s hs r (i+1) hd' (by omega)
  have e:((i:Int)+1)=((i+1:Nat):Int):=by omega
  obtain⟨b',hb'⟩:∃b',b'=m22b0:=⟨_,rfl⟩
  rw[RunL_eq,show Item.lp m22k0 m22b0=Item.lp m22k0 b' by rw[hb']]
  rw[List.all_cons]
  cases hp:printB c
  ·rw[hp]at hc
   simp(maxSteps:=4000000)(disch:=first|exact dz|fail)only[bB.u,seval,cut,m22b0,V47,R47,K47,hlt,i0,i1,hg',hc]
   all_goals rfl
  ·rw[hp]at hc
   simp(maxSteps:=4000000)(disch:=first|exact dz|fail)only[bB.u,seval,cut,m22b0,V47,R47,K47,hlt,i0,i1,hg',hc]
   subst hb'
   refine((congrArg (fin _) (Run_lp Q _ _ _ _)).trans ?_)
   (try rw[Bool.true_and]);rw[←ih]
   exact congrArg (fin R47) (RunL_canon (canon_cong (Eq.trans kr (show [(0,MV.str s),(5,.int .i64 (s.length:Int)),(6,.int .i64 ((i:Int)+1))]=V47 s s.length (i+1:Nat)from by rw[e];rfl)) kr kr))
theorem c47 (s:List UInt8) (hs:s.length<1000000):Call Q 22 [.str s]=some (.int .i64 (if s.all printB then 19 else 12)):=by
 rw[Call_fn Q (m:=m22) rfl rfl,←c47_loop s hs s 0 rfl (by omega)]
 simp(maxSteps:=4000000)(disch:=first|exact dz|fail)only[bB.u,seval,cut,m22,Run_loop]
 exact congrArg (fin R47) (RunL_canon (canon_cong kr kr kr))
def textB (s:List UInt8):Bool:=decide (1≤s.length)&&decide (s.length≤64)&&Lib.validD s
theorem c46 (s:List UInt8) (hs:s.length<1000000):Call Q 21 [.str s]=some (.bool (textB s)):=by
 have hv:Call Q 47 [.str s]=some (.bool (Lib.validD s)):=by
  rw[Call_prim Q (g:=pValid) rfl]
  simp only[pValid]
  rw[if_pos (by omega)]
 unfold textB
 rw[Call_fn Q (m:=m21) rfl rfl]
 have e1:decide ((1:Int)≤(s.length:Int))=decide (1≤s.length):=by rw[Bool.eq_iff_iff];simp;omega
 have e2:decide ((s.length:Int)≤64)=decide (s.length≤64):=by rw[Bool.eq_iff_iff];simp;omega
 cases h1:decide (1≤s.length)
 ·simp(maxSteps:=4000000)(disch:=first|exact dz|fail)only[bB.u,seval,cut,m21,e1,e2,h1,hv]
  all_goals rfl
 ·cases h2:decide (s.length≤64)
  ·simp(maxSteps:=4000000)(disch:=first|exact dz|fail)only[bB.u,seval,cut,m21,e1,e2,h1,h2,hv]
   all_goals rfl
  ·simp(maxSteps:=4000000)(disch:=first|exact dz|fail)only[bB.u,seval,cut,m21,e1,e2,h1,h2,hv]
   all_goals rfl
abbrev Dn:=List (List UInt8 × List UInt8)
def attr (a:List UInt8 × List UInt8):MV:=.agg [.str a.1,.str a.2]
def attrs (d:Dn):List MV:=d.map attr
theorem attrs_length (d:Dn):(attrs d).length=d.length:=by simp[attrs]
theorem attrs_get {d:Dn} {i:Nat} {a:List UInt8 × List UInt8} (h:d[i]? = some a):(attrs d)[i]? = some (.agg [.str a.1,.str a.2]):=by
 simp[attrs,h,attr]
theorem c55 (t x:List UInt8) (hx:x.length<1000000):Call Q 30 [.agg [.str t,.str x]]=some (.bool (!textB x)):=by
 have h:=c46 x hx
 rw[Call_fn Q (m:=m30) rfl rfl]
 simp(maxSteps:=4000000)(disch:=first|exact dz|fail)only[bB.u,seval,cut,m30,h]
def badAt:Dn→Int→Int
 | [],_=>-1
 |a::r,i=>if textB a.2 then badAt r (i+1)else i
def R86:List (Nat × Option (Bool × Nat) × PK):=[(4,none,.other)]
def V86 (d:Dn) (n i:Int):List (Nat × MV):=[(0,.sl 2 (attrs d)),(1,.fn 30 []),(7,.int .i64 n),(8,.int .i64 i)]
def K86:List Item:=[.blk 0,.code (.seq (.rg [⟨some (.v 4),.mv (.c (.int .i64 (-1))),none⟩]) .ret)]
def okLens (d:Dn):Prop:=d.length<1000000∧∀a∈d,a.1.length<1000000∧a.2.length<1000000
theorem c86_loop (d:Dn) (hl:okLens d):∀(r:Dn) (i:Nat),d.drop i=r→i+r.length=d.length →
  fin R86 (RunL Q m54k0 m54b0 K86 ⟨V86 d d.length i,[],[],1⟩)=some (.int .i64 (badAt r i))
 | [],i,hd,hi=>by
  have hi':i=d.length:=by simpa using hi
  subst hi'
  have hlt:decide ((d.length:Int)<(d.length:Int))=false:=by simp
  obtain⟨b',hb'⟩:∃b',b'=m54b0:=⟨_,rfl⟩
  rw[RunL_eq,show Item.lp m54k0 m54b0=Item.lp m54k0 b' by rw[hb']]
  simp(maxSteps:=4000000)(disch:=first|exact dz|fail)only[bB.u,seval,cut,m54b0,V86,R86,K86,hlt]
  all_goals rfl
 |a::r,i,hd,hi=>by
  simp only[List.length_cons]at hi
  have hlen:=hl.1
  have hlt:decide ((i:Int)<(d.length:Int))=true:=by simp;omega
  have i0:(0:Int)≤(i:Int):=by omega
  have i1:(i:Int)<(d.length:Int):=by omega
  have hg:d[i]? = some a:=by
   have:=congrArg (·[0]?) hd
   simpa[List.getElem?_drop]using this
  have hg':=attrs_get hg
  have hal:=attrs_length d
  have hd':d.drop (i+1)=r:=by
   have:=congrArg (List.drop 1) hd
   simpa[List.drop_drop]using this
  have hc:=c55 a.1 a.2 (hl.2 a (List.mem_of_getElem? hg)).2
  have ih:=c86_loop d hl r (i+1) hd' (by omega)
  have e:((i:Int)+1)=((i+1:Nat):Int):=by omega
  obtain⟨b',hb'⟩:∃b',b'=m54b0:=⟨_,rfl⟩
  rw[RunL_eq,show Item.lp m54k0 m54b0=Item.lp m54k0 b' by rw[hb']]
  rw[show badAt (a::r) i=if textB a.2 then badAt r (i+1)else i from rfl]
  cases hp:textB a.2
  ·rw[hp]at hc
   simp(maxSteps:=4000000)(disch:=first|exact dz|fail)only[bB.u,seval,cut,m54b0,V86,R86,K86,hlt,i0,i1,hal,hg',hc]
  ·rw[hp]at hc
   obtain⟨rhs,hr⟩:∃x,x=badAt r ((i:Int)+1):=⟨_,rfl⟩
   rw[←hr]
   simp(maxSteps:=4000000)(disch:=first|exact dz|fail)only[bB.u,seval,cut,m54b0,V86,R86,K86,hlt,i0,i1,hal,hg',hc]
   subst hb'
   refine((congrArg (fin _) (Run_lp Q _ _ _ _)).trans ?_)
   rw[hr,e,←ih]
   exact congrArg (fin R86) (RunL_canon (canon_cong (Eq.trans kr (show [(0,MV.sl 2 (attrs d)),(1,.fn 30 []),(7,.int .i64 (d.length:Int)),(8,.int .i64 ((i:Int)+1))]=V86 d d.length (i+1:Nat)from by rw[e];rfl)) kr kr))
theorem c86 (d:Dn) (hl:okLens d):Call Q 54 [.sl 2 (attrs d),.fn 30 []]=some (.int .i64 (badAt d 0)):=by
 have hal:=attrs_length d
 rw[Call_fn Q (m:=m54) rfl rfl,show badAt d 0=badAt d ((0:Nat):Int)from rfl,←c86_loop d hl d 0 rfl (by omega)]
 simp(maxSteps:=4000000)(disch:=first|exact dz|fail)only[bB.u,seval,cut,m54,hal,Run_loop]
 exact congrArg (fin R86) (RunL_canon (canon_cong kr kr kr))
theorem badAt_any:∀(d:Dn) (i:Int),0≤i→decide (0≤badAt d i)=d.any fun a=>!textB a.2
 | [],i,h=>rfl
 |a::r,i,h=>by
  rw[show badAt (a::r) i=if textB a.2 then badAt r (i+1)else i from rfl,List.any_cons]
  cases textB a.2
  ·simp;omega
  ·simpa using badAt_any r (i+1) (by omega)
theorem c54 (d:Dn) (hl:okLens d):Call Q 29 [.sl 2 (attrs d),.fn 30 []]=some (.bool (d.any fun a=>!textB a.2)):=by
 have h:=c86 d hl
 have h2:=badAt_any d 0 (Int.le_refl _)
 rw[Call_fn Q (m:=m29) rfl rfl]
 simp(maxSteps:=4000000)(disch:=first|exact dz|fail)only[bB.u,seval,cut,m29,h,h2]
def R58:List (Nat × Option (Bool × Nat) × PK):=[(4,none,.other)]
def V58 (a b:Dn) (n i:Int):List (Nat × MV):=[(0,.sl 2 (attrs a)),(1,.sl 2 (attrs b)),(12,.int .i64 n),(13,.int .i64 i)]
def K58:List Item:=[.blk 0,.code (.seq (.rg [⟨some (.v 4),.mv (.c (.bool true)),none⟩]) .ret)]
theorem c58_loop (a b:Dn) (hl:a.length<1000000) (hb:b.length=a.length):∀(r q:Dn) (i:Nat),a.drop i=r→b.drop i=q→i+r.length=a.length →
  fin R58 (RunL Q m33k0 m33b0 K58 ⟨V58 a b a.length i,[],[],1⟩)=some (.bool (decide (r=q)))
 | [],q,i,hd,hq,hi=>by
  have hi':i=a.length:=by simpa using hi
  subst hi'
  have hq':q=[]:=by rw[←hq,List.drop_eq_nil_of_le (by omega)]
  subst hq'
  have hlt:decide ((a.length:Int)<(a.length:Int))=false:=by simp
  obtain⟨b',hb'⟩:∃b',b'=m33b0:=⟨_,rfl⟩
  rw[RunL_eq,show Item.lp m33k0 m33b0=Item.lp m33k0 b' by rw[hb']]
  simp(maxSteps:=4000000)(disch:=first|exact dz|fail)only[bB.u,seval,cut,m33b0,V58,R58,K58,hlt]
 |x::r,[],i,hd,hq,hi=>by
  simp only[List.length_cons]at hi
  have:=List.drop_eq_nil_iff.1 hq
  omega
 |x::r,y::q,i,hd,hq,hi=>by
  simp only[List.length_cons]at hi
  have hlt:decide ((i:Int)<(a.length:Int))=true:=by simp;omega
  have i0:(0:Int)≤(i:Int):=by omega
  have i1:(i:Int)<(a.length:Int):=by omega
  have hg:a[i]? = some x:=by
   have:=congrArg (·[0]?) hd
   simpa[List.getElem?_drop]using this
  have hg2:b[i]? = some y:=by
   have:=congrArg (·[0]?) hq
   simpa[List.getElem?_drop]using this
  have ga:=attrs_get hg
  have gb:=attrs_get hg2
  have la:=attrs_length a
  have lb:=(attrs_length b).trans hb
  have hd':a.drop (i+1)=r:=by
   have:=congrArg (List.drop 1) hd
   simpa[List.drop_drop]using this
  have hq':b.drop (i+1)=q:=by
   have:=congrArg (List.drop 1) hq
   simpa[List.drop_drop]using this
  have ih:=c58_loop a b hl hb r q (i+1) hd' hq' (by omega)
  have e:((i:Int)+1)=((i+1:Nat):Int):=by omega
  obtain⟨x1,x2⟩:=x
  obtain⟨y1,y2⟩:=y
  obtain⟨b',hb'⟩:∃b',b'=m33b0:=⟨_,rfl⟩
  rw[RunL_eq,show Item.lp m33k0 m33b0=Item.lp m33k0 b' by rw[hb']]
  cases h1:(x1==y1)
  ·have hne:decide ((x1,x2)::r=(y1,y2)::q)=false:=by
    have:x1≠y1:=by simpa using h1
    simp[this]
   rw[hne]
   simp(maxSteps:=4000000)(disch:=first|exact dz|fail)only[bB.u,seval,cut,m33b0,V58,R58,K58,hlt,i0,i1,la,lb,ga,gb,h1,eqCells]
  ·cases h2:(x2==y2)
   ·have hne:decide ((x1,x2)::r=(y1,y2)::q)=false:=by
     have:x2≠y2:=by simpa using h2
     simp[this]
    rw[hne]
    simp(maxSteps:=4000000)(disch:=first|exact dz|fail)only[bB.u,seval,cut,m33b0,V58,R58,K58,hlt,i0,i1,la,lb,ga,gb,h1,h2,eqCells]
   ·have he:decide ((x1,x2)::r=(y1,y2)::q)=decide (r=q):=by
     have e1:x1=y1:=by simpa using h1
     have e2:x2=y2:=by simpa using h2
     simp[e1,e2]
    rw[he]
    obtain⟨rhs,hr⟩:∃x,x=decide (r=q):=⟨_,rfl⟩
    rw[←hr]
    simp(maxSteps:=4000000)(disch:=first|exact dz|fail)only[bB.u,seval,cut,m33b0,V58,R58,K58,hlt,i0,i1,la,lb,ga,gb,h1,h2,eqCells]
    subst hb'
    refine((congrArg (fin _) (Run_lp Q _ _ _ _)).trans ?_)
    rw[hr,←ih]
    exact congrArg (fin R58) (RunL_canon (canon_cong (Eq.trans kr (show [(0,MV.sl 2 (attrs a)),(1,.sl 2 (attrs b)),(12,.int .i64 (a.length:Int)),(13,.int .i64 ((i:Int)+1))]=V58 a b a.length (i+1:Nat)from by rw[e];rfl)) kr kr))
theorem c24 (a b:Dn) (hl:a.length<1000000) (hl2:b.length<1000000):Call Q 15 [.sl 2 (attrs a),.sl 2 (attrs b)]=some (.bool (decide (a=b))):=by
 have la:=attrs_length a
 have lb:=attrs_length b
 have h58:Call Q 33 [.sl 2 (attrs a),.sl 2 (attrs b)]=some (.bool (decide (a=b))):=by
  rw[Call_fn Q (m:=m33) rfl rfl]
  by_cases hb:b.length=a.length
  ·rw[←c58_loop a b hl hb a b 0 rfl rfl (by omega)]
   simp(maxSteps:=4000000)(disch:=first|exact dz|fail)only[bB.u,seval,cut,m33,la,lb,hb,Run_loop]
   exact congrArg (fin R58) (RunL_canon (canon_cong kr kr kr))
  ·have hne:decide (a=b)=false:=by
    have:a≠b:=fun h=>hb (by rw[h])
    simp[this]
   have hn2:((a.length:Int)==(b.length:Int))=false:=by rw[beq_eq_false_iff_ne];omega
   rw[hne]
   simp(maxSteps:=4000000)(disch:=first|exact dz|fail)only[bB.u,seval,cut,m33,la,lb,hn2]
 rw[Call_fn Q (m:=m15) rfl rfl]
 simp(maxSteps:=4000000)(disch:=first|exact dz|fail)only[bB.u,seval,cut,m15,h58]
def tagOf (s:List UInt8):Int:=if s.all printB then 19 else 12
def oidT (out:List UInt8):T:=.mk 0 6 false out []
def textT (s:List UInt8):T:=.mk 0 (tagOf s) false s []
def kidT (out s:List UInt8):T:=.mk 0 17 true [] [.mk 0 16 true [] [oidT out,textT s]]
def oidV (out:List UInt8):MV:=.agg [.int .i64 0,.int .i64 6,.bool false,.bs out,.nilsl]
def textV (s:List UInt8):MV:=.agg [.int .i64 0,.int .i64 (tagOf s),.bool false,.bs s,.nilsl]
def kidV (out s:List UInt8):MV:=.agg [.int .i64 0,.int .i64 17,.bool true,.nilsl,.sl 5 [.agg [.int .i64 0,.int .i64 16,.bool true,.nilsl,.sl 5 [oidV out,textV s]]]]
theorem mvT_kid (out s:List UInt8):mvT (kidT out s)=kidV out s:=by
 simp[kidT,kidV,oidT,textT,oidV,textV,mvT_eq,mvK,mvTs]
def gDn (ks:List T) (a:List UInt8 × List UInt8):List T ⊕ Unit:=match oidS a.1 with
 |none=>.inr ()
 |some out=>.inl (ks++[kidT out a.2])
def R19:List (Nat × Option (Bool × Nat) × PK):=[(2,some (true,5),.other),(3,none,.other)]
def V19 (d:Dn) (i:Int):List (Nat × MV):=[(0,.sl 2 (attrs d)),(2,.ptr 0 0),(4,.ptr 1 0),(15,.sl 2 (attrs d)),(16,.int .i64 (d.length:Int)),(17,.int .i64 i)]
def O19:List MV→List (Nat × Obj)
 | []=>[(0,.cells zero5L),(1,.cells [.int .i64 0,.int .i64 16,.bool true,.nilsl,.nilsl])]
 |k::ks=>[(0,.cells zero5L),(1,.cells [.int .i64 0,.int .i64 16,.bool true,.nilsl,.own 2 (ks.length+1)]),(2,.el 5 (k::ks) false)]
def nx19:List MV→Nat
 | []=>3
 |_=>4
theorem dn_step (d:Dn) (hd:d.length≤16) (hl:okLens d) (K:List Item) (ks:List T) (i:Nat) (a:List UInt8 × List UInt8) (hk:ks.length=i) (hg:d[i]? = some a):
  After (fun ks i=>ks.length=i) (fun ks i=>fin R19 (RunL Q m10k0 m10b0 K ⟨V19 d (i:Nat),[],O19 (ks.map mvT),nx19 (ks.map mvT)⟩)) (fun _=>some (.tup [.agg zero5L,.int .i64 30]))
   (fin R19 (RunL Q m10k0 m10b0 K ⟨V19 d (i:Nat),[],O19 (ks.map mvT),nx19 (ks.map mvT)⟩)) (i+1) (gDn ks a):=by
 have hi:i<d.length:=(List.getElem?_eq_some_iff.1 hg).1
 have hlt:decide ((i:Int)<(d.length:Int))=true:=by simp;omega
 have i1:(i:Int)<(d.length:Int):=by omega
 have hal:=attrs_length d
 have hg':=attrs_get hg
 have lens:=hl.2 a (List.mem_of_getElem? hg)
 have ho:=c53 a.1 lens.1
 have ht:=c47 a.2 lens.2
 have htag:(if a.2.all printB=true then(19:Int)else 12)=tagOf a.2:=rfl
 rw[htag]at ht
 have e:((i+1:Nat):Int)=(i:Int)+1:=rfl
 unfold gDn
 cases hx:oidS a.1 with
 |none=>
  rw[hx]at ho
  simp only[ans53,bad53,zero5,After]at ho ⊢
  cases ks with
  |nil=>
   simp only[List.map_nil,O19,nx19,V19]
   unfold zero5L
   obtain⟨b',hb'⟩:∃b',b'=m10b0:=⟨_,rfl⟩
   rw[RunL_eq,show Item.lp m10k0 m10b0=Item.lp m10k0 b' by rw[hb']]
   apply hide;intro rhs hrhs
   simp(maxSteps:=4000000)(disch:=first|exact dz|fail)only[bB.u,seval,cut,m10b0,R19,hlt,i1,hal,hg',ho]
   repeat'((with_reducible first|refine sp ?_ ?_|fail)<;>intro hx<;>(try simp only[bI.u]at hx)<;>(first|exact xz|(try simp(maxSteps:=4000000)(disch:=first|exact dz|fail)only[bB.u,seval,cut,hx,m10b0,R19,hlt,i1,hal,hg',ho])))
   all_goals first|exact xz|(subst hrhs;rfl)
  |cons k ks=>
   simp only[List.map_cons,O19,nx19,V19]
   generalize mvT k::ks.map mvT=kl
   generalize(ks.map mvT).length+1=n
   unfold zero5L
   obtain⟨b',hb'⟩:∃b',b'=m10b0:=⟨_,rfl⟩
   rw[RunL_eq,show Item.lp m10k0 m10b0=Item.lp m10k0 b' by rw[hb']]
   apply hide;intro rhs hrhs
   simp(maxSteps:=4000000)(disch:=first|exact dz|fail)only[bB.u,seval,cut,m10b0,R19,hlt,i1,hal,hg',ho]
   repeat'((with_reducible first|refine sp ?_ ?_|fail)<;>intro hx<;>(try simp only[bI.u]at hx)<;>(first|exact xz|(try simp(maxSteps:=4000000)(disch:=first|exact dz|fail)only[bB.u,seval,cut,hx,m10b0,R19,hlt,i1,hal,hg',ho])))
   all_goals first|exact xz|(subst hrhs;rfl)
 |some out=>
  rw[hx]at ho
  simp only[ans53,good53,After]at ho ⊢
  refine⟨by simp[hk],?_⟩
  cases ks with
  |nil=>
   simp only[List.map_nil,List.nil_append,List.map_cons,mvT_kid,O19,nx19,V19,e]
   unfold zero5L
   obtain⟨b',hb'⟩:∃b',b'=m10b0:=⟨_,rfl⟩
   rw[RunL_eq,show Item.lp m10k0 m10b0=Item.lp m10k0 b' by rw[hb']]
   apply hide;intro rhs hrhs
   simp(maxSteps:=4000000)(disch:=first|exact dz|fail)only[bB.u,seval,cut,m10b0,hlt,i1,hal,hg',ho,ht]
   repeat'((with_reducible first|refine sp ?_ ?_|fail)<;>intro hx<;>(try simp only[bI.u]at hx)<;>(first|exact xz|(try simp(maxSteps:=4000000)(disch:=first|exact dz|fail)only[bB.u,seval,cut,hx,m10b0,hlt,i1,hal,hg',ho,ht])))
   all_goals first|exact xz|(subst hrhs;(subst hb';refine(congrArg (fin _) (Run_lp Q _ _ _ _)).trans ?_;exact congrArg (fin R19) (RunL_canon (canon_cong kr kr kr))))
  |cons k ks=>
   simp only[List.length_cons]at hk
   have hml:(ks.map mvT).length=ks.length:=by simp
   have hml2:(ks.map mvT++[kidV out a.2]).length=ks.length+1:=by simp
   simp only[List.map_cons,List.map_append,List.map_nil,List.cons_append,mvT_kid,O19,nx19,V19,e,hml,hml2]
   have hkl:(mvT k::ks.map mvT).length=i:=by simp;omega
   rw[←List.cons_append]
   generalize mvT k::ks.map mvT=kl at hkl ⊢
   rw[hk]
   unfold zero5L
   obtain⟨b',hb'⟩:∃b',b'=m10b0:=⟨_,rfl⟩
   rw[RunL_eq,show Item.lp m10k0 m10b0=Item.lp m10k0 b' by rw[hb']]
   apply hide;intro rhs hrhs
   simp(maxSteps:=4000000)(disch:=first|exact dz|fail)only[bB.u,seval,cut,m10b0,hlt,i1,hal,hg',ho,ht,hkl]
   repeat'((with_reducible first|refine sp ?_ ?_|fail)<;>intro hx<;>(try simp only[bI.u]at hx)<;>(first|exact xz|(try simp(maxSteps:=4000000)(disch:=first|exact dz|fail)only[bB.u,seval,cut,hx,m10b0,hlt,i1,hal,hg',ho,ht,hkl])))
   all_goals first|exact xz|(subst hrhs;(subst hb';refine(congrArg (fin _) (Run_lp Q _ _ _ _)).trans ?_;exact congrArg (fin R19) (RunL_canon (canon_cong kr kr kr))))
def dn_tail:MCode:=(.seq (sq [qa 49 0,oV 50 (.call 29 [.t 49,.c (.fn 30 [])])] (.cond (.v 50) (sq [oT 51 (.build qz0 []),qg 5 2 51,qe 3 31] .ret) .skip)) (sq [qi 52 5 4,qg 5 2 52,qe 3 0] .ret))
inductive VR where
 |er (e:Int)
 |ok (t:T)
def VR.mv:VR→MV
 | .er e=>.tup [.agg zero5L,.int .i64 e]
 | .ok t=>.tup [mvT t,.int .i64 0]
def dnS (d:Dn):VR:=if 16<d.length then .er 30 else match foldE gDn [] d with
 | .inr _=>.er 30
 | .inl ks=>if(d.any fun a=>!textB a.2)=true then .er 31 else .ok (.mk 0 16 true [] ks)
theorem dn_end (d:Dn) (hl:okLens d) (ks:List T) (hk:ks.length=d.length):fin R19 (RunL Q m10k0 m10b0 [.blk 0,.code dn_tail] ⟨V19 d (d.length:Nat),[],O19 (ks.map mvT),nx19 (ks.map mvT)⟩)=some (VR.mv (if(d.any fun a=>!textB a.2)=true then .er 31 else .ok (.mk 0 16 true [] ks))):=by
 have hlt:decide ((d.length:Int)<(d.length:Int))=false:=by simp
 have hc:=c54 d hl
 have hal:=attrs_length d
 cases hb:d.any fun a=>!textB a.2
 ·rw[hb]at hc
  rw[if_neg (by simp)]
  simp only[VR.mv,mvT_eq,if_true]
  cases ks with
  |nil=>
   simp only[List.map_nil,O19,nx19,V19,mvK]
   unfold zero5L
   obtain⟨b',hb'⟩:∃b',b'=m10b0:=⟨_,rfl⟩
   rw[RunL_eq,show Item.lp m10k0 m10b0=Item.lp m10k0 b' by rw[hb']]
   apply hide;intro rhs hrhs
   simp(maxSteps:=4000000)(disch:=first|exact dz|fail)only[bB.u,seval,cut,m10b0,R19,dn_tail,hlt,hal,hc]
   repeat'((with_reducible first|refine sp ?_ ?_|fail)<;>intro hx<;>(try simp only[bI.u]at hx)<;>(first|exact xz|(try simp(maxSteps:=4000000)(disch:=first|exact dz|fail)only[bB.u,seval,cut,hx,m10b0,R19,dn_tail,hlt,hal,hc])))
   all_goals first|exact xz|(subst hrhs;rfl)
  |cons k ks=>
   have hkl:(mvT k::ks.map mvT).length=d.length:=by simpa using hk
   have hke:(ks.map mvT).length+1=d.length:=by simpa using hk
   simp only[List.map_cons,O19,nx19,V19,mvK,mvTs,mvTs_map,hke]
   generalize mvT k::ks.map mvT=kl at hkl ⊢
   unfold zero5L
   obtain⟨b',hb'⟩:∃b',b'=m10b0:=⟨_,rfl⟩
   rw[RunL_eq,show Item.lp m10k0 m10b0=Item.lp m10k0 b' by rw[hb']]
   apply hide;intro rhs hrhs
   simp(maxSteps:=4000000)(disch:=first|exact dz|fail)only[bB.u,seval,cut,m10b0,R19,dn_tail,hlt,hal,hc,hkl]
   repeat'((with_reducible first|refine sp ?_ ?_|fail)<;>intro hx<;>(try simp only[bI.u]at hx)<;>(first|exact xz|(try simp(maxSteps:=4000000)(disch:=first|exact dz|fail)only[bB.u,seval,cut,hx,m10b0,R19,dn_tail,hlt,hal,hc,hkl])))
   all_goals first|exact xz|(subst hrhs;rfl)
 ·rw[hb]at hc
  rw[if_pos rfl]
  simp only[VR.mv]
  cases ks with
  |nil=>
   simp only[List.map_nil,O19,nx19,V19]
   unfold zero5L
   obtain⟨b',hb'⟩:∃b',b'=m10b0:=⟨_,rfl⟩
   rw[RunL_eq,show Item.lp m10k0 m10b0=Item.lp m10k0 b' by rw[hb']]
   apply hide;intro rhs hrhs
   simp(maxSteps:=4000000)(disch:=first|exact dz|fail)only[bB.u,seval,cut,m10b0,R19,dn_tail,hlt,hal,hc]
   repeat'((with_reducible first|refine sp ?_ ?_|fail)<;>intro hx<;>(try simp only[bI.u]at hx)<;>(first|exact xz|(try simp(maxSteps:=4000000)(disch:=first|exact dz|fail)only[bB.u,seval,cut,hx,m10b0,R19,dn_tail,hlt,hal,hc])))
   all_goals first|exact xz|(subst hrhs;rfl)
  |cons k ks=>
   have hkl:(mvT k::ks.map mvT).length=d.length:=by simpa using hk
   have hke:(ks.map mvT).length+1=d.length:=by simpa using hk
   simp only[List.map_cons,O19,nx19,V19,hke]
   generalize mvT k::ks.map mvT=kl at hkl ⊢
   unfold zero5L
   obtain⟨b',hb'⟩:∃b',b'=m10b0:=⟨_,rfl⟩
   rw[RunL_eq,show Item.lp m10k0 m10b0=Item.lp m10k0 b' by rw[hb']]
   apply hide;intro rhs hrhs
   simp(maxSteps:=4000000)(disch:=first|exact dz|fail)only[bB.u,seval,cut,m10b0,R19,dn_tail,hlt,hal,hc,hkl]
   repeat'((with_reducible first|refine sp ?_ ?_|fail)<;>intro hx<;>(try simp only[bI.u]at hx)<;>(first|exact xz|(try simp(maxSteps:=4000000)(disch:=first|exact dz|fail)only[bB.u,seval,cut,hx,m10b0,R19,dn_tail,hlt,hal,hc,hkl])))
   all_goals first|exact xz|(subst hrhs;rfl)
theorem c_DN (d:Dn) (hl:okLens d):Call Q 10 [.sl 2 (attrs d)]=some (dnS d).mv:=by
 have hal:=attrs_length d
 unfold dnS
 by_cases h16:16<d.length
 ·rw[if_pos h16]
  have h16':decide (16<(d.length:Int))=true:=by simp;omega
  simp only[VR.mv]
  unfold zero5L
  rw[Call_fn Q (m:=m10) rfl rfl]
  apply hide;intro rhs hrhs
  simp(maxSteps:=4000000)(disch:=first|exact dz|fail)only[bB.u,seval,cut,m10,hal,h16']
  repeat'((with_reducible first|refine sp ?_ ?_|fail)<;>intro hx<;>(try simp only[bI.u]at hx)<;>(first|exact xz|(try simp(maxSteps:=4000000)(disch:=first|exact dz|fail)only[bB.u,seval,cut,hx,m10,hal,h16'])))
  all_goals first|exact xz|(subst hrhs;rfl)
 rw[if_neg h16]
 have h16':decide (16<(d.length:Int))=false:=by simp;omega
 rw[Call_fn Q (m:=m10) rfl rfl]
 apply hide;intro rhs hrhs
 simp(maxSteps:=4000000)(disch:=first|exact dz|fail)only[bB.u,seval,cut,m10,Run_loop,hal,h16']
 refine loopR d gDn (fun ks i=>fin R19 (RunL Q m10k0 m10b0 [.blk 0,.code dn_tail] ⟨V19 d (i:Nat),[],O19 (ks.map mvT),nx19 (ks.map mvT)⟩)) (fun _=>some (.tup [.agg zero5L,.int .i64 30])) (fun ks i=>ks.length=i)
  (fun ks i a hk hg=>dn_step d (by omega) hl _ ks i a hk hg) [] rfl (congrArg (fin _) (RunL_canon (canon_cong kr kr kr))) ?_ ?_
 ·intro ks hf hk
  rw[hrhs,hf]
  exact dn_end d hl ks hk
 ·intro c hf
  rw[hrhs,hf]
  rfl
def isDir (v:MV) (d:Dn):Prop:=v= .sl 2 (attrs d)∨v= .nilsl∧d=[]
end Go.Mini.Nm
namespace Go.Mini
open Go Go.Proofs.YtmhgldplcpklcaaGreatDoor
set_option maxRecDepth 100000
set_option maxHeartbeats 400000
theorem or64 (s k x:Nat) (hx:x<2^s) (h:2^s*k+x<9223372036854775808):IntKind.i64.wrap ((BitVec.ofInt IntKind.i64.bits ((2^s*k:Nat):Int)|||BitVec.ofInt IntKind.i64.bits (x:Int)).toNat:Int)=((2^s*k+x:Nat):Int):=by
 have e:(BitVec.ofInt IntKind.i64.bits ((2^s*k:Nat):Int)|||BitVec.ofInt IntKind.i64.bits (x:Int)).toNat=2^s*k+x:=by
  show(BitVec.ofInt 64 ((2^s*k:Nat):Int)|||BitVec.ofInt 64 (x:Int)).toNat=2^s*k+x
  rw[BitVec.toNat_or,BitVec.ofInt_natCast,BitVec.ofInt_natCast,BitVec.toNat_ofNat,BitVec.toNat_ofNat,Nat.mod_eq_of_lt (by omega),Nat.mod_eq_of_lt (by omega)]
  exact(Nat.two_pow_add_eq_or_of_lt hx k).symm
 rw[e,w64 (by omega) (by omega)]
theorem shl64_7 {a:Int} (h0:0≤a) (h1:a<1125899906842624):shiftI .shl .i64 a 7=some (.int .i64 (a*128)):=by
 unfold shiftI
 rw[if_neg (by omega)]
 show some (MV.int .i64 (IntKind.i64.wrap (a*128)))=_
 rw[w64 (by omega) (by omega)]
theorem or64_7 {a:Int} (x:UInt8) (h0:0≤a) (h1:a<1125899906842624):IntKind.i64.wrap ((BitVec.ofInt IntKind.i64.bits (a*128)|||BitVec.ofInt IntKind.i64.bits ((x.toNat:Int)%128)).toNat:Int)=a*128+(x.toNat:Int)%128:=by
 obtain⟨k,rfl⟩:=Int.eq_ofNat_of_zero_le h0
 have h:=or64 7 k (x.toNat%128) (by omega) (by omega)
 have e:((2^7*k:Nat):Int)=(k:Int)*128:=by omega
 have e2:((x.toNat%128:Nat):Int)=(x.toNat:Int)%128:=by omega
 rw[e,e2]at h
 rw[h]
 omega
theorem and_127 (x:UInt8):((x&&&127).toNat:Int)=(x.toNat:Int)%128:=by
 rw[UInt8.toNat_and,show(127:UInt8).toNat=2^7-1 from rfl,Nat.and_two_pow_sub_one_eq_mod];omega
end Go.Mini
namespace Go.Mini.Nm
open Go Go.Mini Go.Proofs.YtmhgldplcpklcaaGreatDoor
set_option maxRecDepth 100000
set_option maxHeartbeats 4000000
def gO (s:List (List UInt8) × Int) (c:UInt8):(List (List UInt8) × Int) ⊕ Unit:=
 if 1099511627776≤s.2*128+(c.toNat:Int)%128 then .inr ()
 else if 128≤c.toNat then .inl (s.1,s.2*128+(c.toNat:Int)%128)
 else if s.1=[]then .inl ([itoaL (min ((s.2*128+(c.toNat:Int)%128)/40) 2),itoaL (s.2*128+(c.toNat:Int)%128-40*min ((s.2*128+(c.toNat:Int)%128)/40) 2)],0)
 else .inl (s.1++[itoaL (s.2*128+(c.toNat:Int)%128)],0)
inductive OR where
 |no
 |ok (s:List UInt8)
def OR.mv:OR→MV
 | .no=>.tup [.str [],.bool false]
 | .ok s=>.tup [.str s,.bool true]
def oidG (b:List UInt8):OR:=match foldE gO ([],0) b with
 | .inr _=>.no
 | .inl s=>if 20<s.1.length then .no else .ok (Lib.join s.1 [46])
def oidR:T→OR
 | .mk c t m b ks=>if(wrW (.mk c t m b ks)).1≠0∨c≠0∨t≠6 then .no else oidG b
def R_o:List (Nat × Option (Bool × Nat) × PK):=[(2,none,.other),(3,none,.other)]
def o_st (b:List UInt8) (a:Nat) (ps:List (List UInt8)) (n:Int) (i:Nat):DS:=⟨[(6,.own a ps.length),(7,.int .i64 n),(29,.bs b),(30,.int .i64 b.length),(31,.int .i64 i)],[],[(a,.el 1 (ps.map .str) false)],2⟩
theorem o_step (b:List UInt8) (hb:b.length<2^30) (K:List Item) (s:List (List UInt8) × Int) (i:Nat) (c:UInt8) (hI:s.1.length≤2*i∧0≤s.2∧s.2<1099511627776) (hg:b[i]? = some c):
  After (fun s i=>s.1.length≤2*i∧0≤s.2∧s.2<1099511627776) (fun s i=>fin R_o (RunL Q m16k0 m16b0 K (o_st b (if i=0 then 1 else 0) s.1 s.2 i))) (fun _=>some OR.no.mv)
   (fin R_o (RunL Q m16k0 m16b0 K (o_st b (if i=0 then 1 else 0) s.1 s.2 i))) (i+1) (gO s c):=by
 obtain⟨ps,n⟩:=s
 simp only at hI
 obtain⟨hI,hn0,hn1⟩:=hI
 obtain⟨hi,hxx⟩:=List.getElem?_eq_some_iff.1 hg
 have hlt:decide ((i:Int)<(b.length:Int))=true:=by simp;omega
 have i1:(i:Int)<(b.length:Int):=by omega
 have hc:=c.toNat_lt
 have e9:((i+1:Nat):Int)=(i:Int)+1:=rfl
 have ha:(if i=0 then 1 else 0)≤1:=by split<;>omega
 have hml:(ps.map MV.str).length=ps.length:=by simp
 unfold gO
 simp only
 generalize hN:n*128+(c.toNat:Int)%128=N
 have hN0:0≤N:=by omega
 have hN1:N<1125899906842624:=by omega
 have hor:IntKind.i64.wrap ((BitVec.ofInt IntKind.i64.bits (n*128)|||BitVec.ofInt IntKind.i64.bits ((c.toNat:Int)%128)).toNat:Int)=N:=by rw[or64_7 c hn0 (by omega),hN]
 by_cases h1:1099511627776≤N
 ·rw[if_pos h1]
  have h1':decide (1099511627776≤N)=true:=by simpa using h1
  simp only[After,OR.mv]
  unfold o_st
  generalize(if i=0 then 1 else 0)=a at ha ⊢
  obtain⟨b',hb'⟩:∃b',b'=m16b0:=⟨_,rfl⟩
  rw[RunL_eq,show Item.lp m16k0 m16b0=Item.lp m16k0 b' by rw[hb']]
  apply hide;intro rhs hrhs
  simp(maxSteps:=4000000)(disch:=first|exact dz|fail)only[bB.u,seval,cut,m16b0,R_o,hlt,hg,shl64_7,and_127,hor,h1']
  repeat'((with_reducible first|refine sp ?_ ?_|fail)<;>intro hx<;>(try simp only[bI.u]at hx)<;>(first|exact xz|(try simp(maxSteps:=4000000)(disch:=first|exact dz|fail)only[bB.u,seval,cut,hx,m16b0,R_o,hlt,hg,shl64_7,and_127,hor,h1'])))
  all_goals first|exact xz|(subst hrhs;rfl)
 rw[if_neg h1]
 have h1':decide (1099511627776≤N)=false:=by simpa using h1
 by_cases h2:128≤c.toNat
 ·rw[if_pos h2]
  have h2':decide (128≤(c.toNat:Int))=true:=by simp;omega
  refine⟨by simp only;exact⟨by omega,by omega,by omega⟩,?_⟩
  simp only
  unfold o_st
  rw[if_neg (Nat.succ_ne_zero i),e9]
  rcases(show(if i=0 then 1 else 0)=1∨(if i=0 then 1 else 0)=0 by split<;>simp)with h|h<;>rw[h]
  all_goals(
  obtain⟨b',hb'⟩:∃b',b'=m16b0:=⟨_,rfl⟩
  rw[RunL_eq,show Item.lp m16k0 m16b0=Item.lp m16k0 b' by rw[hb']]
  apply hide;intro rhs hrhs
  simp(maxSteps:=4000000)(disch:=first|exact dz|fail)only[bB.u,seval,cut,m16b0,R_o,hlt,hg,shl64_7,and_127,hor,h1',h2']
  repeat'((with_reducible first|refine sp ?_ ?_|fail)<;>intro hx<;>(try simp only[bI.u]at hx)<;>(first|exact xz|(try simp(maxSteps:=4000000)(disch:=first|exact dz|fail)only[bB.u,seval,cut,hx,m16b0,R_o,hlt,hg,shl64_7,and_127,hor,h1',h2'])))
  all_goals first|exact xz|(subst hrhs;(subst hb';refine(congrArg (fin _) (Run_lp Q _ _ _ _)).trans ?_;exact congrArg (fin R_o) (RunL_canon (canon_cong kr kr kr)))))
 rw[if_neg h2]
 have h2':decide (128≤(c.toNat:Int))=false:=by simp;omega
 by_cases h3:ps=[]
 ·subst h3
  rw[if_pos rfl]
  have hmm:(if(2:Int)<N/40 then(2:Int)else N/40)=min (N/40) 2:=by omega
  have k1:=itoa_ok (min (N/40) 2)
  have k2:=itoa_ok (N-40*min (N/40) 2)
  refine⟨by simp;omega,?_⟩
  simp only
  unfold o_st
  rw[if_neg (Nat.succ_ne_zero i),e9]
  generalize(if i=0 then 1 else 0)=a at ha ⊢
  generalize hM:min (N/40) 2=M at *
  have hM0:0≤M∧M≤2∧40*M≤N:=by omega
  obtain⟨b',hb'⟩:∃b',b'=m16b0:=⟨_,rfl⟩
  rw[RunL_eq,show Item.lp m16k0 m16b0=Item.lp m16k0 b' by rw[hb']]
  apply hide;intro rhs hrhs
  simp(maxSteps:=4000000)(disch:=first|exact dz|fail)only[bB.u,seval,cut,m16b0,R_o,hlt,hg,shl64_7,and_127,hor,h1',h2',hmm,k1,k2,foldMM,minmaxV]
  repeat'((with_reducible first|refine sp ?_ ?_|fail)<;>intro hx<;>(try simp only[bI.u]at hx)<;>(first|exact xz|(try simp(maxSteps:=4000000)(disch:=first|exact dz|fail)only[bB.u,seval,cut,hx,m16b0,R_o,hlt,hg,shl64_7,and_127,hor,h1',h2',hmm,k1,k2,foldMM,minmaxV])))
  all_goals first|exact xz|(subst hrhs;(subst hb';refine(congrArg (fin _) (Run_lp Q _ _ _ _)).trans ?_;exact congrArg (fin R_o) (RunL_canon (canon_cong kr kr kr))))
 ·rw[if_neg h3]
  have h3':((ps.length:Int)==0)=false:=by
   cases ps with
   |nil=>exact absurd rfl h3
   |cons x r=>rw[beq_eq_false_iff_ne,List.length_cons];omega
  have k2:=itoa_ok N
  refine⟨by simp;omega,?_⟩
  simp only[List.map_append,List.map_cons,List.map_nil,List.length_append,List.length_cons,List.length_nil,Nat.zero_add]
  unfold o_st
  simp only[List.map_append,List.map_cons,List.map_nil,List.length_append,List.length_cons,List.length_nil,Nat.zero_add]
  rw[if_neg (Nat.succ_ne_zero i),e9]
  generalize(if i=0 then 1 else 0)=a at ha ⊢
  generalize hml2:ps.map MV.str=pl at hml ⊢
  obtain⟨b',hb'⟩:∃b',b'=m16b0:=⟨_,rfl⟩
  rw[RunL_eq,show Item.lp m16k0 m16b0=Item.lp m16k0 b' by rw[hb']]
  apply hide;intro rhs hrhs
  simp(maxSteps:=4000000)(disch:=first|exact dz|fail)only[bB.u,seval,cut,m16b0,R_o,hlt,hg,shl64_7,and_127,hor,h1',h2',h3',k2,hml]
  repeat'((with_reducible first|refine sp ?_ ?_|fail)<;>intro hx<;>(try simp only[bI.u]at hx)<;>(first|exact xz|(try simp(maxSteps:=4000000)(disch:=first|exact dz|fail)only[bB.u,seval,cut,hx,m16b0,R_o,hlt,hg,shl64_7,and_127,hor,h1',h2',h3',k2,hml])))
  all_goals first|exact xz|(subst hrhs;(subst hb';refine(congrArg (fin _) (Run_lp Q _ _ _ _)).trans ?_;exact congrArg (fin R_o) (RunL_canon (canon_cong kr kr kr))))
theorem c_joinS (ps:List (List UInt8)) (h1:(Lib.join ps [46]).length≤140737488355328) (h2:ps.length≤140737488355328):Call Q 35 [.sl 1 (ps.map .str),.str [46]]=some (.str (Lib.join ps [46])):=by
 rw[Call_prim Q (g:=pJoin) rfl]
 have hs:∀ps:List (List UInt8),strs (ps.map .str)=some ps:=by
  intro ps
  induction ps with
  |nil=>rfl
  |cons p r ih=>
   show(strs (r.map .str)).map (p:: ·)=_
   rw[ih];rfl
 show(match strs (ps.map .str)with|some xs=>if(Lib.join xs [46]).length≤140737488355328∧xs.length≤140737488355328 then some (MV.str (Lib.join xs [46]))else none|none=>none)=_
 rw[hs]
 exact if_pos ⟨h1,h2⟩
theorem gO_small:∀(b:List UInt8) (s s':List (List UInt8) × Int),(∀p∈s.1,p.length≤21)→foldE gO s b= .inl s'→∀p∈s'.1,p.length≤21
 | [],s,s',h,hf=>by cases hf;exact h
 |c::r,s,s',h,hf=>by
  rw[foldE_cons]at hf
  cases hg:gO s c with
  |inr u=>rw[hg]at hf;cases hf
  |inl s1=>
   rw[hg]at hf
   refine gO_small r s1 s' ?_ hf
   unfold gO at hg
   split at hg
   ·cases hg
   ·split at hg
    ·cases hg;exact h
    ·split at hg
     ·cases hg
      intro p hp
      simp only[List.mem_cons,List.not_mem_nil,or_false]at hp
      rcases hp with rfl|rfl<;>exact itoaL_len _
     ·cases hg
      intro p hp
      simp only[List.mem_append,List.mem_singleton]at hp
      rcases hp with hp|rfl
      ·exact h p hp
      ·exact itoaL_len _
theorem join_small (ps:List (List UInt8)) (h:∀p∈ps,p.length≤21):(Lib.join ps [46]).length≤22*ps.length:=by
 cases ps with
 |nil=>simp[Lib.join_nil]
 |cons x r=>
  rw[Lib.join_length]
  have:∀l:List (List UInt8),(∀p∈l,p.length≤21)→Lib.lens l≤21*l.length:=by
   intro l
   induction l with
   |nil=>intro _;simp[Lib.lens]
   |cons y l ih=>
    intro h
    have h1:=h y (by simp)
    have h2:=ih fun p hp=>h p (by simp[hp])
    simp only[Lib.lens,List.map_cons,List.sum_cons,List.length_cons]at h2 ⊢
    omega
  have:=this _ h
  simp only[List.length_cons,List.length_nil]at this ⊢
  omega
def o_tail:MCode:=(.seq (sq [qa 66 6,qj 67 66,qC 68 .gtr 67 20] (.cond (.v 68) (sq [oV 2 (.mv (.c (.str []))),ql 3] .ret) .skip)) (sq [qa 69 6,oT 70 (.call 35 [.t 69,.c (.str [46])]),qb 2 70,qm 3] .ret))
theorem o_end (b:List UInt8) (ps:List (List UInt8)) (n:Int) (hp:∀p∈ps,p.length≤21) (hl:ps.length≤2^31):fin R_o (RunL Q m16k0 m16b0 [.blk 0,.code o_tail] (o_st b (if b.length=0 then 1 else 0) ps n b.length))=some (OR.mv (if 20<ps.length then .no else .ok (Lib.join ps [46]))):=by
 have hlt:decide ((b.length:Int)<(b.length:Int))=false:=by simp
 have hml:(ps.map MV.str).length=ps.length:=by simp
 have hjl:=join_small ps hp
 unfold o_st
 have ha:(if b.length=0 then 1 else 0)≤1:=by split<;>omega
 generalize(if b.length=0 then 1 else 0)=a at ha ⊢
 by_cases h:20<ps.length
 ·rw[if_pos h]
  have h':decide (20<(ps.length:Int))=true:=by simp;omega
  simp only[OR.mv]
  obtain⟨b',hb'⟩:∃b',b'=m16b0:=⟨_,rfl⟩
  rw[RunL_eq,show Item.lp m16k0 m16b0=Item.lp m16k0 b' by rw[hb']]
  apply hide;intro rhs hrhs
  simp(maxSteps:=4000000)(disch:=first|exact dz|fail)only[bB.u,seval,cut,m16b0,R_o,o_tail,hlt,hml,h']
  repeat'((with_reducible first|refine sp ?_ ?_|fail)<;>intro hx<;>(try simp only[bI.u]at hx)<;>(first|exact xz|(try simp(maxSteps:=4000000)(disch:=first|exact dz|fail)only[bB.u,seval,cut,hx,m16b0,R_o,o_tail,hlt,hml,h'])))
  all_goals first|exact xz|(subst hrhs;rfl)
 ·rw[if_neg h]
  have h':decide (20<(ps.length:Int))=false:=by simp;omega
  have hj:=c_joinS ps (by omega) (by omega)
  simp only[OR.mv]
  obtain⟨b',hb'⟩:∃b',b'=m16b0:=⟨_,rfl⟩
  rw[RunL_eq,show Item.lp m16k0 m16b0=Item.lp m16k0 b' by rw[hb']]
  apply hide;intro rhs hrhs
  simp(maxSteps:=4000000)(disch:=first|exact dz|fail)only[bB.u,seval,cut,m16b0,R_o,o_tail,hlt,hml,h',hj]
  repeat'((with_reducible first|refine sp ?_ ?_|fail)<;>intro hx<;>(try simp only[bI.u]at hx)<;>(first|exact xz|(try simp(maxSteps:=4000000)(disch:=first|exact dz|fail)only[bB.u,seval,cut,hx,m16b0,R_o,o_tail,hlt,hml,h',hj])))
  all_goals first|exact xz|(subst hrhs;rfl)
theorem wr_ok {d:Nat} {c t:Int} {m:Bool} {b:List UInt8} {ks:List T} (h:(wr d (.mk c t m b ks)).1=0):d≤16∧rangeB c t=false∧formE c t m b=0∧(m=true→b=[])∧(m=false→ks=[])∧(wrs (d+1) ks).1=0∧¬(c=0∧t=17∧sortedB (wrs (d+1) ks).2=false):=by
 rw[wr,wrK]at h
 by_cases h1:16<d
 ·rw[if_pos h1]at h;cases h
 rw[if_neg h1]at h
 by_cases h2:rangeB c t=true
 ·rw[if_pos h2]at h;cases h
 rw[if_neg h2]at h
 by_cases h3:formE c t m b=21
 ·rw[if_pos h3]at h;cases h
 rw[if_neg h3]at h
 by_cases h4:formE c t m b≠0∨(m=true∧b≠[])∨(m=false∧(!ks.isEmpty)=true)
 ·rw[if_pos h4]at h;cases h
 rw[if_neg h4]at h
 by_cases h5:(wrs (d+1) ks).1=0
 rotate_left
 ·rw[if_pos h5]at h;exact absurd h h5
 rw[if_neg (by simpa using h5)]at h
 by_cases h6:c=0∧t=17∧sortedB (wrs (d+1) ks).2=false
 ·rw[if_pos h6]at h;cases h
 refine⟨by omega,by simpa using h2,Decidable.not_not.1 fun h=>h4 (.inl h),fun hm=>Decidable.not_not.1 fun h=>h4 (.inr (.inl ⟨hm,h⟩)),fun hm=>?_,h5,h6⟩
 cases ks with
 |nil=>rfl
 |cons x y=>exact absurd (.inr (.inr ⟨hm,rfl⟩)) h4
theorem wrW_wr {t:T} (h:(wrW t).1=0):(wr 0 t).1=0∧(wrW t).2=(wr 0 t).2∧(wr 0 t).2.length≤65536:=by
 unfold wrW at h ⊢
 by_cases h1:(wr 0 t).1=0
 rotate_left
 ·rw[if_pos h1]at h;exact absurd h h1
 rw[if_neg (by simpa using h1)]at h ⊢
 by_cases h2:65536<(wr 0 t).2.length
 ·rw[if_pos h2]at h;cases h
 rw[if_neg h2]
 exact⟨h1,rfl,by omega⟩
theorem c_Oid (v:MV) (t:T) (hv:Rv v t) (hl:low t) (hs:sz t≤2^29):Call Q 16 [v]=some (oidR t).mv:=by
 have hw:=c_Write v t hv hl (by omega)
 cases hv with
 | @mk _ c tg m w k b ks hb hk=>
 rw[sz]at hs
 rw[oidR]
 by_cases h:(wrW (.mk c tg m b ks)).1≠0∨c≠0∨tg≠6
 ·rw[if_pos h]
  simp only[OR.mv]
  generalize wrW (.mk c tg m b ks)=W at hw h
  obtain⟨e,bs⟩:=W
  simp only at hw h
  rw[Call_fn Q (m:=m16) rfl rfl]
  cases hb<;>cases hk
  all_goals(
  apply hide;intro rhs hrhs
  simp(maxSteps:=4000000)(disch:=first|exact dz|fail)only[bB.u,seval,cut,m16,hw]
  repeat'((with_reducible first|refine sp ?_ ?_|fail)<;>intro hx<;>(try simp only[bI.u]at hx)<;>(first|exact xz|(try simp(maxSteps:=4000000)(disch:=first|exact dz|fail)only[bB.u,seval,cut,hx,m16,hw])))
  all_goals first|exact xz|(subst hrhs;rfl))
 rw[if_neg h]
 have h1:(wrW (.mk c tg m b ks)).1=0:=Decidable.not_not.1 fun x=>h (.inl x)
 have h2:c=0:=Decidable.not_not.1 fun x=>h (.inr (.inl x))
 have h3:tg=6:=Decidable.not_not.1 fun x=>h (.inr (.inr x))
 subst h2;subst h3
 have hne:b≠[]:=by
  rintro rfl
  have:=(wr_ok (wrW_wr h1).1).2.2.1
  cases m<;>exact absurd this (by decide)
 rw[h1]at hw
 generalize(wrW (.mk 0 6 m b ks)).2=bs at hw
 have loop:fin R_o (RunL Q m16k0 m16b0 [.blk 0,.code o_tail] (o_st b 1 [] 0 0))=some (oidG b).mv:=by
  refine loopR b gO (fun s i=>fin R_o (RunL Q m16k0 m16b0 [.blk 0,.code o_tail] (o_st b (if i=0 then 1 else 0) s.1 s.2 i))) (fun _=>some OR.no.mv) (fun s i=>s.1.length≤2*i∧0≤s.2∧s.2<1099511627776)
   (fun s i c hI hg=>o_step b (by omega) _ s i c hI hg) ([],0) ⟨by simp,by simp,by simp⟩ rfl ?_ ?_
  ·intro s hf hI
   have hp:=gO_small b ([],0) s (by simp) hf
   have hE:oidG b=if 20<s.1.length then .no else .ok (Lib.join s.1 [46]):=by unfold oidG;rw[hf]
   rw[hE]
   have he:=o_end b s.1 s.2 hp (by omega)
   exact he
  ·intro u hf
   unfold oidG;rw[hf]
 unfold o_st at loop
 rw[Call_fn Q (m:=m16) rfl rfl]
 cases hb
 rotate_left
 ·exact absurd rfl hne
 cases hk
 all_goals(
  apply hide;intro rhs hrhs
  simp(maxSteps:=4000000)(disch:=first|exact dz|fail)only[bB.u,seval,cut,m16,Run_loop,hw]
  repeat'((with_reducible first|refine sp ?_ ?_|fail)<;>intro hx<;>(try simp only[bI.u]at hx)<;>(first|exact xz|(try simp(maxSteps:=4000000)(disch:=first|exact dz|fail)only[bB.u,seval,cut,hx,m16,Run_loop,hw])))
  all_goals first|exact xz|(subst hrhs;exact(congrArg (fin _) (RunL_canon (canon_cong kr kr kr))).trans loop))
end Go.Mini.Nm

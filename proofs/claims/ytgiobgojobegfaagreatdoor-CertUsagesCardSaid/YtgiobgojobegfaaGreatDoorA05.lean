/- a certificate's law by that interpreter (part 5): what the program's functions answer, or plain laws of it; no conditions. -/
import Derived.Test.YtgiobgojobegfaaGreatDoorA04
import Derived.Lib.TrimUEq
set_option linter.all false
namespace Go.Mini.Nm
open Go Go.Mini Go.Proofs.YtgiobgojobegfaaGreatDoor
set_option maxRecDepth 100000
set_option maxHeartbeats 4000000
def zero5:List MV:=[.int .i64 0,.int .i64 0,.bool false,.nilsl,.nilsl]
def numP (p:List UInt8):Option Int:=match Lib.atoiAll p with
 | .ok n=>if 0≤n∧n<1099511627776∧itoaL n=p then some n else none
 |_=>none
def numsP:List (List UInt8)→Option (List Int)
 | []=>some []
 |p::r=>match numP p,numsP r with
  |some n,some l=>some (n::l)
  |_,_=>none
def part (n d:Int):List UInt8:=if 0<n/d then [UInt8.ofNat (n/d%128).toNat|||128]else []
def encD (n:Int):List Int→List UInt8
 | []=>[UInt8.ofNat (n%128).toNat]
 |d::r=>part n d++encD n r
def enc (n:Int):List UInt8:=encD n [34359738368,268435456,2097152,16384,128]
def encs (l:List Int):List UInt8:=l.flatMap enc
def oidN (l:List Int):Option (List UInt8):=match l with
 |n0::n1::r=>if 2<n0∨n0<2∧39<n1∨n0=2∧1099511627776≤n1+80 then none else some (encs ((n1+40*n0)::r))
 |_=>none
def oidS (s:List UInt8):Option (List UInt8):=
 let ps:=Lib.splitK [46] 0 (Lib.count s [46]) s
 if ps.length<2∨20<ps.length then none else match numsP ps with
  |some l=>oidN l
  |none=>none
theorem canon_cong {keep:List (Nat × KMode)} {st:DS} {V:List (Nat × MV)} {O:List (Nat × Obj)} {nx:Nat} (h1:(canon keep st).V=V) (h2:(canon keep st).O=O) (h3:(canon keep st).nx=nx):canon keep st=⟨V,[],O,nx⟩:=by
 subst h1;subst h2;subst h3;rfl
def ints (l:List Int):List MV:=l.map fun n=>.int .i64 n
theorem ints_length (l:List Int):(ints l).length=l.length:=by simp[ints]
def V53 (a:Nat) (ps:List (List UInt8)) (l:List Int) (i:Int):List (Nat × MV):=[(2,.ptr 0 0),(5,.own a l.length),(26,.sl 1 (ps.map .str)),(27,.int .i64 (ps.length:Int)),(28,.int .i64 i)]
def O53 (a:Nat) (l:List Int):List (Nat × Obj):=[(0,.cells zero5),(a,.el 1 (ints l) false)]
def R53:List (Nat × Option (Bool × Nat) × PK):=[(2,some (true,5),.other),(3,none,.other)]
def bad53:MV:=.tup [.agg zero5,.bool false]
theorem Vapp (ps:List (List UInt8)) (l:List Int) (n i:Int):[(2,MV.ptr 0 0),(5,.own 1 (l.length+1)),(26,.sl 1 (ps.map .str)),(27,.int .i64 (ps.length:Int)),(28,.int .i64 i)]=V53 1 ps (l++[n]) i:=by simp[V53]
theorem Oapp (l:List Int) (n:Int):[(0,Obj.cells zero5),(1,.el 1 (ints l++[.int .i64 n]) false)]=O53 1 (l++[n]):=by simp[O53,ints]
theorem numP_itoa {p:List UInt8} {n:Int} (h:numP p=some n):0≤n∧n<1099511627776:=by
 unfold numP at h
 split at h
 ·split at h
  ·rename_i hc;cases h;exact⟨hc.1,hc.2.1⟩
  ·cases h
 ·cases h
theorem atoi_ok {p:List UInt8} {n:Int} (hp:p.length<1000000) (h:Lib.atoiAll p= .ok n) (h0: -9223372036854775808≤n∧n≤9223372036854775807):Call Q 114 [.str p]=some (.tup [.int .i64 n,.nilif]):=by
 rw[Call_prim Q (g:=pAtoi) rfl]
 simp only[pAtoi,h]
 rw[if_pos (by omega),if_pos h0]
theorem atoi_no {p:List UInt8} (hp:p.length<1000000) (h:∀n,Lib.atoiAll p≠ .ok n):∃n,Call Q 114 [.str p]=some (.tup [.int .i64 n,.iface atoiErr (.cptr [])]):=by
 rw[Call_prim Q (g:=pAtoi) rfl]
 simp only[pAtoi]
 rw[if_pos (by omega)]
 cases h1:Lib.atoiAll p with
 |ok n=>exact(h n h1).elim
 |range=>exact⟨_,rfl⟩
 |_=>exact⟨_,rfl⟩
theorem itoa_ok (n:Int):Call Q 116 [.int .i64 n]=some (.str (itoaL n)):=Call_prim Q (g:=pItoa) rfl
theorem c53_step (a:Nat) (ha:a=1∨a=2) (ps:List (List UInt8)) (l:List Int) (i:Int) (h0:0≤i) (hi:i<ps.length) (hps:ps.length≤20) (hl:l.length≤20) (p:List UInt8) (hp:ps[i.toNat]? = some p) (hpl:p.length<1000000) (K:List Item):
  fin R53 (RunL Q m109k0 m109b0 (.blk 0::K) ⟨V53 a ps l i,[],O53 a l,3⟩)=match numP p with
   |some n=>fin R53 (RunL Q m109k0 m109b0 (.blk 0::K) ⟨V53 1 ps (l++[n]) (i+1),[],O53 1 (l++[n]),3⟩)
   |none=>some bad53:=by
 have hlt:decide (i<(ps.length:Int))=true:=by simp;omega
 have hlen:((ps.map MV.str).length:Int)=(ps.length:Int):=by simp
 have hget:(ps.map MV.str)[i.toNat]? = some (.str p):=by rw[List.getElem?_map,hp];rfl
 have hil:=ints_length l
 have step:∀(b':MCode) (n:Int) (V:List (Nat × MV)) (O:List (Nat × Obj)) (nx:Nat),b'=m109b0→canon m109k0 ⟨V,[],O,nx⟩=⟨V53 1 ps (l++[n]) (i+1),[],O53 1 (l++[n]),3⟩ →
   fin R53 (Run Q (.lp m109k0 b':: .blk 0::K) ⟨V,[],O,nx⟩)=fin R53 (RunL Q m109k0 m109b0 (.blk 0::K) ⟨V53 1 ps (l++[n]) (i+1),[],O53 1 (l++[n]),3⟩):=by
  intro b' n V O nx hb hc
  subst hb
  rw[Run_lp,hc]
 obtain⟨b',hb'⟩:∃b',b'=m109b0:=⟨_,rfl⟩
 rw[RunL_eq,show Item.lp m109k0 m109b0=Item.lp m109k0 b' by rw[hb']]
 have hcap:(l.length+1)*8≤2^47:=by omega
 by_cases hok:∃n,Lib.atoiAll p= .ok n
 ·obtain⟨n,hn⟩:=hok
  have hz:=atoi_ok hpl hn (Lib.atoiAll_bounds hn)
  have hi2:=itoa_ok n
  have numeq:numP p=if 0≤n∧n<1099511627776∧itoaL n=p then some n else none:=by simp only[numP,hn]
  by_cases c1:n<0
  ·have d1:decide (n<0)=true:=by simp;omega
   rw[numeq,if_neg (by omega)]
   rcases ha with rfl|rfl<;>
   simp(maxSteps:=4000000)(disch:=first|exact dz|fail)only[bA.u,seval,cut,if_pos,if_neg,m109b0,V53,O53,R53,bad53,hlt,hlen,hget,h0,hi,zero5,hz,hi2,d1]
  ·have d1:decide (n<0)=false:=by simp;omega
   by_cases c2:1099511627776≤n
   ·have d2:decide (1099511627776≤n)=true:=by simp;omega
    rw[numeq,if_neg (by omega)]
    rcases ha with rfl|rfl<;>
    simp(maxSteps:=4000000)(disch:=first|exact dz|fail)only[bA.u,seval,cut,if_pos,if_neg,m109b0,V53,O53,R53,bad53,hlt,hlen,hget,h0,hi,zero5,hz,hi2,d1,d2]
   ·have d2:decide (1099511627776≤n)=false:=by simp;omega
    by_cases c3:itoaL n=p
    ·have d3:(p==p)=true:=by simp
     rw[numeq,if_pos ⟨by omega,by omega,c3⟩]
     show _=fin R53 (RunL Q m109k0 m109b0 (.blk 0::K) ⟨V53 1 ps (l++[n]) (i+1),[],O53 1 (l++[n]),3⟩)
     obtain⟨rhs,hr⟩:∃r,r=fin R53 (RunL Q m109k0 m109b0 (.blk 0::K) ⟨V53 1 ps (l++[n]) (i+1),[],O53 1 (l++[n]),3⟩):=⟨_,rfl⟩
     rw[←hr]
     rcases ha with rfl|rfl<;>
     simp(maxSteps:=4000000)(disch:=first|exact dz|fail)only[bA.u,seval,cut,if_pos,if_neg,m109b0,V53,O53,R53,bad53,hlt,hlen,hget,h0,hi,zero5,hz,hi2,d1,d2,c3,hil,hcap,List.set]
     all_goals(rw[hr];exact step b' n _ _ _ hb' (canon_cong (Eq.trans kr (Vapp ps l n (i+1))) (Eq.trans kr (Oapp l n)) kr))
    ·have d3:(itoaL n==p)=false:=by simpa using c3
     rw[numeq,if_neg (fun h=>c3 h.2.2)]
     rcases ha with rfl|rfl<;>
     simp(maxSteps:=4000000)(disch:=first|exact dz|fail)only[bA.u,seval,cut,if_pos,if_neg,m109b0,V53,O53,R53,bad53,hlt,hlen,hget,h0,hi,zero5,hz,hi2,d1,d2,d3]
 ·have hnum:numP p=none:=by
   unfold numP
   split
   ·rename_i n hn;exact(hok ⟨n,hn⟩).elim
   ·rfl
  rw[hnum]
  obtain⟨z,hz⟩:=atoi_no hpl (fun n hn=>hok ⟨n,hn⟩)
  rcases ha with rfl|rfl<;>
  simp(maxSteps:=4000000)(disch:=first|exact dz|fail)only[bA.u,seval,cut,if_pos,if_neg,m109b0,V53,O53,R53,bad53,hlt,hlen,hget,h0,hi,hz,zero5]
theorem numsP_cons (p:List UInt8) (r:List (List UInt8)):numsP (p::r)=match numP p,numsP r with
  |some n,some l=>some (n::l)
  |_,_=>none:=rfl
theorem c53_nums (ps:List (List UInt8)) (hps:ps.length≤20) (hpl:∀p∈ps,p.length<1000000) (K:List Item):∀(r:List (List UInt8)) (a:Nat) (l:List Int) (i:Nat),(a=1∨a=2)→(a=2→r≠[])→ps.drop i=r→i+r.length=ps.length→l.length=i →
  fin R53 (RunL Q m109k0 m109b0 (.blk 0::K) ⟨V53 a ps l i,[],O53 a l,3⟩)=match numsP r with
   |some ns=>fin R53 (Run Q K ⟨(29,.bool false)::V53 1 ps (l++ns) ps.length,[],O53 1 (l++ns),7⟩)
   |none=>some bad53
 | [],a,l,i,ha,ha2,hd,hi,hl=>by
  obtain rfl:a=1:=by
   rcases ha with h|h
   ·exact h
   ·exact(ha2 h rfl).elim
  have hi':i=ps.length:=by simpa using hi
  subst hi'
  have hlt:decide ((ps.length:Int)<(ps.length:Int))=false:=by simp
  obtain⟨b',hb'⟩:∃b',b'=m109b0:=⟨_,rfl⟩
  show _=fin R53 (Run Q K ⟨(29,.bool false)::V53 1 ps (l++[]) ps.length,[],O53 1 (l++[]),7⟩)
  rw[List.append_nil,RunL_eq,show Item.lp m109k0 m109b0=Item.lp m109k0 b' by rw[hb']]
  simp(maxSteps:=4000000)(disch:=first|exact dz|fail)only[bA.u,seval,cut,if_pos,if_neg,m109b0,V53,O53,hlt]
 |p::r,a,l,i,ha,ha2,hd,hi,hl=>by
  simp only[List.length_cons]at hi
  have hlt:i<ps.length:=by omega
  have hp:ps[i]? = some p:=by
   have:=congrArg (·[0]?) hd
   simpa[List.getElem?_drop]using this
  have hd':ps.drop (i+1)=r:=by
   have:=congrArg (List.drop 1) hd
   simpa[List.drop_drop]using this
  rw[c53_step a ha ps l i (by omega) (by omega) hps (by omega) p (by simpa using hp) (hpl p (List.mem_of_getElem? hp)) K,numsP_cons]
  cases hn:numP p with
  |none=>rfl
  |some n=>
   have ih:=c53_nums ps hps hpl K r 1 (l++[n]) (i+1) (.inl rfl) (fun h=>by omega) hd' (by omega) (by simp[hl])
   have e:((i:Int)+1)=((i+1:Nat):Int):=by omega
   rw[e]
   simp only
   rw[ih]
   cases numsP r with
   |none=>rfl
   |some ns=>simp only[List.append_assoc,List.cons_append,List.nil_append]
theorem numsP_length:∀ {r:List (List UInt8)} {ns:List Int},numsP r=some ns→ns.length=r.length∧∀n∈ns,0≤n∧n<1099511627776
 | [],ns,h=>by simp only[numsP,Option.some.injEq]at h;subst h;simp
 |p::r,ns,h=>by
  rw[numsP_cons]at h
  split at h
  ·rename_i n l h1 h2
   cases h
   have⟨a,b⟩:=numsP_length h2
   refine⟨by simp[a],fun m hm=>?_⟩
   rcases List.mem_cons.1 hm with rfl|hm
   ·exact numP_itoa h1
   ·exact b m hm
  ·cases h
theorem shr64 {n b:Int} (h0:0≤b) (h1:b≤63):shiftI .shr .i64 n b=some (.int .i64 (n/2^b.toNat)):=by
 obtain⟨m,rfl⟩:=Int.eq_ofNat_of_zero_le h0
 unfold shiftI
 rw[if_neg (by omega)]
 simp only[Int.toNat_natCast]
 have e:min m IntKind.i64.bits=m:=by show min m 64=m;omega
 rw[e]
 congr 2
 have e2:((2:Int)^m)=((2^m:Nat):Int):=by simp
 rw[e2,Int.fdiv_eq_ediv_of_nonneg _ (Int.natCast_nonneg _)]
theorem and64_127 {x:Int} (h0:0≤x) (h1:x≤9223372036854775807):IntKind.i64.wrap ((BitVec.ofInt IntKind.i64.bits x&&&BitVec.ofInt IntKind.i64.bits 127).toNat:Int)=x%128:=by
 obtain⟨n,rfl⟩:=Int.eq_ofNat_of_zero_le h0
 have e:(BitVec.ofInt IntKind.i64.bits (n:Int)&&&BitVec.ofInt IntKind.i64.bits 127).toNat=n%128:=by
  show(BitVec.ofInt 64 (n:Int)&&&BitVec.ofInt 64 127).toNat=n%128
  rw[BitVec.toNat_and,BitVec.ofInt_natCast,BitVec.toNat_ofNat]
  have:(BitVec.ofInt 64 127).toNat=127:=by decide
  rw[this,Nat.mod_eq_of_lt (by omega),show 127=2^7-1 by decide,Nat.and_two_pow_sub_one_eq_mod]
 rw[e,w64 (by omega) (by omega)]
 omega
theorem or8_128 {m:Int} (h0:0≤m) (h1:m<256):IntKind.u8.wrap ((BitVec.ofInt IntKind.u8.bits m|||BitVec.ofInt IntKind.u8.bits 128).toNat:Int)=((UInt8.ofNat m.toNat|||128).toNat:Int):=by
 obtain⟨n,rfl⟩:=Int.eq_ofNat_of_zero_le h0
 have:=or8 (UInt8.ofNat n) 128
 have e:((UInt8.ofNat n).toNat:Int)=(n:Int):=by rw[UInt8.toNat_ofNat'];omega
 rw[e]at this
 exact this
def V2 (out:List UInt8) (n sh:Int) (tl:List MV) (len i:Int):List (Nat × MV):=[(2,.ptr 0 0),(10,.own 1 out.length),(12,.int .i64 n),(13,.int .i64 sh),(99,.sl 1 tl),(100,.int .i64 len),(101,.int .i64 i)]
def V1 (a:Nat) (out:List UInt8) (tl:List MV) (len i:Int):List (Nat × MV):=[(2,.ptr 0 0),(10,.own a out.length),(99,.sl 1 tl),(100,.int .i64 len),(101,.int .i64 i)]
def OB (a:Nat) (out:List UInt8):List (Nat × Obj):=[(0,.cells zero5),(a,.byt out false)]
theorem stop (out:List UInt8) (n:Int) (tl:List MV) (len i:Int) (K:List Item):RunL Q m109k2 m109b2 (.blk 4::K) ⟨V2 out n (-7) tl len i,[],OB 1 out,3⟩=Run Q K ⟨(106,.bool false)::V2 out n (-7) tl len i,[],OB 1 out,11⟩:=by
 obtain⟨b',hb'⟩:∃b',b'=m109b2:=⟨_,rfl⟩
 rw[RunL_eq,show Item.lp m109k2 m109b2=Item.lp m109k2 b' by rw[hb']]
 simp(maxSteps:=4000000)(disch:=first|exact dz|fail)only[bA.u,seval,cut,if_pos,if_neg,m109b2,V2,OB]
theorem e0 (out:List UInt8) (n:Int) (hn:0≤n∧n<9223372036854775807) (ho:out.length<1000) (tl:List MV) (len i:Int) (K:List Item):RunL Q m109k2 m109b2 (.blk 4::K) ⟨V2 out n 0 tl len i,[],OB 1 out,3⟩=Run Q K ⟨(106,.bool false)::V2 (out++encD n []) n (-7) tl len i,[],OB 1 (out++encD n []),11⟩:=by
 obtain⟨rhs,hr⟩:∃r,r=Run Q K ⟨(106,.bool false)::V2 (out++encD n []) n (-7) tl len i,[],OB 1 (out++encD n []),11⟩:=⟨_,rfl⟩
 rw[←hr]
 obtain⟨b',hb'⟩:∃b',b'=m109b2:=⟨_,rfl⟩
 have hcap:out.length+1≤2^47:=by omega
 rw[RunL_eq,show Item.lp m109k2 m109b2=Item.lp m109k2 b' by rw[hb']]
 simp(maxSteps:=4000000)(disch:=first|exact dz|fail)only[bA.u,seval,cut,if_pos,if_neg,m109b2,V2,OB,hcap,shr64,Int.ediv_one,Int.reducePow,and64_127]
 subst hb'
 rw[Run_lp,hr]
 have ve:∀b:UInt8,[(2,MV.ptr 0 0),(10,.own 1 (out.length+1)),(12,.int .i64 n),(13,.int .i64 (-7)),(99,.sl 1 tl),(100,.int .i64 len),(101,.int .i64 i)]=V2 (out++[b]) n (-7) tl len i:=fun b=>by simp[V2]
 exact(RunL_canon (canon_cong (Eq.trans kr (ve _)) kr kr)).trans (stop _ n tl len i K)
theorem e1 (out:List UInt8) (n:Int) (hn:0≤n∧n<9223372036854775807) (ho:out.length<999) (tl:List MV) (len i:Int) (K:List Item):RunL Q m109k2 m109b2 (.blk 4::K) ⟨V2 out n 7 tl len i,[],OB 1 out,3⟩=Run Q K ⟨(106,.bool false)::V2 (out++encD n [128]) n (-7) tl len i,[],OB 1 (out++encD n [128]),11⟩:=by
 obtain⟨rhs,hr⟩:∃r,r=Run Q K ⟨(106,.bool false)::V2 (out++encD n [128]) n (-7) tl len i,[],OB 1 (out++encD n [128]),11⟩:=⟨_,rfl⟩
 rw[←hr]
 obtain⟨b',hb'⟩:∃b',b'=m109b2:=⟨_,rfl⟩
 have hcap:out.length+1≤2^47:=by omega
 rw[RunL_eq,show Item.lp m109k2 m109b2=Item.lp m109k2 b' by rw[hb']]
 by_cases hd:0<n/128
 ·have hd':decide (0<n/128)=true:=by simp;omega
  have hp:part n 128=[UInt8.ofNat (n/128%128).toNat|||128]:=if_pos hd
  simp(maxSteps:=4000000)(disch:=first|exact dz|fail)only[bA.u,seval,cut,if_pos,if_neg,m109b2,V2,OB,hd',hcap,shr64,Int.ediv_one,Int.reducePow,and64_127,or8_128]
  subst hb'
  rw[Run_lp,hr]
  have ve:∀b:UInt8,[(2,MV.ptr 0 0),(10,.own 1 (out.length+1)),(12,.int .i64 n),(13,.int .i64 0),(99,.sl 1 tl),(100,.int .i64 len),(101,.int .i64 i)]=V2 (out++[b]) n 0 tl len i:=fun b=>by simp[V2]
  have ih:=e0 (out++[UInt8.ofNat (n/128%128).toNat|||128]) n hn (by simp;omega) tl len i K
  rw[show encD n [128]=part n 128++encD n []from rfl,hp,←List.append_assoc]
  exact(RunL_canon (canon_cong (Eq.trans kr (ve _)) kr kr)).trans ih
 ·have hd':decide (0<n/128)=false:=by simp;omega
  have hp:part n 128=[]:=if_neg hd
  simp(maxSteps:=4000000)(disch:=first|exact dz|fail)only[bA.u,seval,cut,if_pos,if_neg,m109b2,V2,OB,hd',hcap,shr64,Int.ediv_one,Int.reducePow,and64_127,or8_128]
  subst hb'
  rw[Run_lp,hr]
  have ih:=e0 out n hn (by omega) tl len i K
  rw[show encD n [128]=part n 128++encD n []from rfl,hp,List.nil_append]
  exact(RunL_canon (canon_cong kr kr kr)).trans ih
theorem e2 (out:List UInt8) (n:Int) (hn:0≤n∧n<9223372036854775807) (ho:out.length<998) (tl:List MV) (len i:Int) (K:List Item):RunL Q m109k2 m109b2 (.blk 4::K) ⟨V2 out n 14 tl len i,[],OB 1 out,3⟩=Run Q K ⟨(106,.bool false)::V2 (out++encD n [16384,128]) n (-7) tl len i,[],OB 1 (out++encD n [16384,128]),11⟩:=by
 obtain⟨rhs,hr⟩:∃r,r=Run Q K ⟨(106,.bool false)::V2 (out++encD n [16384,128]) n (-7) tl len i,[],OB 1 (out++encD n [16384,128]),11⟩:=⟨_,rfl⟩
 rw[←hr]
 obtain⟨b',hb'⟩:∃b',b'=m109b2:=⟨_,rfl⟩
 have hcap:out.length+1≤2^47:=by omega
 rw[RunL_eq,show Item.lp m109k2 m109b2=Item.lp m109k2 b' by rw[hb']]
 by_cases hd:0<n/16384
 ·have hd':decide (0<n/16384)=true:=by simp;omega
  have hp:part n 16384=[UInt8.ofNat (n/16384%128).toNat|||128]:=if_pos hd
  simp(maxSteps:=4000000)(disch:=first|exact dz|fail)only[bA.u,seval,cut,if_pos,if_neg,m109b2,V2,OB,hd',hcap,shr64,Int.ediv_one,Int.reducePow,and64_127,or8_128]
  subst hb'
  rw[Run_lp,hr]
  have ve:∀b:UInt8,[(2,MV.ptr 0 0),(10,.own 1 (out.length+1)),(12,.int .i64 n),(13,.int .i64 7),(99,.sl 1 tl),(100,.int .i64 len),(101,.int .i64 i)]=V2 (out++[b]) n 7 tl len i:=fun b=>by simp[V2]
  have ih:=e1 (out++[UInt8.ofNat (n/16384%128).toNat|||128]) n hn (by simp;omega) tl len i K
  rw[show encD n [16384,128]=part n 16384++encD n [128]from rfl,hp,←List.append_assoc]
  exact(RunL_canon (canon_cong (Eq.trans kr (ve _)) kr kr)).trans ih
 ·have hd':decide (0<n/16384)=false:=by simp;omega
  have hp:part n 16384=[]:=if_neg hd
  simp(maxSteps:=4000000)(disch:=first|exact dz|fail)only[bA.u,seval,cut,if_pos,if_neg,m109b2,V2,OB,hd',hcap,shr64,Int.ediv_one,Int.reducePow,and64_127,or8_128]
  subst hb'
  rw[Run_lp,hr]
  have ih:=e1 out n hn (by omega) tl len i K
  rw[show encD n [16384,128]=part n 16384++encD n [128]from rfl,hp,List.nil_append]
  exact(RunL_canon (canon_cong kr kr kr)).trans ih
theorem e3 (out:List UInt8) (n:Int) (hn:0≤n∧n<9223372036854775807) (ho:out.length<997) (tl:List MV) (len i:Int) (K:List Item):RunL Q m109k2 m109b2 (.blk 4::K) ⟨V2 out n 21 tl len i,[],OB 1 out,3⟩=Run Q K ⟨(106,.bool false)::V2 (out++encD n [2097152,16384,128]) n (-7) tl len i,[],OB 1 (out++encD n [2097152,16384,128]),11⟩:=by
 obtain⟨rhs,hr⟩:∃r,r=Run Q K ⟨(106,.bool false)::V2 (out++encD n [2097152,16384,128]) n (-7) tl len i,[],OB 1 (out++encD n [2097152,16384,128]),11⟩:=⟨_,rfl⟩
 rw[←hr]
 obtain⟨b',hb'⟩:∃b',b'=m109b2:=⟨_,rfl⟩
 have hcap:out.length+1≤2^47:=by omega
 rw[RunL_eq,show Item.lp m109k2 m109b2=Item.lp m109k2 b' by rw[hb']]
 by_cases hd:0<n/2097152
 ·have hd':decide (0<n/2097152)=true:=by simp;omega
  have hp:part n 2097152=[UInt8.ofNat (n/2097152%128).toNat|||128]:=if_pos hd
  simp(maxSteps:=4000000)(disch:=first|exact dz|fail)only[bA.u,seval,cut,if_pos,if_neg,m109b2,V2,OB,hd',hcap,shr64,Int.ediv_one,Int.reducePow,and64_127,or8_128]
  subst hb'
  rw[Run_lp,hr]
  have ve:∀b:UInt8,[(2,MV.ptr 0 0),(10,.own 1 (out.length+1)),(12,.int .i64 n),(13,.int .i64 14),(99,.sl 1 tl),(100,.int .i64 len),(101,.int .i64 i)]=V2 (out++[b]) n 14 tl len i:=fun b=>by simp[V2]
  have ih:=e2 (out++[UInt8.ofNat (n/2097152%128).toNat|||128]) n hn (by simp;omega) tl len i K
  rw[show encD n [2097152,16384,128]=part n 2097152++encD n [16384,128]from rfl,hp,←List.append_assoc]
  exact(RunL_canon (canon_cong (Eq.trans kr (ve _)) kr kr)).trans ih
 ·have hd':decide (0<n/2097152)=false:=by simp;omega
  have hp:part n 2097152=[]:=if_neg hd
  simp(maxSteps:=4000000)(disch:=first|exact dz|fail)only[bA.u,seval,cut,if_pos,if_neg,m109b2,V2,OB,hd',hcap,shr64,Int.ediv_one,Int.reducePow,and64_127,or8_128]
  subst hb'
  rw[Run_lp,hr]
  have ih:=e2 out n hn (by omega) tl len i K
  rw[show encD n [2097152,16384,128]=part n 2097152++encD n [16384,128]from rfl,hp,List.nil_append]
  exact(RunL_canon (canon_cong kr kr kr)).trans ih
theorem e4 (out:List UInt8) (n:Int) (hn:0≤n∧n<9223372036854775807) (ho:out.length<996) (tl:List MV) (len i:Int) (K:List Item):RunL Q m109k2 m109b2 (.blk 4::K) ⟨V2 out n 28 tl len i,[],OB 1 out,3⟩=Run Q K ⟨(106,.bool false)::V2 (out++encD n [268435456,2097152,16384,128]) n (-7) tl len i,[],OB 1 (out++encD n [268435456,2097152,16384,128]),11⟩:=by
 obtain⟨rhs,hr⟩:∃r,r=Run Q K ⟨(106,.bool false)::V2 (out++encD n [268435456,2097152,16384,128]) n (-7) tl len i,[],OB 1 (out++encD n [268435456,2097152,16384,128]),11⟩:=⟨_,rfl⟩
 rw[←hr]
 obtain⟨b',hb'⟩:∃b',b'=m109b2:=⟨_,rfl⟩
 have hcap:out.length+1≤2^47:=by omega
 rw[RunL_eq,show Item.lp m109k2 m109b2=Item.lp m109k2 b' by rw[hb']]
 by_cases hd:0<n/268435456
 ·have hd':decide (0<n/268435456)=true:=by simp;omega
  have hp:part n 268435456=[UInt8.ofNat (n/268435456%128).toNat|||128]:=if_pos hd
  simp(maxSteps:=4000000)(disch:=first|exact dz|fail)only[bA.u,seval,cut,if_pos,if_neg,m109b2,V2,OB,hd',hcap,shr64,Int.ediv_one,Int.reducePow,and64_127,or8_128]
  subst hb'
  rw[Run_lp,hr]
  have ve:∀b:UInt8,[(2,MV.ptr 0 0),(10,.own 1 (out.length+1)),(12,.int .i64 n),(13,.int .i64 21),(99,.sl 1 tl),(100,.int .i64 len),(101,.int .i64 i)]=V2 (out++[b]) n 21 tl len i:=fun b=>by simp[V2]
  have ih:=e3 (out++[UInt8.ofNat (n/268435456%128).toNat|||128]) n hn (by simp;omega) tl len i K
  rw[show encD n [268435456,2097152,16384,128]=part n 268435456++encD n [2097152,16384,128]from rfl,hp,←List.append_assoc]
  exact(RunL_canon (canon_cong (Eq.trans kr (ve _)) kr kr)).trans ih
 ·have hd':decide (0<n/268435456)=false:=by simp;omega
  have hp:part n 268435456=[]:=if_neg hd
  simp(maxSteps:=4000000)(disch:=first|exact dz|fail)only[bA.u,seval,cut,if_pos,if_neg,m109b2,V2,OB,hd',hcap,shr64,Int.ediv_one,Int.reducePow,and64_127,or8_128]
  subst hb'
  rw[Run_lp,hr]
  have ih:=e3 out n hn (by omega) tl len i K
  rw[show encD n [268435456,2097152,16384,128]=part n 268435456++encD n [2097152,16384,128]from rfl,hp,List.nil_append]
  exact(RunL_canon (canon_cong kr kr kr)).trans ih
theorem e5 (out:List UInt8) (n:Int) (hn:0≤n∧n<9223372036854775807) (ho:out.length<995) (tl:List MV) (len i:Int) (K:List Item):RunL Q m109k2 m109b2 (.blk 4::K) ⟨V2 out n 35 tl len i,[],OB 1 out,3⟩=Run Q K ⟨(106,.bool false)::V2 (out++encD n [34359738368,268435456,2097152,16384,128]) n (-7) tl len i,[],OB 1 (out++encD n [34359738368,268435456,2097152,16384,128]),11⟩:=by
 obtain⟨rhs,hr⟩:∃r,r=Run Q K ⟨(106,.bool false)::V2 (out++encD n [34359738368,268435456,2097152,16384,128]) n (-7) tl len i,[],OB 1 (out++encD n [34359738368,268435456,2097152,16384,128]),11⟩:=⟨_,rfl⟩
 rw[←hr]
 obtain⟨b',hb'⟩:∃b',b'=m109b2:=⟨_,rfl⟩
 have hcap:out.length+1≤2^47:=by omega
 rw[RunL_eq,show Item.lp m109k2 m109b2=Item.lp m109k2 b' by rw[hb']]
 by_cases hd:0<n/34359738368
 ·have hd':decide (0<n/34359738368)=true:=by simp;omega
  have hp:part n 34359738368=[UInt8.ofNat (n/34359738368%128).toNat|||128]:=if_pos hd
  simp(maxSteps:=4000000)(disch:=first|exact dz|fail)only[bA.u,seval,cut,if_pos,if_neg,m109b2,V2,OB,hd',hcap,shr64,Int.ediv_one,Int.reducePow,and64_127,or8_128]
  subst hb'
  rw[Run_lp,hr]
  have ve:∀b:UInt8,[(2,MV.ptr 0 0),(10,.own 1 (out.length+1)),(12,.int .i64 n),(13,.int .i64 28),(99,.sl 1 tl),(100,.int .i64 len),(101,.int .i64 i)]=V2 (out++[b]) n 28 tl len i:=fun b=>by simp[V2]
  have ih:=e4 (out++[UInt8.ofNat (n/34359738368%128).toNat|||128]) n hn (by simp;omega) tl len i K
  rw[show encD n [34359738368,268435456,2097152,16384,128]=part n 34359738368++encD n [268435456,2097152,16384,128]from rfl,hp,←List.append_assoc]
  exact(RunL_canon (canon_cong (Eq.trans kr (ve _)) kr kr)).trans ih
 ·have hd':decide (0<n/34359738368)=false:=by simp;omega
  have hp:part n 34359738368=[]:=if_neg hd
  simp(maxSteps:=4000000)(disch:=first|exact dz|fail)only[bA.u,seval,cut,if_pos,if_neg,m109b2,V2,OB,hd',hcap,shr64,Int.ediv_one,Int.reducePow,and64_127,or8_128]
  subst hb'
  rw[Run_lp,hr]
  have ih:=e4 out n hn (by omega) tl len i K
  rw[show encD n [34359738368,268435456,2097152,16384,128]=part n 34359738368++encD n [268435456,2097152,16384,128]from rfl,hp,List.nil_append]
  exact(RunL_canon (canon_cong kr kr kr)).trans ih
theorem enc_len (n:Int):(enc n).length≤6:=by
 unfold enc
 simp only[encD,part]
 repeat' split
 all_goals simp
theorem c53_out1 (a:Nat) (ha:a=1∨a=2) (out:List UInt8) (ho:out.length<200) (tl:List MV) (i:Int) (n:Int) (hn:0≤n∧n<9223372036854775807) (hi:0≤i∧i<tl.length) (hg:tl[i.toNat]? = some (.int .i64 n)) (hl:tl.length<1000) (K:List Item):
  RunL Q m109k1 m109b1 (.blk 2::K) ⟨V1 a out tl tl.length i,[],OB a out,3⟩=RunL Q m109k1 m109b1 (.blk 2::K) ⟨V1 1 (out++enc n) tl tl.length (i+1),[],OB 1 (out++enc n),3⟩:=by
 obtain⟨rhs,hr⟩:∃r,r=RunL Q m109k1 m109b1 (.blk 2::K) ⟨V1 1 (out++enc n) tl tl.length (i+1),[],OB 1 (out++enc n),3⟩:=⟨_,rfl⟩
 rw[←hr]
 obtain⟨b',hb'⟩:∃b',b'=m109b1:=⟨_,rfl⟩
 have hlt:decide (i<(tl.length:Int))=true:=by simp;omega
 have i0:=hi.1
 have i1:=hi.2
 rw[RunL_eq,show Item.lp m109k1 m109b1=Item.lp m109k1 b' by rw[hb']]
 have fin2:∀(V:List (Nat × MV)) (O:List (Nat × Obj)) (nx:Nat) (K':List Item),canon m109k2 ⟨V,[],O,nx⟩=⟨V2 out n 35 tl tl.length i,[],OB 1 out,3⟩ →
   RunL Q m109k2 m109b2 (.blk 4::K') (canon m109k2 ⟨V,[],O,nx⟩)=Run Q K' ⟨(106,.bool false)::V2 (out++enc n) n (-7) tl tl.length i,[],OB 1 (out++enc n),11⟩:=by
  intro V O nx K' hc
  rw[hc]
  exact e5 out n hn (by omega) tl tl.length i K'
 rcases ha with rfl|rfl
 ·simp(maxSteps:=4000000)(disch:=first|exact dz|fail)only[bA.u,seval,cut,if_pos,if_neg,m109b1,V1,OB,hlt,i0,i1,hg,Run_loop]
  rw[fin2 _ _ _ _ (canon_cong kr kr kr)]
  simp(maxSteps:=4000000)(disch:=first|exact dz|fail)only[bA.u,seval,cut,if_pos,if_neg,V2,OB]
  subst hb'
  rw[Run_lp,hr]
  exact RunL_canon (canon_cong (Eq.trans kr (show [(2,MV.ptr 0 0),(10,.own 1 (out.length+(enc n).length)),(99,.sl 1 tl),(100,.int .i64 tl.length),(101,.int .i64 (i+1))]=V1 1 (out++enc n) tl tl.length (i+1)from by simp[V1])) kr kr)
 ·simp(maxSteps:=4000000)(disch:=first|exact dz|fail)only[bA.u,seval,cut,if_pos,if_neg,m109b1,V1,OB,hlt,i0,i1,hg,Run_loop]
  rw[fin2 _ _ _ _ (canon_cong kr kr kr)]
  simp(maxSteps:=4000000)(disch:=first|exact dz|fail)only[bA.u,seval,cut,if_pos,if_neg,V2,OB]
  subst hb'
  rw[Run_lp,hr]
  exact RunL_canon (canon_cong (Eq.trans kr (show [(2,MV.ptr 0 0),(10,.own 1 (out.length+(enc n).length)),(99,.sl 1 tl),(100,.int .i64 tl.length),(101,.int .i64 (i+1))]=V1 1 (out++enc n) tl tl.length (i+1)from by simp[V1])) kr kr)
theorem c53_outs (tl:List Int) (htl:tl.length≤20) (hr:∀n∈tl,0≤n∧n<9223372036854775807) (K:List Item):∀(r:List Int) (a:Nat) (out:List UInt8) (i:Nat),(a=1∨a=2)→(a=2→r≠[])→tl.drop i=r→i+r.length=tl.length→out.length≤6*i →
  RunL Q m109k1 m109b1 (.blk 2::K) ⟨V1 a out (ints tl) (ints tl).length i,[],OB a out,3⟩=Run Q K ⟨(102,.bool false)::V1 1 (out++encs r) (ints tl) (ints tl).length (ints tl).length,[],OB 1 (out++encs r),7⟩
 | [],a,out,i,ha,ha2,hd,hi,ho=>by
  obtain rfl:a=1:=by
   rcases ha with h|h
   ·exact h
   ·exact(ha2 h rfl).elim
  have hi':i=tl.length:=by simpa using hi
  have hlt:decide ((i:Int)<((ints tl).length:Int))=false:=by rw[ints_length];simp;omega
  have e:out++encs []=out:=by simp[encs]
  rw[e]
  have hi2:(ints tl).length=i:=by rw[ints_length];omega
  obtain⟨b',hb'⟩:∃b',b'=m109b1:=⟨_,rfl⟩
  obtain⟨rhs,hrr⟩:∃r,r=Run Q K ⟨(102,.bool false)::V1 1 out (ints tl) (ints tl).length (ints tl).length,[],OB 1 out,7⟩:=⟨_,rfl⟩
  rw[←hrr]
  rw[RunL_eq,show Item.lp m109k1 m109b1=Item.lp m109k1 b' by rw[hb']]
  simp(maxSteps:=4000000)(disch:=first|exact dz|fail)only[bA.u,seval,cut,if_pos,if_neg,m109b1,V1,OB,hlt]
  rw[hrr]
  unfold V1 OB
  rw[hi2]
 |n::r,a,out,i,ha,ha2,hd,hi,ho=>by
  simp only[List.length_cons]at hi
  have hg:tl[i]? = some n:=by
   have:=congrArg (·[0]?) hd
   simpa[List.getElem?_drop]using this
  have hd':tl.drop (i+1)=r:=by
   have:=congrArg (List.drop 1) hd
   simpa[List.drop_drop]using this
  have hl:=enc_len n
  rw[c53_out1 a ha out (by omega) (ints tl) i n (hr n (List.mem_of_getElem? hg)) (by rw[ints_length];omega) (by simp[ints,List.getElem?_map,hg]) (by rw[ints_length];omega) K]
  have ih:=c53_outs tl htl hr K r 1 (out++enc n) (i+1) (.inl rfl) (fun h=>by omega) hd' (by omega) (by simp;omega)
  have e:((i:Int)+1)=((i+1:Nat):Int):=by omega
  rw[e,ih]
  have e2:out++enc n++encs r=out++encs (n::r):=by simp[encs]
  rw[e2]
theorem split_length (s:List UInt8):∀p∈Lib.splitK [46] 0 (Lib.count s [46]) s,p.length≤s.length:=splitK_len [46] _ s
theorem V1len (x:Int) (r:List Int):[(2,MV.ptr 0 0),(10,.own 2 0),(99,.sl 1 (ints (x::r))),(100,.int .i64 ((r.length+1:Nat):Int)),(101,.int .i64 0)]=V1 2 [] (ints (x::r)) (ints (x::r)).length (0:Nat):=by simp[V1,ints]
def good53 (out:List UInt8):MV:=.tup [.agg [.int .i64 0,.int .i64 6,.bool false,.bs out,.nilsl],.bool true]
def ans53:Option (List UInt8)→MV
 |some out=>good53 out
 |none=>bad53
theorem c53 (s:List UInt8) (hs:s.length<1000000):Call Q 109 [.str s]=some (ans53 (oidS s)):=by
 obtain⟨ps,hps⟩:∃ps,ps=Lib.splitK [46] 0 (Lib.count s [46]) s:=⟨_,rfl⟩
 have hsp:Call Q 143 [.str s,.str [46]]=some (.sl 1 (ps.map .str)):=by
  rw[Call_prim Q (g:=pSplit) rfl,hps]
  simp only[pSplit,List.length_cons,List.length_nil]
  rw[if_pos ⟨by omega,by omega⟩]
 have hpl:∀p∈ps,p.length<1000000:=fun p hp=>by have:=split_length s p (hps▸hp);omega
 unfold oidS
 rw[←hps]
 simp only
 rw[Call_fn Q (m:=m109) rfl rfl]
 by_cases h1:ps.length<2
 ·have d1:decide ((ps.length:Int)<2)=true:=by simp;omega
  rw[if_pos (.inl h1)]
  simp(maxSteps:=4000000)(disch:=first|exact dz|fail)only[bA.u,seval,cut,if_pos,if_neg,m109,hsp,d1,List.length_map,bad53,zero5]
  all_goals rfl
 have d1:decide ((ps.length:Int)<2)=false:=by simp;omega
 by_cases h2:20<ps.length
 ·have d2:decide (20<(ps.length:Int))=true:=by simp;omega
  rw[if_pos (.inr h2)]
  simp(maxSteps:=4000000)(disch:=first|exact dz|fail)only[bA.u,seval,cut,if_pos,if_neg,m109,hsp,d1,d2,List.length_map,bad53,zero5]
  all_goals rfl
 have d2:decide (20<(ps.length:Int))=false:=by simp;omega
 rw[if_neg (by omega)]
 obtain⟨x,hx⟩:∃x,x=numsP ps:=⟨_,rfl⟩
 rw[←hx]
 simp(maxSteps:=4000000)(disch:=first|exact dz|fail)only[bA.u,seval,cut,if_pos,if_neg,m109,hsp,d1,d2,List.length_map,Run_loop]
 refine(congrArg (fin _) (RunL_canon (canon_cong (V:=V53 2 ps [] (0:Nat)) (O:=O53 2 []) (nx:=3) kr kr kr))).trans ?_
 refine(c53_nums ps (by omega) hpl _ ps 2 [] 0 (.inr rfl) (fun _ h=>by rw[h]at h1;simp at h1) rfl (by simp) rfl).trans ?_
 rw[←hx]
 cases x with
 |none=>rfl
 |some ns=>
  have hn:=hx.symm
  obtain⟨hl,hb⟩:=numsP_length hn
  match ns,hl,hb with
  | [],hl,_=>simp at hl;omega
  | [_],hl,_=>simp at hl;omega
  |n0::n1::r,hl,hb=>
   simp only[List.nil_append]
   have b0:=hb n0 (by simp)
   have b1:=hb n1 (by simp)
   have hl':r.length+1+1=ps.length:=by simpa using hl
   have p0:(0:Int)<((r.length+1+1:Nat):Int):=by omega
   have p1:(1:Int)<((r.length+1+1:Nat):Int):=by omega
   have p2:(1:Int)≤((r.length+1+1:Nat):Int):=by omega
   have tk:∀f:Int→MV,List.take r.length (r.map f)=r.map f:=fun f=>by rw[List.take_of_length_le];simp
   have oe:oidN (n0::n1::r)=if 2<n0∨n0<2∧39<n1∨n0=2∧1099511627776≤n1+80 then none else some (encs ((n1+40*n0)::r)):=rfl
   show _=some (ans53 (oidN (n0::n1::r)))
   rw[oe]
   by_cases c1:2<n0
   ·have e1:decide (2<n0)=true:=by simp;omega
    rw[if_pos (.inl c1)]
    simp(maxSteps:=4000000)(disch:=first|exact dz|fail)only[bA.u,seval,cut,if_pos,if_neg,V53,O53,R53,ints,zero5,p0,p1,p2,tk,Nat.add_sub_cancel,show r.length+2-1=r.length+1 from rfl,Run_loop,List.length_map,e1]
    all_goals rfl
   have e1:decide (2<n0)=false:=by simp;omega
   have ok:∀out,out=encs ((n1+40*n0)::r)→some (good53 out)=some (ans53 (some (encs ((n1+40*n0)::r)))):=fun out h=>by rw[h];rfl
   have outs:=fun K=>c53_outs ((n1+40*n0)::r) (by simp;omega) (fun n hn=>by
    rcases List.mem_cons.1 hn with rfl|hn
    ·omega
    ·have:=hb n (by simp[hn]);omega) K ((n1+40*n0)::r) 2 [] 0 (.inr rfl) (fun _ h=>by cases h) rfl (by simp) (by simp)
   by_cases c2:n0<2
   ·have e2:decide (n0<2)=true:=by simp;omega
    have e4:(n0==2)=false:=by simp;omega
    by_cases c3:39<n1
    ·have e3:decide (39<n1)=true:=by simp;omega
     rw[if_pos (.inr (.inl ⟨c2,c3⟩))]
     simp(maxSteps:=4000000)(disch:=first|exact dz|fail)only[bA.u,seval,cut,if_pos,if_neg,V53,O53,R53,ints,zero5,p0,p1,p2,tk,Nat.add_sub_cancel,show r.length+2-1=r.length+1 from rfl,Run_loop,List.length_map,e1,e2,e3,e4]
     all_goals rfl
    ·have e3:decide (39<n1)=false:=by simp;omega
     rw[if_neg (by omega),←ok _ rfl]
     simp(maxSteps:=4000000)(disch:=first|exact dz|fail)only[bA.u,seval,cut,if_pos,if_neg,V53,O53,R53,ints,zero5,p0,p1,p2,tk,Nat.add_sub_cancel,show r.length+2-1=r.length+1 from rfl,Run_loop,List.length_map,e1,e2,e3,e4]
     refine(congrArg (fin _) (RunL_canon (canon_cong (V:=V1 2 [] (ints ((n1+40*n0)::r)) (ints ((n1+40*n0)::r)).length (0:Nat)) (O:=OB 2 []) (nx:=3) (Eq.trans kr (V1len (n1+40*n0) r)) kr kr))).trans ?_
     rw[outs]
     simp(maxSteps:=4000000)(disch:=first|exact dz|fail)only[bA.u,seval,cut,if_pos,if_neg,V1,OB,zero5,good53]
   ·have e2:decide (n0<2)=false:=by simp;omega
    obtain rfl:n0=2:=by omega
    by_cases c3:1099511627776≤n1+80
    ·have e3:decide (1099511627776≤n1+80)=true:=by simp;omega
     rw[if_pos (.inr (.inr ⟨rfl,c3⟩))]
     simp(maxSteps:=4000000)(disch:=first|exact dz|fail)only[bA.u,seval,cut,if_pos,if_neg,V53,O53,R53,ints,zero5,p0,p1,p2,tk,Nat.add_sub_cancel,show r.length+2-1=r.length+1 from rfl,Run_loop,List.length_map,e1,e2,e3]
     all_goals rfl
    ·have e3:decide (1099511627776≤n1+80)=false:=by simp;omega
     rw[if_neg (by omega),←ok _ rfl]
     simp(maxSteps:=4000000)(disch:=first|exact dz|fail)only[bA.u,seval,cut,if_pos,if_neg,V53,O53,R53,ints,zero5,p0,p1,p2,tk,Nat.add_sub_cancel,show r.length+2-1=r.length+1 from rfl,Run_loop,List.length_map,e1,e2,e3]
     refine(congrArg (fin _) (RunL_canon (canon_cong (V:=V1 2 [] (ints ((n1+40*2)::r)) (ints ((n1+40*2)::r)).length (0:Nat)) (O:=OB 2 []) (nx:=3) (Eq.trans kr (V1len (n1+40*2) r)) kr kr))).trans ?_
     rw[outs]
     simp(maxSteps:=4000000)(disch:=first|exact dz|fail)only[bA.u,seval,cut,if_pos,if_neg,V1,OB,zero5,good53]
abbrev printB:=prB
theorem c81 (c:UInt8):Call Q 148 [.int .u8 (c.toNat:Int)]=some (.bool (printB c)):=c_prn c
def V47 (s:List UInt8) (n i:Int):List (Nat × MV):=[(0,.str s),(5,.int .i64 n),(6,.int .i64 i)]
def R47:List (Nat × Option (Bool × Nat) × PK):=[(2,none,.other)]
def K47:List Item:=[.blk 0,.code (.seq (.rg [⟨some (.v 2),.mv (.c (.int .i64 19)),none⟩]) .ret)]
theorem c47_loop (s:List UInt8) (hs:s.length<1000000):∀(r:List UInt8) (i:Nat),s.drop i=r→i+r.length=s.length →
  fin R47 (RunL Q m113k0 m113b0 K47 ⟨V47 s s.length i,[],[],1⟩)=some (.int .i64 (if r.all printB then 19 else 12))
 | [],i,hd,hi=>by
  have hi':i=s.length:=by simpa using hi
  subst hi'
  have hlt:decide ((s.length:Int)<(s.length:Int))=false:=by simp
  obtain⟨b',hb'⟩:∃b',b'=m113b0:=⟨_,rfl⟩
  rw[RunL_eq,show Item.lp m113k0 m113b0=Item.lp m113k0 b' by rw[hb']]
  simp(maxSteps:=4000000)(disch:=first|exact dz|fail)only[bA.u,seval,cut,if_pos,if_neg,m113b0,V47,R47,K47,hlt]
 |c::r,i,hd,hi=>by
  simp only[List.length_cons]at hi
  have hlt:decide ((i:Int)<(s.length:Int))=true:=by simp;omega
  have i0:(0:Int)≤(i:Int):=by omega
  have i1:(i:Int)<(s.length:Int):=by omega
  have hg:s[i]? = some c:=by
   have:=congrArg (·[0]?) hd
   simpa[List.getElem?_drop]using this
  have hg':s.getD i 0=c:=by rw[List.getD_eq_getElem?_getD,hg];rfl
  have hd':s.drop (i+1)=r:=by
   have:=congrArg (List.drop 1) hd
   simpa[List.drop_drop]using this
  have hc:=c81 c
  have ih:=c47_loop s hs r (i+1) hd' (by omega)
  have e:((i:Int)+1)=((i+1:Nat):Int):=by omega
  obtain⟨b',hb'⟩:∃b',b'=m113b0:=⟨_,rfl⟩
  rw[RunL_eq,show Item.lp m113k0 m113b0=Item.lp m113k0 b' by rw[hb']]
  rw[List.all_cons]
  cases hp:printB c
  ·rw[hp]at hc
   simp(maxSteps:=4000000)(disch:=first|exact dz|fail)only[bA.u,seval,cut,if_pos,if_neg,m113b0,V47,R47,K47,hlt,i0,i1,hg',hc]
   all_goals rfl
  ·rw[hp]at hc
   simp(maxSteps:=4000000)(disch:=first|exact dz|fail)only[bA.u,seval,cut,if_pos,if_neg,m113b0,V47,R47,K47,hlt,i0,i1,hg',hc]
   subst hb'
   refine((congrArg (fin _) (Run_lp Q _ _ _ _)).trans ?_)
   (try rw[Bool.true_and]);rw[←ih]
   exact congrArg (fin R47) (RunL_canon (canon_cong (Eq.trans kr (show [(0,MV.str s),(5,.int .i64 (s.length:Int)),(6,.int .i64 ((i:Int)+1))]=V47 s s.length (i+1:Nat)from by rw[e];rfl)) kr kr))
theorem c47 (s:List UInt8) (hs:s.length<1000000):Call Q 113 [.str s]=some (.int .i64 (if s.all printB then 19 else 12)):=by
 rw[Call_fn Q (m:=m113) rfl rfl,←c47_loop s hs s 0 rfl (by omega)]
 simp(maxSteps:=4000000)(disch:=first|exact dz|fail)only[bA.u,seval,cut,if_pos,if_neg,m113,Run_loop]
 exact congrArg (fin R47) (RunL_canon (canon_cong kr kr kr))
def textB (s:List UInt8):Bool:=decide (1≤s.length)&&decide (s.length≤64)&&Lib.validD s
theorem c46 (s:List UInt8) (hs:s.length<1000000):Call Q 112 [.str s]=some (.bool (textB s)):=by
 have hv:Call Q 147 [.str s]=some (.bool (Lib.validD s)):=by
  rw[Call_prim Q (g:=pValid) rfl]
  simp only[pValid]
  rw[if_pos (by omega)]
 unfold textB
 rw[Call_fn Q (m:=m112) rfl rfl]
 have e1:decide ((1:Int)≤(s.length:Int))=decide (1≤s.length):=by rw[Bool.eq_iff_iff];simp;omega
 have e2:decide ((s.length:Int)≤64)=decide (s.length≤64):=by rw[Bool.eq_iff_iff];simp;omega
 cases h1:decide (1≤s.length)
 ·simp(maxSteps:=4000000)(disch:=first|exact dz|fail)only[bA.u,seval,cut,if_pos,if_neg,m112,e1,e2,h1,hv]
  all_goals rfl
 ·cases h2:decide (s.length≤64)
  ·simp(maxSteps:=4000000)(disch:=first|exact dz|fail)only[bA.u,seval,cut,if_pos,if_neg,m112,e1,e2,h1,h2,hv]
   all_goals rfl
  ·simp(maxSteps:=4000000)(disch:=first|exact dz|fail)only[bA.u,seval,cut,if_pos,if_neg,m112,e1,e2,h1,h2,hv]
   all_goals rfl
abbrev Dn:=List (List UInt8 × List UInt8)
def attr (a:List UInt8 × List UInt8):MV:=.agg [.str a.1,.str a.2]
def attrs (d:Dn):List MV:=d.map attr
theorem attrs_length (d:Dn):(attrs d).length=d.length:=by simp[attrs]
theorem attrs_get {d:Dn} {i:Nat} {a:List UInt8 × List UInt8} (h:d[i]? = some a):(attrs d)[i]? = some (.agg [.str a.1,.str a.2]):=by
 simp[attrs,h,attr]
theorem c55 (t x:List UInt8) (hx:x.length<1000000):Call Q 262 [.agg [.str t,.str x]]=some (.bool (!textB x)):=by
 have h:=c46 x hx
 rw[Call_fn Q (m:=m262) rfl rfl]
 simp(maxSteps:=4000000)(disch:=first|exact dz|fail)only[bA.u,seval,cut,if_pos,if_neg,m262,h]
def badAt:Dn→Int→Int
 | [],_=>-1
 |a::r,i=>if textB a.2 then badAt r (i+1)else i
def R86:List (Nat × Option (Bool × Nat) × PK):=[(4,none,.other)]
def V86 (d:Dn) (n i:Int):List (Nat × MV):=[(0,.sl 2 (attrs d)),(1,.fn 262 []),(7,.int .i64 n),(8,.int .i64 i)]
def K86:List Item:=[.blk 0,.code (.seq (.rg [⟨some (.v 4),.mv (.c (.int .i64 (-1))),none⟩]) .ret)]
def okLens (d:Dn):Prop:=d.length<1000000∧∀a∈d,a.1.length<1000000∧a.2.length<1000000
theorem c86_loop (d:Dn) (hl:okLens d):∀(r:Dn) (i:Nat),d.drop i=r→i+r.length=d.length →
  fin R86 (RunL Q m269k0 m269b0 K86 ⟨V86 d d.length i,[],[],1⟩)=some (.int .i64 (badAt r i))
 | [],i,hd,hi=>by
  have hi':i=d.length:=by simpa using hi
  subst hi'
  have hlt:decide ((d.length:Int)<(d.length:Int))=false:=by simp
  obtain⟨b',hb'⟩:∃b',b'=m269b0:=⟨_,rfl⟩
  rw[RunL_eq,show Item.lp m269k0 m269b0=Item.lp m269k0 b' by rw[hb']]
  simp(maxSteps:=4000000)(disch:=first|exact dz|fail)only[bA.u,seval,cut,if_pos,if_neg,m269b0,V86,R86,K86,hlt]
  all_goals rfl
 |a::r,i,hd,hi=>by
  simp only[List.length_cons]at hi
  have hlen:=hl.1
  have hlt:decide ((i:Int)<(d.length:Int))=true:=by simp;omega
  have i0:(0:Int)≤(i:Int):=by omega
  have i1:(i:Int)<(d.length:Int):=by omega
  have hg:d[i]? = some a:=by
   have:=congrArg (·[0]?) hd
   simpa[List.getElem?_drop]using this
  have hg':=attrs_get hg
  have hal:=attrs_length d
  have hd':d.drop (i+1)=r:=by
   have:=congrArg (List.drop 1) hd
   simpa[List.drop_drop]using this
  have hc:=c55 a.1 a.2 (hl.2 a (List.mem_of_getElem? hg)).2
  have ih:=c86_loop d hl r (i+1) hd' (by omega)
  have e:((i:Int)+1)=((i+1:Nat):Int):=by omega
  obtain⟨b',hb'⟩:∃b',b'=m269b0:=⟨_,rfl⟩
  rw[RunL_eq,show Item.lp m269k0 m269b0=Item.lp m269k0 b' by rw[hb']]
  rw[show badAt (a::r) i=if textB a.2 then badAt r (i+1)else i from rfl]
  cases hp:textB a.2
  ·rw[hp]at hc
   simp(maxSteps:=4000000)(disch:=first|exact dz|fail)only[bA.u,seval,cut,if_pos,if_neg,m269b0,V86,R86,K86,hlt,i0,i1,hal,hg',hc]
  ·rw[hp]at hc
   obtain⟨rhs,hr⟩:∃x,x=badAt r ((i:Int)+1):=⟨_,rfl⟩
   rw[←hr]
   simp(maxSteps:=4000000)(disch:=first|exact dz|fail)only[bA.u,seval,cut,if_pos,if_neg,m269b0,V86,R86,K86,hlt,i0,i1,hal,hg',hc]
   subst hb'
   refine((congrArg (fin _) (Run_lp Q _ _ _ _)).trans ?_)
   rw[hr,e,←ih]
   exact congrArg (fin R86) (RunL_canon (canon_cong (Eq.trans kr (show [(0,MV.sl 2 (attrs d)),(1,.fn 262 []),(7,.int .i64 (d.length:Int)),(8,.int .i64 ((i:Int)+1))]=V86 d d.length (i+1:Nat)from by rw[e];rfl)) kr kr))
theorem c86 (d:Dn) (hl:okLens d):Call Q 269 [.sl 2 (attrs d),.fn 262 []]=some (.int .i64 (badAt d 0)):=by
 have hal:=attrs_length d
 rw[Call_fn Q (m:=m269) rfl rfl,show badAt d 0=badAt d ((0:Nat):Int)from rfl,←c86_loop d hl d 0 rfl (by omega)]
 simp(maxSteps:=4000000)(disch:=first|exact dz|fail)only[bA.u,seval,cut,if_pos,if_neg,m269,hal,Run_loop]
 exact congrArg (fin R86) (RunL_canon (canon_cong kr kr kr))
theorem badAt_any:∀(d:Dn) (i:Int),0≤i→decide (0≤badAt d i)=d.any fun a=>!textB a.2
 | [],i,h=>rfl
 |a::r,i,h=>by
  rw[show badAt (a::r) i=if textB a.2 then badAt r (i+1)else i from rfl,List.any_cons]
  cases textB a.2
  ·simp;omega
  ·simpa using badAt_any r (i+1) (by omega)
theorem c54 (d:Dn) (hl:okLens d):Call Q 261 [.sl 2 (attrs d),.fn 262 []]=some (.bool (d.any fun a=>!textB a.2)):=by
 have h:=c86 d hl
 have h2:=badAt_any d 0 (Int.le_refl _)
 rw[Call_fn Q (m:=m261) rfl rfl]
 simp(maxSteps:=4000000)(disch:=first|exact dz|fail)only[bA.u,seval,cut,if_pos,if_neg,m261,h,h2]
def R58:List (Nat × Option (Bool × Nat) × PK):=[(4,none,.other)]
def V58 (a b:Dn) (n i:Int):List (Nat × MV):=[(0,.sl 2 (attrs a)),(1,.sl 2 (attrs b)),(12,.int .i64 n),(13,.int .i64 i)]
def K58:List Item:=[.blk 0,.code (.seq (.rg [⟨some (.v 4),.mv (.c (.bool true)),none⟩]) .ret)]
theorem c58_loop (a b:Dn) (hl:a.length<1000000) (hb:b.length=a.length):∀(r q:Dn) (i:Nat),a.drop i=r→b.drop i=q→i+r.length=a.length →
  fin R58 (RunL Q m58k0 m58b0 K58 ⟨V58 a b a.length i,[],[],1⟩)=some (.bool (decide (r=q)))
 | [],q,i,hd,hq,hi=>by
  have hi':i=a.length:=by simpa using hi
  subst hi'
  have hq':q=[]:=by rw[←hq,List.drop_eq_nil_of_le (by omega)]
  subst hq'
  have hlt:decide ((a.length:Int)<(a.length:Int))=false:=by simp
  obtain⟨b',hb'⟩:∃b',b'=m58b0:=⟨_,rfl⟩
  rw[RunL_eq,show Item.lp m58k0 m58b0=Item.lp m58k0 b' by rw[hb']]
  simp(maxSteps:=4000000)(disch:=first|exact dz|fail)only[bA.u,seval,cut,if_pos,if_neg,m58b0,V58,R58,K58,hlt]
 |x::r,[],i,hd,hq,hi=>by
  simp only[List.length_cons]at hi
  have:=List.drop_eq_nil_iff.1 hq
  omega
 |x::r,y::q,i,hd,hq,hi=>by
  simp only[List.length_cons]at hi
  have hlt:decide ((i:Int)<(a.length:Int))=true:=by simp;omega
  have i0:(0:Int)≤(i:Int):=by omega
  have i1:(i:Int)<(a.length:Int):=by omega
  have hg:a[i]? = some x:=by
   have:=congrArg (·[0]?) hd
   simpa[List.getElem?_drop]using this
  have hg2:b[i]? = some y:=by
   have:=congrArg (·[0]?) hq
   simpa[List.getElem?_drop]using this
  have ga:=attrs_get hg
  have gb:=attrs_get hg2
  have la:=attrs_length a
  have lb:=(attrs_length b).trans hb
  have hd':a.drop (i+1)=r:=by
   have:=congrArg (List.drop 1) hd
   simpa[List.drop_drop]using this
  have hq':b.drop (i+1)=q:=by
   have:=congrArg (List.drop 1) hq
   simpa[List.drop_drop]using this
  have ih:=c58_loop a b hl hb r q (i+1) hd' hq' (by omega)
  have e:((i:Int)+1)=((i+1:Nat):Int):=by omega
  obtain⟨x1,x2⟩:=x
  obtain⟨y1,y2⟩:=y
  obtain⟨b',hb'⟩:∃b',b'=m58b0:=⟨_,rfl⟩
  rw[RunL_eq,show Item.lp m58k0 m58b0=Item.lp m58k0 b' by rw[hb']]
  cases h1:(x1==y1)
  ·have hne:decide ((x1,x2)::r=(y1,y2)::q)=false:=by
    have:x1≠y1:=by simpa using h1
    simp[this]
   rw[hne]
   simp(maxSteps:=4000000)(disch:=first|exact dz|fail)only[bA.u,seval,cut,if_pos,if_neg,m58b0,V58,R58,K58,hlt,i0,i1,la,lb,ga,gb,h1,eqCells]
  ·cases h2:(x2==y2)
   ·have hne:decide ((x1,x2)::r=(y1,y2)::q)=false:=by
     have:x2≠y2:=by simpa using h2
     simp[this]
    rw[hne]
    simp(maxSteps:=4000000)(disch:=first|exact dz|fail)only[bA.u,seval,cut,if_pos,if_neg,m58b0,V58,R58,K58,hlt,i0,i1,la,lb,ga,gb,h1,h2,eqCells]
   ·have he:decide ((x1,x2)::r=(y1,y2)::q)=decide (r=q):=by
     have e1:x1=y1:=by simpa using h1
     have e2:x2=y2:=by simpa using h2
     simp[e1,e2]
    rw[he]
    obtain⟨rhs,hr⟩:∃x,x=decide (r=q):=⟨_,rfl⟩
    rw[←hr]
    simp(maxSteps:=4000000)(disch:=first|exact dz|fail)only[bA.u,seval,cut,if_pos,if_neg,m58b0,V58,R58,K58,hlt,i0,i1,la,lb,ga,gb,h1,h2,eqCells]
    subst hb'
    refine((congrArg (fin _) (Run_lp Q _ _ _ _)).trans ?_)
    rw[hr,←ih]
    exact congrArg (fin R58) (RunL_canon (canon_cong (Eq.trans kr (show [(0,MV.sl 2 (attrs a)),(1,.sl 2 (attrs b)),(12,.int .i64 (a.length:Int)),(13,.int .i64 ((i:Int)+1))]=V58 a b a.length (i+1:Nat)from by rw[e];rfl)) kr kr))
theorem c24 (a b:Dn) (hl:a.length<1000000) (hl2:b.length<1000000):Call Q 20 [.sl 2 (attrs a),.sl 2 (attrs b)]=some (.bool (decide (a=b))):=by
 have la:=attrs_length a
 have lb:=attrs_length b
 have h58:Call Q 58 [.sl 2 (attrs a),.sl 2 (attrs b)]=some (.bool (decide (a=b))):=by
  rw[Call_fn Q (m:=m58) rfl rfl]
  by_cases hb:b.length=a.length
  ·rw[←c58_loop a b hl hb a b 0 rfl rfl (by omega)]
   simp(maxSteps:=4000000)(disch:=first|exact dz|fail)only[bA.u,seval,cut,if_pos,if_neg,m58,la,lb,hb,Run_loop]
   exact congrArg (fin R58) (RunL_canon (canon_cong kr kr kr))
  ·have hne:decide (a=b)=false:=by
    have:a≠b:=fun h=>hb (by rw[h])
    simp[this]
   have hn2:((a.length:Int)==(b.length:Int))=false:=by rw[beq_eq_false_iff_ne];omega
   rw[hne]
   simp(maxSteps:=4000000)(disch:=first|exact dz|fail)only[bA.u,seval,cut,if_pos,if_neg,m58,la,lb,hn2]
 rw[Call_fn Q (m:=m20) rfl rfl]
 simp(maxSteps:=4000000)(disch:=first|exact dz|fail)only[bA.u,seval,cut,if_pos,if_neg,m20,h58]
def tagOf (s:List UInt8):Int:=if s.all printB then 19 else 12
def oidT (out:List UInt8):T:=.mk 0 6 false out []
def textT (s:List UInt8):T:=.mk 0 (tagOf s) false s []
def kidT (out s:List UInt8):T:=.mk 0 17 true [] [.mk 0 16 true [] [oidT out,textT s]]
def oidV (out:List UInt8):MV:=.agg [.int .i64 0,.int .i64 6,.bool false,.bs out,.nilsl]
def textV (s:List UInt8):MV:=.agg [.int .i64 0,.int .i64 (tagOf s),.bool false,.bs s,.nilsl]
def kidV (out s:List UInt8):MV:=.agg [.int .i64 0,.int .i64 17,.bool true,.nilsl,.sl 5 [.agg [.int .i64 0,.int .i64 16,.bool true,.nilsl,.sl 5 [oidV out,textV s]]]]
theorem mvT_kid (out s:List UInt8):mvT (kidT out s)=kidV out s:=by
 simp[kidT,kidV,oidT,textT,oidV,textV,mvT_eq,mvK,mvTs]
def gDn (ks:List T) (a:List UInt8 × List UInt8):List T ⊕ Unit:=match oidS a.1 with
 |none=>.inr ()
 |some out=>.inl (ks++[kidT out a.2])
def R19:List (Nat × Option (Bool × Nat) × PK):=[(2,some (true,5),.other),(3,none,.other)]
def V19 (d:Dn) (i:Int):List (Nat × MV):=[(0,.sl 2 (attrs d)),(2,.ptr 0 0),(4,.ptr 1 0),(15,.sl 2 (attrs d)),(16,.int .i64 (d.length:Int)),(17,.int .i64 i)]
def O19:List MV→List (Nat × Obj)
 | []=>[(0,.cells zero5L),(1,.cells [.int .i64 0,.int .i64 16,.bool true,.nilsl,.nilsl])]
 |k::ks=>[(0,.cells zero5L),(1,.cells [.int .i64 0,.int .i64 16,.bool true,.nilsl,.own 2 (ks.length+1)]),(2,.el 5 (k::ks) false)]
def nx19:List MV→Nat
 | []=>3
 |_=>4
theorem dn_step (d:Dn) (hd:d.length≤16) (hl:okLens d) (K:List Item) (ks:List T) (i:Nat) (a:List UInt8 × List UInt8) (hk:ks.length=i) (hg:d[i]? = some a):
  After (fun ks i=>ks.length=i) (fun ks i=>fin R19 (RunL Q m250k0 m250b0 K ⟨V19 d (i:Nat),[],O19 (ks.map mvT),nx19 (ks.map mvT)⟩)) (fun _=>some (.tup [.agg zero5L,.int .i64 30]))
   (fin R19 (RunL Q m250k0 m250b0 K ⟨V19 d (i:Nat),[],O19 (ks.map mvT),nx19 (ks.map mvT)⟩)) (i+1) (gDn ks a):=by
 have hi:i<d.length:=(List.getElem?_eq_some_iff.1 hg).1
 have hlt:decide ((i:Int)<(d.length:Int))=true:=by simp;omega
 have i1:(i:Int)<(d.length:Int):=by omega
 have hal:=attrs_length d
 have hg':=attrs_get hg
 have lens:=hl.2 a (List.mem_of_getElem? hg)
 have ho:=c53 a.1 lens.1
 have ht:=c47 a.2 lens.2
 have htag:(if a.2.all printB=true then(19:Int)else 12)=tagOf a.2:=rfl
 rw[htag]at ht
 have e:((i+1:Nat):Int)=(i:Int)+1:=rfl
 unfold gDn
 cases hx:oidS a.1 with
 |none=>
  rw[hx]at ho
  simp only[ans53,bad53,zero5,After]at ho ⊢
  cases ks with
  |nil=>
   simp only[List.map_nil,O19,nx19,V19]
   unfold zero5L
   obtain⟨b',hb'⟩:∃b',b'=m250b0:=⟨_,rfl⟩
   rw[RunL_eq,show Item.lp m250k0 m250b0=Item.lp m250k0 b' by rw[hb']]
   apply hide;intro rhs hrhs
   simp(maxSteps:=4000000)(disch:=first|exact dz|fail)only[bA.u,seval,cut,if_pos,if_neg,m250b0,R19,hlt,i1,hal,hg',ho]
   subst hrhs;rfl
  |cons k ks=>
   simp only[List.map_cons,O19,nx19,V19]
   generalize mvT k::ks.map mvT=kl
   generalize(ks.map mvT).length+1=n
   unfold zero5L
   obtain⟨b',hb'⟩:∃b',b'=m250b0:=⟨_,rfl⟩
   rw[RunL_eq,show Item.lp m250k0 m250b0=Item.lp m250k0 b' by rw[hb']]
   apply hide;intro rhs hrhs
   simp(maxSteps:=4000000)(disch:=first|exact dz|fail)only[bA.u,seval,cut,if_pos,if_neg,m250b0,R19,hlt,i1,hal,hg',ho]
   subst hrhs;rfl
 |some out=>
  rw[hx]at ho
  simp only[ans53,good53,After]at ho ⊢
  refine⟨by simp[hk],?_⟩
  cases ks with
  |nil=>
   simp only[List.map_nil,List.nil_append,List.map_cons,mvT_kid,O19,nx19,V19,e]
   unfold zero5L
   obtain⟨b',hb'⟩:∃b',b'=m250b0:=⟨_,rfl⟩
   rw[RunL_eq,show Item.lp m250k0 m250b0=Item.lp m250k0 b' by rw[hb']]
   apply hide;intro rhs hrhs
   simp(maxSteps:=4000000)(disch:=first|exact dz|fail)only[bA.u,seval,cut,if_pos,if_neg,m250b0,hlt,i1,hal,hg',ho,ht]
   subst hrhs;(subst hb';refine(congrArg (fin _) (Run_lp Q _ _ _ _)).trans ?_;exact congrArg (fin R19) (RunL_canon (canon_cong kr kr kr)))
  |cons k ks=>
   simp only[List.length_cons]at hk
   have hml:(ks.map mvT).length=ks.length:=by simp
   have hml2:(ks.map mvT++[kidV out a.2]).length=ks.length+1:=by simp
   simp only[List.map_cons,List.map_append,List.map_nil,List.cons_append,mvT_kid,O19,nx19,V19,e,hml,hml2]
   have hkl:(mvT k::ks.map mvT).length=i:=by simp;omega
   rw[←List.cons_append]
   generalize mvT k::ks.map mvT=kl at hkl ⊢
   rw[hk]
   unfold zero5L
   obtain⟨b',hb'⟩:∃b',b'=m250b0:=⟨_,rfl⟩
   rw[RunL_eq,show Item.lp m250k0 m250b0=Item.lp m250k0 b' by rw[hb']]
   apply hide;intro rhs hrhs
   simp(maxSteps:=4000000)(disch:=first|exact dz|fail)only[bA.u,seval,cut,if_pos,if_neg,m250b0,hlt,i1,hal,hg',ho,ht,hkl]
   subst hrhs;(subst hb';refine(congrArg (fin _) (Run_lp Q _ _ _ _)).trans ?_;exact congrArg (fin R19) (RunL_canon (canon_cong kr kr kr)))
def dn_tail:MCode:=(.seq (.seq (.rg [oT 49 (.mv (.v 0)),
  oV 50 (.call 261 [.t 49,.c (.fn 262 [])])])
  (.cond (.v 50) (.seq (.rg [oT 51 (.build [.int .i64 0,.int .i64 0,.bool false,.nilsl,.nilsl] []),
  oN (.store 5 (.v 2) (.t 51)),
  oV 3 (.mv (.c (.int .i64 31)))])
  (.ret))
  (.skip)))
  (.seq (.rg [oT 52 (.load true 5 (.v 4)),
  oN (.store 5 (.v 2) (.t 52)),
  oV 3 (.mv (.c (.int .i64 0)))])
  (.ret)))
inductive VR where
 |er (e:Int)
 |ok (t:T)
def VR.mv:VR→MV
 | .er e=>.tup [.agg zero5L,.int .i64 e]
 | .ok t=>.tup [mvT t,.int .i64 0]
def dnS (d:Dn):VR:=if 16<d.length then .er 30 else match foldE gDn [] d with
 | .inr _=>.er 30
 | .inl ks=>if(d.any fun a=>!textB a.2)=true then .er 31 else .ok (.mk 0 16 true [] ks)
theorem dn_end (d:Dn) (hl:okLens d) (ks:List T) (hk:ks.length=d.length):fin R19 (RunL Q m250k0 m250b0 [.blk 0,.code dn_tail] ⟨V19 d (d.length:Nat),[],O19 (ks.map mvT),nx19 (ks.map mvT)⟩)=some (VR.mv (if(d.any fun a=>!textB a.2)=true then .er 31 else .ok (.mk 0 16 true [] ks))):=by
 have hlt:decide ((d.length:Int)<(d.length:Int))=false:=by simp
 have hc:=c54 d hl
 have hal:=attrs_length d
 cases hb:d.any fun a=>!textB a.2
 ·rw[hb]at hc
  rw[if_neg (by simp)]
  simp only[VR.mv,mvT_eq,if_true]
  cases ks with
  |nil=>
   simp only[List.map_nil,O19,nx19,V19,mvK]
   unfold zero5L
   obtain⟨b',hb'⟩:∃b',b'=m250b0:=⟨_,rfl⟩
   rw[RunL_eq,show Item.lp m250k0 m250b0=Item.lp m250k0 b' by rw[hb']]
   apply hide;intro rhs hrhs
   simp(maxSteps:=4000000)(disch:=first|exact dz|fail)only[bA.u,seval,cut,if_pos,if_neg,m250b0,R19,dn_tail,hlt,hal,hc]
   subst hrhs;rfl
  |cons k ks=>
   have hkl:(mvT k::ks.map mvT).length=d.length:=by simpa using hk
   have hke:(ks.map mvT).length+1=d.length:=by simpa using hk
   simp only[List.map_cons,O19,nx19,V19,mvK,mvTs,mvTs_map,hke]
   generalize mvT k::ks.map mvT=kl at hkl ⊢
   unfold zero5L
   obtain⟨b',hb'⟩:∃b',b'=m250b0:=⟨_,rfl⟩
   rw[RunL_eq,show Item.lp m250k0 m250b0=Item.lp m250k0 b' by rw[hb']]
   apply hide;intro rhs hrhs
   simp(maxSteps:=4000000)(disch:=first|exact dz|fail)only[bA.u,seval,cut,if_pos,if_neg,m250b0,R19,dn_tail,hlt,hal,hc,hkl]
   subst hrhs;rfl
 ·rw[hb]at hc
  rw[if_pos rfl]
  simp only[VR.mv]
  cases ks with
  |nil=>
   simp only[List.map_nil,O19,nx19,V19]
   unfold zero5L
   obtain⟨b',hb'⟩:∃b',b'=m250b0:=⟨_,rfl⟩
   rw[RunL_eq,show Item.lp m250k0 m250b0=Item.lp m250k0 b' by rw[hb']]
   apply hide;intro rhs hrhs
   simp(maxSteps:=4000000)(disch:=first|exact dz|fail)only[bA.u,seval,cut,if_pos,if_neg,m250b0,R19,dn_tail,hlt,hal,hc]
   subst hrhs;rfl
  |cons k ks=>
   have hkl:(mvT k::ks.map mvT).length=d.length:=by simpa using hk
   have hke:(ks.map mvT).length+1=d.length:=by simpa using hk
   simp only[List.map_cons,O19,nx19,V19,hke]
   generalize mvT k::ks.map mvT=kl at hkl ⊢
   unfold zero5L
   obtain⟨b',hb'⟩:∃b',b'=m250b0:=⟨_,rfl⟩
   rw[RunL_eq,show Item.lp m250k0 m250b0=Item.lp m250k0 b' by rw[hb']]
   apply hide;intro rhs hrhs
   simp(maxSteps:=4000000)(disch:=first|exact dz|fail)only[bA.u,seval,cut,if_pos,if_neg,m250b0,R19,dn_tail,hlt,hal,hc,hkl]
   subst hrhs;rfl
theorem c_DN (d:Dn) (hl:okLens d):Call Q 250 [.sl 2 (attrs d)]=some (dnS d).mv:=by
 have hal:=attrs_length d
 unfold dnS
 by_cases h16:16<d.length
 ·rw[if_pos h16]
  have h16':decide (16<(d.length:Int))=true:=by simp;omega
  simp only[VR.mv]
  unfold zero5L
  rw[Call_fn Q (m:=m250) rfl rfl]
  apply hide;intro rhs hrhs
  simp(maxSteps:=4000000)(disch:=first|exact dz|fail)only[bA.u,seval,cut,if_pos,if_neg,m250,hal,h16']
  subst hrhs;rfl
 rw[if_neg h16]
 have h16':decide (16<(d.length:Int))=false:=by simp;omega
 rw[Call_fn Q (m:=m250) rfl rfl]
 apply hide;intro rhs hrhs
 simp(maxSteps:=4000000)(disch:=first|exact dz|fail)only[bA.u,seval,cut,if_pos,if_neg,m250,Run_loop,hal,h16']
 refine loopR d gDn (fun ks i=>fin R19 (RunL Q m250k0 m250b0 [.blk 0,.code dn_tail] ⟨V19 d (i:Nat),[],O19 (ks.map mvT),nx19 (ks.map mvT)⟩)) (fun _=>some (.tup [.agg zero5L,.int .i64 30])) (fun ks i=>ks.length=i)
  (fun ks i a hk hg=>dn_step d (by omega) hl _ ks i a hk hg) [] rfl (congrArg (fin _) (RunL_canon (canon_cong kr kr kr))) ?_ ?_
 ·intro ks hf hk
  rw[hrhs,hf]
  exact dn_end d hl ks hk
 ·intro c hf
  rw[hrhs,hf]
  rfl
theorem call_nil (f:Nat) (m:MFunc) (hf:Q.prim f=none) (hm:Q.fn f=some m) (h:entry m [.nilsl]=entry m [.sl 2 (attrs [])]):Call Q f [.nilsl]=Call Q f [.sl 2 (attrs [])]:=by
 rw[Call_fn Q hf hm,Call_fn Q hf hm,h]
def isDir (v:MV) (d:Dn):Prop:=v= .sl 2 (attrs d)∨v= .nilsl∧d=[]
theorem c_DNd {v:MV} {d:Dn} (hv:isDir v d) (hl:okLens d):Call Q 250 [v]=some (dnS d).mv:=by
 rcases hv with rfl|⟨rfl,rfl⟩
 ·exact c_DN d hl
 ·rw[call_nil _ m250 rfl rfl rfl];exact c_DN [] hl
def gM (k:Int) (t:List UInt8) (dv:MV):MV:=.agg [.int .i64 k,.str t,dv]
def oneB (x:UInt8) (j:Nat):Bool:=x>>>UInt8.ofNat j&&&1==1
def maskR (m:List UInt8):Nat→Bool→Nat→Bool
 | 0,_,_=>true
 |k+1,over,i=>if(oneB (m.getD (i/8) 0) (7-i%8)&&over)=true then false else maskR m k (over|| !oneB (m.getD (i/8) 0) (7-i%8)) (i+1)
def maskB (m:List UInt8):Bool:=maskR m (8*m.length) false 0
theorem wU (y:UInt8):IntKind.i64.wrap (y.toNat:Int)=(y.toNat:Int):=w64 (by omega) (by have:=y.toNat_lt;omega)
def rightB (k:Int) (t:List UInt8) (d:Dn) (lim:Bool):Bool:=
 if k=4 then lim||decide (0<d.length)
 else if k=7 then(if lim=true then(decide (t.length=8)||decide (t.length=32))&&maskB (t.drop (t.length/2))else decide (t.length=4)||decide (t.length=16))
 else(decide (0<t.length)||lim)&&decide (t.length≤64)&& !(t.any fun c=>decide (128≤c.toNat))
def kindB (k:Int):Bool:=k==1||k==2||k==4||k==6||k==7
def idxP (P:UInt8→Bool):List UInt8→Nat→Int
 | [],_=>-1
 |c::r,i=>if P c=true then i else idxP P r (i+1)
theorem idxP_any (P:UInt8→Bool):∀(r:List UInt8) (i:Nat),decide ((0:Int)≤idxP P r i)=r.any P
 | [],i=>rfl
 |c::r,i=>by
  unfold idxP
  rw[List.any_cons]
  cases hp:P c
  ·rw[if_neg (by decide),Bool.false_or];exact idxP_any P r (i+1)
  ·rw[if_pos rfl,Bool.true_or];simp
def R124:List (Nat × Option (Bool × Nat) × PK):=[(6,none,.other)]
def V124 (f:Nat):List (Nat × MV):=[(1,.fn f []),(2,.bool true),(10,.ptr 0 0)]
def K124:List Item:=[.blk 0,.code (.seq (.rg [⟨some (.v 6),.mv (.c (.int .i64 (-1))),none⟩]) .ret)]
def Fits (f:Nat) (P:UInt8→Bool) (s:List UInt8):Prop:=∀(i:Nat) (c:UInt8),s[i]? = some c→Call Q f [.int .i32 ((Utf8.decode ⟨s.toArray⟩ i).1:Int)]=some (.bool (P c))∧(P c=false→(Utf8.decode ⟨s.toArray⟩ i).2=1)
theorem c124_loop (f:Nat) (P:UInt8→Bool) (s:List UInt8) (hs:s.length<1000000) (hf:Fits f P s):∀(r:List UInt8) (i:Nat),s.drop i=r→i+r.length=s.length →
  fin R124 (RunL Q m211k0 m211b0 K124 ⟨V124 f,[],[(0,.iter s i)],2⟩)=some (.int .i64 (idxP P r i))
 | [],i,hd,hi=>by
  have hi':i=s.length:=by simpa using hi
  subst hi'
  have hlt:(s.length<s.length)=False:=by simp
  obtain⟨b',hb'⟩:∃b',b'=m211b0:=⟨_,rfl⟩
  rw[RunL_eq,show Item.lp m211k0 m211b0=Item.lp m211k0 b' by rw[hb']]
  simp(maxSteps:=4000000)(disch:=first|exact dz|fail)only[bA.u,seval,cut,if_pos,if_neg,m211b0,V124,R124,K124,hlt]
  all_goals rfl
 |c::r,i,hd,hi=>by
  simp only[List.length_cons]at hi
  have hlt:decide ((i:Int)<(s.length:Int))=true:=by simp;omega
  have i0:(0:Int)≤(i:Int):=by omega
  have i1:(i:Int)<(s.length:Int):=by omega
  have hg:s[i]? = some c:=by
   have:=congrArg (·[0]?) hd
   simpa[List.getElem?_drop]using this
  have hg':s.getD i 0=c:=by rw[List.getD_eq_getElem?_getD,hg];rfl
  have hd':s.drop (i+1)=r:=by
   have:=congrArg (List.drop 1) hd
   simpa[List.drop_drop]using this
  have hlt2:(i<s.length)=True:=eq_true (by omega)
  obtain⟨h1,h2⟩:=hf i c hg
  have ih:=c124_loop f P s hs hf r (i+1) hd' (by omega)
  unfold idxP
  obtain⟨b',hb'⟩:∃b',b'=m211b0:=⟨_,rfl⟩
  rw[RunL_eq,show Item.lp m211k0 m211b0=Item.lp m211k0 b' by rw[hb']]
  cases hp:P c
  ·rw[hp]at h1
   have hw:=h2 hp
   rw[if_neg (by decide)]
   obtain⟨rhs,hr⟩:∃y,y=idxP P r (i+1):=⟨_,rfl⟩
   rw[←hr]
   simp(maxSteps:=4000000)(disch:=first|exact dz|fail)only[bA.u,seval,cut,if_pos,if_neg,m211b0,V124,R124,K124,hlt2,h1,hw]
   subst hb'
   refine((congrArg (fin _) (Run_lp Q _ _ _ _)).trans ?_)
   rw[hr,←ih]
   exact congrArg (fin R124) (RunL_canon (canon_cong kr kr kr))
  ·rw[hp]at h1
   rw[if_pos rfl]
   simp(maxSteps:=4000000)(disch:=first|exact dz|fail)only[bA.u,seval,cut,if_pos,if_neg,m211b0,V124,R124,K124,hlt2,h1]
theorem c124 (f:Nat) (P:UInt8→Bool) (s:List UInt8) (hs:s.length<1000000) (hf:Fits f P s):Call Q 211 [.str s,.fn f [],.bool true]=some (.int .i64 (idxP P s 0)):=by
 rw[Call_fn Q (m:=m211) rfl rfl,←c124_loop f P s hs hf s 0 rfl (by omega)]
 simp(maxSteps:=4000000)(disch:=first|exact dz|fail)only[bA.u,seval,cut,if_pos,if_neg,m211,Run_loop]
 exact congrArg (fin R124) (RunL_canon (canon_cong kr kr kr))
theorem c65 (f:Nat) (P:UInt8→Bool) (s:List UInt8) (hs:s.length<1000000) (hf:Fits f P s):Call Q 164 [.str s,.fn f []]=some (.bool (s.any P)):=by
 have h:=c124 f P s hs hf
 have h96:Call Q 182 [.str s,.fn f []]=some (.int .i64 (idxP P s 0)):=by
  rw[Call_fn Q (m:=m182) rfl rfl]
  simp(maxSteps:=4000000)(disch:=first|exact dz|fail)only[bA.u,seval,cut,if_pos,if_neg,m182,h]
 have h0:=idxP_any P s 0
 rw[Call_fn Q (m:=m164) rfl rfl]
 simp(maxSteps:=4000000)(disch:=first|exact dz|fail)only[bA.u,seval,cut,if_pos,if_neg,m164,h96,h0]
def high (c:UInt8):Bool:=decide (128≤c.toNat)
theorem c78 (n:Int):Call Q 165 [.int .i32 n]=some (.bool (decide (128≤n))):=by
 rw[Call_fn Q (m:=m165) rfl rfl]
 simp(maxSteps:=4000000)(disch:=first|exact dz|fail)only[bA.u,seval,cut,if_pos,if_neg,m165]
theorem decodeN_high (n b0 b1 b2 b3:Nat) (h:128≤b0):128≤(Lib.decodeN n b0 b1 b2 b3).1:=by
 unfold Lib.decodeN
 repeat' split
 all_goals simp only
 all_goals omega
theorem dec_at {s:List UInt8} {i:Nat} {c:UInt8} (h:s[i]? = some c):(c.toNat<128→Utf8.decode ⟨s.toArray⟩ i=(c.toNat,1))∧(128≤c.toNat→128≤(Utf8.decode ⟨s.toArray⟩ i).1):=by
 have hg:s.getD i 0=c:=by rw[List.getD_eq_getElem?_getD,h];rfl
 have e:Utf8.decode ⟨s.toArray⟩ i=Lib.decodeN (s.length-i) (s.getD i 0).toNat (s.getD (i+1) 0).toNat (s.getD (i+2) 0).toNat (s.getD (i+3) 0).toNat:=Lib.decode_N ⟨s.toArray⟩ i
 rw[e,hg]
 refine⟨fun hc=>?_,fun hc=>decodeN_high _ _ _ _ _ hc⟩
 unfold Lib.decodeN
 rw[if_pos hc]
theorem fits_high (s:List UInt8):Fits 165 high s:=by
 intro i c h
 obtain⟨h1,h2⟩:=dec_at h
 rw[c78]
 unfold high
 by_cases hc:c.toNat<128
 ·have e:=h1 hc
  refine⟨?_,fun _=>by rw[e]⟩
  rw[e]
  have:decide ((128:Int)≤((c.toNat:Nat):Int))=decide (128≤c.toNat):=by rw[Bool.eq_iff_iff];simp;omega
  rw[this]
 ·have:=h2 (by omega)
  rw[decide_eq_true (show(128:Int)≤((Utf8.decode ⟨s.toArray⟩ i).1:Int) by omega),decide_eq_true (show 128≤c.toNat by omega)]
  exact⟨rfl,fun h=>by cases h⟩
def R77:List (Nat × Option (Bool × Nat) × PK):=[(2,none,.other)]
def V77 (m:List UInt8) (over:Bool) (n i:Int):List (Nat × MV):=[(0,.str m),(3,.bool over),(8,.int .i64 n),(9,.int .i64 i)]
def K77:List Item:=[.blk 0,.code (.seq (.rg [⟨some (.v 2),.mv (.c (.bool true)),none⟩]) .ret)]
theorem and1t (y:UInt8):(((y&&&1).toNat:Int)==1)=(y&&&1==1):=eq8 (y&&&1) 1
theorem c77_loop (m:List UInt8) (hm:m.length<1000000):∀(k:Nat) (over:Bool) (i:Nat),i+k=8*m.length →
  fin R77 (RunL Q m163k0 m163b0 K77 ⟨V77 m over (8*(m.length:Int)) i,[],[],1⟩)=some (.bool (maskR m k over i))
 | 0,over,i,hi=>by
  have hi':i=8*m.length:=by omega
  subst hi'
  have hlt:decide (((8*m.length:Nat):Int)<8*(m.length:Int))=false:=by simp
  obtain⟨b',hb'⟩:∃b',b'=m163b0:=⟨_,rfl⟩
  rw[RunL_eq,show Item.lp m163k0 m163b0=Item.lp m163k0 b' by rw[hb']]
  simp(maxSteps:=4000000)(disch:=first|exact dz|fail)only[bA.u,seval,cut,if_pos,if_neg,m163b0,V77,K77,R77,hlt]
  all_goals rfl
 |k+1,over,i,hi=>by
  have hlt:decide ((i:Int)<8*(m.length:Int))=true:=by simp;omega
  have i0:(0:Int)≤(i:Int):=by omega
  have e:((i:Int)+1)=((i+1:Nat):Int):=by omega
  have tdi:(i:Int).tdiv 8=((i/8:Nat):Int):=by rw[Int.tdiv_eq_ediv_of_nonneg i0];omega
  have edv:((i:Int)/8).toNat=i/8:=by omega
  have j0:(0:Int)≤((i/8:Nat):Int):=by omega
  have j1:((i/8:Nat):Int)<(m.length:Int):=by omega
  have es:(7-(i:Int)%8).toNat=7-i%8:=by omega
  have i7:(0:Int)≤7-(i:Int)%8:=by omega
  have i8:7-(i:Int)%8<8:=by omega
  have tm8:(i:Int).tmod 8=(i:Int)%8:=Int.tmod_eq_emod_of_nonneg i0
  unfold maskR oneB
  generalize hx:m.getD (i/8) 0=x
  have ih:=fun over'=>c77_loop m hm k over' (i+1) (by omega)
  obtain⟨b',hb'⟩:∃b',b'=m163b0:=⟨_,rfl⟩
  rw[RunL_eq,show Item.lp m163k0 m163b0=Item.lp m163k0 b' by rw[hb']]
  cases h1:(x>>>UInt8.ofNat (7-i%8)&&&1==1)
  ·rw[Bool.false_and,if_neg (by decide),Bool.not_false,Bool.or_true,←ih true]
   cases over
   ·simp(maxSteps:=4000000)(disch:=first|exact dz|fail)only[bA.u,seval,cut,if_pos,if_neg,m163b0,V77,K77,R77,hlt,i0,j0,j1,es,i7,i8,tm8,edv,hx,and1t,h1]
    subst hb'
    refine((congrArg (fin _) (Run_lp Q _ _ _ _)).trans ?_)
    exact congrArg (fin R77) (RunL_canon (canon_cong (Eq.trans kr (show [(0,MV.str m),(3,.bool true),(8,.int .i64 (8*(m.length:Int))),(9,.int .i64 ((i:Int)+1))]=V77 m true (8*(m.length:Int)) (i+1:Nat)from by rw[e];rfl)) kr kr))
   ·simp(maxSteps:=4000000)(disch:=first|exact dz|fail)only[bA.u,seval,cut,if_pos,if_neg,m163b0,V77,K77,R77,hlt,i0,j0,j1,es,i7,i8,tm8,edv,hx,and1t,h1]
    subst hb'
    refine((congrArg (fin _) (Run_lp Q _ _ _ _)).trans ?_)
    exact congrArg (fin R77) (RunL_canon (canon_cong (Eq.trans kr (show [(0,MV.str m),(3,.bool true),(8,.int .i64 (8*(m.length:Int))),(9,.int .i64 ((i:Int)+1))]=V77 m true (8*(m.length:Int)) (i+1:Nat)from by rw[e];rfl)) kr kr))
  ·cases over
   ·rw[Bool.and_false,if_neg (by decide),Bool.not_true,Bool.or_false,←ih false]
    simp(maxSteps:=4000000)(disch:=first|exact dz|fail)only[bA.u,seval,cut,if_pos,if_neg,m163b0,V77,K77,R77,hlt,i0,j0,j1,es,i7,i8,tm8,edv,hx,and1t,h1]
    subst hb'
    refine((congrArg (fin _) (Run_lp Q _ _ _ _)).trans ?_)
    exact congrArg (fin R77) (RunL_canon (canon_cong (Eq.trans kr (show [(0,MV.str m),(3,.bool false),(8,.int .i64 (8*(m.length:Int))),(9,.int .i64 ((i:Int)+1))]=V77 m false (8*(m.length:Int)) (i+1:Nat)from by rw[e];rfl)) kr kr))
   ·rw[Bool.and_true,if_pos rfl]
    simp(maxSteps:=4000000)(disch:=first|exact dz|fail)only[bA.u,seval,cut,if_pos,if_neg,m163b0,V77,K77,R77,hlt,i0,j0,j1,es,i7,i8,tm8,edv,hx,and1t,h1]
theorem c77 (m:List UInt8) (hm:m.length<1000000):Call Q 163 [.str m]=some (.bool (maskB m)):=by
 unfold maskB
 rw[Call_fn Q (m:=m163) rfl rfl,←c77_loop m hm (8*m.length) false 0 (by omega)]
 simp(maxSteps:=4000000)(disch:=first|exact dz|fail)only[bA.u,seval,cut,if_pos,if_neg,m163,Run_loop]
 exact congrArg (fin R77) (RunL_canon (canon_cong kr kr kr))
theorem c_kinds (k:Int):Call Q 138 [.int .i64 k]=some (.bool (kindB k)):=by
 rw[Call_fn Q (m:=m138) rfl rfl]
 apply hide;intro rhs hrhs
 simp(maxSteps:=4000000)(disch:=first|exact dz|fail)only[bA.u,seval,cut,if_pos,if_neg,m138]
 repeat'((with_reducible first|refine sp ?_ ?_|fail)<;>intro hx<;>(try simp only[bI.u]at hx)<;>(first|exact xz|(try simp(maxSteps:=4000000)(disch:=first|exact dz|fail)only[bA.u,seval,cut,if_pos,if_neg,hx,m138])))
 all_goals first|exact xz|(subst hrhs;(first|rfl|(refine congrArg some (congrArg MV.bool ?_);rw[Bool.eq_iff_iff];simp only[kindB,Bool.and_eq_true,Bool.or_eq_true,Bool.not_eq_true',Bool.not_eq_true,decide_eq_true_eq,decide_eq_false_iff_not,beq_iff_eq,Bool.false_eq_true,false_iff,true_iff,iff_true,iff_false,←UInt8.toNat_inj];omega)|(refine congrArg some (congrArg MV.bool ?_);rw[Bool.eq_iff_iff];simp[kindB,←UInt8.toNat_inj]at *<;>omega)|(refine congrArg some (congrArg MV.bool ?_);rw[Bool.eq_iff_iff];simp_all[kindB,←UInt8.toNat_inj]<;>omega)))
theorem c_right (k:Int) (t:List UInt8) (dv:MV) (d:Dn) (hdv:isDir dv d) (hd:d.length<1000000) (ht:t.length<1000000) (lim:Bool):Call Q 139 [gM k t dv,.bool lim]=some (.bool (rightB k t d lim)):=by
 have hal:=attrs_length d
 have hm:=c77 (t.drop (t.length/2)) (by simp;omega)
 have hc:=c65 165 (fun c=>decide (128≤c.toNat)) t ht (fits_high t)
 have hdn:∀st,lenV false dv st=some (.int .i64 d.length):=by
  intro st
  rcases hdv with rfl|⟨rfl,rfl⟩
  ·simp only[lenV,hal]
  ·rfl
 have ediv:((t.length:Int)/2).toNat=t.length/2:=by omega
 have htk:(t.drop (t.length/2)).take (t.length-t.length/2)=t.drop (t.length/2):=List.take_of_length_le (by simp)
 have hle:t.length/2≤t.length:=by omega
 have hm8:t.length=8→Call Q 163 [.str (List.take 4 (List.drop 4 t))]=some (.bool (maskB (t.drop (t.length/2)))):=by
  intro h
  rw[←hm,h,List.take_of_length_le (l:=List.drop 4 t) (i:=4) (by simp;omega)]
 have hm32:t.length=32→Call Q 163 [.str (List.take 16 (List.drop 16 t))]=some (.bool (maskB (t.drop (t.length/2)))):=by
  intro h
  rw[←hm,h,List.take_of_length_le (l:=List.drop 16 t) (i:=16) (by simp;omega)]
 unfold gM rightB
 by_cases h4:k=4
 ·subst h4
  rw[if_pos rfl]
  rw[Call_fn Q (m:=m139) rfl rfl]
  rcases hdv with rfl|⟨rfl,rfl⟩<;>cases lim
  all_goals(
  apply hide;intro rhs hrhs
  simp(maxSteps:=4000000)(disch:=first|exact dz|fail)only[bA.u,seval,cut,if_pos,if_neg,m139,hdn,hal]
  repeat'((with_reducible first|refine sp ?_ ?_|fail)<;>intro hx<;>(try simp only[bI.u]at hx)<;>(first|exact xz|(try simp(maxSteps:=4000000)(disch:=first|exact dz|fail)only[bA.u,seval,cut,if_pos,if_neg,hx,m139,hdn,hal])))
  all_goals first|exact xz|(subst hrhs;(first|rfl|(refine congrArg some (congrArg MV.bool ?_);rw[Bool.eq_iff_iff];simp only[Bool.and_eq_true,Bool.or_eq_true,Bool.not_eq_true',Bool.not_eq_true,decide_eq_true_eq,decide_eq_false_iff_not,beq_iff_eq,Bool.false_eq_true,false_iff,true_iff,iff_true,iff_false,←UInt8.toNat_inj];omega)|(refine congrArg some (congrArg MV.bool ?_);rw[Bool.eq_iff_iff];simp[←UInt8.toNat_inj]at *<;>omega)|(refine congrArg some (congrArg MV.bool ?_);rw[Bool.eq_iff_iff];simp_all[←UInt8.toNat_inj]<;>omega))))
 rw[if_neg h4]
 have h4':(k==4)=false:=by simpa using h4
 by_cases h7:k=7
 ·subst h7
  rw[if_pos rfl]
  rw[Call_fn Q (m:=m139) rfl rfl]
  rcases hdv with rfl|⟨rfl,rfl⟩<;>cases lim<;>simp only[if_true,if_false,Bool.false_eq_true]
  all_goals(
  apply hide;intro rhs hrhs
  simp(maxSteps:=4000000)(disch:=first|exact dz|fail)only[bA.u,seval,cut,if_pos,if_neg,m139,hal,hm,hm8,hm32,ediv,htk,hle]
  repeat'((with_reducible first|refine sp ?_ ?_|fail)<;>intro hx<;>(try simp only[bI.u]at hx)<;>(first|exact xz|(try simp(maxSteps:=4000000)(disch:=first|exact dz|fail)only[bA.u,seval,cut,if_pos,if_neg,hx,m139,hal,hm,hm8,hm32,ediv,htk,hle])))
  all_goals first|exact xz|(subst hrhs;first|rfl|(first|rfl|(refine congrArg some (congrArg MV.bool ?_);rw[Bool.eq_iff_iff];simp only[Bool.and_eq_true,Bool.or_eq_true,Bool.not_eq_true',Bool.not_eq_true,decide_eq_true_eq,decide_eq_false_iff_not,beq_iff_eq,Bool.false_eq_true,false_iff,true_iff,iff_true,iff_false,←UInt8.toNat_inj];omega)|(refine congrArg some (congrArg MV.bool ?_);rw[Bool.eq_iff_iff];simp[←UInt8.toNat_inj]at *<;>omega)|(refine congrArg some (congrArg MV.bool ?_);rw[Bool.eq_iff_iff];simp_all[←UInt8.toNat_inj]<;>omega))|(refine congrArg some (congrArg MV.bool ?_);rw[Bool.eq_iff_iff];simp;omega)))
 rw[if_neg h7]
 have h7':(k==7)=false:=by simpa using h7
 rw[Call_fn Q (m:=m139) rfl rfl]
 rcases hdv with rfl|⟨rfl,rfl⟩<;>cases lim
 all_goals(
 apply hide;intro rhs hrhs
 simp(maxSteps:=4000000)(disch:=first|exact dz|fail)only[bA.u,seval,cut,if_pos,if_neg,m139,hal,hc,h4',h7']
 repeat'((with_reducible first|refine sp ?_ ?_|fail)<;>intro hx<;>(try simp only[bI.u]at hx)<;>(first|exact xz|(try simp(maxSteps:=4000000)(disch:=first|exact dz|fail)only[bA.u,seval,cut,if_pos,if_neg,hx,m139,hal,hc,h4',h7'])))
 all_goals first|exact xz|(subst hrhs;first|rfl|(simp_all;done)|(first|rfl|(refine congrArg some (congrArg MV.bool ?_);rw[Bool.eq_iff_iff];simp only[Bool.and_eq_true,Bool.or_eq_true,Bool.not_eq_true',Bool.not_eq_true,decide_eq_true_eq,decide_eq_false_iff_not,beq_iff_eq,Bool.false_eq_true,false_iff,true_iff,iff_true,iff_false,←UInt8.toNat_inj];omega)|(refine congrArg some (congrArg MV.bool ?_);rw[Bool.eq_iff_iff];simp[←UInt8.toNat_inj]at *<;>omega)|(refine congrArg some (congrArg MV.bool ?_);rw[Bool.eq_iff_iff];simp_all[←UInt8.toNat_inj]<;>omega))|(refine congrArg some (congrArg MV.bool ?_);rw[Bool.eq_iff_iff];simp;omega)))
def genS (k:Int) (t:List UInt8) (d:Dn) (lim:Bool):VR:=
 if kindB k=false∨k≠4∧0<d.length∨k=4∧t≠[]then .er 30
 else if k=4 then match dnS d with
  | .er _=>.er 31
  | .ok D=>if rightB k t d lim=true then .ok (.mk 2 4 true [] [D])else .er 31
 else if rightB k t d lim=true then .ok (.mk 2 k false t [])else .er 31
theorem dnS_ne {d:Dn} {e:Int} (h:dnS d= .er e):e≠0:=by
 unfold dnS at h
 split at h
 ·cases h;decide
 ·split at h
  ·cases h;decide
  ·split at h
   ·cases h;decide
   ·cases h
theorem dnS_made {d:Dn} {D:T} (h:dnS d= .ok D):∃ks,D= .mk 0 16 true [] ks:=by
 unfold dnS at h
 split at h
 ·cases h
 ·split at h
  ·cases h
  ·split at h
   ·cases h
   ·cases h;exact⟨_,rfl⟩
theorem c_GValue (k:Int) (t:List UInt8) (dv:MV) (d:Dn) (hdv:isDir dv d) (hl:okLens d) (ht:t.length<1000000) (lim:Bool):Call Q 272 [gM k t dv,.bool lim]=some (genS k t d lim).mv:=by
 have hal:=attrs_length d
 have hr:=c_right k t dv d hdv hl.1 ht lim
 have hdv2:isDir dv d:=hdv
 have hd:=c_DNd hdv hl
 have hk:=c_kinds k
 unfold genS
 unfold gM at hr ⊢
 by_cases h0:kindB k=false∨k≠4∧0<d.length∨k=4∧t≠[]
 ·rw[if_pos h0]
  simp only[VR.mv]
  unfold zero5L
  rw[Call_fn Q (m:=m272) rfl rfl]
  have ht0:t≠[]→(t== [])=false:=by intro h;simpa using h
  rcases hdv with rfl|⟨rfl,rfl⟩
  all_goals(
  apply hide;intro rhs hrhs
  simp(maxSteps:=4000000)(disch:=first|exact dz|fail)only[bA.u,seval,cut,if_pos,if_neg,m272,hal,hk]
  repeat'((with_reducible first|refine sp ?_ ?_|fail)<;>intro hx<;>(try simp only[bI.u]at hx)<;>(first|exact xz|(try simp(maxSteps:=4000000)(disch:=first|exact dz|fail)only[bA.u,seval,cut,if_pos,if_neg,hx,m272,hal,hk])))
  all_goals first|exact xz|(subst hrhs;first|rfl|(exfalso;simp_all;done)|(exfalso;simp_all;omega)))
 rw[if_neg h0]
 have hkt:kindB k=true:=by
  cases h:kindB k
  ·exact absurd (.inl h) h0
  ·rfl
 rw[hkt]at hk
 by_cases h4:k=4
 ·subst h4
  have ht0:t=[]:=Decidable.not_not.1 fun h=>h0 (.inr (.inr ⟨rfl,h⟩))
  subst ht0
  rw[if_pos rfl]
  cases hD:dnS d with
  |er e=>
   rw[hD]at hd
   have he:(e==0)=false:=by simpa using dnS_ne hD
   simp only[VR.mv]at hd ⊢
   unfold zero5L at hd ⊢
   rw[Call_fn Q (m:=m272) rfl rfl]
   rcases hdv with rfl|⟨rfl,rfl⟩
   all_goals(
   apply hide;intro rhs hrhs
   simp(maxSteps:=4000000)(disch:=first|exact dz|fail)only[bA.u,seval,cut,if_pos,if_neg,m272,hal,hk,hd,he]
   repeat'((with_reducible first|refine sp ?_ ?_|fail)<;>intro hx<;>(try simp only[bI.u]at hx)<;>(first|exact xz|(try simp(maxSteps:=4000000)(disch:=first|exact dz|fail)only[bA.u,seval,cut,if_pos,if_neg,hx,m272,hal,hk,hd,he])))
   all_goals first|exact xz|(subst hrhs;rfl))
  |ok D=>
   rw[hD]at hd
   obtain⟨ks,rfl⟩:=dnS_made hD
   have hks:mvK ks= .nilsl∨∃l,mvK ks= .sl 5 l:=by cases ks<;>simp[mvK]
   simp only[VR.mv,mvT_eq,if_true]at hd
   cases hR:rightB 4 [] d lim
   ·rw[hR]at hr
    dsimp only
    rw[if_neg (by simp)]
    simp only[VR.mv]
    unfold zero5L
    rw[Call_fn Q (m:=m272) rfl rfl]
    rcases hks with hks|⟨l,hks⟩<;>rw[hks]at hd<;>rcases hdv with rfl|⟨rfl,rfl⟩
    all_goals(
    apply hide;intro rhs hrhs
    simp(maxSteps:=4000000)(disch:=first|exact dz|fail)only[bA.u,seval,cut,if_pos,if_neg,m272,hal,hk,hd,hr]
    repeat'((with_reducible first|refine sp ?_ ?_|fail)<;>intro hx<;>(try simp only[bI.u]at hx)<;>(first|exact xz|(try simp(maxSteps:=4000000)(disch:=first|exact dz|fail)only[bA.u,seval,cut,if_pos,if_neg,hx,m272,hal,hk,hd,hr])))
    all_goals first|exact xz|(subst hrhs;rfl))
   ·rw[hR]at hr
    dsimp only
    rw[if_pos rfl]
    rw[show VR.mv (.ok (.mk 2 4 true [] [.mk 0 16 true [] ks]))= .tup [.agg [.int .i64 2,.int .i64 4,.bool true,.nilsl,.sl 5 [.agg [.int .i64 0,.int .i64 16,.bool true,.nilsl,mvK ks]]],.int .i64 0] by rw[VR.mv,mvT_eq];show MV.tup [.agg [.int .i64 2,.int .i64 4,.bool true,.nilsl,.sl 5 [mvT _]],_]=_;rw[mvT_eq];rfl]
    rw[Call_fn Q (m:=m272) rfl rfl]
    rcases hks with hks|⟨l,hks⟩<;>rw[hks]at hd<;>rcases hdv with rfl|⟨rfl,rfl⟩
    all_goals(
    apply hide;intro rhs hrhs
    simp(maxSteps:=4000000)(disch:=first|exact dz|fail)only[bA.u,seval,cut,if_pos,if_neg,m272,hal,hk,hd,hr]
    repeat'((with_reducible first|refine sp ?_ ?_|fail)<;>intro hx<;>(try simp only[bI.u]at hx)<;>(first|exact xz|(try simp(maxSteps:=4000000)(disch:=first|exact dz|fail)only[bA.u,seval,cut,if_pos,if_neg,hx,m272,hal,hk,hd,hr])))
    all_goals first|exact xz|(subst hrhs;rw[hks]))
 ·rw[if_neg h4]
  have h4':(k==4)=false:=by simpa using h4
  have hd0:d=[]:=by
   cases d with
   |nil=>rfl
   |cons a r=>exact absurd (.inr (.inl ⟨h4,by simp⟩)) h0
  subst hd0
  cases hR:rightB k t [] lim
  ·rw[hR]at hr
   rw[if_neg (by simp)]
   simp only[VR.mv]
   unfold zero5L
   rw[Call_fn Q (m:=m272) rfl rfl]
   rcases hdv with rfl|⟨rfl,_⟩
   all_goals(
   apply hide;intro rhs hrhs
   simp(maxSteps:=4000000)(disch:=first|exact dz|fail)only[bA.u,seval,cut,if_pos,if_neg,m272,hal,hk,hr,h4']
   repeat'((with_reducible first|refine sp ?_ ?_|fail)<;>intro hx<;>(try simp only[bI.u]at hx)<;>(first|exact xz|(try simp(maxSteps:=4000000)(disch:=first|exact dz|fail)only[bA.u,seval,cut,if_pos,if_neg,hx,m272,hal,hk,hr,h4'])))
   all_goals first|exact xz|(subst hrhs;rfl))
  ·rw[hR]at hr
   rw[if_pos rfl]
   simp only[VR.mv,mvT_eq,if_false,Bool.false_eq_true,mvK]
   rw[Call_fn Q (m:=m272) rfl rfl]
   rcases hdv with rfl|⟨rfl,_⟩
   all_goals(
   apply hide;intro rhs hrhs
   simp(maxSteps:=4000000)(disch:=first|exact dz|fail)only[bA.u,seval,cut,if_pos,if_neg,m272,hal,hk,hr,h4']
   repeat'((with_reducible first|refine sp ?_ ?_|fail)<;>intro hx<;>(try simp only[bI.u]at hx)<;>(first|exact xz|(try simp(maxSteps:=4000000)(disch:=first|exact dz|fail)only[bA.u,seval,cut,if_pos,if_neg,hx,m272,hal,hk,hr,h4'])))
   all_goals first|exact xz|(subst hrhs;rfl))
def yearF (y m:Int):Int:=if m≤2 then y-1 else y
def monF (m:Int):Int:=if m≤2 then m+12 else m
def daysF (y m d:Int):Int:=365*yearF y m+yearF y m/4-yearF y m/100+yearF y m/400+(153*(monF m-3)+2)/5+d-719469
theorem c59 (y m d:Int) (hy:1≤y∧y<100000) (hm:1≤m∧m<100) (hd:0≤d∧d<1000):Call Q 115 [.int .i64 y,.int .i64 m,.int .i64 d]=some (.int .i64 (daysF y m d)):=by
 rw[Call_fn Q (m:=m115) rfl rfl]
 unfold daysF yearF monF
 by_cases h:m≤2
 ·have h':decide (m≤2)=true:=by simpa using h
  rw[if_pos h,if_pos h]
  apply hide;intro rhs hrhs
  simp(maxSteps:=4000000)(disch:=first|exact dz|fail)only[bA.u,seval,cut,if_pos,if_neg,m115,h']
  subst hrhs;rfl
 ·have h':decide (m≤2)=false:=by simpa using h
  rw[if_neg h,if_neg h]
  apply hide;intro rhs hrhs
  simp(maxSteps:=4000000)(disch:=first|exact dz|fail)only[bA.u,seval,cut,if_pos,if_neg,m115,h']
  subst hrhs;rfl
def two (n:Int):List UInt8:=[UInt8.ofNat (48+n.toNat/10),UInt8.ofNat (48+n.toNat%10)]
theorem two_len (n:Int):(two n).length=2:=rfl
theorem c60 (n:Int) (h:0≤n∧n<100):Call Q 270 [.int .i64 n,.int .i64 2]=some (.str (two n)):=by
 have e:=Call_prim Q (f:=116) (args:=[.int .i64 n]) (g:=pItoa) rfl
 have r0:=Call_prim Q (f:=273) (args:=[.str [48],.int .i64 0]) (g:=pRepeat) rfl
 have r1:=Call_prim Q (f:=273) (args:=[.str [48],.int .i64 1]) (g:=pRepeat) rfl
 have r0':pRepeat [.str [48],.int .i64 0]=some (.str []):=by simp[pRepeat,Lib.repeatL]
 have r1':pRepeat [.str [48],.int .i64 1]=some (.str [48]):=by simp[pRepeat,Lib.repeatL]
 rw[r0']at r0
 rw[r1']at r1
 obtain⟨k,rfl⟩:=Int.eq_ofNat_of_zero_le h.1
 have hk:k<100:=by omega
 rw[Call_fn Q (m:=m270) rfl rfl]
 by_cases h1:k<10
 ·have e2:pItoa [.int .i64 (k:Int)]=some (.str [UInt8.ofNat (48+k)]):=by
   simp only[pItoa,itoaL,decF,Int.toNat_natCast]
   rw[if_neg (by omega),if_pos h1]
  rw[e2]at e
  have e3:two (k:Int)=[48,UInt8.ofNat (48+k)]:=by
   unfold two
   rw[Int.toNat_natCast,show k/10=0 by omega,show k%10=k by omega]
   all_goals rfl
  rw[e3]
  simp(maxSteps:=4000000)(disch:=first|exact dz|fail)only[bA.u,seval,cut,if_pos,if_neg,m270,e,r0,r1]
 ·have e2:pItoa [.int .i64 (k:Int)]=some (.str [UInt8.ofNat (48+k/10),UInt8.ofNat (48+k%10)]):=by
   simp only[pItoa,itoaL,decF,Int.toNat_natCast]
   rw[if_neg (by omega),if_neg h1,if_pos (by omega)]
   all_goals rfl
  rw[e2]at e
  have e3:two (k:Int)=[UInt8.ofNat (48+k/10),UInt8.ofNat (48+k%10)]:=by
   unfold two
   rw[Int.toNat_natCast]
  rw[e3]
  simp(maxSteps:=4000000)(disch:=first|exact dz|fail)only[bA.u,seval,cut,if_pos,if_neg,m270,e,r0,r1]
def four (n:Int):List UInt8:=[UInt8.ofNat (48+n.toNat/1000),UInt8.ofNat (48+n.toNat/100%10),UInt8.ofNat (48+n.toNat/10%10),UInt8.ofNat (48+n.toNat%10)]
theorem four_len (n:Int):(four n).length=4:=rfl
theorem itoa4 (n:Int) (h:1000≤n∧n<10000):itoaL n=four n:=by
 obtain⟨k,rfl⟩:=Int.eq_ofNat_of_zero_le (show 0≤n by omega)
 unfold itoaL four
 rw[if_neg (by omega),Int.toNat_natCast]
 simp only[decF]
 rw[if_neg (by omega),if_neg (by omega),if_neg (by omega),if_pos (by omega)]
 simp only[List.cons_append,List.nil_append]
 rw[show k/10/10/10=k/1000 by omega,show k/10/10%10=k/100%10 by omega]
theorem c_pad4 (n:Int) (h:1000≤n∧n<10000):Call Q 270 [.int .i64 n,.int .i64 4]=some (.str (four n)):=by
 have e:=itoa_ok n
 rw[itoa4 n h]at e
 have r0:=Call_prim Q (f:=273) (args:=[.str [48],.int .i64 0]) (g:=pRepeat) rfl
 have r0':pRepeat [.str [48],.int .i64 0]=some (.str []):=by simp[pRepeat,Lib.repeatL]
 rw[r0']at r0
 have hl:=four_len n
 rw[Call_fn Q (m:=m270) rfl rfl]
 apply hide;intro rhs hrhs
 simp(maxSteps:=4000000)(disch:=first|exact dz|fail)only[bA.u,seval,cut,if_pos,if_neg,m270,e,r0,hl]
 subst hrhs;rfl
def yearOf (day:Int):Nat→Int→Int
 | 0,y=>y
 |k+1,y=>if daysF (y+1) 1 1≤day then yearOf day k (y+1)else y
def monOf (day y:Int):Nat→Int→Int
 | 0,m=>m
 |k+1,m=>if daysF y (m+1) 1≤day then monOf day y k (m+1)else m
def Vt0 (day left y:Int):List (Nat × MV):=[(2,.ptr 0 0),(4,.int .i64 day),(5,.int .i64 left),(6,.int .i64 y)]
def Vt1 (day left y m:Int):List (Nat × MV):=[(2,.ptr 0 0),(4,.int .i64 day),(5,.int .i64 left),(6,.int .i64 y),(7,.int .i64 m)]
def OT:List (Nat × Obj):=[(0,.cells zero5L)]
def R_t:List (Nat × Option (Bool × Nat) × PK):=[(2,some (true,5),.other),(3,none,.other)]
theorem yearOf_ok (day:Int) (hday:day<daysF 10000 1 1):∀(k:Nat) (y:Int),1970≤y→y+k=9999→daysF y 1 1≤day→y≤yearOf day k y∧yearOf day k y≤9999∧daysF (yearOf day k y) 1 1≤day∧day<daysF (yearOf day k y+1) 1 1
 | 0,y,h0,h1,h2=>by
  obtain rfl:y=9999:=by omega
  exact⟨by rw[yearOf];omega,by rw[yearOf];omega,by rw[yearOf];omega,hday⟩
 |k+1,y,h0,h1,h2=>by
  rw[yearOf]
  split
  ·rename_i h
   have:=yearOf_ok day hday k (y+1) (by omega) (by omega) h
   omega
  ·exact⟨by omega,by omega,h2,by omega⟩
theorem monOf_ok (day y:Int):∀(k:Nat) (m:Int),1≤m→m+k=12→daysF y m 1≤day→m≤monOf day y k m∧monOf day y k m≤12∧daysF y (monOf day y k m) 1≤day∧(monOf day y k m<12→day<daysF y (monOf day y k m+1) 1)
 | 0,m,h0,h1,h2=>by rw[monOf];exact⟨by omega,by omega,h2,by omega⟩
 |k+1,m,h0,h1,h2=>by
  rw[monOf]
  split
  ·rename_i h
   have:=monOf_ok day y k (m+1) (by omega) (by omega) h
   omega
  ·exact⟨by omega,by omega,h2,by omega⟩
theorem t_years (day left:Int) (hday:day<daysF 10000 1 1) (K:List Item):∀(k:Nat) (y:Int),1970≤y→y+k=9999 →
  fin R_t (RunL Q m263k0 m263b0 (.blk 0::K) ⟨Vt0 day left y,[],OT,2⟩)=fin R_t (Run Q K ⟨(27,.bool false)::Vt0 day left (yearOf day k y),[],OT,22⟩)
 | 0,y,h0,h1=>by
  obtain rfl:y=9999:=by omega
  have c:=c59 (9999+1) 1 1 (by omega) (by omega) (by omega)
  have hle:decide (daysF (9999+1) 1 1≤day)=false:=by simp;exact hday
  rw[yearOf]
  generalize daysF (9999+1) 1 1=D at c hle
  unfold Vt0 OT zero5L
  rw[show(9999+1:Int)=10000 from rfl]at c
  obtain⟨b',hb'⟩:∃b',b'=m263b0:=⟨_,rfl⟩
  rw[RunL_eq,show Item.lp m263k0 m263b0=Item.lp m263k0 b' by rw[hb']]
  apply hide;intro rhs hrhs
  simp(maxSteps:=4000000)(disch:=first|exact dz|fail)only[bA.u,seval,cut,if_pos,if_neg,m263b0,c,hle]
  subst hrhs;rfl
 |k+1,y,h0,h1=>by
  have c:=c59 (y+1) 1 1 (by omega) (by omega) (by omega)
  rw[yearOf]
  by_cases h:daysF (y+1) 1 1≤day
  ·rw[if_pos h,←t_years day left hday K k (y+1) (by omega) (by omega)]
   have hle:decide (daysF (y+1) 1 1≤day)=true:=by simpa using h
   unfold Vt0 OT zero5L
   obtain⟨b',hb'⟩:∃b',b'=m263b0:=⟨_,rfl⟩
   rw[RunL_eq,show Item.lp m263k0 m263b0=Item.lp m263k0 b' by rw[hb']]
   apply hide;intro rhs hrhs
   simp(maxSteps:=4000000)(disch:=first|exact dz|fail)only[bA.u,seval,cut,if_pos,if_neg,m263b0,R_t,c,hle]
   subst hrhs;(subst hb';refine(congrArg (fin _) (Run_lp Q _ _ _ _)).trans ?_;exact congrArg (fin R_t) (RunL_canon (canon_cong kr kr kr)))
  ·rw[if_neg h]
   have hle:decide (daysF (y+1) 1 1≤day)=false:=by simpa using h
   unfold Vt0 OT zero5L
   obtain⟨b',hb'⟩:∃b',b'=m263b0:=⟨_,rfl⟩
   rw[RunL_eq,show Item.lp m263k0 m263b0=Item.lp m263k0 b' by rw[hb']]
   apply hide;intro rhs hrhs
   simp(maxSteps:=4000000)(disch:=first|exact dz|fail)only[bA.u,seval,cut,if_pos,if_neg,m263b0,c,hle]
   subst hrhs;rfl
theorem t_months (day left y:Int) (hy:1970≤y∧y≤9999) (K:List Item):∀(k:Nat) (m:Int),1≤m→m+k=12 →
  fin R_t (RunL Q m263k1 m263b1 (.blk 2::K) ⟨Vt1 day left y m,[],OT,2⟩)=fin R_t (Run Q K ⟨(39,.bool false)::Vt1 day left y (monOf day y k m),[],OT,42⟩)
 | 0,m,h0,h1=>by
  obtain rfl:m=12:=by omega
  rw[monOf]
  unfold Vt1 OT zero5L
  obtain⟨b',hb'⟩:∃b',b'=m263b1:=⟨_,rfl⟩
  rw[RunL_eq,show Item.lp m263k1 m263b1=Item.lp m263k1 b' by rw[hb']]
  apply hide;intro rhs hrhs
  simp(maxSteps:=4000000)(disch:=first|exact dz|fail)only[bA.u,seval,cut,if_pos,if_neg,m263b1]
  subst hrhs;rfl
 |k+1,m,h0,h1=>by
  have c:=c59 y (m+1) 1 (by omega) (by omega) (by omega)
  have hlt:decide (m<12)=true:=by simp;omega
  rw[monOf]
  by_cases h:daysF y (m+1) 1≤day
  ·rw[if_pos h,←t_months day left y hy K k (m+1) (by omega) (by omega)]
   have hle:decide (daysF y (m+1) 1≤day)=true:=by simpa using h
   unfold Vt1 OT zero5L
   obtain⟨b',hb'⟩:∃b',b'=m263b1:=⟨_,rfl⟩
   rw[RunL_eq,show Item.lp m263k1 m263b1=Item.lp m263k1 b' by rw[hb']]
   apply hide;intro rhs hrhs
   simp(maxSteps:=4000000)(disch:=first|exact dz|fail)only[bA.u,seval,cut,if_pos,if_neg,m263b1,R_t,hlt,c,hle]
   subst hrhs;(subst hb';refine(congrArg (fin _) (Run_lp Q _ _ _ _)).trans ?_;exact congrArg (fin R_t) (RunL_canon (canon_cong kr kr kr)))
  ·rw[if_neg h]
   have hle:decide (daysF y (m+1) 1≤day)=false:=by simpa using h
   unfold Vt1 OT zero5L
   obtain⟨b',hb'⟩:∃b',b'=m263b1:=⟨_,rfl⟩
   rw[RunL_eq,show Item.lp m263k1 m263b1=Item.lp m263k1 b' by rw[hb']]
   apply hide;intro rhs hrhs
   simp(maxSteps:=4000000)(disch:=first|exact dz|fail)only[bA.u,seval,cut,if_pos,if_neg,m263b1,hlt,c,hle]
   subst hrhs;rfl
def yOf (t:Int):Int:=yearOf (t/86400) (9999-(1970+t/86400/366)).toNat (1970+t/86400/366)
def mOf (t:Int):Int:=monOf (t/86400) (yOf t) 11 1
def dOf (t:Int):Int:=t/86400-daysF (yOf t) (mOf t) 1+1
def restB (m d l:Int):List UInt8:=two m++two d++two (l/3600)++two (l/60%60)++two (l%60)++[90]
def timeS (t:Int):VR:=if t<0∨253402300799<t then .er 32
 else if yOf t<2050 then .ok (.mk 0 23 false (two (yOf t%100)++restB (mOf t) (dOf t) (t%86400)) [])
 else .ok (.mk 0 24 false (four (yOf t)++restB (mOf t) (dOf t) (t%86400)) [])
theorem month_len (y m:Int) (hy:1970≤y∧y≤9999) (hm:1≤m∧m≤12):daysF y (m+1) 1-daysF y m 1≤31∧daysF (y+1) 1 1-daysF y 12 1≤31:=by
 have hc:m=1∨m=2∨m=3∨m=4∨m=5∨m=6∨m=7∨m=8∨m=9∨m=10∨m=11∨m=12:=by omega
 rcases hc with rfl|rfl|rfl|rfl|rfl|rfl|rfl|rfl|rfl|rfl|rfl|rfl<;>simp only[daysF,yearF,monF,Int.reduceLE,Int.reduceAdd,if_true,if_false]<;>(try simp only[show ¬((13:Int)≤2) by decide,if_false])<;>omega
theorem time_rng (t:Int) (h0:0≤t) (h1:t≤253402300799):1970≤yOf t∧yOf t≤9999∧1≤mOf t∧mOf t≤12∧1≤dOf t∧dOf t≤31∧daysF (yOf t) (mOf t) 1+(dOf t-1)=t/86400∧(mOf t<12→t/86400<daysF (yOf t) (mOf t+1) 1)∧daysF (yOf t) 1 1≤t/86400∧t/86400<daysF (yOf t+1) 1 1:=by
 have hday:t/86400<daysF 10000 1 1:=by
  simp only[daysF,yearF,monF,Int.reduceLE,if_true];omega
 have hyear:daysF (1970+t/86400/366) 1 1≤t/86400:=by
  simp only[daysF,yearF,monF,Int.reduceLE,if_true];omega
 have hY:=yearOf_ok (t/86400) hday (9999-(1970+t/86400/366)).toNat (1970+t/86400/366) (by omega) (by omega) hyear
 rw[show yearOf (t/86400) (9999-(1970+t/86400/366)).toNat (1970+t/86400/366)=yOf t from rfl]at hY
 obtain⟨y1,y2,y3,y4⟩:=hY
 have hM:=monOf_ok (t/86400) (yOf t) 11 1 (by omega) (by omega) y3
 rw[show monOf (t/86400) (yOf t) 11 1=mOf t from rfl]at hM
 obtain⟨m1,m2,m3,m4⟩:=hM
 have hl:=month_len (yOf t) (mOf t) (by omega) (by omega)
 have hd:t/86400-daysF (yOf t) (mOf t) 1≤30:=by
  rcases Int.lt_or_le (mOf t) 12 with hh|hh
  ·have:=m4 hh;omega
  ·have e:mOf t=12:=by omega
   rw[e];omega
 unfold dOf
 exact⟨by omega,y2,m1,m2,by omega,by omega,by omega,m4,y3,y4⟩
theorem c_TimeValue (t:Int):Call Q 263 [.int .i64 t]=some (timeS t).mv:=by
 unfold timeS
 by_cases h:t<0∨253402300799<t
 ·rw[if_pos h]
  simp only[VR.mv]
  unfold zero5L
  rw[Call_fn Q (m:=m263) rfl rfl]
  apply hide;intro rhs hrhs
  simp(maxSteps:=4000000)(disch:=first|exact dz|fail)only[bA.u,seval,cut,if_pos,if_neg,m263]
  repeat'((with_reducible first|refine sp ?_ ?_|fail)<;>intro hx<;>(try simp only[bI.u]at hx)<;>(first|exact xz|(try simp(maxSteps:=4000000)(disch:=first|exact dz|fail)only[bA.u,seval,cut,if_pos,if_neg,hx,m263])))
  all_goals first|exact xz|(subst hrhs;rfl)
 rw[if_neg h]
 have lt0:decide (t<0)=false:=by simp;omega
 have gt0:decide (253402300799<t)=false:=by simp;omega
 obtain⟨y1,y2,m1,m2,d1,d2,e1,e2,e3,e4⟩:=time_rng t (by omega) (by omega)
 have hday:t/86400<daysF 10000 1 1:=by
  simp only[daysF,yearF,monF,Int.reduceLE,if_true];omega
 have hY:=fun K=>t_years (t/86400) (t%86400) hday K (9999-(1970+t/86400/366)).toNat (1970+t/86400/366) (by omega) (by omega)
 rw[show yearOf (t/86400) (9999-(1970+t/86400/366)).toNat (1970+t/86400/366)=yOf t from rfl]at hY
 have hM:=fun K=>t_months (t/86400) (t%86400) (yOf t) ⟨y1,y2⟩ K 11 1 (by omega) (by omega)
 rw[show monOf (t/86400) (yOf t) 11 1=mOf t from rfl]at hM
 have hd:t/86400-daysF (yOf t) (mOf t) 1+1=dOf t:=rfl
 have p1:=c60 (mOf t) (by omega)
 have p2:=c60 (dOf t) (by omega)
 have p3:=c60 (t%86400/3600) (by omega)
 have p4:=c60 (t%86400/60%60) (by omega)
 have p5:=c60 (t%86400%60) (by omega)
 have q:=c59 (yOf t) (mOf t) 1 (by omega) (by omega) (by omega)
 unfold restB
 rw[Call_fn Q (m:=m263) rfl rfl]
 have hB: -4000000≤daysF (yOf t) (mOf t) 1∧daysF (yOf t) (mOf t) 1≤4000000:=by omega
 generalize hY0:yOf t=y at *
 generalize hM0:mOf t=m at *
 generalize hD0:dOf t=d at *
 generalize hDF:daysF y m 1=D at *
 by_cases hy:y<2050
 ·have p6:=c60 (y%100) (by omega)
  have ly:decide (y<2050)=true:=by simpa using hy
  rw[if_pos hy]
  simp only[VR.mv,mvT_eq,if_false,Bool.false_eq_true,mvK]
  apply hide;intro rhs hrhs
  simp(maxSteps:=4000000)(disch:=first|exact dz|fail)only[bA.u,seval,cut,if_pos,if_neg,m263,Run_loop,lt0,gt0]
  refine(congrArg (fin _) (RunL_canon (st':=⟨Vt0 (t/86400) (t%86400) (1970+t/86400/366),[],OT,2⟩) kr)).trans ?_
  refine(hY _).trans ?_
  unfold Vt0 OT zero5L
  simp(maxSteps:=4000000)(disch:=first|exact dz|fail)only[bA.u,seval,cut,if_pos,if_neg,Run_loop]
  refine(congrArg (fin _) (RunL_canon (st':=⟨Vt1 (t/86400) (t%86400) y 1,[],OT,2⟩) kr)).trans ?_
  refine(hM _).trans ?_
  unfold Vt1 OT zero5L
  simp(maxSteps:=4000000)(disch:=first|exact dz|fail)only[bA.u,seval,cut,if_pos,if_neg,R_t,p1,p2,p3,p4,p5,p6,q,hd,ly,two_len]
  rw[hrhs]
 ·have p6:=c_pad4 y (by omega)
  have ly:decide (y<2050)=false:=by simpa using hy
  rw[if_neg hy]
  simp only[VR.mv,mvT_eq,if_false,Bool.false_eq_true,mvK]
  apply hide;intro rhs hrhs
  simp(maxSteps:=4000000)(disch:=first|exact dz|fail)only[bA.u,seval,cut,if_pos,if_neg,m263,Run_loop,lt0,gt0]
  refine(congrArg (fin _) (RunL_canon (st':=⟨Vt0 (t/86400) (t%86400) (1970+t/86400/366),[],OT,2⟩) kr)).trans ?_
  refine(hY _).trans ?_
  unfold Vt0 OT zero5L
  simp(maxSteps:=4000000)(disch:=first|exact dz|fail)only[bA.u,seval,cut,if_pos,if_neg,Run_loop]
  refine(congrArg (fin _) (RunL_canon (st':=⟨Vt1 (t/86400) (t%86400) y 1,[],OT,2⟩) kr)).trans ?_
  refine(hM _).trans ?_
  unfold Vt1 OT zero5L
  simp(maxSteps:=4000000)(disch:=first|exact dz|fail)only[bA.u,seval,cut,if_pos,if_neg,R_t,p1,p2,p3,p4,p5,p6,q,hd,ly,two_len,four_len]
  rw[hrhs]
def gO (s:List (List UInt8) × Int) (c:UInt8):(List (List UInt8) × Int) ⊕ Unit:=
 if 1099511627776≤s.2*128+(c.toNat:Int)%128 then .inr ()
 else if 128≤c.toNat then .inl (s.1,s.2*128+(c.toNat:Int)%128)
 else if s.1=[]then .inl ([itoaL (min ((s.2*128+(c.toNat:Int)%128)/40) 2),itoaL (s.2*128+(c.toNat:Int)%128-40*min ((s.2*128+(c.toNat:Int)%128)/40) 2)],0)
 else .inl (s.1++[itoaL (s.2*128+(c.toNat:Int)%128)],0)
inductive OR where
 |no
 |ok (s:List UInt8)
def OR.mv:OR→MV
 | .no=>.tup [.str [],.bool false]
 | .ok s=>.tup [.str s,.bool true]
def oidG (b:List UInt8):OR:=match foldE gO ([],0) b with
 | .inr _=>.no
 | .inl s=>if 20<s.1.length then .no else .ok (Lib.join s.1 [46])
def oidR:T→OR
 | .mk c t m b ks=>if(wrW (.mk c t m b ks)).1≠0∨c≠0∨t≠6 then .no else oidG b
def R_o:List (Nat × Option (Bool × Nat) × PK):=[(2,none,.other),(3,none,.other)]
def o_st (b:List UInt8) (a:Nat) (ps:List (List UInt8)) (n:Int) (i:Nat):DS:=⟨[(6,.own a ps.length),(7,.int .i64 n),(29,.bs b),(30,.int .i64 b.length),(31,.int .i64 i)],[],[(a,.el 1 (ps.map .str) false)],2⟩
theorem o_step (b:List UInt8) (hb:b.length<2^30) (K:List Item) (s:List (List UInt8) × Int) (i:Nat) (c:UInt8) (hI:s.1.length≤2*i∧0≤s.2∧s.2<1099511627776) (hg:b[i]? = some c):
  After (fun s i=>s.1.length≤2*i∧0≤s.2∧s.2<1099511627776) (fun s i=>fin R_o (RunL Q m83k0 m83b0 K (o_st b (if i=0 then 1 else 0) s.1 s.2 i))) (fun _=>some OR.no.mv)
   (fin R_o (RunL Q m83k0 m83b0 K (o_st b (if i=0 then 1 else 0) s.1 s.2 i))) (i+1) (gO s c):=by
 obtain⟨ps,n⟩:=s
 simp only at hI
 obtain⟨hI,hn0,hn1⟩:=hI
 obtain⟨hi,hxx⟩:=List.getElem?_eq_some_iff.1 hg
 have hlt:decide ((i:Int)<(b.length:Int))=true:=by simp;omega
 have i1:(i:Int)<(b.length:Int):=by omega
 have hc:=c.toNat_lt
 have e9:((i+1:Nat):Int)=(i:Int)+1:=rfl
 have ha:(if i=0 then 1 else 0)≤1:=by split<;>omega
 have hml:(ps.map MV.str).length=ps.length:=by simp
 unfold gO
 simp only
 generalize hN:n*128+(c.toNat:Int)%128=N
 have hN0:0≤N:=by omega
 have hN1:N<1125899906842624:=by omega
 have hor:IntKind.i64.wrap ((BitVec.ofInt IntKind.i64.bits (n*128)|||BitVec.ofInt IntKind.i64.bits ((c.toNat:Int)%128)).toNat:Int)=N:=by rw[or64_7 c hn0 (by omega),hN]
 by_cases h1:1099511627776≤N
 ·rw[if_pos h1]
  have h1':decide (1099511627776≤N)=true:=by simpa using h1
  simp only[After,OR.mv]
  unfold o_st
  generalize(if i=0 then 1 else 0)=a at ha ⊢
  obtain⟨b',hb'⟩:∃b',b'=m83b0:=⟨_,rfl⟩
  rw[RunL_eq,show Item.lp m83k0 m83b0=Item.lp m83k0 b' by rw[hb']]
  apply hide;intro rhs hrhs
  simp(maxSteps:=4000000)(disch:=first|exact dz|fail)only[bA.u,seval,cut,if_pos,if_neg,m83b0,R_o,hlt,hg,shl64_7,and_127,hor,h1']
  subst hrhs;rfl
 rw[if_neg h1]
 have h1':decide (1099511627776≤N)=false:=by simpa using h1
 by_cases h2:128≤c.toNat
 ·rw[if_pos h2]
  have h2':decide (128≤(c.toNat:Int))=true:=by simp;omega
  refine⟨by simp only;exact⟨by omega,by omega,by omega⟩,?_⟩
  simp only
  unfold o_st
  rw[if_neg (Nat.succ_ne_zero i),e9]
  rcases(show(if i=0 then 1 else 0)=1∨(if i=0 then 1 else 0)=0 by split<;>simp)with h|h<;>rw[h]
  all_goals(
  obtain⟨b',hb'⟩:∃b',b'=m83b0:=⟨_,rfl⟩
  rw[RunL_eq,show Item.lp m83k0 m83b0=Item.lp m83k0 b' by rw[hb']]
  apply hide;intro rhs hrhs
  simp(maxSteps:=4000000)(disch:=first|exact dz|fail)only[bA.u,seval,cut,if_pos,if_neg,m83b0,R_o,hlt,hg,shl64_7,and_127,hor,h1',h2']
  subst hrhs;(subst hb';refine(congrArg (fin _) (Run_lp Q _ _ _ _)).trans ?_;exact congrArg (fin R_o) (RunL_canon (canon_cong kr kr kr))))
 rw[if_neg h2]
 have h2':decide (128≤(c.toNat:Int))=false:=by simp;omega
 by_cases h3:ps=[]
 ·subst h3
  rw[if_pos rfl]
  have hmm:(if(2:Int)<N/40 then(2:Int)else N/40)=min (N/40) 2:=by omega
  have k1:=itoa_ok (min (N/40) 2)
  have k2:=itoa_ok (N-40*min (N/40) 2)
  refine⟨by simp;omega,?_⟩
  simp only
  unfold o_st
  rw[if_neg (Nat.succ_ne_zero i),e9]
  generalize(if i=0 then 1 else 0)=a at ha ⊢
  generalize hM:min (N/40) 2=M at *
  have hM0:0≤M∧M≤2∧40*M≤N:=by omega
  obtain⟨b',hb'⟩:∃b',b'=m83b0:=⟨_,rfl⟩
  rw[RunL_eq,show Item.lp m83k0 m83b0=Item.lp m83k0 b' by rw[hb']]
  apply hide;intro rhs hrhs
  simp(maxSteps:=4000000)(disch:=first|exact dz|fail)only[bA.u,seval,cut,if_pos,if_neg,m83b0,R_o,hlt,hg,shl64_7,and_127,hor,h1',h2',hmm,k1,k2,foldMM,minmaxV]
  subst hrhs;(subst hb';refine(congrArg (fin _) (Run_lp Q _ _ _ _)).trans ?_;exact congrArg (fin R_o) (RunL_canon (canon_cong kr kr kr)))
 ·rw[if_neg h3]
  have h3':((ps.length:Int)==0)=false:=by
   cases ps with
   |nil=>exact absurd rfl h3
   |cons x r=>rw[beq_eq_false_iff_ne,List.length_cons];omega
  have k2:=itoa_ok N
  refine⟨by simp;omega,?_⟩
  simp only[List.map_append,List.map_cons,List.map_nil,List.length_append,List.length_cons,List.length_nil,Nat.zero_add]
  unfold o_st
  simp only[List.map_append,List.map_cons,List.map_nil,List.length_append,List.length_cons,List.length_nil,Nat.zero_add]
  rw[if_neg (Nat.succ_ne_zero i),e9]
  generalize(if i=0 then 1 else 0)=a at ha ⊢
  generalize hml2:ps.map MV.str=pl at hml ⊢
  obtain⟨b',hb'⟩:∃b',b'=m83b0:=⟨_,rfl⟩
  rw[RunL_eq,show Item.lp m83k0 m83b0=Item.lp m83k0 b' by rw[hb']]
  apply hide;intro rhs hrhs
  simp(maxSteps:=4000000)(disch:=first|exact dz|fail)only[bA.u,seval,cut,if_pos,if_neg,m83b0,R_o,hlt,hg,shl64_7,and_127,hor,h1',h2',h3',k2,hml]
  subst hrhs;(subst hb';refine(congrArg (fin _) (Run_lp Q _ _ _ _)).trans ?_;exact congrArg (fin R_o) (RunL_canon (canon_cong kr kr kr)))
theorem c_joinS (ps:List (List UInt8)) (h1:(Lib.join ps [46]).length≤140737488355328) (h2:ps.length≤140737488355328):Call Q 117 [.sl 1 (ps.map .str),.str [46]]=some (.str (Lib.join ps [46])):=by
 rw[Call_prim Q (g:=pJoin) rfl]
 have hs:∀ps:List (List UInt8),strs (ps.map .str)=some ps:=by
  intro ps
  induction ps with
  |nil=>rfl
  |cons p r ih=>
   show(strs (r.map .str)).map (p:: ·)=_
   rw[ih];rfl
 show(match strs (ps.map .str)with|some xs=>if(Lib.join xs [46]).length≤140737488355328∧xs.length≤140737488355328 then some (MV.str (Lib.join xs [46]))else none|none=>none)=_
 rw[hs]
 exact if_pos ⟨h1,h2⟩
theorem gO_small:∀(b:List UInt8) (s s':List (List UInt8) × Int),(∀p∈s.1,p.length≤21)→foldE gO s b= .inl s'→∀p∈s'.1,p.length≤21
 | [],s,s',h,hf=>by cases hf;exact h
 |c::r,s,s',h,hf=>by
  rw[foldE_cons]at hf
  cases hg:gO s c with
  |inr u=>rw[hg]at hf;cases hf
  |inl s1=>
   rw[hg]at hf
   refine gO_small r s1 s' ?_ hf
   unfold gO at hg
   split at hg
   ·cases hg
   ·split at hg
    ·cases hg;exact h
    ·split at hg
     ·cases hg
      intro p hp
      simp only[List.mem_cons,List.not_mem_nil,or_false]at hp
      rcases hp with rfl|rfl<;>exact itoaL_len _
     ·cases hg
      intro p hp
      simp only[List.mem_append,List.mem_singleton]at hp
      rcases hp with hp|rfl
      ·exact h p hp
      ·exact itoaL_len _
theorem join_small (ps:List (List UInt8)) (h:∀p∈ps,p.length≤21):(Lib.join ps [46]).length≤22*ps.length:=by
 cases ps with
 |nil=>simp[Lib.join_nil]
 |cons x r=>
  rw[Lib.join_length]
  have:∀l:List (List UInt8),(∀p∈l,p.length≤21)→Lib.lens l≤21*l.length:=by
   intro l
   induction l with
   |nil=>intro _;simp[Lib.lens]
   |cons y l ih=>
    intro h
    have h1:=h y (by simp)
    have h2:=ih fun p hp=>h p (by simp[hp])
    simp only[Lib.lens,List.map_cons,List.sum_cons,List.length_cons]at h2 ⊢
    omega
  have:=this _ h
  simp only[List.length_cons,List.length_nil]at this ⊢
  omega
def o_tail:MCode:=(.seq (.seq (.rg [oT 66 (.mv (.v 6)),
  oT 67 (.len false (.t 66)),
  oV 68 (.bin .gtr (.t 67) (.c (.int .i64 20)))])
  (.cond (.v 68) (.seq (.rg [oV 2 (.mv (.c (.str []))),
  oV 3 (.mv (.c (.bool false)))])
  (.ret))
  (.skip)))
  (.seq (.rg [oT 69 (.mv (.v 6)),
  oT 70 (.call 117 [.t 69,.c (.str [46])]),
  oV 2 (.mv (.t 70)),
  oV 3 (.mv (.c (.bool true)))])
  (.ret)))
theorem o_end (b:List UInt8) (ps:List (List UInt8)) (n:Int) (hp:∀p∈ps,p.length≤21) (hl:ps.length≤2^31):fin R_o (RunL Q m83k0 m83b0 [.blk 0,.code o_tail] (o_st b (if b.length=0 then 1 else 0) ps n b.length))=some (OR.mv (if 20<ps.length then .no else .ok (Lib.join ps [46]))):=by
 have hlt:decide ((b.length:Int)<(b.length:Int))=false:=by simp
 have hml:(ps.map MV.str).length=ps.length:=by simp
 have hjl:=join_small ps hp
 unfold o_st
 have ha:(if b.length=0 then 1 else 0)≤1:=by split<;>omega
 generalize(if b.length=0 then 1 else 0)=a at ha ⊢
 by_cases h:20<ps.length
 ·rw[if_pos h]
  have h':decide (20<(ps.length:Int))=true:=by simp;omega
  simp only[OR.mv]
  obtain⟨b',hb'⟩:∃b',b'=m83b0:=⟨_,rfl⟩
  rw[RunL_eq,show Item.lp m83k0 m83b0=Item.lp m83k0 b' by rw[hb']]
  apply hide;intro rhs hrhs
  simp(maxSteps:=4000000)(disch:=first|exact dz|fail)only[bA.u,seval,cut,if_pos,if_neg,m83b0,R_o,o_tail,hlt,hml,h']
  subst hrhs;rfl
 ·rw[if_neg h]
  have h':decide (20<(ps.length:Int))=false:=by simp;omega
  have hj:=c_joinS ps (by omega) (by omega)
  simp only[OR.mv]
  obtain⟨b',hb'⟩:∃b',b'=m83b0:=⟨_,rfl⟩
  rw[RunL_eq,show Item.lp m83k0 m83b0=Item.lp m83k0 b' by rw[hb']]
  apply hide;intro rhs hrhs
  simp(maxSteps:=4000000)(disch:=first|exact dz|fail)only[bA.u,seval,cut,if_pos,if_neg,m83b0,R_o,o_tail,hlt,hml,h',hj]
  subst hrhs;rfl
theorem wr_ok {d:Nat} {c t:Int} {m:Bool} {b:List UInt8} {ks:List T} (h:(wr d (.mk c t m b ks)).1=0):d≤16∧rangeB c t=false∧formE c t m b=0∧(m=true→b=[])∧(m=false→ks=[])∧(wrs (d+1) ks).1=0∧¬(c=0∧t=17∧sortedB (wrs (d+1) ks).2=false):=by
 rw[wr,wrK]at h
 by_cases h1:16<d
 ·rw[if_pos h1]at h;cases h
 rw[if_neg h1]at h
 by_cases h2:rangeB c t=true
 ·rw[if_pos h2]at h;cases h
 rw[if_neg h2]at h
 by_cases h3:formE c t m b=21
 ·rw[if_pos h3]at h;cases h
 rw[if_neg h3]at h
 by_cases h4:formE c t m b≠0∨(m=true∧b≠[])∨(m=false∧(!ks.isEmpty)=true)
 ·rw[if_pos h4]at h;cases h
 rw[if_neg h4]at h
 by_cases h5:(wrs (d+1) ks).1=0
 rotate_left
 ·rw[if_pos h5]at h;exact absurd h h5
 rw[if_neg (by simpa using h5)]at h
 by_cases h6:c=0∧t=17∧sortedB (wrs (d+1) ks).2=false
 ·rw[if_pos h6]at h;cases h
 refine⟨by omega,by simpa using h2,Decidable.not_not.1 fun h=>h4 (.inl h),fun hm=>Decidable.not_not.1 fun h=>h4 (.inr (.inl ⟨hm,h⟩)),fun hm=>?_,h5,h6⟩
 cases ks with
 |nil=>rfl
 |cons x y=>exact absurd (.inr (.inr ⟨hm,rfl⟩)) h4
theorem wrW_wr {t:T} (h:(wrW t).1=0):(wr 0 t).1=0∧(wrW t).2=(wr 0 t).2∧(wr 0 t).2.length≤65536:=by
 unfold wrW at h ⊢
 by_cases h1:(wr 0 t).1=0
 rotate_left
 ·rw[if_pos h1]at h;exact absurd h h1
 rw[if_neg (by simpa using h1)]at h ⊢
 by_cases h2:65536<(wr 0 t).2.length
 ·rw[if_pos h2]at h;cases h
 rw[if_neg h2]
 exact⟨h1,rfl,by omega⟩
theorem c_Oid (v:MV) (t:T) (hv:Rv v t) (hl:low t) (hs:sz t≤2^29):Call Q 83 [v]=some (oidR t).mv:=by
 have hw:=c_Write v t hv hl (by omega)
 cases hv with
 | @mk _ c tg m w k b ks hb hk=>
 rw[sz]at hs
 rw[oidR]
 by_cases h:(wrW (.mk c tg m b ks)).1≠0∨c≠0∨tg≠6
 ·rw[if_pos h]
  simp only[OR.mv]
  generalize wrW (.mk c tg m b ks)=W at hw h
  obtain⟨e,bs⟩:=W
  simp only at hw h
  rw[Call_fn Q (m:=m83) rfl rfl]
  cases hb<;>cases hk
  all_goals(
  apply hide;intro rhs hrhs
  simp(maxSteps:=4000000)(disch:=first|exact dz|fail)only[bA.u,seval,cut,if_pos,if_neg,m83,hw]
  repeat'((with_reducible first|refine sp ?_ ?_|fail)<;>intro hx<;>(try simp only[bI.u]at hx)<;>(first|exact xz|(try simp(maxSteps:=4000000)(disch:=first|exact dz|fail)only[bA.u,seval,cut,if_pos,if_neg,hx,m83,hw])))
  all_goals first|exact xz|(subst hrhs;rfl))
 rw[if_neg h]
 have h1:(wrW (.mk c tg m b ks)).1=0:=Decidable.not_not.1 fun x=>h (.inl x)
 have h2:c=0:=Decidable.not_not.1 fun x=>h (.inr (.inl x))
 have h3:tg=6:=Decidable.not_not.1 fun x=>h (.inr (.inr x))
 subst h2;subst h3
 have hne:b≠[]:=by
  rintro rfl
  have:=(wr_ok (wrW_wr h1).1).2.2.1
  cases m<;>exact absurd this (by decide)
 rw[h1]at hw
 generalize(wrW (.mk 0 6 m b ks)).2=bs at hw
 have loop:fin R_o (RunL Q m83k0 m83b0 [.blk 0,.code o_tail] (o_st b 1 [] 0 0))=some (oidG b).mv:=by
  refine loopR b gO (fun s i=>fin R_o (RunL Q m83k0 m83b0 [.blk 0,.code o_tail] (o_st b (if i=0 then 1 else 0) s.1 s.2 i))) (fun _=>some OR.no.mv) (fun s i=>s.1.length≤2*i∧0≤s.2∧s.2<1099511627776)
   (fun s i c hI hg=>o_step b (by omega) _ s i c hI hg) ([],0) ⟨by simp,by simp,by simp⟩ rfl ?_ ?_
  ·intro s hf hI
   have hp:=gO_small b ([],0) s (by simp) hf
   have hE:oidG b=if 20<s.1.length then .no else .ok (Lib.join s.1 [46]):=by unfold oidG;rw[hf]
   rw[hE]
   have he:=o_end b s.1 s.2 hp (by omega)
   exact he
  ·intro u hf
   unfold oidG;rw[hf]
 unfold o_st at loop
 rw[Call_fn Q (m:=m83) rfl rfl]
 cases hb
 rotate_left
 ·exact absurd rfl hne
 cases hk
 all_goals(
  apply hide;intro rhs hrhs
  simp(maxSteps:=4000000)(disch:=first|exact dz|fail)only[bA.u,seval,cut,if_pos,if_neg,m83,Run_loop,hw]
  repeat'((with_reducible first|refine sp ?_ ?_|fail)<;>intro hx<;>(try simp only[bI.u]at hx)<;>(first|exact xz|(try simp(maxSteps:=4000000)(disch:=first|exact dz|fail)only[bA.u,seval,cut,if_pos,if_neg,hx,m83,Run_loop,hw])))
  all_goals first|exact xz|(subst hrhs;exact(congrArg (fin _) (RunL_canon (canon_cong kr kr kr))).trans loop))
def isB2 (t:T) (tag n:Int):Bool:=match t with
 | .mk c tg _ _ ks=>decide (c=0)&&decide (tg=tag)&&decide ((ks.length:Int)=n)
structure Fa (w:MV):Prop where
 l:∀st,lend w st=some (w,st)
 c:MV.cells w=[w]
 f:MV.fit w=true
theorem Rb.fa {w:MV} {b:List UInt8} (h:Rb w b):Fa w∧(∀st,lenV false w st=some (.int .i64 b.length))∧∀st,bytesOf w st=some b:=by
 cases h<;>exact⟨⟨fun _=>rfl,rfl,rfl⟩,fun _=>rfl,fun _=>rfl⟩
theorem Rs.fa {w:MV} {ks:List T} (h:Rs w ks):Fa w∧∀st,lenV false w st=some (.int .i64 ks.length):=by
 cases h with
 |nil=>exact⟨⟨fun _=>rfl,rfl,rfl⟩,fun _=>rfl⟩
 |sl h=>exact⟨⟨fun _=>rfl,rfl,rfl⟩,fun _=>by simp only[lenV,h.length]⟩
theorem c_is (v:MV) (t:T) (hv:Rv v t) (tag n:Int):Call Q 111 [v,.int .i64 tag,.int .i64 n]=some (.bool (isB2 t tag n)):=by
 cases hv with
 | @mk _ c tg m w k b ks hb hk=>
 obtain⟨⟨b1,b2,b3⟩,b4,b5⟩:=Rb.fa hb
 obtain⟨⟨k1,k2,k3⟩,k4⟩:=Rs.fa hk
 rw[isB2]
 rw[Call_fn Q (m:=m111) rfl rfl]
 apply hide;intro rhs hrhs
 simp(maxSteps:=4000000)(disch:=first|exact dz|fail)only[bA.u,seval,cut,if_pos,if_neg,m111,b1,b2,b3,k1,k2,k3,k4]
 repeat'((with_reducible first|refine sp ?_ ?_|fail)<;>intro hx<;>(try simp only[bI.u]at hx)<;>(first|exact xz|(try simp(maxSteps:=4000000)(disch:=first|exact dz|fail)only[bA.u,seval,cut,if_pos,if_neg,hx,m111,b1,b2,b3,k1,k2,k3,k4])))
 all_goals first|exact xz|(subst hrhs;(first|rfl|(refine congrArg some (congrArg MV.bool ?_);rw[Bool.eq_iff_iff];simp only[Bool.and_eq_true,Bool.or_eq_true,Bool.not_eq_true',Bool.not_eq_true,decide_eq_true_eq,decide_eq_false_iff_not,beq_iff_eq,Bool.false_eq_true,false_iff,true_iff,iff_true,iff_false,←UInt8.toNat_inj];omega)|(refine congrArg some (congrArg MV.bool ?_);rw[Bool.eq_iff_iff];simp[←UInt8.toNat_inj]at *<;>omega)|(refine congrArg some (congrArg MV.bool ?_);rw[Bool.eq_iff_iff];simp_all[←UInt8.toNat_inj]<;>omega)))
inductive PR where
 |er (e:Int)
 |ok (d:Dn)
def PR.mv:PR→MV
 | .er e=>.tup [.sl 2 [],.int .i64 e]
 | .ok d=>.tup [.sl 2 (attrs d),.int .i64 0]
def two?:T→Option (T × T)
 | .mk c t _ _ [.mk c2 t2 _ _ [o,x]]=>if c=0∧t=17∧c2=0∧t2=16 then some (o,x)else none
 |_=>none
def gP (s:Dn × Int) (k:T):(Dn × Int) ⊕ Unit:=match two? k with
 |none=>.inr ()
 |some (o,x)=>match oidR o with
  | .no=>.inr ()
  | .ok n=>match x with
   | .mk cx tx _ xb kx=>if cx=0∧(tx=12∨tx=19)∧kx=[]then .inl (s.1++[(n,xb)],if textB xb=false∨tagOf xb≠tx then 31 else s.2)else .inr ()
def pdn:T→PR
 | .mk c t m b ks=>if(wrW (.mk c t m b ks)).1≠0∨c≠0∨t≠16∨16<ks.length then .er 30 else match foldE gP ([],0) ks with
  | .inr _=>.er 30
  | .inl s=>if s.2≠0 then .er s.2 else .ok s.1
def R_p:List (Nat × Option (Bool × Nat) × PK):=[(2,none,.el 2),(3,none,.other)]
def p_st (kv:MV) (n:Nat) (d:Dn) (e:Int) (i:Nat):DS:=⟨[(6,.own 0 d.length),(7,.int .i64 e),(38,kv),(39,.int .i64 n),(40,.int .i64 i)],[],[(0,.el 2 (attrs d) false)],2⟩
theorem p_bad1 (K:List Item) (l:List MV) (n:Nat) (d:Dn) (e:Int) (i:Nat) (hi:i<n) (v:MV) (k:T) (hg:l[i]? = some v) (hn:l.length=n) (hn2:n≤16) (hv:Rv v k) (h:isB2 k 17 1=false):
  fin R_p (RunL Q m81k0 m81b0 K (p_st (.sl 5 l) n d e i))=some (PR.er 30).mv:=by
 have hc:=c_is v k hv 17 1
 rw[h]at hc
 cases hv with
 | @mk _ c tg m w kv b ks hb hk=>
 obtain⟨⟨b1,b2,b3⟩,b4,b5⟩:=Rb.fa hb
 obtain⟨⟨k1,k2,k3⟩,k4⟩:=Rs.fa hk
 have hlt:decide ((i:Int)<(n:Int))=true:=by simp;omega
 have i1:(i:Int)<(n:Int):=by omega
 simp only[PR.mv]
 unfold p_st
 obtain⟨b',hb'⟩:∃b',b'=m81b0:=⟨_,rfl⟩
 rw[RunL_eq,show Item.lp m81k0 m81b0=Item.lp m81k0 b' by rw[hb']]
 apply hide;intro rhs hrhs
 simp(maxSteps:=4000000)(disch:=first|exact dz|fail)only[bA.u,seval,cut,if_pos,if_neg,m81b0,R_p,hlt,i1,hn,hg,hc,b1,b2,b3,k1,k2,k3,k4]
 subst hrhs;rfl
theorem p_bad2 (K:List Item) (l:List MV) (n:Nat) (d:Dn) (e:Int) (i:Nat) (hi:i<n) (c tg:Int) (m:Bool) (w:MV) (b:List UInt8) (v1:MV) (t1:T) (hb:Rb w b) (hv1:Rv v1 t1) (hg:l[i]? = some (.agg [.int .i64 c,.int .i64 tg,.bool m,w,.sl 5 [v1]])) (hn:l.length=n) (hn2:n≤16) (h0:isB2 (.mk c tg m b [t1]) 17 1=true) (h:isB2 t1 16 2=false):
  fin R_p (RunL Q m81k0 m81b0 K (p_st (.sl 5 l) n d e i))=some (PR.er 30).mv:=by
 have hc:=c_is _ _ (Wv.mk (c:=c) (t:=tg) (m:=m) hb (.sl (.cons hv1 .nil))) 17 1
 rw[h0]at hc
 have hc1:=c_is v1 t1 hv1 16 2
 rw[h]at hc1
 cases hv1 with
 | @mk _ c' tg' m' w' kv' b' ks' hb' hk'=>
 obtain⟨⟨b1,b2,b3⟩,b4,b5⟩:=Rb.fa hb
 obtain⟨⟨d1,d2,d3⟩,d4,d5⟩:=Rb.fa hb'
 obtain⟨⟨k1,k2,k3⟩,k4⟩:=Rs.fa hk'
 have hlt:decide ((i:Int)<(n:Int))=true:=by simp;omega
 have i1:(i:Int)<(n:Int):=by omega
 simp only[PR.mv]
 unfold p_st
 obtain⟨b',hb'⟩:∃b',b'=m81b0:=⟨_,rfl⟩
 rw[RunL_eq,show Item.lp m81k0 m81b0=Item.lp m81k0 b' by rw[hb']]
 apply hide;intro rhs hrhs
 simp(maxSteps:=4000000)(disch:=first|exact dz|fail)only[bA.u,seval,cut,if_pos,if_neg,m81b0,R_p,hlt,i1,hn,hg,hc,hc1,b1,b2,b3,d1,d2,d3,k1,k2,k3,k4]
 subst hrhs;rfl
theorem p_main (K:List Item) (l:List MV) (n:Nat) (d:Dn) (hd:d.length≤2^20) (e:Int) (i:Nat) (hi:i<n) (c tg:Int) (m:Bool) (w:MV) (b:List UInt8) (c1 t1:Int) (m1:Bool) (w1:MV) (b1:List UInt8) (vo:MV) (to:T) (cx tx:Int) (mx:Bool) (wx kx:MV) (xb:List UInt8) (xk:List T)
  (hb:Rb w b) (hb1:Rb w1 b1) (hvo:Rv vo to) (hbx:Rb wx xb) (hkx:Rs kx xk) (hxl:xb.length<1000000)
  (hg:l[i]? = some (.agg [.int .i64 c,.int .i64 tg,.bool m,w,.sl 5 [.agg [.int .i64 c1,.int .i64 t1,.bool m1,w1,.sl 5 [vo,.agg [.int .i64 cx,.int .i64 tx,.bool mx,wx,kx]]]]])) (hn:l.length=n) (hn2:n≤16)
  (h0:isB2 (.mk c tg m b [.mk c1 t1 m1 b1 [to,.mk cx tx mx xb xk]]) 17 1=true) (h1:isB2 (.mk c1 t1 m1 b1 [to,.mk cx tx mx xb xk]) 16 2=true) (ho:Call Q 83 [vo]=some (oidR to).mv):
  fin R_p (RunL Q m81k0 m81b0 K (p_st (.sl 5 l) n d e i))=match oidR to with
   | .no=>some (PR.er 30).mv
   | .ok s=>if cx=0∧(tx=12∨tx=19)∧xk=[]then fin R_p (RunL Q m81k0 m81b0 K (p_st (.sl 5 l) n (d++[(s,xb)]) (if textB xb=false∨tagOf xb≠tx then 31 else e) (i+1)))else some (PR.er 30).mv:=by
 have hvx:Rv (.agg [.int .i64 cx,.int .i64 tx,.bool mx,wx,kx]) (.mk cx tx mx xb xk):=.mk hbx hkx
 have hv1:Rv (.agg [.int .i64 c1,.int .i64 t1,.bool m1,w1,.sl 5 [vo,.agg [.int .i64 cx,.int .i64 tx,.bool mx,wx,kx]]]) (.mk c1 t1 m1 b1 [to,.mk cx tx mx xb xk]):=.mk hb1 (.sl (.cons hvo (.cons hvx .nil)))
 have hc:=c_is _ _ (Wv.mk (c:=c) (t:=tg) (m:=m) hb (.sl (.cons hv1 .nil))) 17 1
 rw[h0]at hc
 have hc1:=c_is _ _ hv1 16 2
 rw[h1]at hc1
 have hx1:=c_is _ _ hvx 12 0
 have hx2:=c_is _ _ hvx 19 0
 have htx:=c46 xb hxl
 have hpr:=c47 xb hxl
 have htag:(if xb.all printB=true then(19:Int)else 12)=tagOf xb:=rfl
 rw[htag]at hpr
 have hal:=attrs_length d
 have e9:((i+1:Nat):Int)=(i:Int)+1:=rfl
 have hlt:decide ((i:Int)<(n:Int))=true:=by simp;omega
 have i1:(i:Int)<(n:Int):=by omega
 have xl:((xk.length:Int)=0)=(xk=[]):=by
  rw[eq_iff_iff]
  cases xk with
  |nil=>simp
  |cons a r=>simp;omega
 obtain⟨⟨g1,g2,g3⟩,g4,g5⟩:=Rb.fa hb1
 cases hvo with
 | @mk _ oc ot om ow okk ob oks hob hok=>
 obtain⟨⟨p1,p2,p3⟩,p4,p5⟩:=Rb.fa hob
 obtain⟨⟨q1,q2,q3⟩,q4⟩:=Rs.fa hok
 cases hoid:oidR (.mk oc ot om ob oks)with
 |no=>
  rw[hoid]at ho
  simp only[OR.mv]at ho
  simp only[PR.mv]
  unfold p_st
  cases hb<;>cases hbx<;>cases hkx
  all_goals(
  obtain⟨b',hb'⟩:∃b',b'=m81b0:=⟨_,rfl⟩
  rw[RunL_eq,show Item.lp m81k0 m81b0=Item.lp m81k0 b' by rw[hb']]
  apply hide;intro rhs hrhs
  simp(maxSteps:=4000000)(disch:=first|exact dz|fail)only[bA.u,seval,cut,if_pos,if_neg,m81b0,R_p,hlt,i1,hn,hg,hc,hc1,ho,g1,g2,g3,p1,p2,p3,q1,q2,q3]
  subst hrhs;rfl)
 |ok s=>
  rw[hoid]at ho
  simp only[OR.mv]at ho
  dsimp only
  by_cases hX:cx=0∧(tx=12∨tx=19)∧xk=[]
  ·rw[if_pos hX]
   obtain⟨rfl,hX2,rfl⟩:=hX
   have hat:attrs (d++[(s,xb)])=attrs d++[.agg [.str s,.str xb]]:=by simp[attrs,attr]
   have hle:(d++[(s,xb)]).length=d.length+1:=by simp
   have y1:isB2 (.mk 0 tx mx xb []) 12 0=decide (tx=12):=by simp[isB2]
   have y2:isB2 (.mk 0 tx mx xb []) 19 0=decide (tx=19):=by simp[isB2]
   rw[y1]at hx1
   rw[y2]at hx2
   by_cases hbad:textB xb=false∨tagOf xb≠tx
   ·rw[if_pos hbad]
    unfold p_st
    rw[hat,hle,e9]
    cases htb:textB xb
    ·rw[htb]at htx
     rcases hX2 with rfl|rfl<;>cases hb<;>cases hbx<;>cases hkx
     all_goals(
     obtain⟨b',hb'⟩:∃b',b'=m81b0:=⟨_,rfl⟩
     rw[RunL_eq,show Item.lp m81k0 m81b0=Item.lp m81k0 b' by rw[hb']]
     apply hide;intro rhs hrhs
     simp(maxSteps:=4000000)(disch:=first|exact dz|fail)only[bA.u,seval,cut,if_pos,if_neg,m81b0,R_p,hlt,i1,hn,hg,hc,hc1,ho,hx1,hx2,htx,hpr,hal,g1,g2,g3,p1,p2,p3,q1,q2,q3]
     subst hrhs;(subst hb';refine(congrArg (fin _) (Run_lp Q _ _ _ _)).trans ?_;exact congrArg (fin R_p) (RunL_canon (canon_cong kr kr kr))))
    ·rw[htb]at htx
     have hT:(tagOf xb==tx)=false:=by
      rcases hbad with h|h
      ·rw[htb]at h;cases h
      ·simpa using h
     rcases hX2 with rfl|rfl<;>cases hb<;>cases hbx<;>cases hkx
     all_goals(
     obtain⟨b',hb'⟩:∃b',b'=m81b0:=⟨_,rfl⟩
     rw[RunL_eq,show Item.lp m81k0 m81b0=Item.lp m81k0 b' by rw[hb']]
     apply hide;intro rhs hrhs
     simp(maxSteps:=4000000)(disch:=first|exact dz|fail)only[bA.u,seval,cut,if_pos,if_neg,m81b0,R_p,hlt,i1,hn,hg,hc,hc1,ho,hx1,hx2,htx,hpr,hT,hal,g1,g2,g3,p1,p2,p3,q1,q2,q3]
     subst hrhs;(subst hb';refine(congrArg (fin _) (Run_lp Q _ _ _ _)).trans ?_;exact congrArg (fin R_p) (RunL_canon (canon_cong kr kr kr))))
   ·rw[if_neg hbad]
    have htb:textB xb=true:=by
     cases h:textB xb
     ·exact absurd (.inl h) hbad
     ·rfl
    rw[htb]at htx
    have hT:tagOf xb=tx:=Decidable.not_not.1 fun h=>hbad (.inr h)
    rw[hT]at hpr
    unfold p_st
    rw[hat,hle,e9]
    rcases hX2 with rfl|rfl<;>cases hb<;>cases hbx<;>cases hkx
    all_goals(
    obtain⟨b',hb'⟩:∃b',b'=m81b0:=⟨_,rfl⟩
    rw[RunL_eq,show Item.lp m81k0 m81b0=Item.lp m81k0 b' by rw[hb']]
    apply hide;intro rhs hrhs
    simp(maxSteps:=4000000)(disch:=first|exact dz|fail)only[bA.u,seval,cut,if_pos,if_neg,m81b0,R_p,hlt,i1,hn,hg,hc,hc1,ho,hx1,hx2,htx,hpr,hal,g1,g2,g3,p1,p2,p3,q1,q2,q3]
    subst hrhs;(subst hb';refine(congrArg (fin _) (Run_lp Q _ _ _ _)).trans ?_;exact congrArg (fin R_p) (RunL_canon (canon_cong kr kr kr))))
  ·rw[if_neg hX]
   simp only[PR.mv]
   have y1:isB2 (.mk cx tx mx xb xk) 12 0=false:=by
    simp only[isB2,xl]
    cases h:(decide (cx=0)&&decide (tx=12)&&decide (xk=[]))
    ·rfl
    ·simp at h;exact absurd ⟨h.1.1,.inl h.1.2,h.2⟩ hX
   have y2:isB2 (.mk cx tx mx xb xk) 19 0=false:=by
    simp only[isB2,xl]
    cases h:(decide (cx=0)&&decide (tx=19)&&decide (xk=[]))
    ·rfl
    ·simp at h;exact absurd ⟨h.1.1,.inr h.1.2,h.2⟩ hX
   rw[y1]at hx1
   rw[y2]at hx2
   unfold p_st
   cases hb<;>cases hbx<;>cases hkx
   all_goals(
   obtain⟨b',hb'⟩:∃b',b'=m81b0:=⟨_,rfl⟩
   rw[RunL_eq,show Item.lp m81k0 m81b0=Item.lp m81k0 b' by rw[hb']]
   apply hide;intro rhs hrhs
   simp(maxSteps:=4000000)(disch:=first|exact dz|fail)only[bA.u,seval,cut,if_pos,if_neg,m81b0,R_p,hlt,i1,hn,hg,hc,hc1,ho,hx1,hx2,g1,g2,g3,p1,p2,p3,q1,q2,q3]
   subst hrhs;rfl)
def p_tail:MCode:=(.seq (.seq (.rg [oT 106 (.mv (.v 7)),
  oV 107 (.bin .neq (.t 106) (.c (.int .i64 0)))])
  (.cond (.v 107) (.seq (.rg [oT 108 (.mv (.v 7)),
  oV 2 (.mv (.c (.nilsl))),
  oV 3 (.mv (.t 108))])
  (.ret))
  (.skip)))
  (.seq (.rg [oT 109 (.mv (.v 6)),
  oV 2 (.mv (.t 109)),
  oV 3 (.mv (.c (.int .i64 0)))])
  (.ret)))
theorem p_end (kv:MV) (n:Nat) (d:Dn) (hd:d.length≤2^20) (e:Int):fin R_p (RunL Q m81k0 m81b0 [.blk 0,.code p_tail] (p_st kv n d e n))=some (PR.mv (if e≠0 then .er e else .ok d)):=by
 have hlt:decide ((n:Int)<(n:Int))=false:=by simp
 have hal:=attrs_length d
 by_cases h:e=0
 ·subst h
  rw[if_neg (by simp)]
  simp only[PR.mv]
  unfold p_st
  obtain⟨b',hb'⟩:∃b',b'=m81b0:=⟨_,rfl⟩
  rw[RunL_eq,show Item.lp m81k0 m81b0=Item.lp m81k0 b' by rw[hb']]
  apply hide;intro rhs hrhs
  simp(maxSteps:=4000000)(disch:=first|exact dz|fail)only[bA.u,seval,cut,if_pos,if_neg,m81b0,R_p,p_tail,hlt,hal]
  subst hrhs;rfl
 ·rw[if_pos h]
  have h':(e==0)=false:=by simpa using h
  simp only[PR.mv]
  unfold p_st
  obtain⟨b',hb'⟩:∃b',b'=m81b0:=⟨_,rfl⟩
  rw[RunL_eq,show Item.lp m81k0 m81b0=Item.lp m81k0 b' by rw[hb']]
  apply hide;intro rhs hrhs
  simp(maxSteps:=4000000)(disch:=first|exact dz|fail)only[bA.u,seval,cut,if_pos,if_neg,m81b0,R_p,p_tail,hlt,hal,h']
  subst hrhs;rfl
theorem isB2_true {t:T} {tag n:Int} (h:isB2 t tag n=true):∃m b ks,t= .mk 0 tag m b ks∧(ks.length:Int)=n:=by
 obtain⟨c,tg,m,b,ks⟩:=t
 rw[isB2]at h
 simp only[Bool.and_eq_true,decide_eq_true_eq]at h
 obtain⟨⟨rfl,rfl⟩,h⟩:=h
 exact⟨m,b,ks,rfl,h⟩
theorem p_step (K:List Item) (l:List MV) (ks:List T) (hl:Rl l ks) (hlow:lows ks) (hsz:szs ks<900000) (hn2:ks.length≤16) (s:Dn × Int) (i:Nat) (k:T) (hI:s.1.length≤i) (hg:ks[i]? = some k):
  After (fun s i=>s.1.length≤i) (fun s i=>fin R_p (RunL Q m81k0 m81b0 K (p_st (.sl 5 l) ks.length s.1 s.2 i))) (fun _=>some (PR.er 30).mv)
   (fin R_p (RunL Q m81k0 m81b0 K (p_st (.sl 5 l) ks.length s.1 s.2 i))) (i+1) (gP s k):=by
 obtain⟨hi,hxx⟩:=List.getElem?_eq_some_iff.1 hg
 obtain⟨v,hv,hr⟩:=hl.get hg
 have hll:=hl.length
 have hkm:=List.mem_of_getElem? hg
 have hlk:=lows_mem hlow k hkm
 have hsk:=szs_mem hkm
 obtain⟨d,e⟩:=s
 simp only at hI ⊢
 cases h1:isB2 k 17 1
 ·have ht:two? k=none:=by
   cases hk:two? k with
   |none=>rfl
   |some p=>
    exfalso
    unfold two? at hk
    split at hk
    ·split at hk
     ·rename_i hc
      rw[isB2,hc.1,hc.2.1]at h1
      simp at h1
     ·cases hk
    ·cases hk
  unfold gP
  rw[ht]
  exact p_bad1 K l _ d e i hi v k hv hll hn2 hr h1
 obtain⟨m,b,k1s,rfl,hk1⟩:=isB2_true h1
 match k1s,hk1 with
 | [t1],_=>
 cases hr with
 | @mk _ _ _ _ w kv _ _ hb hk=>
 cases hk with
 | @sl _ l1 _ hl1=>
 cases hl1 with
 | @cons _ v1 _ lr _ hv1 hr1=>
 cases hr1
 cases h2:isB2 t1 16 2
 ·have ht:two? (.mk 0 17 m b [t1])=none:=by
   cases hk:two? (.mk 0 17 m b [t1])with
   |none=>rfl
   |some p=>
    exfalso
    unfold two? at hk
    split at hk
    ·split at hk
     ·rename_i heq hc
      cases heq
      rw[isB2,hc.2.2.1,hc.2.2.2]at h2
      simp at h2
     ·cases hk
    ·cases hk
  unfold gP
  rw[ht]
  exact p_bad2 K l _ d e i hi 0 17 m w b v1 t1 hb hv1 hv hll hn2 h1 h2
 obtain⟨m1,b1,k2s,rfl,hk2⟩:=isB2_true h2
 match k2s,hk2 with
 | [to,tx],_=>
 cases hv1 with
 | @mk _ _ _ _ w1 kv1 _ _ hb1 hkk=>
 cases hkk with
 | @sl _ l2 _ hl2=>
 cases hl2 with
 | @cons _ vo _ lr2 _ hvo hr2=>
 cases hr2 with
 | @cons _ vx _ lr3 _ hvx hr3=>
 cases hr3
 obtain⟨cx,txx,mx,xb,xk⟩:=tx
 have htw:two? (.mk 0 17 m b [.mk 0 16 m1 b1 [to,.mk cx txx mx xb xk]])=some (to,.mk cx txx mx xb xk):=by
  simp[two?]
 simp only[low,lows,sz,szs]at hlk hsk
 have ho:=c_Oid vo to hvo hlk.2.1.2.1 (by omega)
 cases hvx with
 | @mk _ _ _ _ wx kx _ _ hbx hkx=>
 have hm:=p_main K l ks.length d (by omega) e i hi 0 17 m w b 0 16 m1 w1 b1 vo to cx txx mx wx kx xb xk hb hb1 hvo hbx hkx (by omega) hv hll hn2 h1 h2 ho
 unfold gP
 rw[htw]
 dsimp only
 rw[hm]
 cases oidR to with
 |no=>rfl
 |ok n=>
  dsimp only
  by_cases hX:cx=0∧(txx=12∨txx=19)∧xk=[]
  ·rw[if_pos hX,if_pos hX]
   exact⟨by simp;omega,rfl⟩
  ·rw[if_neg hX,if_neg hX];rfl
theorem c_ParseDN (v:MV) (t:T) (hv:Rv v t) (hl:low t) (hs:sz t<900000):Call Q 81 [v]=some (pdn t).mv:=by
 have hw:=c_Write v t hv hl (by omega)
 cases hv with
 | @mk _ c tg m w k b ks hb hk=>
 rw[sz]at hs
 rw[low]at hl
 have his:=c_is _ _ (Wv.mk (c:=c) (t:=tg) (m:=m) hb hk) 16 (ks.length:Nat)
 have y:isB2 (.mk c tg m b ks) 16 (ks.length:Nat)=(decide (c=0)&&decide (tg=16)):=by simp[isB2]
 rw[y]at his
 rw[pdn]
 obtain⟨e0,he0⟩:∃e0,e0=(wrW (.mk c tg m b ks)).1:=⟨_,rfl⟩
 rw[←he0]at hw ⊢
 generalize(wrW (.mk c tg m b ks)).2=bs at hw
 have hkl:=szs_len ks
 have hlen:∀st,lenV false k st=some (.int .i64 ks.length):=(Rs.fa hk).2
 by_cases h:e0≠0∨c≠0∨tg≠16∨16<ks.length
 ·rw[if_pos h]
  simp only[PR.mv]
  rw[Call_fn Q (m:=m81) rfl rfl]
  cases hk with
  |nil=>
   rw[show(([]:List T).length:Int)=0 from rfl]at his
   cases hb
   all_goals(
   apply hide;intro rhs hrhs
   simp(maxSteps:=4000000)(disch:=first|exact dz|fail)only[bA.u,seval,cut,if_pos,if_neg,m81,hw,his]
   repeat'((with_reducible first|refine sp ?_ ?_|fail)<;>intro hx<;>(try simp only[bI.u]at hx)<;>(first|exact xz|(try simp(maxSteps:=4000000)(disch:=first|exact dz|fail)only[bA.u,seval,cut,if_pos,if_neg,hx,m81,hw,his])))
   all_goals first|exact xz|(subst hrhs;first|rfl|(exfalso;(try simp only[List.length_nil]at h);omega)))
  | @sl _ l _ hll=>
   have hln:=hll.length
   cases hb
   all_goals(
   apply hide;intro rhs hrhs
   simp(maxSteps:=4000000)(disch:=first|exact dz|fail)only[bA.u,seval,cut,if_pos,if_neg,m81,hw,his,hln]
   repeat'((with_reducible first|refine sp ?_ ?_|fail)<;>intro hx<;>(try simp only[bI.u]at hx)<;>(first|exact xz|(try simp(maxSteps:=4000000)(disch:=first|exact dz|fail)only[bA.u,seval,cut,if_pos,if_neg,hx,m81,hw,his,hln])))
   all_goals first|exact xz|(subst hrhs;first|rfl|(exfalso;(try simp only[List.length_nil]at h);omega)))
 rw[if_neg h]
 have h1:e0=0:=Decidable.not_not.1 fun x=>h (.inl x)
 have h2:c=0:=Decidable.not_not.1 fun x=>h (.inr (.inl x))
 have h3:tg=16:=Decidable.not_not.1 fun x=>h (.inr (.inr (.inl x)))
 have h4:ks.length≤16:=Nat.le_of_not_lt fun x=>h (.inr (.inr (.inr x)))
 clear he0
 subst h1;subst h2;subst h3
 have h4':decide (16<(ks.length:Int))=false:=by simp;omega
 cases hk with
 |nil=>
  rw[show(([]:List T).length:Int)=0 from rfl]at his
  have he:=p_end .nilsl 0 [] (by simp) 0
  rw[if_neg (by simp)]at he
  show Call Q 81 _=some (PR.ok []).mv
  unfold p_st at he
  rw[Call_fn Q (m:=m81) rfl rfl]
  cases hb
  all_goals(
  apply hide;intro rhs hrhs
  simp(maxSteps:=4000000)(disch:=first|exact dz|fail)only[bA.u,seval,cut,if_pos,if_neg,m81,hw,his,Run_loop]
  repeat'((with_reducible first|refine sp ?_ ?_|fail)<;>intro hx<;>(try simp only[bI.u]at hx)<;>(first|exact xz|(try simp(maxSteps:=4000000)(disch:=first|exact dz|fail)only[bA.u,seval,cut,if_pos,if_neg,hx,m81,hw,his,Run_loop])))
  all_goals first|exact xz|(subst hrhs;exact(congrArg (fin _) (RunL_canon (canon_cong kr kr kr))).trans he))
 | @sl _ l _ hll=>
  have hln:=hll.length
  have loop:fin R_p (RunL Q m81k0 m81b0 [.blk 0,.code p_tail] (p_st (.sl 5 l) ks.length [] 0 0))=some (PR.mv (match foldE gP ([],0) ks with
  | .inr _=>.er 30
  | .inl s=>if s.2≠0 then .er s.2 else .ok s.1)):=by
   refine loopR ks gP (fun s i=>fin R_p (RunL Q m81k0 m81b0 [.blk 0,.code p_tail] (p_st (.sl 5 l) ks.length s.1 s.2 i))) (fun _=>some (PR.er 30).mv) (fun s i=>s.1.length≤i)
    (fun s i k hI hg=>p_step _ l ks hll hl.2 (by omega) h4 s i k hI hg) ([],0) (by simp) rfl ?_ ?_
   ·intro s hf hI
    rw[hf]
    exact p_end _ _ s.1 (by omega) s.2
   ·intro u hf
    rw[hf]
  unfold p_st at loop
  rw[Call_fn Q (m:=m81) rfl rfl]
  cases hb
  all_goals(
  apply hide;intro rhs hrhs
  simp(maxSteps:=4000000)(disch:=first|exact dz|fail)only[bA.u,seval,cut,if_pos,if_neg,m81,hw,his,hln,h4',Run_loop]
  repeat'((with_reducible first|refine sp ?_ ?_|fail)<;>intro hx<;>(try simp only[bI.u]at hx)<;>(first|exact xz|(try simp(maxSteps:=4000000)(disch:=first|exact dz|fail)only[bA.u,seval,cut,if_pos,if_neg,hx,m81,hw,his,hln,h4',Run_loop])))
  all_goals first|exact xz|(subst hrhs;exact(congrArg (fin _) (RunL_canon (canon_cong kr kr kr))).trans loop))
theorem mag2 (a b:UInt8) (ha:dg a=true) (hb:dg b=true):Lib.atoiAll [a,b]= .ok (tv a b):=by
 unfold dg at ha hb
 simp only[Bool.and_eq_true,decide_eq_true_eq]at ha hb
 rw[Lib.atoiAll_plain a [b] (by omega) (by omega)]
 have h:Lib.parseMag [a,b]= .ok ((a.toNat-48)*10+(b.toNat-48)):=by
  unfold Lib.parseMag
  rw[if_neg (by simp)]
  simp only[Lib.parseUint10]
  rw[if_pos ha,if_neg (by omega),if_neg (by omega),if_pos hb,if_neg (by omega),if_neg (by omega)]
  simp
 rw[h]
 simp only[Lib.signless]
 rw[if_neg (by omega)]
 congr 1
 unfold tv
 omega
theorem mag4 (a b c d:UInt8) (ha:dg a=true) (hb:dg b=true) (hc:dg c=true) (hd:dg d=true):Lib.atoiAll [a,b,c,d]= .ok (100*tv a b+tv c d):=by
 unfold dg at ha hb hc hd
 simp only[Bool.and_eq_true,decide_eq_true_eq]at ha hb hc hd
 rw[Lib.atoiAll_plain a [b,c,d] (by omega) (by omega)]
 have h:Lib.parseMag [a,b,c,d]= .ok (1000*(a.toNat-48)+100*(b.toNat-48)+10*(c.toNat-48)+(d.toNat-48)):=by
  unfold Lib.parseMag
  rw[if_neg (by simp)]
  simp only[Lib.parseUint10]
  rw[if_pos ha,if_neg (by omega),if_neg (by omega),if_pos hb,if_neg (by omega),if_neg (by omega),if_pos hc,if_neg (by omega),if_neg (by omega),if_pos hd,if_neg (by omega),if_neg (by omega)]
  congr 1;omega
 rw[h]
 simp only[Lib.signless]
 rw[if_neg (by omega)]
 congr 1
 unfold tv
 omega
theorem c_atoi2 (a b:UInt8) (ha:dg a=true) (hb:dg b=true):Call Q 114 [.str [a,b]]=some (.tup [.int .i64 (tv a b),.nilif]):=
 atoi_ok (by simp) (mag2 a b ha hb) (by have:=Lib.atoiAll_bounds (mag2 a b ha hb);omega)
theorem c_atoi4 (a b c d:UInt8) (ha:dg a=true) (hb:dg b=true) (hc:dg c=true) (hd:dg d=true):Call Q 114 [.str [a,b,c,d]]=some (.tup [.int .i64 (100*tv a b+tv c d),.nilif]):=
 atoi_ok (by simp) (mag4 a b c d ha hb hc hd) (by have:=Lib.atoiAll_bounds (mag4 a b c d ha hb hc hd);omega)
def timeN (tg n0 n1 n2 n3 n4 n5:Int):Int × Int:=if n0<1970∨tg=24∧n0<2050 then(0,32)else(86400*daysF n0 n1 n2+3600*n3+60*n4+n5,0)
def cent (a b:UInt8):Int:=if 53≤a.toNat then 1900+tv a b else 2000+tv a b
def timeB (tg:Int):List UInt8→Int × Int
 | [a0,a1,a2,a3,a4,a5,a6,a7,a8,a9,a10,a11,_]=>timeN tg (cent a0 a1) (tv a2 a3) (tv a4 a5) (tv a6 a7) (tv a8 a9) (tv a10 a11)
 | [y0,y1,a0,a1,a2,a3,a4,a5,a6,a7,a8,a9,a10,a11,_]=>timeN tg (100*tv y0 y1+tv a0 a1) (tv a2 a3) (tv a4 a5) (tv a6 a7) (tv a8 a9) (tv a10 a11)
 |_=>(0,30)
def timeR:T→Int × Int
 | .mk c t m b ks=>if(wrW (.mk c t m b ks)).1≠0∨c≠0∨t≠23∧t≠24 then(0,30)else timeB t b
def R_m:List (Nat × Option (Bool × Nat) × PK):=[(2,none,.other),(3,none,.other)]
def m_tail:MCode:=(.seq (.seq (.rg [oT 73 (.mv (.v 7)),
  oT 74 (.iad 1 (.t 73) (.c (.int .i64 0))),
  oT 75 (.load false 1 (.t 74)),
  oT 76 (.bin .lss (.t 75) (.c (.int .i64 1970))),
  oT 77 (.mv (.t 76)),
  ⟨some (.t 78),.fad 1 (.v 1),some (.t 77,false)⟩,
  ⟨some (.t 79),.load false 1 (.t 78),some (.t 77,false)⟩,
  ⟨some (.t 80),.bin .eql (.t 79) (.c (.int .i64 24)),some (.t 77,false)⟩,
  ⟨some (.t 81),.mv (.t 80),some (.t 77,false)⟩,
  ⟨some (.t 82),.mv (.v 7),some (.t 81,true)⟩,
  ⟨some (.t 83),.iad 1 (.t 82) (.c (.int .i64 0)),some (.t 81,true)⟩,
  ⟨some (.t 84),.load false 1 (.t 83),some (.t 81,true)⟩,
  ⟨some (.t 85),.bin .lss (.t 84) (.c (.int .i64 2050)),some (.t 81,true)⟩,
  ⟨some (.t 86),.pick (.t 81) (.t 85) (.c (.bool false)),some (.t 77,false)⟩,
  oV 87 (.pick (.t 77) (.c (.bool true)) (.t 86))])
  (.cond (.v 87) (.seq (.rg [oV 2 (.mv (.c (.int .i64 0))),
  oV 3 (.mv (.c (.int .i64 32)))])
  (.ret))
  (.skip)))
  (.seq (.rgd [oT 88 (.mv (.v 7)),
  oT 89 (.iad 1 (.t 88) (.c (.int .i64 0))),
  oT 90 (.load false 1 (.t 89)),
  oT 91 (.mv (.v 7)),
  oT 92 (.iad 1 (.t 91) (.c (.int .i64 1))),
  oT 93 (.load false 1 (.t 92)),
  oT 94 (.mv (.v 7)),
  oT 95 (.iad 1 (.t 94) (.c (.int .i64 2))),
  oT 96 (.load false 1 (.t 95)),
  oT 97 (.call 115 [.t 90,.t 93,.t 96]),
  oT 98 (.bin .mul (.c (.int .i64 86400)) (.t 97)),
  oT 99 (.mv (.v 7)),
  oT 100 (.iad 1 (.t 99) (.c (.int .i64 3))),
  oT 101 (.load false 1 (.t 100)),
  oT 102 (.bin .mul (.c (.int .i64 3600)) (.t 101)),
  oT 103 (.bin .add (.t 98) (.t 102)),
  oT 104 (.mv (.v 7)),
  oT 105 (.iad 1 (.t 104) (.c (.int .i64 4))),
  oT 106 (.load false 1 (.t 105)),
  oT 107 (.bin .mul (.c (.int .i64 60)) (.t 106)),
  oT 108 (.bin .add (.t 103) (.t 107)),
  oT 109 (.mv (.v 7)),
  oT 110 (.iad 1 (.t 109) (.c (.int .i64 5))),
  oT 111 (.load false 1 (.t 110)),
  oT 112 (.bin .add (.t 108) (.t 111)),
  oV 2 (.mv (.t 112)),
  oV 3 (.mv (.c (.int .i64 0)))]
  (clo [[],[0],[1],[],[3],[4],[],[6],[7],[2,5,8],[9],[],[11],[12],[13],[10,14],[],[16],[17],[18],[15,19],[],[21],[22],[20,23],[24],[25]]))
  (.ret)))
def m_st (tg:Int) (m:Bool) (b:List UInt8) (k:MV) (ss:List MV) (a:Nat) (l:List Int) (i:Nat):DS:=⟨[(1,.ptr 0 0),(7,.own a l.length),(59,.agg ss),(60,.int .i64 i)],[],[(0,.cells [.int .i64 0,.int .i64 tg,.bool m,.bs b,k]),(a,.el 1 (iv l) false)],3⟩
theorem m_step (K:List Item) (tg:Int) (m:Bool) (b:List UInt8) (k:MV) (hk:Rk k) (s0 s1 s2 s3 s4 s5:List UInt8) (a:Nat) (ha:1≤a∧a≤2) (l:List Int) (hl:l.length≤6) (i:Nat) (hi:i<6) (n:Int) (s:List UInt8) (hs:[s0,s1,s2,s3,s4,s5][i]? = some s) (hc:Call Q 114 [.str s]=some (.tup [.int .i64 n,.nilif])):
  fin R_m (RunL Q m82k0 m82b0 K (m_st tg m b k [.str s0,.str s1,.str s2,.str s3,.str s4,.str s5] a l i))=fin R_m (RunL Q m82k0 m82b0 K (m_st tg m b k [.str s0,.str s1,.str s2,.str s3,.str s4,.str s5] 1 (l++[n]) (i+1))):=by
 have hlt:decide ((i:Int)<6)=true:=by simp;omega
 have i1:(i:Int)<6:=by omega
 have hg:[MV.str s0,.str s1,.str s2,.str s3,.str s4,.str s5][i]? = some (.str s):=by
  have:=congrArg (Option.map MV.str) hs
  rw[←List.getElem?_map]at this
  exact this
 have hle:(l++[n]).length=l.length+1:=by simp
 have hil:=iv_len l
 have e9:((i+1:Nat):Int)=(i:Int)+1:=rfl
 unfold m_st
 rw[iv_snoc,hle,e9]
 generalize hss:[MV.str s0,.str s1,.str s2,.str s3,.str s4,.str s5]=ss at hg ⊢
 have hsl:ss.length=6:=by rw[←hss];rfl
 cases hk
 all_goals(
 obtain⟨b',hb'⟩:∃b',b'=m82b0:=⟨_,rfl⟩
 rw[RunL_eq,show Item.lp m82k0 m82b0=Item.lp m82k0 b' by rw[hb']]
 apply hide;intro rhs hrhs
 simp(maxSteps:=4000000)(disch:=first|exact dz|fail)only[bA.u,seval,cut,if_pos,if_neg,m82b0,R_m,hlt,i1,hg,hsl,hc,hil]
 subst hrhs;(subst hb';refine(congrArg (fin _) (Run_lp Q _ _ _ _)).trans ?_;exact congrArg (fin R_m) (RunL_canon (canon_cong kr kr kr))))
theorem m_end (tg:Int) (htg:tg=23∨tg=24) (m:Bool) (b:List UInt8) (k:MV) (hk:Rk k) (ss:List MV) (n0 n1 n2 n3 n4 n5:Int) (h0:0≤n0∧n0<10000) (h1:1≤n1∧n1<100) (h2:0≤n2∧n2<100) (h3:0≤n3∧n3<100) (h4:0≤n4∧n4<100) (h5:0≤n5∧n5<100):
  fin R_m (RunL Q m82k0 m82b0 [.blk 0,.code m_tail] (m_st tg m b k ss 1 [n0,n1,n2,n3,n4,n5] 6))=some (.tup [.int .i64 (timeN tg n0 n1 n2 n3 n4 n5).1,.int .i64 (timeN tg n0 n1 n2 n3 n4 n5).2]):=by
 unfold timeN
 by_cases h:n0<1970∨tg=24∧n0<2050
 ·rw[if_pos h]
  unfold m_st iv
  rcases htg with rfl|rfl<;>cases hk
  all_goals(
  obtain⟨b',hb'⟩:∃b',b'=m82b0:=⟨_,rfl⟩
  rw[RunL_eq,show Item.lp m82k0 m82b0=Item.lp m82k0 b' by rw[hb']]
  apply hide;intro rhs hrhs
  simp(maxSteps:=4000000)(disch:=first|exact dz|fail)only[bA.u,seval,cut,if_pos,if_neg,m82b0,R_m,m_tail]
  repeat'((with_reducible first|refine sp ?_ ?_|fail)<;>intro hx<;>(try simp only[bI.u]at hx)<;>(first|exact xz|(try simp(maxSteps:=4000000)(disch:=first|exact dz|fail)only[bA.u,seval,cut,if_pos,if_neg,hx,m82b0,R_m,m_tail])))
  all_goals first|exact xz|(subst hrhs;rfl))
 ·rw[if_neg h]
  have c:=c59 n0 n1 n2 (by omega) (by omega) (by omega)
  have hB: -800000≤daysF n0 n1 n2∧daysF n0 n1 n2≤4000000:=by
   simp only[daysF,yearF,monF];split<;>omega
  generalize daysF n0 n1 n2=D at c hB ⊢
  unfold m_st iv
  rcases htg with rfl|rfl<;>cases hk
  all_goals(
  obtain⟨b',hb'⟩:∃b',b'=m82b0:=⟨_,rfl⟩
  rw[RunL_eq,show Item.lp m82k0 m82b0=Item.lp m82k0 b' by rw[hb']]
  apply hide;intro rhs hrhs
  simp(maxSteps:=4000000)(disch:=first|exact dz|fail)only[bA.u,seval,cut,if_pos,if_neg,m82b0,R_m,m_tail,c]
  repeat'((with_reducible first|refine sp ?_ ?_|fail)<;>intro hx<;>(try simp only[bI.u]at hx)<;>(first|exact xz|(try simp(maxSteps:=4000000)(disch:=first|exact dz|fail)only[bA.u,seval,cut,if_pos,if_neg,hx,m82b0,R_m,m_tail,c])))
  all_goals first|exact xz|(subst hrhs;rfl))
theorem tm_inv (b:List UInt8):∀(js:List Nat) (l r:List Int),foldE (gTm b) l js= .inl r→(∀j∈js,dg (g0 b (2*j))=true∧dg (g0 b (2*j+1))=true)∧r=l++js.map fun j=>tv (g0 b (2*j)) (g0 b (2*j+1))
 | [],l,r,h=>by cases h;simp
 |j::js,l,r,h=>by
  rw[foldE_cons]at h
  cases hc:(dg (g0 b (2*j))&&dg (g0 b (2*j+1)))
  ·rw[show gTm b l j= .inr () by unfold gTm;rw[hc];rfl]at h;cases h
  ·rw[show gTm b l j= .inl (l++[tv (g0 b (2*j)) (g0 b (2*j+1))]) by unfold gTm;rw[hc];rfl]at h
   obtain⟨h1,h2⟩:=tm_inv b js _ _ h
   simp only[Bool.and_eq_true]at hc
   refine⟨?_,by rw[h2];simp⟩
   intro i hi
   rcases List.mem_cons.1 hi with rfl|hi
   ·exact hc
   ·exact h1 i hi
theorem tv_rng1 (x y:UInt8) (hx:dg x=true) (hy:dg y=true):0≤tv x y∧tv x y≤99:=tv_rng x y (by rw[hx,hy];rfl)
theorem thirteen {α:Type} (l:List α) (h:l.length=13):∃a0 a1 a2 a3 a4 a5 a6 a7 a8 a9 a10 a11 a12,l=[a0,a1,a2,a3,a4,a5,a6,a7,a8,a9,a10,a11,a12]:=by
 match l,h with
 | [a0,a1,a2,a3,a4,a5,a6,a7,a8,a9,a10,a11,a12],_=>exact⟨a0,a1,a2,a3,a4,a5,a6,a7,a8,a9,a10,a11,a12,rfl⟩
theorem fifteen {α:Type} (l:List α) (h:l.length=15):∃y0 y1 a0 a1 a2 a3 a4 a5 a6 a7 a8 a9 a10 a11 a12,l=[y0,y1,a0,a1,a2,a3,a4,a5,a6,a7,a8,a9,a10,a11,a12]:=by
 match l,h with
 | [y0,y1,a0,a1,a2,a3,a4,a5,a6,a7,a8,a9,a10,a11,a12],_=>exact⟨y0,y1,a0,a1,a2,a3,a4,a5,a6,a7,a8,a9,a10,a11,a12,rfl⟩
theorem m_all (K:List Item) (tg:Int) (m:Bool) (b:List UInt8) (k:MV) (hk:Rk k) (s0 s1 s2 s3 s4 s5:List UInt8) (n0 n1 n2 n3 n4 n5:Int)
  (h0:Call Q 114 [.str s0]=some (.tup [.int .i64 n0,.nilif])) (h1:Call Q 114 [.str s1]=some (.tup [.int .i64 n1,.nilif])) (h2:Call Q 114 [.str s2]=some (.tup [.int .i64 n2,.nilif]))
  (h3:Call Q 114 [.str s3]=some (.tup [.int .i64 n3,.nilif])) (h4:Call Q 114 [.str s4]=some (.tup [.int .i64 n4,.nilif])) (h5:Call Q 114 [.str s5]=some (.tup [.int .i64 n5,.nilif])):
  fin R_m (RunL Q m82k0 m82b0 K (m_st tg m b k [.str s0,.str s1,.str s2,.str s3,.str s4,.str s5] 2 [] 0))=fin R_m (RunL Q m82k0 m82b0 K (m_st tg m b k [.str s0,.str s1,.str s2,.str s3,.str s4,.str s5] 1 [n0,n1,n2,n3,n4,n5] 6)):=by
 rw[m_step K tg m b k hk s0 s1 s2 s3 s4 s5 2 (by omega) [] (by simp) 0 (by omega) n0 s0 rfl h0]
 rw[m_step K tg m b k hk s0 s1 s2 s3 s4 s5 1 (by omega) _ (by simp) 1 (by omega) n1 s1 rfl h1]
 rw[m_step K tg m b k hk s0 s1 s2 s3 s4 s5 1 (by omega) _ (by simp) 2 (by omega) n2 s2 rfl h2]
 rw[m_step K tg m b k hk s0 s1 s2 s3 s4 s5 1 (by omega) _ (by simp) 3 (by omega) n3 s3 rfl h3]
 rw[m_step K tg m b k hk s0 s1 s2 s3 s4 s5 1 (by omega) _ (by simp) 4 (by omega) n4 s4 rfl h4]
 rw[m_step K tg m b k hk s0 s1 s2 s3 s4 s5 1 (by omega) _ (by simp) 5 (by omega) n5 s5 rfl h5]
 rfl
theorem c_Time (v:MV) (t:T) (hv:Rv v t) (hl:low t) (hs:sz t≤2^29):Call Q 82 [v]=some (.tup [.int .i64 (timeR t).1,.int .i64 (timeR t).2]):=by
 have hw:=c_Write v t hv hl (by omega)
 cases hv with
 | @mk _ c tg m w k b ks hb hk=>
 have hRk:Rk k:=by cases hk<;>constructor
 rw[timeR]
 by_cases h:(wrW (.mk c tg m b ks)).1≠0∨c≠0∨tg≠23∧tg≠24
 ·rw[if_pos h]
  generalize wrW (.mk c tg m b ks)=W at hw h
  obtain⟨e,bs⟩:=W
  simp only at hw h
  rw[Call_fn Q (m:=m82) rfl rfl]
  cases hb<;>cases hk
  all_goals(
  apply hide;intro rhs hrhs
  simp(maxSteps:=4000000)(disch:=first|exact dz|fail)only[bA.u,seval,cut,if_pos,if_neg,m82,hw]
  repeat'((with_reducible first|refine sp ?_ ?_|fail)<;>intro hx<;>(try simp only[bI.u]at hx)<;>(first|exact xz|(try simp(maxSteps:=4000000)(disch:=first|exact dz|fail)only[bA.u,seval,cut,if_pos,if_neg,hx,m82,hw])))
  all_goals first|exact xz|(subst hrhs;rfl))
 rw[if_neg h]
 have h1:(wrW (.mk c tg m b ks)).1=0:=Decidable.not_not.1 fun x=>h (.inl x)
 have h2:c=0:=Decidable.not_not.1 fun x=>h (.inr (.inl x))
 have h3:tg=23∨tg=24:=by omega
 subst h2
 have hf:=(wr_ok (wrW_wr h1).1).2.2.1
 have hm:m=false:=by
  cases m
  ·rfl
  ·have hb0:=(wr_ok (wrW_wr h1).1).2.2.2.1 rfl
   subst hb0
   rcases h3 with rfl|rfl<;>exact absurd hf (by decide)
 subst hm
 rw[h1]at hw
 generalize(wrW (.mk 0 tg false b ks)).2=bs at hw
 rcases h3 with rfl|rfl
 ·have hT:timB b 6=true:=by
   cases hx:timB b 6
   ·simp[formE,right,hx]at hf
   ·rfl
  unfold timB at hT
  simp only[Bool.and_eq_true,decide_eq_true_eq]at hT
  obtain⟨⟨hlen,hz⟩,hfold⟩:=hT
  cases hr:foldE (gTm b) [] (List.range 6)with
  |inr u=>rw[hr]at hfold;cases hfold
  |inl r=>
  rw[hr]at hfold
  obtain⟨hd,rfl⟩:=tm_inv b _ _ _ hr
  obtain⟨a0,a1,a2,a3,a4,a5,a6,a7,a8,a9,a10,a11,a12,rfl⟩:=thirteen b hlen
  have d0:=hd 0 (by simp)
  have d1:=hd 1 (by simp)
  have d2:=hd 2 (by simp)
  have d3:=hd 3 (by simp)
  have d4:=hd 4 (by simp)
  have d5:=hd 5 (by simp)
  simp only[g0,List.getD_cons_zero,List.getD_cons_succ,Nat.mul_zero,Nat.zero_add,Nat.reduceMul,Nat.reduceAdd,Nat.mul_one]at d0 d1 d2 d3 d4 d5
  rw[show(List.range 6)=[0,1,2,3,4,5]from rfl]at hfold
  simp only[g0,List.map_cons,List.map_nil,List.nil_append,List.getD_cons_zero,List.getD_cons_succ,Nat.mul_zero,Nat.zero_add,Nat.reduceMul,Nat.reduceAdd,Nat.mul_one,timL,if_true,timN,Bool.and_eq_true,decide_eq_true_eq]at hfold
  have r0:=tv_rng1 a0 a1 d0.1 d0.2
  have r1:=tv_rng1 a2 a3 d1.1 d1.2
  have r2:=tv_rng1 a4 a5 d2.1 d2.2
  have r3:=tv_rng1 a6 a7 d3.1 d3.2
  have r4:=tv_rng1 a8 a9 d4.1 d4.2
  have r5:=tv_rng1 a10 a11 d5.1 d5.2
  have q1:=c_atoi2 a2 a3 d1.1 d1.2
  have q2:=c_atoi2 a4 a5 d2.1 d2.2
  have q3:=c_atoi2 a6 a7 d3.1 d3.2
  have q4:=c_atoi2 a8 a9 d4.1 d4.2
  have q5:=c_atoi2 a10 a11 d5.1 d5.2
  cases hb with
  |bs=>
  simp only[timeB]
  by_cases hc:53≤a0.toNat
  ·have hc':decide (53≤(a0.toNat:Int))=true:=by simp;omega
   have q0:=c_atoi4 49 57 a0 a1 rfl rfl d0.1 d0.2
   rw[show 100*tv 49 57+tv a0 a1=cent a0 a1 by rw[cent,if_pos hc];rfl]at q0
   have hcr:1900≤cent a0 a1∧cent a0 a1<2100:=by rw[cent,if_pos hc];omega
   have hA:=(m_all [.blk 0,.code m_tail] 23 false [a0,a1,a2,a3,a4,a5,a6,a7,a8,a9,a10,a11,a12] k hRk [49,57,a0,a1] [a2,a3] [a4,a5] [a6,a7] [a8,a9] [a10,a11] _ _ _ _ _ _ q0 q1 q2 q3 q4 q5).trans (m_end 23 (.inl rfl) false _ k hRk _ (cent a0 a1) (tv a2 a3) (tv a4 a5) (tv a6 a7) (tv a8 a9) (tv a10 a11) (by omega) (by omega) (by omega) (by omega) (by omega) (by omega))
   unfold m_st at hA
   rw[Call_fn Q (m:=m82) rfl rfl]
   cases hk
   all_goals(
   apply hide;intro rhs hrhs
   simp(maxSteps:=4000000)(disch:=first|exact dz|fail)only[bA.u,seval,cut,if_pos,if_neg,m82,Run_loop,hw,List.getD_cons_zero,hc']
   repeat'((with_reducible first|refine sp ?_ ?_|fail)<;>intro hx<;>(try simp only[bI.u]at hx)<;>(first|exact xz|(try simp(maxSteps:=4000000)(disch:=first|exact dz|fail)only[bA.u,seval,cut,if_pos,if_neg,hx,m82,Run_loop,hw,List.getD_cons_zero,hc'])))
   all_goals first|exact xz|(subst hrhs;exact(congrArg (fin _) (RunL_canon (canon_cong kr kr kr))).trans hA))
  ·have hc':decide (53≤(a0.toNat:Int))=false:=by simp;omega
   have q0:=c_atoi4 50 48 a0 a1 rfl rfl d0.1 d0.2
   rw[show 100*tv 50 48+tv a0 a1=cent a0 a1 by rw[cent,if_neg hc];rfl]at q0
   have hcr:1900≤cent a0 a1∧cent a0 a1<2100:=by rw[cent,if_neg hc];omega
   have hA:=(m_all [.blk 0,.code m_tail] 23 false [a0,a1,a2,a3,a4,a5,a6,a7,a8,a9,a10,a11,a12] k hRk [50,48,a0,a1] [a2,a3] [a4,a5] [a6,a7] [a8,a9] [a10,a11] _ _ _ _ _ _ q0 q1 q2 q3 q4 q5).trans (m_end 23 (.inl rfl) false _ k hRk _ (cent a0 a1) (tv a2 a3) (tv a4 a5) (tv a6 a7) (tv a8 a9) (tv a10 a11) (by omega) (by omega) (by omega) (by omega) (by omega) (by omega))
   unfold m_st at hA
   rw[Call_fn Q (m:=m82) rfl rfl]
   cases hk
   all_goals(
   apply hide;intro rhs hrhs
   simp(maxSteps:=4000000)(disch:=first|exact dz|fail)only[bA.u,seval,cut,if_pos,if_neg,m82,Run_loop,hw,List.getD_cons_zero,hc']
   repeat'((with_reducible first|refine sp ?_ ?_|fail)<;>intro hx<;>(try simp only[bI.u]at hx)<;>(first|exact xz|(try simp(maxSteps:=4000000)(disch:=first|exact dz|fail)only[bA.u,seval,cut,if_pos,if_neg,hx,m82,Run_loop,hw,List.getD_cons_zero,hc'])))
   all_goals first|exact xz|(subst hrhs;exact(congrArg (fin _) (RunL_canon (canon_cong kr kr kr))).trans hA))
 ·have hT:timB b 7=true:=by
   cases hx:timB b 7
   ·simp[formE,right,hx]at hf
   ·rfl
  unfold timB at hT
  simp only[Bool.and_eq_true,decide_eq_true_eq]at hT
  obtain⟨⟨hlen,hz⟩,hfold⟩:=hT
  cases hr:foldE (gTm b) [] (List.range 7)with
  |inr u=>rw[hr]at hfold;cases hfold
  |inl r=>
  rw[hr]at hfold
  obtain⟨hd,rfl⟩:=tm_inv b _ _ _ hr
  obtain⟨y0,y1,a0,a1,a2,a3,a4,a5,a6,a7,a8,a9,a10,a11,a12,rfl⟩:=fifteen b hlen
  have dy:=hd 0 (by simp)
  have d0:=hd 1 (by simp)
  have d1:=hd 2 (by simp)
  have d2:=hd 3 (by simp)
  have d3:=hd 4 (by simp)
  have d4:=hd 5 (by simp)
  have d5:=hd 6 (by simp)
  simp only[g0,List.getD_cons_zero,List.getD_cons_succ,Nat.mul_zero,Nat.zero_add,Nat.reduceMul,Nat.reduceAdd,Nat.mul_one]at dy d0 d1 d2 d3 d4 d5
  rw[show(List.range 7)=[0,1,2,3,4,5,6]from rfl]at hfold
  simp only[g0,List.map_cons,List.map_nil,List.nil_append,List.getD_cons_zero,List.getD_cons_succ,Nat.mul_zero,Nat.zero_add,Nat.reduceMul,Nat.reduceAdd,Nat.mul_one,timL,if_true,timN,Bool.and_eq_true,decide_eq_true_eq]at hfold
  have ry:=tv_rng1 y0 y1 dy.1 dy.2
  have r0:=tv_rng1 a0 a1 d0.1 d0.2
  have r1:=tv_rng1 a2 a3 d1.1 d1.2
  have r2:=tv_rng1 a4 a5 d2.1 d2.2
  have r3:=tv_rng1 a6 a7 d3.1 d3.2
  have r4:=tv_rng1 a8 a9 d4.1 d4.2
  have r5:=tv_rng1 a10 a11 d5.1 d5.2
  have q0:=c_atoi4 y0 y1 a0 a1 dy.1 dy.2 d0.1 d0.2
  have q1:=c_atoi2 a2 a3 d1.1 d1.2
  have q2:=c_atoi2 a4 a5 d2.1 d2.2
  have q3:=c_atoi2 a6 a7 d3.1 d3.2
  have q4:=c_atoi2 a8 a9 d4.1 d4.2
  have q5:=c_atoi2 a10 a11 d5.1 d5.2
  cases hb with
  |bs=>
  simp only[timeB]
  have hA:=(m_all [.blk 0,.code m_tail] 24 false [y0,y1,a0,a1,a2,a3,a4,a5,a6,a7,a8,a9,a10,a11,a12] k hRk [y0,y1,a0,a1] [a2,a3] [a4,a5] [a6,a7] [a8,a9] [a10,a11] _ _ _ _ _ _ q0 q1 q2 q3 q4 q5).trans (m_end 24 (.inr rfl) false _ k hRk _ (100*tv y0 y1+tv a0 a1) (tv a2 a3) (tv a4 a5) (tv a6 a7) (tv a8 a9) (tv a10 a11) (by omega) (by omega) (by omega) (by omega) (by omega) (by omega))
  unfold m_st at hA
  rw[Call_fn Q (m:=m82) rfl rfl]
  cases hk
  all_goals(
  apply hide;intro rhs hrhs
  simp(maxSteps:=4000000)(disch:=first|exact dz|fail)only[bA.u,seval,cut,if_pos,if_neg,m82,Run_loop,hw]
  repeat'((with_reducible first|refine sp ?_ ?_|fail)<;>intro hx<;>(try simp only[bI.u]at hx)<;>(first|exact xz|(try simp(maxSteps:=4000000)(disch:=first|exact dz|fail)only[bA.u,seval,cut,if_pos,if_neg,hx,m82,Run_loop,hw])))
  all_goals first|exact xz|(subst hrhs;exact(congrArg (fin _) (RunL_canon (canon_cong kr kr kr))).trans hA))
inductive GR where
 |er (e:Int)
 |ok (k:Int) (t:List UInt8) (dv:MV)
def GR.mv:GR→MV
 | .er e=>.tup [.agg [.int .i64 0,.str [],.nilsl],.int .i64 e]
 | .ok k t dv=>.tup [gM k t dv,.int .i64 0]
def pgen (lim:Bool):T→GR
 | .mk c tg m b ks=>if(wrW (.mk c tg m b ks)).1≠0∨c≠2∨kindB tg=false∨m≠decide (tg=4)∨tg=4∧ks.length≠1 then .er 30
  else match(if tg=4 then ks else [])with
   |k::_=>match pdn k with
    | .er _=>.er 31
    | .ok d=>if rightB tg b d lim=true then .ok tg b (.sl 2 (attrs d))else .er 31
   | []=>if rightB tg b [] lim=true then .ok tg b .nilsl else .er 31
theorem pdn_small:∀(ks:List T) (s s':Dn × Int),foldE gP s ks= .inl s'→s'.1.length=s.1.length+ks.length
 | [],s,s',h=>by cases h;simp
 |k::r,s,s',h=>by
  rw[foldE_cons]at h
  cases hg:gP s k with
  |inr u=>rw[hg]at h;cases h
  |inl s1=>
   rw[hg]at h
   have h2:=pdn_small r s1 s' h
   have:s1.1.length=s.1.length+1:=by
    unfold gP at hg
    split at hg
    ·cases hg
    ·split at hg
     ·cases hg
     ·split at hg
      split at hg
      ·cases hg;simp
      ·cases hg
   rw[h2,this,List.length_cons];omega
theorem pdn_ok {t:T} {d:Dn} (h:pdn t= .ok d):d.length≤16:=by
 obtain⟨c,tg,m,b,ks⟩:=t
 rw[pdn]at h
 split at h
 ·cases h
 ·rename_i hn
  split at h
  ·cases h
  ·rename_i s hs
   split at h
   ·cases h
   ·cases h
    have:=pdn_small ks _ _ hs
    simp at this
    omega
theorem pdn_er {t:T} {e:Int} (h:pdn t= .er e):e≠0:=by
 obtain⟨c,tg,m,b,ks⟩:=t
 rw[pdn]at h
 split at h
 ·cases h;decide
 ·split at h
  ·cases h;decide
  ·split at h
   ·rename_i h2;cases h;exact h2
   ·cases h
theorem c_PGen (v:MV) (t:T) (hv:Rv v t) (hl:low t) (hs:sz t<900000) (lim:Bool):Call Q 101 [v,.bool lim]=some (pgen lim t).mv:=by
 have hw:=c_Write v t hv hl (by omega)
 cases hv with
 | @mk _ c tg m w k b ks hb hk=>
 rw[sz]at hs
 rw[low]at hl
 have hkd:=c_kinds tg
 have hlen:∀st,lenV false k st=some (.int .i64 ks.length):=(Rs.fa hk).2
 rw[pgen]
 obtain⟨e0,he0⟩:∃e0,e0=(wrW (.mk c tg m b ks)).1:=⟨_,rfl⟩
 rw[←he0]at hw ⊢
 generalize(wrW (.mk c tg m b ks)).2=bs at hw
 have hkl:=szs_len ks
 by_cases h:e0≠0∨c≠2∨kindB tg=false∨m≠decide (tg=4)∨tg=4∧ks.length≠1
 ·rw[if_pos h]
  clear he0
  simp only[GR.mv]
  rw[Call_fn Q (m:=m101) rfl rfl]
  by_cases h1:e0=0
  rotate_left
  ·have h1':(e0==0)=false:=by simpa using h1
   cases hb<;>cases hk
   all_goals(
   apply hide;intro rhs hrhs
   simp(maxSteps:=4000000)(disch:=first|exact dz|fail)only[bA.u,seval,cut,if_pos,if_neg,m101,hw,h1']
   subst hrhs;rfl)
  subst h1
  by_cases h2:c=2
  rotate_left
  ·have h2':(c==2)=false:=by simpa using h2
   cases hb<;>cases hk
   all_goals(
   apply hide;intro rhs hrhs
   simp(maxSteps:=4000000)(disch:=first|exact dz|fail)only[bA.u,seval,cut,if_pos,if_neg,m101,hw,h2']
   subst hrhs;rfl)
  subst h2
  cases h3:kindB tg
  ·rw[h3]at hkd
   cases hb<;>cases hk
   all_goals(
   apply hide;intro rhs hrhs
   simp(maxSteps:=4000000)(disch:=first|exact dz|fail)only[bA.u,seval,cut,if_pos,if_neg,m101,hw,hkd]
   subst hrhs;rfl)
  rw[h3]at hkd
  by_cases h4:tg=4
  ·subst h4
   cases m
   ·cases hb<;>cases hk
    all_goals(
    apply hide;intro rhs hrhs
    simp(maxSteps:=4000000)(disch:=first|exact dz|fail)only[bA.u,seval,cut,if_pos,if_neg,m101,hw,hkd]
    subst hrhs;rfl)
   ·have h5:ks.length≠1:=by
     rcases h with h|h|h|h|h
     ·exact absurd rfl h
     ·exact absurd rfl h
     ·rw[h3]at h;cases h
     ·exact absurd rfl h
     ·exact h.2
    cases hk with
    |nil=>
     cases hb
     all_goals(
     apply hide;intro rhs hrhs
     simp(maxSteps:=4000000)(disch:=first|exact dz|fail)only[bA.u,seval,cut,if_pos,if_neg,m101,hw,hkd]
     subst hrhs;rfl)
    | @sl _ l _ hll=>
     have hln:=hll.length
     have h5':((ks.length:Int)==1)=false:=by rw[beq_eq_false_iff_ne];omega
     cases hb
     all_goals(
     apply hide;intro rhs hrhs
     simp(maxSteps:=4000000)(disch:=first|exact dz|fail)only[bA.u,seval,cut,if_pos,if_neg,m101,hw,hkd,hln,h5']
     subst hrhs;rfl)
  ·have h4':(tg==4)=false:=by simpa using h4
   have hm:m=true:=by
    rcases h with h|h|h|h|h
    ·exact absurd rfl h
    ·exact absurd rfl h
    ·rw[h3]at h;cases h
    ·cases m
     ·rw[show decide (tg=4)=false by simpa using h4]at h;exact absurd rfl h
     ·rfl
    ·exact absurd h.1 h4
   subst hm
   cases hb<;>cases hk
   all_goals(
   apply hide;intro rhs hrhs
   simp(maxSteps:=4000000)(disch:=first|exact dz|fail)only[bA.u,seval,cut,if_pos,if_neg,m101,hw,hkd,h4']
   subst hrhs;rfl)
 rw[if_neg h]
 have h1:e0=0:=Decidable.not_not.1 fun x=>h (.inl x)
 have h2:c=2:=Decidable.not_not.1 fun x=>h (.inr (.inl x))
 have h3:kindB tg=true:=by
  cases hx:kindB tg
  ·exact absurd (.inr (.inr (.inl hx))) h
  ·rfl
 have h4:m=decide (tg=4):=Decidable.not_not.1 fun x=>h (.inr (.inr (.inr (.inl x))))
 subst h1;subst h2
 rw[h3]at hkd
 by_cases ht:tg=4
 ·have h5:ks.length=1:=Decidable.not_not.1 fun x=>h (.inr (.inr (.inr (.inr ⟨ht,x⟩))))
  subst ht
  rw[show decide ((4:Int)=4)=true from rfl]at h4
  subst h4
  have hb0:=(wr_ok (wrW_wr he0.symm).1).2.2.2.1 rfl
  subst hb0
  clear he0
  rw[if_pos rfl]
  match ks,h5 with
  | [k0],_=>
  cases hk with
  | @sl _ l _ hll=>
  cases hll with
  | @cons _ v0 _ lr _ hv0 hr=>
  cases hr
  simp only[lows,szs]at hl hs
  have hp:=c_ParseDN v0 k0 hv0 hl.2.1 (by omega)
  dsimp only
  cases hv0 with
  | @mk _ c0 t0 m0 w0 kk0 b0 ks0 hb0 hk0=>
  obtain⟨⟨g1,g2,g3⟩,g4,g5⟩:=Rb.fa hb0
  obtain⟨⟨q1,q2,q3⟩,q4⟩:=Rs.fa hk0
  cases hd:pdn (.mk c0 t0 m0 b0 ks0)with
  |er e=>
   rw[hd]at hp
   have he:=pdn_er hd
   have he':(e==0)=false:=by simpa using he
   simp only[PR.mv]at hp
   simp only[GR.mv]
   rw[Call_fn Q (m:=m101) rfl rfl]
   cases hb
   all_goals(
   apply hide;intro rhs hrhs
   simp(maxSteps:=4000000)(disch:=first|exact dz|fail)only[bA.u,seval,cut,if_pos,if_neg,m101,hw,hkd,hp,he',g1,g2,g3,q1,q2,q3]
   subst hrhs;rfl)
  |ok d=>
   rw[hd]at hp
   have hdl:=pdn_ok hd
   simp only[PR.mv]at hp
   have hr:=c_right 4 [] (.sl 2 (attrs d)) d (.inl rfl) (by omega) (by simp) lim
   unfold gM at hr
   dsimp only
   cases hR:rightB 4 [] d lim
   ·rw[hR]at hr
    rw[if_neg (by simp)]
    simp only[GR.mv]
    rw[Call_fn Q (m:=m101) rfl rfl]
    cases hb
    all_goals(
    apply hide;intro rhs hrhs
    simp(maxSteps:=4000000)(disch:=first|exact dz|fail)only[bA.u,seval,cut,if_pos,if_neg,m101,hw,hkd,hp,hr,g1,g2,g3,q1,q2,q3]
    subst hrhs;rfl)
   ·rw[hR]at hr
    rw[if_pos rfl]
    simp only[GR.mv,gM]
    rw[Call_fn Q (m:=m101) rfl rfl]
    cases hb
    all_goals(
    apply hide;intro rhs hrhs
    simp(maxSteps:=4000000)(disch:=first|exact dz|fail)only[bA.u,seval,cut,if_pos,if_neg,m101,hw,hkd,hp,hr,g1,g2,g3,q1,q2,q3]
    subst hrhs;rfl)
 ·rw[show decide (tg=4)=false by simpa using ht]at h4
  subst h4
  have hks:=(wr_ok (wrW_wr he0.symm).1).2.2.2.2.1 rfl
  subst hks
  clear he0
  have ht':(tg==4)=false:=by simpa using ht
  rw[if_neg ht]
  dsimp only
  have hr:=c_right tg b .nilsl [] (.inr ⟨rfl,rfl⟩) (by simp) (by omega) lim
  unfold gM at hr
  cases hR:rightB tg b [] lim
  ·rw[hR]at hr
   rw[if_neg (by simp)]
   simp only[GR.mv]
   rw[Call_fn Q (m:=m101) rfl rfl]
   cases hb<;>cases hk
   all_goals(
   apply hide;intro rhs hrhs
   simp(maxSteps:=4000000)(disch:=first|exact dz|fail)only[bA.u,seval,cut,if_pos,if_neg,m101,hw,hkd,hr,ht']
   subst hrhs;rfl)
  ·rw[hR]at hr
   rw[if_pos rfl]
   simp only[GR.mv,gM]
   rw[Call_fn Q (m:=m101) rfl rfl]
   cases hb<;>cases hk
   all_goals(
   apply hide;intro rhs hrhs
   simp(maxSteps:=4000000)(disch:=first|exact dz|fail)only[bA.u,seval,cut,if_pos,if_neg,m101,hw,hkd,hr,ht']
   subst hrhs;rfl)
end Go.Mini.Nm

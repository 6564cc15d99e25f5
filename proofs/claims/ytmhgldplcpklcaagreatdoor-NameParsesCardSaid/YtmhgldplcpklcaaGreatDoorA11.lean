/- any value's DN and any DN's value are the document's: the law by that interpreter (part 11): what the program's functions answer, or plain laws of it; no conditions. -/
import Derived.Test.YtmhgldplcpklcaaGreatDoorA10
set_option linter.all false
namespace Go.Mini
open Go Go.Proofs.YtmhgldplcpklcaaGreatDoor
set_option maxRecDepth 100000
set_option maxHeartbeats 8000000
def kT (y i:Nat):Nat:=if i<y then 0 else 1+(i-y)/2
def gD (y:Nat) (b:List UInt8) (l:List Int) (i:Nat):List Int ⊕ List Int:=if dg (g0 b i)=true then .inl (l.set (kT y i) (10*l.getD (kT y i) 0+((g0 b i).toNat:Int)-48))else .inr l
def R_t:List (Nat × Option (Bool × Nat) × PK):=[(4,some (true,6),.other),(5,none,.other)]
def t_tail:MCode:=(.seq (sq [qa 64 1,qC 65 .eql 64 2] (.cond (.v 65) (sq [oT 66 (.aad 1 6 (.v 6) (qk 0)),qc 67 66,qx 68 .add 67 1900,oT 69 (.aad 1 6 (.v 6) (qk 0)),oN (.store 1 (.t 69) (.t 68))] (sq [oT 70 (.aad 1 6 (.v 6) (qk 0)),qc 71 70,qC 72 .lss 71 1950] (.cond (.v 72) (.rg [oT 73 (.aad 1 6 (.v 6) (qk 0)),qc 74 73,qx 75 .add 74 100,oT 76 (.aad 1 6 (.v 6) (qk 0)),oN (.store 1 (.t 76) (.t 75))]) .skip))) .skip)) (.seq (.rgd [oT 77 (.aad 1 6 (.v 6) (qk 1)),qc 78 77,qx 79 .geq 78 1,qf 80 79,gT 81 (.aad 1 6 (.v 6) (qk 1)) 80,qP 82 81 80,qV 83 .leq 82 12 80,qp 84 80 83,qf 85 84,gT 86 (.aad 1 6 (.v 6) (qk 2)) 85,qP 87 86 85,qV 88 .geq 87 1 85,qp 89 85 88,qf 90 89,gT 91 (.aad 1 6 (.v 6) (qk 2)) 90,qP 92 91 90,gT 93 (.aad 1 6 (.v 6) (qk 0)) 90,qP 94 93 90,gT 95 (.aad 1 6 (.v 6) (qk 1)) 90,qP 96 95 90,gT 97 (.call 153 [.t 94,.t 96]) 90,gT 98 (.bin .leq (.t 92) (.t 97)) 90,qp 99 90 98,qf 100 99,gT 101 (.aad 1 6 (.v 6) (qk 3)) 100,qP 102 101 100,qV 103 .leq 102 23 100,qp 104 100 103,qf 105 104,gT 106 (.aad 1 6 (.v 6) (qk 4)) 105,qP 107 106 105,qV 108 .leq 107 59 105,qp 109 105 108,qf 110 109,gT 111 (.aad 1 6 (.v 6) (qk 5)) 110,qP 112 111 110,qV 113 .leq 112 59 110,qp 114 110 113,qb 9 114] (clo [[],[0],[1],[2],[3],[4],[5],[6],[7],[8],[9],[10],[11],[12],[13],[14],[13],[16],[13],[18],[17,19],[15,20],[21],[22],[23],[24],[25],[26],[27],[28],[29],[30],[31],[32],[33],[34],[35],[36],[37]])) (sq [qi 115 6 6,qa 116 9,qg 6 4 115,qb 5 116] .ret)))
def z6L:List MV:=[.int .i64 0,.int .i64 0,.int .i64 0,.int .i64 0,.int .i64 0,.int .i64 0]
def t_st (b:List UInt8) (y:Nat) (l:List Int) (i:Nat):DS:=⟨[(0,.bs b),(1,.int .i64 (y:Nat)),(4,.ptr 0 0),(6,.ptr 1 0),(7,.int .i64 (i:Nat))],[],[(0,.cells z6L),(1,.cells (iv l))],3⟩
def t_out (l:List Int) (r:Bool):MV:=.tup [.agg (iv l),.bool r]
theorem dg_bad {x:UInt8} (h:dg x=false):x.toNat<48∨57<x.toNat:=by
 unfold dg at h
 simp at h;omega
theorem dg_good {x:UInt8} (h:dg x=true):48≤x.toNat∧x.toNat≤57:=by
 unfold dg at h
 simp at h;omega
theorem t_no (b:List UInt8) (y:Nat) (hy:y=2∨y=4) (K:List Item) (l:List Int) (i:Nat) (hl:l.length=6) (hi:i<y+10) (hb:b.length=y+11) (h:dg (g0 b i)=false):fin R_t (RunL Q m149k0 m149b0 K (t_st b y l i))=some (t_out l false):=by
 have hw:IntKind.i64.wrap ((y:Int)+10)=(y:Int)+10:=w64 (by omega) (by omega)
 have hlt:decide ((i:Int)<(y:Int)+10)=true:=by simp;omega
 have hg:=getq b i (by omega)
 have hx:=dg_bad h
 generalize g0 b i=x at hg hx
 obtain⟨a0,a1,a2,a3,a4,a5,rfl⟩:=six l hl
 unfold t_st t_out z6L
 simp only[iv,List.map]
 obtain⟨b',hb'⟩:∃b',b'=m149b0:=⟨_,rfl⟩
 rw[RunL_eq,show Item.lp m149k0 m149b0=Item.lp m149k0 b' by rw[hb']]
 apply hide;intro rhs hrhs
 simp(maxSteps:=4000000)(disch:=first|exact dz|fail)only[bB.u,seval,cut,m149b0,R_t,hw,hlt,hg]
 repeat'((with_reducible first|refine sp ?_ ?_|fail)<;>intro hx<;>(try simp only[bI.u]at hx)<;>(first|exact xz|(try simp(maxSteps:=4000000)(disch:=first|exact dz|fail)only[bB.u,seval,cut,hx,m149b0,R_t,hw,hlt,hg])))
 all_goals first|exact xz|(subst hrhs;rfl)
theorem t_yes (b:List UInt8) (y:Nat) (hy:y=2∨y=4) (K:List Item) (l:List Int) (i:Nat) (hl:l.length=6) (hr:∀a∈l,0≤a∧a<10^15) (hi:i<y+10) (hb:b.length=y+11) (h:dg (g0 b i)=true):fin R_t (RunL Q m149k0 m149b0 K (t_st b y l i))=fin R_t (RunL Q m149k0 m149b0 K (t_st b y (l.set (kT y i) (10*l.getD (kT y i) 0+((g0 b i).toNat:Int)-48)) (i+1))):=by
 have hw:IntKind.i64.wrap ((y:Int)+10)=(y:Int)+10:=w64 (by omega) (by omega)
 have hlt:decide ((i:Int)<(y:Int)+10)=true:=by simp;omega
 have hg:=getq b i (by omega)
 have hx:=dg_good h
 generalize g0 b i=x at hg hx ⊢
 have e9:((i+1:Nat):Int)=(i:Int)+1:=rfl
 have c1:decide ((x.toNat:Int)<48)=false:=by simp;omega
 have c2:decide (57<(x.toNat:Int))=false:=by simp;omega
 obtain⟨a0,a1,a2,a3,a4,a5,rfl⟩:=six l hl
 have r0:=hr a0 (by simp)
 have r1:=hr a1 (by simp)
 have r2:=hr a2 (by simp)
 have r3:=hr a3 (by simp)
 have r4:=hr a4 (by simp)
 have r5:=hr a5 (by simp)
 clear hr
 by_cases hk:i<y
 ·have hk':decide ((y:Int)≤(i:Int))=false:=by simp;omega
  rw[show kT y i=0 from if_pos hk]
  unfold t_st z6L
  simp only[iv,List.map,List.set,List.getD_cons_zero,e9]
  obtain⟨b',hb'⟩:∃b',b'=m149b0:=⟨_,rfl⟩
  rw[RunL_eq,show Item.lp m149k0 m149b0=Item.lp m149k0 b' by rw[hb']]
  apply hide;intro rhs hrhs
  simp(maxSteps:=4000000)(disch:=first|exact dz|fail)only[bB.u,seval,cut,m149b0,R_t,hw,hlt,hg,c1,c2,hk']
  repeat'((with_reducible first|refine sp ?_ ?_|fail)<;>intro hx<;>(try simp only[bI.u]at hx)<;>(first|exact xz|(try simp(maxSteps:=4000000)(disch:=first|exact dz|fail)only[bB.u,seval,cut,hx,m149b0,R_t,hw,hlt,hg,c1,c2,hk'])))
  all_goals first|exact xz|(subst hrhs;(subst hb';refine(congrArg (fin _) (Run_lp Q _ _ _ _)).trans ?_;exact congrArg (fin R_t) (RunL_canon (canon_cong kr kr kr))))
 have hk':decide ((y:Int)≤(i:Int))=true:=by simp;omega
 have wv:IntKind.i64.wrap ((i:Int)-(y:Int))=(i:Int)-(y:Int):=w64 (by omega) (by omega)
 have t2:((i:Int)-(y:Int)).tdiv 2=((i:Int)-(y:Int))/2:=Int.tdiv_eq_ediv_of_nonneg (by omega)
 rw[show kT y i=1+(i-y)/2 from if_neg hk]
 have hq:1+((i:Int)-(y:Int))/2=((1+(i-y)/2:Nat):Int):=by omega
 have hq2:1+(i-y)/2=1∨1+(i-y)/2=2∨1+(i-y)/2=3∨1+(i-y)/2=4∨1+(i-y)/2=5:=by omega
 generalize 1+(i-y)/2=q at hq hq2 ⊢
 rcases hq2 with rfl|rfl|rfl|rfl|rfl
 ·have hq':1+((i:Int)-(y:Int))/2=1:=hq
  unfold t_st z6L
  simp only[iv,List.map,List.set,List.getD_cons_zero,List.getD_cons_succ,e9]
  obtain⟨b',hb'⟩:∃b',b'=m149b0:=⟨_,rfl⟩
  rw[RunL_eq,show Item.lp m149k0 m149b0=Item.lp m149k0 b' by rw[hb']]
  apply hide;intro rhs hrhs
  simp(maxSteps:=4000000)(disch:=first|exact dz|fail)only[bB.u,seval,cut,m149b0,R_t,hw,hlt,hg,c1,c2,hk',wv,t2,hq']
  repeat'((with_reducible first|refine sp ?_ ?_|fail)<;>intro hx<;>(try simp only[bI.u]at hx)<;>(first|exact xz|(try simp(maxSteps:=4000000)(disch:=first|exact dz|fail)only[bB.u,seval,cut,hx,m149b0,R_t,hw,hlt,hg,c1,c2,hk',wv,t2,hq'])))
  all_goals first|exact xz|(subst hrhs;(subst hb';refine(congrArg (fin _) (Run_lp Q _ _ _ _)).trans ?_;exact congrArg (fin R_t) (RunL_canon (canon_cong kr kr kr))))
 ·have hq':1+((i:Int)-(y:Int))/2=2:=hq
  unfold t_st z6L
  simp only[iv,List.map,List.set,List.getD_cons_zero,List.getD_cons_succ,e9]
  obtain⟨b',hb'⟩:∃b',b'=m149b0:=⟨_,rfl⟩
  rw[RunL_eq,show Item.lp m149k0 m149b0=Item.lp m149k0 b' by rw[hb']]
  apply hide;intro rhs hrhs
  simp(maxSteps:=4000000)(disch:=first|exact dz|fail)only[bB.u,seval,cut,m149b0,R_t,hw,hlt,hg,c1,c2,hk',wv,t2,hq']
  repeat'((with_reducible first|refine sp ?_ ?_|fail)<;>intro hx<;>(try simp only[bI.u]at hx)<;>(first|exact xz|(try simp(maxSteps:=4000000)(disch:=first|exact dz|fail)only[bB.u,seval,cut,hx,m149b0,R_t,hw,hlt,hg,c1,c2,hk',wv,t2,hq'])))
  all_goals first|exact xz|(subst hrhs;(subst hb';refine(congrArg (fin _) (Run_lp Q _ _ _ _)).trans ?_;exact congrArg (fin R_t) (RunL_canon (canon_cong kr kr kr))))
 ·have hq':1+((i:Int)-(y:Int))/2=3:=hq
  unfold t_st z6L
  simp only[iv,List.map,List.set,List.getD_cons_zero,List.getD_cons_succ,e9]
  obtain⟨b',hb'⟩:∃b',b'=m149b0:=⟨_,rfl⟩
  rw[RunL_eq,show Item.lp m149k0 m149b0=Item.lp m149k0 b' by rw[hb']]
  apply hide;intro rhs hrhs
  simp(maxSteps:=4000000)(disch:=first|exact dz|fail)only[bB.u,seval,cut,m149b0,R_t,hw,hlt,hg,c1,c2,hk',wv,t2,hq']
  repeat'((with_reducible first|refine sp ?_ ?_|fail)<;>intro hx<;>(try simp only[bI.u]at hx)<;>(first|exact xz|(try simp(maxSteps:=4000000)(disch:=first|exact dz|fail)only[bB.u,seval,cut,hx,m149b0,R_t,hw,hlt,hg,c1,c2,hk',wv,t2,hq'])))
  all_goals first|exact xz|(subst hrhs;(subst hb';refine(congrArg (fin _) (Run_lp Q _ _ _ _)).trans ?_;exact congrArg (fin R_t) (RunL_canon (canon_cong kr kr kr))))
 ·have hq':1+((i:Int)-(y:Int))/2=4:=hq
  unfold t_st z6L
  simp only[iv,List.map,List.set,List.getD_cons_zero,List.getD_cons_succ,e9]
  obtain⟨b',hb'⟩:∃b',b'=m149b0:=⟨_,rfl⟩
  rw[RunL_eq,show Item.lp m149k0 m149b0=Item.lp m149k0 b' by rw[hb']]
  apply hide;intro rhs hrhs
  simp(maxSteps:=4000000)(disch:=first|exact dz|fail)only[bB.u,seval,cut,m149b0,R_t,hw,hlt,hg,c1,c2,hk',wv,t2,hq']
  repeat'((with_reducible first|refine sp ?_ ?_|fail)<;>intro hx<;>(try simp only[bI.u]at hx)<;>(first|exact xz|(try simp(maxSteps:=4000000)(disch:=first|exact dz|fail)only[bB.u,seval,cut,hx,m149b0,R_t,hw,hlt,hg,c1,c2,hk',wv,t2,hq'])))
  all_goals first|exact xz|(subst hrhs;(subst hb';refine(congrArg (fin _) (Run_lp Q _ _ _ _)).trans ?_;exact congrArg (fin R_t) (RunL_canon (canon_cong kr kr kr))))
 ·have hq':1+((i:Int)-(y:Int))/2=5:=hq
  unfold t_st z6L
  simp only[iv,List.map,List.set,List.getD_cons_zero,List.getD_cons_succ,e9]
  obtain⟨b',hb'⟩:∃b',b'=m149b0:=⟨_,rfl⟩
  rw[RunL_eq,show Item.lp m149k0 m149b0=Item.lp m149k0 b' by rw[hb']]
  apply hide;intro rhs hrhs
  simp(maxSteps:=4000000)(disch:=first|exact dz|fail)only[bB.u,seval,cut,m149b0,R_t,hw,hlt,hg,c1,c2,hk',wv,t2,hq']
  repeat'((with_reducible first|refine sp ?_ ?_|fail)<;>intro hx<;>(try simp only[bI.u]at hx)<;>(first|exact xz|(try simp(maxSteps:=4000000)(disch:=first|exact dz|fail)only[bB.u,seval,cut,hx,m149b0,R_t,hw,hlt,hg,c1,c2,hk',wv,t2,hq'])))
  all_goals first|exact xz|(subst hrhs;(subst hb';refine(congrArg (fin _) (Run_lp Q _ _ _ _)).trans ?_;exact congrArg (fin R_t) (RunL_canon (canon_cong kr kr kr))))
theorem gD_inv (y:Nat) (b:List UInt8) (l l':List Int) (i:Nat) (hi:i≤14) (hl:l.length=6) (hr:∀a∈l,0≤a∧a<10^i) (h:gD y b l i= .inl l'):l'.length=6∧∀a∈l',0≤a∧a<10^(i+1):=by
 unfold gD at h
 split at h
 ·rename_i hd
  have hx:=dg_good hd
  cases h
  refine⟨by simpa using hl,?_⟩
  intro a ha
  have hp:(10:Int)^(i+1)=10*10^i:=by rw[Int.pow_succ,Int.mul_comm]
  rcases List.mem_or_eq_of_mem_set ha with ha|rfl
  ·have:=hr a ha
   rw[hp];omega
  ·have:0≤l.getD (kT y i) 0∧l.getD (kT y i) 0<10^i:=by
    rw[List.getD_eq_getElem?_getD]
    cases hq:l[kT y i]? with
    |none=>simp only[Option.getD_none];exact⟨by omega,Int.pow_pos (by omega)⟩
    |some v=>exact hr v (List.mem_of_getElem? hq)
   rw[hp];omega
 ·cases h
theorem tupC {l:MV} {x y:Bool} (h:x=y):some (MV.tup [l,.bool x])=some (.tup [l,.bool y]):=by rw[h]
def yr2 (a0:Int):Int:=if a0+1900<1950 then a0+1900+100 else a0+1900
theorem t_end2 (b:List UInt8) (a0 a1 a2 a3 a4 a5:Int) (h0:0≤a0) (h0':a0<10^15):fin R_t (RunL Q m149k0 m149b0 [.blk 0,.code t_tail] (t_st b 2 [a0,a1,a2,a3,a4,a5] 12))=some (t_out [yr2 a0,a1,a2,a3,a4,a5] (timN (yr2 a0) a1 a2 a3 a4 a5)):=by
 have hlt:decide (((12:Nat):Int)<((2:Nat):Int)+10)=false:=by decide
 unfold t_st t_out z6L
 simp only[iv,List.map]
 unfold yr2
 by_cases hy:a0+1900<1950
 ·have hd:=c_dayR (a0+1900+100) a1 (by omega)
  simp only[if_pos hy]
  obtain⟨b',hb'⟩:∃b',b'=m149b0:=⟨_,rfl⟩
  rw[RunL_eq,show Item.lp m149k0 m149b0=Item.lp m149k0 b' by rw[hb']]
  apply hide;intro rhs hrhs
  simp(maxSteps:=4000000)(disch:=first|exact dz|fail)only[bB.u,seval,cut,m149b0,R_t,t_tail,hlt,hd,show((2:Nat):Int)=2 from rfl,show((4:Nat):Int)=4 from rfl,show((12:Nat):Int)=12 from rfl,show((14:Nat):Int)=14 from rfl,hy]
  repeat'((with_reducible first|refine sp ?_ ?_|fail)<;>intro hx<;>(try simp only[bI.u]at hx)<;>(first|exact xz|(try simp(maxSteps:=4000000)(disch:=first|exact dz|fail)only[bB.u,seval,cut,hx,m149b0,R_t,t_tail,hlt,hd,show((2:Nat):Int)=2 from rfl,show((4:Nat):Int)=4 from rfl,show((12:Nat):Int)=12 from rfl,show((14:Nat):Int)=14 from rfl,hy])))
  all_goals first|exact xz|(subst hrhs;first|rfl|(refine tupC ?_;unfold timN;rw[Bool.eq_iff_iff];simp only[Bool.and_eq_true,decide_eq_true_eq,Bool.false_eq_true,false_iff,true_iff,iff_true,iff_false];omega))
 ·have hd:=c_dayR (a0+1900) a1 (by omega)
  simp only[if_neg hy]
  obtain⟨b',hb'⟩:∃b',b'=m149b0:=⟨_,rfl⟩
  rw[RunL_eq,show Item.lp m149k0 m149b0=Item.lp m149k0 b' by rw[hb']]
  apply hide;intro rhs hrhs
  simp(maxSteps:=4000000)(disch:=first|exact dz|fail)only[bB.u,seval,cut,m149b0,R_t,t_tail,hlt,hd,show((2:Nat):Int)=2 from rfl,show((4:Nat):Int)=4 from rfl,show((12:Nat):Int)=12 from rfl,show((14:Nat):Int)=14 from rfl,hy]
  repeat'((with_reducible first|refine sp ?_ ?_|fail)<;>intro hx<;>(try simp only[bI.u]at hx)<;>(first|exact xz|(try simp(maxSteps:=4000000)(disch:=first|exact dz|fail)only[bB.u,seval,cut,hx,m149b0,R_t,t_tail,hlt,hd,show((2:Nat):Int)=2 from rfl,show((4:Nat):Int)=4 from rfl,show((12:Nat):Int)=12 from rfl,show((14:Nat):Int)=14 from rfl,hy])))
  all_goals first|exact xz|(subst hrhs;first|rfl|(refine tupC ?_;unfold timN;rw[Bool.eq_iff_iff];simp only[Bool.and_eq_true,decide_eq_true_eq,Bool.false_eq_true,false_iff,true_iff,iff_true,iff_false];omega))
theorem t_end4 (b:List UInt8) (a0 a1 a2 a3 a4 a5:Int) (h0:0≤a0) (h0':a0<10^15):fin R_t (RunL Q m149k0 m149b0 [.blk 0,.code t_tail] (t_st b 4 [a0,a1,a2,a3,a4,a5] 14))=some (t_out [a0,a1,a2,a3,a4,a5] (timN (a0) a1 a2 a3 a4 a5)):=by
 have hlt:decide (((14:Nat):Int)<((4:Nat):Int)+10)=false:=by decide
 unfold t_st t_out z6L
 simp only[iv,List.map]
 have hd:=c_dayR a0 a1 h0
 obtain⟨b',hb'⟩:∃b',b'=m149b0:=⟨_,rfl⟩
 rw[RunL_eq,show Item.lp m149k0 m149b0=Item.lp m149k0 b' by rw[hb']]
 apply hide;intro rhs hrhs
 simp(maxSteps:=4000000)(disch:=first|exact dz|fail)only[bB.u,seval,cut,m149b0,R_t,t_tail,hlt,hd,show((2:Nat):Int)=2 from rfl,show((4:Nat):Int)=4 from rfl,show((12:Nat):Int)=12 from rfl,show((14:Nat):Int)=14 from rfl]
 repeat'((with_reducible first|refine sp ?_ ?_|fail)<;>intro hx<;>(try simp only[bI.u]at hx)<;>(first|exact xz|(try simp(maxSteps:=4000000)(disch:=first|exact dz|fail)only[bB.u,seval,cut,hx,m149b0,R_t,t_tail,hlt,hd,show((2:Nat):Int)=2 from rfl,show((4:Nat):Int)=4 from rfl,show((12:Nat):Int)=12 from rfl,show((14:Nat):Int)=14 from rfl])))
 all_goals first|exact xz|(subst hrhs;first|rfl|(refine tupC ?_;unfold timN;rw[Bool.eq_iff_iff];simp only[Bool.and_eq_true,decide_eq_true_eq,Bool.false_eq_true,false_iff,true_iff,iff_true,iff_false];omega))
theorem tv2 (x y:UInt8):10*((x.toNat:Int)-48)+(y.toNat:Int)-48=tv x y:=by unfold tv;omega
theorem tv4 (a:Int) (z w:UInt8):10*(10*a+(z.toNat:Int)-48)+(w.toNat:Int)-48=100*a+tv z w:=by unfold tv;omega
def timS (y k:Nat) (r:List Int ⊕ List Int) (q:List Int ⊕ Unit):Prop:=match r,q with
 | .inl l,.inl l'=>∃a0 a1 a2 a3 a4 a5,l=[a0,a1,a2,a3,a4,a5]∧timN (if y=2 then yr2 a0 else a0) a1 a2 a3 a4 a5=timL k l'
 | .inr l,.inr _=>l.length=6
 |_,_=>False
theorem gD_2 (b:List UInt8):timS 2 6 (foldE (gD 2 b) [0,0,0,0,0,0] (List.range 12)) (foldE (gTm b) [] (List.range 6)):=by
 rw[show List.range 12=[0,1,2,3,4,5,6,7,8,9,10,11]from rfl,show List.range 6=[0,1,2,3,4,5]from rfl]
 simp only[foldE_cons,gD,gTm,kT]
 cases h0:dg (g0 b 0)
 ·simp[foldE_cons,foldE,gD,gTm,kT,timS,h0]
 cases h1:dg (g0 b 1)
 ·simp[foldE_cons,foldE,gD,gTm,kT,timS,h1,h0]
 cases h2:dg (g0 b 2)
 ·simp[foldE_cons,foldE,gD,gTm,kT,timS,h2,h0,h1]
 cases h3:dg (g0 b 3)
 ·simp[foldE_cons,foldE,gD,gTm,kT,timS,h3,h0,h1,h2]
 cases h4:dg (g0 b 4)
 ·simp[foldE_cons,foldE,gD,gTm,kT,timS,h4,h0,h1,h2,h3]
 cases h5:dg (g0 b 5)
 ·simp[foldE_cons,foldE,gD,gTm,kT,timS,h5,h0,h1,h2,h3,h4]
 cases h6:dg (g0 b 6)
 ·simp[foldE_cons,foldE,gD,gTm,kT,timS,h6,h0,h1,h2,h3,h4,h5]
 cases h7:dg (g0 b 7)
 ·simp[foldE_cons,foldE,gD,gTm,kT,timS,h7,h0,h1,h2,h3,h4,h5,h6]
 cases h8:dg (g0 b 8)
 ·simp[foldE_cons,foldE,gD,gTm,kT,timS,h8,h0,h1,h2,h3,h4,h5,h6,h7]
 cases h9:dg (g0 b 9)
 ·simp[foldE_cons,foldE,gD,gTm,kT,timS,h9,h0,h1,h2,h3,h4,h5,h6,h7,h8]
 cases h10:dg (g0 b 10)
 ·simp[foldE_cons,foldE,gD,gTm,kT,timS,h10,h0,h1,h2,h3,h4,h5,h6,h7,h8,h9]
 cases h11:dg (g0 b 11)
 ·simp[foldE_cons,foldE,gD,gTm,kT,timS,h11,h0,h1,h2,h3,h4,h5,h6,h7,h8,h9,h10]
 simp[foldE_cons,foldE,gD,gTm,kT,timS,h0,h1,h2,h3,h4,h5,h6,h7,h8,h9,h10,h11]
 simp only[timL,if_true]
 refine⟨_,_,_,_,_,_,⟨rfl,rfl,rfl,rfl,rfl,rfl⟩,?_⟩
 simp only[tv2,tv4]
 rfl
theorem gD_4 (b:List UInt8):timS 4 7 (foldE (gD 4 b) [0,0,0,0,0,0] (List.range 14)) (foldE (gTm b) [] (List.range 7)):=by
 rw[show List.range 14=[0,1,2,3,4,5,6,7,8,9,10,11,12,13]from rfl,show List.range 7=[0,1,2,3,4,5,6]from rfl]
 simp only[foldE_cons,gD,gTm,kT]
 cases h0:dg (g0 b 0)
 ·simp[foldE_cons,foldE,gD,gTm,kT,timS,h0]
 cases h1:dg (g0 b 1)
 ·simp[foldE_cons,foldE,gD,gTm,kT,timS,h1,h0]
 cases h2:dg (g0 b 2)
 ·simp[foldE_cons,foldE,gD,gTm,kT,timS,h2,h0,h1]
 cases h3:dg (g0 b 3)
 ·simp[foldE_cons,foldE,gD,gTm,kT,timS,h3,h0,h1,h2]
 cases h4:dg (g0 b 4)
 ·simp[foldE_cons,foldE,gD,gTm,kT,timS,h4,h0,h1,h2,h3]
 cases h5:dg (g0 b 5)
 ·simp[foldE_cons,foldE,gD,gTm,kT,timS,h5,h0,h1,h2,h3,h4]
 cases h6:dg (g0 b 6)
 ·simp[foldE_cons,foldE,gD,gTm,kT,timS,h6,h0,h1,h2,h3,h4,h5]
 cases h7:dg (g0 b 7)
 ·simp[foldE_cons,foldE,gD,gTm,kT,timS,h7,h0,h1,h2,h3,h4,h5,h6]
 cases h8:dg (g0 b 8)
 ·simp[foldE_cons,foldE,gD,gTm,kT,timS,h8,h0,h1,h2,h3,h4,h5,h6,h7]
 cases h9:dg (g0 b 9)
 ·simp[foldE_cons,foldE,gD,gTm,kT,timS,h9,h0,h1,h2,h3,h4,h5,h6,h7,h8]
 cases h10:dg (g0 b 10)
 ·simp[foldE_cons,foldE,gD,gTm,kT,timS,h10,h0,h1,h2,h3,h4,h5,h6,h7,h8,h9]
 cases h11:dg (g0 b 11)
 ·simp[foldE_cons,foldE,gD,gTm,kT,timS,h11,h0,h1,h2,h3,h4,h5,h6,h7,h8,h9,h10]
 cases h12:dg (g0 b 12)
 ·simp[foldE_cons,foldE,gD,gTm,kT,timS,h12,h0,h1,h2,h3,h4,h5,h6,h7,h8,h9,h10,h11]
 cases h13:dg (g0 b 13)
 ·simp[foldE_cons,foldE,gD,gTm,kT,timS,h13,h0,h1,h2,h3,h4,h5,h6,h7,h8,h9,h10,h11,h12]
 simp[foldE_cons,foldE,gD,gTm,kT,timS,h0,h1,h2,h3,h4,h5,h6,h7,h8,h9,h10,h11,h12,h13]
 simp only[timL,if_true]
 refine⟨_,_,_,_,_,_,⟨rfl,rfl,rfl,rfl,rfl,rfl⟩,?_⟩
 simp only[tv2,tv4]
theorem c_TimeR2 (b:List UInt8) (hb:b.length<2^60):∃a0 a1 a2 a3 a4 a5:Int,Call Q 149 [.bs b,.int .i64 2]=some (t_out [a0,a1,a2,a3,a4,a5] (timB b 6)):=by
 by_cases hl:b.length=13
 rotate_left
 ·refine⟨0,0,0,0,0,0,?_⟩
  rw[show timB b 6=false by unfold timB;rw[show decide (b.length=2*6+1)=false by simp;omega];rfl]
  have hn:((b.length:Int) != 13)=true:=by simp;omega
  have hn2:((b.length:Int)==13)=false:=by simp;omega
  rw[Call_fn Q (m:=m149) rfl rfl]
  apply hide;intro rhs hrhs
  simp(maxSteps:=4000000)(disch:=first|exact dz|fail)only[bB.u,seval,cut,m149,hn,hn2]
  repeat'((with_reducible first|refine sp ?_ ?_|fail)<;>intro hx<;>(try simp only[bI.u]at hx)<;>(first|exact xz|(try simp(maxSteps:=4000000)(disch:=first|exact dz|fail)only[bB.u,seval,cut,hx,m149,hn,hn2])))
  all_goals first|exact xz|(subst hrhs;rfl)
 have hn:((b.length:Int) != 13)=false:=by simp;omega
 have hn2:((b.length:Int)==13)=true:=by simp;omega
 have hg:=getq b 12 (by omega)
 by_cases hz:g0 b 12=90
 rotate_left
 ·refine⟨0,0,0,0,0,0,?_⟩
  rw[show timB b 6=false by unfold timB;rw[show decide (g0 b (2*6)=90)=false by simpa using hz];simp]
  have h9:(((g0 b 12).toNat:Int) != 90)=true:=by
   simp only[bne_iff_ne,ne_eq]
   intro h;apply hz;apply UInt8.toNat_inj.1;simp;omega
  have h9':(((g0 b 12).toNat:Int)==90)=false:=by
   simp only[beq_eq_false_iff_ne,ne_eq]
   intro h;apply hz;apply UInt8.toNat_inj.1;simp;omega
  rw[Call_fn Q (m:=m149) rfl rfl]
  apply hide;intro rhs hrhs
  simp(maxSteps:=4000000)(disch:=first|exact dz|fail)only[bB.u,seval,cut,m149,hn,hn2,hg,h9,h9']
  repeat'((with_reducible first|refine sp ?_ ?_|fail)<;>intro hx<;>(try simp only[bI.u]at hx)<;>(first|exact xz|(try simp(maxSteps:=4000000)(disch:=first|exact dz|fail)only[bB.u,seval,cut,hx,m149,hn,hn2,hg,h9,h9'])))
  all_goals first|exact xz|(subst hrhs;rfl)
 have h9:(((g0 b 12).toNat:Int) != 90)=false:=by rw[hz];rfl
 have h9':(((g0 b 12).toNat:Int)==90)=true:=by rw[hz];rfl
 have hD:=gD_2 b
 have loop:∃a0 a1 a2 a3 a4 a5:Int,fin R_t (RunL Q m149k0 m149b0 [.blk 0,.code t_tail] (t_st b 2 [0,0,0,0,0,0] 0))=some (t_out [a0,a1,a2,a3,a4,a5] (timB b 6)):=by
  have hL:=loopI (List.range 12) (gD 2 b) (fun l i=>fin R_t (RunL Q m149k0 m149b0 [.blk 0,.code t_tail] (t_st b 2 l i))) (fun l=>some (t_out l false)) (fun l i=>l.length=6∧∀a∈l,0≤a∧a<10^i) (fun l i j hI hg=>by
   obtain⟨hi,hij⟩:=List.getElem?_eq_some_iff.1 hg
   simp only[List.length_range]at hi
   simp only[List.getElem_range]at hij
   subst hij
   cases hd:dg (g0 b i)with
   |false=>
    rw[show gD 2 b l i= .inr l by unfold gD;rw[hd];rfl]
    exact t_no b 2 (by omega) _ l i hI.1 (by omega) hl hd
   |true=>
    have hG:gD 2 b l i= .inl (l.set (kT 2 i) (10*l.getD (kT 2 i) 0+((g0 b i).toNat:Int)-48)):=by unfold gD;rw[hd];rfl
    have hV:=gD_inv 2 b l _ i (by omega) hI.1 hI.2 hG
    rw[hG]
    exact⟨hV,t_yes b 2 (by omega) _ l i hI.1 (fun a ha=>⟨(hI.2 a ha).1,Int.lt_of_lt_of_le (hI.2 a ha).2 (by have:=Nat.pow_le_pow_right (n:=10) (by omega) (show i≤15 by omega);exact_mod_cast this)⟩) (by omega) hl hd⟩) [0,0,0,0,0,0] ⟨rfl,by simp⟩
  have hB:timB b 6=match foldE (gTm b) [] (List.range 6)with| .inl l=>timL 6 l| .inr _=>false:=by
   unfold timB;rw[show decide (b.length=2*6+1)=true by simp;omega,show decide (g0 b (2*6)=90)=true by simpa using hz];rfl
  rw[hB]
  generalize foldE (gTm b) [] (List.range 6)=q at hD ⊢
  cases hr:foldE (gD 2 b) [0,0,0,0,0,0] (List.range 12)with
  |inr l=>
   rw[hr]at hD hL
   cases q with
   |inl l'=>exact hD.elim
   |inr u=>
    obtain⟨a0,a1,a2,a3,a4,a5,rfl⟩:=six l hD
    exact⟨a0,a1,a2,a3,a4,a5,hL⟩
  |inl l=>
   rw[hr]at hD hL
   cases q with
   |inr u=>exact hD.elim
   |inl l'=>
    obtain⟨a0,a1,a2,a3,a4,a5,rfl,hE⟩:=hD
    obtain⟨⟨_,hR⟩,hL⟩:=hL
    refine⟨yr2 a0,a1,a2,a3,a4,a5,hL.trans ?_⟩
    rw[List.length_range]
    have h0:=hR a0 (by simp)
    refine(t_end2 b a0 a1 a2 a3 a4 a5 h0.1 (Int.lt_of_lt_of_le h0.2 (by simp))).trans ?_
    refine congrArg (fun x=>some (t_out _ x)) ?_
    exact hE
 obtain⟨a0,a1,a2,a3,a4,a5,loop⟩:=loop
 refine⟨a0,a1,a2,a3,a4,a5,?_⟩
 unfold t_st z6L at loop
 rw[Call_fn Q (m:=m149) rfl rfl]
 apply hide;intro rhs hrhs
 simp(maxSteps:=4000000)(disch:=first|exact dz|fail)only[bB.u,seval,cut,m149,hn,hn2,hg,h9,h9',Run_loop]
 repeat'((with_reducible first|refine sp ?_ ?_|fail)<;>intro hx<;>(try simp only[bI.u]at hx)<;>(first|exact xz|(try simp(maxSteps:=4000000)(disch:=first|exact dz|fail)only[bB.u,seval,cut,hx,m149,hn,hn2,hg,h9,h9',Run_loop])))
 all_goals first|exact xz|(subst hrhs;exact(congrArg (fin _) (RunL_canon (canon_cong kr kr kr))).trans loop)
theorem c_TimeR4 (b:List UInt8) (hb:b.length<2^60):∃a0 a1 a2 a3 a4 a5:Int,Call Q 149 [.bs b,.int .i64 4]=some (t_out [a0,a1,a2,a3,a4,a5] (timB b 7)):=by
 by_cases hl:b.length=15
 rotate_left
 ·refine⟨0,0,0,0,0,0,?_⟩
  rw[show timB b 7=false by unfold timB;rw[show decide (b.length=2*7+1)=false by simp;omega];rfl]
  have hn:((b.length:Int) != 15)=true:=by simp;omega
  have hn2:((b.length:Int)==15)=false:=by simp;omega
  rw[Call_fn Q (m:=m149) rfl rfl]
  apply hide;intro rhs hrhs
  simp(maxSteps:=4000000)(disch:=first|exact dz|fail)only[bB.u,seval,cut,m149,hn,hn2]
  repeat'((with_reducible first|refine sp ?_ ?_|fail)<;>intro hx<;>(try simp only[bI.u]at hx)<;>(first|exact xz|(try simp(maxSteps:=4000000)(disch:=first|exact dz|fail)only[bB.u,seval,cut,hx,m149,hn,hn2])))
  all_goals first|exact xz|(subst hrhs;rfl)
 have hn:((b.length:Int) != 15)=false:=by simp;omega
 have hn2:((b.length:Int)==15)=true:=by simp;omega
 have hg:=getq b 14 (by omega)
 by_cases hz:g0 b 14=90
 rotate_left
 ·refine⟨0,0,0,0,0,0,?_⟩
  rw[show timB b 7=false by unfold timB;rw[show decide (g0 b (2*7)=90)=false by simpa using hz];simp]
  have h9:(((g0 b 14).toNat:Int) != 90)=true:=by
   simp only[bne_iff_ne,ne_eq]
   intro h;apply hz;apply UInt8.toNat_inj.1;simp;omega
  have h9':(((g0 b 14).toNat:Int)==90)=false:=by
   simp only[beq_eq_false_iff_ne,ne_eq]
   intro h;apply hz;apply UInt8.toNat_inj.1;simp;omega
  rw[Call_fn Q (m:=m149) rfl rfl]
  apply hide;intro rhs hrhs
  simp(maxSteps:=4000000)(disch:=first|exact dz|fail)only[bB.u,seval,cut,m149,hn,hn2,hg,h9,h9']
  repeat'((with_reducible first|refine sp ?_ ?_|fail)<;>intro hx<;>(try simp only[bI.u]at hx)<;>(first|exact xz|(try simp(maxSteps:=4000000)(disch:=first|exact dz|fail)only[bB.u,seval,cut,hx,m149,hn,hn2,hg,h9,h9'])))
  all_goals first|exact xz|(subst hrhs;rfl)
 have h9:(((g0 b 14).toNat:Int) != 90)=false:=by rw[hz];rfl
 have h9':(((g0 b 14).toNat:Int)==90)=true:=by rw[hz];rfl
 have hD:=gD_4 b
 have loop:∃a0 a1 a2 a3 a4 a5:Int,fin R_t (RunL Q m149k0 m149b0 [.blk 0,.code t_tail] (t_st b 4 [0,0,0,0,0,0] 0))=some (t_out [a0,a1,a2,a3,a4,a5] (timB b 7)):=by
  have hL:=loopI (List.range 14) (gD 4 b) (fun l i=>fin R_t (RunL Q m149k0 m149b0 [.blk 0,.code t_tail] (t_st b 4 l i))) (fun l=>some (t_out l false)) (fun l i=>l.length=6∧∀a∈l,0≤a∧a<10^i) (fun l i j hI hg=>by
   obtain⟨hi,hij⟩:=List.getElem?_eq_some_iff.1 hg
   simp only[List.length_range]at hi
   simp only[List.getElem_range]at hij
   subst hij
   cases hd:dg (g0 b i)with
   |false=>
    rw[show gD 4 b l i= .inr l by unfold gD;rw[hd];rfl]
    exact t_no b 4 (by omega) _ l i hI.1 (by omega) hl hd
   |true=>
    have hG:gD 4 b l i= .inl (l.set (kT 4 i) (10*l.getD (kT 4 i) 0+((g0 b i).toNat:Int)-48)):=by unfold gD;rw[hd];rfl
    have hV:=gD_inv 4 b l _ i (by omega) hI.1 hI.2 hG
    rw[hG]
    exact⟨hV,t_yes b 4 (by omega) _ l i hI.1 (fun a ha=>⟨(hI.2 a ha).1,Int.lt_of_lt_of_le (hI.2 a ha).2 (by have:=Nat.pow_le_pow_right (n:=10) (by omega) (show i≤15 by omega);exact_mod_cast this)⟩) (by omega) hl hd⟩) [0,0,0,0,0,0] ⟨rfl,by simp⟩
  have hB:timB b 7=match foldE (gTm b) [] (List.range 7)with| .inl l=>timL 7 l| .inr _=>false:=by
   unfold timB;rw[show decide (b.length=2*7+1)=true by simp;omega,show decide (g0 b (2*7)=90)=true by simpa using hz];rfl
  rw[hB]
  generalize foldE (gTm b) [] (List.range 7)=q at hD ⊢
  cases hr:foldE (gD 4 b) [0,0,0,0,0,0] (List.range 14)with
  |inr l=>
   rw[hr]at hD hL
   cases q with
   |inl l'=>exact hD.elim
   |inr u=>
    obtain⟨a0,a1,a2,a3,a4,a5,rfl⟩:=six l hD
    exact⟨a0,a1,a2,a3,a4,a5,hL⟩
  |inl l=>
   rw[hr]at hD hL
   cases q with
   |inr u=>exact hD.elim
   |inl l'=>
    obtain⟨a0,a1,a2,a3,a4,a5,rfl,hE⟩:=hD
    obtain⟨⟨_,hR⟩,hL⟩:=hL
    refine⟨a0,a1,a2,a3,a4,a5,hL.trans ?_⟩
    rw[List.length_range]
    have h0:=hR a0 (by simp)
    refine(t_end4 b a0 a1 a2 a3 a4 a5 h0.1 (Int.lt_of_lt_of_le h0.2 (by simp))).trans ?_
    refine congrArg (fun x=>some (t_out _ x)) ?_
    exact hE
 obtain⟨a0,a1,a2,a3,a4,a5,loop⟩:=loop
 refine⟨a0,a1,a2,a3,a4,a5,?_⟩
 unfold t_st z6L at loop
 rw[Call_fn Q (m:=m149) rfl rfl]
 apply hide;intro rhs hrhs
 simp(maxSteps:=4000000)(disch:=first|exact dz|fail)only[bB.u,seval,cut,m149,hn,hn2,hg,h9,h9',Run_loop]
 repeat'((with_reducible first|refine sp ?_ ?_|fail)<;>intro hx<;>(try simp only[bI.u]at hx)<;>(first|exact xz|(try simp(maxSteps:=4000000)(disch:=first|exact dz|fail)only[bB.u,seval,cut,hx,m149,hn,hn2,hg,h9,h9',Run_loop])))
 all_goals first|exact xz|(subst hrhs;exact(congrArg (fin _) (RunL_canon (canon_cong kr kr kr))).trans loop)
theorem rr1 (b:List UInt8) (hb:b.length<2^60):Call Q 133 [.int .i64 1,.bs b]=some (.bool (rBool b)):=by
 rw[Call_fn Q (m:=m133) rfl rfl]
 apply hide;intro rhs hrhs
 simp(maxSteps:=4000000)(disch:=first|exact dz|fail)only[bB.u,seval,cut,m133,getq]
 repeat'((with_reducible first|refine sp ?_ ?_|fail)<;>intro hx<;>(try simp only[bI.u]at hx)<;>(first|exact xz|(try simp(maxSteps:=4000000)(disch:=first|exact dz|fail)only[bB.u,seval,cut,hx,m133,getq])))
 all_goals first|exact xz|(subst hrhs;(first|rfl|(refine congrArg some (congrArg MV.bool ?_);rw[Bool.eq_iff_iff];simp only[rBool,Bool.and_eq_true,Bool.or_eq_true,Bool.not_eq_true',Bool.not_eq_true,decide_eq_true_eq,decide_eq_false_iff_not,beq_iff_eq,Bool.false_eq_true,false_iff,true_iff,iff_true,iff_false,←UInt8.toNat_inj];omega)|(refine congrArg some (congrArg MV.bool ?_);rw[Bool.eq_iff_iff];simp[rBool,←UInt8.toNat_inj]at *<;>omega)|(refine congrArg some (congrArg MV.bool ?_);rw[Bool.eq_iff_iff];simp_all[rBool,←UInt8.toNat_inj]<;>omega)))
theorem rr2 (b:List UInt8) (hb:b.length<2^60):Call Q 133 [.int .i64 2,.bs b]=some (.bool (rInt b)):=by
 rw[Call_fn Q (m:=m133) rfl rfl]
 apply hide;intro rhs hrhs
 simp(maxSteps:=4000000)(disch:=first|exact dz|fail)only[bB.u,seval,cut,m133,getq]
 repeat'((with_reducible first|refine sp ?_ ?_|fail)<;>intro hx<;>(try simp only[bI.u]at hx)<;>(first|exact xz|(try simp(maxSteps:=4000000)(disch:=first|exact dz|fail)only[bB.u,seval,cut,hx,m133,getq])))
 all_goals first|exact xz|(subst hrhs;(first|rfl|(refine congrArg some (congrArg MV.bool ?_);rw[Bool.eq_iff_iff];simp only[rInt,Bool.and_eq_true,Bool.or_eq_true,Bool.not_eq_true',Bool.not_eq_true,decide_eq_true_eq,decide_eq_false_iff_not,beq_iff_eq,Bool.false_eq_true,false_iff,true_iff,iff_true,iff_false,←UInt8.toNat_inj];omega)|(refine congrArg some (congrArg MV.bool ?_);rw[Bool.eq_iff_iff];simp[rInt,←UInt8.toNat_inj]at *<;>omega)|(refine congrArg some (congrArg MV.bool ?_);rw[Bool.eq_iff_iff];simp_all[rInt,←UInt8.toNat_inj]<;>omega)))
theorem rr10 (b:List UInt8) (hb:b.length<2^60):Call Q 133 [.int .i64 10,.bs b]=some (.bool (rInt b)):=by
 rw[Call_fn Q (m:=m133) rfl rfl]
 apply hide;intro rhs hrhs
 simp(maxSteps:=4000000)(disch:=first|exact dz|fail)only[bB.u,seval,cut,m133,getq]
 repeat'((with_reducible first|refine sp ?_ ?_|fail)<;>intro hx<;>(try simp only[bI.u]at hx)<;>(first|exact xz|(try simp(maxSteps:=4000000)(disch:=first|exact dz|fail)only[bB.u,seval,cut,hx,m133,getq])))
 all_goals first|exact xz|(subst hrhs;(first|rfl|(refine congrArg some (congrArg MV.bool ?_);rw[Bool.eq_iff_iff];simp only[rInt,Bool.and_eq_true,Bool.or_eq_true,Bool.not_eq_true',Bool.not_eq_true,decide_eq_true_eq,decide_eq_false_iff_not,beq_iff_eq,Bool.false_eq_true,false_iff,true_iff,iff_true,iff_false,←UInt8.toNat_inj];omega)|(refine congrArg some (congrArg MV.bool ?_);rw[Bool.eq_iff_iff];simp[rInt,←UInt8.toNat_inj]at *<;>omega)|(refine congrArg some (congrArg MV.bool ?_);rw[Bool.eq_iff_iff];simp_all[rInt,←UInt8.toNat_inj]<;>omega)))
theorem rr5 (b:List UInt8) (hb:b.length<2^60):Call Q 133 [.int .i64 5,.bs b]=some (.bool (b.isEmpty)):=by
 rw[Call_fn Q (m:=m133) rfl rfl]
 apply hide;intro rhs hrhs
 simp(maxSteps:=4000000)(disch:=first|exact dz|fail)only[bB.u,seval,cut,m133]
 repeat'((with_reducible first|refine sp ?_ ?_|fail)<;>intro hx<;>(try simp only[bI.u]at hx)<;>(first|exact xz|(try simp(maxSteps:=4000000)(disch:=first|exact dz|fail)only[bB.u,seval,cut,hx,m133])))
 all_goals first|exact xz|(subst hrhs;(cases b<;>simp<;>omega))
theorem rr12 (b:List UInt8) (hb:b.length<2^60):Call Q 133 [.int .i64 12,.bs b]=some (.bool (Lib.validD b)):=by
 have h:=c_UTF8 b hb
 rw[Call_fn Q (m:=m133) rfl rfl]
 apply hide;intro rhs hrhs
 simp(maxSteps:=4000000)(disch:=first|exact dz|fail)only[bB.u,seval,cut,m133,h]
 repeat'((with_reducible first|refine sp ?_ ?_|fail)<;>intro hx<;>(try simp only[bI.u]at hx)<;>(first|exact xz|(try simp(maxSteps:=4000000)(disch:=first|exact dz|fail)only[bB.u,seval,cut,hx,m133,h])))
 all_goals first|exact xz|(subst hrhs;rfl)
theorem rr23 (b:List UInt8) (hb:b.length<2^60):Call Q 133 [.int .i64 23,.bs b]=some (.bool (timB b 6)):=by
 obtain⟨a0,a1,a2,a3,a4,a5,h⟩:=c_TimeR2 b hb
 unfold t_out at h
 simp only[iv,List.map]at h
 rw[Call_fn Q (m:=m133) rfl rfl]
 apply hide;intro rhs hrhs
 simp(maxSteps:=4000000)(disch:=first|exact dz|fail)only[bB.u,seval,cut,m133,h]
 repeat'((with_reducible first|refine sp ?_ ?_|fail)<;>intro hx<;>(try simp only[bI.u]at hx)<;>(first|exact xz|(try simp(maxSteps:=4000000)(disch:=first|exact dz|fail)only[bB.u,seval,cut,hx,m133,h])))
 all_goals first|exact xz|(subst hrhs;rfl)
theorem rr24 (b:List UInt8) (hb:b.length<2^60):Call Q 133 [.int .i64 24,.bs b]=some (.bool (timB b 7)):=by
 obtain⟨a0,a1,a2,a3,a4,a5,h⟩:=c_TimeR4 b hb
 unfold t_out at h
 simp only[iv,List.map]at h
 rw[Call_fn Q (m:=m133) rfl rfl]
 apply hide;intro rhs hrhs
 simp(maxSteps:=4000000)(disch:=first|exact dz|fail)only[bB.u,seval,cut,m133,h]
 repeat'((with_reducible first|refine sp ?_ ?_|fail)<;>intro hx<;>(try simp only[bI.u]at hx)<;>(first|exact xz|(try simp(maxSteps:=4000000)(disch:=first|exact dz|fail)only[bB.u,seval,cut,hx,m133,h])))
 all_goals first|exact xz|(subst hrhs;rfl)
theorem rr4 (b:List UInt8) (hb:b.length<2^60):Call Q 133 [.int .i64 4,.bs b]=some (.bool (true)):=by
 rw[Call_fn Q (m:=m133) rfl rfl]
 apply hide;intro rhs hrhs
 simp(maxSteps:=4000000)(disch:=first|exact dz|fail)only[bB.u,seval,cut,m133]
 repeat'((with_reducible first|refine sp ?_ ?_|fail)<;>intro hx<;>(try simp only[bI.u]at hx)<;>(first|exact xz|(try simp(maxSteps:=4000000)(disch:=first|exact dz|fail)only[bB.u,seval,cut,hx,m133])))
 all_goals first|exact xz|(subst hrhs;rfl)
theorem bits_all:(List.range 256).all (fun x=>(List.range 8).all fun m=>decide ((UInt8.ofNat x&&&(pw (UInt8.ofNat m)-1)=0)↔(x:Int).tmod (2^m)=0))=true:=by kernel_rfl
theorem bits_eq (x m:UInt8) (h:m.toNat≤7):(x&&&(pw m-1)=0)↔((x.toNat:Int).tmod (2^m.toNat)=0):=by
 have h1:=List.all_eq_true.1 bits_all x.toNat (by simp;exact x.toNat_lt)
 have h2:=of_decide_eq_true (List.all_eq_true.1 h1 m.toNat (by simp;omega))
 simpa using h2
theorem rr3 (b:List UInt8) (hb:b.length<2^60):Call Q 133 [.int .i64 3,.bs b]=some (.bool (rBits b)):=by
 by_cases h0:b.length=0
 ·have e:b=[]:=List.eq_nil_of_length_eq_zero h0
  subst e
  rw[Call_fn Q (m:=m133) rfl rfl]
  apply hide;intro rhs hrhs
  simp(maxSteps:=4000000)(disch:=first|exact dz|fail)only[bB.u,seval,cut,m133]
  repeat'((with_reducible first|refine sp ?_ ?_|fail)<;>intro hx<;>(try simp only[bI.u]at hx)<;>(first|exact xz|(try simp(maxSteps:=4000000)(disch:=first|exact dz|fail)only[bB.u,seval,cut,hx,m133])))
  all_goals first|exact xz|(subst hrhs;rfl)
 have g0':=getq b 0 (by omega)
 have gl:=getq b (b.length-1) (by omega)
 have eL:((b.length:Int)-1).toNat=b.length-1:=by omega
 have n0:((b.length:Int)==0)=false:=by rw[beq_eq_false_iff_ne];omega
 by_cases h7:7<(g0 b 0).toNat
 ·rw[show rBits b=false by unfold rBits;rw[show decide ((g0 b 0).toNat≤7)=false by simp;omega];simp]
  have h7':decide (7<((g0 b 0).toNat:Int))=true:=by simp;omega
  rw[Call_fn Q (m:=m133) rfl rfl]
  apply hide;intro rhs hrhs
  simp(maxSteps:=4000000)(disch:=first|exact dz|fail)only[bB.u,seval,cut,m133,g0',n0,h7']
  repeat'((with_reducible first|refine sp ?_ ?_|fail)<;>intro hx<;>(try simp only[bI.u]at hx)<;>(first|exact xz|(try simp(maxSteps:=4000000)(disch:=first|exact dz|fail)only[bB.u,seval,cut,hx,m133,g0',n0,h7'])))
  all_goals first|exact xz|(subst hrhs;rfl)
 have h7':decide (7<((g0 b 0).toNat:Int))=false:=by simp;omega
 by_cases h1:b.length=1
 ·rw[show rBits b=decide (g0 b 0=0) by unfold rBits;rw[h1];simp;omega]
  have n1:((b.length:Int)==1)=true:=by simp;omega
  rw[Call_fn Q (m:=m133) rfl rfl]
  apply hide;intro rhs hrhs
  simp(maxSteps:=4000000)(disch:=first|exact dz|fail)only[bB.u,seval,cut,m133,g0',n0,n1,h7']
  repeat'((with_reducible first|refine sp ?_ ?_|fail)<;>intro hx<;>(try simp only[bI.u]at hx)<;>(first|exact xz|(try simp(maxSteps:=4000000)(disch:=first|exact dz|fail)only[bB.u,seval,cut,hx,m133,g0',n0,n1,h7'])))
  all_goals first|exact xz|(subst hrhs;(first|rfl|(refine congrArg some (congrArg MV.bool ?_);rw[Bool.eq_iff_iff];simp only[Bool.and_eq_true,Bool.or_eq_true,Bool.not_eq_true',Bool.not_eq_true,decide_eq_true_eq,decide_eq_false_iff_not,beq_iff_eq,Bool.false_eq_true,false_iff,true_iff,iff_true,iff_false,←UInt8.toNat_inj];omega)|(refine congrArg some (congrArg MV.bool ?_);rw[Bool.eq_iff_iff];simp[←UInt8.toNat_inj]at *<;>omega)|(refine congrArg some (congrArg MV.bool ?_);rw[Bool.eq_iff_iff];simp_all[←UInt8.toNat_inj]<;>omega)))
 have n1:((b.length:Int)==1)=false:=by simp;omega
 have hE:rBits b=decide (((g0 b (b.length-1)).toNat:Int).tmod (2^(g0 b 0).toNat)=0):=by
  unfold rBits
  rw[show decide (0<b.length)=true by simp;omega,show decide ((g0 b 0).toNat≤7)=true by simp;omega,show decide (1<b.length)=true by simp;omega,show decide (b.length=1)=false by simp;omega]
  simp only[Bool.true_and,Bool.true_or,Bool.false_or]
  exact decide_eq_decide.2 (bits_eq _ _ (by omega))
 rw[hE]
 have hs:shiftI .shl .i64 1 ((g0 b 0).toNat:Int)=some (.int .i64 (2^(g0 b 0).toNat)):=by
  have:(g0 b 0).toNat=0∨(g0 b 0).toNat=1∨(g0 b 0).toNat=2∨(g0 b 0).toNat=3∨(g0 b 0).toNat=4∨(g0 b 0).toNat=5∨(g0 b 0).toNat=6∨(g0 b 0).toNat=7:=by omega
  rcases this with h|h|h|h|h|h|h|h<;>rw[h]<;>rfl
 generalize hp:(2:Int)^(g0 b 0).toNat=P at hs ⊢
 have hP:0<P∧P≤128:=by
  have:(g0 b 0).toNat=0∨(g0 b 0).toNat=1∨(g0 b 0).toNat=2∨(g0 b 0).toNat=3∨(g0 b 0).toNat=4∨(g0 b 0).toNat=5∨(g0 b 0).toNat=6∨(g0 b 0).toNat=7:=by omega
  rcases this with h|h|h|h|h|h|h|h<;>rw[h]at hp<;>rw[←hp]<;>decide
 have hx:=(g0 b (b.length-1)).toNat_lt
 generalize g0 b (b.length-1)=x at *
 have ht:((x.toNat:Int)).tmod P=(x.toNat:Int)%P:=Int.tmod_eq_emod_of_nonneg (by omega)
 have hm0:=Int.emod_nonneg (x.toNat:Int) (show P≠0 by omega)
 have hm1:=Int.emod_lt_of_pos (x.toNat:Int) hP.1
 have hw:IntKind.i64.wrap ((x.toNat:Int)%P)=(x.toNat:Int)%P:=w64 (by omega) (by omega)
 rw[ht]
 have hP0:(P==0)=false:=by simp;omega
 have hP0':¬P=0:=by omega
 rw[Call_fn Q (m:=m133) rfl rfl]
 apply hide;intro rhs hrhs
 simp(maxSteps:=4000000)(disch:=first|exact dz|fail)only[bB.u,seval,cut,m133,g0',gl,eL,n0,n1,h7',hs,hP0,hP0',ht,hw]
 repeat'((with_reducible first|refine sp ?_ ?_|fail)<;>intro hx<;>(try simp only[bI.u]at hx)<;>(first|exact xz|(try simp(maxSteps:=4000000)(disch:=first|exact dz|fail)only[bB.u,seval,cut,hx,m133,g0',gl,eL,n0,n1,h7',hs,hP0,hP0',ht,hw])))
 all_goals first|exact xz|(subst hrhs;first|rfl|(first|rfl|(refine congrArg some (congrArg MV.bool ?_);rw[Bool.eq_iff_iff];simp only[Bool.and_eq_true,Bool.or_eq_true,Bool.not_eq_true',Bool.not_eq_true,decide_eq_true_eq,decide_eq_false_iff_not,beq_iff_eq,Bool.false_eq_true,false_iff,true_iff,iff_true,iff_false,←UInt8.toNat_inj];omega)|(refine congrArg some (congrArg MV.bool ?_);rw[Bool.eq_iff_iff];simp[←UInt8.toNat_inj]at *<;>omega)|(refine congrArg some (congrArg MV.bool ?_);rw[Bool.eq_iff_iff];simp_all[←UInt8.toNat_inj]<;>omega)))
def R_rr:List (Nat × Option (Bool × Nat) × PK):=[(4,none,.other)]
theorem rr6 (b:List UInt8) (hb:b.length<2^60):Call Q 133 [.int .i64 6,.bs b]=some (.bool (rOid b)):=by
 rw[Call_fn Q (m:=m133) rfl rfl]
 have eL:((b.length:Int)-1).toNat=b.length-1:=by omega
 apply hide;intro rhs hrhs
 simp(maxSteps:=4000000)(disch:=first|exact dz|fail)only[bB.u,seval,cut,m133,Run_loop]
 refine useK fun K hK=>?_
 refine loopR b gGr (fun _ i=>fin R_rr (RunL Q m133k0 m133b0 K ⟨[(1,.bs b),(5,.int .i64 b.length),(6,.int .i64 (i:Nat))],[],[],1⟩)) (fun _=>some (.bool false))
  (fun p i=>i≤b.length∧(i=0∧p=0∨0<i∧p=(g0 b (i-1)).toNat)) ?_ 0 ⟨by omega,.inl ⟨rfl,rfl⟩⟩ (congrArg (fin _) (RunL_canon (canon_cong kr kr kr))) ?_ ?_
 ·intro p i x hI hg
  obtain⟨hi,hxx⟩:=List.getElem?_eq_some_iff.1 hg
  have e1:((i:Int)-1).toNat=i-1:=by omega
  have hlt:decide ((i:Int)<(b.length:Int))=true:=by simp;omega
  have hgx:g0 b i=x:=by
   have:=getq b i hi
   rw[hg]at this;exact(Option.some.inj this).symm
  have hnx:g0 b (i+1-1)=x:=by rw[Nat.add_sub_cancel];exact hgx
  unfold gGr
  split
  ·rename_i hc
   simp only[After]
   obtain⟨b',hb'⟩:∃b',b'=m133b0:=⟨_,rfl⟩
   rw[RunL_eq,show Item.lp m133k0 m133b0=Item.lp m133k0 b' by rw[hb']]
   apply hide;intro rhs hrhs
   simp(maxSteps:=4000000)(disch:=first|exact dz|fail)only[bB.u,seval,cut,m133b0,hlt,hg,e1,getq]
   repeat'((with_reducible first|refine sp ?_ ?_|fail)<;>intro hx<;>(try simp only[bI.u]at hx)<;>(first|exact xz|(try simp(maxSteps:=4000000)(disch:=first|exact dz|fail)only[bB.u,seval,cut,hx,m133b0,hlt,hg,e1,getq])))
   all_goals first|exact xz|(subst hrhs;rfl)
  ·rename_i hc
   refine⟨⟨by omega,.inr ⟨by omega,by rw[hnx]⟩⟩,?_⟩
   obtain⟨b',hb'⟩:∃b',b'=m133b0:=⟨_,rfl⟩
   rw[RunL_eq,show Item.lp m133k0 m133b0=Item.lp m133k0 b' by rw[hb']]
   apply hide;intro rhs hrhs
   simp(maxSteps:=4000000)(disch:=first|exact dz|fail)only[bB.u,seval,cut,m133b0,hlt,hg,e1,getq]
   repeat'((with_reducible first|refine sp ?_ ?_|fail)<;>intro hx<;>(try simp only[bI.u]at hx)<;>(first|exact xz|(try simp(maxSteps:=4000000)(disch:=first|exact dz|fail)only[bB.u,seval,cut,hx,m133b0,hlt,hg,e1,getq])))
   all_goals first|exact xz|(subst hrhs;(subst hb';refine(congrArg (fin _) (Run_lp Q _ _ _ _)).trans ?_;exact congrArg (fin R_rr) (RunL_canon (canon_cong kr kr kr))))
 ·intro s hf hI
  have hlt:decide ((b.length:Int)<(b.length:Int))=false:=by simp
  subst hK
  obtain⟨b',hb'⟩:∃b',b'=m133b0:=⟨_,rfl⟩
  rw[RunL_eq,show Item.lp m133k0 m133b0=Item.lp m133k0 b' by rw[hb']]
  simp(maxSteps:=4000000)(disch:=first|exact dz|fail)only[bB.u,seval,cut,m133b0,R_rr,hlt,eL,getq]
  repeat'((with_reducible first|refine sp ?_ ?_|fail)<;>intro hx<;>(try simp only[bI.u]at hx)<;>(first|exact xz|(try simp(maxSteps:=4000000)(disch:=first|exact dz|fail)only[bB.u,seval,cut,hx,m133b0,R_rr,hlt,eL,getq])))
  all_goals first|exact xz|(subst hrhs;(rw[show rOid b=(decide (0<b.length)&&decide ((g0 b (b.length-1)).toNat<128)) by unfold rOid;rw[hf]];(first|rfl|(refine congrArg some (congrArg MV.bool ?_);rw[Bool.eq_iff_iff];simp only[Bool.and_eq_true,Bool.or_eq_true,Bool.not_eq_true',Bool.not_eq_true,decide_eq_true_eq,decide_eq_false_iff_not,beq_iff_eq,Bool.false_eq_true,false_iff,true_iff,iff_true,iff_false,←UInt8.toNat_inj];omega)|(refine congrArg some (congrArg MV.bool ?_);rw[Bool.eq_iff_iff];simp[←UInt8.toNat_inj]at *<;>omega)|(refine congrArg some (congrArg MV.bool ?_);rw[Bool.eq_iff_iff];simp_all[←UInt8.toNat_inj]<;>omega))))
 ·intro c hf
  subst hrhs
  unfold rOid;rw[hf]
theorem rr19 (b:List UInt8) (hb:b.length<2^60):Call Q 133 [.int .i64 19,.bs b]=some (.bool (b.all prB)):=by
 rw[Call_fn Q (m:=m133) rfl rfl]
 apply hide;intro rhs hrhs
 simp(maxSteps:=4000000)(disch:=first|exact dz|fail)only[bB.u,seval,cut,m133,Run_loop]
 refine useK fun K hK=>?_
 refine loopR b (gAll prB) (fun _ i=>fin R_rr (RunL Q m133k1 m133b1 K ⟨[(1,.bs b),(5,.int .i64 b.length),(7,.int .i64 (i:Nat))],[],[],1⟩)) (fun _=>some (.bool false))
  (fun _ i=>i≤b.length) ?_ () (Nat.zero_le _) (congrArg (fin _) (RunL_canon (canon_cong kr kr kr))) ?_ ?_
 ·intro p i x hI hg
  obtain⟨hi,hxx⟩:=List.getElem?_eq_some_iff.1 hg
  have hlt:decide ((i:Int)<(b.length:Int))=true:=by simp;omega
  have hq:=c_prnR x
  unfold gAll
  split
  ·rename_i hc
   rw[hc]at hq
   refine⟨by omega,?_⟩
   obtain⟨b',hb'⟩:∃b',b'=m133b1:=⟨_,rfl⟩
   rw[RunL_eq,show Item.lp m133k1 m133b1=Item.lp m133k1 b' by rw[hb']]
   apply hide;intro rhs hrhs
   simp(maxSteps:=4000000)(disch:=first|exact dz|fail)only[bB.u,seval,cut,m133b1,hlt,hg,hq]
   repeat'((with_reducible first|refine sp ?_ ?_|fail)<;>intro hx<;>(try simp only[bI.u]at hx)<;>(first|exact xz|(try simp(maxSteps:=4000000)(disch:=first|exact dz|fail)only[bB.u,seval,cut,hx,m133b1,hlt,hg,hq])))
   all_goals first|exact xz|(subst hrhs;(subst hb';refine(congrArg (fin _) (Run_lp Q _ _ _ _)).trans ?_;exact congrArg (fin R_rr) (RunL_canon (canon_cong kr kr kr))))
  ·rename_i hc
   rw[Bool.not_eq_true]at hc
   rw[hc]at hq
   simp only[After]
   obtain⟨b',hb'⟩:∃b',b'=m133b1:=⟨_,rfl⟩
   rw[RunL_eq,show Item.lp m133k1 m133b1=Item.lp m133k1 b' by rw[hb']]
   apply hide;intro rhs hrhs
   simp(maxSteps:=4000000)(disch:=first|exact dz|fail)only[bB.u,seval,cut,m133b1,hlt,hg,hq]
   repeat'((with_reducible first|refine sp ?_ ?_|fail)<;>intro hx<;>(try simp only[bI.u]at hx)<;>(first|exact xz|(try simp(maxSteps:=4000000)(disch:=first|exact dz|fail)only[bB.u,seval,cut,hx,m133b1,hlt,hg,hq])))
   all_goals first|exact xz|(subst hrhs;rfl)
 ·intro s hf hI
  have hlt:decide ((b.length:Int)<(b.length:Int))=false:=by simp
  subst hK
  rw[all_fold]at hf
  have ha:b.all prB=true:=by
   cases h:b.all prB
   ·rw[h]at hf;cases hf
   ·rfl
  rw[hrhs,ha]
  obtain⟨b',hb'⟩:∃b',b'=m133b1:=⟨_,rfl⟩
  rw[RunL_eq,show Item.lp m133k1 m133b1=Item.lp m133k1 b' by rw[hb']]
  apply hide;intro rhs hrhs
  simp(maxSteps:=4000000)(disch:=first|exact dz|fail)only[bB.u,seval,cut,m133b1,R_rr,hlt]
  repeat'((with_reducible first|refine sp ?_ ?_|fail)<;>intro hx<;>(try simp only[bI.u]at hx)<;>(first|exact xz|(try simp(maxSteps:=4000000)(disch:=first|exact dz|fail)only[bB.u,seval,cut,hx,m133b1,R_rr,hlt])))
  all_goals first|exact xz|(subst hrhs;rfl)
 ·intro c hf
  subst hrhs
  rw[all_fold]at hf
  cases h:b.all prB
  ·rfl
  ·rw[h]at hf;cases hf
theorem rr22 (b:List UInt8) (hb:b.length<2^60):Call Q 133 [.int .i64 22,.bs b]=some (.bool (b.all (fun c=>decide (c.toNat<128)))):=by
 rw[Call_fn Q (m:=m133) rfl rfl]
 apply hide;intro rhs hrhs
 simp(maxSteps:=4000000)(disch:=first|exact dz|fail)only[bB.u,seval,cut,m133,Run_loop]
 refine useK fun K hK=>?_
 refine loopR b (gAll (fun c=>decide (c.toNat<128))) (fun _ i=>fin R_rr (RunL Q m133k2 m133b2 K ⟨[(1,.bs b),(5,.int .i64 b.length),(8,.int .i64 (i:Nat))],[],[],1⟩)) (fun _=>some (.bool false))
  (fun _ i=>i≤b.length) ?_ () (Nat.zero_le _) (congrArg (fin _) (RunL_canon (canon_cong kr kr kr))) ?_ ?_
 ·intro p i x hI hg
  obtain⟨hi,hxx⟩:=List.getElem?_eq_some_iff.1 hg
  have hlt:decide ((i:Int)<(b.length:Int))=true:=by simp;omega
  unfold gAll
  split
  ·rename_i hc
   have hq:decide (128≤(x.toNat:Int))=false:=by simp at hc ⊢;omega
   refine⟨by omega,?_⟩
   obtain⟨b',hb'⟩:∃b',b'=m133b2:=⟨_,rfl⟩
   rw[RunL_eq,show Item.lp m133k2 m133b2=Item.lp m133k2 b' by rw[hb']]
   apply hide;intro rhs hrhs
   simp(maxSteps:=4000000)(disch:=first|exact dz|fail)only[bB.u,seval,cut,m133b2,hlt,hg,hq]
   repeat'((with_reducible first|refine sp ?_ ?_|fail)<;>intro hx<;>(try simp only[bI.u]at hx)<;>(first|exact xz|(try simp(maxSteps:=4000000)(disch:=first|exact dz|fail)only[bB.u,seval,cut,hx,m133b2,hlt,hg,hq])))
   all_goals first|exact xz|(subst hrhs;(subst hb';refine(congrArg (fin _) (Run_lp Q _ _ _ _)).trans ?_;exact congrArg (fin R_rr) (RunL_canon (canon_cong kr kr kr))))
  ·rename_i hc
   have hq:decide (128≤(x.toNat:Int))=true:=by simp at hc ⊢;omega
   simp only[After]
   obtain⟨b',hb'⟩:∃b',b'=m133b2:=⟨_,rfl⟩
   rw[RunL_eq,show Item.lp m133k2 m133b2=Item.lp m133k2 b' by rw[hb']]
   apply hide;intro rhs hrhs
   simp(maxSteps:=4000000)(disch:=first|exact dz|fail)only[bB.u,seval,cut,m133b2,hlt,hg,hq]
   repeat'((with_reducible first|refine sp ?_ ?_|fail)<;>intro hx<;>(try simp only[bI.u]at hx)<;>(first|exact xz|(try simp(maxSteps:=4000000)(disch:=first|exact dz|fail)only[bB.u,seval,cut,hx,m133b2,hlt,hg,hq])))
   all_goals first|exact xz|(subst hrhs;rfl)
 ·intro s hf hI
  have hlt:decide ((b.length:Int)<(b.length:Int))=false:=by simp
  subst hK
  rw[all_fold]at hf
  have ha:b.all (fun c=>decide (c.toNat<128))=true:=by
   cases h:b.all (fun c=>decide (c.toNat<128))
   ·rw[h]at hf;cases hf
   ·rfl
  rw[hrhs,ha]
  obtain⟨b',hb'⟩:∃b',b'=m133b2:=⟨_,rfl⟩
  rw[RunL_eq,show Item.lp m133k2 m133b2=Item.lp m133k2 b' by rw[hb']]
  apply hide;intro rhs hrhs
  simp(maxSteps:=4000000)(disch:=first|exact dz|fail)only[bB.u,seval,cut,m133b2,R_rr,hlt]
  repeat'((with_reducible first|refine sp ?_ ?_|fail)<;>intro hx<;>(try simp only[bI.u]at hx)<;>(first|exact xz|(try simp(maxSteps:=4000000)(disch:=first|exact dz|fail)only[bB.u,seval,cut,hx,m133b2,R_rr,hlt])))
  all_goals first|exact xz|(subst hrhs;rfl)
 ·intro c hf
  subst hrhs
  rw[all_fold]at hf
  cases h:b.all (fun c=>decide (c.toNat<128))
  ·rfl
  ·rw[h]at hf;cases hf
theorem rightR_nil (t:Int):Call Q 133 [.int .i64 t,.nilsl]=Call Q 133 [.int .i64 t,.bs []]:=by
 rw[Call_fn Q (m:=m133) rfl rfl,Call_fn Q (m:=m133) rfl rfl]
 rfl
theorem c_rightR (t:Int) (ht:t=1∨t=2∨t=10∨t=3∨t=4∨t=5∨t=6∨t=12∨t=19∨t=22∨t=23∨t=24) (v:MV) (b:List UInt8) (hv:Rb v b) (hb:b.length<2^60):Call Q 133 [.int .i64 t,v]=some (.bool (right t b)):=by
 have hv':Call Q 133 [.int .i64 t,v]=Call Q 133 [.int .i64 t,.bs b]:=by
  cases hv with
  |bs=>rfl
  |nil=>exact rightR_nil t
 rw[hv']
 rcases ht with rfl|rfl|rfl|rfl|rfl|rfl|rfl|rfl|rfl|rfl|rfl|rfl
 ·exact rr1 b hb
 ·exact rr2 b hb
 ·exact rr10 b hb
 ·exact rr3 b hb
 ·exact rr4 b hb
 ·exact rr5 b hb
 ·exact rr6 b hb
 ·exact rr12 b hb
 ·exact rr19 b hb
 ·exact rr22 b hb
 ·exact rr23 b hb
 ·exact rr24 b hb
end Go.Mini

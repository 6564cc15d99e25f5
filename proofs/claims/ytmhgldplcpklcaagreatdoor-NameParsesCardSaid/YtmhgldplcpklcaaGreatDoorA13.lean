/- any value's DN and any DN's value are the document's: the law by that interpreter (part 13): what the program's functions answer, or plain laws of it; no conditions. -/
import Derived.Test.YtmhgldplcpklcaaGreatDoorA11
import Derived.Test.YtmhgldplcpklcaaGreatDoorA12
import Derived.Test.YtmhgldplcpklcaaGreatDoorA07
set_option linter.all false
namespace Go.Mini
open Go Go.Proofs.YtmhgldplcpklcaaGreatDoor
set_option maxRecDepth 100000
set_option maxHeartbeats 8000000
theorem c_formR (c t:Int) (m:Bool) (w k:MV) (b:List UInt8) (hb:Rb w b) (hw:Fs w) (hk:Fs k) (hl:b.length<2^60):Call Q 101 [.agg [.int .i64 c,.int .i64 t,.bool m,w,k]]=some (.int .i64 (formE c t m b)):=by
 by_cases hc:c=0
 rotate_left
 ·rw[show formE c t m b=0 from if_pos hc]
  have hcb:(c==0)=false:=by simpa using hc
  have hcn:(c != 0)=true:=by simpa using hc
  rw[Call_fn Q (m:=m101) rfl rfl]
  apply hide;intro rhs hrhs
  simp(maxSteps:=4000000) (disch:=first|omega|exact ok_of (by(try simp only[bB.u,seval,cut,hw.a,hk.a]);kernel_rfl)|decide) only[bB.u,seval,cut,m101,hc,hcb,hcn,hw.a,hk.a]
  repeat'((with_reducible first|refine sp ?_ ?_|fail)<;>intro hx<;>(try simp only[bI.u]at hx)<;>(first|exact xz|(try simp(maxSteps:=4000000) (disch:=first|omega|exact ok_of (by(try simp only[bB.u,seval,cut,hw.a,hk.a]);kernel_rfl)|decide) only[bB.u,seval,cut,hx,m101,hc,hcb,hcn,hw.a,hk.a])))
  all_goals first|exact xz|(subst hrhs;rfl)
 subst hc
 unfold formE
 rw[if_neg (by simp)]
 by_cases h1:t=16∨t=17
 ·rw[if_pos h1]
  rcases h1 with rfl|rfl<;>cases m
  all_goals(
  rw[Call_fn Q (m:=m101) rfl rfl]
  apply hide;intro rhs hrhs
  simp(maxSteps:=4000000) (disch:=first|omega|exact ok_of (by(try simp only[bB.u,seval,cut,hw.a,hk.a]);kernel_rfl)|decide) only[bB.u,seval,cut,m101,if_true,if_false,hw.a,hk.a]
  repeat'((with_reducible first|refine sp ?_ ?_|fail)<;>intro hx<;>(try simp only[bI.u]at hx)<;>(first|exact xz|(try simp(maxSteps:=4000000) (disch:=first|omega|exact ok_of (by(try simp only[bB.u,seval,cut,hw.a,hk.a]);kernel_rfl)|decide) only[bB.u,seval,cut,hx,m101,if_true,if_false,hw.a,hk.a])))
  all_goals first|exact xz|(subst hrhs;rfl))
 rw[if_neg h1]
 by_cases h2:t=1∨t=2∨t=10∨t=3∨t=4∨t=5∨t=6∨t=12∨t=19∨t=22∨t=23∨t=24
 ·have hq:=c_rightR t h2 w b hb hl
  rw[if_pos h2]
  generalize right t b=q at hq ⊢
  cases m<;>cases q
  all_goals(
  rcases h2 with rfl|rfl|rfl|rfl|rfl|rfl|rfl|rfl|rfl|rfl|rfl|rfl
  all_goals(
  rw[Call_fn Q (m:=m101) rfl rfl]
  apply hide;intro rhs hrhs
  simp(maxSteps:=4000000) (disch:=first|omega|exact ok_of (by(try simp only[bB.u,seval,cut,hw.a,hk.a]);kernel_rfl)|decide) only[bB.u,seval,cut,m101,hq,hw.a,hk.a]
  repeat'((with_reducible first|refine sp ?_ ?_|fail)<;>intro hx<;>(try simp only[bI.u]at hx)<;>(first|exact xz|(try simp(maxSteps:=4000000) (disch:=first|omega|exact ok_of (by(try simp only[bB.u,seval,cut,hw.a,hk.a]);kernel_rfl)|decide) only[bB.u,seval,cut,hx,m101,hq,hw.a,hk.a])))
  all_goals first|exact xz|(subst hrhs;rfl)))
 ·rw[if_neg h2]
  have a1:decide (t=16)=false:=by simp;omega
  have b1:(t==16)=false:=by rw[beq_eq_false_iff_ne];omega
  have b2:(t==17)=false:=by rw[beq_eq_false_iff_ne];omega
  have b3:(t==10)=false:=by rw[beq_eq_false_iff_ne];omega
  have b4:(t==12)=false:=by rw[beq_eq_false_iff_ne];omega
  have b5:(t==19)=false:=by rw[beq_eq_false_iff_ne];omega
  have h3:¬(1≤t∧t≤6):=by omega
  have h4:¬(22≤t∧t≤24):=by omega
  by_cases k1:1≤t<;>by_cases k2:22≤t
  all_goals first|(exfalso;omega)|(
  have d1:decide (1≤t)=_:=decide_eq_true k1
  have d2:decide (t≤6)=false:=by simp;omega
  have d3:decide (22≤t)=_:=decide_eq_true k2
  have d4:decide (t≤24)=false:=by simp;omega
  rw[Call_fn Q (m:=m101) rfl rfl]
  apply hide;intro rhs hrhs
  simp(maxSteps:=4000000) (disch:=first|omega|exact ok_of (by(try simp only[bB.u,seval,cut,hw.a,hk.a]);kernel_rfl)|decide) only[bB.u,seval,cut,m101,b1,b2,b3,b4,b5,d1,d2,d3,d4,hw.a,hk.a]
  repeat'((with_reducible first|refine sp ?_ ?_|fail)<;>intro hx<;>(try simp only[bI.u]at hx)<;>(first|exact xz|(try simp(maxSteps:=4000000) (disch:=first|omega|exact ok_of (by(try simp only[bB.u,seval,cut,hw.a,hk.a]);kernel_rfl)|decide) only[bB.u,seval,cut,hx,m101,b1,b2,b3,b4,b5,d1,d2,d3,d4,hw.a,hk.a])))
  all_goals first|exact xz|(subst hrhs;rfl))|(
  have d1:decide (1≤t)=_:=decide_eq_true k1
  have d2:decide (t≤6)=false:=by simp;omega
  have d3:decide (22≤t)=_:=decide_eq_false k2
  rw[Call_fn Q (m:=m101) rfl rfl]
  apply hide;intro rhs hrhs
  simp(maxSteps:=4000000) (disch:=first|omega|exact ok_of (by(try simp only[bB.u,seval,cut,hw.a,hk.a]);kernel_rfl)|decide) only[bB.u,seval,cut,m101,b1,b2,b3,b4,b5,d1,d2,d3,hw.a,hk.a]
  repeat'((with_reducible first|refine sp ?_ ?_|fail)<;>intro hx<;>(try simp only[bI.u]at hx)<;>(first|exact xz|(try simp(maxSteps:=4000000) (disch:=first|omega|exact ok_of (by(try simp only[bB.u,seval,cut,hw.a,hk.a]);kernel_rfl)|decide) only[bB.u,seval,cut,hx,m101,b1,b2,b3,b4,b5,d1,d2,d3,hw.a,hk.a])))
  all_goals first|exact xz|(subst hrhs;rfl))|(
  have d1:decide (1≤t)=_:=decide_eq_false k1
  have d3:decide (22≤t)=_:=decide_eq_false k2
  rw[Call_fn Q (m:=m101) rfl rfl]
  apply hide;intro rhs hrhs
  simp(maxSteps:=4000000) (disch:=first|omega|exact ok_of (by(try simp only[bB.u,seval,cut,hw.a,hk.a]);kernel_rfl)|decide) only[bB.u,seval,cut,m101,b1,b2,b3,b4,b5,d1,d3,hw.a,hk.a]
  repeat'((with_reducible first|refine sp ?_ ?_|fail)<;>intro hx<;>(try simp only[bI.u]at hx)<;>(first|exact xz|(try simp(maxSteps:=4000000) (disch:=first|omega|exact ok_of (by(try simp only[bB.u,seval,cut,hw.a,hk.a]);kernel_rfl)|decide) only[bB.u,seval,cut,hx,m101,b1,b2,b3,b4,b5,d1,d3,hw.a,hk.a])))
  all_goals first|exact xz|(subst hrhs;rfl))
end Go.Mini
namespace Go.Mini
open Go Go.Proofs.YtmhgldplcpklcaaGreatDoor
set_option maxRecDepth 100000
set_option maxHeartbeats 4000000
def R_hd:List (Nat × Option (Bool × Nat) × PK):=[(4,none,.ownB)]
def hd_t1:MCode:=(sq [qa 79 6,qa 80 7,qj 81 80,oT 82 (.bin .add (qk 128) (.t 81)),qJ 83 82,oT 84 (.bslB 1 [(0,.t 83)]),oT 85 (.app true 1 1 (.t 79) (.t 84)),qb 6 85] (.seq (sq [qa 86 7,qj 87 86,qx 88 .sub 87 1,qb 8 88] (.block 2 (.loop m103k1 m103b1))) (sq [qa 100 6,qb 4 100] .ret)))
def hd_t2:MCode:=(.seq (.rg [oT 100 (.mv (.v 6)),
  oV 4 (.mv (.t 100))])
  (.ret))
def ownB (a:Nat) (l:List UInt8):MV:=.own a l.length
def hd_s1 (out l:List UInt8) (n:Nat):DS:=⟨[(1,.int .i64 (n:Nat)),(6,.own 0 out.length),(7,.own 1 l.length)],[],[(0,.byt out false),(1,.byt l false)],3⟩
def hd_s0 (out:List UInt8) (n:Nat):DS:=⟨[(1,.int .i64 (n:Nat)),(6,.own 0 out.length),(7,.own 2 0)],[],[(0,.byt out false),(2,.byt [] false)],3⟩
def hd_s2 (out l:List UInt8) (i:Int):DS:=⟨[(6,.own 0 out.length),(7,.own 1 l.length),(8,.int .i64 i)],[],[(0,.byt out false),(1,.byt l false)],3⟩
theorem hd_a0 (K:List Item) (out:List UInt8) (ho:out.length≤8) (n:Nat) (h:0<n) (hn:n<2^40):fin R_hd (RunL Q m103k0 m103b0 K (hd_s0 out n))=fin R_hd (RunL Q m103k0 m103b0 K (hd_s1 out [UInt8.ofNat n] (n/256))):=by
 have g1:decide (0<(n:Int))=true:=by simp;omega
 have e1:((n/256:Nat):Int)=(n:Int)/256:=by omega
 unfold hd_s0 hd_s1
 rw[e1]
 obtain⟨b',hb'⟩:∃b',b'=m103b0:=⟨_,rfl⟩
 rw[RunL_eq,show Item.lp m103k0 m103b0=Item.lp m103k0 b' by rw[hb']]
 apply hide;intro rhs hrhs
 simp(maxSteps:=4000000)(disch:=first|exact dz|fail)only[bB.u,seval,cut,m103b0,R_hd,g1,u8_wrap,u8m,Int.toNat_natCast,List.length_cons,List.length_nil]
 repeat'((with_reducible first|refine sp ?_ ?_|fail)<;>intro hx<;>(try simp only[bI.u]at hx)<;>(first|exact xz|(try simp(maxSteps:=4000000)(disch:=first|exact dz|fail)only[bB.u,seval,cut,hx,m103b0,R_hd,g1,u8_wrap,u8m,Int.toNat_natCast,List.length_cons,List.length_nil])))
 all_goals first|exact xz|(subst hrhs;(subst hb';refine(congrArg (fin _) (Run_lp Q _ _ _ _)).trans ?_;exact congrArg (fin R_hd) (RunL_canon (canon_cong kr kr kr))))
theorem hd_a1 (K:List Item) (out l:List UInt8) (ho:out.length≤8) (hl:l.length≤8) (n:Nat) (h:0<n) (hn:n<2^40):fin R_hd (RunL Q m103k0 m103b0 K (hd_s1 out l n))=fin R_hd (RunL Q m103k0 m103b0 K (hd_s1 out (l++[UInt8.ofNat n]) (n/256))):=by
 have g1:decide (0<(n:Int))=true:=by simp;omega
 have e1:((n/256:Nat):Int)=(n:Int)/256:=by omega
 unfold hd_s1
 simp only[List.length_append,List.length_cons,List.length_nil,e1]
 obtain⟨b',hb'⟩:∃b',b'=m103b0:=⟨_,rfl⟩
 rw[RunL_eq,show Item.lp m103k0 m103b0=Item.lp m103k0 b' by rw[hb']]
 apply hide;intro rhs hrhs
 simp(maxSteps:=4000000)(disch:=first|exact dz|fail)only[bB.u,seval,cut,m103b0,R_hd,g1,u8_wrap,u8m,Int.toNat_natCast]
 repeat'((with_reducible first|refine sp ?_ ?_|fail)<;>intro hx<;>(try simp only[bI.u]at hx)<;>(first|exact xz|(try simp(maxSteps:=4000000)(disch:=first|exact dz|fail)only[bB.u,seval,cut,hx,m103b0,R_hd,g1,u8_wrap,u8m,Int.toNat_natCast])))
 all_goals first|exact xz|(subst hrhs;(subst hb';refine(congrArg (fin _) (Run_lp Q _ _ _ _)).trans ?_;exact congrArg (fin R_hd) (RunL_canon (canon_cong kr kr kr))))
theorem hd_b1 (out l:List UInt8) (ho:out.length≤8) (hl:l.length≤8) (hl0:0<l.length) (i:Nat) (x:UInt8) (h:l[i]? = some x):fin R_hd (RunL Q m103k1 m103b1 [.blk 2,.code hd_t2] (hd_s2 out l (i:Nat)))=fin R_hd (RunL Q m103k1 m103b1 [.blk 2,.code hd_t2] (hd_s2 (out++[x]) l ((i:Int)-1))):=by
 have hi:=(List.getElem?_eq_some_iff.1 h).1
 have g1:decide (0≤(i:Int))=true:=by simp
 unfold hd_s2
 simp only[List.length_append,List.length_cons,List.length_nil]
 obtain⟨b',hb'⟩:∃b',b'=m103b1:=⟨_,rfl⟩
 rw[RunL_eq,show Item.lp m103k1 m103b1=Item.lp m103k1 b' by rw[hb']]
 apply hide;intro rhs hrhs
 simp(maxSteps:=4000000)(disch:=first|exact dz|fail)only[bB.u,seval,cut,m103b1,R_hd,g1,h]
 repeat'((with_reducible first|refine sp ?_ ?_|fail)<;>intro hx<;>(try simp only[bI.u]at hx)<;>(first|exact xz|(try simp(maxSteps:=4000000)(disch:=first|exact dz|fail)only[bB.u,seval,cut,hx,m103b1,R_hd,g1,h])))
 all_goals first|exact xz|(subst hrhs;(subst hb';refine(congrArg (fin _) (Run_lp Q _ _ _ _)).trans ?_;exact congrArg (fin R_hd) (RunL_canon (canon_cong kr kr kr))))
theorem hd_b0 (out l:List UInt8) (ho:out.length≤16):fin R_hd (RunL Q m103k1 m103b1 [.blk 2,.code hd_t2] (hd_s2 out l (-1)))=some (.fby out):=by
 unfold hd_s2
 obtain⟨b',hb'⟩:∃b',b'=m103b1:=⟨_,rfl⟩
 rw[RunL_eq,show Item.lp m103k1 m103b1=Item.lp m103k1 b' by rw[hb']]
 apply hide;intro rhs hrhs
 simp(maxSteps:=4000000)(disch:=first|exact dz|fail)only[bB.u,seval,cut,m103b1,hd_t2,R_hd]
 repeat'((with_reducible first|refine sp ?_ ?_|fail)<;>intro hx<;>(try simp only[bI.u]at hx)<;>(first|exact xz|(try simp(maxSteps:=4000000)(disch:=first|exact dz|fail)only[bB.u,seval,cut,hx,m103b1,hd_t2,R_hd])))
 all_goals first|exact xz|(subst hrhs;rfl)
theorem hd_c (out l:List UInt8) (ho:out.length≤8) (hl:l.length≤8) (hl0:0<l.length):fin R_hd (RunL Q m103k0 m103b0 [.blk 0,.code hd_t1] (hd_s1 out l 0))=fin R_hd (RunL Q m103k1 m103b1 [.blk 2,.code hd_t2] (hd_s2 (out++[UInt8.ofNat (128+l.length)]) l ((l.length:Int)-1))):=by
 have e1:UInt8.ofNat (128+(l.length:Int)).toNat=UInt8.ofNat (128+l.length):=by congr 1
 unfold hd_s1 hd_s2
 simp only[List.length_append,List.length_cons,List.length_nil]
 obtain⟨b',hb'⟩:∃b',b'=m103b0:=⟨_,rfl⟩
 rw[RunL_eq,show Item.lp m103k0 m103b0=Item.lp m103k0 b' by rw[hb']]
 apply hide;intro rhs hrhs
 simp(maxSteps:=4000000)(disch:=first|exact dz|fail)only[bB.u,seval,cut,m103b0,hd_t1,hd_t2,R_hd,u8_wrap,u8m,e1,Run_loop]
 repeat'((with_reducible first|refine sp ?_ ?_|fail)<;>intro hx<;>(try simp only[bI.u]at hx)<;>(first|exact xz|(try simp(maxSteps:=4000000)(disch:=first|exact dz|fail)only[bB.u,seval,cut,hx,m103b0,hd_t1,hd_t2,R_hd,u8_wrap,u8m,e1,Run_loop])))
 all_goals first|exact xz|(subst hrhs;exact congrArg (fin R_hd) (RunL_canon (canon_cong kr kr kr)))
theorem hb_div7 (t:Int):t/2^(7:Int).toNat=t/128:=rfl
theorem hb_div14 (t:Int):t/2^(14:Int).toNat=t/16384:=rfl
theorem hd_af0 (c t:Int) (w k:MV) (hw:Fs w) (hk:Fs k) (h0:0≤c) (h3:c≤3) (ht0:0≤t) (ht:t<2097152) (h1:t<31) (n:Nat) (hn:n<128):Call Q 103 [.agg [.int .i64 c,.int .i64 t,.bool false,w,k],.int .i64 (n:Nat)]=some (.fby ([UInt8.ofNat (first c false+t.toNat)]++[UInt8.ofNat n])):=by
 have g1:decide (t<31)=true:=by simp;omega
 have gn:decide ((n:Int)<128)=true:=by simp;omega
 have e1:UInt8.ofNat (64*c+t).toNat=UInt8.ofNat (first c false+t.toNat):=by congr 1;unfold first;simp only[if_true,Bool.false_eq_true,if_false];omega
 have e2:UInt8.ofNat (64*c+31).toNat=UInt8.ofNat (first c false+31):=by congr 1;unfold first;simp only[if_true,Bool.false_eq_true,if_false];omega
 have e3:UInt8.ofNat (t%128).toNat=UInt8.ofNat (t.toNat%128):=by congr 1;omega
 have e4:UInt8.ofNat (128+t/128%128).toNat=UInt8.ofNat (128+t.toNat/128%128):=by congr 1;omega
 have e5:UInt8.ofNat (128+t/16384).toNat=UInt8.ofNat (128+t.toNat/16384):=by congr 1;omega
 rw[Call_fn Q (m:=m103) rfl rfl]
 apply hide;intro rhs hrhs
 simp(maxSteps:=4000000) (disch:=first|omega|exact ok_of (by(try simp only[bB.u,seval,cut,hw.a,hk.a]);kernel_rfl)|decide) only[bB.u,seval,cut,m103,shr64,hb_div7,hb_div14,u8_wrap,u8m,e1,e2,e3,e4,e5,g1,Run_nil,reach,hw.a,hk.a,gn,Int.toNat_natCast]
 repeat'((with_reducible first|refine sp ?_ ?_|fail)<;>intro hx<;>(try simp only[bI.u]at hx)<;>(first|exact xz|(try simp(maxSteps:=4000000) (disch:=first|omega|exact ok_of (by(try simp only[bB.u,seval,cut,hw.a,hk.a]);kernel_rfl)|decide) only[bB.u,seval,cut,hx,m103,shr64,hb_div7,hb_div14,u8_wrap,u8m,e1,e2,e3,e4,e5,g1,Run_nil,reach,hw.a,hk.a,gn,Int.toNat_natCast])))
 all_goals first|exact xz|(subst hrhs;rfl)
theorem hd_af1 (c t:Int) (w k:MV) (hw:Fs w) (hk:Fs k) (h0:0≤c) (h3:c≤3) (ht0:0≤t) (ht:t<2097152) (h1:t<31) (n:Nat) (hn:128≤n) (hn2:n<2^40):Call Q 103 [.agg [.int .i64 c,.int .i64 t,.bool false,w,k],.int .i64 (n:Nat)]=fin R_hd (RunL Q m103k0 m103b0 [.blk 0,.code hd_t1] (hd_s0 [UInt8.ofNat (first c false+t.toNat)] n)):=by
 have g1:decide (t<31)=true:=by simp;omega
 have gn:decide ((n:Int)<128)=false:=by simp;omega
 have e1:UInt8.ofNat (64*c+t).toNat=UInt8.ofNat (first c false+t.toNat):=by congr 1;unfold first;simp only[if_true,Bool.false_eq_true,if_false];omega
 have e2:UInt8.ofNat (64*c+31).toNat=UInt8.ofNat (first c false+31):=by congr 1;unfold first;simp only[if_true,Bool.false_eq_true,if_false];omega
 have e3:UInt8.ofNat (t%128).toNat=UInt8.ofNat (t.toNat%128):=by congr 1;omega
 have e4:UInt8.ofNat (128+t/128%128).toNat=UInt8.ofNat (128+t.toNat/128%128):=by congr 1;omega
 have e5:UInt8.ofNat (128+t/16384).toNat=UInt8.ofNat (128+t.toNat/16384):=by congr 1;omega
 unfold hd_s0
 rw[Call_fn Q (m:=m103) rfl rfl]
 apply hide;intro rhs hrhs
 simp(maxSteps:=4000000) (disch:=first|omega|exact ok_of (by(try simp only[bB.u,seval,cut,hw.a,hk.a]);kernel_rfl)|decide) only[bB.u,seval,cut,m103,shr64,hb_div7,hb_div14,u8_wrap,u8m,e1,e2,e3,e4,e5,g1,Run_nil,reach,hw.a,hk.a,gn,hd_t1,R_hd,Run_loop]
 repeat'((with_reducible first|refine sp ?_ ?_|fail)<;>intro hx<;>(try simp only[bI.u]at hx)<;>(first|exact xz|(try simp(maxSteps:=4000000) (disch:=first|omega|exact ok_of (by(try simp only[bB.u,seval,cut,hw.a,hk.a]);kernel_rfl)|decide) only[bB.u,seval,cut,hx,m103,shr64,hb_div7,hb_div14,u8_wrap,u8m,e1,e2,e3,e4,e5,g1,Run_nil,reach,hw.a,hk.a,gn,hd_t1,R_hd,Run_loop])))
 all_goals first|exact xz|(subst hrhs;exact congrArg (fin R_hd) (RunL_canon (canon_cong (by simp only[bA.u,seval,canon,liveNames,inhOf,keptNames,reach,nub,has,inner,newObjs,keepV,renObj,m103k0,hw.a,hk.a]<;>rfl) (by simp only[bA.u,seval,canon,liveNames,inhOf,keptNames,reach,nub,has,inner,newObjs,keepV,renObj,m103k0,hw.a,hk.a]<;>rfl) (by simp only[bA.u,seval,canon,liveNames,inhOf,keptNames,reach,nub,has,inner,newObjs,keepV,renObj,m103k0,hw.a,hk.a]<;>rfl))))
theorem hd_at0 (c t:Int) (w k:MV) (hw:Fs w) (hk:Fs k) (h0:0≤c) (h3:c≤3) (ht0:0≤t) (ht:t<2097152) (h1:t<31) (n:Nat) (hn:n<128):Call Q 103 [.agg [.int .i64 c,.int .i64 t,.bool true,w,k],.int .i64 (n:Nat)]=some (.fby ([UInt8.ofNat (first c true+t.toNat)]++[UInt8.ofNat n])):=by
 have g1:decide (t<31)=true:=by simp;omega
 have gn:decide ((n:Int)<128)=true:=by simp;omega
 have e1:UInt8.ofNat (64*c+32+t).toNat=UInt8.ofNat (first c true+t.toNat):=by congr 1;unfold first;simp only[if_true,Bool.false_eq_true,if_false];omega
 have e2:UInt8.ofNat (64*c+32+31).toNat=UInt8.ofNat (first c true+31):=by congr 1;unfold first;simp only[if_true,Bool.false_eq_true,if_false];omega
 have e3:UInt8.ofNat (t%128).toNat=UInt8.ofNat (t.toNat%128):=by congr 1;omega
 have e4:UInt8.ofNat (128+t/128%128).toNat=UInt8.ofNat (128+t.toNat/128%128):=by congr 1;omega
 have e5:UInt8.ofNat (128+t/16384).toNat=UInt8.ofNat (128+t.toNat/16384):=by congr 1;omega
 rw[Call_fn Q (m:=m103) rfl rfl]
 apply hide;intro rhs hrhs
 simp(maxSteps:=4000000) (disch:=first|omega|exact ok_of (by(try simp only[bB.u,seval,cut,hw.a,hk.a]);kernel_rfl)|decide) only[bB.u,seval,cut,m103,shr64,hb_div7,hb_div14,u8_wrap,u8m,e1,e2,e3,e4,e5,g1,Run_nil,reach,hw.a,hk.a,gn,Int.toNat_natCast]
 repeat'((with_reducible first|refine sp ?_ ?_|fail)<;>intro hx<;>(try simp only[bI.u]at hx)<;>(first|exact xz|(try simp(maxSteps:=4000000) (disch:=first|omega|exact ok_of (by(try simp only[bB.u,seval,cut,hw.a,hk.a]);kernel_rfl)|decide) only[bB.u,seval,cut,hx,m103,shr64,hb_div7,hb_div14,u8_wrap,u8m,e1,e2,e3,e4,e5,g1,Run_nil,reach,hw.a,hk.a,gn,Int.toNat_natCast])))
 all_goals first|exact xz|(subst hrhs;rfl)
theorem hd_at1 (c t:Int) (w k:MV) (hw:Fs w) (hk:Fs k) (h0:0≤c) (h3:c≤3) (ht0:0≤t) (ht:t<2097152) (h1:t<31) (n:Nat) (hn:128≤n) (hn2:n<2^40):Call Q 103 [.agg [.int .i64 c,.int .i64 t,.bool true,w,k],.int .i64 (n:Nat)]=fin R_hd (RunL Q m103k0 m103b0 [.blk 0,.code hd_t1] (hd_s0 [UInt8.ofNat (first c true+t.toNat)] n)):=by
 have g1:decide (t<31)=true:=by simp;omega
 have gn:decide ((n:Int)<128)=false:=by simp;omega
 have e1:UInt8.ofNat (64*c+32+t).toNat=UInt8.ofNat (first c true+t.toNat):=by congr 1;unfold first;simp only[if_true,Bool.false_eq_true,if_false];omega
 have e2:UInt8.ofNat (64*c+32+31).toNat=UInt8.ofNat (first c true+31):=by congr 1;unfold first;simp only[if_true,Bool.false_eq_true,if_false];omega
 have e3:UInt8.ofNat (t%128).toNat=UInt8.ofNat (t.toNat%128):=by congr 1;omega
 have e4:UInt8.ofNat (128+t/128%128).toNat=UInt8.ofNat (128+t.toNat/128%128):=by congr 1;omega
 have e5:UInt8.ofNat (128+t/16384).toNat=UInt8.ofNat (128+t.toNat/16384):=by congr 1;omega
 unfold hd_s0
 rw[Call_fn Q (m:=m103) rfl rfl]
 apply hide;intro rhs hrhs
 simp(maxSteps:=4000000) (disch:=first|omega|exact ok_of (by(try simp only[bB.u,seval,cut,hw.a,hk.a]);kernel_rfl)|decide) only[bB.u,seval,cut,m103,shr64,hb_div7,hb_div14,u8_wrap,u8m,e1,e2,e3,e4,e5,g1,Run_nil,reach,hw.a,hk.a,gn,hd_t1,R_hd,Run_loop]
 repeat'((with_reducible first|refine sp ?_ ?_|fail)<;>intro hx<;>(try simp only[bI.u]at hx)<;>(first|exact xz|(try simp(maxSteps:=4000000) (disch:=first|omega|exact ok_of (by(try simp only[bB.u,seval,cut,hw.a,hk.a]);kernel_rfl)|decide) only[bB.u,seval,cut,hx,m103,shr64,hb_div7,hb_div14,u8_wrap,u8m,e1,e2,e3,e4,e5,g1,Run_nil,reach,hw.a,hk.a,gn,hd_t1,R_hd,Run_loop])))
 all_goals first|exact xz|(subst hrhs;exact congrArg (fin R_hd) (RunL_canon (canon_cong (by simp only[bA.u,seval,canon,liveNames,inhOf,keptNames,reach,nub,has,inner,newObjs,keepV,renObj,m103k0,hw.a,hk.a]<;>rfl) (by simp only[bA.u,seval,canon,liveNames,inhOf,keptNames,reach,nub,has,inner,newObjs,keepV,renObj,m103k0,hw.a,hk.a]<;>rfl) (by simp only[bA.u,seval,canon,liveNames,inhOf,keptNames,reach,nub,has,inner,newObjs,keepV,renObj,m103k0,hw.a,hk.a]<;>rfl))))
theorem hd_bf0 (c t:Int) (w k:MV) (hw:Fs w) (hk:Fs k) (h0:0≤c) (h3:c≤3) (ht0:0≤t) (ht:t<2097152) (h1:31≤t) (h2:t<128) (n:Nat) (hn:n<128):Call Q 103 [.agg [.int .i64 c,.int .i64 t,.bool false,w,k],.int .i64 (n:Nat)]=some (.fby ([UInt8.ofNat (first c false+31),UInt8.ofNat (t.toNat%128)]++[UInt8.ofNat n])):=by
 have g1:decide (t<31)=false:=by simp;omega
 have g2:decide (16384≤t)=false:=by simp;omega
 have g3:decide (128≤t)=false:=by simp;omega
 have gn:decide ((n:Int)<128)=true:=by simp;omega
 have e1:UInt8.ofNat (64*c+t).toNat=UInt8.ofNat (first c false+t.toNat):=by congr 1;unfold first;simp only[if_true,Bool.false_eq_true,if_false];omega
 have e2:UInt8.ofNat (64*c+31).toNat=UInt8.ofNat (first c false+31):=by congr 1;unfold first;simp only[if_true,Bool.false_eq_true,if_false];omega
 have e3:UInt8.ofNat (t%128).toNat=UInt8.ofNat (t.toNat%128):=by congr 1;omega
 have e4:UInt8.ofNat (128+t/128%128).toNat=UInt8.ofNat (128+t.toNat/128%128):=by congr 1;omega
 have e5:UInt8.ofNat (128+t/16384).toNat=UInt8.ofNat (128+t.toNat/16384):=by congr 1;omega
 rw[Call_fn Q (m:=m103) rfl rfl]
 apply hide;intro rhs hrhs
 simp(maxSteps:=4000000) (disch:=first|omega|exact ok_of (by(try simp only[bB.u,seval,cut,hw.a,hk.a]);kernel_rfl)|decide) only[bB.u,seval,cut,m103,shr64,hb_div7,hb_div14,u8_wrap,u8m,e1,e2,e3,e4,e5,g1,g2,g3,Run_nil,reach,hw.a,hk.a,gn,Int.toNat_natCast]
 repeat'((with_reducible first|refine sp ?_ ?_|fail)<;>intro hx<;>(try simp only[bI.u]at hx)<;>(first|exact xz|(try simp(maxSteps:=4000000) (disch:=first|omega|exact ok_of (by(try simp only[bB.u,seval,cut,hw.a,hk.a]);kernel_rfl)|decide) only[bB.u,seval,cut,hx,m103,shr64,hb_div7,hb_div14,u8_wrap,u8m,e1,e2,e3,e4,e5,g1,g2,g3,Run_nil,reach,hw.a,hk.a,gn,Int.toNat_natCast])))
 all_goals first|exact xz|(subst hrhs;rfl)
theorem hd_bf1 (c t:Int) (w k:MV) (hw:Fs w) (hk:Fs k) (h0:0≤c) (h3:c≤3) (ht0:0≤t) (ht:t<2097152) (h1:31≤t) (h2:t<128) (n:Nat) (hn:128≤n) (hn2:n<2^40):Call Q 103 [.agg [.int .i64 c,.int .i64 t,.bool false,w,k],.int .i64 (n:Nat)]=fin R_hd (RunL Q m103k0 m103b0 [.blk 0,.code hd_t1] (hd_s0 [UInt8.ofNat (first c false+31),UInt8.ofNat (t.toNat%128)] n)):=by
 have g1:decide (t<31)=false:=by simp;omega
 have g2:decide (16384≤t)=false:=by simp;omega
 have g3:decide (128≤t)=false:=by simp;omega
 have gn:decide ((n:Int)<128)=false:=by simp;omega
 have e1:UInt8.ofNat (64*c+t).toNat=UInt8.ofNat (first c false+t.toNat):=by congr 1;unfold first;simp only[if_true,Bool.false_eq_true,if_false];omega
 have e2:UInt8.ofNat (64*c+31).toNat=UInt8.ofNat (first c false+31):=by congr 1;unfold first;simp only[if_true,Bool.false_eq_true,if_false];omega
 have e3:UInt8.ofNat (t%128).toNat=UInt8.ofNat (t.toNat%128):=by congr 1;omega
 have e4:UInt8.ofNat (128+t/128%128).toNat=UInt8.ofNat (128+t.toNat/128%128):=by congr 1;omega
 have e5:UInt8.ofNat (128+t/16384).toNat=UInt8.ofNat (128+t.toNat/16384):=by congr 1;omega
 unfold hd_s0
 rw[Call_fn Q (m:=m103) rfl rfl]
 apply hide;intro rhs hrhs
 simp(maxSteps:=4000000) (disch:=first|omega|exact ok_of (by(try simp only[bB.u,seval,cut,hw.a,hk.a]);kernel_rfl)|decide) only[bB.u,seval,cut,m103,shr64,hb_div7,hb_div14,u8_wrap,u8m,e1,e2,e3,e4,e5,g1,g2,g3,Run_nil,reach,hw.a,hk.a,gn,hd_t1,R_hd,Run_loop]
 repeat'((with_reducible first|refine sp ?_ ?_|fail)<;>intro hx<;>(try simp only[bI.u]at hx)<;>(first|exact xz|(try simp(maxSteps:=4000000) (disch:=first|omega|exact ok_of (by(try simp only[bB.u,seval,cut,hw.a,hk.a]);kernel_rfl)|decide) only[bB.u,seval,cut,hx,m103,shr64,hb_div7,hb_div14,u8_wrap,u8m,e1,e2,e3,e4,e5,g1,g2,g3,Run_nil,reach,hw.a,hk.a,gn,hd_t1,R_hd,Run_loop])))
 all_goals first|exact xz|(subst hrhs;exact congrArg (fin R_hd) (RunL_canon (canon_cong (by simp only[bA.u,seval,canon,liveNames,inhOf,keptNames,reach,nub,has,inner,newObjs,keepV,renObj,m103k0,hw.a,hk.a]<;>rfl) (by simp only[bA.u,seval,canon,liveNames,inhOf,keptNames,reach,nub,has,inner,newObjs,keepV,renObj,m103k0,hw.a,hk.a]<;>rfl) (by simp only[bA.u,seval,canon,liveNames,inhOf,keptNames,reach,nub,has,inner,newObjs,keepV,renObj,m103k0,hw.a,hk.a]<;>rfl))))
theorem hd_bt0 (c t:Int) (w k:MV) (hw:Fs w) (hk:Fs k) (h0:0≤c) (h3:c≤3) (ht0:0≤t) (ht:t<2097152) (h1:31≤t) (h2:t<128) (n:Nat) (hn:n<128):Call Q 103 [.agg [.int .i64 c,.int .i64 t,.bool true,w,k],.int .i64 (n:Nat)]=some (.fby ([UInt8.ofNat (first c true+31),UInt8.ofNat (t.toNat%128)]++[UInt8.ofNat n])):=by
 have g1:decide (t<31)=false:=by simp;omega
 have g2:decide (16384≤t)=false:=by simp;omega
 have g3:decide (128≤t)=false:=by simp;omega
 have gn:decide ((n:Int)<128)=true:=by simp;omega
 have e1:UInt8.ofNat (64*c+32+t).toNat=UInt8.ofNat (first c true+t.toNat):=by congr 1;unfold first;simp only[if_true,Bool.false_eq_true,if_false];omega
 have e2:UInt8.ofNat (64*c+32+31).toNat=UInt8.ofNat (first c true+31):=by congr 1;unfold first;simp only[if_true,Bool.false_eq_true,if_false];omega
 have e3:UInt8.ofNat (t%128).toNat=UInt8.ofNat (t.toNat%128):=by congr 1;omega
 have e4:UInt8.ofNat (128+t/128%128).toNat=UInt8.ofNat (128+t.toNat/128%128):=by congr 1;omega
 have e5:UInt8.ofNat (128+t/16384).toNat=UInt8.ofNat (128+t.toNat/16384):=by congr 1;omega
 rw[Call_fn Q (m:=m103) rfl rfl]
 apply hide;intro rhs hrhs
 simp(maxSteps:=4000000) (disch:=first|omega|exact ok_of (by(try simp only[bB.u,seval,cut,hw.a,hk.a]);kernel_rfl)|decide) only[bB.u,seval,cut,m103,shr64,hb_div7,hb_div14,u8_wrap,u8m,e1,e2,e3,e4,e5,g1,g2,g3,Run_nil,reach,hw.a,hk.a,gn,Int.toNat_natCast]
 repeat'((with_reducible first|refine sp ?_ ?_|fail)<;>intro hx<;>(try simp only[bI.u]at hx)<;>(first|exact xz|(try simp(maxSteps:=4000000) (disch:=first|omega|exact ok_of (by(try simp only[bB.u,seval,cut,hw.a,hk.a]);kernel_rfl)|decide) only[bB.u,seval,cut,hx,m103,shr64,hb_div7,hb_div14,u8_wrap,u8m,e1,e2,e3,e4,e5,g1,g2,g3,Run_nil,reach,hw.a,hk.a,gn,Int.toNat_natCast])))
 all_goals first|exact xz|(subst hrhs;rfl)
theorem hd_bt1 (c t:Int) (w k:MV) (hw:Fs w) (hk:Fs k) (h0:0≤c) (h3:c≤3) (ht0:0≤t) (ht:t<2097152) (h1:31≤t) (h2:t<128) (n:Nat) (hn:128≤n) (hn2:n<2^40):Call Q 103 [.agg [.int .i64 c,.int .i64 t,.bool true,w,k],.int .i64 (n:Nat)]=fin R_hd (RunL Q m103k0 m103b0 [.blk 0,.code hd_t1] (hd_s0 [UInt8.ofNat (first c true+31),UInt8.ofNat (t.toNat%128)] n)):=by
 have g1:decide (t<31)=false:=by simp;omega
 have g2:decide (16384≤t)=false:=by simp;omega
 have g3:decide (128≤t)=false:=by simp;omega
 have gn:decide ((n:Int)<128)=false:=by simp;omega
 have e1:UInt8.ofNat (64*c+32+t).toNat=UInt8.ofNat (first c true+t.toNat):=by congr 1;unfold first;simp only[if_true,Bool.false_eq_true,if_false];omega
 have e2:UInt8.ofNat (64*c+32+31).toNat=UInt8.ofNat (first c true+31):=by congr 1;unfold first;simp only[if_true,Bool.false_eq_true,if_false];omega
 have e3:UInt8.ofNat (t%128).toNat=UInt8.ofNat (t.toNat%128):=by congr 1;omega
 have e4:UInt8.ofNat (128+t/128%128).toNat=UInt8.ofNat (128+t.toNat/128%128):=by congr 1;omega
 have e5:UInt8.ofNat (128+t/16384).toNat=UInt8.ofNat (128+t.toNat/16384):=by congr 1;omega
 unfold hd_s0
 rw[Call_fn Q (m:=m103) rfl rfl]
 apply hide;intro rhs hrhs
 simp(maxSteps:=4000000) (disch:=first|omega|exact ok_of (by(try simp only[bB.u,seval,cut,hw.a,hk.a]);kernel_rfl)|decide) only[bB.u,seval,cut,m103,shr64,hb_div7,hb_div14,u8_wrap,u8m,e1,e2,e3,e4,e5,g1,g2,g3,Run_nil,reach,hw.a,hk.a,gn,hd_t1,R_hd,Run_loop]
 repeat'((with_reducible first|refine sp ?_ ?_|fail)<;>intro hx<;>(try simp only[bI.u]at hx)<;>(first|exact xz|(try simp(maxSteps:=4000000) (disch:=first|omega|exact ok_of (by(try simp only[bB.u,seval,cut,hw.a,hk.a]);kernel_rfl)|decide) only[bB.u,seval,cut,hx,m103,shr64,hb_div7,hb_div14,u8_wrap,u8m,e1,e2,e3,e4,e5,g1,g2,g3,Run_nil,reach,hw.a,hk.a,gn,hd_t1,R_hd,Run_loop])))
 all_goals first|exact xz|(subst hrhs;exact congrArg (fin R_hd) (RunL_canon (canon_cong (by simp only[bA.u,seval,canon,liveNames,inhOf,keptNames,reach,nub,has,inner,newObjs,keepV,renObj,m103k0,hw.a,hk.a]<;>rfl) (by simp only[bA.u,seval,canon,liveNames,inhOf,keptNames,reach,nub,has,inner,newObjs,keepV,renObj,m103k0,hw.a,hk.a]<;>rfl) (by simp only[bA.u,seval,canon,liveNames,inhOf,keptNames,reach,nub,has,inner,newObjs,keepV,renObj,m103k0,hw.a,hk.a]<;>rfl))))
theorem hd_cf0 (c t:Int) (w k:MV) (hw:Fs w) (hk:Fs k) (h0:0≤c) (h3:c≤3) (ht0:0≤t) (ht:t<2097152) (h1:128≤t) (h2:t<16384) (n:Nat) (hn:n<128):Call Q 103 [.agg [.int .i64 c,.int .i64 t,.bool false,w,k],.int .i64 (n:Nat)]=some (.fby ([UInt8.ofNat (first c false+31),UInt8.ofNat (128+t.toNat/128%128),UInt8.ofNat (t.toNat%128)]++[UInt8.ofNat n])):=by
 have g1:decide (t<31)=false:=by simp;omega
 have g2:decide (16384≤t)=false:=by simp;omega
 have g3:decide (128≤t)=true:=by simp;omega
 have gn:decide ((n:Int)<128)=true:=by simp;omega
 have e1:UInt8.ofNat (64*c+t).toNat=UInt8.ofNat (first c false+t.toNat):=by congr 1;unfold first;simp only[if_true,Bool.false_eq_true,if_false];omega
 have e2:UInt8.ofNat (64*c+31).toNat=UInt8.ofNat (first c false+31):=by congr 1;unfold first;simp only[if_true,Bool.false_eq_true,if_false];omega
 have e3:UInt8.ofNat (t%128).toNat=UInt8.ofNat (t.toNat%128):=by congr 1;omega
 have e4:UInt8.ofNat (128+t/128%128).toNat=UInt8.ofNat (128+t.toNat/128%128):=by congr 1;omega
 have e5:UInt8.ofNat (128+t/16384).toNat=UInt8.ofNat (128+t.toNat/16384):=by congr 1;omega
 rw[Call_fn Q (m:=m103) rfl rfl]
 apply hide;intro rhs hrhs
 simp(maxSteps:=4000000) (disch:=first|omega|exact ok_of (by(try simp only[bB.u,seval,cut,hw.a,hk.a]);kernel_rfl)|decide) only[bB.u,seval,cut,m103,shr64,hb_div7,hb_div14,u8_wrap,u8m,e1,e2,e3,e4,e5,g1,g2,g3,Run_nil,reach,hw.a,hk.a,gn,Int.toNat_natCast]
 repeat'((with_reducible first|refine sp ?_ ?_|fail)<;>intro hx<;>(try simp only[bI.u]at hx)<;>(first|exact xz|(try simp(maxSteps:=4000000) (disch:=first|omega|exact ok_of (by(try simp only[bB.u,seval,cut,hw.a,hk.a]);kernel_rfl)|decide) only[bB.u,seval,cut,hx,m103,shr64,hb_div7,hb_div14,u8_wrap,u8m,e1,e2,e3,e4,e5,g1,g2,g3,Run_nil,reach,hw.a,hk.a,gn,Int.toNat_natCast])))
 all_goals first|exact xz|(subst hrhs;rfl)
theorem hd_cf1 (c t:Int) (w k:MV) (hw:Fs w) (hk:Fs k) (h0:0≤c) (h3:c≤3) (ht0:0≤t) (ht:t<2097152) (h1:128≤t) (h2:t<16384) (n:Nat) (hn:128≤n) (hn2:n<2^40):Call Q 103 [.agg [.int .i64 c,.int .i64 t,.bool false,w,k],.int .i64 (n:Nat)]=fin R_hd (RunL Q m103k0 m103b0 [.blk 0,.code hd_t1] (hd_s0 [UInt8.ofNat (first c false+31),UInt8.ofNat (128+t.toNat/128%128),UInt8.ofNat (t.toNat%128)] n)):=by
 have g1:decide (t<31)=false:=by simp;omega
 have g2:decide (16384≤t)=false:=by simp;omega
 have g3:decide (128≤t)=true:=by simp;omega
 have gn:decide ((n:Int)<128)=false:=by simp;omega
 have e1:UInt8.ofNat (64*c+t).toNat=UInt8.ofNat (first c false+t.toNat):=by congr 1;unfold first;simp only[if_true,Bool.false_eq_true,if_false];omega
 have e2:UInt8.ofNat (64*c+31).toNat=UInt8.ofNat (first c false+31):=by congr 1;unfold first;simp only[if_true,Bool.false_eq_true,if_false];omega
 have e3:UInt8.ofNat (t%128).toNat=UInt8.ofNat (t.toNat%128):=by congr 1;omega
 have e4:UInt8.ofNat (128+t/128%128).toNat=UInt8.ofNat (128+t.toNat/128%128):=by congr 1;omega
 have e5:UInt8.ofNat (128+t/16384).toNat=UInt8.ofNat (128+t.toNat/16384):=by congr 1;omega
 unfold hd_s0
 rw[Call_fn Q (m:=m103) rfl rfl]
 apply hide;intro rhs hrhs
 simp(maxSteps:=4000000) (disch:=first|omega|exact ok_of (by(try simp only[bB.u,seval,cut,hw.a,hk.a]);kernel_rfl)|decide) only[bB.u,seval,cut,m103,shr64,hb_div7,hb_div14,u8_wrap,u8m,e1,e2,e3,e4,e5,g1,g2,g3,Run_nil,reach,hw.a,hk.a,gn,hd_t1,R_hd,Run_loop]
 repeat'((with_reducible first|refine sp ?_ ?_|fail)<;>intro hx<;>(try simp only[bI.u]at hx)<;>(first|exact xz|(try simp(maxSteps:=4000000) (disch:=first|omega|exact ok_of (by(try simp only[bB.u,seval,cut,hw.a,hk.a]);kernel_rfl)|decide) only[bB.u,seval,cut,hx,m103,shr64,hb_div7,hb_div14,u8_wrap,u8m,e1,e2,e3,e4,e5,g1,g2,g3,Run_nil,reach,hw.a,hk.a,gn,hd_t1,R_hd,Run_loop])))
 all_goals first|exact xz|(subst hrhs;exact congrArg (fin R_hd) (RunL_canon (canon_cong (by simp only[bA.u,seval,canon,liveNames,inhOf,keptNames,reach,nub,has,inner,newObjs,keepV,renObj,m103k0,hw.a,hk.a]<;>rfl) (by simp only[bA.u,seval,canon,liveNames,inhOf,keptNames,reach,nub,has,inner,newObjs,keepV,renObj,m103k0,hw.a,hk.a]<;>rfl) (by simp only[bA.u,seval,canon,liveNames,inhOf,keptNames,reach,nub,has,inner,newObjs,keepV,renObj,m103k0,hw.a,hk.a]<;>rfl))))
theorem hd_ct0 (c t:Int) (w k:MV) (hw:Fs w) (hk:Fs k) (h0:0≤c) (h3:c≤3) (ht0:0≤t) (ht:t<2097152) (h1:128≤t) (h2:t<16384) (n:Nat) (hn:n<128):Call Q 103 [.agg [.int .i64 c,.int .i64 t,.bool true,w,k],.int .i64 (n:Nat)]=some (.fby ([UInt8.ofNat (first c true+31),UInt8.ofNat (128+t.toNat/128%128),UInt8.ofNat (t.toNat%128)]++[UInt8.ofNat n])):=by
 have g1:decide (t<31)=false:=by simp;omega
 have g2:decide (16384≤t)=false:=by simp;omega
 have g3:decide (128≤t)=true:=by simp;omega
 have gn:decide ((n:Int)<128)=true:=by simp;omega
 have e1:UInt8.ofNat (64*c+32+t).toNat=UInt8.ofNat (first c true+t.toNat):=by congr 1;unfold first;simp only[if_true,Bool.false_eq_true,if_false];omega
 have e2:UInt8.ofNat (64*c+32+31).toNat=UInt8.ofNat (first c true+31):=by congr 1;unfold first;simp only[if_true,Bool.false_eq_true,if_false];omega
 have e3:UInt8.ofNat (t%128).toNat=UInt8.ofNat (t.toNat%128):=by congr 1;omega
 have e4:UInt8.ofNat (128+t/128%128).toNat=UInt8.ofNat (128+t.toNat/128%128):=by congr 1;omega
 have e5:UInt8.ofNat (128+t/16384).toNat=UInt8.ofNat (128+t.toNat/16384):=by congr 1;omega
 rw[Call_fn Q (m:=m103) rfl rfl]
 apply hide;intro rhs hrhs
 simp(maxSteps:=4000000) (disch:=first|omega|exact ok_of (by(try simp only[bB.u,seval,cut,hw.a,hk.a]);kernel_rfl)|decide) only[bB.u,seval,cut,m103,shr64,hb_div7,hb_div14,u8_wrap,u8m,e1,e2,e3,e4,e5,g1,g2,g3,Run_nil,reach,hw.a,hk.a,gn,Int.toNat_natCast]
 repeat'((with_reducible first|refine sp ?_ ?_|fail)<;>intro hx<;>(try simp only[bI.u]at hx)<;>(first|exact xz|(try simp(maxSteps:=4000000) (disch:=first|omega|exact ok_of (by(try simp only[bB.u,seval,cut,hw.a,hk.a]);kernel_rfl)|decide) only[bB.u,seval,cut,hx,m103,shr64,hb_div7,hb_div14,u8_wrap,u8m,e1,e2,e3,e4,e5,g1,g2,g3,Run_nil,reach,hw.a,hk.a,gn,Int.toNat_natCast])))
 all_goals first|exact xz|(subst hrhs;rfl)
theorem hd_ct1 (c t:Int) (w k:MV) (hw:Fs w) (hk:Fs k) (h0:0≤c) (h3:c≤3) (ht0:0≤t) (ht:t<2097152) (h1:128≤t) (h2:t<16384) (n:Nat) (hn:128≤n) (hn2:n<2^40):Call Q 103 [.agg [.int .i64 c,.int .i64 t,.bool true,w,k],.int .i64 (n:Nat)]=fin R_hd (RunL Q m103k0 m103b0 [.blk 0,.code hd_t1] (hd_s0 [UInt8.ofNat (first c true+31),UInt8.ofNat (128+t.toNat/128%128),UInt8.ofNat (t.toNat%128)] n)):=by
 have g1:decide (t<31)=false:=by simp;omega
 have g2:decide (16384≤t)=false:=by simp;omega
 have g3:decide (128≤t)=true:=by simp;omega
 have gn:decide ((n:Int)<128)=false:=by simp;omega
 have e1:UInt8.ofNat (64*c+32+t).toNat=UInt8.ofNat (first c true+t.toNat):=by congr 1;unfold first;simp only[if_true,Bool.false_eq_true,if_false];omega
 have e2:UInt8.ofNat (64*c+32+31).toNat=UInt8.ofNat (first c true+31):=by congr 1;unfold first;simp only[if_true,Bool.false_eq_true,if_false];omega
 have e3:UInt8.ofNat (t%128).toNat=UInt8.ofNat (t.toNat%128):=by congr 1;omega
 have e4:UInt8.ofNat (128+t/128%128).toNat=UInt8.ofNat (128+t.toNat/128%128):=by congr 1;omega
 have e5:UInt8.ofNat (128+t/16384).toNat=UInt8.ofNat (128+t.toNat/16384):=by congr 1;omega
 unfold hd_s0
 rw[Call_fn Q (m:=m103) rfl rfl]
 apply hide;intro rhs hrhs
 simp(maxSteps:=4000000) (disch:=first|omega|exact ok_of (by(try simp only[bB.u,seval,cut,hw.a,hk.a]);kernel_rfl)|decide) only[bB.u,seval,cut,m103,shr64,hb_div7,hb_div14,u8_wrap,u8m,e1,e2,e3,e4,e5,g1,g2,g3,Run_nil,reach,hw.a,hk.a,gn,hd_t1,R_hd,Run_loop]
 repeat'((with_reducible first|refine sp ?_ ?_|fail)<;>intro hx<;>(try simp only[bI.u]at hx)<;>(first|exact xz|(try simp(maxSteps:=4000000) (disch:=first|omega|exact ok_of (by(try simp only[bB.u,seval,cut,hw.a,hk.a]);kernel_rfl)|decide) only[bB.u,seval,cut,hx,m103,shr64,hb_div7,hb_div14,u8_wrap,u8m,e1,e2,e3,e4,e5,g1,g2,g3,Run_nil,reach,hw.a,hk.a,gn,hd_t1,R_hd,Run_loop])))
 all_goals first|exact xz|(subst hrhs;exact congrArg (fin R_hd) (RunL_canon (canon_cong (by simp only[bA.u,seval,canon,liveNames,inhOf,keptNames,reach,nub,has,inner,newObjs,keepV,renObj,m103k0,hw.a,hk.a]<;>rfl) (by simp only[bA.u,seval,canon,liveNames,inhOf,keptNames,reach,nub,has,inner,newObjs,keepV,renObj,m103k0,hw.a,hk.a]<;>rfl) (by simp only[bA.u,seval,canon,liveNames,inhOf,keptNames,reach,nub,has,inner,newObjs,keepV,renObj,m103k0,hw.a,hk.a]<;>rfl))))
theorem hd_df0 (c t:Int) (w k:MV) (hw:Fs w) (hk:Fs k) (h0:0≤c) (h3:c≤3) (ht0:0≤t) (ht:t<2097152) (h1:16384≤t) (n:Nat) (hn:n<128):Call Q 103 [.agg [.int .i64 c,.int .i64 t,.bool false,w,k],.int .i64 (n:Nat)]=some (.fby ([UInt8.ofNat (first c false+31),UInt8.ofNat (128+t.toNat/16384),UInt8.ofNat (128+t.toNat/128%128),UInt8.ofNat (t.toNat%128)]++[UInt8.ofNat n])):=by
 have g1:decide (t<31)=false:=by simp;omega
 have g2:decide (16384≤t)=true:=by simp;omega
 have g3:decide (128≤t)=true:=by simp;omega
 have gn:decide ((n:Int)<128)=true:=by simp;omega
 have e1:UInt8.ofNat (64*c+t).toNat=UInt8.ofNat (first c false+t.toNat):=by congr 1;unfold first;simp only[if_true,Bool.false_eq_true,if_false];omega
 have e2:UInt8.ofNat (64*c+31).toNat=UInt8.ofNat (first c false+31):=by congr 1;unfold first;simp only[if_true,Bool.false_eq_true,if_false];omega
 have e3:UInt8.ofNat (t%128).toNat=UInt8.ofNat (t.toNat%128):=by congr 1;omega
 have e4:UInt8.ofNat (128+t/128%128).toNat=UInt8.ofNat (128+t.toNat/128%128):=by congr 1;omega
 have e5:UInt8.ofNat (128+t/16384).toNat=UInt8.ofNat (128+t.toNat/16384):=by congr 1;omega
 rw[Call_fn Q (m:=m103) rfl rfl]
 apply hide;intro rhs hrhs
 simp(maxSteps:=4000000) (disch:=first|omega|exact ok_of (by(try simp only[bB.u,seval,cut,hw.a,hk.a]);kernel_rfl)|decide) only[bB.u,seval,cut,m103,shr64,hb_div7,hb_div14,u8_wrap,u8m,e1,e2,e3,e4,e5,g1,g2,g3,Run_nil,reach,hw.a,hk.a,gn,Int.toNat_natCast]
 repeat'((with_reducible first|refine sp ?_ ?_|fail)<;>intro hx<;>(try simp only[bI.u]at hx)<;>(first|exact xz|(try simp(maxSteps:=4000000) (disch:=first|omega|exact ok_of (by(try simp only[bB.u,seval,cut,hw.a,hk.a]);kernel_rfl)|decide) only[bB.u,seval,cut,hx,m103,shr64,hb_div7,hb_div14,u8_wrap,u8m,e1,e2,e3,e4,e5,g1,g2,g3,Run_nil,reach,hw.a,hk.a,gn,Int.toNat_natCast])))
 all_goals first|exact xz|(subst hrhs;rfl)
theorem hd_df1 (c t:Int) (w k:MV) (hw:Fs w) (hk:Fs k) (h0:0≤c) (h3:c≤3) (ht0:0≤t) (ht:t<2097152) (h1:16384≤t) (n:Nat) (hn:128≤n) (hn2:n<2^40):Call Q 103 [.agg [.int .i64 c,.int .i64 t,.bool false,w,k],.int .i64 (n:Nat)]=fin R_hd (RunL Q m103k0 m103b0 [.blk 0,.code hd_t1] (hd_s0 [UInt8.ofNat (first c false+31),UInt8.ofNat (128+t.toNat/16384),UInt8.ofNat (128+t.toNat/128%128),UInt8.ofNat (t.toNat%128)] n)):=by
 have g1:decide (t<31)=false:=by simp;omega
 have g2:decide (16384≤t)=true:=by simp;omega
 have g3:decide (128≤t)=true:=by simp;omega
 have gn:decide ((n:Int)<128)=false:=by simp;omega
 have e1:UInt8.ofNat (64*c+t).toNat=UInt8.ofNat (first c false+t.toNat):=by congr 1;unfold first;simp only[if_true,Bool.false_eq_true,if_false];omega
 have e2:UInt8.ofNat (64*c+31).toNat=UInt8.ofNat (first c false+31):=by congr 1;unfold first;simp only[if_true,Bool.false_eq_true,if_false];omega
 have e3:UInt8.ofNat (t%128).toNat=UInt8.ofNat (t.toNat%128):=by congr 1;omega
 have e4:UInt8.ofNat (128+t/128%128).toNat=UInt8.ofNat (128+t.toNat/128%128):=by congr 1;omega
 have e5:UInt8.ofNat (128+t/16384).toNat=UInt8.ofNat (128+t.toNat/16384):=by congr 1;omega
 unfold hd_s0
 rw[Call_fn Q (m:=m103) rfl rfl]
 apply hide;intro rhs hrhs
 simp(maxSteps:=4000000) (disch:=first|omega|exact ok_of (by(try simp only[bB.u,seval,cut,hw.a,hk.a]);kernel_rfl)|decide) only[bB.u,seval,cut,m103,shr64,hb_div7,hb_div14,u8_wrap,u8m,e1,e2,e3,e4,e5,g1,g2,g3,Run_nil,reach,hw.a,hk.a,gn,hd_t1,R_hd,Run_loop]
 repeat'((with_reducible first|refine sp ?_ ?_|fail)<;>intro hx<;>(try simp only[bI.u]at hx)<;>(first|exact xz|(try simp(maxSteps:=4000000) (disch:=first|omega|exact ok_of (by(try simp only[bB.u,seval,cut,hw.a,hk.a]);kernel_rfl)|decide) only[bB.u,seval,cut,hx,m103,shr64,hb_div7,hb_div14,u8_wrap,u8m,e1,e2,e3,e4,e5,g1,g2,g3,Run_nil,reach,hw.a,hk.a,gn,hd_t1,R_hd,Run_loop])))
 all_goals first|exact xz|(subst hrhs;exact congrArg (fin R_hd) (RunL_canon (canon_cong (by simp only[bA.u,seval,canon,liveNames,inhOf,keptNames,reach,nub,has,inner,newObjs,keepV,renObj,m103k0,hw.a,hk.a]<;>rfl) (by simp only[bA.u,seval,canon,liveNames,inhOf,keptNames,reach,nub,has,inner,newObjs,keepV,renObj,m103k0,hw.a,hk.a]<;>rfl) (by simp only[bA.u,seval,canon,liveNames,inhOf,keptNames,reach,nub,has,inner,newObjs,keepV,renObj,m103k0,hw.a,hk.a]<;>rfl))))
theorem hd_dt0 (c t:Int) (w k:MV) (hw:Fs w) (hk:Fs k) (h0:0≤c) (h3:c≤3) (ht0:0≤t) (ht:t<2097152) (h1:16384≤t) (n:Nat) (hn:n<128):Call Q 103 [.agg [.int .i64 c,.int .i64 t,.bool true,w,k],.int .i64 (n:Nat)]=some (.fby ([UInt8.ofNat (first c true+31),UInt8.ofNat (128+t.toNat/16384),UInt8.ofNat (128+t.toNat/128%128),UInt8.ofNat (t.toNat%128)]++[UInt8.ofNat n])):=by
 have g1:decide (t<31)=false:=by simp;omega
 have g2:decide (16384≤t)=true:=by simp;omega
 have g3:decide (128≤t)=true:=by simp;omega
 have gn:decide ((n:Int)<128)=true:=by simp;omega
 have e1:UInt8.ofNat (64*c+32+t).toNat=UInt8.ofNat (first c true+t.toNat):=by congr 1;unfold first;simp only[if_true,Bool.false_eq_true,if_false];omega
 have e2:UInt8.ofNat (64*c+32+31).toNat=UInt8.ofNat (first c true+31):=by congr 1;unfold first;simp only[if_true,Bool.false_eq_true,if_false];omega
 have e3:UInt8.ofNat (t%128).toNat=UInt8.ofNat (t.toNat%128):=by congr 1;omega
 have e4:UInt8.ofNat (128+t/128%128).toNat=UInt8.ofNat (128+t.toNat/128%128):=by congr 1;omega
 have e5:UInt8.ofNat (128+t/16384).toNat=UInt8.ofNat (128+t.toNat/16384):=by congr 1;omega
 rw[Call_fn Q (m:=m103) rfl rfl]
 apply hide;intro rhs hrhs
 simp(maxSteps:=4000000) (disch:=first|omega|exact ok_of (by(try simp only[bB.u,seval,cut,hw.a,hk.a]);kernel_rfl)|decide) only[bB.u,seval,cut,m103,shr64,hb_div7,hb_div14,u8_wrap,u8m,e1,e2,e3,e4,e5,g1,g2,g3,Run_nil,reach,hw.a,hk.a,gn,Int.toNat_natCast]
 repeat'((with_reducible first|refine sp ?_ ?_|fail)<;>intro hx<;>(try simp only[bI.u]at hx)<;>(first|exact xz|(try simp(maxSteps:=4000000) (disch:=first|omega|exact ok_of (by(try simp only[bB.u,seval,cut,hw.a,hk.a]);kernel_rfl)|decide) only[bB.u,seval,cut,hx,m103,shr64,hb_div7,hb_div14,u8_wrap,u8m,e1,e2,e3,e4,e5,g1,g2,g3,Run_nil,reach,hw.a,hk.a,gn,Int.toNat_natCast])))
 all_goals first|exact xz|(subst hrhs;rfl)
theorem hd_dt1 (c t:Int) (w k:MV) (hw:Fs w) (hk:Fs k) (h0:0≤c) (h3:c≤3) (ht0:0≤t) (ht:t<2097152) (h1:16384≤t) (n:Nat) (hn:128≤n) (hn2:n<2^40):Call Q 103 [.agg [.int .i64 c,.int .i64 t,.bool true,w,k],.int .i64 (n:Nat)]=fin R_hd (RunL Q m103k0 m103b0 [.blk 0,.code hd_t1] (hd_s0 [UInt8.ofNat (first c true+31),UInt8.ofNat (128+t.toNat/16384),UInt8.ofNat (128+t.toNat/128%128),UInt8.ofNat (t.toNat%128)] n)):=by
 have g1:decide (t<31)=false:=by simp;omega
 have g2:decide (16384≤t)=true:=by simp;omega
 have g3:decide (128≤t)=true:=by simp;omega
 have gn:decide ((n:Int)<128)=false:=by simp;omega
 have e1:UInt8.ofNat (64*c+32+t).toNat=UInt8.ofNat (first c true+t.toNat):=by congr 1;unfold first;simp only[if_true,Bool.false_eq_true,if_false];omega
 have e2:UInt8.ofNat (64*c+32+31).toNat=UInt8.ofNat (first c true+31):=by congr 1;unfold first;simp only[if_true,Bool.false_eq_true,if_false];omega
 have e3:UInt8.ofNat (t%128).toNat=UInt8.ofNat (t.toNat%128):=by congr 1;omega
 have e4:UInt8.ofNat (128+t/128%128).toNat=UInt8.ofNat (128+t.toNat/128%128):=by congr 1;omega
 have e5:UInt8.ofNat (128+t/16384).toNat=UInt8.ofNat (128+t.toNat/16384):=by congr 1;omega
 unfold hd_s0
 rw[Call_fn Q (m:=m103) rfl rfl]
 apply hide;intro rhs hrhs
 simp(maxSteps:=4000000) (disch:=first|omega|exact ok_of (by(try simp only[bB.u,seval,cut,hw.a,hk.a]);kernel_rfl)|decide) only[bB.u,seval,cut,m103,shr64,hb_div7,hb_div14,u8_wrap,u8m,e1,e2,e3,e4,e5,g1,g2,g3,Run_nil,reach,hw.a,hk.a,gn,hd_t1,R_hd,Run_loop]
 repeat'((with_reducible first|refine sp ?_ ?_|fail)<;>intro hx<;>(try simp only[bI.u]at hx)<;>(first|exact xz|(try simp(maxSteps:=4000000) (disch:=first|omega|exact ok_of (by(try simp only[bB.u,seval,cut,hw.a,hk.a]);kernel_rfl)|decide) only[bB.u,seval,cut,hx,m103,shr64,hb_div7,hb_div14,u8_wrap,u8m,e1,e2,e3,e4,e5,g1,g2,g3,Run_nil,reach,hw.a,hk.a,gn,hd_t1,R_hd,Run_loop])))
 all_goals first|exact xz|(subst hrhs;exact congrArg (fin R_hd) (RunL_canon (canon_cong (by simp only[bA.u,seval,canon,liveNames,inhOf,keptNames,reach,nub,has,inner,newObjs,keepV,renObj,m103k0,hw.a,hk.a]<;>rfl) (by simp only[bA.u,seval,canon,liveNames,inhOf,keptNames,reach,nub,has,inner,newObjs,keepV,renObj,m103k0,hw.a,hk.a]<;>rfl) (by simp only[bA.u,seval,canon,liveNames,inhOf,keptNames,reach,nub,has,inner,newObjs,keepV,renObj,m103k0,hw.a,hk.a]<;>rfl))))
theorem hd_len (out:List UInt8) (ho:out.length≤4) (n:Nat) (h:128≤n) (hn:n<16777216):fin R_hd (RunL Q m103k0 m103b0 [.blk 0,.code hd_t1] (hd_s0 out n))=some (.fby (out++lenB n)):=by
 rw[hd_a0 _ out (by omega) n (by omega) (by omega)]
 unfold lenB
 rw[if_neg (by omega)]
 by_cases h1:n<256
 ·rw[if_pos h1,show n/256=0 by omega,hd_c out _ (by omega) (by simp) (by simp)]
  rw[show((([UInt8.ofNat n]:List UInt8).length:Int)-1)=((0:Nat):Int)from rfl,hd_b1 _ _ (by simp;omega) (by simp) (by simp) 0 (UInt8.ofNat n) rfl]
  rw[show((0:Nat):Int)-1= -1 from rfl,hd_b0 _ _ (by simp;omega)]
  simp
 rw[if_neg h1,hd_a1 _ out _ (by omega) (by simp) (n/256) (by omega) (by omega)]
 by_cases h2:n<65536
 ·rw[if_pos h2,show n/256/256=0 by omega,hd_c out _ (by omega) (by simp) (by simp)]
  rw[show((([UInt8.ofNat n]++[UInt8.ofNat (n/256)]:List UInt8).length:Int)-1)=((1:Nat):Int)from rfl,hd_b1 _ _ (by simp;omega) (by simp) (by simp) 1 (UInt8.ofNat (n/256)) rfl]
  rw[show((1:Nat):Int)-1=((0:Nat):Int)from rfl,hd_b1 _ _ (by simp;omega) (by simp) (by simp) 0 (UInt8.ofNat n) rfl]
  rw[show((0:Nat):Int)-1= -1 from rfl,hd_b0 _ _ (by simp;omega)]
  simp
 rw[if_neg h2,hd_a1 _ out _ (by omega) (by simp) (n/256/256) (by omega) (by omega),show n/256/256/256=0 by omega,hd_c out _ (by omega) (by simp) (by simp)]
 rw[show((([UInt8.ofNat n]++[UInt8.ofNat (n/256)]++[UInt8.ofNat (n/256/256)]:List UInt8).length:Int)-1)=((2:Nat):Int)from rfl,hd_b1 _ _ (by simp;omega) (by simp) (by simp) 2 (UInt8.ofNat (n/256/256)) rfl]
 rw[show((2:Nat):Int)-1=((1:Nat):Int)from rfl,hd_b1 _ _ (by simp;omega) (by simp) (by simp) 1 (UInt8.ofNat (n/256)) rfl]
 rw[show((1:Nat):Int)-1=((0:Nat):Int)from rfl,hd_b1 _ _ (by simp;omega) (by simp) (by simp) 0 (UInt8.ofNat n) rfl]
 rw[show((0:Nat):Int)-1= -1 from rfl,hd_b0 _ _ (by simp;omega)]
 rw[show n/65536=n/256/256 by omega]
 simp
theorem c_headR (c t:Int) (m:Bool) (w k:MV) (hw:Fs w) (hk:Fs k) (h0:0≤c) (h3:c≤3) (ht0:0≤t) (ht:t<2097152) (n:Nat) (hn:n<16777216):Call Q 103 [.agg [.int .i64 c,.int .i64 t,.bool m,w,k],.int .i64 (n:Nat)]=some (.fby (tagB c t m++lenB n)):=by
 by_cases hn1:n<128
 ·rw[show lenB n=[UInt8.ofNat n] by unfold lenB;rw[if_pos hn1]]
  unfold tagB
  by_cases k1:t<31
  ·rw[if_pos k1]
   cases m
   ·exact hd_af0 c t w k hw hk h0 h3 ht0 ht k1 n hn1
   ·exact hd_at0 c t w k hw hk h0 h3 ht0 ht k1 n hn1
  rw[if_neg k1]
  by_cases k2:t<128
  ·rw[if_neg (c:=16384≤t) (by omega),if_neg (c:=128≤t) (by omega)]
   cases m
   ·exact hd_bf0 c t w k hw hk h0 h3 ht0 ht (by omega) k2 n hn1
   ·exact hd_bt0 c t w k hw hk h0 h3 ht0 ht (by omega) k2 n hn1
  by_cases k3:t<16384
  ·rw[if_neg (c:=16384≤t) (by omega),if_pos (c:=128≤t) (by omega)]
   cases m
   ·exact hd_cf0 c t w k hw hk h0 h3 ht0 ht (by omega) k3 n hn1
   ·exact hd_ct0 c t w k hw hk h0 h3 ht0 ht (by omega) k3 n hn1
  ·rw[if_pos (c:=16384≤t) (by omega),if_pos (c:=128≤t) (by omega)]
   cases m
   ·exact hd_df0 c t w k hw hk h0 h3 ht0 ht (by omega) n hn1
   ·exact hd_dt0 c t w k hw hk h0 h3 ht0 ht (by omega) n hn1
 ·have hL:=tagB_len c t m
  rw[←hd_len (tagB c t m) hL n (by omega) hn]
  unfold tagB
  by_cases k1:t<31
  ·rw[if_pos k1]
   cases m
   ·exact hd_af1 c t w k hw hk h0 h3 ht0 ht k1 n (by omega) (by omega)
   ·exact hd_at1 c t w k hw hk h0 h3 ht0 ht k1 n (by omega) (by omega)
  rw[if_neg k1]
  by_cases k2:t<128
  ·rw[if_neg (c:=16384≤t) (by omega),if_neg (c:=128≤t) (by omega)]
   cases m
   ·exact hd_bf1 c t w k hw hk h0 h3 ht0 ht (by omega) k2 n (by omega) (by omega)
   ·exact hd_bt1 c t w k hw hk h0 h3 ht0 ht (by omega) k2 n (by omega) (by omega)
  by_cases k3:t<16384
  ·rw[if_neg (c:=16384≤t) (by omega),if_pos (c:=128≤t) (by omega)]
   cases m
   ·exact hd_cf1 c t w k hw hk h0 h3 ht0 ht (by omega) k3 n (by omega) (by omega)
   ·exact hd_ct1 c t w k hw hk h0 h3 ht0 ht (by omega) k3 n (by omega) (by omega)
  ·rw[if_pos (c:=16384≤t) (by omega),if_pos (c:=128≤t) (by omega)]
   cases m
   ·exact hd_df1 c t w k hw hk h0 h3 ht0 ht (by omega) n (by omega) (by omega)
   ·exact hd_dt1 c t w k hw hk h0 h3 ht0 ht (by omega) n (by omega) (by omega)
end Go.Mini
namespace Go.Mini
open Go Go.Proofs.YtmhgldplcpklcaaGreatDoor
set_option maxRecDepth 100000
set_option maxHeartbeats 8000000
theorem cmpL_anti:∀a b:List UInt8,(cmpL a b<0)=(0<cmpL b a)
 | [],[]=>by simp[cmpL]
 | [],_::_=>by simp[cmpL]
 |_::_,[]=>by simp[cmpL]
 |x::a,y::b=>by
  rw[cmpL,cmpL]
  by_cases h1:x<y
  ·rw[if_pos h1,if_neg (by rw[UInt8.lt_iff_toNat_lt]at *;omega),if_pos h1];decide
  ·rw[if_neg h1]
   by_cases h2:y<x
   ·rw[if_pos h2,if_pos h2];decide
   ·rw[if_neg h2,if_neg h2,if_neg h1];exact cmpL_anti a b
abbrev WS:=List UInt8 × Option (List UInt8) × Bool
def fallB (last:Option (List UInt8)) (f:Bool) (q:List UInt8):Bool:=f||match last with|none=>false|some p=>decide (cmpL q p<0)
def gWR (d:Nat) (s:WS) (k:T):WS ⊕ Int:=if(wr d k).1≠0 then .inr (wr d k).1 else .inl (s.1++(wr d k).2,some (wr d k).2,fallB s.2.1 s.2.2 (wr d k).2)
def allF (last:Option (List UInt8)) (f:Bool):List (List UInt8)→Option (List UInt8) × Bool
 | []=>(last,f)
 |q::r=>allF (some q) (fallB last f q) r
theorem wrs_foldR (d:Nat):∀(ts:List T) (s:WS),foldE (gWR d) s ts=if(wrs d ts).1≠0 then .inr (wrs d ts).1 else .inl (s.1++(wrs d ts).2.flatten,allF s.2.1 s.2.2 (wrs d ts).2)
 | [],s=>by simp[foldE,wrs,allF]
 |k::r,s=>by
  rw[foldE_cons,wrs]
  by_cases h:(wr d k).1=0
  ·rw[show gWR d s k= .inl (s.1++(wr d k).2,some (wr d k).2,fallB s.2.1 s.2.2 (wr d k).2) by unfold gWR;rw[if_neg (by simp[h])]]
   simp only
   rw[wrs_foldR d r]
   by_cases h2:(wrs d r).1=0<;>simp[h,h2,allF]
  ·rw[show gWR d s k= .inr (wr d k).1 by unfold gWR;rw[if_pos h]]
   simp[h]
theorem allF_some:∀(r:List (List UInt8)) (p:List UInt8) (f:Bool),(allF (some p) f r).2=(f||match foldE gSo p r with| .inl _=>false| .inr _=>true)
 | [],p,f=>by simp[allF,foldE]
 |q::r,p,f=>by
  rw[allF,allF_some r q,foldE_cons]
  unfold fallB gSo
  simp only[cmpL_anti q p]
  by_cases h:0<cmpL p q
  ·rw[if_pos h];simp[h]
  ·rw[if_neg h];simp[h]
theorem allF_sorted (ps:List (List UInt8)):(allF none false ps).2= !sortedB ps:=by
 cases ps with
 |nil=>rfl
 |cons p r=>
  rw[allF,show fallB none false p=false from rfl,allF_some,sortedB]
  cases foldE gSo p r<;>rfl
def R_wr:List (Nat × Option (Bool × Nat) × PK):=[(4,none,.byt),(5,none,.other)]
def wr_tail:MCode:=(.seq (sq [qa 101 9,qf 102 101,qR 103 0 2 102,qP 104 103 102,qV 105 .eql 104 0 102,qp 106 102 105,qf 107 106,qR 108 1 2 107,qP 109 108 107,qV 110 .eql 109 17 107,qr 111 107 110] (.cond (.v 111) (sq [qn 4,qe 5 25] .ret) .skip)) (sq [qi 112 5 2,qa 113 7,qj 114 113,oT 115 (.call 103 [.t 112,.t 114]),qb 13 115] (sq [qa 116 13,qa 117 7,oT 118 (.app true 1 1 (.t 116) (.t 117)),qb 4 118,qe 5 0] .ret)))
def lastV:Option (List UInt8)→MV
 |none=>.nilsl
 |some p=>.bs p
def wr_st (cs:List MV) (d:Nat) (body:List UInt8) (last:MV) (f:Bool) (i:Nat):DS:=⟨[(1,.int .i64 (d:Nat)),(2,.ptr 0 0),(7,.own 1 body.length),(8,last),(9,.bool f),(10,.int .i64 (i:Nat))],[],[(0,.cells cs),(1,.byt body false)],3⟩
theorem ws_err (K:List Item) (c t:Int) (m:Bool) (w:MV) (hw:Fs w) (l:List MV) (hl:l.length≤2^20) (d:Nat) (hd:d≤16) (i:Nat) (c1 t1:Int) (m1:Bool) (w1 k1:MV) (h1:Fs w1) (h2:Fs k1) (hg:l[i]? = some (.agg [.int .i64 c1,.int .i64 t1,.bool m1,w1,k1])) (body:List UInt8) (hbl:body.length≤2^40) (out:List UInt8) (e:Int) (he:e≠0) (hc:Call Q 77 [.agg [.int .i64 c1,.int .i64 t1,.bool m1,w1,k1],.int .i64 ((d:Int)+1)]=some (.tup [.bs out,.int .i64 e])) (la:MV) (hla:Fs la) (f:Bool):fin R_wr (RunL Q m77k0 m77b0 K (wr_st [.int .i64 c,.int .i64 t,.bool m,w,.sl 5 l] d body la f i))=some (.tup [.bs [],.int .i64 e]):=by
 obtain⟨hi,hxx⟩:=List.getElem?_eq_some_iff.1 hg
 have hlt:decide ((i:Int)<(l.length:Int))=true:=by simp;omega
 have i1:(i:Int)<(l.length:Int):=by omega
 have hdw:IntKind.i64.wrap ((d:Int)+1)=(d:Int)+1:=w64 (by omega) (by omega)
 have e9:((i+1:Nat):Int)=(i:Int)+1:=rfl
 have he0:(e != 0)=true:=by simpa using he
 have he1:(e==0)=false:=by simpa using he
 unfold wr_st
 obtain⟨b',hb'⟩:∃b',b'=m77b0:=⟨_,rfl⟩
 rw[RunL_eq,show Item.lp m77k0 m77b0=Item.lp m77k0 b' by rw[hb']]
 apply hide;intro rhs hrhs
 simp(maxSteps:=4000000) (disch:=first|omega|exact ok_of (by(try simp only[bB.u,seval,cut,hw.a,h1.a,h2.a]);kernel_rfl)|decide) only[bB.u,seval,cut,m77b0,R_wr,hlt,i1,hg,hdw,hc,Run_nil,reach,he0,he1,hla.a,hw.a,h1.a,h2.a]
 repeat'((with_reducible first|refine sp ?_ ?_|fail)<;>intro hx<;>(try simp only[bI.u]at hx)<;>(first|exact xz|(try simp(maxSteps:=4000000) (disch:=first|omega|exact ok_of (by(try simp only[bB.u,seval,cut,hw.a,h1.a,h2.a]);kernel_rfl)|decide) only[bB.u,seval,cut,hx,m77b0,R_wr,hlt,i1,hg,hdw,hc,Run_nil,reach,he0,he1,hla.a,hw.a,h1.a,h2.a])))
 all_goals first|exact xz|(subst hrhs;rfl)
theorem ws_ok0 (K:List Item) (c t:Int) (m:Bool) (w:MV) (hw:Fs w) (l:List MV) (hl:l.length≤2^20) (d:Nat) (hd:d≤16) (i:Nat) (c1 t1:Int) (m1:Bool) (w1 k1:MV) (h1:Fs w1) (h2:Fs k1) (hg:l[i]? = some (.agg [.int .i64 c1,.int .i64 t1,.bool m1,w1,k1])) (body:List UInt8) (hbl:body.length≤2^40) (out:List UInt8) (hol:out.length≤2^20) (hi0:i=0) (hc:Call Q 77 [.agg [.int .i64 c1,.int .i64 t1,.bool m1,w1,k1],.int .i64 ((d:Int)+1)]=some (.tup [.bs out,.int .i64 0])):fin R_wr (RunL Q m77k0 m77b0 K (wr_st [.int .i64 c,.int .i64 t,.bool m,w,.sl 5 l] d body .nilsl false i))=fin R_wr (RunL Q m77k0 m77b0 K (wr_st [.int .i64 c,.int .i64 t,.bool m,w,.sl 5 l] d (body++out) (.bs out) false (i+1))):=by
 obtain⟨hi,hxx⟩:=List.getElem?_eq_some_iff.1 hg
 have hlt:decide ((i:Int)<(l.length:Int))=true:=by simp;omega
 have i1:(i:Int)<(l.length:Int):=by omega
 have hdw:IntKind.i64.wrap ((d:Int)+1)=(d:Int)+1:=w64 (by omega) (by omega)
 have e9:((i+1:Nat):Int)=(i:Int)+1:=rfl
 have hz:decide (0<(i:Int))=false:=by simp;omega
 unfold wr_st
 rw[e9,List.length_append]
 obtain⟨b',hb'⟩:∃b',b'=m77b0:=⟨_,rfl⟩
 rw[RunL_eq,show Item.lp m77k0 m77b0=Item.lp m77k0 b' by rw[hb']]
 apply hide;intro rhs hrhs
 simp(maxSteps:=4000000) (disch:=first|omega|exact ok_of (by(try simp only[bB.u,seval,cut,hw.a,h1.a,h2.a]);kernel_rfl)|decide) only[bB.u,seval,cut,m77b0,R_wr,hz,hlt,i1,hg,hdw,hc,Run_nil,reach,hw.a,h1.a,h2.a]
 repeat'((with_reducible first|refine sp ?_ ?_|fail)<;>intro hx<;>(try simp only[bI.u]at hx)<;>(first|exact xz|(try simp(maxSteps:=4000000) (disch:=first|omega|exact ok_of (by(try simp only[bB.u,seval,cut,hw.a,h1.a,h2.a]);kernel_rfl)|decide) only[bB.u,seval,cut,hx,m77b0,R_wr,hz,hlt,i1,hg,hdw,hc,Run_nil,reach,hw.a,h1.a,h2.a])))
 all_goals first|exact xz|(subst hrhs;(subst hb';refine(congrArg (fin _) (Run_lp Q _ _ _ _)).trans ?_;exact congrArg (fin R_wr) (RunL_canon (canon_cong (by simp only[bA.u,seval,canon,liveNames,inhOf,keptNames,reach,nub,has,inner,newObjs,keepV,renObj,m77k0,hw.a,h1.a,h2.a]) (by simp only[bA.u,seval,canon,liveNames,inhOf,keptNames,reach,nub,has,inner,newObjs,keepV,renObj,m77k0,hw.a,h1.a,h2.a]) (by simp only[bA.u,seval,canon,liveNames,inhOf,keptNames,reach,nub,has,inner,newObjs,keepV,renObj,m77k0,hw.a,h1.a,h2.a])))))
theorem ws_okt (K:List Item) (c t:Int) (m:Bool) (w:MV) (hw:Fs w) (l:List MV) (hl:l.length≤2^20) (d:Nat) (hd:d≤16) (i:Nat) (c1 t1:Int) (m1:Bool) (w1 k1:MV) (h1:Fs w1) (h2:Fs k1) (hg:l[i]? = some (.agg [.int .i64 c1,.int .i64 t1,.bool m1,w1,k1])) (body:List UInt8) (hbl:body.length≤2^40) (out p:List UInt8) (hol:out.length≤2^20) (hi0:0<i) (hc:Call Q 77 [.agg [.int .i64 c1,.int .i64 t1,.bool m1,w1,k1],.int .i64 ((d:Int)+1)]=some (.tup [.bs out,.int .i64 0])):fin R_wr (RunL Q m77k0 m77b0 K (wr_st [.int .i64 c,.int .i64 t,.bool m,w,.sl 5 l] d body (.bs p) true i))=fin R_wr (RunL Q m77k0 m77b0 K (wr_st [.int .i64 c,.int .i64 t,.bool m,w,.sl 5 l] d (body++out) (.bs out) true (i+1))):=by
 obtain⟨hi,hxx⟩:=List.getElem?_eq_some_iff.1 hg
 have hlt:decide ((i:Int)<(l.length:Int))=true:=by simp;omega
 have i1:(i:Int)<(l.length:Int):=by omega
 have hdw:IntKind.i64.wrap ((d:Int)+1)=(d:Int)+1:=w64 (by omega) (by omega)
 have e9:((i+1:Nat):Int)=(i:Int)+1:=rfl
 unfold wr_st
 rw[e9,List.length_append]
 obtain⟨b',hb'⟩:∃b',b'=m77b0:=⟨_,rfl⟩
 rw[RunL_eq,show Item.lp m77k0 m77b0=Item.lp m77k0 b' by rw[hb']]
 apply hide;intro rhs hrhs
 simp(maxSteps:=4000000) (disch:=first|omega|exact ok_of (by(try simp only[bB.u,seval,cut,hw.a,h1.a,h2.a]);kernel_rfl)|decide) only[bB.u,seval,cut,m77b0,R_wr,hlt,i1,hg,hdw,hc,Run_nil,reach,hw.a,h1.a,h2.a]
 repeat'((with_reducible first|refine sp ?_ ?_|fail)<;>intro hx<;>(try simp only[bI.u]at hx)<;>(first|exact xz|(try simp(maxSteps:=4000000) (disch:=first|omega|exact ok_of (by(try simp only[bB.u,seval,cut,hw.a,h1.a,h2.a]);kernel_rfl)|decide) only[bB.u,seval,cut,hx,m77b0,R_wr,hlt,i1,hg,hdw,hc,Run_nil,reach,hw.a,h1.a,h2.a])))
 all_goals first|exact xz|(subst hrhs;(subst hb';refine(congrArg (fin _) (Run_lp Q _ _ _ _)).trans ?_;exact congrArg (fin R_wr) (RunL_canon (canon_cong (by simp only[bA.u,seval,canon,liveNames,inhOf,keptNames,reach,nub,has,inner,newObjs,keepV,renObj,m77k0,hw.a,h1.a,h2.a]) (by simp only[bA.u,seval,canon,liveNames,inhOf,keptNames,reach,nub,has,inner,newObjs,keepV,renObj,m77k0,hw.a,h1.a,h2.a]) (by simp only[bA.u,seval,canon,liveNames,inhOf,keptNames,reach,nub,has,inner,newObjs,keepV,renObj,m77k0,hw.a,h1.a,h2.a])))))
theorem ws_okf (K:List Item) (c t:Int) (m:Bool) (w:MV) (hw:Fs w) (l:List MV) (hl:l.length≤2^20) (d:Nat) (hd:d≤16) (i:Nat) (c1 t1:Int) (m1:Bool) (w1 k1:MV) (h1:Fs w1) (h2:Fs k1) (hg:l[i]? = some (.agg [.int .i64 c1,.int .i64 t1,.bool m1,w1,k1])) (body:List UInt8) (hbl:body.length≤2^40) (out p:List UInt8) (hol:out.length≤2^20) (hi0:0<i) (q:Bool) (hq:Call Q 102 [.bs out,.bs p]=some (.bool q)) (hc:Call Q 77 [.agg [.int .i64 c1,.int .i64 t1,.bool m1,w1,k1],.int .i64 ((d:Int)+1)]=some (.tup [.bs out,.int .i64 0])):fin R_wr (RunL Q m77k0 m77b0 K (wr_st [.int .i64 c,.int .i64 t,.bool m,w,.sl 5 l] d body (.bs p) false i))=fin R_wr (RunL Q m77k0 m77b0 K (wr_st [.int .i64 c,.int .i64 t,.bool m,w,.sl 5 l] d (body++out) (.bs out) q (i+1))):=by
 obtain⟨hi,hxx⟩:=List.getElem?_eq_some_iff.1 hg
 have hlt:decide ((i:Int)<(l.length:Int))=true:=by simp;omega
 have i1:(i:Int)<(l.length:Int):=by omega
 have hdw:IntKind.i64.wrap ((d:Int)+1)=(d:Int)+1:=w64 (by omega) (by omega)
 have e9:((i+1:Nat):Int)=(i:Int)+1:=rfl
 have hz:decide (0<(i:Int))=true:=by simp;omega
 unfold wr_st
 rw[e9,List.length_append]
 obtain⟨b',hb'⟩:∃b',b'=m77b0:=⟨_,rfl⟩
 rw[RunL_eq,show Item.lp m77k0 m77b0=Item.lp m77k0 b' by rw[hb']]
 apply hide;intro rhs hrhs
 simp(maxSteps:=4000000) (disch:=first|omega|exact ok_of (by(try simp only[bB.u,seval,cut,hw.a,h1.a,h2.a]);kernel_rfl)|decide) only[bB.u,seval,cut,m77b0,R_wr,hlt,i1,hg,hdw,hc,Run_nil,reach,hz,hq,hw.a,h1.a,h2.a]
 repeat'((with_reducible first|refine sp ?_ ?_|fail)<;>intro hx<;>(try simp only[bI.u]at hx)<;>(first|exact xz|(try simp(maxSteps:=4000000) (disch:=first|omega|exact ok_of (by(try simp only[bB.u,seval,cut,hw.a,h1.a,h2.a]);kernel_rfl)|decide) only[bB.u,seval,cut,hx,m77b0,R_wr,hlt,i1,hg,hdw,hc,Run_nil,reach,hz,hq,hw.a,h1.a,h2.a])))
 all_goals first|exact xz|(subst hrhs;(subst hb';refine(congrArg (fin _) (Run_lp Q _ _ _ _)).trans ?_;exact congrArg (fin R_wr) (RunL_canon (canon_cong (by simp only[bA.u,seval,canon,liveNames,inhOf,keptNames,reach,nub,has,inner,newObjs,keepV,renObj,m77k0,hw.a,h1.a,h2.a]) (by simp only[bA.u,seval,canon,liveNames,inhOf,keptNames,reach,nub,has,inner,newObjs,keepV,renObj,m77k0,hw.a,h1.a,h2.a]) (by simp only[bA.u,seval,canon,liveNames,inhOf,keptNames,reach,nub,has,inner,newObjs,keepV,renObj,m77k0,hw.a,h1.a,h2.a])))))
theorem wr_loopR (K:List Item) (c t:Int) (m:Bool) (w:MV) (hw:Fs w) (l:List MV) (ks:List T) (hk:Wl false l ks) (d:Nat) (hd:d≤16) (hs:szs ks≤2^20) (b0:List UInt8) (hb0:b0.length≤2^20)
  (ih:∀t v,t∈ks→Wv false v t→Call Q 77 [v,.int .i64 ((d:Int)+1)]=some (.tup [.bs (wr (d+1) t).2,.int .i64 (wr (d+1) t).1])):
  fin R_wr (RunL Q m77k0 m77b0 K (wr_st [.int .i64 c,.int .i64 t,.bool m,w,.sl 5 l] d b0 .nilsl false 0))=if(wrs (d+1) ks).1≠0 then some (.tup [.bs [],.int .i64 (wrs (d+1) ks).1])else fin R_wr (RunL Q m77k0 m77b0 K (wr_st [.int .i64 c,.int .i64 t,.bool m,w,.sl 5 l] d (b0++(wrs (d+1) ks).2.flatten) (lastV (allF none false (wrs (d+1) ks).2).1) (!sortedB (wrs (d+1) ks).2) ks.length)):=by
 have hll:=hk.length
 have hkl:=szs_len ks
 have hf0:=wrs_foldR (d+1) ks (b0,none,false)
 refine loopR ks (gWR (d+1)) (fun s i=>fin R_wr (RunL Q m77k0 m77b0 K (wr_st [.int .i64 c,.int .i64 t,.bool m,w,.sl 5 l] d s.1 (lastV s.2.1) s.2.2 i))) (fun e=>some (.tup [.bs [],.int .i64 e])) (fun s i=>s.1.length≤b0.length+i*2^20∧(i=0∧s.2=(none,false)∨0<i∧∃p,s.2.1=some p∧p.length≤2^20)) ?_ (b0,none,false) ⟨by simp,.inl ⟨rfl,rfl⟩⟩ rfl ?_ ?_
 ·intro s i x hI hg
  obtain⟨hi,hxx⟩:=List.getElem?_eq_some_iff.1 hg
  obtain⟨v,hv,hr⟩:=hk.get hg
  have hc:=ih x v (List.mem_of_getElem? hg) hr
  have hz:=szs_get hg
  have hwl:=wr_len (d+1) x
  obtain⟨body,last,f⟩:=s
  simp only at hI
  obtain⟨hbl,hI⟩:=hI
  have hbl2:body.length≤2^40:=by
   have:i*2^20≤2^20*2^20:=Nat.mul_le_mul_right _ (by omega)
   omega
  obtain⟨w1,k1,rfl,q1,q2⟩:=rv_form hr
  unfold gWR
  by_cases he:(wr (d+1) x).1=0
  rotate_left
  ·rw[if_pos he]
   exact ws_err K c t m w hw l (by omega) d hd i _ _ _ w1 k1 q1.fs q2.fs hv body hbl2 _ _ he hc (lastV last) (by cases last<;>exact⟨fun _=>rfl,rfl,rfl,rfl,rfl,fun _=>rfl,fun _=>rfl⟩) f
  rw[if_neg (by simpa using he)]
  rw[he]at hc
  have hle:(wr (d+1) x).2.length≤2^20:=by omega
  generalize(wr (d+1) x).2=out at hc hle ⊢
  refine⟨⟨by simp only[List.length_append];rw[Nat.add_mul];omega,.inr ⟨by omega,out,rfl,hle⟩⟩,?_⟩
  simp only
  rcases hI with⟨h0,hI⟩|⟨h0,p,hI,hpl⟩
  ·cases hI
   exact ws_ok0 K c t m w hw l (by omega) d hd i _ _ _ w1 k1 q1.fs q2.fs hv body hbl2 out hle h0 hc
  ·subst hI
   cases f
   ·have hq:=c_less out p (by omega) (by omega)
    exact ws_okf K c t m w hw l (by omega) d hd i _ _ _ w1 k1 q1.fs q2.fs hv body hbl2 out p hle h0 _ hq hc
   ·exact ws_okt K c t m w hw l (by omega) d hd i _ _ _ w1 k1 q1.fs q2.fs hv body hbl2 out p hle h0 hc
 ·intro s hf hI
  rw[hf0]at hf
  by_cases h:(wrs (d+1) ks).1=0
  ·simp only[h,ne_eq,not_true_eq_false,if_false,Sum.inl.injEq]at hf ⊢
   subst hf
   simp only[allF_sorted]
  ·simp[h]at hf
 ·intro e hf
  rw[hf0]at hf
  by_cases h:(wrs (d+1) ks).1=0
  ·simp[h]at hf
  ·simp only[ne_eq,h,not_false_eq_true,if_true,Sum.inr.injEq]at hf ⊢
   rw[hf]
theorem wr_deepR (c t:Int) (m:Bool) (w k:MV) (hw:Fs w) (hk:Fs k) (d:Nat) (hd:16<d) (hd2:d≤1000):Call Q 77 [.agg [.int .i64 c,.int .i64 t,.bool m,w,k],.int .i64 (d:Nat)]=some (.tup [.bs [],.int .i64 23]):=by
 have h1:decide (16<(d:Int))=true:=by simp;omega
 rw[Call_fn Q (m:=m77) rfl rfl]
 apply hide;intro rhs hrhs
 simp(maxSteps:=4000000) (disch:=first|omega|exact ok_of (by(try simp only[bB.u,seval,cut,hw.a,hk.a]);kernel_rfl)|decide) only[bB.u,seval,cut,m77,h1,Run_nil,reach,hw.a,hk.a]
 repeat'((with_reducible first|refine sp ?_ ?_|fail)<;>intro hx<;>(try simp only[bI.u]at hx)<;>(first|exact xz|(try simp(maxSteps:=4000000) (disch:=first|omega|exact ok_of (by(try simp only[bB.u,seval,cut,hw.a,hk.a]);kernel_rfl)|decide) only[bB.u,seval,cut,hx,m77,h1,Run_nil,reach,hw.a,hk.a])))
 all_goals first|exact xz|(subst hrhs;rfl)
theorem wr_rangeR (c t:Int) (m:Bool) (w k:MV) (hw:Fs w) (hk:Fs k) (d:Nat) (hd:d≤16) (hr:rangeB c t=true):Call Q 77 [.agg [.int .i64 c,.int .i64 t,.bool m,w,k],.int .i64 (d:Nat)]=some (.tup [.bs [],.int .i64 21]):=by
 have h1:decide (16<(d:Int))=false:=by simp;omega
 unfold rangeB at hr
 simp only[Bool.or_eq_true,decide_eq_true_eq]at hr
 rw[Call_fn Q (m:=m77) rfl rfl]
 apply hide;intro rhs hrhs
 simp(maxSteps:=4000000) (disch:=first|omega|exact ok_of (by(try simp only[bB.u,seval,cut,hw.a,hk.a]);kernel_rfl)|decide) only[bB.u,seval,cut,m77,h1,Run_nil,reach,hw.a,hk.a]
 repeat'((with_reducible first|refine sp ?_ ?_|fail)<;>intro hx<;>(try simp only[bI.u]at hx)<;>(first|exact xz|(try simp(maxSteps:=4000000) (disch:=first|omega|exact ok_of (by(try simp only[bB.u,seval,cut,hw.a,hk.a]);kernel_rfl)|decide) only[bB.u,seval,cut,hx,m77,h1,Run_nil,reach,hw.a,hk.a])))
 all_goals first|exact xz|(subst hrhs;rfl)
theorem wr_formR (c t:Int) (m:Bool) (w k:MV) (hw:Fs w) (hk:Fs k) (d:Nat) (hd:d≤16) (hr:rangeB c t=false) (e:Int) (h:e≠0) (hf:Call Q 101 [.agg [.int .i64 c,.int .i64 t,.bool m,w,k]]=some (.int .i64 e)):Call Q 77 [.agg [.int .i64 c,.int .i64 t,.bool m,w,k],.int .i64 (d:Nat)]=some (.tup [.bs [],.int .i64 (if e=21 then 21 else 24)]):=by
 have h1:decide (16<(d:Int))=false:=by simp;omega
 unfold rangeB at hr
 simp only[Bool.or_eq_false_iff]at hr
 obtain⟨⟨⟨r1,r2⟩,r3⟩,r4⟩:=hr
 have he0:(e != 0)=true:=by simpa using h
 have he1:(e==0)=false:=by simpa using h
 by_cases h21:e=21
 ·subst h21
  rw[Call_fn Q (m:=m77) rfl rfl]
  apply hide;intro rhs hrhs
  simp(maxSteps:=4000000) (disch:=first|omega|exact ok_of (by(try simp only[bB.u,seval,cut,hw.a,hk.a]);kernel_rfl)|decide) only[bB.u,seval,cut,m77,h1,r1,r2,r3,r4,hf,Run_nil,reach,hw.a,hk.a]
  repeat'((with_reducible first|refine sp ?_ ?_|fail)<;>intro hx<;>(try simp only[bI.u]at hx)<;>(first|exact xz|(try simp(maxSteps:=4000000) (disch:=first|omega|exact ok_of (by(try simp only[bB.u,seval,cut,hw.a,hk.a]);kernel_rfl)|decide) only[bB.u,seval,cut,hx,m77,h1,r1,r2,r3,r4,hf,Run_nil,reach,hw.a,hk.a])))
  all_goals first|exact xz|(subst hrhs;rfl)
 ·rw[if_neg h21]
  have h22:(e==21)=false:=by simpa using h21
  rw[Call_fn Q (m:=m77) rfl rfl]
  apply hide;intro rhs hrhs
  simp(maxSteps:=4000000) (disch:=first|omega|exact ok_of (by(try simp only[bB.u,seval,cut,hw.a,hk.a]);kernel_rfl)|decide) only[bB.u,seval,cut,m77,h1,r1,r2,r3,r4,hf,he0,he1,h22,Run_nil,reach,hw.a,hk.a]
  repeat'((with_reducible first|refine sp ?_ ?_|fail)<;>intro hx<;>(try simp only[bI.u]at hx)<;>(first|exact xz|(try simp(maxSteps:=4000000) (disch:=first|omega|exact ok_of (by(try simp only[bB.u,seval,cut,hw.a,hk.a]);kernel_rfl)|decide) only[bB.u,seval,cut,hx,m77,h1,r1,r2,r3,r4,hf,he0,he1,h22,Run_nil,reach,hw.a,hk.a])))
  all_goals first|exact xz|(subst hrhs;rfl)
theorem wr_kidsR (c t:Int) (m:Bool) (w k:MV) (hw:Fs w) (hk:Fs k) (d:Nat) (hd:d≤16) (hr:rangeB c t=false) (hf:Call Q 101 [.agg [.int .i64 c,.int .i64 t,.bool m,w,k]]=some (.int .i64 0)) (nb nk:Nat) (lb:∀st,lenV false w st=some (.int .i64 nb)) (lk:∀st,lenV false k st=some (.int .i64 nk)) (h:(m=true∧0<nb)∨(m=false∧0<nk)):Call Q 77 [.agg [.int .i64 c,.int .i64 t,.bool m,w,k],.int .i64 (d:Nat)]=some (.tup [.bs [],.int .i64 24]):=by
 have h1:decide (16<(d:Int))=false:=by simp;omega
 unfold rangeB at hr
 simp only[Bool.or_eq_false_iff]at hr
 obtain⟨⟨⟨r1,r2⟩,r3⟩,r4⟩:=hr
 rcases h with⟨rfl,h0⟩|⟨rfl,h0⟩
 ·have hp:decide (0<(nb:Int))=true:=by simp;omega
  rw[Call_fn Q (m:=m77) rfl rfl]
  apply hide;intro rhs hrhs
  simp(maxSteps:=4000000) (disch:=first|omega|exact ok_of (by(try simp only[bB.u,seval,cut,hw.a,hk.a]);kernel_rfl)|decide) only[bB.u,seval,cut,m77,h1,r1,r2,r3,r4,hf,lb,lk,hp,Run_nil,reach,hw.a,hk.a]
  repeat'((with_reducible first|refine sp ?_ ?_|fail)<;>intro hx<;>(try simp only[bI.u]at hx)<;>(first|exact xz|(try simp(maxSteps:=4000000) (disch:=first|omega|exact ok_of (by(try simp only[bB.u,seval,cut,hw.a,hk.a]);kernel_rfl)|decide) only[bB.u,seval,cut,hx,m77,h1,r1,r2,r3,r4,hf,lb,lk,hp,Run_nil,reach,hw.a,hk.a])))
  all_goals first|exact xz|(subst hrhs;rfl)
 ·have hp:decide (0<(nk:Int))=true:=by simp;omega
  rw[Call_fn Q (m:=m77) rfl rfl]
  apply hide;intro rhs hrhs
  simp(maxSteps:=4000000) (disch:=first|omega|exact ok_of (by(try simp only[bB.u,seval,cut,hw.a,hk.a]);kernel_rfl)|decide) only[bB.u,seval,cut,m77,h1,r1,r2,r3,r4,hf,lb,lk,hp,Run_nil,reach,hw.a,hk.a]
  repeat'((with_reducible first|refine sp ?_ ?_|fail)<;>intro hx<;>(try simp only[bI.u]at hx)<;>(first|exact xz|(try simp(maxSteps:=4000000) (disch:=first|omega|exact ok_of (by(try simp only[bB.u,seval,cut,hw.a,hk.a]);kernel_rfl)|decide) only[bB.u,seval,cut,hx,m77,h1,r1,r2,r3,r4,hf,lb,lk,hp,Run_nil,reach,hw.a,hk.a])))
  all_goals first|exact xz|(subst hrhs;rfl)
theorem wr_startR (c t:Int) (m:Bool) (w k:MV) (hw:Fs w) (hk:Fs k) (d:Nat) (hd:d≤16) (hr:rangeB c t=false) (hf:Call Q 101 [.agg [.int .i64 c,.int .i64 t,.bool m,w,k]]=some (.int .i64 0)) (b:List UInt8) (hbl:b.length≤2^20) (hb:∀st,bytesOf w st=some b) (nk:Nat) (lb:∀st,lenV false w st=some (.int .i64 b.length)) (lk:∀st,lenV false k st=some (.int .i64 nk)) (h:(m=true∧b.length=0)∨(m=false∧nk=0)) (r:Option MV) (loop:fin R_wr (RunL Q m77k0 m77b0 [.blk 0,.code wr_tail] (wr_st [.int .i64 c,.int .i64 t,.bool m,w,k] d b .nilsl false 0))=r):Call Q 77 [.agg [.int .i64 c,.int .i64 t,.bool m,w,k],.int .i64 (d:Nat)]=r:=by
 have h1:decide (16<(d:Int))=false:=by simp;omega
 unfold rangeB at hr
 simp only[Bool.or_eq_false_iff]at hr
 obtain⟨⟨⟨r1,r2⟩,r3⟩,r4⟩:=hr
 unfold wr_st at loop
 rcases h with⟨rfl,h0⟩|⟨rfl,h0⟩
 ·have hp:decide (0<(b.length:Int))=false:=by rw[decide_eq_false_iff_not];omega
  rw[Call_fn Q (m:=m77) rfl rfl]
  apply hide;intro rhs hrhs
  simp(maxSteps:=4000000) (disch:=first|omega|exact ok_of (by(try simp only[bB.u,seval,cut,hw.a,hk.a]);kernel_rfl)|decide) only[bB.u,seval,cut,m77,h1,r1,r2,r3,r4,hf,hb,lb,lk,hp,Run_loop,Run_nil,reach,hw.a,hk.a]
  repeat'((with_reducible first|refine sp ?_ ?_|fail)<;>intro hx<;>(try simp only[bI.u]at hx)<;>(first|exact xz|(try simp(maxSteps:=4000000) (disch:=first|omega|exact ok_of (by(try simp only[bB.u,seval,cut,hw.a,hk.a]);kernel_rfl)|decide) only[bB.u,seval,cut,hx,m77,h1,r1,r2,r3,r4,hf,hb,lb,lk,hp,Run_loop,Run_nil,reach,hw.a,hk.a])))
  all_goals first|exact xz|(subst hrhs;exact(congrArg (fin _) (RunL_canon (canon_cong (by simp only[bA.u,seval,canon,liveNames,inhOf,keptNames,reach,nub,has,inner,newObjs,keepV,renObj,m77k0,hw.a,hk.a]) (by simp only[bA.u,seval,canon,liveNames,inhOf,keptNames,reach,nub,has,inner,newObjs,keepV,renObj,m77k0,hw.a,hk.a]) (by simp only[bA.u,seval,canon,liveNames,inhOf,keptNames,reach,nub,has,inner,newObjs,keepV,renObj,m77k0,hw.a,hk.a])))).trans loop)
 ·have hp:decide (0<(nk:Int))=false:=by simp;omega
  rw[Call_fn Q (m:=m77) rfl rfl]
  apply hide;intro rhs hrhs
  simp(maxSteps:=4000000) (disch:=first|omega|exact ok_of (by(try simp only[bB.u,seval,cut,hw.a,hk.a]);kernel_rfl)|decide) only[bB.u,seval,cut,m77,h1,r1,r2,r3,r4,hf,hb,lb,lk,hp,Run_loop,Run_nil,reach,hw.a,hk.a]
  repeat'((with_reducible first|refine sp ?_ ?_|fail)<;>intro hx<;>(try simp only[bI.u]at hx)<;>(first|exact xz|(try simp(maxSteps:=4000000) (disch:=first|omega|exact ok_of (by(try simp only[bB.u,seval,cut,hw.a,hk.a]);kernel_rfl)|decide) only[bB.u,seval,cut,hx,m77,h1,r1,r2,r3,r4,hf,hb,lb,lk,hp,Run_loop,Run_nil,reach,hw.a,hk.a])))
  all_goals first|exact xz|(subst hrhs;exact(congrArg (fin _) (RunL_canon (canon_cong (by simp only[bA.u,seval,canon,liveNames,inhOf,keptNames,reach,nub,has,inner,newObjs,keepV,renObj,m77k0,hw.a,hk.a]) (by simp only[bA.u,seval,canon,liveNames,inhOf,keptNames,reach,nub,has,inner,newObjs,keepV,renObj,m77k0,hw.a,hk.a]) (by simp only[bA.u,seval,canon,liveNames,inhOf,keptNames,reach,nub,has,inner,newObjs,keepV,renObj,m77k0,hw.a,hk.a])))).trans loop)
theorem wr_endR (c t:Int) (m:Bool) (w k:MV) (hw:Fs w) (hk:Fs k) (d:Nat) (h0:0≤c) (h3:c≤3) (ht0:0≤t) (ht:t<2097152) (nk:Nat) (lk:∀st,lenV false k st=some (.int .i64 nk)) (body:List UInt8) (hbl:body.length<16777216) (la:MV) (hla:Fs la) (f:Bool):fin R_wr (RunL Q m77k0 m77b0 [.blk 0,.code wr_tail] (wr_st [.int .i64 c,.int .i64 t,.bool m,w,k] d body la f nk))=if f=true∧c=0∧t=17 then some (.tup [.bs [],.int .i64 25])else some (.tup [.bs (tagB c t m++lenB body.length++body),.int .i64 0]):=by
 have hh:=c_headR c t m w k hw hk h0 h3 ht0 ht body.length hbl
 have hlt:decide ((nk:Int)<(nk:Int))=false:=by simp
 have hL1:=tagB_len c t m
 have hL2:=lenB_len body.length
 have hL3:(tagB c t m++lenB body.length).length≤8:=by rw[List.length_append];omega
 generalize tagB c t m++lenB body.length=hd at hh hL3 ⊢
 unfold wr_st
 cases f
 ·rw[if_neg (by simp)]
  obtain⟨b',hb'⟩:∃b',b'=m77b0:=⟨_,rfl⟩
  rw[RunL_eq,show Item.lp m77k0 m77b0=Item.lp m77k0 b' by rw[hb']]
  apply hide;intro rhs hrhs
  simp(maxSteps:=4000000) (disch:=first|omega|exact ok_of (by(try simp only[bB.u,seval,cut,hw.a,hk.a,hla.a]);kernel_rfl)|decide) only[bB.u,seval,cut,m77b0,wr_tail,R_wr,hlt,lk,hh,Run_nil,reach,hw.a,hk.a,hla.a]
  repeat'((with_reducible first|refine sp ?_ ?_|fail)<;>intro hx<;>(try simp only[bI.u]at hx)<;>(first|exact xz|(try simp(maxSteps:=4000000) (disch:=first|omega|exact ok_of (by(try simp only[bB.u,seval,cut,hw.a,hk.a,hla.a]);kernel_rfl)|decide) only[bB.u,seval,cut,hx,m77b0,wr_tail,R_wr,hlt,lk,hh,Run_nil,reach,hw.a,hk.a,hla.a])))
  all_goals first|exact xz|(subst hrhs;rfl)
 ·by_cases hc:c=0
  ·subst hc
   by_cases h17:t=17
   ·subst h17
    rw[if_pos ⟨rfl,rfl,rfl⟩]
    obtain⟨b',hb'⟩:∃b',b'=m77b0:=⟨_,rfl⟩
    rw[RunL_eq,show Item.lp m77k0 m77b0=Item.lp m77k0 b' by rw[hb']]
    apply hide;intro rhs hrhs
    simp(maxSteps:=4000000) (disch:=first|omega|exact ok_of (by(try simp only[bB.u,seval,cut,hw.a,hk.a,hla.a]);kernel_rfl)|decide) only[bB.u,seval,cut,m77b0,wr_tail,R_wr,hlt,lk,hh,Run_nil,reach,hw.a,hk.a,hla.a]
    repeat'((with_reducible first|refine sp ?_ ?_|fail)<;>intro hx<;>(try simp only[bI.u]at hx)<;>(first|exact xz|(try simp(maxSteps:=4000000) (disch:=first|omega|exact ok_of (by(try simp only[bB.u,seval,cut,hw.a,hk.a,hla.a]);kernel_rfl)|decide) only[bB.u,seval,cut,hx,m77b0,wr_tail,R_wr,hlt,lk,hh,Run_nil,reach,hw.a,hk.a,hla.a])))
    all_goals first|exact xz|(subst hrhs;rfl)
   ·rw[if_neg (by intro h;exact h17 h.2.2)]
    have b1:(t==17)=false:=by simpa using h17
    obtain⟨b',hb'⟩:∃b',b'=m77b0:=⟨_,rfl⟩
    rw[RunL_eq,show Item.lp m77k0 m77b0=Item.lp m77k0 b' by rw[hb']]
    apply hide;intro rhs hrhs
    simp(maxSteps:=4000000) (disch:=first|omega|exact ok_of (by(try simp only[bB.u,seval,cut,hw.a,hk.a,hla.a]);kernel_rfl)|decide) only[bB.u,seval,cut,m77b0,wr_tail,R_wr,hlt,lk,hh,b1,Run_nil,reach,hw.a,hk.a,hla.a]
    repeat'((with_reducible first|refine sp ?_ ?_|fail)<;>intro hx<;>(try simp only[bI.u]at hx)<;>(first|exact xz|(try simp(maxSteps:=4000000) (disch:=first|omega|exact ok_of (by(try simp only[bB.u,seval,cut,hw.a,hk.a,hla.a]);kernel_rfl)|decide) only[bB.u,seval,cut,hx,m77b0,wr_tail,R_wr,hlt,lk,hh,b1,Run_nil,reach,hw.a,hk.a,hla.a])))
    all_goals first|exact xz|(subst hrhs;rfl)
  ·rw[if_neg (by intro h;exact hc h.2.1)]
   have b1:(c==0)=false:=by simpa using hc
   obtain⟨b',hb'⟩:∃b',b'=m77b0:=⟨_,rfl⟩
   rw[RunL_eq,show Item.lp m77k0 m77b0=Item.lp m77k0 b' by rw[hb']]
   apply hide;intro rhs hrhs
   simp(maxSteps:=4000000) (disch:=first|omega|exact ok_of (by(try simp only[bB.u,seval,cut,hw.a,hk.a,hla.a]);kernel_rfl)|decide) only[bB.u,seval,cut,m77b0,wr_tail,R_wr,hlt,lk,hh,b1,Run_nil,reach,hw.a,hk.a,hla.a]
   repeat'((with_reducible first|refine sp ?_ ?_|fail)<;>intro hx<;>(try simp only[bI.u]at hx)<;>(first|exact xz|(try simp(maxSteps:=4000000) (disch:=first|omega|exact ok_of (by(try simp only[bB.u,seval,cut,hw.a,hk.a,hla.a]);kernel_rfl)|decide) only[bB.u,seval,cut,hx,m77b0,wr_tail,R_wr,hlt,lk,hh,b1,Run_nil,reach,hw.a,hk.a,hla.a])))
   all_goals first|exact xz|(subst hrhs;rfl)
theorem Rb.byt {w:MV} {b:List UInt8} (h:Rb w b):(∀st,lenV false w st=some (.int .i64 b.length))∧∀st,bytesOf w st=some b:=by
 cases h<;>exact⟨fun _=>rfl,fun _=>rfl⟩
theorem c_writeR (N:Nat):∀(t:T) (v:MV) (d:Nat),sz t≤N→N≤2^20→Wv false v t→d≤17→Call Q 77 [v,.int .i64 (d:Nat)]=some (.tup [.bs (wr d t).2,.int .i64 (wr d t).1]):=by
 induction N with
 |zero=>intro t v d hs;cases t;rw[sz]at hs;omega
 |succ N ih=>
  intro T0 v d hs hN hv hd
  obtain⟨c,t,m,b,ks⟩:=T0
  rw[sz]at hs
  have hkl:=szs_len ks
  rw[wr]
  unfold wrK
  cases hv with
  | @mk _ _ _ _ w k _ _ hb hk=>
  have hw:=hb.fs
  have hkf:=hk.fs
  by_cases h1:16<d
  ·rw[if_pos h1]
   exact wr_deepR c t m w k hw hkf d h1 (by omega)
  rw[if_neg h1]
  by_cases hr:rangeB c t=true
  ·rw[if_pos hr]
   exact wr_rangeR c t m w k hw hkf d (by omega) hr
  rw[if_neg hr]
  rw[Bool.not_eq_true]at hr
  have hf:=c_formR c t m w k b hb hw hkf (by omega)
  by_cases he:formE c t m b=0
  rotate_left
  ·have:=wr_formR c t m w k hw hkf d (by omega) hr _ he hf
   rw[this]
   by_cases h21:formE c t m b=21
   ·rw[if_pos h21,if_pos h21]
   ·rw[if_neg h21,if_neg h21,if_pos (.inl he)]
  rw[if_neg (by rw[he];decide)]
  rw[he]at hf ⊢
  have hR:=hr
  unfold rangeB at hR
  simp only[Bool.or_eq_false_iff,decide_eq_false_iff_not]at hR
  by_cases hx:(m=true∧b≠[])∨(m=false∧(!ks.isEmpty)=true)
  ·rw[if_pos (.inr hx)]
   refine wr_kidsR c t m w k hw hkf d (by omega) hr hf b.length ks.length hb.byt.1 hk.len ?_
   rcases hx with⟨h,hne⟩|⟨h,hne⟩
   ·exact .inl ⟨h,List.length_pos_iff.2 hne⟩
   ·refine .inr ⟨h,?_⟩
    cases ks with
    |nil=>exact absurd hne (by decide)
    |cons=>simp
  rw[if_neg (by intro h;rcases h with h|h;exact h rfl;exact hx h)]
  have hmk:(m=true∧b.length=0)∨(m=false∧ks.length=0):=by
   cases m
   ·right
    refine⟨rfl,?_⟩
    cases ks with
    |nil=>rfl
    |cons=>exact absurd (.inr ⟨rfl,rfl⟩) hx
   ·left
    refine⟨rfl,?_⟩
    cases b with
    |nil=>rfl
    |cons=>exact absurd (.inl ⟨rfl,by simp⟩) hx
  refine wr_startR c t m w k hw hkf d (by omega) hr hf b (by omega) hb.byt.2 ks.length hb.byt.1 hk.len hmk _ ?_
  have ih':∀t v,t∈ks→Wv false v t→Call Q 77 [v,.int .i64 ((d:Int)+1)]=some (.tup [.bs (wr (d+1) t).2,.int .i64 (wr (d+1) t).1]):=by
   intro t' v' hm hv'
   have:=szs_mem' hm
   exact ih t' v' (d+1) (by omega) (by omega) hv' (by omega)
  have hwl:=wrs_len (d+1) ks
  have hfin:∀(bd:List UInt8) (la:MV),Fs la→∀ps:List (List UInt8),bd=b++ps.flatten→bd.length<16777216→(ks.length=0→ps=[])→fin R_wr (RunL Q m77k0 m77b0 [.blk 0,.code wr_tail] (wr_st [.int .i64 c,.int .i64 t,.bool m,w,k] d bd la (!sortedB ps) ks.length))=some (.tup [.bs (if c=0∧t=17∧sortedB ps=false then((25:Int),([]:List UInt8))else(0,tagB c t m++(lenB (if m then ps.flatten else b).length++(if m then ps.flatten else b)))).2,.int .i64 (if c=0∧t=17∧sortedB ps=false then((25:Int),([]:List UInt8))else(0,tagB c t m++(lenB (if m then ps.flatten else b).length++(if m then ps.flatten else b)))).1]):=by
   intro bd la hla ps hbd hbdl hps
   rw[wr_endR c t m w k hw hkf d (by omega) (by omega) (by omega) (by omega) ks.length hk.len bd hbdl la hla]
   have e:(if m then ps.flatten else b)=bd:=by
    rcases hmk with⟨rfl,h⟩|⟨rfl,h⟩
    ·rw[List.eq_nil_of_length_eq_zero h]at hbd
     rw[hbd];simp
    ·rw[hps h]at hbd
     rw[hbd];simp
   rw[e]
   by_cases hq:c=0∧t=17∧sortedB ps=false
   ·rw[if_pos hq,if_pos ⟨by rw[hq.2.2];rfl,hq.1,hq.2.1⟩]
   ·rw[if_neg hq,if_neg (by intro h;exact hq ⟨h.2.1,h.2.2,by simpa using h.1⟩),List.append_assoc]
  cases hk with
  |nil=>
   rw[show wrs (d+1) []=(0,[]) by rw[wrs]]
   rw[if_neg (by simp)]
   exact hfin b .nilsl nil_fs [] (by simp) (by omega) (fun _=>rfl)
  | @sl _ l _ hl=>
   rw[wr_loopR [.blk 0,.code wr_tail] c t m w hw l ks hl d (by omega) (by omega) b (by omega) ih']
   by_cases h5:(wrs (d+1) ks).1=0
   rotate_left
   ·rw[if_pos h5,if_pos h5]
   rw[if_neg (by simpa using h5),if_neg (by simpa using h5)]
   refine hfin _ _ (by cases(allF none false (wrs (d+1) ks).2).1<;>exact⟨fun _=>rfl,rfl,rfl,rfl,rfl,fun _=>rfl,fun _=>rfl⟩) _ rfl ?_ ?_
   ·rw[List.length_append];omega
   ·intro h
    rw[List.eq_nil_of_length_eq_zero h];rw[wrs]
theorem wr_nil {d:Nat} {t:T} (h:(wr d t).1≠0):(wr d t).2=[]:=by
 obtain⟨c,tg,m,b,ks⟩:=t
 rw[wr]at h ⊢
 unfold wrK at h ⊢
 repeat' split
 all_goals first|rfl|(exfalso;refine h ?_;(repeat' split)<;>first|rfl|contradiction)
theorem c_WriteR (v:MV) (t:T) (hv:Wv false v t) (hs:sz t≤2^20):Call Q 49 [v]=some (.tup [.bs (wrW t).2,.int .i64 (wrW t).1]):=by
 have h:=c_writeR (2^20) t v 0 hs (by omega) hv (by omega)
 obtain⟨w,k,rfl,q1,q2⟩:=rv_form hv
 have hwf:=q1.fs
 have hkf:=q2.fs
 rw[show((0:Nat):Int)=0 from rfl]at h
 unfold wrW
 by_cases he:(wr 0 t).1=0
 rotate_left
 ·rw[if_pos he]
  rw[wr_nil he]at h
  have hb:((wr 0 t).1==0)=false:=by simpa using he
  generalize(wr 0 t).1=e at *
  rw[Call_fn Q (m:=m49) rfl rfl]
  apply hide;intro rhs hrhs
  simp(maxSteps:=4000000) (disch:=first|omega|exact ok_of (by(try simp only[bB.u,seval,cut,hwf.a,hkf.a]);kernel_rfl)|decide) only[bB.u,seval,cut,m49,h,hb,Run_nil,reach,hwf.a,hkf.a]
  repeat'((with_reducible first|refine sp ?_ ?_|fail)<;>intro hx<;>(try simp only[bI.u]at hx)<;>(first|exact xz|(try simp(maxSteps:=4000000) (disch:=first|omega|exact ok_of (by(try simp only[bB.u,seval,cut,hwf.a,hkf.a]);kernel_rfl)|decide) only[bB.u,seval,cut,hx,m49,h,hb,Run_nil,reach,hwf.a,hkf.a])))
  all_goals first|exact xz|(subst hrhs;rfl)
 rw[if_neg (by simpa using he)]
 rw[he]at h
 generalize(wr 0 t).2=o at *
 by_cases hl:65536<o.length
 ·rw[if_pos hl]
  have hb:decide (65536<(o.length:Int))=true:=by simp;omega
  rw[Call_fn Q (m:=m49) rfl rfl]
  apply hide;intro rhs hrhs
  simp(maxSteps:=4000000) (disch:=first|omega|exact ok_of (by(try simp only[bB.u,seval,cut,hwf.a,hkf.a]);kernel_rfl)|decide) only[bB.u,seval,cut,m49,h,hb,Run_nil,reach,hwf.a,hkf.a]
  repeat'((with_reducible first|refine sp ?_ ?_|fail)<;>intro hx<;>(try simp only[bI.u]at hx)<;>(first|exact xz|(try simp(maxSteps:=4000000) (disch:=first|omega|exact ok_of (by(try simp only[bB.u,seval,cut,hwf.a,hkf.a]);kernel_rfl)|decide) only[bB.u,seval,cut,hx,m49,h,hb,Run_nil,reach,hwf.a,hkf.a])))
  all_goals first|exact xz|(subst hrhs;rfl)
 ·rw[if_neg hl]
  have hb:decide (65536<(o.length:Int))=false:=by simp;omega
  rw[Call_fn Q (m:=m49) rfl rfl]
  apply hide;intro rhs hrhs
  simp(maxSteps:=4000000) (disch:=first|omega|exact ok_of (by(try simp only[bB.u,seval,cut,hwf.a,hkf.a]);kernel_rfl)|decide) only[bB.u,seval,cut,m49,h,hb,Run_nil,reach,hwf.a,hkf.a]
  repeat'((with_reducible first|refine sp ?_ ?_|fail)<;>intro hx<;>(try simp only[bI.u]at hx)<;>(first|exact xz|(try simp(maxSteps:=4000000) (disch:=first|omega|exact ok_of (by(try simp only[bB.u,seval,cut,hwf.a,hkf.a]);kernel_rfl)|decide) only[bB.u,seval,cut,hx,m49,h,hb,Run_nil,reach,hwf.a,hkf.a])))
  all_goals first|exact xz|(subst hrhs;rfl)
theorem c_can (v:MV) (t:T) (hv:Wv false v t) (hs:sz t≤2^20):Call Q 23 [v]=some (.bool (decide ((wrW t).1=0))):=by
 have h:=c_WriteR v t hv hs
 obtain⟨w,k,rfl,q1,q2⟩:=rv_form hv
 have hwf:=q1.fs
 have hkf:=q2.fs
 generalize wrW t=W at h ⊢
 obtain⟨e,o⟩:=W
 simp only at h ⊢
 by_cases he:e=0
 ·subst he
  rw[Call_fn Q (m:=m23) rfl rfl]
  apply hide;intro rhs hrhs
  simp(maxSteps:=4000000) (disch:=first|omega|exact ok_of (by(try simp only[bB.u,seval,cut,hwf.a,hkf.a]);kernel_rfl)|decide) only[bB.u,seval,cut,m23,h,Run_nil,reach,hwf.a,hkf.a]
  repeat'((with_reducible first|refine sp ?_ ?_|fail)<;>intro hx<;>(try simp only[bI.u]at hx)<;>(first|exact xz|(try simp(maxSteps:=4000000) (disch:=first|omega|exact ok_of (by(try simp only[bB.u,seval,cut,hwf.a,hkf.a]);kernel_rfl)|decide) only[bB.u,seval,cut,hx,m23,h,Run_nil,reach,hwf.a,hkf.a])))
  all_goals first|exact xz|(subst hrhs;rfl)
 ·rw[show decide (e=0)=false by simpa using he]
  have hb:(e==0)=false:=by simpa using he
  rw[Call_fn Q (m:=m23) rfl rfl]
  apply hide;intro rhs hrhs
  simp(maxSteps:=4000000) (disch:=first|omega|exact ok_of (by(try simp only[bB.u,seval,cut,hwf.a,hkf.a]);kernel_rfl)|decide) only[bB.u,seval,cut,m23,h,hb,Run_nil,reach,hwf.a,hkf.a]
  repeat'((with_reducible first|refine sp ?_ ?_|fail)<;>intro hx<;>(try simp only[bI.u]at hx)<;>(first|exact xz|(try simp(maxSteps:=4000000) (disch:=first|omega|exact ok_of (by(try simp only[bB.u,seval,cut,hwf.a,hkf.a]);kernel_rfl)|decide) only[bB.u,seval,cut,hx,m23,h,hb,Run_nil,reach,hwf.a,hkf.a])))
  all_goals first|exact xz|(subst hrhs;rfl)
end Go.Mini

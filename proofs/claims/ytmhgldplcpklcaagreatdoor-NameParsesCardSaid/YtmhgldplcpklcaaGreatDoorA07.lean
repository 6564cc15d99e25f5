/- any value's DN and any DN's value are the document's: the law by that interpreter (part 7): what the program's functions answer, or plain laws of it; no conditions. -/
import Derived.Test.YtmhgldplcpklcaaGreatDoorA06
set_option linter.all false
namespace Go.Mini
open Go Go.Proofs.YtmhgldplcpklcaaGreatDoor
set_option maxRecDepth 100000
set_option maxHeartbeats 4000000
theorem and127 {x:Int} (h0:0≤x) (h1:x≤9223372036854775807):IntKind.i64.wrap ((BitVec.ofInt IntKind.i64.bits x&&&BitVec.ofInt IntKind.i64.bits 127).toNat:Int)=x%128:=by
 obtain⟨n,rfl⟩:=Int.eq_ofNat_of_zero_le h0
 have e:(BitVec.ofInt IntKind.i64.bits (n:Int)&&&BitVec.ofInt IntKind.i64.bits 127).toNat=n%128:=by
  show(BitVec.ofInt 64 (n:Int)&&&BitVec.ofInt 64 127).toNat=n%128
  rw[BitVec.toNat_and,BitVec.ofInt_natCast,BitVec.toNat_ofNat]
  have:(BitVec.ofInt 64 127).toNat=127:=by decide
  rw[this,Nat.mod_eq_of_lt (by omega),show 127=2^7-1 by decide,Nat.and_two_pow_sub_one_eq_mod]
 rw[e,w64 (by omega) (by omega)]
 rfl
theorem or128_all:(List.range 128).all (fun n=>decide (IntKind.u8.wrap ((BitVec.ofInt IntKind.u8.bits (n:Int)|||BitVec.ofInt IntKind.u8.bits 128).toNat:Int)=(n:Int)+128))=true:=by kernel_rfl
theorem or128 {x:Int} (h0:0≤x) (h1:x<128):IntKind.u8.wrap ((BitVec.ofInt IntKind.u8.bits x|||BitVec.ofInt IntKind.u8.bits 128).toNat:Int)=x+128:=by
 obtain⟨n,rfl⟩:=Int.eq_ofNat_of_zero_le h0
 have:=List.all_eq_true.1 or128_all n (by simp;omega)
 exact of_decide_eq_true this
def wh_rest:MCode:=(sq [qa 154 7,qj 155 154,qb 17 155] (.seq (.block 6 (sq [qa 168 17,qx 169 .lss 168 128,qb 167 169] (.cond (.v 167) (.rg [qa 170 14,qa 171 17,qJ 172 171,oT 173 (.bslB 1 [(0,.t 172)]),oT 174 (.app true 1 1 (.t 170) (.t 173)),qb 14 174]) (sq [qa 176 17,qx 177 .lss 176 256,qb 175 177] (.cond (.v 175) (.rg [qa 178 14,qa 179 17,qJ 180 179,oT 181 (.bslB 2 [(0,qu 129),(1,.t 180)]),oT 182 (.app true 1 1 (.t 178) (.t 181)),qb 14 182]) (sq [qa 184 17,qx 185 .lss 184 65536,qb 183 185] (.cond (.v 183) (.rg [qa 186 14,qa 187 17,oT 188 (.bin .shr (.t 187) (.c (.int .u64 8))),qJ 189 188,qa 190 17,qJ 191 190,oT 192 (.bslB 3 [(0,qu 130),(1,.t 189),(2,.t 191)]),oT 193 (.app true 1 1 (.t 186) (.t 192)),qb 14 193]) (.rg [qa 156 14,qa 157 17,oT 158 (.bin .shr (.t 157) (.c (.int .u64 16))),qJ 159 158,qa 160 17,oT 161 (.bin .shr (.t 160) (.c (.int .u64 8))),qJ 162 161,qa 163 17,qJ 164 163,oT 165 (.bslB 4 [(0,qu 131),(1,.t 159),(2,.t 162),(3,.t 164)]),oT 166 (.app true 1 1 (.t 156) (.t 165)),qb 14 166])))))))) (sq [qa 194 14,qa 195 7,oT 196 (.app true 1 1 (.t 194) (.t 195)),qb 4 196,qe 5 0] .ret)))
def wh_st (c t:Int) (m:Bool) (v k w:MV) (out:List UInt8) (s:Int):DS:=⟨[(2,.ptr 0 0),(7,w),(14,.own 1 out.length),(15,.int .i64 s)],[],[(0,.cells [.int .i64 c,.int .i64 t,.bool m,v,k]),(1,.byt out false)],3⟩
theorem div14 (t:Int):t/2^(14:Int).toNat=t/16384:=rfl
theorem div7 (t:Int):t/2^(7:Int).toNat=t/128:=rfl
theorem wh_14n (K:List Item) (c t:Int) (m:Bool) (v k w:MV) (b bw:List UInt8) (hv:Rb v b) (hk:Rk k) (hw:Rb w bw) (ht:0≤t) (ht2:t<2097152) (out:List UInt8) (ho:out.length≤8) (h:t<16384):fin R_w (RunL Q m46k1 m46b1 K (wh_st c t m v k w out 14))=fin R_w (RunL Q m46k1 m46b1 K (wh_st c t m v k w out 7)):=by
 have g1:decide (0<t/16384)=false:=by simp;omega
 unfold wh_st
 cases hv<;>cases hk<;>cases hw
 all_goals(
  obtain⟨b',hb'⟩:∃b',b'=m46b1:=⟨_,rfl⟩
  rw[RunL_eq,show Item.lp m46k1 m46b1=Item.lp m46k1 b' by rw[hb']]
  apply hide;intro rhs hrhs
  simp(maxSteps:=4000000)(disch:=first|exact dz|fail)only[bB.u,seval,cut,m46b1,shr64,and127,or128,div14,div7,g1]
  repeat'((with_reducible first|refine sp ?_ ?_|fail)<;>intro hx<;>(try simp only[bI.u]at hx)<;>(first|exact xz|(try simp(maxSteps:=4000000)(disch:=first|exact dz|fail)only[bB.u,seval,cut,hx,m46b1,shr64,and127,or128,div14,div7,g1])))
  all_goals first|exact xz|(subst hrhs;(subst hb';refine(congrArg (fin _) (Run_lp Q _ _ _ _)).trans ?_;exact congrArg (fin R_w) (RunL_canon (canon_cong kr kr kr)))))
theorem wh_14y (K:List Item) (c t:Int) (m:Bool) (v k w:MV) (b bw:List UInt8) (hv:Rb v b) (hk:Rk k) (hw:Rb w bw) (ht:0≤t) (ht2:t<2097152) (out:List UInt8) (ho:out.length≤8) (h:16384≤t):fin R_w (RunL Q m46k1 m46b1 K (wh_st c t m v k w out 14))=fin R_w (RunL Q m46k1 m46b1 K (wh_st c t m v k w (out++[UInt8.ofNat (128+t.toNat/16384)]) 7)):=by
 have g1:decide (0<t/16384)=true:=by simp;omega
 have e1:t/16384%128=t/16384:=by omega
 have e2:UInt8.ofNat (t/16384+128).toNat=UInt8.ofNat (128+t.toNat/16384):=by congr 1;omega
 unfold wh_st
 simp only[List.length_append,List.length_cons,List.length_nil]
 cases hv<;>cases hk<;>cases hw
 all_goals(
  obtain⟨b',hb'⟩:∃b',b'=m46b1:=⟨_,rfl⟩
  rw[RunL_eq,show Item.lp m46k1 m46b1=Item.lp m46k1 b' by rw[hb']]
  apply hide;intro rhs hrhs
  simp(maxSteps:=4000000)(disch:=first|exact dz|fail)only[bB.u,seval,cut,m46b1,shr64,and127,or128,div14,div7,g1,e1,e2]
  repeat'((with_reducible first|refine sp ?_ ?_|fail)<;>intro hx<;>(try simp only[bI.u]at hx)<;>(first|exact xz|(try simp(maxSteps:=4000000)(disch:=first|exact dz|fail)only[bB.u,seval,cut,hx,m46b1,shr64,and127,or128,div14,div7,g1,e1,e2])))
  all_goals first|exact xz|(subst hrhs;(subst hb';refine(congrArg (fin _) (Run_lp Q _ _ _ _)).trans ?_;exact congrArg (fin R_w) (RunL_canon (canon_cong kr kr kr)))))
theorem wh_7n (K:List Item) (c t:Int) (m:Bool) (v k w:MV) (b bw:List UInt8) (hv:Rb v b) (hk:Rk k) (hw:Rb w bw) (ht:0≤t) (ht2:t<2097152) (out:List UInt8) (ho:out.length≤8) (h:t<128):fin R_w (RunL Q m46k1 m46b1 K (wh_st c t m v k w out 7))=fin R_w (RunL Q m46k1 m46b1 K (wh_st c t m v k w out 0)):=by
 have g1:decide (0<t/128)=false:=by simp;omega
 unfold wh_st
 cases hv<;>cases hk<;>cases hw
 all_goals(
  obtain⟨b',hb'⟩:∃b',b'=m46b1:=⟨_,rfl⟩
  rw[RunL_eq,show Item.lp m46k1 m46b1=Item.lp m46k1 b' by rw[hb']]
  apply hide;intro rhs hrhs
  simp(maxSteps:=4000000)(disch:=first|exact dz|fail)only[bB.u,seval,cut,m46b1,shr64,and127,or128,div14,div7,g1]
  repeat'((with_reducible first|refine sp ?_ ?_|fail)<;>intro hx<;>(try simp only[bI.u]at hx)<;>(first|exact xz|(try simp(maxSteps:=4000000)(disch:=first|exact dz|fail)only[bB.u,seval,cut,hx,m46b1,shr64,and127,or128,div14,div7,g1])))
  all_goals first|exact xz|(subst hrhs;(subst hb';refine(congrArg (fin _) (Run_lp Q _ _ _ _)).trans ?_;exact congrArg (fin R_w) (RunL_canon (canon_cong kr kr kr)))))
theorem wh_7y (K:List Item) (c t:Int) (m:Bool) (v k w:MV) (b bw:List UInt8) (hv:Rb v b) (hk:Rk k) (hw:Rb w bw) (ht:0≤t) (ht2:t<2097152) (out:List UInt8) (ho:out.length≤8) (h:128≤t):fin R_w (RunL Q m46k1 m46b1 K (wh_st c t m v k w out 7))=fin R_w (RunL Q m46k1 m46b1 K (wh_st c t m v k w (out++[UInt8.ofNat (128+t.toNat/128%128)]) 0)):=by
 have g1:decide (0<t/128)=true:=by simp;omega
 have e2:UInt8.ofNat (t/128%128+128).toNat=UInt8.ofNat (128+t.toNat/128%128):=by congr 1;omega
 unfold wh_st
 simp only[List.length_append,List.length_cons,List.length_nil]
 cases hv<;>cases hk<;>cases hw
 all_goals(
  obtain⟨b',hb'⟩:∃b',b'=m46b1:=⟨_,rfl⟩
  rw[RunL_eq,show Item.lp m46k1 m46b1=Item.lp m46k1 b' by rw[hb']]
  apply hide;intro rhs hrhs
  simp(maxSteps:=4000000)(disch:=first|exact dz|fail)only[bB.u,seval,cut,m46b1,shr64,and127,or128,div14,div7,g1,e2]
  repeat'((with_reducible first|refine sp ?_ ?_|fail)<;>intro hx<;>(try simp only[bI.u]at hx)<;>(first|exact xz|(try simp(maxSteps:=4000000)(disch:=first|exact dz|fail)only[bB.u,seval,cut,hx,m46b1,shr64,and127,or128,div14,div7,g1,e2])))
  all_goals first|exact xz|(subst hrhs;(subst hb';refine(congrArg (fin _) (Run_lp Q _ _ _ _)).trans ?_;exact congrArg (fin R_w) (RunL_canon (canon_cong kr kr kr)))))
theorem wh_0 (K:List Item) (c t:Int) (m:Bool) (v k w:MV) (b bw:List UInt8) (hv:Rb v b) (hk:Rk k) (hw:Rb w bw) (ht:0≤t) (ht2:t<2097152) (out:List UInt8) (ho:out.length≤8) (h:31≤t):fin R_w (RunL Q m46k1 m46b1 K (wh_st c t m v k w out 0))=fin R_w (RunL Q m46k1 m46b1 K (wh_st c t m v k w (out++[UInt8.ofNat (t.toNat%128)]) (-7))):=by
 have e0:t/2^(0:Int).toNat=t:=by simp
 have g1:decide (0<t)=true:=by simp;omega
 have e2:UInt8.ofNat (t%128).toNat=UInt8.ofNat (t.toNat%128):=by congr 1;omega
 unfold wh_st
 simp only[List.length_append,List.length_cons,List.length_nil]
 cases hv<;>cases hk<;>cases hw
 all_goals(
  obtain⟨b',hb'⟩:∃b',b'=m46b1:=⟨_,rfl⟩
  rw[RunL_eq,show Item.lp m46k1 m46b1=Item.lp m46k1 b' by rw[hb']]
  apply hide;intro rhs hrhs
  simp(maxSteps:=4000000)(disch:=first|exact dz|fail)only[bB.u,seval,cut,m46b1,shr64,and127,or128,div14,div7,g1,e0,e2,show(0:Int).toNat=0 from rfl,Int.pow_zero,Int.ediv_one,show(2:Int)^0=1 from rfl]
  repeat'((with_reducible first|refine sp ?_ ?_|fail)<;>intro hx<;>(try simp only[bI.u]at hx)<;>(first|exact xz|(try simp(maxSteps:=4000000)(disch:=first|exact dz|fail)only[bB.u,seval,cut,hx,m46b1,shr64,and127,or128,div14,div7,g1,e0,e2,show(0:Int).toNat=0 from rfl,Int.pow_zero,Int.ediv_one,show(2:Int)^0=1 from rfl])))
  all_goals first|exact xz|(subst hrhs;(subst hb';refine(congrArg (fin _) (Run_lp Q _ _ _ _)).trans ?_;exact congrArg (fin R_w) (RunL_canon (canon_cong kr kr kr)))))
theorem wh_all (K:List Item) (b bw:List UInt8) (c t:Int) (m:Bool) (v k w:MV) (hv:Rb v b) (hk:Rk k) (hw:Rb w bw) (h31:31≤t) (ht2:t<2097152):fin R_w (RunL Q m46k1 m46b1 K (wh_st c t m v k w [UInt8.ofNat (first c m+31)] 14))=fin R_w (RunL Q m46k1 m46b1 K (wh_st c t m v k w (tagB c t m) (-7))):=by
 unfold tagB
 rw[if_neg (by omega)]
 by_cases h1:16384≤t
 ·rw[wh_14y K c t m v k w b bw hv hk hw (by omega) ht2 ([UInt8.ofNat (first c m+31)]) (by simp) h1,wh_7y K c t m v k w b bw hv hk hw (by omega) ht2 ([UInt8.ofNat (first c m+31)]++[UInt8.ofNat (128+t.toNat/16384)]) (by simp) (by omega),wh_0 K c t m v k w b bw hv hk hw (by omega) ht2 ([UInt8.ofNat (first c m+31)]++[UInt8.ofNat (128+t.toNat/16384)]++[UInt8.ofNat (128+t.toNat/128%128)]) (by simp) h31,if_pos h1,if_pos (by omega)]
  rfl
 ·rw[wh_14n K c t m v k w b bw hv hk hw (by omega) ht2 ([UInt8.ofNat (first c m+31)]) (by simp) (by omega)]
  by_cases h2:128≤t
  ·rw[wh_7y K c t m v k w b bw hv hk hw (by omega) ht2 ([UInt8.ofNat (first c m+31)]) (by simp) h2,wh_0 K c t m v k w b bw hv hk hw (by omega) ht2 ([UInt8.ofNat (first c m+31)]++[UInt8.ofNat (128+t.toNat/128%128)]) (by simp) h31,if_neg h1,if_pos h2]
   rfl
  ·rw[wh_7n K c t m v k w b bw hv hk hw (by omega) ht2 ([UInt8.ofNat (first c m+31)]) (by simp) (by omega),wh_0 K c t m v k w b bw hv hk hw (by omega) ht2 ([UInt8.ofNat (first c m+31)]) (by simp) h31,if_neg h1,if_neg h2]
   rfl
theorem wh_end (b bw:List UInt8) (c t:Int) (m:Bool) (v k w:MV) (hv:Rb v b) (hk:Rk k) (hw:Rb w bw) (hl:bw.length≤2^30) (out:List UInt8) (ho:out.length≤8):
  fin R_w (RunL Q m46k1 m46b1 [.blk 4,.code wh_rest] (wh_st c t m v k w out (-7)))=some (.tup [.bs (out++(lenB bw.length++bw)),.int .i64 0]):=by
 unfold wh_st lenB
 by_cases l1:bw.length<128
 ·have g1:decide ((bw.length:Int)<128)=true:=by simp;omega
  rw[if_pos l1]
  cases hv<;>cases hk<;>cases hw
  all_goals(
  (try simp only[List.length_nil]at *)
  obtain⟨b',hb'⟩:∃b',b'=m46b1:=⟨_,rfl⟩
  rw[RunL_eq,show Item.lp m46k1 m46b1=Item.lp m46k1 b' by rw[hb']]
  apply hide;intro rhs hrhs
  simp(maxSteps:=4000000)(disch:=first|exact dz|fail)only[bB.u,seval,cut,m46b1,wh_rest,R_w,shr64,u8_wrap,Int.reducePow,g1]
  repeat'((with_reducible first|refine sp ?_ ?_|fail)<;>intro hx<;>(try simp only[bI.u]at hx)<;>(first|exact xz|(try simp(maxSteps:=4000000)(disch:=first|exact dz|fail)only[bB.u,seval,cut,hx,m46b1,wh_rest,R_w,shr64,u8_wrap,Int.reducePow,g1])))
  all_goals first|exact xz|(subst hrhs;(try simp(disch:=omega) only[u8m,tnd1,tnd2,Int.toNat_natCast,List.append_assoc,List.cons_append,List.nil_append,List.append_nil])<;>rfl))
 ·have g1:decide ((bw.length:Int)<128)=false:=by simp;omega
  rw[if_neg l1]
  by_cases l2:bw.length<256
  ·have g2:decide ((bw.length:Int)<256)=true:=by simp;omega
   rw[if_pos l2]
   cases hv<;>cases hk<;>cases hw
   all_goals(
   (try simp only[List.length_nil]at *)
   obtain⟨b',hb'⟩:∃b',b'=m46b1:=⟨_,rfl⟩
   rw[RunL_eq,show Item.lp m46k1 m46b1=Item.lp m46k1 b' by rw[hb']]
   apply hide;intro rhs hrhs
   simp(maxSteps:=4000000)(disch:=first|exact dz|fail)only[bB.u,seval,cut,m46b1,wh_rest,R_w,shr64,u8_wrap,Int.reducePow,g1,g2]
   repeat'((with_reducible first|refine sp ?_ ?_|fail)<;>intro hx<;>(try simp only[bI.u]at hx)<;>(first|exact xz|(try simp(maxSteps:=4000000)(disch:=first|exact dz|fail)only[bB.u,seval,cut,hx,m46b1,wh_rest,R_w,shr64,u8_wrap,Int.reducePow,g1,g2])))
   all_goals first|exact xz|(subst hrhs;(try simp(disch:=omega) only[u8m,tnd1,tnd2,Int.toNat_natCast,List.append_assoc,List.cons_append,List.nil_append,List.append_nil])<;>rfl))
  ·have g2:decide ((bw.length:Int)<256)=false:=by simp;omega
   rw[if_neg l2]
   by_cases l3:bw.length<65536
   ·have g3:decide ((bw.length:Int)<65536)=true:=by simp;omega
    rw[if_pos l3]
    cases hv<;>cases hk<;>cases hw
    all_goals(
    (try simp only[List.length_nil]at *)
    obtain⟨b',hb'⟩:∃b',b'=m46b1:=⟨_,rfl⟩
    rw[RunL_eq,show Item.lp m46k1 m46b1=Item.lp m46k1 b' by rw[hb']]
    apply hide;intro rhs hrhs
    simp(maxSteps:=4000000)(disch:=first|exact dz|fail)only[bB.u,seval,cut,m46b1,wh_rest,R_w,shr64,u8_wrap,Int.reducePow,g1,g2,g3]
    repeat'((with_reducible first|refine sp ?_ ?_|fail)<;>intro hx<;>(try simp only[bI.u]at hx)<;>(first|exact xz|(try simp(maxSteps:=4000000)(disch:=first|exact dz|fail)only[bB.u,seval,cut,hx,m46b1,wh_rest,R_w,shr64,u8_wrap,Int.reducePow,g1,g2,g3])))
    all_goals first|exact xz|(subst hrhs;(try simp(disch:=omega) only[u8m,tnd1,tnd2,Int.toNat_natCast,List.append_assoc,List.cons_append,List.nil_append,List.append_nil])<;>rfl))
   ·have g3:decide ((bw.length:Int)<65536)=false:=by simp;omega
    rw[if_neg l3]
    cases hv<;>cases hk<;>cases hw
    all_goals(
    (try simp only[List.length_nil]at *)
    obtain⟨b',hb'⟩:∃b',b'=m46b1:=⟨_,rfl⟩
    rw[RunL_eq,show Item.lp m46k1 m46b1=Item.lp m46k1 b' by rw[hb']]
    apply hide;intro rhs hrhs
    simp(maxSteps:=4000000)(disch:=first|exact dz|fail)only[bB.u,seval,cut,m46b1,wh_rest,R_w,shr64,u8_wrap,Int.reducePow,g1,g2,g3]
    repeat'((with_reducible first|refine sp ?_ ?_|fail)<;>intro hx<;>(try simp only[bI.u]at hx)<;>(first|exact xz|(try simp(maxSteps:=4000000)(disch:=first|exact dz|fail)only[bB.u,seval,cut,hx,m46b1,wh_rest,R_w,shr64,u8_wrap,Int.reducePow,g1,g2,g3])))
    all_goals first|exact xz|(subst hrhs;(try simp(disch:=omega) only[u8m,tnd1,tnd2,Int.toNat_natCast,List.append_assoc,List.cons_append,List.nil_append,List.append_nil])<;>rfl))
variable {fb:Bool}
theorem tagB_le (c t:Int) (m:Bool):(tagB c t m).length≤8:=by
 unfold tagB
 split
 ·simp
 ·split<;>split<;>simp
theorem w_fh0:IntKind.u8.wrap ((BitVec.ofInt IntKind.u8.bits 0|||BitVec.ofInt IntKind.u8.bits 31).toNat:Int)=31:=rfl
theorem w_fh1:IntKind.u8.wrap ((BitVec.ofInt IntKind.u8.bits 32|||BitVec.ofInt IntKind.u8.bits 31).toNat:Int)=63:=rfl
theorem w_fh2:IntKind.u8.wrap ((BitVec.ofInt IntKind.u8.bits 64|||BitVec.ofInt IntKind.u8.bits 31).toNat:Int)=95:=rfl
theorem w_fh3:IntKind.u8.wrap ((BitVec.ofInt IntKind.u8.bits 96|||BitVec.ofInt IntKind.u8.bits 31).toNat:Int)=127:=rfl
theorem w_fh4:IntKind.u8.wrap ((BitVec.ofInt IntKind.u8.bits 128|||BitVec.ofInt IntKind.u8.bits 31).toNat:Int)=159:=rfl
theorem w_fh5:IntKind.u8.wrap ((BitVec.ofInt IntKind.u8.bits 160|||BitVec.ofInt IntKind.u8.bits 31).toNat:Int)=191:=rfl
theorem w_fh6:IntKind.u8.wrap ((BitVec.ofInt IntKind.u8.bits 192|||BitVec.ofInt IntKind.u8.bits 31).toNat:Int)=223:=rfl
theorem w_fh7:IntKind.u8.wrap ((BitVec.ofInt IntKind.u8.bits 224|||BitVec.ofInt IntKind.u8.bits 31).toNat:Int)=255:=rfl
theorem w_endH_0_0 (t:Int) (v kk:MV) (b:List UInt8) (d n:Nat) (ps:List (List UInt8)) (hv:Rb v b) (hk:Rk kk) (h31:31≤t) (ht2:t<2097152) (hn:ps.length=n) (hn2:n≤2^30) (hp:ps.flatten.length≤2^30) (hb:b.length≤2^30):
  fin R_w (RunL Q m46k0 m46b0 [.blk 2,.code w_tail] (w_st 0 t false v kk d n ps n))=some (.tup [.bs (wOut 0 t false b ps).2,.int .i64 (wOut 0 t false b ps).1]):=by
 have hlt:decide ((n:Int)<(n:Int))=false:=by simp
 have hj:=c_join ps (by omega) (by omega)
 have hso:=c_sorted ps (by omega)
 have hml:(ps.map MV.bs).length=n:=by simp[hn]
 have t31:decide (t<31)=false:=by simp;omega
 have t17:(t==17)=false:=by rw[beq_eq_false_iff_ne];omega
 have hE:=(wh_all [.blk 4,.code wh_rest] b (b) 0 t false v kk (v) hv hk hv h31 ht2).trans (wh_end b (b) 0 t false v kk (v) hv hk hv (by omega) (tagB 0 t false) (tagB_le _ _ _))
 rw[wOut_ok (by rintro⟨_,h,_⟩;omega)]
 unfold w_st
 by_cases h0:n=0
 ·simp only[if_pos h0]
  cases hv<;>cases hk
  all_goals(
   obtain⟨b',hb'⟩:∃b',b'=m46b0:=⟨_,rfl⟩
   rw[RunL_eq,show Item.lp m46k0 m46b0=Item.lp m46k0 b' by rw[hb']]
   apply hide;intro rhs hrhs
   simp(maxSteps:=4000000)(disch:=first|exact dz|fail)only[bB.u,seval,cut,m46b0,R_w,w_tail,hlt,hj,hso,hml,t31,t17,shl6,shr64,u8_wrap,Int.reducePow,w_om0,w_on0,w_fh0,w_fh1,w_fh2,w_fh3,w_fh4,w_fh5,w_fh6,w_fh7,Run_loop]
   repeat'((with_reducible first|refine sp ?_ ?_|fail)<;>intro hx<;>(try simp only[bI.u]at hx)<;>(first|exact xz|(try simp(maxSteps:=4000000)(disch:=first|exact dz|fail)only[bB.u,seval,cut,hx,m46b0,R_w,w_tail,hlt,hj,hso,hml,t31,t17,shl6,shr64,u8_wrap,Int.reducePow,w_om0,w_on0,w_fh0,w_fh1,w_fh2,w_fh3,w_fh4,w_fh5,w_fh6,w_fh7,Run_loop])))
   all_goals first|exact xz|(subst hrhs;exact(congrArg (fin _) (RunL_canon (canon_cong kr kr kr))).trans hE))
 ·simp only[if_neg h0]
  cases hv<;>cases hk
  all_goals(
   obtain⟨b',hb'⟩:∃b',b'=m46b0:=⟨_,rfl⟩
   rw[RunL_eq,show Item.lp m46k0 m46b0=Item.lp m46k0 b' by rw[hb']]
   apply hide;intro rhs hrhs
   simp(maxSteps:=4000000)(disch:=first|exact dz|fail)only[bB.u,seval,cut,m46b0,R_w,w_tail,hlt,hj,hso,hml,t31,t17,shl6,shr64,u8_wrap,Int.reducePow,w_om0,w_on0,w_fh0,w_fh1,w_fh2,w_fh3,w_fh4,w_fh5,w_fh6,w_fh7,Run_loop]
   repeat'((with_reducible first|refine sp ?_ ?_|fail)<;>intro hx<;>(try simp only[bI.u]at hx)<;>(first|exact xz|(try simp(maxSteps:=4000000)(disch:=first|exact dz|fail)only[bB.u,seval,cut,hx,m46b0,R_w,w_tail,hlt,hj,hso,hml,t31,t17,shl6,shr64,u8_wrap,Int.reducePow,w_om0,w_on0,w_fh0,w_fh1,w_fh2,w_fh3,w_fh4,w_fh5,w_fh6,w_fh7,Run_loop])))
   all_goals first|exact xz|(subst hrhs;exact(congrArg (fin _) (RunL_canon (canon_cong kr kr kr))).trans hE))
theorem w_endH_0_1 (t:Int) (v kk:MV) (b:List UInt8) (d n:Nat) (ps:List (List UInt8)) (hv:Rb v b) (hk:Rk kk) (h31:31≤t) (ht2:t<2097152) (hn:ps.length=n) (hn2:n≤2^30) (hp:ps.flatten.length≤2^30) (hb:b.length≤2^30):
  fin R_w (RunL Q m46k0 m46b0 [.blk 2,.code w_tail] (w_st 0 t true v kk d n ps n))=some (.tup [.bs (wOut 0 t true b ps).2,.int .i64 (wOut 0 t true b ps).1]):=by
 have hlt:decide ((n:Int)<(n:Int))=false:=by simp
 have hj:=c_join ps (by omega) (by omega)
 have hso:=c_sorted ps (by omega)
 have hml:(ps.map MV.bs).length=n:=by simp[hn]
 have t31:decide (t<31)=false:=by simp;omega
 have t17:(t==17)=false:=by rw[beq_eq_false_iff_ne];omega
 have hE:=(wh_all [.blk 4,.code wh_rest] b (ps.flatten) 0 t true v kk (.bs ps.flatten) hv hk (.bs _) h31 ht2).trans (wh_end b (ps.flatten) 0 t true v kk (.bs ps.flatten) hv hk (.bs _) (by omega) (tagB 0 t true) (tagB_le _ _ _))
 rw[wOut_ok (by rintro⟨_,h,_⟩;omega)]
 unfold w_st
 by_cases h0:n=0
 ·simp only[if_pos h0]
  cases hv<;>cases hk
  all_goals(
   obtain⟨b',hb'⟩:∃b',b'=m46b0:=⟨_,rfl⟩
   rw[RunL_eq,show Item.lp m46k0 m46b0=Item.lp m46k0 b' by rw[hb']]
   apply hide;intro rhs hrhs
   simp(maxSteps:=4000000)(disch:=first|exact dz|fail)only[bB.u,seval,cut,m46b0,R_w,w_tail,hlt,hj,hso,hml,t31,t17,shl6,shr64,u8_wrap,Int.reducePow,w_om0,w_on0,w_fh0,w_fh1,w_fh2,w_fh3,w_fh4,w_fh5,w_fh6,w_fh7,Run_loop]
   repeat'((with_reducible first|refine sp ?_ ?_|fail)<;>intro hx<;>(try simp only[bI.u]at hx)<;>(first|exact xz|(try simp(maxSteps:=4000000)(disch:=first|exact dz|fail)only[bB.u,seval,cut,hx,m46b0,R_w,w_tail,hlt,hj,hso,hml,t31,t17,shl6,shr64,u8_wrap,Int.reducePow,w_om0,w_on0,w_fh0,w_fh1,w_fh2,w_fh3,w_fh4,w_fh5,w_fh6,w_fh7,Run_loop])))
   all_goals first|exact xz|(subst hrhs;exact(congrArg (fin _) (RunL_canon (canon_cong kr kr kr))).trans hE))
 ·simp only[if_neg h0]
  cases hv<;>cases hk
  all_goals(
   obtain⟨b',hb'⟩:∃b',b'=m46b0:=⟨_,rfl⟩
   rw[RunL_eq,show Item.lp m46k0 m46b0=Item.lp m46k0 b' by rw[hb']]
   apply hide;intro rhs hrhs
   simp(maxSteps:=4000000)(disch:=first|exact dz|fail)only[bB.u,seval,cut,m46b0,R_w,w_tail,hlt,hj,hso,hml,t31,t17,shl6,shr64,u8_wrap,Int.reducePow,w_om0,w_on0,w_fh0,w_fh1,w_fh2,w_fh3,w_fh4,w_fh5,w_fh6,w_fh7,Run_loop]
   repeat'((with_reducible first|refine sp ?_ ?_|fail)<;>intro hx<;>(try simp only[bI.u]at hx)<;>(first|exact xz|(try simp(maxSteps:=4000000)(disch:=first|exact dz|fail)only[bB.u,seval,cut,hx,m46b0,R_w,w_tail,hlt,hj,hso,hml,t31,t17,shl6,shr64,u8_wrap,Int.reducePow,w_om0,w_on0,w_fh0,w_fh1,w_fh2,w_fh3,w_fh4,w_fh5,w_fh6,w_fh7,Run_loop])))
   all_goals first|exact xz|(subst hrhs;exact(congrArg (fin _) (RunL_canon (canon_cong kr kr kr))).trans hE))
theorem w_endH_1_0 (t:Int) (v kk:MV) (b:List UInt8) (d n:Nat) (ps:List (List UInt8)) (hv:Rb v b) (hk:Rk kk) (h31:31≤t) (ht2:t<2097152) (hn:ps.length=n) (hn2:n≤2^30) (hp:ps.flatten.length≤2^30) (hb:b.length≤2^30):
  fin R_w (RunL Q m46k0 m46b0 [.blk 2,.code w_tail] (w_st 1 t false v kk d n ps n))=some (.tup [.bs (wOut 1 t false b ps).2,.int .i64 (wOut 1 t false b ps).1]):=by
 have hlt:decide ((n:Int)<(n:Int))=false:=by simp
 have hj:=c_join ps (by omega) (by omega)
 have hso:=c_sorted ps (by omega)
 have hml:(ps.map MV.bs).length=n:=by simp[hn]
 have t31:decide (t<31)=false:=by simp;omega
 have t17:(t==17)=false:=by rw[beq_eq_false_iff_ne];omega
 have hE:=(wh_all [.blk 4,.code wh_rest] b (b) 1 t false v kk (v) hv hk hv h31 ht2).trans (wh_end b (b) 1 t false v kk (v) hv hk hv (by omega) (tagB 1 t false) (tagB_le _ _ _))
 rw[wOut_ok (by rintro⟨_,h,_⟩;omega)]
 unfold w_st
 by_cases h0:n=0
 ·simp only[if_pos h0]
  cases hv<;>cases hk
  all_goals(
   obtain⟨b',hb'⟩:∃b',b'=m46b0:=⟨_,rfl⟩
   rw[RunL_eq,show Item.lp m46k0 m46b0=Item.lp m46k0 b' by rw[hb']]
   apply hide;intro rhs hrhs
   simp(maxSteps:=4000000)(disch:=first|exact dz|fail)only[bB.u,seval,cut,m46b0,R_w,w_tail,hlt,hj,hso,hml,t31,t17,shl6,shr64,u8_wrap,Int.reducePow,w_om1,w_on1,w_fh0,w_fh1,w_fh2,w_fh3,w_fh4,w_fh5,w_fh6,w_fh7,Run_loop]
   repeat'((with_reducible first|refine sp ?_ ?_|fail)<;>intro hx<;>(try simp only[bI.u]at hx)<;>(first|exact xz|(try simp(maxSteps:=4000000)(disch:=first|exact dz|fail)only[bB.u,seval,cut,hx,m46b0,R_w,w_tail,hlt,hj,hso,hml,t31,t17,shl6,shr64,u8_wrap,Int.reducePow,w_om1,w_on1,w_fh0,w_fh1,w_fh2,w_fh3,w_fh4,w_fh5,w_fh6,w_fh7,Run_loop])))
   all_goals first|exact xz|(subst hrhs;exact(congrArg (fin _) (RunL_canon (canon_cong kr kr kr))).trans hE))
 ·simp only[if_neg h0]
  cases hv<;>cases hk
  all_goals(
   obtain⟨b',hb'⟩:∃b',b'=m46b0:=⟨_,rfl⟩
   rw[RunL_eq,show Item.lp m46k0 m46b0=Item.lp m46k0 b' by rw[hb']]
   apply hide;intro rhs hrhs
   simp(maxSteps:=4000000)(disch:=first|exact dz|fail)only[bB.u,seval,cut,m46b0,R_w,w_tail,hlt,hj,hso,hml,t31,t17,shl6,shr64,u8_wrap,Int.reducePow,w_om1,w_on1,w_fh0,w_fh1,w_fh2,w_fh3,w_fh4,w_fh5,w_fh6,w_fh7,Run_loop]
   repeat'((with_reducible first|refine sp ?_ ?_|fail)<;>intro hx<;>(try simp only[bI.u]at hx)<;>(first|exact xz|(try simp(maxSteps:=4000000)(disch:=first|exact dz|fail)only[bB.u,seval,cut,hx,m46b0,R_w,w_tail,hlt,hj,hso,hml,t31,t17,shl6,shr64,u8_wrap,Int.reducePow,w_om1,w_on1,w_fh0,w_fh1,w_fh2,w_fh3,w_fh4,w_fh5,w_fh6,w_fh7,Run_loop])))
   all_goals first|exact xz|(subst hrhs;exact(congrArg (fin _) (RunL_canon (canon_cong kr kr kr))).trans hE))
theorem w_endH_1_1 (t:Int) (v kk:MV) (b:List UInt8) (d n:Nat) (ps:List (List UInt8)) (hv:Rb v b) (hk:Rk kk) (h31:31≤t) (ht2:t<2097152) (hn:ps.length=n) (hn2:n≤2^30) (hp:ps.flatten.length≤2^30) (hb:b.length≤2^30):
  fin R_w (RunL Q m46k0 m46b0 [.blk 2,.code w_tail] (w_st 1 t true v kk d n ps n))=some (.tup [.bs (wOut 1 t true b ps).2,.int .i64 (wOut 1 t true b ps).1]):=by
 have hlt:decide ((n:Int)<(n:Int))=false:=by simp
 have hj:=c_join ps (by omega) (by omega)
 have hso:=c_sorted ps (by omega)
 have hml:(ps.map MV.bs).length=n:=by simp[hn]
 have t31:decide (t<31)=false:=by simp;omega
 have t17:(t==17)=false:=by rw[beq_eq_false_iff_ne];omega
 have hE:=(wh_all [.blk 4,.code wh_rest] b (ps.flatten) 1 t true v kk (.bs ps.flatten) hv hk (.bs _) h31 ht2).trans (wh_end b (ps.flatten) 1 t true v kk (.bs ps.flatten) hv hk (.bs _) (by omega) (tagB 1 t true) (tagB_le _ _ _))
 rw[wOut_ok (by rintro⟨_,h,_⟩;omega)]
 unfold w_st
 by_cases h0:n=0
 ·simp only[if_pos h0]
  cases hv<;>cases hk
  all_goals(
   obtain⟨b',hb'⟩:∃b',b'=m46b0:=⟨_,rfl⟩
   rw[RunL_eq,show Item.lp m46k0 m46b0=Item.lp m46k0 b' by rw[hb']]
   apply hide;intro rhs hrhs
   simp(maxSteps:=4000000)(disch:=first|exact dz|fail)only[bB.u,seval,cut,m46b0,R_w,w_tail,hlt,hj,hso,hml,t31,t17,shl6,shr64,u8_wrap,Int.reducePow,w_om1,w_on1,w_fh0,w_fh1,w_fh2,w_fh3,w_fh4,w_fh5,w_fh6,w_fh7,Run_loop]
   repeat'((with_reducible first|refine sp ?_ ?_|fail)<;>intro hx<;>(try simp only[bI.u]at hx)<;>(first|exact xz|(try simp(maxSteps:=4000000)(disch:=first|exact dz|fail)only[bB.u,seval,cut,hx,m46b0,R_w,w_tail,hlt,hj,hso,hml,t31,t17,shl6,shr64,u8_wrap,Int.reducePow,w_om1,w_on1,w_fh0,w_fh1,w_fh2,w_fh3,w_fh4,w_fh5,w_fh6,w_fh7,Run_loop])))
   all_goals first|exact xz|(subst hrhs;exact(congrArg (fin _) (RunL_canon (canon_cong kr kr kr))).trans hE))
 ·simp only[if_neg h0]
  cases hv<;>cases hk
  all_goals(
   obtain⟨b',hb'⟩:∃b',b'=m46b0:=⟨_,rfl⟩
   rw[RunL_eq,show Item.lp m46k0 m46b0=Item.lp m46k0 b' by rw[hb']]
   apply hide;intro rhs hrhs
   simp(maxSteps:=4000000)(disch:=first|exact dz|fail)only[bB.u,seval,cut,m46b0,R_w,w_tail,hlt,hj,hso,hml,t31,t17,shl6,shr64,u8_wrap,Int.reducePow,w_om1,w_on1,w_fh0,w_fh1,w_fh2,w_fh3,w_fh4,w_fh5,w_fh6,w_fh7,Run_loop]
   repeat'((with_reducible first|refine sp ?_ ?_|fail)<;>intro hx<;>(try simp only[bI.u]at hx)<;>(first|exact xz|(try simp(maxSteps:=4000000)(disch:=first|exact dz|fail)only[bB.u,seval,cut,hx,m46b0,R_w,w_tail,hlt,hj,hso,hml,t31,t17,shl6,shr64,u8_wrap,Int.reducePow,w_om1,w_on1,w_fh0,w_fh1,w_fh2,w_fh3,w_fh4,w_fh5,w_fh6,w_fh7,Run_loop])))
   all_goals first|exact xz|(subst hrhs;exact(congrArg (fin _) (RunL_canon (canon_cong kr kr kr))).trans hE))
theorem w_endH_2_0 (t:Int) (v kk:MV) (b:List UInt8) (d n:Nat) (ps:List (List UInt8)) (hv:Rb v b) (hk:Rk kk) (h31:31≤t) (ht2:t<2097152) (hn:ps.length=n) (hn2:n≤2^30) (hp:ps.flatten.length≤2^30) (hb:b.length≤2^30):
  fin R_w (RunL Q m46k0 m46b0 [.blk 2,.code w_tail] (w_st 2 t false v kk d n ps n))=some (.tup [.bs (wOut 2 t false b ps).2,.int .i64 (wOut 2 t false b ps).1]):=by
 have hlt:decide ((n:Int)<(n:Int))=false:=by simp
 have hj:=c_join ps (by omega) (by omega)
 have hso:=c_sorted ps (by omega)
 have hml:(ps.map MV.bs).length=n:=by simp[hn]
 have t31:decide (t<31)=false:=by simp;omega
 have t17:(t==17)=false:=by rw[beq_eq_false_iff_ne];omega
 have hE:=(wh_all [.blk 4,.code wh_rest] b (b) 2 t false v kk (v) hv hk hv h31 ht2).trans (wh_end b (b) 2 t false v kk (v) hv hk hv (by omega) (tagB 2 t false) (tagB_le _ _ _))
 rw[wOut_ok (by rintro⟨_,h,_⟩;omega)]
 unfold w_st
 by_cases h0:n=0
 ·simp only[if_pos h0]
  cases hv<;>cases hk
  all_goals(
   obtain⟨b',hb'⟩:∃b',b'=m46b0:=⟨_,rfl⟩
   rw[RunL_eq,show Item.lp m46k0 m46b0=Item.lp m46k0 b' by rw[hb']]
   apply hide;intro rhs hrhs
   simp(maxSteps:=4000000)(disch:=first|exact dz|fail)only[bB.u,seval,cut,m46b0,R_w,w_tail,hlt,hj,hso,hml,t31,t17,shl6,shr64,u8_wrap,Int.reducePow,w_om2,w_on2,w_fh0,w_fh1,w_fh2,w_fh3,w_fh4,w_fh5,w_fh6,w_fh7,Run_loop]
   repeat'((with_reducible first|refine sp ?_ ?_|fail)<;>intro hx<;>(try simp only[bI.u]at hx)<;>(first|exact xz|(try simp(maxSteps:=4000000)(disch:=first|exact dz|fail)only[bB.u,seval,cut,hx,m46b0,R_w,w_tail,hlt,hj,hso,hml,t31,t17,shl6,shr64,u8_wrap,Int.reducePow,w_om2,w_on2,w_fh0,w_fh1,w_fh2,w_fh3,w_fh4,w_fh5,w_fh6,w_fh7,Run_loop])))
   all_goals first|exact xz|(subst hrhs;exact(congrArg (fin _) (RunL_canon (canon_cong kr kr kr))).trans hE))
 ·simp only[if_neg h0]
  cases hv<;>cases hk
  all_goals(
   obtain⟨b',hb'⟩:∃b',b'=m46b0:=⟨_,rfl⟩
   rw[RunL_eq,show Item.lp m46k0 m46b0=Item.lp m46k0 b' by rw[hb']]
   apply hide;intro rhs hrhs
   simp(maxSteps:=4000000)(disch:=first|exact dz|fail)only[bB.u,seval,cut,m46b0,R_w,w_tail,hlt,hj,hso,hml,t31,t17,shl6,shr64,u8_wrap,Int.reducePow,w_om2,w_on2,w_fh0,w_fh1,w_fh2,w_fh3,w_fh4,w_fh5,w_fh6,w_fh7,Run_loop]
   repeat'((with_reducible first|refine sp ?_ ?_|fail)<;>intro hx<;>(try simp only[bI.u]at hx)<;>(first|exact xz|(try simp(maxSteps:=4000000)(disch:=first|exact dz|fail)only[bB.u,seval,cut,hx,m46b0,R_w,w_tail,hlt,hj,hso,hml,t31,t17,shl6,shr64,u8_wrap,Int.reducePow,w_om2,w_on2,w_fh0,w_fh1,w_fh2,w_fh3,w_fh4,w_fh5,w_fh6,w_fh7,Run_loop])))
   all_goals first|exact xz|(subst hrhs;exact(congrArg (fin _) (RunL_canon (canon_cong kr kr kr))).trans hE))
theorem w_endH_2_1 (t:Int) (v kk:MV) (b:List UInt8) (d n:Nat) (ps:List (List UInt8)) (hv:Rb v b) (hk:Rk kk) (h31:31≤t) (ht2:t<2097152) (hn:ps.length=n) (hn2:n≤2^30) (hp:ps.flatten.length≤2^30) (hb:b.length≤2^30):
  fin R_w (RunL Q m46k0 m46b0 [.blk 2,.code w_tail] (w_st 2 t true v kk d n ps n))=some (.tup [.bs (wOut 2 t true b ps).2,.int .i64 (wOut 2 t true b ps).1]):=by
 have hlt:decide ((n:Int)<(n:Int))=false:=by simp
 have hj:=c_join ps (by omega) (by omega)
 have hso:=c_sorted ps (by omega)
 have hml:(ps.map MV.bs).length=n:=by simp[hn]
 have t31:decide (t<31)=false:=by simp;omega
 have t17:(t==17)=false:=by rw[beq_eq_false_iff_ne];omega
 have hE:=(wh_all [.blk 4,.code wh_rest] b (ps.flatten) 2 t true v kk (.bs ps.flatten) hv hk (.bs _) h31 ht2).trans (wh_end b (ps.flatten) 2 t true v kk (.bs ps.flatten) hv hk (.bs _) (by omega) (tagB 2 t true) (tagB_le _ _ _))
 rw[wOut_ok (by rintro⟨_,h,_⟩;omega)]
 unfold w_st
 by_cases h0:n=0
 ·simp only[if_pos h0]
  cases hv<;>cases hk
  all_goals(
   obtain⟨b',hb'⟩:∃b',b'=m46b0:=⟨_,rfl⟩
   rw[RunL_eq,show Item.lp m46k0 m46b0=Item.lp m46k0 b' by rw[hb']]
   apply hide;intro rhs hrhs
   simp(maxSteps:=4000000)(disch:=first|exact dz|fail)only[bB.u,seval,cut,m46b0,R_w,w_tail,hlt,hj,hso,hml,t31,t17,shl6,shr64,u8_wrap,Int.reducePow,w_om2,w_on2,w_fh0,w_fh1,w_fh2,w_fh3,w_fh4,w_fh5,w_fh6,w_fh7,Run_loop]
   repeat'((with_reducible first|refine sp ?_ ?_|fail)<;>intro hx<;>(try simp only[bI.u]at hx)<;>(first|exact xz|(try simp(maxSteps:=4000000)(disch:=first|exact dz|fail)only[bB.u,seval,cut,hx,m46b0,R_w,w_tail,hlt,hj,hso,hml,t31,t17,shl6,shr64,u8_wrap,Int.reducePow,w_om2,w_on2,w_fh0,w_fh1,w_fh2,w_fh3,w_fh4,w_fh5,w_fh6,w_fh7,Run_loop])))
   all_goals first|exact xz|(subst hrhs;exact(congrArg (fin _) (RunL_canon (canon_cong kr kr kr))).trans hE))
 ·simp only[if_neg h0]
  cases hv<;>cases hk
  all_goals(
   obtain⟨b',hb'⟩:∃b',b'=m46b0:=⟨_,rfl⟩
   rw[RunL_eq,show Item.lp m46k0 m46b0=Item.lp m46k0 b' by rw[hb']]
   apply hide;intro rhs hrhs
   simp(maxSteps:=4000000)(disch:=first|exact dz|fail)only[bB.u,seval,cut,m46b0,R_w,w_tail,hlt,hj,hso,hml,t31,t17,shl6,shr64,u8_wrap,Int.reducePow,w_om2,w_on2,w_fh0,w_fh1,w_fh2,w_fh3,w_fh4,w_fh5,w_fh6,w_fh7,Run_loop]
   repeat'((with_reducible first|refine sp ?_ ?_|fail)<;>intro hx<;>(try simp only[bI.u]at hx)<;>(first|exact xz|(try simp(maxSteps:=4000000)(disch:=first|exact dz|fail)only[bB.u,seval,cut,hx,m46b0,R_w,w_tail,hlt,hj,hso,hml,t31,t17,shl6,shr64,u8_wrap,Int.reducePow,w_om2,w_on2,w_fh0,w_fh1,w_fh2,w_fh3,w_fh4,w_fh5,w_fh6,w_fh7,Run_loop])))
   all_goals first|exact xz|(subst hrhs;exact(congrArg (fin _) (RunL_canon (canon_cong kr kr kr))).trans hE))
theorem w_endH_3_0 (t:Int) (v kk:MV) (b:List UInt8) (d n:Nat) (ps:List (List UInt8)) (hv:Rb v b) (hk:Rk kk) (h31:31≤t) (ht2:t<2097152) (hn:ps.length=n) (hn2:n≤2^30) (hp:ps.flatten.length≤2^30) (hb:b.length≤2^30):
  fin R_w (RunL Q m46k0 m46b0 [.blk 2,.code w_tail] (w_st 3 t false v kk d n ps n))=some (.tup [.bs (wOut 3 t false b ps).2,.int .i64 (wOut 3 t false b ps).1]):=by
 have hlt:decide ((n:Int)<(n:Int))=false:=by simp
 have hj:=c_join ps (by omega) (by omega)
 have hso:=c_sorted ps (by omega)
 have hml:(ps.map MV.bs).length=n:=by simp[hn]
 have t31:decide (t<31)=false:=by simp;omega
 have t17:(t==17)=false:=by rw[beq_eq_false_iff_ne];omega
 have hE:=(wh_all [.blk 4,.code wh_rest] b (b) 3 t false v kk (v) hv hk hv h31 ht2).trans (wh_end b (b) 3 t false v kk (v) hv hk hv (by omega) (tagB 3 t false) (tagB_le _ _ _))
 rw[wOut_ok (by rintro⟨_,h,_⟩;omega)]
 unfold w_st
 by_cases h0:n=0
 ·simp only[if_pos h0]
  cases hv<;>cases hk
  all_goals(
   obtain⟨b',hb'⟩:∃b',b'=m46b0:=⟨_,rfl⟩
   rw[RunL_eq,show Item.lp m46k0 m46b0=Item.lp m46k0 b' by rw[hb']]
   apply hide;intro rhs hrhs
   simp(maxSteps:=4000000)(disch:=first|exact dz|fail)only[bB.u,seval,cut,m46b0,R_w,w_tail,hlt,hj,hso,hml,t31,t17,shl6,shr64,u8_wrap,Int.reducePow,w_om3,w_on3,w_fh0,w_fh1,w_fh2,w_fh3,w_fh4,w_fh5,w_fh6,w_fh7,Run_loop]
   repeat'((with_reducible first|refine sp ?_ ?_|fail)<;>intro hx<;>(try simp only[bI.u]at hx)<;>(first|exact xz|(try simp(maxSteps:=4000000)(disch:=first|exact dz|fail)only[bB.u,seval,cut,hx,m46b0,R_w,w_tail,hlt,hj,hso,hml,t31,t17,shl6,shr64,u8_wrap,Int.reducePow,w_om3,w_on3,w_fh0,w_fh1,w_fh2,w_fh3,w_fh4,w_fh5,w_fh6,w_fh7,Run_loop])))
   all_goals first|exact xz|(subst hrhs;exact(congrArg (fin _) (RunL_canon (canon_cong kr kr kr))).trans hE))
 ·simp only[if_neg h0]
  cases hv<;>cases hk
  all_goals(
   obtain⟨b',hb'⟩:∃b',b'=m46b0:=⟨_,rfl⟩
   rw[RunL_eq,show Item.lp m46k0 m46b0=Item.lp m46k0 b' by rw[hb']]
   apply hide;intro rhs hrhs
   simp(maxSteps:=4000000)(disch:=first|exact dz|fail)only[bB.u,seval,cut,m46b0,R_w,w_tail,hlt,hj,hso,hml,t31,t17,shl6,shr64,u8_wrap,Int.reducePow,w_om3,w_on3,w_fh0,w_fh1,w_fh2,w_fh3,w_fh4,w_fh5,w_fh6,w_fh7,Run_loop]
   repeat'((with_reducible first|refine sp ?_ ?_|fail)<;>intro hx<;>(try simp only[bI.u]at hx)<;>(first|exact xz|(try simp(maxSteps:=4000000)(disch:=first|exact dz|fail)only[bB.u,seval,cut,hx,m46b0,R_w,w_tail,hlt,hj,hso,hml,t31,t17,shl6,shr64,u8_wrap,Int.reducePow,w_om3,w_on3,w_fh0,w_fh1,w_fh2,w_fh3,w_fh4,w_fh5,w_fh6,w_fh7,Run_loop])))
   all_goals first|exact xz|(subst hrhs;exact(congrArg (fin _) (RunL_canon (canon_cong kr kr kr))).trans hE))
theorem w_endH_3_1 (t:Int) (v kk:MV) (b:List UInt8) (d n:Nat) (ps:List (List UInt8)) (hv:Rb v b) (hk:Rk kk) (h31:31≤t) (ht2:t<2097152) (hn:ps.length=n) (hn2:n≤2^30) (hp:ps.flatten.length≤2^30) (hb:b.length≤2^30):
  fin R_w (RunL Q m46k0 m46b0 [.blk 2,.code w_tail] (w_st 3 t true v kk d n ps n))=some (.tup [.bs (wOut 3 t true b ps).2,.int .i64 (wOut 3 t true b ps).1]):=by
 have hlt:decide ((n:Int)<(n:Int))=false:=by simp
 have hj:=c_join ps (by omega) (by omega)
 have hso:=c_sorted ps (by omega)
 have hml:(ps.map MV.bs).length=n:=by simp[hn]
 have t31:decide (t<31)=false:=by simp;omega
 have t17:(t==17)=false:=by rw[beq_eq_false_iff_ne];omega
 have hE:=(wh_all [.blk 4,.code wh_rest] b (ps.flatten) 3 t true v kk (.bs ps.flatten) hv hk (.bs _) h31 ht2).trans (wh_end b (ps.flatten) 3 t true v kk (.bs ps.flatten) hv hk (.bs _) (by omega) (tagB 3 t true) (tagB_le _ _ _))
 rw[wOut_ok (by rintro⟨_,h,_⟩;omega)]
 unfold w_st
 by_cases h0:n=0
 ·simp only[if_pos h0]
  cases hv<;>cases hk
  all_goals(
   obtain⟨b',hb'⟩:∃b',b'=m46b0:=⟨_,rfl⟩
   rw[RunL_eq,show Item.lp m46k0 m46b0=Item.lp m46k0 b' by rw[hb']]
   apply hide;intro rhs hrhs
   simp(maxSteps:=4000000)(disch:=first|exact dz|fail)only[bB.u,seval,cut,m46b0,R_w,w_tail,hlt,hj,hso,hml,t31,t17,shl6,shr64,u8_wrap,Int.reducePow,w_om3,w_on3,w_fh0,w_fh1,w_fh2,w_fh3,w_fh4,w_fh5,w_fh6,w_fh7,Run_loop]
   repeat'((with_reducible first|refine sp ?_ ?_|fail)<;>intro hx<;>(try simp only[bI.u]at hx)<;>(first|exact xz|(try simp(maxSteps:=4000000)(disch:=first|exact dz|fail)only[bB.u,seval,cut,hx,m46b0,R_w,w_tail,hlt,hj,hso,hml,t31,t17,shl6,shr64,u8_wrap,Int.reducePow,w_om3,w_on3,w_fh0,w_fh1,w_fh2,w_fh3,w_fh4,w_fh5,w_fh6,w_fh7,Run_loop])))
   all_goals first|exact xz|(subst hrhs;exact(congrArg (fin _) (RunL_canon (canon_cong kr kr kr))).trans hE))
 ·simp only[if_neg h0]
  cases hv<;>cases hk
  all_goals(
   obtain⟨b',hb'⟩:∃b',b'=m46b0:=⟨_,rfl⟩
   rw[RunL_eq,show Item.lp m46k0 m46b0=Item.lp m46k0 b' by rw[hb']]
   apply hide;intro rhs hrhs
   simp(maxSteps:=4000000)(disch:=first|exact dz|fail)only[bB.u,seval,cut,m46b0,R_w,w_tail,hlt,hj,hso,hml,t31,t17,shl6,shr64,u8_wrap,Int.reducePow,w_om3,w_on3,w_fh0,w_fh1,w_fh2,w_fh3,w_fh4,w_fh5,w_fh6,w_fh7,Run_loop]
   repeat'((with_reducible first|refine sp ?_ ?_|fail)<;>intro hx<;>(try simp only[bI.u]at hx)<;>(first|exact xz|(try simp(maxSteps:=4000000)(disch:=first|exact dz|fail)only[bB.u,seval,cut,hx,m46b0,R_w,w_tail,hlt,hj,hso,hml,t31,t17,shl6,shr64,u8_wrap,Int.reducePow,w_om3,w_on3,w_fh0,w_fh1,w_fh2,w_fh3,w_fh4,w_fh5,w_fh6,w_fh7,Run_loop])))
   all_goals first|exact xz|(subst hrhs;exact(congrArg (fin _) (RunL_canon (canon_cong kr kr kr))).trans hE))
theorem w_endA (c t:Int) (m:Bool) (v kk:MV) (b:List UInt8) (d n:Nat) (ps:List (List UInt8)) (hv:Rb v b) (hk:Rk kk) (h0:0≤c) (h3:c≤3) (ht:0≤t) (ht2:t<2097152) (hn:ps.length=n) (hn2:n≤2^30) (hp:ps.flatten.length≤2^30) (hb:b.length≤2^30):
  fin R_w (RunL Q m46k0 m46b0 [.blk 2,.code w_tail] (w_st c t m v kk d n ps n))=some (.tup [.bs (wOut c t m b ps).2,.int .i64 (wOut c t m b ps).1]):=by
 by_cases h31:t<31
 ·exact w_end c t m v kk b d n ps hv hk h0 h3 ht h31 hn hn2 hp hb
 have h31:31≤t:=by omega
 have hc:c=0∨c=1∨c=2∨c=3:=by omega
 rcases hc with rfl|rfl|rfl|rfl<;>cases m
 ·exact w_endH_0_0 t v kk b d n ps hv hk h31 ht2 hn hn2 hp hb
 ·exact w_endH_0_1 t v kk b d n ps hv hk h31 ht2 hn hn2 hp hb
 ·exact w_endH_1_0 t v kk b d n ps hv hk h31 ht2 hn hn2 hp hb
 ·exact w_endH_1_1 t v kk b d n ps hv hk h31 ht2 hn hn2 hp hb
 ·exact w_endH_2_0 t v kk b d n ps hv hk h31 ht2 hn hn2 hp hb
 ·exact w_endH_2_1 t v kk b d n ps hv hk h31 ht2 hn hn2 hp hb
 ·exact w_endH_3_0 t v kk b d n ps hv hk h31 ht2 hn hn2 hp hb
 ·exact w_endH_3_1 t v kk b d n ps hv hk h31 ht2 hn hn2 hp hb
theorem w_bothA (c t:Int) (m:Bool) (v kk:MV) (b:List UInt8) (d:Nat) (kl:List MV) (ks:List T) (hv:Rb v b) (hk:Rk kk) (hk2:(kk= .sl 5 kl∨kk= .fsl 5 kl)∧Wl fb kl ks∨ks=[]) (h0:0≤c) (h3:c≤3) (ht:0≤t) (ht2:t<2097152) (hd:d≤16) (hs:szs ks≤2^30) (hb:b.length≤2^30)
  (ih:∀t v,t∈ks→Wv fb v t→Call Q 46 [v,.int .i64 ((d+1:Nat):Int)]=some (.tup [.bs (wr (d+1) t).2,.int .i64 (wr (d+1) t).1])):
  fin R_w (RunL Q m46k0 m46b0 [.blk 2,.code w_tail] (w_st c t m v kk d ks.length [] 0))=if(wrs (d+1) ks).1≠0 then some (.tup [.bs [],.int .i64 (wrs (d+1) ks).1])else some (.tup [.bs (wOut c t m b (wrs (d+1) ks).2).2,.int .i64 (wOut c t m b (wrs (d+1) ks).2).1]):=by
 have hkl:=szs_len ks
 rw[w_loop [.blk 2,.code w_tail] c t m v kk d kl ks hv.form hk2 hs hd ih]
 have hfl:=wrs_len (d+1) ks
 by_cases h:(wrs (d+1) ks).1=0
 ·rw[if_neg (by simpa using h),if_neg (by simpa using h)]
  exact w_endA c t m v kk b d ks.length _ hv hk h0 h3 ht ht2 (wrs_cnt (d+1) ks h) (by omega) (by omega) hb
 ·rw[if_pos h,if_pos h]
theorem c_writeA (N:Nat):∀(t:T) (v:MV) (d:Nat),sz t≤N→N≤2^30→Wv fb v t→d≤17→Call Q 46 [v,.int .i64 (d:Nat)]=some (.tup [.bs (wr d t).2,.int .i64 (wr d t).1]):=by
 induction N with
 |zero=>intro t v d hs;cases t;rw[sz]at hs;omega
 |succ N ih=>
  intro T0 v d hs hN hv hd
  by_cases hd17:d=17
  ·exact c_write_deep v T0 hv d hd17
  have hd:d≤16:=by omega
  obtain⟨c,t,m,b,ks⟩:=T0
  rw[sz]at hs
  rw[wr]
  cases hr:rangeB c t
  rotate_left
  ·rw[c_write_range v c t m b ks hv d hd hr,wrK,if_neg (by omega),if_pos hr]
  by_cases he:formE c t m b=0
  rotate_left
  ·have hw:∀q e ps,wrK d c t m b q e ps=(if formE c t m b=21 then 21 else 24,[]):=by
    intro q e ps
    rw[wrK,if_neg (by omega),hr,if_neg (by simp)]
    split
    ·rfl
    ·rw[if_pos (.inl he)]
   rw[c_write_form v c t m b ks hv (by omega) d hd hr _ rfl he,hw]
  by_cases hx:(m=true∧b≠[])∨(m=false∧ks≠[])
  ·rw[c_write_kids v c t m b ks hv (by omega) d hd hr he hx (by omega),wrK,if_neg (by omega),hr,if_neg (by simp),he,if_neg (by decide),if_pos (.inr (hx.imp id fun h=>⟨h.1,by cases ks with|nil=>exact absurd rfl h.2|cons x r=>rfl⟩))]
  have hW:∀e ps,wrK d c t m b (!ks.isEmpty) e ps=if e≠0 then(e,[])else wOut c t m b ps:=by
   intro e ps
   rw[wrK,if_neg (by omega),hr,if_neg (by simp),he,if_neg (by decide),if_neg]
   ·rfl
   rintro(h|h|h)
   ·exact h rfl
   ·exact hx (.inl h)
   ·exact hx (.inr ⟨h.1,by rintro rfl;simp at h⟩)
  rw[hW]
  clear hW
  have hkl:=szs_len ks
  have hbl:b.length≤2^47:=by omega
  have h1:decide (16<(d:Int))=false:=by simp;omega
  have hr':=hr
  unfold rangeB at hr'
  simp only[Bool.or_eq_false_iff]at hr'
  obtain⟨⟨⟨r1,r2⟩,r3⟩,r4⟩:=hr'
  cases hv with
  | @mk _ _ _ _ v k _ _ hb hk=>
  have hf:=c_form c t m v k b hb (by cases hk<;>constructor) hbl
  rw[he]at hf
  have hRk:Rk k:=by cases hk<;>constructor
  have ih':∀t v,t∈ks→Wv fb v t→Call Q 46 [v,.int .i64 ((d+1:Nat):Int)]=some (.tup [.bs (wr (d+1) t).2,.int .i64 (wr (d+1) t).1]):=by
   intro t' v' hm hv'
   have:=szs_mem hm
   exact ih t' v' (d+1) (by omega) (by omega) hv' (by omega)
  have hB:∀kl,((k= .sl 5 kl∨k= .fsl 5 kl)∧Wl fb kl ks∨ks=[])→fin R_w (RunL Q m46k0 m46b0 [.blk 2,.code w_tail] (w_st c t m v k d ks.length [] 0))=some (.tup [.bs (if(wrs (d+1) ks).1≠0 then((wrs (d+1) ks).1,[])else wOut c t m b (wrs (d+1) ks).2).2,.int .i64 (if(wrs (d+1) ks).1≠0 then((wrs (d+1) ks).1,[])else wOut c t m b (wrs (d+1) ks).2).1]):=by
   intro kl h2
   simp only[decide_eq_false_iff_not]at r1 r2 r3 r4
   rw[w_bothA c t m v k b d kl ks hb hRk h2 (by omega) (by omega) (by omega) (by omega) hd (by omega) (by omega) ih']
   split<;>rfl
  have hxm:m=true→b=[]:=fun hm=>by cases b with|nil=>rfl|cons x r=>exact absurd (.inl ⟨hm,by simp⟩) hx
  have hxk:m=false→ks=[]:=fun hm=>by cases ks with|nil=>rfl|cons x r=>exact absurd (.inr ⟨hm,by simp⟩) hx
  rw[Call_fn Q (m:=m46) rfl rfl]
  clear hx ih ih'
  cases hk with
  |nil=>
   have hB:=hB [] (.inr rfl)
   cases hb<;>cases m
   all_goals(try(have hb0:=hxm rfl;subst hb0))
   all_goals(
    apply hide;intro rhs hrhs
    simp(maxSteps:=4000000)(disch:=first|exact dz|fail)only[bB.u,seval,cut,m46,Run_loop,hf,h1,r1,r2,r3,r4]
    repeat'((with_reducible first|refine sp ?_ ?_|fail)<;>intro hx<;>(try simp only[bI.u]at hx)<;>(first|exact xz|(try simp(maxSteps:=4000000)(disch:=first|exact dz|fail)only[bB.u,seval,cut,hx,m46,Run_loop,hf,h1,r1,r2,r3,r4])))
    all_goals first|exact xz|(subst hrhs;exact(congrArg (fin _) (RunL_canon (canon_cong kr kr kr))).trans hB))
  | @sl _ l _ hl=>
   have hB:=hB l (.inl ⟨.inl rfl,hl⟩)
   have hll:=hl.length
   cases hb<;>cases m
   all_goals(try(have hb0:=hxm rfl;subst hb0))
   all_goals(try(have hk0:=hxk rfl;subst hk0;cases hl))
   all_goals(
    apply hide;intro rhs hrhs
    simp(maxSteps:=4000000)(disch:=first|exact dz|fail)only[bB.u,seval,cut,m46,Run_loop,hf,h1,r1,r2,r3,r4,hll]
    repeat'((with_reducible first|refine sp ?_ ?_|fail)<;>intro hx<;>(try simp only[bI.u]at hx)<;>(first|exact xz|(try simp(maxSteps:=4000000)(disch:=first|exact dz|fail)only[bB.u,seval,cut,hx,m46,Run_loop,hf,h1,r1,r2,r3,r4,hll])))
    all_goals first|exact xz|(subst hrhs;exact(congrArg (fin _) (RunL_canon (canon_cong kr kr kr))).trans hB))
  | @fsl l _ hl=>
   have hB:=hB l (.inl ⟨.inr rfl,hl⟩)
   have hll:=hl.length
   cases hb<;>cases m
   all_goals(try(have hb0:=hxm rfl;subst hb0))
   all_goals(try(have hk0:=hxk rfl;subst hk0;cases hl))
   all_goals(
    apply hide;intro rhs hrhs
    simp(maxSteps:=4000000)(disch:=first|exact dz|fail)only[bB.u,seval,cut,m46,Run_loop,hf,h1,r1,r2,r3,r4,hll]
    repeat'((with_reducible first|refine sp ?_ ?_|fail)<;>intro hx<;>(try simp only[bI.u]at hx)<;>(first|exact xz|(try simp(maxSteps:=4000000)(disch:=first|exact dz|fail)only[bB.u,seval,cut,hx,m46,Run_loop,hf,h1,r1,r2,r3,r4,hll])))
    all_goals first|exact xz|(subst hrhs;exact(congrArg (fin _) (RunL_canon (canon_cong kr kr kr))).trans hB))
variable {fb:Bool}
def wrW (t:T):Int × List UInt8:=if(wr 0 t).1≠0 then((wr 0 t).1,[])else if 65536<(wr 0 t).2.length then(54,[])else(0,(wr 0 t).2)
theorem c_WriteA (v:MV) (t:T) (hv:Wv fb v t) (hs:sz t≤2^30):Call Q 19 [v]=some (.tup [.bs (wrW t).2,.int .i64 (wrW t).1]):=by
 have hw:=c_writeA (2^30) t v 0 hs (by omega) hv (by omega)
 rw[show((0:Nat):Int)=0 from rfl]at hw
 have hlen:=wr_len 0 t
 unfold wrW
 cases hv with
 | @mk _ c t m v k b ks hb hk=>
 generalize wr 0 (T.mk c t m b ks)=w at hw hlen ⊢
 obtain⟨e,bs⟩:=w
 simp only at hw hlen ⊢
 by_cases he:e=0
 rotate_left
 ·rw[if_pos he]
  have he':(e==0)=false:=by simpa using he
  rw[Call_fn Q (m:=m19) rfl rfl]
  cases hb<;>cases hk
  all_goals(
  apply hide;intro rhs hrhs
  simp(maxSteps:=4000000)(disch:=first|exact dz|fail)only[bB.u,seval,cut,m19,hw,he']
  repeat'((with_reducible first|refine sp ?_ ?_|fail)<;>intro hx<;>(try simp only[bI.u]at hx)<;>(first|exact xz|(try simp(maxSteps:=4000000)(disch:=first|exact dz|fail)only[bB.u,seval,cut,hx,m19,hw,he'])))
  all_goals first|exact xz|(subst hrhs;rfl))
 ·subst he
  rw[if_neg (by simp)]
  by_cases hb2:65536<bs.length
  ·rw[if_pos hb2]
   have hb':decide (65536<(bs.length:Int))=true:=by simp;omega
   rw[Call_fn Q (m:=m19) rfl rfl]
   cases hb<;>cases hk
   all_goals(
   apply hide;intro rhs hrhs
   simp(maxSteps:=4000000)(disch:=first|exact dz|fail)only[bB.u,seval,cut,m19,hw,hb']
   repeat'((with_reducible first|refine sp ?_ ?_|fail)<;>intro hx<;>(try simp only[bI.u]at hx)<;>(first|exact xz|(try simp(maxSteps:=4000000)(disch:=first|exact dz|fail)only[bB.u,seval,cut,hx,m19,hw,hb'])))
   all_goals first|exact xz|(subst hrhs;rfl))
  ·rw[if_neg hb2]
   have hb':decide (65536<(bs.length:Int))=false:=by simp;omega
   rw[Call_fn Q (m:=m19) rfl rfl]
   cases hb<;>cases hk
   all_goals(
   apply hide;intro rhs hrhs
   simp(maxSteps:=4000000)(disch:=first|exact dz|fail)only[bB.u,seval,cut,m19,hw,hb']
   repeat'((with_reducible first|refine sp ?_ ?_|fail)<;>intro hx<;>(try simp only[bI.u]at hx)<;>(first|exact xz|(try simp(maxSteps:=4000000)(disch:=first|exact dz|fail)only[bB.u,seval,cut,hx,m19,hw,hb'])))
   all_goals first|exact xz|(subst hrhs;rfl))
inductive RD where
 |er (e:Int)
 |ok (t:T)
mutual
def low:T→Prop
 | .mk _ _ _ _ ks=>True∧lows ks
def lows:List T→Prop
 | []=>True
 |k::r=>low k∧lows r
end
mutual
theorem low_all:∀t:T,low t
 | .mk _ _ _ _ ks=>⟨trivial,lows_all ks⟩
theorem lows_all:∀ts:List T,lows ts
 | []=>trivial
 |k::r=>⟨low_all k,lows_all r⟩
end
theorem lows_mem {ts:List T} (_:lows ts):∀t∈ts,low t:=fun t _=>low_all t
theorem c_Write (v:MV) (t:T) (hv:Wv fb v t) (_:low t) (hs:sz t≤2^30):Call Q 19 [v]=some (.tup [.bs (wrW t).2,.int .i64 (wrW t).1]):=c_WriteA v t hv hs
mutual
def mvT:T→MV
 | .mk c t m b ks=>.agg [.int .i64 c,.int .i64 t,.bool m,if m then .nilsl else .bs b,match ks with| []=>.nilsl|k::r=>.sl 5 (mvT k::mvTs r)]
def mvTs:List T→List MV
 | []=>[]
 |k::r=>mvT k::mvTs r
end
def mvK (ks:List T):MV:=match ks with| []=>.nilsl|k::r=>.sl 5 (mvTs (k::r))
theorem mvT_eq (c t:Int) (m:Bool) (b:List UInt8) (ks:List T):mvT (.mk c t m b ks)= .agg [.int .i64 c,.int .i64 t,.bool m,if m then .nilsl else .bs b,mvK ks]:=by
 cases ks<;>rw[mvT]<;>rfl
theorem mvTs_map:∀ks,mvTs ks=ks.map mvT
 | []=>rfl
 |k::r=>by rw[mvTs,mvTs_map r];rfl
def zero5L:List MV:=[.int .i64 0,.int .i64 0,.bool false,.nilsl,.nilsl]
end Go.Mini

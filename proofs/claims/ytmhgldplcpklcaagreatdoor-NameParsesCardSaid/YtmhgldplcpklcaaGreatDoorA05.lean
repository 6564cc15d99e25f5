/- any value's DN and any DN's value are the document's: the law by that interpreter (part 5): what the program's functions answer, or plain laws of it; no conditions. -/
import Derived.Test.YtmhgldplcpklcaaGreatDoorA04
set_option linter.all false
namespace Go.Mini
open Go Go.Proofs.YtmhgldplcpklcaaGreatDoor
set_option maxRecDepth 100000
set_option maxHeartbeats 400000
theorem c_rules1:Call Q 97 [.int .i64 1]=some (.tup [.agg [.bool false,.fn 119 []],.bool true]):=Call_iff.2 ⟨100,by kernel_rfl⟩
theorem c_rules2:Call Q 97 [.int .i64 2]=some (.tup [.agg [.bool false,.fn 120 []],.bool true]):=Call_iff.2 ⟨100,by kernel_rfl⟩
theorem c_rules10:Call Q 97 [.int .i64 10]=some (.tup [.agg [.bool false,.fn 120 []],.bool true]):=Call_iff.2 ⟨100,by kernel_rfl⟩
theorem c_rules3:Call Q 97 [.int .i64 3]=some (.tup [.agg [.bool false,.fn 121 []],.bool true]):=Call_iff.2 ⟨100,by kernel_rfl⟩
theorem c_rules4:Call Q 97 [.int .i64 4]=some (.tup [.agg [.bool false,.fn 118 []],.bool true]):=Call_iff.2 ⟨100,by kernel_rfl⟩
theorem c_rules5:Call Q 97 [.int .i64 5]=some (.tup [.agg [.bool false,.fn 122 []],.bool true]):=Call_iff.2 ⟨100,by kernel_rfl⟩
theorem c_rules6:Call Q 97 [.int .i64 6]=some (.tup [.agg [.bool false,.fn 123 []],.bool true]):=Call_iff.2 ⟨100,by kernel_rfl⟩
theorem c_rules12:Call Q 97 [.int .i64 12]=some (.tup [.agg [.bool false,.fn 124 []],.bool true]):=Call_iff.2 ⟨100,by kernel_rfl⟩
theorem c_rules19:Call Q 97 [.int .i64 19]=some (.tup [.agg [.bool false,.fn 125 []],.bool true]):=Call_iff.2 ⟨100,by kernel_rfl⟩
theorem c_rules22:Call Q 97 [.int .i64 22]=some (.tup [.agg [.bool false,.fn 127 []],.bool true]):=Call_iff.2 ⟨100,by kernel_rfl⟩
theorem c_rules23:Call Q 97 [.int .i64 23]=some (.tup [.agg [.bool false,.fn 129 []],.bool true]):=Call_iff.2 ⟨100,by kernel_rfl⟩
theorem c_rules24:Call Q 97 [.int .i64 24]=some (.tup [.agg [.bool false,.fn 131 []],.bool true]):=Call_iff.2 ⟨100,by kernel_rfl⟩
theorem c_rules16:Call Q 97 [.int .i64 16]=some (.tup [.agg [.bool true,.fn 118 []],.bool true]):=Call_iff.2 ⟨100,by kernel_rfl⟩
theorem c_rules17:Call Q 97 [.int .i64 17]=some (.tup [.agg [.bool true,.fn 118 []],.bool true]):=Call_iff.2 ⟨100,by kernel_rfl⟩
theorem c_rulesN (t:Int) (h:t≠1∧t≠2∧t≠10∧t≠3∧t≠4∧t≠5∧t≠6∧t≠12∧t≠19∧t≠22∧t≠23∧t≠24∧t≠16∧t≠17):Call Q 97 [.int .i64 t]=some (.tup [.agg [.bool false,.nilfn],.bool false]):=by
 obtain⟨h0,h1,h2,h3,h4,h5,h6,h7,h8,h9,h10,h11,h12,h13⟩:=h
 rw[Call_fn Q (m:=m97) rfl rfl]
 apply hide;intro rhs hrhs
 simp(maxSteps:=4000000)(disch:=first|exact dz|fail)only[bB.u,seval,cut,m97]
 repeat'((with_reducible first|refine sp ?_ ?_|fail)<;>intro hx<;>(try simp only[bI.u]at hx)<;>(first|exact xz|(try simp(maxSteps:=4000000)(disch:=first|exact dz|fail)only[bB.u,seval,cut,hx,m97])))
 all_goals first|exact xz|(subst hrhs;rfl)
theorem c_prints (b:List UInt8) (hb:b.length<2^62):Call Q 125 [.bs b]=some (.bool (b.all prB)):=by
 have h:=c_all prB 48 c_prn b hb
 rw[Call_fn Q (m:=m125) rfl rfl]
 apply hide;intro rhs hrhs
 simp(maxSteps:=4000000)(disch:=first|exact dz|fail)only[bB.u,seval,cut,m125,h]
 repeat'((with_reducible first|refine sp ?_ ?_|fail)<;>intro hx<;>(try simp only[bI.u]at hx)<;>(first|exact xz|(try simp(maxSteps:=4000000)(disch:=first|exact dz|fail)only[bB.u,seval,cut,hx,m125,h])))
 all_goals first|exact xz|(subst hrhs;rfl)
theorem c_lows (b:List UInt8) (hb:b.length<2^62):Call Q 127 [.bs b]=some (.bool (b.all fun c=>decide (c.toNat<128))):=by
 have h:=c_all (fun c=>decide (c.toNat<128)) 128 c_low b hb
 rw[Call_fn Q (m:=m127) rfl rfl]
 apply hide;intro rhs hrhs
 simp(maxSteps:=4000000)(disch:=first|exact dz|fail)only[bB.u,seval,cut,m127,h]
 repeat'((with_reducible first|refine sp ?_ ?_|fail)<;>intro hx<;>(try simp only[bI.u]at hx)<;>(first|exact xz|(try simp(maxSteps:=4000000)(disch:=first|exact dz|fail)only[bB.u,seval,cut,hx,m127,h])))
 all_goals first|exact xz|(subst hrhs;rfl)
theorem c_t2 (b:List UInt8) (hb:b.length<2^62):Call Q 129 [.bs b]=some (.bool (timB b 6)):=by
 have h:=c_timely b 6 2 (.inl ⟨rfl,rfl⟩) hb
 rw[Call_fn Q (m:=m129) rfl rfl]
 apply hide;intro rhs hrhs
 simp(maxSteps:=4000000)(disch:=first|exact dz|fail)only[bB.u,seval,cut,m129,h]
 repeat'((with_reducible first|refine sp ?_ ?_|fail)<;>intro hx<;>(try simp only[bI.u]at hx)<;>(first|exact xz|(try simp(maxSteps:=4000000)(disch:=first|exact dz|fail)only[bB.u,seval,cut,hx,m129,h])))
 all_goals first|exact xz|(subst hrhs;rfl)
theorem c_t4 (b:List UInt8) (hb:b.length<2^62):Call Q 131 [.bs b]=some (.bool (timB b 7)):=by
 have h:=c_timely b 7 4 (.inr ⟨rfl,rfl⟩) hb
 rw[Call_fn Q (m:=m131) rfl rfl]
 apply hide;intro rhs hrhs
 simp(maxSteps:=4000000)(disch:=first|exact dz|fail)only[bB.u,seval,cut,m131,h]
 repeat'((with_reducible first|refine sp ?_ ?_|fail)<;>intro hx<;>(try simp only[bI.u]at hx)<;>(first|exact xz|(try simp(maxSteps:=4000000)(disch:=first|exact dz|fail)only[bB.u,seval,cut,hx,m131,h])))
 all_goals first|exact xz|(subst hrhs;rfl)
theorem c_valid (b:List UInt8) (hb:b.length≤2^47):Call Q 124 [.bs b]=some (.bool (Lib.validD b)):=by
 rw[Call_prim Q (g:=pBValid) rfl]
 exact if_pos hb
theorem nil_fn {f:Nat} {m:MFunc} (hp:Q.prim f=none) (hf:Q.fn f=some m) (he:entry m [.nilsl]=entry m [.bs []]):Call Q f [.nilsl]=Call Q f [.bs []]:=by
 rw[Call_fn Q hp hf,Call_fn Q hp hf,he]
theorem c_valid0:Call Q 124 [.nilsl]=Call Q 124 [.bs []]:=by
 rw[c_valid [] (by simp),Call_prim Q (g:=pBValid) rfl];rfl
def right (t:Int) (b:List UInt8):Bool:=
 if t=1 then rBool b else
 if t=2 then rInt b else
 if t=10 then rInt b else
 if t=3 then rBits b else
 if t=4 then true else
 if t=5 then b.isEmpty else
 if t=6 then rOid b else
 if t=12 then Lib.validD b else
 if t=19 then b.all prB else
 if t=22 then b.all fun c=>decide (c.toNat<128)else
 if t=23 then timB b 6 else
 if t=24 then timB b 7 else true
def formE (c t:Int) (m:Bool) (b:List UInt8):Int:=
 if c≠0 then 0
 else if t=16∨t=17 then(if m then 0 else 21)
 else if t=1∨t=2∨t=10∨t=3∨t=4∨t=5∨t=6∨t=12∨t=19∨t=22∨t=23∨t=24 then(if m then 21 else if right t b then 0 else 24)
 else 21
inductive Rb:MV→List UInt8→Prop
 |bs (l):Rb (.bs l) l
 |nil:Rb .nilsl []
inductive Rk:MV→Prop
 |sl (l):Rk (.sl 5 l)
 |fsl (l):Rk (.fsl 5 l)
 |nil:Rk .nilsl
theorem c_form1 (m:Bool) (v k:MV) (b:List UInt8) (hv:Rb v b) (hk:Rk k) (hb:b.length≤2^47):Call Q 72 [.agg [.int .i64 0,.int .i64 1,.bool m,v,k]]=some (.int .i64 (formE 0 1 m b)):=by
 have hb2:b.length<2^62:=by omega
 have h:=c_rule1 b
 have h0:Call Q 119 [.nilsl]=Call Q 119 [.bs []]:=nil_fn (m:=m119) rfl rfl rfl
 rw[Call_fn Q (m:=m72) rfl rfl]
 cases hv<;>cases hk<;>cases m
 all_goals(
  apply hide;intro rhs hrhs
  simp(maxSteps:=4000000)(disch:=first|exact dz|fail)only[bB.u,seval,cut,m72,c_rules1,h0,h]
  repeat'((with_reducible first|refine sp ?_ ?_|fail)<;>intro hx<;>(try simp only[bI.u]at hx)<;>(first|exact xz|(try simp(maxSteps:=4000000)(disch:=first|exact dz|fail)only[bB.u,seval,cut,hx,m72,c_rules1,h0,h])))
  all_goals first|exact xz|(subst hrhs;(first|rfl|(simp[formE,right, *]))))
theorem c_form2 (m:Bool) (v k:MV) (b:List UInt8) (hv:Rb v b) (hk:Rk k) (hb:b.length≤2^47):Call Q 72 [.agg [.int .i64 0,.int .i64 2,.bool m,v,k]]=some (.int .i64 (formE 0 2 m b)):=by
 have hb2:b.length<2^62:=by omega
 have h:=c_rule2 b hb2
 have h0:Call Q 120 [.nilsl]=Call Q 120 [.bs []]:=nil_fn (m:=m120) rfl rfl rfl
 rw[Call_fn Q (m:=m72) rfl rfl]
 cases hv<;>cases hk<;>cases m
 all_goals(
  apply hide;intro rhs hrhs
  simp(maxSteps:=4000000)(disch:=first|exact dz|fail)only[bB.u,seval,cut,m72,c_rules2,h0,h]
  repeat'((with_reducible first|refine sp ?_ ?_|fail)<;>intro hx<;>(try simp only[bI.u]at hx)<;>(first|exact xz|(try simp(maxSteps:=4000000)(disch:=first|exact dz|fail)only[bB.u,seval,cut,hx,m72,c_rules2,h0,h])))
  all_goals first|exact xz|(subst hrhs;(first|rfl|(simp[formE,right, *]))))
theorem c_form10 (m:Bool) (v k:MV) (b:List UInt8) (hv:Rb v b) (hk:Rk k) (hb:b.length≤2^47):Call Q 72 [.agg [.int .i64 0,.int .i64 10,.bool m,v,k]]=some (.int .i64 (formE 0 10 m b)):=by
 have hb2:b.length<2^62:=by omega
 have h:=c_rule2 b hb2
 have h0:Call Q 120 [.nilsl]=Call Q 120 [.bs []]:=nil_fn (m:=m120) rfl rfl rfl
 rw[Call_fn Q (m:=m72) rfl rfl]
 cases hv<;>cases hk<;>cases m
 all_goals(
  apply hide;intro rhs hrhs
  simp(maxSteps:=4000000)(disch:=first|exact dz|fail)only[bB.u,seval,cut,m72,c_rules10,h0,h]
  repeat'((with_reducible first|refine sp ?_ ?_|fail)<;>intro hx<;>(try simp only[bI.u]at hx)<;>(first|exact xz|(try simp(maxSteps:=4000000)(disch:=first|exact dz|fail)only[bB.u,seval,cut,hx,m72,c_rules10,h0,h])))
  all_goals first|exact xz|(subst hrhs;(first|rfl|(simp[formE,right, *]))))
theorem c_form3 (m:Bool) (v k:MV) (b:List UInt8) (hv:Rb v b) (hk:Rk k) (hb:b.length≤2^47):Call Q 72 [.agg [.int .i64 0,.int .i64 3,.bool m,v,k]]=some (.int .i64 (formE 0 3 m b)):=by
 have hb2:b.length<2^62:=by omega
 have h:=c_rule3 b hb2
 have h0:Call Q 121 [.nilsl]=Call Q 121 [.bs []]:=nil_fn (m:=m121) rfl rfl rfl
 rw[Call_fn Q (m:=m72) rfl rfl]
 cases hv<;>cases hk<;>cases m
 all_goals(
  apply hide;intro rhs hrhs
  simp(maxSteps:=4000000)(disch:=first|exact dz|fail)only[bB.u,seval,cut,m72,c_rules3,h0,h]
  repeat'((with_reducible first|refine sp ?_ ?_|fail)<;>intro hx<;>(try simp only[bI.u]at hx)<;>(first|exact xz|(try simp(maxSteps:=4000000)(disch:=first|exact dz|fail)only[bB.u,seval,cut,hx,m72,c_rules3,h0,h])))
  all_goals first|exact xz|(subst hrhs;(first|rfl|(simp[formE,right, *]))))
theorem c_form4 (m:Bool) (v k:MV) (b:List UInt8) (hv:Rb v b) (hk:Rk k) (hb:b.length≤2^47):Call Q 72 [.agg [.int .i64 0,.int .i64 4,.bool m,v,k]]=some (.int .i64 (formE 0 4 m b)):=by
 have hb2:b.length<2^62:=by omega
 have h:=c_rule0 b
 have h0:Call Q 118 [.nilsl]=Call Q 118 [.bs []]:=nil_fn (m:=m118) rfl rfl rfl
 rw[Call_fn Q (m:=m72) rfl rfl]
 cases hv<;>cases hk<;>cases m
 all_goals(
  apply hide;intro rhs hrhs
  simp(maxSteps:=4000000)(disch:=first|exact dz|fail)only[bB.u,seval,cut,m72,c_rules4,h0,h]
  repeat'((with_reducible first|refine sp ?_ ?_|fail)<;>intro hx<;>(try simp only[bI.u]at hx)<;>(first|exact xz|(try simp(maxSteps:=4000000)(disch:=first|exact dz|fail)only[bB.u,seval,cut,hx,m72,c_rules4,h0,h])))
  all_goals first|exact xz|(subst hrhs;(first|rfl|(simp[formE,right, *]))))
theorem c_form5 (m:Bool) (v k:MV) (b:List UInt8) (hv:Rb v b) (hk:Rk k) (hb:b.length≤2^47):Call Q 72 [.agg [.int .i64 0,.int .i64 5,.bool m,v,k]]=some (.int .i64 (formE 0 5 m b)):=by
 have hb2:b.length<2^62:=by omega
 have h:=c_rule5 b
 have h0:Call Q 122 [.nilsl]=Call Q 122 [.bs []]:=nil_fn (m:=m122) rfl rfl rfl
 rw[Call_fn Q (m:=m72) rfl rfl]
 cases hv<;>cases hk<;>cases m
 all_goals(
  apply hide;intro rhs hrhs
  simp(maxSteps:=4000000)(disch:=first|exact dz|fail)only[bB.u,seval,cut,m72,c_rules5,h0,h]
  repeat'((with_reducible first|refine sp ?_ ?_|fail)<;>intro hx<;>(try simp only[bI.u]at hx)<;>(first|exact xz|(try simp(maxSteps:=4000000)(disch:=first|exact dz|fail)only[bB.u,seval,cut,hx,m72,c_rules5,h0,h])))
  all_goals first|exact xz|(subst hrhs;(first|rfl|(simp[formE,right, *]))))
theorem c_form6 (m:Bool) (v k:MV) (b:List UInt8) (hv:Rb v b) (hk:Rk k) (hb:b.length≤2^47):Call Q 72 [.agg [.int .i64 0,.int .i64 6,.bool m,v,k]]=some (.int .i64 (formE 0 6 m b)):=by
 have hb2:b.length<2^62:=by omega
 have h:=c_groups b hb2
 have h0:Call Q 123 [.nilsl]=Call Q 123 [.bs []]:=nil_fn (m:=m123) rfl rfl rfl
 rw[Call_fn Q (m:=m72) rfl rfl]
 cases hv<;>cases hk<;>cases m
 all_goals(
  apply hide;intro rhs hrhs
  simp(maxSteps:=4000000)(disch:=first|exact dz|fail)only[bB.u,seval,cut,m72,c_rules6,h0,h]
  repeat'((with_reducible first|refine sp ?_ ?_|fail)<;>intro hx<;>(try simp only[bI.u]at hx)<;>(first|exact xz|(try simp(maxSteps:=4000000)(disch:=first|exact dz|fail)only[bB.u,seval,cut,hx,m72,c_rules6,h0,h])))
  all_goals first|exact xz|(subst hrhs;(first|rfl|(simp[formE,right, *]))))
theorem c_form12 (m:Bool) (v k:MV) (b:List UInt8) (hv:Rb v b) (hk:Rk k) (hb:b.length≤2^47):Call Q 72 [.agg [.int .i64 0,.int .i64 12,.bool m,v,k]]=some (.int .i64 (formE 0 12 m b)):=by
 have hb2:b.length<2^62:=by omega
 have h:=c_valid b hb
 have h0:Call Q 124 [.nilsl]=Call Q 124 [.bs []]:=c_valid0
 rw[Call_fn Q (m:=m72) rfl rfl]
 cases hv<;>cases hk<;>cases m
 all_goals(
  apply hide;intro rhs hrhs
  simp(maxSteps:=4000000)(disch:=first|exact dz|fail)only[bB.u,seval,cut,m72,c_rules12,h0,h]
  repeat'((with_reducible first|refine sp ?_ ?_|fail)<;>intro hx<;>(try simp only[bI.u]at hx)<;>(first|exact xz|(try simp(maxSteps:=4000000)(disch:=first|exact dz|fail)only[bB.u,seval,cut,hx,m72,c_rules12,h0,h])))
  all_goals first|exact xz|(subst hrhs;(first|rfl|(simp[formE,right, *]))))
theorem c_form19 (m:Bool) (v k:MV) (b:List UInt8) (hv:Rb v b) (hk:Rk k) (hb:b.length≤2^47):Call Q 72 [.agg [.int .i64 0,.int .i64 19,.bool m,v,k]]=some (.int .i64 (formE 0 19 m b)):=by
 have hb2:b.length<2^62:=by omega
 have h:=c_prints b hb2
 have h0:Call Q 125 [.nilsl]=Call Q 125 [.bs []]:=nil_fn (m:=m125) rfl rfl rfl
 rw[Call_fn Q (m:=m72) rfl rfl]
 cases hv<;>cases hk<;>cases m
 all_goals(
  apply hide;intro rhs hrhs
  simp(maxSteps:=4000000)(disch:=first|exact dz|fail)only[bB.u,seval,cut,m72,c_rules19,h0,h]
  repeat'((with_reducible first|refine sp ?_ ?_|fail)<;>intro hx<;>(try simp only[bI.u]at hx)<;>(first|exact xz|(try simp(maxSteps:=4000000)(disch:=first|exact dz|fail)only[bB.u,seval,cut,hx,m72,c_rules19,h0,h])))
  all_goals first|exact xz|(subst hrhs;(first|rfl|(simp[formE,right, *]))))
theorem c_form22 (m:Bool) (v k:MV) (b:List UInt8) (hv:Rb v b) (hk:Rk k) (hb:b.length≤2^47):Call Q 72 [.agg [.int .i64 0,.int .i64 22,.bool m,v,k]]=some (.int .i64 (formE 0 22 m b)):=by
 have hb2:b.length<2^62:=by omega
 have h:=c_lows b hb2
 have h0:Call Q 127 [.nilsl]=Call Q 127 [.bs []]:=nil_fn (m:=m127) rfl rfl rfl
 rw[Call_fn Q (m:=m72) rfl rfl]
 cases hv<;>cases hk<;>cases m
 all_goals(
  apply hide;intro rhs hrhs
  simp(maxSteps:=4000000)(disch:=first|exact dz|fail)only[bB.u,seval,cut,m72,c_rules22,h0,h]
  repeat'((with_reducible first|refine sp ?_ ?_|fail)<;>intro hx<;>(try simp only[bI.u]at hx)<;>(first|exact xz|(try simp(maxSteps:=4000000)(disch:=first|exact dz|fail)only[bB.u,seval,cut,hx,m72,c_rules22,h0,h])))
  all_goals first|exact xz|(subst hrhs;(first|rfl|(simp[formE,right, *]))))
theorem c_form23 (m:Bool) (v k:MV) (b:List UInt8) (hv:Rb v b) (hk:Rk k) (hb:b.length≤2^47):Call Q 72 [.agg [.int .i64 0,.int .i64 23,.bool m,v,k]]=some (.int .i64 (formE 0 23 m b)):=by
 have hb2:b.length<2^62:=by omega
 have h:=c_t2 b hb2
 have h0:Call Q 129 [.nilsl]=Call Q 129 [.bs []]:=nil_fn (m:=m129) rfl rfl rfl
 rw[Call_fn Q (m:=m72) rfl rfl]
 cases hv<;>cases hk<;>cases m
 all_goals(
  apply hide;intro rhs hrhs
  simp(maxSteps:=4000000)(disch:=first|exact dz|fail)only[bB.u,seval,cut,m72,c_rules23,h0,h]
  repeat'((with_reducible first|refine sp ?_ ?_|fail)<;>intro hx<;>(try simp only[bI.u]at hx)<;>(first|exact xz|(try simp(maxSteps:=4000000)(disch:=first|exact dz|fail)only[bB.u,seval,cut,hx,m72,c_rules23,h0,h])))
  all_goals first|exact xz|(subst hrhs;(first|rfl|(simp[formE,right, *]))))
theorem c_form24 (m:Bool) (v k:MV) (b:List UInt8) (hv:Rb v b) (hk:Rk k) (hb:b.length≤2^47):Call Q 72 [.agg [.int .i64 0,.int .i64 24,.bool m,v,k]]=some (.int .i64 (formE 0 24 m b)):=by
 have hb2:b.length<2^62:=by omega
 have h:=c_t4 b hb2
 have h0:Call Q 131 [.nilsl]=Call Q 131 [.bs []]:=nil_fn (m:=m131) rfl rfl rfl
 rw[Call_fn Q (m:=m72) rfl rfl]
 cases hv<;>cases hk<;>cases m
 all_goals(
  apply hide;intro rhs hrhs
  simp(maxSteps:=4000000)(disch:=first|exact dz|fail)only[bB.u,seval,cut,m72,c_rules24,h0,h]
  repeat'((with_reducible first|refine sp ?_ ?_|fail)<;>intro hx<;>(try simp only[bI.u]at hx)<;>(first|exact xz|(try simp(maxSteps:=4000000)(disch:=first|exact dz|fail)only[bB.u,seval,cut,hx,m72,c_rules24,h0,h])))
  all_goals first|exact xz|(subst hrhs;(first|rfl|(simp[formE,right, *]))))
theorem c_form16 (m:Bool) (v k:MV) (b:List UInt8) (hv:Rb v b) (hk:Rk k) (hb:b.length≤2^47):Call Q 72 [.agg [.int .i64 0,.int .i64 16,.bool m,v,k]]=some (.int .i64 (formE 0 16 m b)):=by
 have hb2:b.length<2^62:=by omega
 have h:=c_rule0 b
 have h0:Call Q 118 [.nilsl]=Call Q 118 [.bs []]:=nil_fn (m:=m118) rfl rfl rfl
 rw[Call_fn Q (m:=m72) rfl rfl]
 cases hv<;>cases hk<;>cases m
 all_goals(
  apply hide;intro rhs hrhs
  simp(maxSteps:=4000000)(disch:=first|exact dz|fail)only[bB.u,seval,cut,m72,c_rules16,h0,h]
  repeat'((with_reducible first|refine sp ?_ ?_|fail)<;>intro hx<;>(try simp only[bI.u]at hx)<;>(first|exact xz|(try simp(maxSteps:=4000000)(disch:=first|exact dz|fail)only[bB.u,seval,cut,hx,m72,c_rules16,h0,h])))
  all_goals first|exact xz|(subst hrhs;(first|rfl|(simp[formE,right, *]))))
theorem c_form17 (m:Bool) (v k:MV) (b:List UInt8) (hv:Rb v b) (hk:Rk k) (hb:b.length≤2^47):Call Q 72 [.agg [.int .i64 0,.int .i64 17,.bool m,v,k]]=some (.int .i64 (formE 0 17 m b)):=by
 have hb2:b.length<2^62:=by omega
 have h:=c_rule0 b
 have h0:Call Q 118 [.nilsl]=Call Q 118 [.bs []]:=nil_fn (m:=m118) rfl rfl rfl
 rw[Call_fn Q (m:=m72) rfl rfl]
 cases hv<;>cases hk<;>cases m
 all_goals(
  apply hide;intro rhs hrhs
  simp(maxSteps:=4000000)(disch:=first|exact dz|fail)only[bB.u,seval,cut,m72,c_rules17,h0,h]
  repeat'((with_reducible first|refine sp ?_ ?_|fail)<;>intro hx<;>(try simp only[bI.u]at hx)<;>(first|exact xz|(try simp(maxSteps:=4000000)(disch:=first|exact dz|fail)only[bB.u,seval,cut,hx,m72,c_rules17,h0,h])))
  all_goals first|exact xz|(subst hrhs;(first|rfl|(simp[formE,right, *]))))
theorem c_form (c t:Int) (m:Bool) (v k:MV) (b:List UInt8) (hv:Rb v b) (hk:Rk k) (hb:b.length≤2^47):Call Q 72 [.agg [.int .i64 c,.int .i64 t,.bool m,v,k]]=some (.int .i64 (formE c t m b)):=by
 by_cases hc:c=0
 rotate_left
 ·rw[show formE c t m b=0 from if_pos hc]
  have hcb:(c==0)=false:=by simpa using hc
  rw[Call_fn Q (m:=m72) rfl rfl]
  cases hv<;>cases hk
  all_goals(
   apply hide;intro rhs hrhs
   simp(maxSteps:=4000000)(disch:=first|exact dz|fail)only[bB.u,seval,cut,m72,hc,hcb]
   repeat'((with_reducible first|refine sp ?_ ?_|fail)<;>intro hx<;>(try simp only[bI.u]at hx)<;>(first|exact xz|(try simp(maxSteps:=4000000)(disch:=first|exact dz|fail)only[bB.u,seval,cut,hx,m72,hc,hcb])))
   all_goals first|exact xz|(subst hrhs;rfl))
 subst hc
 by_cases h1:t=1
 ·subst h1;exact c_form1 m v k b hv hk hb
 by_cases h2:t=2
 ·subst h2;exact c_form2 m v k b hv hk hb
 by_cases h10:t=10
 ·subst h10;exact c_form10 m v k b hv hk hb
 by_cases h3:t=3
 ·subst h3;exact c_form3 m v k b hv hk hb
 by_cases h4:t=4
 ·subst h4;exact c_form4 m v k b hv hk hb
 by_cases h5:t=5
 ·subst h5;exact c_form5 m v k b hv hk hb
 by_cases h6:t=6
 ·subst h6;exact c_form6 m v k b hv hk hb
 by_cases h12:t=12
 ·subst h12;exact c_form12 m v k b hv hk hb
 by_cases h19:t=19
 ·subst h19;exact c_form19 m v k b hv hk hb
 by_cases h22:t=22
 ·subst h22;exact c_form22 m v k b hv hk hb
 by_cases h23:t=23
 ·subst h23;exact c_form23 m v k b hv hk hb
 by_cases h24:t=24
 ·subst h24;exact c_form24 m v k b hv hk hb
 by_cases h16:t=16
 ·subst h16;exact c_form16 m v k b hv hk hb
 by_cases h17:t=17
 ·subst h17;exact c_form17 m v k b hv hk hb
 have hn:=c_rulesN t ⟨h1,h2,h10,h3,h4,h5,h6,h12,h19,h22,h23,h24,h16,h17⟩
 rw[show formE 0 t m b=21 by unfold formE;simp[*]]
 rw[Call_fn Q (m:=m72) rfl rfl]
 cases hv<;>cases hk
 all_goals(
  apply hide;intro rhs hrhs
  simp(maxSteps:=4000000)(disch:=first|exact dz|fail)only[bB.u,seval,cut,m72,hn]
  repeat'((with_reducible first|refine sp ?_ ?_|fail)<;>intro hx<;>(try simp only[bI.u]at hx)<;>(first|exact xz|(try simp(maxSteps:=4000000)(disch:=first|exact dz|fail)only[bB.u,seval,cut,hx,m72,hn])))
  all_goals first|exact xz|(subst hrhs;rfl))
inductive T where
 |mk (c t:Int) (m:Bool) (b:List UInt8) (ks:List T)
mutual
inductive Wv:Bool→MV→T→Prop
 |mk {f c t m v k b ks}:Rb v b→Ws f k ks→Wv f (.agg [.int .i64 c,.int .i64 t,.bool m,v,k]) (.mk c t m b ks)
inductive Ws:Bool→MV→List T→Prop
 |nil {f}:Ws f .nilsl []
 |sl {f l ks}:Wl f l ks→Ws f (.sl 5 l) ks
 |fsl {l ks}:Wl true l ks→Ws true (.fsl 5 l) ks
inductive Wl:Bool→List MV→List T→Prop
 |nil {f}:Wl f [] []
 |cons {f v t l ts}:Wv f v t→Wl f l ts→Wl f (v::l) (t::ts)
end
abbrev Rv:=Wv false
abbrev Rs:=Ws false
abbrev Rl:=Wl false
theorem Wl.get {f:Bool} {l:List MV} {ts:List T} (h:Wl f l ts):∀ {i:Nat} {t:T},ts[i]? = some t→∃v,l[i]? = some v∧Wv f v t:=by
 induction ts generalizing l with
 |nil=>intro i t hg;simp at hg
 |cons t0 ts ih=>
  cases h with
  |cons h1 h2=>
   intro i t hg
   cases i with
   |zero=>simp at hg;subst hg;exact⟨_,rfl,h1⟩
   |succ i=>simp at hg;obtain⟨v,h3,h4⟩:=ih h2 hg;exact⟨v,by simpa using h3,h4⟩
theorem Wl.length {f:Bool} {l:List MV} {ts:List T} (h:Wl f l ts):l.length=ts.length:=by
 induction ts generalizing l with
 |nil=>cases h;rfl
 |cons t ts ih=>cases h with|cons h1 h2=>simp[ih h2]
mutual
def sz:T→Nat
 | .mk _ _ _ b ks=>b.length+16+szs ks
def szs:List T→Nat
 | []=>0
 |k::r=>sz k+szs r
end
theorem szs_get:∀ {ts:List T} {i:Nat} {t:T},ts[i]? = some t→sz t≤szs ts
 | [],i,t,h=>by simp at h
 |a::r,i,t,h=>by
  rw[szs]
  cases i with
  |zero=>simp at h;subst h;omega
  |succ i=>simp at h;have:=szs_get h;omega
theorem szs_len:∀ts:List T,16*ts.length≤szs ts
 | []=>by simp[szs]
 |a::r=>by
  have:=szs_len r
  have:16≤sz a:=by cases a;rw[sz];omega
  rw[szs,List.length_cons];omega
def lenB (n:Nat):List UInt8:=
 if n<128 then [UInt8.ofNat n]else if n<256 then [129,UInt8.ofNat n]else if n<65536 then [130,UInt8.ofNat (n/256),UInt8.ofNat n]else [131,UInt8.ofNat (n/65536),UInt8.ofNat (n/256),UInt8.ofNat n]
def first(c:Int) (m:Bool):Nat:=64*c.toNat+(if m then 32 else 0)
def tagB (c t:Int) (m:Bool):List UInt8:=
 if t<31 then [UInt8.ofNat (first c m+t.toNat)]else UInt8.ofNat (first c m+31)::((if 16384≤t then [UInt8.ofNat (128+t.toNat/16384)]else [])++(if 128≤t then [UInt8.ofNat (128+t.toNat/128%128)]else [])++[UInt8.ofNat (t.toNat%128)])
def gSo (p q:List UInt8):List UInt8 ⊕ Unit:=if 0<cmpL p q then .inr ()else .inl q
def sortedB:List (List UInt8)→Bool
 | []=>true
 |p::ps=>match foldE gSo p ps with| .inl _=>true| .inr _=>false
def rangeB (c t:Int):Bool:=decide (c<0)||decide (3<c)||decide (t<0)||decide (2097152≤t)
def wrK (d:Nat) (c t:Int) (m:Bool) (b:List UInt8) (kids:Bool) (e:Int) (ps:List (List UInt8)):Int × List UInt8:=
 if 16<d then(23,[])else if rangeB c t=true then(21,[])else if formE c t m b=21 then(21,[])else if formE c t m b≠0∨(m=true∧b≠[])∨(m=false∧kids=true)then(24,[])
 else if e≠0 then(e,[])else if c=0∧t=17∧sortedB ps=false then(25,[])else(0,tagB c t m++(lenB (if m then ps.flatten else b).length++(if m then ps.flatten else b)))
mutual
def wr (d:Nat):T→Int × List UInt8
 | .mk c t m b ks=>wrK d c t m b (!ks.isEmpty) (wrs (d+1) ks).1 (wrs (d+1) ks).2
def wrs (d:Nat):List T→Int × List (List UInt8)
 | []=>(0,[])
 |k::r=>if(wr d k).1≠0 then((wr d k).1,[])else if(wrs d r).1≠0 then((wrs d r).1,[])else(0,(wr d k).2::(wrs d r).2)
end
def gW (d:Nat) (ps:List (List UInt8)) (k:T):List (List UInt8) ⊕ Int:=if(wr d k).1≠0 then .inr (wr d k).1 else .inl (ps++[(wr d k).2])
theorem wrs_fold (d:Nat):∀(ts:List T) (ps:List (List UInt8)),foldE (gW d) ps ts=if(wrs d ts).1≠0 then .inr (wrs d ts).1 else .inl (ps++(wrs d ts).2)
 | [],ps=>by simp[foldE,wrs]
 |k::r,ps=>by
  rw[foldE_cons,wrs]
  by_cases h:(wr d k).1=0
  ·rw[show gW d ps k= .inl (ps++[(wr d k).2]) by unfold gW;rw[if_neg (by simp[h])]]
   simp only
   rw[wrs_fold d r]
   by_cases h2:(wrs d r).1=0<;>simp[h,h2]
  ·rw[show gW d ps k= .inr (wr d k).1 by unfold gW;rw[if_pos h]]
   simp[h]
theorem c_cmp (a b:List UInt8):Call Q 98 [.bs a,.bs b]=some (.int .i64 (cmpL a b)):=by
 rw[Call_prim Q (g:=pCompare) rfl];rfl
theorem c_sorted (ps:List (List UInt8)) (hp:ps.length<2^62):Call Q 73 [.sl 1 (ps.map .bs)]=some (.bool (sortedB ps)):=by
 rw[Call_fn Q (m:=m73) rfl rfl]
 have hml:(ps.map MV.bs).length=ps.length:=by simp
 apply hide;intro rhs hrhs
 simp(maxSteps:=4000000)(disch:=first|exact dz|fail)only[bB.u,seval,cut,m73,Run_loop]
 refine useK fun K hK=>?_
 refine loopR ps.tail gSo (fun _ i=>fin [(2,none,PK.other)] (RunL Q m73k0 m73b0 K ⟨[(0,.sl 1 (ps.map .bs)),(3,.int .i64 ((i:Int)+1))],[],[],1⟩)) (fun _=>some (.bool false))
  (fun p i=>ps=[]∨ps[i]? = some p) ?_ (ps.headD []) (by cases ps<;>simp) (congrArg (fin _) (RunL_canon (canon_cong kr kr kr))) ?_ ?_
 ·intro p i q hI hg
  have hg1:ps[i+1]? = some q:=by simpa using hg
  have hi:i+1<ps.length:=(List.getElem?_eq_some_iff.1 hg1).1
  have hI:ps[i]? = some p:=by
   rcases hI with hI|hI
   ·subst hI;simp at hg1
   ·exact hI
  have m0:(ps.map MV.bs)[i]? = some (.bs p):=by simp[hI]
  have m1:(ps.map MV.bs)[i+1]? = some (.bs q):=by simp[hg1]
  have hlt:decide ((i:Int)+1<(ps.length:Int))=true:=by simp;omega
  have e0:((i:Int)+1-1).toNat=i:=by omega
  have e1:((i:Int)+1).toNat=i+1:=by omega
  have hc:=c_cmp p q
  unfold gSo
  split
  ·rename_i hx
   simp only[After]
   have hb:decide (0<cmpL p q)=true:=by simpa using hx
   obtain⟨b',hb'⟩:∃b',b'=m73b0:=⟨_,rfl⟩
   rw[RunL_eq,show Item.lp m73k0 m73b0=Item.lp m73k0 b' by rw[hb']]
   apply hide;intro rhs hrhs
   simp(maxSteps:=4000000)(disch:=first|exact dz|fail)only[bB.u,seval,cut,m73b0,hlt,hml,m0,m1,e0,e1,hc,hb]
   repeat'((with_reducible first|refine sp ?_ ?_|fail)<;>intro hx<;>(try simp only[bI.u]at hx)<;>(first|exact xz|(try simp(maxSteps:=4000000)(disch:=first|exact dz|fail)only[bB.u,seval,cut,hx,m73b0,hlt,hml,m0,m1,e0,e1,hc,hb])))
   all_goals first|exact xz|(subst hrhs;rfl)
  ·rename_i hx
   refine⟨.inr hg1,?_⟩
   have hb:decide (0<cmpL p q)=false:=by simpa using hx
   obtain⟨b',hb'⟩:∃b',b'=m73b0:=⟨_,rfl⟩
   rw[RunL_eq,show Item.lp m73k0 m73b0=Item.lp m73k0 b' by rw[hb']]
   apply hide;intro rhs hrhs
   simp(maxSteps:=4000000)(disch:=first|exact dz|fail)only[bB.u,seval,cut,m73b0,hlt,hml,m0,m1,e0,e1,hc,hb]
   repeat'((with_reducible first|refine sp ?_ ?_|fail)<;>intro hx<;>(try simp only[bI.u]at hx)<;>(first|exact xz|(try simp(maxSteps:=4000000)(disch:=first|exact dz|fail)only[bB.u,seval,cut,hx,m73b0,hlt,hml,m0,m1,e0,e1,hc,hb])))
   all_goals first|exact xz|(subst hrhs;(subst hb';refine(congrArg (fin _) (Run_lp Q _ _ _ _)).trans ?_;exact congrArg (fin [(2,none,.other)]) (RunL_canon (canon_cong kr kr kr))))
 ·intro s hf hI
  have hlt:decide ((ps.tail.length:Int)+1<(ps.length:Int))=false:=by simp;cases ps<;>simp<;>omega
  subst hK
  have hE:sortedB ps=true:=by
   cases ps with
   |nil=>rfl
   |cons p r=>simp only[List.headD_cons,List.tail_cons]at hf;rw[show sortedB (p::r)=(match foldE gSo p r with| .inl _=>true| .inr _=>false)from rfl,hf]
  rw[hrhs,hE]
  clear hrhs
  obtain⟨b',hb'⟩:∃b',b'=m73b0:=⟨_,rfl⟩
  rw[RunL_eq,show Item.lp m73k0 m73b0=Item.lp m73k0 b' by rw[hb']]
  apply hide;intro rhs hrhs
  simp(maxSteps:=4000000)(disch:=first|exact dz|fail)only[bB.u,seval,cut,m73b0,hlt,hml]
  repeat'((with_reducible first|refine sp ?_ ?_|fail)<;>intro hx<;>(try simp only[bI.u]at hx)<;>(first|exact xz|(try simp(maxSteps:=4000000)(disch:=first|exact dz|fail)only[bB.u,seval,cut,hx,m73b0,hlt,hml])))
  all_goals first|exact xz|(subst hrhs;rfl)
 ·intro c hf
  subst hrhs
  cases ps with
  |nil=>simp[foldE]at hf
  |cons p r=>simp only[List.headD_cons,List.tail_cons]at hf;rw[show sortedB (p::r)=(match foldE gSo p r with| .inl _=>true| .inr _=>false)from rfl,hf]
end Go.Mini

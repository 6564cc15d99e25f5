/- any value's DN and any DN's value are the document's: the law by that interpreter (part 4): what the program's functions answer, or plain laws of it; no conditions. -/
import Derived.Test.YtmhgldplcpklcaaGreatDoorA03
import Derived.Lib.Join
import Derived.Lib.Split
import Derived.Lib.AtoiAll
import Derived.Lib.AtoiAllCases
import Derived.Lib.ItoaNum
import Derived.Lib.ValidU
import Derived.Lib.Bytealg
import Derived.Lib.Repeat
set_option linter.all false
namespace Go.Proofs.YtmhgldplcpklcaaGreatDoor
open Go Go.Mini Go.Proofs
set_option maxHeartbeats 4000000
set_option maxRecDepth 100000
def codeV:FuncId→Option MFunc
 | 124=>some m124
 | 146=>some m146
 |_=>none
theorem codeV_ok:∀(f:FuncId) (m:MFunc),codeV f=some m→∃fn c tm hp,FnOK Tryz.prog f m fn c tm hp:=by
 intro f m h
 unfold codeV at h
 split at h
 ·cases h;exact okE_ok m124o
 ·cases h;exact okE_ok m146o
 ·cases h
def codeX:FuncId→Option MFunc
 | 98=>some m98
 |_=>none
theorem codeX_ok:∀(f:FuncId) (m:MFunc),codeX f=some m→∃fn c tm hp,FnOK Tryz.prog f m fn c tm hp:=by
 intro f m h
 unfold codeX at h
 split at h
 ·cases h;exact okE_ok m98o
 ·cases h
def code:FuncId→Option MFunc
 | 3=>some m3
 | 4=>some m4
 | 5=>some m5
 | 6=>some m6
 | 7=>some m7
 | 8=>some m8
 | 9=>some m9
 | 10=>some m10
 | 11=>some m11
 | 12=>some m12
 | 13=>some m13
 | 14=>some m14
 | 15=>some m15
 | 16=>some m16
 | 17=>some m17
 | 18=>some m18
 | 19=>some m19
 | 20=>some m20
 | 21=>some m21
 | 22=>some m22
 | 23=>some m23
 | 24=>some m24
 | 25=>some m25
 | 26=>some m26
 | 27=>some m27
 | 28=>some m28
 | 29=>some m29
 | 30=>some m30
 | 31=>some m31
 | 32=>some m32
 | 33=>some m33
 | 37=>some m37
 | 38=>some m38
 | 39=>some m39
 | 40=>some m40
 | 41=>some m41
 | 46=>some m46
 | 48=>some m48
 | 49=>some m49
 | 50=>some m50
 | 51=>some m51
 | 52=>some m52
 | 54=>some m54
 | 55=>some m55
 | 62=>some m62
 | 63=>some m63
 | 64=>some m64
 | 65=>some m65
 | 66=>some m66
 | 72=>some m72
 | 73=>some m73
 | 77=>some m77
 | 78=>some m78
 | 89=>some m89
 | 90=>some m90
 | 91=>some m91
 | 97=>some m97
 | 101=>some m101
 | 102=>some m102
 | 103=>some m103
 | 115=>some m115
 | 118=>some m118
 | 119=>some m119
 | 120=>some m120
 | 121=>some m121
 | 122=>some m122
 | 123=>some m123
 | 125=>some m125
 | 126=>some m126
 | 127=>some m127
 | 128=>some m128
 | 129=>some m129
 | 130=>some m130
 | 131=>some m131
 | 133=>some m133
 | 147=>some m147
 | 148=>some m148
 | 149=>some m149
 | 153=>some m153
 |_=>none
theorem code_ok:∀(f:FuncId) (m:MFunc),code f=some m→∃fn c tm hp,FnOK Tryz.prog f m fn c tm hp:=by
 intro f m h
 unfold code at h
 split at h
 ·cases h;exact okE_ok m3o
 ·cases h;exact okE_ok m4o
 ·cases h;exact okE_ok m5o
 ·cases h;exact okE_ok m6o
 ·cases h;exact okE_ok m7o
 ·cases h;exact okE_ok m8o
 ·cases h;exact okE_ok m9o
 ·cases h;exact okE_ok m10o
 ·cases h;exact okE_ok m11o
 ·cases h;exact okE_ok m12o
 ·cases h;exact okE_ok m13o
 ·cases h;exact okE_ok m14o
 ·cases h;exact okE_ok m15o
 ·cases h;exact okE_ok m16o
 ·cases h;exact okE_ok m17o
 ·cases h;exact okE_ok m18o
 ·cases h;exact okE_ok m19o
 ·cases h;exact okE_ok m20o
 ·cases h;exact okE_ok m21o
 ·cases h;exact okE_ok m22o
 ·cases h;exact okE_ok m23o
 ·cases h;exact okE_ok m24o
 ·cases h;exact okE_ok m25o
 ·cases h;exact okE_ok m26o
 ·cases h;exact okE_ok m27o
 ·cases h;exact okE_ok m28o
 ·cases h;exact okE_ok m29o
 ·cases h;exact okE_ok m30o
 ·cases h;exact okE_ok m31o
 ·cases h;exact okE_ok m32o
 ·cases h;exact okE_ok m33o
 ·cases h;exact okE_ok m37o
 ·cases h;exact okE_ok m38o
 ·cases h;exact okE_ok m39o
 ·cases h;exact okE_ok m40o
 ·cases h;exact okE_ok m41o
 ·cases h;exact okE_ok m46o
 ·cases h;exact okE_ok m48o
 ·cases h;exact okE_ok m49o
 ·cases h;exact okE_ok m50o
 ·cases h;exact okE_ok m51o
 ·cases h;exact okE_ok m52o
 ·cases h;exact okE_ok m54o
 ·cases h;exact okE_ok m55o
 ·cases h;exact okE_ok m62o
 ·cases h;exact okE_ok m63o
 ·cases h;exact okE_ok m64o
 ·cases h;exact okE_ok m65o
 ·cases h;exact okE_ok m66o
 ·cases h;exact okE_ok m72o
 ·cases h;exact okE_ok m73o
 ·cases h;exact okE_ok m77o
 ·cases h;exact okE_ok m78o
 ·cases h;exact okE_ok m89o
 ·cases h;exact okE_ok m90o
 ·cases h;exact okE_ok m91o
 ·cases h;exact okE_ok m97o
 ·cases h;exact okE_ok m101o
 ·cases h;exact okE_ok m102o
 ·cases h;exact okE_ok m103o
 ·cases h;exact okE_ok m115o
 ·cases h;exact okE_ok m118o
 ·cases h;exact okE_ok m119o
 ·cases h;exact okE_ok m120o
 ·cases h;exact okE_ok m121o
 ·cases h;exact okE_ok m122o
 ·cases h;exact okE_ok m123o
 ·cases h;exact okE_ok m125o
 ·cases h;exact okE_ok m126o
 ·cases h;exact okE_ok m127o
 ·cases h;exact okE_ok m128o
 ·cases h;exact okE_ok m129o
 ·cases h;exact okE_ok m130o
 ·cases h;exact okE_ok m131o
 ·cases h;exact okE_ok m133o
 ·cases h;exact okE_ok m147o
 ·cases h;exact okE_ok m148o
 ·cases h;exact okE_ok m149o
 ·cases h;exact okE_ok m153o
 ·cases h
end Go.Proofs.YtmhgldplcpklcaaGreatDoor
namespace Go.Proofs.YtmhgldplcpklcaaGreatDoor
open Go Go.Mini Go.Proofs
def decF:Nat→Nat→List UInt8
 | 0,n=>[UInt8.ofNat (48+n)]
 |k+1,n=>if n<10 then [UInt8.ofNat (48+n)]else decF k (n/10)++[UInt8.ofNat (48+n%10)]
def itoaL (n:Int):List UInt8:=if n<0 then 45::decF 19 n.natAbs else decF 19 n.toNat
theorem decF_eq:∀(k n:Nat),n<10^(k+1)→decF k n=Lib.decDigits n
 | 0,n,h=>by
  rw[Lib.decDigits,dif_pos (by omega)];rfl
 |k+1,n,h=>by
  unfold decF
  rw[Lib.decDigits]
  by_cases h1:n<10
  ·rw[if_pos h1,dif_pos h1]
  ·rw[if_neg h1,dif_neg h1,decF_eq k (n/10) (by rw[Nat.pow_succ]at h;omega)]
theorem itoaL_eq {n:Int} (h0: -9223372036854775808≤n) (h1:n≤9223372036854775807):itoaL n=Lib.itoa n:=by
 unfold itoaL Lib.itoa
 have e:(10:Nat)^(19+1)=100000000000000000000:=by decide
 split
 ·rw[decF_eq 19 _ (by omega)]
 ·rw[decF_eq 19 _ (by omega)]
def strs:List MV→Option (List (List UInt8))
 | []=>some []
 | .str s::r=>(strs r).map (s:: ·)
 |_=>none
theorem strs_eq:∀ {l:List MV} {xs:List (List UInt8)},strs l=some xs→l=xs.map .str
 | [],xs,h=>by simp only[strs,Option.some.injEq]at h;subst h;rfl
 | .str s::r,xs,h=>by
  simp only[strs,Option.map_eq_some_iff]at h
  obtain⟨ys,hy,rfl⟩:=h
  rw[strs_eq hy];rfl
def pItoa:List MV→Option MV
 | [.int .i64 n]=>some (.str (itoaL n))
 |_=>none
theorem decF_len:∀(k n:Nat),(decF k n).length≤k+1
 | 0,n=>by simp[decF]
 |k+1,n=>by
  unfold decF
  split
  ·simp
  ·have:=decF_len k (n/10)
   simp;omega
theorem itoaL_len (n:Int):(itoaL n).length≤21:=by
 unfold itoaL
 split
 ·have:=decF_len 19 n.natAbs;simp;omega
 ·have:=decF_len 19 n.toNat;omega
def pJoin:List MV→Option MV
 | [.sl 1 l,.str sep]=>match strs l with
  |some xs=>if(Lib.join xs sep).length≤140737488355328∧xs.length≤140737488355328 then some (.str (Lib.join xs sep))else none
  |none=>none
 |_=>none
def pSplit:List MV→Option MV
 | [.str s,.str sep]=>if 1≤sep.length∧s.length<4294967281 then some (.sl 1 ((Lib.splitK sep 0 (Lib.count s sep) s).map .str))else none
 |_=>none
theorem splitK_len (sep:List UInt8):∀(k:Nat) (s:List UInt8),∀p∈Lib.splitK sep 0 k s,p.length≤s.length
 | 0,s,p,h=>by simp[Lib.splitK]at h;subst h;exact Nat.le_refl _
 |k+1,s,p,h=>by
  unfold Lib.splitK at h
  split at h
  ·simp at h;subst h;exact Nat.le_refl _
  ·rcases List.mem_cons.1 h with rfl|h
   ·simp;omega
   ·have:=splitK_len sep k _ p h
    simp at this;omega
def atoiErr:TypeId:=135
def pAtoi:List MV→Option MV
 | [.str s]=>if s.length≤281474976710656 then match Lib.atoiAll s with
  | .ok n=>if -9223372036854775808≤n∧n≤9223372036854775807 then some (.tup [.int .i64 n,.nilif])else none
  | .range=>some (.tup [.int .i64 (Lib.atoiSat s),.iface atoiErr (.cptr [])])
  |_=>some (.tup [.int .i64 0,.iface atoiErr (.cptr [])])
  else none
 |_=>none
def pValid:List MV→Option MV
 | [.str s]=>if s.length≤9223372036854775807 then some (.bool (Lib.validD s))else none
 |_=>none
def pIndexByte:List MV→Option MV
 | [.bs (b::l),.int .u8 c]=>some (.int .i64 (Lib.indexByte (b::l) (UInt8.ofNat c.toNat)))
 |_=>none
def byts:List MV→Option (List (List UInt8))
 | []=>some []
 | .bs s::r=>(byts r).map (s:: ·)
 | .nilsl::r=>(byts r).map ([]:: ·)
 |_=>none
def pBJoin:List MV→Option MV
 | [.sl 1 l,.nilsl]=>match byts l with
  |some xs=>if xs.flatten.length≤2^46∧xs.length≤2^46 then some (.bs xs.flatten)else none
  |none=>none
 |_=>none
def cmpL:List UInt8→List UInt8→Int
 | [],[]=>0
 | [],_::_=>-1
 |_::_,[]=>1
 |a::r,b::s=>if a<b then -1 else if b<a then 1 else cmpL r s
def pCompare:List MV→Option MV
 | [.bs a,.bs b]=>some (.int .i64 (cmpL a b))
 |_=>none
def pBValid:List MV→Option MV
 | [.nilsl]=>some (.bool (Lib.validD []))
 | [.bs s]=>if s.length≤2^47 then some (.bool (Lib.validD s))else none
 |_=>none
def prims:FuncId→Option (List MV→Option MV)
 | 36=>some pAtoi
 | 34=>some pItoa
 | 35=>some pJoin
 | 53=>some pSplit
 | 47=>some pValid
 | 74=>some pBJoin
 | 98=>some pCompare
 | 76=>some pIndexByte
 | 124=>some pBValid
 |_=>none
def Q:Mini.Prog:=⟨code,prims⟩
end Go.Proofs.YtmhgldplcpklcaaGreatDoor
namespace Go.Mini
open Go Go.Proofs.YtmhgldplcpklcaaGreatDoor
set_option maxRecDepth 100000
set_option maxHeartbeats 400000
def g0 (b:List UInt8) (i:Nat):UInt8:=b.getD i 0
theorem getq (b:List UInt8) (i:Nat) (h:i<b.length):b[i]? = some (g0 b i):=by
 unfold g0
 rw[List.getD_eq_getElem?_getD,List.getElem?_eq_getElem h];rfl
def rBool (b:List UInt8):Bool:=decide (b.length=1)&&(decide (g0 b 0=0)||decide (g0 b 0=255))
def rInt (b:List UInt8):Bool:=decide (b.length=1)||decide (1<b.length)&& !(decide (g0 b 0=0)&&decide ((g0 b 1).toNat<128))&& !(decide (g0 b 0=255)&&decide (128≤(g0 b 1).toNat))
theorem c_rule0 (b:List UInt8):Call Q 118 [.bs b]=some (.bool true):=by
 rw[Call_fn Q (m:=m118) rfl rfl]
 apply hide;intro rhs hrhs
 simp(maxSteps:=4000000)(disch:=first|exact dz|fail)only[bB.u,seval,cut,m118]
 repeat'((with_reducible first|refine sp ?_ ?_|fail)<;>intro hx<;>(try simp only[bI.u]at hx)<;>(first|exact xz|(try simp(maxSteps:=4000000)(disch:=first|exact dz|fail)only[bB.u,seval,cut,hx,m118])))
 all_goals first|exact xz|(subst hrhs;rfl)
theorem c_rule1 (b:List UInt8):Call Q 119 [.bs b]=some (.bool (rBool b)):=by
 rw[Call_fn Q (m:=m119) rfl rfl]
 apply hide;intro rhs hrhs
 simp(maxSteps:=4000000)(disch:=first|exact dz|fail)only[bB.u,seval,cut,m119,getq]
 repeat'((with_reducible first|refine sp ?_ ?_|fail)<;>intro hx<;>(try simp only[bI.u]at hx)<;>(first|exact xz|(try simp(maxSteps:=4000000)(disch:=first|exact dz|fail)only[bB.u,seval,cut,hx,m119,getq])))
 all_goals first|exact xz|(subst hrhs;(first|rfl|(refine congrArg some (congrArg MV.bool ?_);rw[Bool.eq_iff_iff];simp only[rBool,Bool.and_eq_true,Bool.or_eq_true,Bool.not_eq_true',Bool.not_eq_true,decide_eq_true_eq,decide_eq_false_iff_not,beq_iff_eq,Bool.false_eq_true,false_iff,true_iff,iff_true,iff_false,←UInt8.toNat_inj];omega)|(refine congrArg some (congrArg MV.bool ?_);rw[Bool.eq_iff_iff];simp[rBool,←UInt8.toNat_inj]at *<;>omega)|(refine congrArg some (congrArg MV.bool ?_);rw[Bool.eq_iff_iff];simp_all[rBool,←UInt8.toNat_inj]<;>omega)))
theorem c_rule2 (b:List UInt8) (hb:b.length<2^62):Call Q 120 [.bs b]=some (.bool (rInt b)):=by
 rw[Call_fn Q (m:=m120) rfl rfl]
 apply hide;intro rhs hrhs
 simp(maxSteps:=4000000)(disch:=first|exact dz|fail)only[bB.u,seval,cut,m120,getq]
 repeat'((with_reducible first|refine sp ?_ ?_|fail)<;>intro hx<;>(try simp only[bI.u]at hx)<;>(first|exact xz|(try simp(maxSteps:=4000000)(disch:=first|exact dz|fail)only[bB.u,seval,cut,hx,m120,getq])))
 all_goals first|exact xz|(subst hrhs;(first|rfl|(refine congrArg some (congrArg MV.bool ?_);rw[Bool.eq_iff_iff];simp only[rInt,Bool.and_eq_true,Bool.or_eq_true,Bool.not_eq_true',Bool.not_eq_true,decide_eq_true_eq,decide_eq_false_iff_not,beq_iff_eq,Bool.false_eq_true,false_iff,true_iff,iff_true,iff_false,←UInt8.toNat_inj];omega)|(refine congrArg some (congrArg MV.bool ?_);rw[Bool.eq_iff_iff];simp[rInt,←UInt8.toNat_inj]at *<;>omega)|(refine congrArg some (congrArg MV.bool ?_);rw[Bool.eq_iff_iff];simp_all[rInt,←UInt8.toNat_inj]<;>omega)))
theorem c_rule5 (b:List UInt8):Call Q 122 [.bs b]=some (.bool b.isEmpty):=by
 rw[Call_fn Q (m:=m122) rfl rfl]
 apply hide;intro rhs hrhs
 simp(maxSteps:=4000000)(disch:=first|exact dz|fail)only[bB.u,seval,cut,m122,getq]
 repeat'((with_reducible first|refine sp ?_ ?_|fail)<;>intro hx<;>(try simp only[bI.u]at hx)<;>(first|exact xz|(try simp(maxSteps:=4000000)(disch:=first|exact dz|fail)only[bB.u,seval,cut,hx,m122,getq])))
 all_goals first|exact xz|(subst hrhs;(cases b<;>simp<;>omega))
def pw (x:UInt8):UInt8:=UInt8.ofNat (2^(x.toNat%8))
theorem pw_fin:∀m:Fin 8,UInt8.ofNat (2^(m.val%8))=UInt8.ofNat (2^m.val)∧IntKind.u8.wrap (1*2^(min m.val 8))=((UInt8.ofNat (2^m.val)).toNat:Int)∧IntKind.u8.wrap (((UInt8.ofNat (2^m.val)).toNat:Int)-1)=((UInt8.ofNat (2^m.val)-1:UInt8).toNat:Int):=by decide
theorem shl1 (x:UInt8) (h:(x.toNat:Int)≤7):shiftI .shl .u8 1 (x.toNat:Int)=some (.int .u8 ((pw x).toNat:Int)):=by
 obtain⟨h1,h2,_⟩:=pw_fin ⟨x.toNat,by omega⟩
 simp only at h1 h2
 unfold shiftI pw
 rw[if_neg (by omega),h1,←h2]
 simp[IntKind.bits]
theorem shl2 (x:UInt8) (h:(x.toNat:Int)≤7):IntKind.u8.wrap (((pw x).toNat:Int)-1)=((pw x-1:UInt8).toNat:Int):=by
 obtain⟨h1,_,h3⟩:=pw_fin ⟨x.toNat,by omega⟩
 simp only at h1 h3
 unfold pw
 rw[h1];exact h3
def rBits (b:List UInt8):Bool:=decide (0<b.length)&&decide ((g0 b 0).toNat≤7)&&(decide (1<b.length)||decide (g0 b 0=0))&&(decide (b.length=1)||decide (((g0 b (b.length-1))&&&(pw (g0 b 0)-1))=0))
theorem c_rule3 (b:List UInt8) (hb:b.length<2^62):Call Q 121 [.bs b]=some (.bool (rBits b)):=by
 rw[Call_fn Q (m:=m121) rfl rfl]
 have eL:((b.length:Int)-1).toNat=b.length-1:=by omega
 apply hide;intro rhs hrhs
 simp(maxSteps:=4000000)(disch:=first|exact dz|fail)only[bB.u,seval,cut,m121,getq,eL,shl1,shl2]
 repeat'((with_reducible first|refine sp ?_ ?_|fail)<;>intro hx<;>(try simp only[bI.u]at hx)<;>(first|exact xz|(try simp(maxSteps:=4000000)(disch:=first|exact dz|fail)only[bB.u,seval,cut,hx,m121,getq,eL,shl1,shl2])))
 all_goals first|exact xz|(subst hrhs;(first|rfl|(refine congrArg some (congrArg MV.bool ?_);rw[Bool.eq_iff_iff];simp only[rBits,Bool.and_eq_true,Bool.or_eq_true,Bool.not_eq_true',Bool.not_eq_true,decide_eq_true_eq,decide_eq_false_iff_not,beq_iff_eq,Bool.false_eq_true,false_iff,true_iff,iff_true,iff_false,←UInt8.toNat_inj];omega)|(refine congrArg some (congrArg MV.bool ?_);rw[Bool.eq_iff_iff];simp[rBits,←UInt8.toNat_inj]at *<;>omega)|(refine congrArg some (congrArg MV.bool ?_);rw[Bool.eq_iff_iff];simp_all[rBits,←UInt8.toNat_inj]<;>omega)))
theorem canon_cong {keep:List (Nat × KMode)} {st:DS} {V:List (Nat × MV)} {O:List (Nat × Obj)} {nx:Nat} (h1:(canon keep st).V=V) (h2:(canon keep st).O=O) (h3:(canon keep st).nx=nx):canon keep st=⟨V,[],O,nx⟩:=by
 subst h1;subst h2;subst h3;rfl
theorem useK {R k b K st rhs} (h:∀K',K'=K→fin R (RunL Q k b K' st)=rhs):fin R (RunL Q k b K st)=rhs:=h K rfl
theorem loopR {α β γ δ:Type} {x rhs:δ} (L:List α) (g:β→α→β ⊕ γ) (S:β→Nat→δ) (T:γ→δ) (I:β→Nat→Prop) (step:∀b i x,I b i→L[i]? = some x→After I S T (S b i) (i+1) (g b x)) (b:β) (h0:I b 0)
  (hx:x=S b 0) (h1:∀s,foldE g b L= .inl s→I s L.length→S s L.length=rhs) (h2:∀c,foldE g b L= .inr c→T c=rhs):x=rhs:=by
 have h:=loopI L g S T I step b h0
 rw[hx]
 cases hg:foldE g b L with
 |inl s=>rw[hg]at h;rw[h.2];exact h1 s hg h.1
 |inr c=>rw[hg]at h;exact h.trans (h2 c hg)
def gGr (p:Nat) (c:UInt8):Nat ⊕ Unit:=if c.toNat=128∧p<128 then .inr ()else .inl c.toNat
def rOid (b:List UInt8):Bool:=match foldE gGr 0 b with
 | .inl _=>decide (0<b.length)&&decide ((g0 b (b.length-1)).toNat<128)
 | .inr _=>false
theorem c_groups (b:List UInt8) (hb:b.length<2^62):Call Q 123 [.bs b]=some (.bool (rOid b)):=by
 rw[Call_fn Q (m:=m123) rfl rfl]
 have eL:((b.length:Int)-1).toNat=b.length-1:=by omega
 apply hide;intro rhs hrhs
 simp(maxSteps:=4000000)(disch:=first|exact dz|fail)only[bB.u,seval,cut,m123,Run_loop]
 refine useK fun K hK=>?_
 refine loopR b gGr (fun _ i=>fin [(2,none,PK.other)] (RunL Q m123k0 m123b0 K ⟨[(0,.bs b),(5,.bs b),(6,.int .i64 b.length),(7,.int .i64 (i:Nat))],[],[],1⟩)) (fun _=>some (.bool false))
  (fun p i=>i≤b.length∧(i=0∧p=0∨0<i∧p=(g0 b (i-1)).toNat)) ?_ 0 ⟨by omega,.inl ⟨rfl,rfl⟩⟩ (congrArg (fin _) (RunL_canon (canon_cong kr kr kr))) ?_ ?_
 ·intro p i x hI hg
  obtain⟨hi,hxx⟩:=List.getElem?_eq_some_iff.1 hg
  have e1:((i:Int)-1).toNat=i-1:=by omega
  have hlt:decide ((i:Int)<(b.length:Int))=true:=by simp;omega
  have hgx:g0 b i=x:=by
   have:=getq b i hi
   rw[hg]at this;exact(Option.some.inj this).symm
  have hnx:g0 b (i+1-1)=x:=by rw[Nat.add_sub_cancel];exact hgx
  unfold gGr
  split
  ·rename_i hc
   simp only[After]
   obtain⟨b',hb'⟩:∃b',b'=m123b0:=⟨_,rfl⟩
   rw[RunL_eq,show Item.lp m123k0 m123b0=Item.lp m123k0 b' by rw[hb']]
   apply hide;intro rhs hrhs
   simp(maxSteps:=4000000)(disch:=first|exact dz|fail)only[bB.u,seval,cut,m123b0,hlt,hg,e1,getq]
   repeat'((with_reducible first|refine sp ?_ ?_|fail)<;>intro hx<;>(try simp only[bI.u]at hx)<;>(first|exact xz|(try simp(maxSteps:=4000000)(disch:=first|exact dz|fail)only[bB.u,seval,cut,hx,m123b0,hlt,hg,e1,getq])))
   all_goals first|exact xz|(subst hrhs;rfl)
  ·rename_i hc
   refine⟨⟨by omega,.inr ⟨by omega,by rw[hnx]⟩⟩,?_⟩
   obtain⟨b',hb'⟩:∃b',b'=m123b0:=⟨_,rfl⟩
   rw[RunL_eq,show Item.lp m123k0 m123b0=Item.lp m123k0 b' by rw[hb']]
   apply hide;intro rhs hrhs
   simp(maxSteps:=4000000)(disch:=first|exact dz|fail)only[bB.u,seval,cut,m123b0,hlt,hg,e1,getq]
   repeat'((with_reducible first|refine sp ?_ ?_|fail)<;>intro hx<;>(try simp only[bI.u]at hx)<;>(first|exact xz|(try simp(maxSteps:=4000000)(disch:=first|exact dz|fail)only[bB.u,seval,cut,hx,m123b0,hlt,hg,e1,getq])))
   all_goals first|exact xz|(subst hrhs;(subst hb';refine(congrArg (fin _) (Run_lp Q _ _ _ _)).trans ?_;exact congrArg (fin [(2,none,.other)]) (RunL_canon (canon_cong kr kr kr))))
 ·intro s hf hI
  have hlt:decide ((b.length:Int)<(b.length:Int))=false:=by simp
  subst hK
  obtain⟨b',hb'⟩:∃b',b'=m123b0:=⟨_,rfl⟩
  rw[RunL_eq,show Item.lp m123k0 m123b0=Item.lp m123k0 b' by rw[hb']]
  simp(maxSteps:=4000000)(disch:=first|exact dz|fail)only[bB.u,seval,cut,m123b0,hlt,eL,getq]
  repeat'((with_reducible first|refine sp ?_ ?_|fail)<;>intro hx<;>(try simp only[bI.u]at hx)<;>(first|exact xz|(try simp(maxSteps:=4000000)(disch:=first|exact dz|fail)only[bB.u,seval,cut,hx,m123b0,hlt,eL,getq])))
  all_goals first|exact xz|(subst hrhs;(rw[show rOid b=(decide (0<b.length)&&decide ((g0 b (b.length-1)).toNat<128)) by unfold rOid;rw[hf]];(first|rfl|(refine congrArg some (congrArg MV.bool ?_);rw[Bool.eq_iff_iff];simp only[Bool.and_eq_true,Bool.or_eq_true,Bool.not_eq_true',Bool.not_eq_true,decide_eq_true_eq,decide_eq_false_iff_not,beq_iff_eq,Bool.false_eq_true,false_iff,true_iff,iff_true,iff_false,←UInt8.toNat_inj];omega)|(refine congrArg some (congrArg MV.bool ?_);rw[Bool.eq_iff_iff];simp[←UInt8.toNat_inj]at *<;>omega)|(refine congrArg some (congrArg MV.bool ?_);rw[Bool.eq_iff_iff];simp_all[←UInt8.toNat_inj]<;>omega))))
 ·intro c hf
  subst hrhs
  unfold rOid;rw[hf]
def gAll (P:UInt8→Bool) (_:Unit) (c:UInt8):Unit ⊕ Unit:=if P c=true then .inl ()else .inr ()
theorem all_fold (P:UInt8→Bool):∀b:List UInt8,foldE (gAll P) () b=if b.all P=true then .inl ()else .inr ()
 | []=>rfl
 |c::r=>by
  rw[foldE_cons,List.all_cons]
  cases h:P c
  ·rw[show gAll P () c= .inr () by unfold gAll;rw[h];rfl];rfl
  ·rw[show gAll P () c= .inl () by unfold gAll;rw[h];rfl]
   simp only[Bool.true_and];exact all_fold P r
theorem c_all (P:UInt8→Bool) (f:Nat) (hP:∀c:UInt8,Call Q f [.int .u8 (c.toNat:Int)]=some (.bool (P c))) (b:List UInt8) (hb:b.length<2^62):Call Q 126 [.bs b,.fn f []]=some (.bool (b.all P)):=by
 rw[Call_fn Q (m:=m126) rfl rfl]
 apply hide;intro rhs hrhs
 simp(maxSteps:=4000000)(disch:=first|exact dz|fail)only[bB.u,seval,cut,m126,Run_loop]
 refine useK fun K hK=>?_
 refine loopR b (gAll P) (fun _ i=>fin [(4,none,PK.other)] (RunL Q m126k0 m126b0 K ⟨[(1,.fn f []),(7,.bs b),(8,.int .i64 b.length),(9,.int .i64 (i:Nat))],[],[],1⟩)) (fun _=>some (.bool false))
  (fun _ i=>i≤b.length) ?_ () (Nat.zero_le _) (congrArg (fin _) (RunL_canon (canon_cong kr kr kr))) ?_ ?_
 ·intro p i x hI hg
  obtain⟨hi,hxx⟩:=List.getElem?_eq_some_iff.1 hg
  have hlt:decide ((i:Int)<(b.length:Int))=true:=by simp;omega
  have hq:=hP x
  unfold gAll
  split
  ·rename_i hc
   rw[hc]at hq
   refine⟨by omega,?_⟩
   obtain⟨b',hb'⟩:∃b',b'=m126b0:=⟨_,rfl⟩
   rw[RunL_eq,show Item.lp m126k0 m126b0=Item.lp m126k0 b' by rw[hb']]
   apply hide;intro rhs hrhs
   simp(maxSteps:=4000000)(disch:=first|exact dz|fail)only[bB.u,seval,cut,m126b0,hlt,hg,hq]
   repeat'((with_reducible first|refine sp ?_ ?_|fail)<;>intro hx<;>(try simp only[bI.u]at hx)<;>(first|exact xz|(try simp(maxSteps:=4000000)(disch:=first|exact dz|fail)only[bB.u,seval,cut,hx,m126b0,hlt,hg,hq])))
   all_goals first|exact xz|(subst hrhs;(subst hb';refine(congrArg (fin _) (Run_lp Q _ _ _ _)).trans ?_;exact congrArg (fin [(4,none,.other)]) (RunL_canon (canon_cong kr kr kr))))
  ·rename_i hc
   rw[Bool.not_eq_true]at hc
   rw[hc]at hq
   simp only[After]
   obtain⟨b',hb'⟩:∃b',b'=m126b0:=⟨_,rfl⟩
   rw[RunL_eq,show Item.lp m126k0 m126b0=Item.lp m126k0 b' by rw[hb']]
   apply hide;intro rhs hrhs
   simp(maxSteps:=4000000)(disch:=first|exact dz|fail)only[bB.u,seval,cut,m126b0,hlt,hg,hq]
   repeat'((with_reducible first|refine sp ?_ ?_|fail)<;>intro hx<;>(try simp only[bI.u]at hx)<;>(first|exact xz|(try simp(maxSteps:=4000000)(disch:=first|exact dz|fail)only[bB.u,seval,cut,hx,m126b0,hlt,hg,hq])))
   all_goals first|exact xz|(subst hrhs;rfl)
 ·intro s hf hI
  have hlt:decide ((b.length:Int)<(b.length:Int))=false:=by simp
  subst hK
  rw[all_fold]at hf
  have ha:b.all P=true:=by
   cases h:b.all P
   ·rw[h]at hf;cases hf
   ·rfl
  rw[hrhs,ha]
  obtain⟨b',hb'⟩:∃b',b'=m126b0:=⟨_,rfl⟩
  rw[RunL_eq,show Item.lp m126k0 m126b0=Item.lp m126k0 b' by rw[hb']]
  apply hide;intro rhs hrhs
  simp(maxSteps:=4000000)(disch:=first|exact dz|fail)only[bB.u,seval,cut,m126b0,hlt]
  repeat'((with_reducible first|refine sp ?_ ?_|fail)<;>intro hx<;>(try simp only[bI.u]at hx)<;>(first|exact xz|(try simp(maxSteps:=4000000)(disch:=first|exact dz|fail)only[bB.u,seval,cut,hx,m126b0,hlt])))
  all_goals first|exact xz|(subst hrhs;rfl)
 ·intro c hf
  subst hrhs
  rw[all_fold]at hf
  cases h:b.all P
  ·rfl
  ·rw[h]at hf;cases hf
theorem c_low (c:UInt8):Call Q 128 [.int .u8 (c.toNat:Int)]=some (.bool (decide (c.toNat<128))):=by
 rw[Call_fn Q (m:=m128) rfl rfl]
 apply hide;intro rhs hrhs
 simp(maxSteps:=4000000)(disch:=first|exact dz|fail)only[bB.u,seval,cut,m128]
 repeat'((with_reducible first|refine sp ?_ ?_|fail)<;>intro hx<;>(try simp only[bI.u]at hx)<;>(first|exact xz|(try simp(maxSteps:=4000000)(disch:=first|exact dz|fail)only[bB.u,seval,cut,hx,m128])))
 all_goals first|exact xz|(subst hrhs;(first|rfl|(refine congrArg some (congrArg MV.bool ?_);rw[Bool.eq_iff_iff];simp only[Bool.and_eq_true,Bool.or_eq_true,Bool.not_eq_true',Bool.not_eq_true,decide_eq_true_eq,decide_eq_false_iff_not,beq_iff_eq,Bool.false_eq_true,false_iff,true_iff,iff_true,iff_false,←UInt8.toNat_inj];omega)|(refine congrArg some (congrArg MV.bool ?_);rw[Bool.eq_iff_iff];simp[←UInt8.toNat_inj]at *<;>omega)|(refine congrArg some (congrArg MV.bool ?_);rw[Bool.eq_iff_iff];simp_all[←UInt8.toNat_inj]<;>omega)))
def prB (c:UInt8):Bool:=decide (97≤c.toNat)&&decide (c.toNat≤122)||decide (65≤c.toNat)&&decide (c.toNat≤90)||decide (48≤c.toNat)&&decide (c.toNat≤57)||decide (0≤Lib.indexByte [UInt8.ofNat 32,UInt8.ofNat 39,UInt8.ofNat 40,UInt8.ofNat 41,UInt8.ofNat 43,UInt8.ofNat 44,UInt8.ofNat 45,UInt8.ofNat 46,UInt8.ofNat 47,UInt8.ofNat 58,UInt8.ofNat 61,UInt8.ofNat 63] c)
theorem c_ixb (a:UInt8) (l:List UInt8) (c:UInt8):Call Q 76 [.bs (a::l),.int .u8 (c.toNat:Int)]=some (.int .i64 (Lib.indexByte (a::l) c)):=by
 rw[Call_prim Q (g:=pIndexByte) rfl]
 show some (MV.int .i64 (Lib.indexByte (a::l) (UInt8.ofNat (c.toNat:Int).toNat)))=_
 simp
theorem c_prn (c:UInt8):Call Q 48 [.int .u8 (c.toNat:Int)]=some (.bool (prB c)):=by
 rw[Call_fn Q (m:=m48) rfl rfl]
 apply hide;intro rhs hrhs
 simp(maxSteps:=4000000)(disch:=first|exact dz|fail)only[bB.u,seval,cut,m48,c_ixb]
 repeat'((with_reducible first|refine sp ?_ ?_|fail)<;>intro hx<;>(try simp only[bI.u]at hx)<;>(first|exact xz|(try simp(maxSteps:=4000000)(disch:=first|exact dz|fail)only[bB.u,seval,cut,hx,m48,c_ixb])))
 all_goals first|exact xz|(subst hrhs;(first|rfl|(refine congrArg some (congrArg MV.bool ?_);rw[Bool.eq_iff_iff];simp only[prB,Bool.and_eq_true,Bool.or_eq_true,Bool.not_eq_true',Bool.not_eq_true,decide_eq_true_eq,decide_eq_false_iff_not,beq_iff_eq,Bool.false_eq_true,false_iff,true_iff,iff_true,iff_false,←UInt8.toNat_inj];omega)|(refine congrArg some (congrArg MV.bool ?_);rw[Bool.eq_iff_iff];simp[prB,←UInt8.toNat_inj]at *<;>omega)|(refine congrArg some (congrArg MV.bool ?_);rw[Bool.eq_iff_iff];simp_all[prB,←UInt8.toNat_inj]<;>omega)))
def dg (x:UInt8):Bool:=decide (48≤x.toNat)&&decide (x.toNat≤57)
def tv (x y:UInt8):Int:=((x.toNat:Int)-48)*10+((y.toNat:Int)-48)
theorem c_two1 (x y:UInt8) (r:List UInt8) (hx:dg x=true) (hy:dg y=true):Call Q 147 [.bs (x::y::r)]=some (.tup [.int .i64 (tv x y),.bool true]):=by
 unfold dg at hx hy
 simp only[Bool.and_eq_true,decide_eq_true_eq]at hx hy
 rw[Call_fn Q (m:=m147) rfl rfl]
 have a1:(48:Int)≤(x.toNat:Int):=by omega
 have a2:(x.toNat:Int)≤57:=by omega
 have a3:(48:Int)≤(y.toNat:Int):=by omega
 have a4:(y.toNat:Int)≤57:=by omega
 have b1:decide ((48:Int)≤(x.toNat:Int))=true:=by simpa using a1
 have b2:decide ((x.toNat:Int)≤57)=true:=by simpa using a2
 have b3:decide ((48:Int)≤(y.toNat:Int))=true:=by simpa using a3
 have b4:decide ((y.toNat:Int)≤57)=true:=by simpa using a4
 apply hide;intro rhs hrhs
 simp(maxSteps:=4000000)(disch:=first|exact dz|fail)only[bB.u,seval,cut,m147,getq]
 repeat'((with_reducible first|refine sp ?_ ?_|fail)<;>intro hx<;>(try simp only[bI.u]at hx)<;>(first|exact xz|(try simp(maxSteps:=4000000)(disch:=first|exact dz|fail)only[bB.u,seval,cut,hx,m147,getq])))
 all_goals first|exact xz|(subst hrhs;(simp only[tv,b4]))
theorem exTup {z:Option MV} {n:Int} {b:Bool} (h:z=some (.tup [.int .i64 n,.bool b])) (hb:b=false):∃n,z=some (.tup [.int .i64 n,.bool false]):=⟨n,by rw[h,hb]⟩
theorem c_two0 (x y:UInt8) (r:List UInt8) (h:(dg x&&dg y)=false):∃n,Call Q 147 [.bs (x::y::r)]=some (.tup [.int .i64 n,.bool false]):=by
 have h':¬((48:Int)≤(x.toNat:Int)∧(x.toNat:Int)≤57∧(48:Int)≤(y.toNat:Int)∧(y.toNat:Int)≤57):=by
  rintro⟨h1,h2,h3,h4⟩
  rw[show dg x=true by unfold dg;simp;omega,show dg y=true by unfold dg;simp;omega]at h
  cases h
 rw[Call_fn Q (m:=m147) rfl rfl]
 by_cases h1:(48:Int)≤(x.toNat:Int)
 ·by_cases h2:(x.toNat:Int)≤57
  ·by_cases h3:(48:Int)≤(y.toNat:Int)
   ·have h4:¬(y.toNat:Int)≤57:=fun h4=>h' ⟨h1,h2,h3,h4⟩
    refine exTup (n:=?n1) (b:=?b1) ?h1 ?hb1
    case h1=>simp(maxSteps:=4000000)(disch:=first|exact dz|fail)only[bB.u,seval,cut,m147,h1,h2,h3,h4,decide_true,decide_false];try exact rfl
    case hb1=>simp only[h4,decide_false]
   ·refine exTup (n:=?n2) (b:=?b2) ?h2 ?hb2
    case h2=>simp(maxSteps:=4000000)(disch:=first|exact dz|fail)only[bB.u,seval,cut,m147,h1,h2,h3,decide_true,decide_false];try exact rfl
    case hb2=>rfl
  ·refine exTup (n:=?n3) (b:=?b3) ?h3 ?hb3
   case h3=>simp(maxSteps:=4000000)(disch:=first|exact dz|fail)only[bB.u,seval,cut,m147,h1,h2,decide_true,decide_false];try exact rfl
   case hb3=>rfl
 ·refine exTup (n:=?n4) (b:=?b4) ?h4 ?hb4
  case h4=>simp(maxSteps:=4000000)(disch:=first|exact dz|fail)only[bB.u,seval,cut,m147,h1,decide_true,decide_false];try exact rfl
  case hb4=>rfl
def dayB (y m:Int):Int:=if m=4∨m=6∨m=9∨m=11 then 30 else if m=2 then(if y%4=0∧(y%100≠0∨y%400=0)then 29 else 28)else 31
theorem c_days (y m:Int) (hy:0≤y):Call Q 148 [.int .i64 y,.int .i64 m]=some (.int .i64 (dayB y m)):=by
 rw[Call_fn Q (m:=m148) rfl rfl]
 apply hide;intro rhs hrhs
 simp(maxSteps:=4000000)(disch:=first|exact dz|fail)only[bB.u,seval,cut,m148]
 repeat'((with_reducible first|refine sp ?_ ?_|fail)<;>intro hx<;>(try simp only[bI.u]at hx)<;>(first|exact xz|(try simp(maxSteps:=4000000)(disch:=first|exact dz|fail)only[bB.u,seval,cut,hx,m148])))
 all_goals first|exact xz|(subst hrhs;(unfold dayB;first|rfl|(refine congrArg some (congrArg (MV.int .i64) ?_);split<;>(try split)<;>(try split)<;>first|rfl|(exfalso;omega))))
def gTm (b:List UInt8) (l:List Int) (j:Nat):List Int ⊕ Unit:=if(dg (g0 b (2*j))&&dg (g0 b (2*j+1)))=true then .inl (l++[tv (g0 b (2*j)) (g0 b (2*j+1))])else .inr ()
def timN (y m d h mi s:Int):Bool:=decide (1≤m)&&decide (m≤12)&&decide (1≤d)&&decide (d≤dayB y m)&&decide (h<24)&&decide (mi<60)&&decide (s<60)
def timL (k:Nat):List Int→Bool
 | [a,b,c,d,e,f]=>if k=6 then timN (if a+1900<1950 then a+1900+100 else a+1900) b c d e f else false
 | [z,a,b,c,d,e,f]=>if k=7 then timN (100*z+a) b c d e f else false
 |_=>false
def timB (b:List UInt8) (k:Nat):Bool:=decide (b.length=2*k+1)&&decide (g0 b (2*k)=90)&&match foldE (gTm b) [] (List.range k)with
 | .inl l=>timL k l
 | .inr _=>false
def iv (l:List Int):List MV:=l.map fun n=>.int .i64 n
theorem iv_len (l:List Int):(iv l).length=l.length:=by simp[iv]
theorem iv_snoc (l:List Int) (n:Int):iv (l++[n])=iv l++[.int .i64 n]:=by simp[iv]
theorem tv_rng (x y:UInt8) (h:(dg x&&dg y)=true):0≤tv x y∧tv x y≤99:=by
 unfold dg at h;unfold tv
 simp only[Bool.and_eq_true,decide_eq_true_eq]at h
 omega
theorem six {α:Type} (l:List α) (h:l.length=6):∃a b c d e f,l=[a,b,c,d,e,f]:=by
 match l,h with
 | [a,b,c,d,e,f],_=>exact⟨a,b,c,d,e,f,rfl⟩
theorem seven {α:Type} (l:List α) (h:l.length=7):∃z a b c d e f,l=[z,a,b,c,d,e,f]:=by
 match l,h with
 | [z,a,b,c,d,e,f],_=>exact⟨z,a,b,c,d,e,f,rfl⟩
theorem drop2 (b:List UInt8) (i:Nat) (h:i+1<b.length):b.drop i=g0 b i::g0 b (i+1)::b.drop (i+2):=by
 rw[List.drop_eq_getElem_cons (by omega),List.drop_eq_getElem_cons h]
 unfold g0
 simp[List.getD_eq_getElem?_getD,List.getElem?_eq_getElem h,List.getElem?_eq_getElem (show i<b.length by omega)]
theorem c_timely (b:List UInt8) (k:Nat) (y:Int) (hk:k=6∧y=2∨k=7∧y=4) (hb:b.length<2^62):Call Q 130 [.bs b,.int .i64 y]=some (.bool (timB b k)):=by
 rw[Call_fn Q (m:=m130) rfl rfl]
 have ey:y+11=2*k+1:=by omega
 have eL:((b.length:Int)-1).toNat=b.length-1:=by omega
 by_cases hl:b.length=2*k+1
 rotate_left
 ·rw[show timB b k=false by unfold timB;rw[show decide (b.length=2*k+1)=false by simpa using hl];rfl]
  have hn:((b.length:Int)==y+11)=false:=by simp;omega
  have hw:IntKind.i64.wrap (y+11)=y+11:=w64 (by omega) (by omega)
  apply hide;intro rhs hrhs
  simp(maxSteps:=4000000)(disch:=first|exact dz|fail)only[bB.u,seval,cut,m130,hw,hn]
  repeat'((with_reducible first|refine sp ?_ ?_|fail)<;>intro hx<;>(try simp only[bI.u]at hx)<;>(first|exact xz|(try simp(maxSteps:=4000000)(disch:=first|exact dz|fail)only[bB.u,seval,cut,hx,m130,hw,hn])))
  all_goals first|exact xz|(subst hrhs;rfl)
 by_cases hz:g0 b (2*k)=90
 rotate_left
 ·rw[show timB b k=false by unfold timB;rw[show decide (g0 b (2*k)=90)=false by simpa using hz];simp]
  have hn:((b.length:Int)==y+11)=true:=by simp;omega
  have hw:IntKind.i64.wrap (y+11)=y+11:=w64 (by omega) (by omega)
  have e2:b.length-1=2*k:=by omega
  have h9:(((g0 b (2*k)).toNat:Int)==90)=false:=by
   simp only[beq_eq_false_iff_ne,ne_eq]
   intro h;apply hz;apply UInt8.toNat_inj.1;simp;omega
  apply hide;intro rhs hrhs
  simp(maxSteps:=4000000)(disch:=first|exact dz|fail)only[bB.u,seval,cut,m130,hw,hn,getq,eL,e2,h9]
  repeat'((with_reducible first|refine sp ?_ ?_|fail)<;>intro hx<;>(try simp only[bI.u]at hx)<;>(first|exact xz|(try simp(maxSteps:=4000000)(disch:=first|exact dz|fail)only[bB.u,seval,cut,hx,m130,hw,hn,getq,eL,e2,h9])))
  all_goals first|exact xz|(subst hrhs;rfl)
 ·have hn:((b.length:Int)==y+11)=true:=by simp;omega
  have hw:IntKind.i64.wrap (y+11)=y+11:=w64 (by omega) (by omega)
  have e2:b.length-1=2*k:=by omega
  have h9:(((g0 b (2*k)).toNat:Int)==90)=true:=by rw[hz];rfl
  apply hide;intro rhs hrhs
  simp(maxSteps:=4000000)(disch:=first|exact dz|fail)only[bB.u,seval,cut,m130,Run_loop,hw,hn,getq,eL,e2,h9]
  refine useK fun K hK=>?_
  refine loopR (List.range k) (gTm b) (fun l i=>fin [(4,none,PK.other)] (RunL Q m130k0 m130b0 K ⟨[(0,.bs b),(1,.int .i64 y),(5,.own (if i=0 then 1 else 0) i),(6,.int .i64 (2*i:Nat))],[],[(if i=0 then 1 else 0,.el 1 (iv l) false)],2⟩)) (fun _=>some (.bool false))
   (fun l i=>l.length=i∧∀x∈l,0≤x∧x≤99) ?_ [] ⟨rfl,by simp⟩ (congrArg (fin _) (RunL_canon (canon_cong kr kr kr))) ?_ ?_
  ·intro l i j hI hg
   obtain⟨hi,hij⟩:=List.getElem?_eq_some_iff.1 hg
   simp only[List.length_range]at hi
   simp only[List.getElem_range]at hij
   subst hij
   have hlt:decide (((2*i:Nat):Int)<(b.length:Int)-1)=true:=by simp;omega
   have hwl:IntKind.i64.wrap ((b.length:Int)-1)=(b.length:Int)-1:=w64 (by omega) (by omega)
   have hd:=drop2 b (2*i) (by omega)
   have hle:2*i≤b.length:=by omega
   have htk:(b.drop (2*i)).take (b.length-2*i)=b.drop (2*i):=List.take_of_length_le (by simp)
   unfold gTm
   have ha:(if i=0 then 1 else 0)≤1:=by split<;>omega
   generalize(if i=0 then 1 else 0)=a at ha ⊢
   split
   ·rename_i hc
    have h2:=c_two1 (g0 b (2*i)) (g0 b (2*i+1)) (b.drop (2*i+2)) (by simp only[Bool.and_eq_true]at hc;exact hc.1) (by simp only[Bool.and_eq_true]at hc;exact hc.2)
    rw[←hd]at h2
    have hr:=tv_rng _ _ hc
    generalize tv (g0 b (2*i)) (g0 b (2*i+1))=v at h2 hr ⊢
    refine⟨⟨by simp[hI.1],?_⟩,?_⟩
    ·intro x hx
     rcases List.mem_append.1 hx with hx|hx
     ·exact hI.2 x hx
     ·simp only[List.mem_singleton]at hx;subst hx;exact hr
    have e9:((2*(i+1):Nat):Int)=((2*i:Nat):Int)+2:=by omega
    have hiv:(iv l).length=i:=by rw[iv_len];exact hI.1
    obtain⟨b',hb'⟩:∃b',b'=m130b0:=⟨_,rfl⟩
    rw[RunL_eq,show Item.lp m130k0 m130b0=Item.lp m130k0 b' by rw[hb']]
    apply hide;intro rhs hrhs
    simp(maxSteps:=4000000)(disch:=first|exact dz|fail)only[bB.u,seval,cut,m130b0,hlt,hwl,h2,hiv,htk]
    repeat'((with_reducible first|refine sp ?_ ?_|fail)<;>intro hx<;>(try simp only[bI.u]at hx)<;>(first|exact xz|(try simp(maxSteps:=4000000)(disch:=first|exact dz|fail)only[bB.u,seval,cut,hx,m130b0,hlt,hwl,h2,hiv,htk])))
    all_goals first|exact xz|(subst hrhs;(subst hb';refine(congrArg (fin _) (Run_lp Q _ _ _ _)).trans ?_;dsimp only;rw[iv_snoc,if_neg (Nat.succ_ne_zero _),e9];exact congrArg (fin [(4,none,.other)]) (RunL_canon (canon_cong kr kr kr))))
   ·rename_i hc
    rw[Bool.not_eq_true]at hc
    obtain⟨v,h2⟩:=c_two0 (g0 b (2*i)) (g0 b (2*i+1)) (b.drop (2*i+2)) hc
    rw[←hd]at h2
    simp only[After]
    obtain⟨b',hb'⟩:∃b',b'=m130b0:=⟨_,rfl⟩
    rw[RunL_eq,show Item.lp m130k0 m130b0=Item.lp m130k0 b' by rw[hb']]
    apply hide;intro rhs hrhs
    simp(maxSteps:=4000000)(disch:=first|exact dz|fail)only[bB.u,seval,cut,m130b0,hlt,hwl,h2,htk]
    repeat'((with_reducible first|refine sp ?_ ?_|fail)<;>intro hx<;>(try simp only[bI.u]at hx)<;>(first|exact xz|(try simp(maxSteps:=4000000)(disch:=first|exact dz|fail)only[bB.u,seval,cut,hx,m130b0,hlt,hwl,h2,htk])))
    all_goals first|exact xz|(subst hrhs;rfl)
  ·intro l hf hI
   rw[List.length_range]at hI ⊢
   have hE:timB b k=timL k l:=by
    unfold timB;rw[hf,hz,hl];simp
   rw[hrhs,hE]
   clear hrhs
   have hlt:decide (((2*k:Nat):Int)<(b.length:Int)-1)=false:=by simp;omega
   have hwl:IntKind.i64.wrap ((b.length:Int)-1)=(b.length:Int)-1:=w64 (by omega) (by omega)
   have e1:(if k=0 then 1 else 0)=0:=if_neg (by omega)
   subst hK
   rw[e1]
   obtain⟨hI,hr⟩:=hI
   rcases hk with⟨rfl,rfl⟩|⟨rfl,rfl⟩
   ·obtain⟨a0,a1,a2,a3,a4,a5,rfl⟩:=six l hI
    have r0:=hr a0 (by simp);have r1:=hr a1 (by simp);have r2:=hr a2 (by simp);have r3:=hr a3 (by simp);have r4:=hr a4 (by simp);have r5:=hr a5 (by simp)
    clear hf hr
    obtain⟨b',hb'⟩:∃b',b'=m130b0:=⟨_,rfl⟩
    rw[RunL_eq,show Item.lp m130k0 m130b0=Item.lp m130k0 b' by rw[hb']]
    apply hide;intro rhs hrhs
    simp(maxSteps:=4000000)(disch:=first|exact dz|fail)only[bB.u,seval,cut,m130b0,hlt,hwl,iv,c_days]
    repeat'((with_reducible first|refine sp ?_ ?_|fail)<;>intro hx<;>(try simp only[bI.u]at hx)<;>(first|exact xz|(try simp(maxSteps:=4000000)(disch:=first|exact dz|fail)only[bB.u,seval,cut,hx,m130b0,hlt,hwl,iv,c_days])))
    all_goals first|exact xz|(subst hrhs;first|rfl|(simp only[timL,if_true];(first|rfl|(refine congrArg some (congrArg MV.bool ?_);rw[Bool.eq_iff_iff];simp only[timN,Bool.and_eq_true,Bool.or_eq_true,Bool.not_eq_true',Bool.not_eq_true,decide_eq_true_eq,decide_eq_false_iff_not,beq_iff_eq,Bool.false_eq_true,false_iff,true_iff,iff_true,iff_false,←UInt8.toNat_inj];omega)|(refine congrArg some (congrArg MV.bool ?_);rw[Bool.eq_iff_iff];simp[timN,←UInt8.toNat_inj]at *<;>omega)|(refine congrArg some (congrArg MV.bool ?_);rw[Bool.eq_iff_iff];simp_all[timN,←UInt8.toNat_inj]<;>omega)))|(simp only[timL,if_true];rw[if_pos (by omega)];(first|rfl|(refine congrArg some (congrArg MV.bool ?_);rw[Bool.eq_iff_iff];simp only[timN,Bool.and_eq_true,Bool.or_eq_true,Bool.not_eq_true',Bool.not_eq_true,decide_eq_true_eq,decide_eq_false_iff_not,beq_iff_eq,Bool.false_eq_true,false_iff,true_iff,iff_true,iff_false,←UInt8.toNat_inj];omega)|(refine congrArg some (congrArg MV.bool ?_);rw[Bool.eq_iff_iff];simp[timN,←UInt8.toNat_inj]at *<;>omega)|(refine congrArg some (congrArg MV.bool ?_);rw[Bool.eq_iff_iff];simp_all[timN,←UInt8.toNat_inj]<;>omega)))|(simp only[timL,if_true];rw[if_neg (by omega)];(first|rfl|(refine congrArg some (congrArg MV.bool ?_);rw[Bool.eq_iff_iff];simp only[timN,Bool.and_eq_true,Bool.or_eq_true,Bool.not_eq_true',Bool.not_eq_true,decide_eq_true_eq,decide_eq_false_iff_not,beq_iff_eq,Bool.false_eq_true,false_iff,true_iff,iff_true,iff_false,←UInt8.toNat_inj];omega)|(refine congrArg some (congrArg MV.bool ?_);rw[Bool.eq_iff_iff];simp[timN,←UInt8.toNat_inj]at *<;>omega)|(refine congrArg some (congrArg MV.bool ?_);rw[Bool.eq_iff_iff];simp_all[timN,←UInt8.toNat_inj]<;>omega))))
   ·obtain⟨a,a0,a1,a2,a3,a4,a5,rfl⟩:=seven l hI
    have r:=hr a (by simp);have r0:=hr a0 (by simp);have r1:=hr a1 (by simp);have r2:=hr a2 (by simp);have r3:=hr a3 (by simp);have r4:=hr a4 (by simp);have r5:=hr a5 (by simp)
    clear hf hr
    obtain⟨b',hb'⟩:∃b',b'=m130b0:=⟨_,rfl⟩
    rw[RunL_eq,show Item.lp m130k0 m130b0=Item.lp m130k0 b' by rw[hb']]
    apply hide;intro rhs hrhs
    simp(maxSteps:=4000000)(disch:=first|exact dz|fail)only[bB.u,seval,cut,m130b0,hlt,hwl,iv,c_days]
    repeat'((with_reducible first|refine sp ?_ ?_|fail)<;>intro hx<;>(try simp only[bI.u]at hx)<;>(first|exact xz|(try simp(maxSteps:=4000000)(disch:=first|exact dz|fail)only[bB.u,seval,cut,hx,m130b0,hlt,hwl,iv,c_days])))
    all_goals first|exact xz|(subst hrhs;first|rfl|(simp only[timL,if_true];(first|rfl|(refine congrArg some (congrArg MV.bool ?_);rw[Bool.eq_iff_iff];simp only[timN,Bool.and_eq_true,Bool.or_eq_true,Bool.not_eq_true',Bool.not_eq_true,decide_eq_true_eq,decide_eq_false_iff_not,beq_iff_eq,Bool.false_eq_true,false_iff,true_iff,iff_true,iff_false,←UInt8.toNat_inj];omega)|(refine congrArg some (congrArg MV.bool ?_);rw[Bool.eq_iff_iff];simp[timN,←UInt8.toNat_inj]at *<;>omega)|(refine congrArg some (congrArg MV.bool ?_);rw[Bool.eq_iff_iff];simp_all[timN,←UInt8.toNat_inj]<;>omega)))|(simp only[timL,if_true];rw[if_pos (by omega)];(first|rfl|(refine congrArg some (congrArg MV.bool ?_);rw[Bool.eq_iff_iff];simp only[timN,Bool.and_eq_true,Bool.or_eq_true,Bool.not_eq_true',Bool.not_eq_true,decide_eq_true_eq,decide_eq_false_iff_not,beq_iff_eq,Bool.false_eq_true,false_iff,true_iff,iff_true,iff_false,←UInt8.toNat_inj];omega)|(refine congrArg some (congrArg MV.bool ?_);rw[Bool.eq_iff_iff];simp[timN,←UInt8.toNat_inj]at *<;>omega)|(refine congrArg some (congrArg MV.bool ?_);rw[Bool.eq_iff_iff];simp_all[timN,←UInt8.toNat_inj]<;>omega)))|(simp only[timL,if_true];rw[if_neg (by omega)];(first|rfl|(refine congrArg some (congrArg MV.bool ?_);rw[Bool.eq_iff_iff];simp only[timN,Bool.and_eq_true,Bool.or_eq_true,Bool.not_eq_true',Bool.not_eq_true,decide_eq_true_eq,decide_eq_false_iff_not,beq_iff_eq,Bool.false_eq_true,false_iff,true_iff,iff_true,iff_false,←UInt8.toNat_inj];omega)|(refine congrArg some (congrArg MV.bool ?_);rw[Bool.eq_iff_iff];simp[timN,←UInt8.toNat_inj]at *<;>omega)|(refine congrArg some (congrArg MV.bool ?_);rw[Bool.eq_iff_iff];simp_all[timN,←UInt8.toNat_inj]<;>omega))))
  ·intro c hf
   subst hrhs
   unfold timB;rw[hf];simp
end Go.Mini

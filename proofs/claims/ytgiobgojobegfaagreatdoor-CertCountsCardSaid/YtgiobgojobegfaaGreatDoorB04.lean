/- a certificate's law by that interpreter (part 4): what the program's functions answer, or plain laws of it; no conditions. -/
import Derived.Test.YtgiobgojobegfaaGreatDoorB03
import Derived.Lib.Join
import Derived.Lib.Split
import Derived.Lib.AtoiAll
import Derived.Lib.AtoiAllCases
import Derived.Lib.ItoaNum
import Derived.Lib.ValidU
import Derived.Lib.Bytealg
import Derived.Lib.Repeat
set_option linter.all false
namespace Go.Proofs.YtgiobgojobegfaaGreatDoor
open Go Go.Mini Go.Proofs
set_option maxHeartbeats 4000000
set_option maxRecDepth 100000
def codeV:FuncId→Option MFunc
 | 193=>some m193
 | 216=>some m216
 |_=>none
theorem u9:∀(f:FuncId) (m:MFunc),codeV f=some m→∃fn c tm hp,FnOK Tryz.prog f m fn c tm hp:=by
 intro f m h
 unfold codeV at h
 split at h
 ·cases h;exact an m193o
 ·cases h;exact an m216o
 ·cases h
def codeX:FuncId→Option MFunc
 | 169=>some m169
 |_=>none
theorem u_:∀(f:FuncId) (m:MFunc),codeX f=some m→∃fn c tm hp,FnOK Tryz.prog f m fn c tm hp:=by
 intro f m h
 unfold codeX at h
 split at h
 ·cases h;exact an m169o
 ·cases h
def code:FuncId→Option MFunc
 | 5=>some m5
 | 6=>some m6
 | 7=>some m7
 | 9=>some m9
 | 10=>some m10
 | 11=>some m11
 | 13=>some m13
 | 14=>some m14
 | 18=>some m18
 | 19=>some m19
 | 20=>some m20
 | 21=>some m21
 | 22=>some m22
 | 23=>some m23
 | 24=>some m24
 | 25=>some m25
 | 30=>some m30
 | 32=>some m32
 | 33=>some m33
 | 34=>some m34
 | 35=>some m35
 | 36=>some m36
 | 37=>some m37
 | 38=>some m38
 | 39=>some m39
 | 40=>some m40
 | 41=>some m41
 | 42=>some m42
 | 43=>some m43
 | 57=>some m57
 | 58=>some m58
 | 59=>some m59
 | 60=>some m60
 | 61=>some m61
 | 62=>some m62
 | 63=>some m63
 | 70=>some m70
 | 71=>some m71
 | 73=>some m73
 | 74=>some m74
 | 75=>some m75
 | 76=>some m76
 | 77=>some m77
 | 78=>some m78
 | 79=>some m79
 | 80=>some m80
 | 81=>some m81
 | 82=>some m82
 | 83=>some m83
 | 84=>some m84
 | 101=>some m101
 | 107=>some m107
 | 108=>some m108
 | 109=>some m109
 | 110=>some m110
 | 111=>some m111
 | 112=>some m112
 | 113=>some m113
 | 115=>some m115
 | 138=>some m138
 | 139=>some m139
 | 142=>some m142
 | 144=>some m144
 | 145=>some m145
 | 146=>some m146
 | 148=>some m148
 | 163=>some m163
 | 164=>some m164
 | 165=>some m165
 | 168=>some m168
 | 182=>some m182
 | 187=>some m187
 | 188=>some m188
 | 189=>some m189
 | 190=>some m190
 | 191=>some m191
 | 192=>some m192
 | 194=>some m194
 | 195=>some m195
 | 196=>some m196
 | 197=>some m197
 | 198=>some m198
 | 199=>some m199
 | 200=>some m200
 | 211=>some m211
 | 217=>some m217
 | 218=>some m218
 | 250=>some m250
 | 251=>some m251
 | 252=>some m252
 | 253=>some m253
 | 254=>some m254
 | 255=>some m255
 | 256=>some m256
 | 257=>some m257
 | 258=>some m258
 | 259=>some m259
 | 260=>some m260
 | 261=>some m261
 | 262=>some m262
 | 263=>some m263
 | 264=>some m264
 | 265=>some m265
 | 266=>some m266
 | 267=>some m267
 | 268=>some m268
 | 269=>some m269
 | 270=>some m270
 | 271=>some m271
 | 272=>some m272
 | 280=>some m280
 | 281=>some m281
 | 282=>some m282
 | 283=>some m283
 | 284=>some m284
 | 285=>some m285
 | 286=>some m286
 | 287=>some m287
 |_=>none
theorem xE:∀(f:FuncId) (m:MFunc),code f=some m→∃fn c tm hp,FnOK Tryz.prog f m fn c tm hp:=by
 intro f m h
 unfold code at h
 split at h
 ·cases h;exact an m5o
 ·cases h;exact an m6o
 ·cases h;exact an m7o
 ·cases h;exact an m9o
 ·cases h;exact an m10o
 ·cases h;exact an m11o
 ·cases h;exact an m13o
 ·cases h;exact an m14o
 ·cases h;exact an m18o
 ·cases h;exact an m19o
 ·cases h;exact an m20o
 ·cases h;exact an m21o
 ·cases h;exact an m22o
 ·cases h;exact an m23o
 ·cases h;exact an m24o
 ·cases h;exact an m25o
 ·cases h;exact an m30o
 ·cases h;exact an m32o
 ·cases h;exact an m33o
 ·cases h;exact an m34o
 ·cases h;exact an m35o
 ·cases h;exact an m36o
 ·cases h;exact an m37o
 ·cases h;exact an m38o
 ·cases h;exact an m39o
 ·cases h;exact an m40o
 ·cases h;exact an m41o
 ·cases h;exact an m42o
 ·cases h;exact an m43o
 ·cases h;exact an m57o
 ·cases h;exact an m58o
 ·cases h;exact an m59o
 ·cases h;exact an m60o
 ·cases h;exact an m61o
 ·cases h;exact an m62o
 ·cases h;exact an m63o
 ·cases h;exact an m70o
 ·cases h;exact an m71o
 ·cases h;exact an m73o
 ·cases h;exact an m74o
 ·cases h;exact an m75o
 ·cases h;exact an m76o
 ·cases h;exact an m77o
 ·cases h;exact an m78o
 ·cases h;exact an m79o
 ·cases h;exact an m80o
 ·cases h;exact an m81o
 ·cases h;exact an m82o
 ·cases h;exact an m83o
 ·cases h;exact an m84o
 ·cases h;exact an m101o
 ·cases h;exact an m107o
 ·cases h;exact an m108o
 ·cases h;exact an m109o
 ·cases h;exact an m110o
 ·cases h;exact an m111o
 ·cases h;exact an m112o
 ·cases h;exact an m113o
 ·cases h;exact an m115o
 ·cases h;exact an m138o
 ·cases h;exact an m139o
 ·cases h;exact an m142o
 ·cases h;exact an m144o
 ·cases h;exact an m145o
 ·cases h;exact an m146o
 ·cases h;exact an m148o
 ·cases h;exact an m163o
 ·cases h;exact an m164o
 ·cases h;exact an m165o
 ·cases h;exact an m168o
 ·cases h;exact an m182o
 ·cases h;exact an m187o
 ·cases h;exact an m188o
 ·cases h;exact an m189o
 ·cases h;exact an m190o
 ·cases h;exact an m191o
 ·cases h;exact an m192o
 ·cases h;exact an m194o
 ·cases h;exact an m195o
 ·cases h;exact an m196o
 ·cases h;exact an m197o
 ·cases h;exact an m198o
 ·cases h;exact an m199o
 ·cases h;exact an m200o
 ·cases h;exact an m211o
 ·cases h;exact an m217o
 ·cases h;exact an m218o
 ·cases h;exact an m250o
 ·cases h;exact an m251o
 ·cases h;exact an m252o
 ·cases h;exact an m253o
 ·cases h;exact an m254o
 ·cases h;exact an m255o
 ·cases h;exact an m256o
 ·cases h;exact an m257o
 ·cases h;exact an m258o
 ·cases h;exact an m259o
 ·cases h;exact an m260o
 ·cases h;exact an m261o
 ·cases h;exact an m262o
 ·cases h;exact an m263o
 ·cases h;exact an m264o
 ·cases h;exact an m265o
 ·cases h;exact an m266o
 ·cases h;exact an m267o
 ·cases h;exact an m268o
 ·cases h;exact an m269o
 ·cases h;exact an m270o
 ·cases h;exact an m271o
 ·cases h;exact an m272o
 ·cases h;exact an m280o
 ·cases h;exact an m281o
 ·cases h;exact an m282o
 ·cases h;exact an m283o
 ·cases h;exact an m284o
 ·cases h;exact an m285o
 ·cases h;exact an m286o
 ·cases h;exact an m287o
 ·cases h
end Go.Proofs.YtgiobgojobegfaaGreatDoor
namespace Go.Proofs.YtgiobgojobegfaaGreatDoor
open Go Go.Mini Go.Proofs
def jj:Nat→Nat→List UInt8
 | 0,n=>[UInt8.ofNat (48+n)]
 |k+1,n=>if n<10 then [UInt8.ofNat (48+n)]else jj k (n/10)++[UInt8.ofNat (48+n%10)]
def cp (n:Int):List UInt8:=if n<0 then 45::jj 19 n.natAbs else jj 19 n.toNat
theorem rE:∀(k n:Nat),n<10^(k+1)→jj k n=Lib.decDigits n
 | 0,n,h=>by
  rw[Lib.decDigits,dif_pos (by omega)];rfl
 |k+1,n,h=>by
  unfold jj
  rw[Lib.decDigits]
  by_cases h1:n<10
  ·rw[if_pos h1,dif_pos h1]
  ·rw[if_neg h1,dif_neg h1,rE k (n/10) (by rw[Nat.pow_succ]at h;omega)]
theorem Cn {n:Int} (h0: -9223372036854775808≤n) (h1:n≤9223372036854775807):cp n=Lib.itoa n:=by
 unfold cp Lib.itoa
 have e:(10:Nat)^(19+1)=100000000000000000000:=by decide
 split
 ·rw[rE 19 _ (by omega)]
 ·rw[rE 19 _ (by omega)]
def strs:List MV→Option (List (List UInt8))
 | []=>some []
 | .str s::r=>(strs r).map (s:: ·)
 |_=>none
theorem xF:∀ {l:List MV} {xs:List (List UInt8)},strs l=some xs→l=xs.map .str
 | [],xs,h=>by simp only[strs,Option.some.injEq]at h;subst h;rfl
 | .str s::r,xs,h=>by
  simp only[strs,Option.map_eq_some_iff]at h
  obtain⟨ys,hy,rfl⟩:=h
  rw[xF hy];rfl
def iO:List MV→Option MV
 | [.int .i64 n]=>some (.str (cp n))
 |_=>none
theorem oE:∀(k n:Nat),(jj k n).length≤k+1
 | 0,n=>by simp[jj]
 |k+1,n=>by
  unfold jj
  split
  ·simp
  ·have:=oE k (n/10)
   simp;omega
theorem mX (n:Int):(cp n).length≤21:=by
 unfold cp
 split
 ·have:=oE 19 n.natAbs;simp;omega
 ·have:=oE 19 n.toNat;omega
def tZ:List MV→Option MV
 | [.sl 1 l,.str sep]=>match strs l with
  |some xs=>if(Lib.join xs sep).length≤140737488355328∧xs.length≤140737488355328 then some (.str (Lib.join xs sep))else none
  |none=>none
 |_=>none
def mY:List MV→Option MV
 | [.str s,.str sep]=>if 1≤sep.length∧s.length<4294967281 then some (.sl 1 ((Lib.splitK sep 0 (Lib.count s sep) s).map .str))else none
 |_=>none
theorem lC (sep:List UInt8):∀(k:Nat) (s:List UInt8),∀p∈Lib.splitK sep 0 k s,p.length≤s.length
 | 0,s,p,h=>by simp[Lib.splitK]at h;subst h;exact Nat.le_refl _
 |k+1,s,p,h=>by
  unfold Lib.splitK at h
  split at h
  ·simp at h;subst h;exact Nat.le_refl _
  ·rcases List.mem_cons.1 h with rfl|h
   ·simp;omega
   ·have:=lC sep k _ p h
    simp at this;omega
def gb:TypeId:=266
def lD:List MV→Option MV
 | [.str s]=>if s.length≤281474976710656 then match Lib.atoiAll s with
  | .ok n=>if -9223372036854775808≤n∧n≤9223372036854775807 then some (.tup [.int .i64 n,.nilif])else none
  | .range=>some (.tup [.int .i64 (Lib.atoiSat s),.iface gb (.cptr [])])
  |_=>some (.tup [.int .i64 0,.iface gb (.cptr [])])
  else none
 |_=>none
def mZ:List MV→Option MV
 | [.str s]=>if s.length≤9223372036854775807 then some (.bool (Lib.validD s))else none
 |_=>none
def iP:List MV→Option MV
 | [.bs (b::l),.int .u8 c]=>some (.int .i64 (Lib.indexByte (b::l) (UInt8.ofNat c.toNat)))
 |_=>none
def dF:List MV→Option MV
 | [.str s,.int .i64 c]=>if 0≤c∧c≤9223372036854775807∧s.length*c.toNat≤140737488355328 then some (.str (Lib.repeatL s c.toNat))else none
 |_=>none
def byts:List MV→Option (List (List UInt8))
 | []=>some []
 | .bs s::r=>(byts r).map (s:: ·)
 | .nilsl::r=>(byts r).map ([]:: ·)
 |_=>none
def pI:List MV→Option MV
 | [.sl 1 l,.nilsl]=>match byts l with
  |some xs=>if xs.flatten.length≤2^46∧xs.length≤2^46 then some (.bs xs.flatten)else none
  |none=>none
 |_=>none
def d9:List UInt8→List UInt8→Int
 | [],[]=>0
 | [],_::_=>-1
 |_::_,[]=>1
 |a::r,b::s=>if a<b then -1 else if b<a then 1 else d9 r s
def lE:List MV→Option MV
 | [.bs a,.bs b]=>some (.int .i64 (d9 a b))
 |_=>none
def kK:List MV→Option MV
 | [.nilsl]=>some (.bool (Lib.validD []))
 | [.bs s]=>if s.length≤2^47 then some (.bool (Lib.validD s))else none
 |_=>none
def prims:FuncId→Option (List MV→Option MV)
 | 114=>some lD
 | 116=>some iO
 | 117=>some tZ
 | 143=>some mY
 | 147=>some mZ
 | 166=>some pI
 | 169=>some lE
 | 171=>some iP
 | 193=>some kK
 | 273=>some dF
 |_=>none
def Q:Mini.Prog:=⟨code,prims⟩
end Go.Proofs.YtgiobgojobegfaaGreatDoor
namespace Go.Mini
open Go Go.Proofs.YtgiobgojobegfaaGreatDoor
set_option maxRecDepth 100000
set_option maxHeartbeats 400000
def g0 (b:List UInt8) (i:Nat):UInt8:=b.getD i 0
theorem bq (b:List UInt8) (i:Nat) (h:i<b.length):b[i]? = some (g0 b i):=by
 unfold g0
 rw[List.getD_eq_getElem?_getD,List.getElem?_eq_getElem h];rfl
def pJ (b:List UInt8):Bool:=decide (b.length=1)&&(decide (g0 b 0=0)||decide (g0 b 0=255))
def m8 (b:List UInt8):Bool:=decide (b.length=1)||decide (1<b.length)&& !(decide (g0 b 0=0)&&decide ((g0 b 1).toNat<128))&& !(decide (g0 b 0=255)&&decide (128≤(g0 b 1).toNat))
theorem rF (b:List UInt8):Call Q 187 [.bs b]=some (.bool true):=by
 rw[Call_fn Q (m:=m187) rfl rfl]
 apply ae;intro rhs hrhs
 simp(maxSteps:=4000000)(disch:=first|exact dz|fail)only[bB.u,seval,cut,m187]
 subst hrhs;rfl
theorem EP (b:List UInt8):Call Q 188 [.bs b]=some (.bool (pJ b)):=by
 rw[Call_fn Q (m:=m188) rfl rfl]
 apply ae;intro rhs hrhs
 simp(maxSteps:=4000000)(disch:=first|exact dz|fail)only[bB.u,seval,cut,m188,bq]
 repeat'((with_reducible first|refine sp ?_ ?_|fail)<;>intro hx<;>(try simp only[bI.u]at hx)<;>(first|exact xz|(try simp(maxSteps:=4000000)(disch:=first|exact dz|fail)only[bB.u,seval,cut,hx,m188,bq])))
 all_goals first|exact xz|(subst hrhs;(first|rfl|(refine congrArg some (congrArg MV.bool ?_);rw[Bool.eq_iff_iff];simp only[pJ,Bool.and_eq_true,Bool.or_eq_true,Bool.not_eq_true',Bool.not_eq_true,decide_eq_true_eq,decide_eq_false_iff_not,beq_iff_eq,Bool.false_eq_true,false_iff,true_iff,iff_true,iff_false,←UInt8.toNat_inj];omega)|(refine congrArg some (congrArg MV.bool ?_);rw[Bool.eq_iff_iff];simp[pJ,←UInt8.toNat_inj]at *<;>omega)|(refine congrArg some (congrArg MV.bool ?_);rw[Bool.eq_iff_iff];simp_all[pJ,←UInt8.toNat_inj]<;>omega)))
theorem xG (b:List UInt8) (hb:b.length<2^62):Call Q 189 [.bs b]=some (.bool (m8 b)):=by
 rw[Call_fn Q (m:=m189) rfl rfl]
 apply ae;intro rhs hrhs
 simp(maxSteps:=4000000)(disch:=first|exact dz|fail)only[bB.u,seval,cut,m189,bq]
 repeat'((with_reducible first|refine sp ?_ ?_|fail)<;>intro hx<;>(try simp only[bI.u]at hx)<;>(first|exact xz|(try simp(maxSteps:=4000000)(disch:=first|exact dz|fail)only[bB.u,seval,cut,hx,m189,bq])))
 all_goals first|exact xz|(subst hrhs;(first|rfl|(refine congrArg some (congrArg MV.bool ?_);rw[Bool.eq_iff_iff];simp only[m8,Bool.and_eq_true,Bool.or_eq_true,Bool.not_eq_true',Bool.not_eq_true,decide_eq_true_eq,decide_eq_false_iff_not,beq_iff_eq,Bool.false_eq_true,false_iff,true_iff,iff_true,iff_false,←UInt8.toNat_inj];omega)|(refine congrArg some (congrArg MV.bool ?_);rw[Bool.eq_iff_iff];simp[m8,←UInt8.toNat_inj]at *<;>omega)|(refine congrArg some (congrArg MV.bool ?_);rw[Bool.eq_iff_iff];simp_all[m8,←UInt8.toNat_inj]<;>omega)))
theorem EQ (b:List UInt8):Call Q 191 [.bs b]=some (.bool b.isEmpty):=by
 rw[Call_fn Q (m:=m191) rfl rfl]
 apply ae;intro rhs hrhs
 simp(maxSteps:=4000000)(disch:=first|exact dz|fail)only[bB.u,seval,cut,m191,bq]
 subst hrhs;(cases b<;>simp<;>omega)
def pw (x:UInt8):UInt8:=UInt8.ofNat (2^(x.toNat%8))
theorem Af:∀m:Fin 8,UInt8.ofNat (2^(m.val%8))=UInt8.ofNat (2^m.val)∧IntKind.u8.wrap (1*2^(min m.val 8))=((UInt8.ofNat (2^m.val)).toNat:Int)∧IntKind.u8.wrap (((UInt8.ofNat (2^m.val)).toNat:Int)-1)=((UInt8.ofNat (2^m.val)-1:UInt8).toNat:Int):=by decide
theorem shl1 (x:UInt8) (h:(x.toNat:Int)≤7):bf .shl .u8 1 (x.toNat:Int)=some (.int .u8 ((pw x).toNat:Int)):=by
 obtain⟨h1,h2,_⟩:=Af ⟨x.toNat,by omega⟩
 simp only at h1 h2
 unfold bf pw
 rw[if_neg (by omega),h1,←h2]
 simp[IntKind.bits]
theorem shl2 (x:UInt8) (h:(x.toNat:Int)≤7):IntKind.u8.wrap (((pw x).toNat:Int)-1)=((pw x-1:UInt8).toNat:Int):=by
 obtain⟨h1,_,h3⟩:=Af ⟨x.toNat,by omega⟩
 simp only at h1 h3
 unfold pw
 rw[h1];exact h3
def pK (b:List UInt8):Bool:=decide (0<b.length)&&decide ((g0 b 0).toNat≤7)&&(decide (1<b.length)||decide (g0 b 0=0))&&(decide (b.length=1)||decide (((g0 b (b.length-1))&&&(pw (g0 b 0)-1))=0))
theorem ES (b:List UInt8) (hb:b.length<2^62):Call Q 190 [.bs b]=some (.bool (pK b)):=by
 rw[Call_fn Q (m:=m190) rfl rfl]
 have eL:((b.length:Int)-1).toNat=b.length-1:=by omega
 apply ae;intro rhs hrhs
 simp(maxSteps:=4000000)(disch:=first|exact dz|fail)only[bB.u,seval,cut,m190,bq,eL,shl1,shl2]
 repeat'((with_reducible first|refine sp ?_ ?_|fail)<;>intro hx<;>(try simp only[bI.u]at hx)<;>(first|exact xz|(try simp(maxSteps:=4000000)(disch:=first|exact dz|fail)only[bB.u,seval,cut,hx,m190,bq,eL,shl1,shl2])))
 all_goals first|exact xz|(subst hrhs;(first|rfl|(refine congrArg some (congrArg MV.bool ?_);rw[Bool.eq_iff_iff];simp only[pK,Bool.and_eq_true,Bool.or_eq_true,Bool.not_eq_true',Bool.not_eq_true,decide_eq_true_eq,decide_eq_false_iff_not,beq_iff_eq,Bool.false_eq_true,false_iff,true_iff,iff_true,iff_false,←UInt8.toNat_inj];omega)|(refine congrArg some (congrArg MV.bool ?_);rw[Bool.eq_iff_iff];simp[pK,←UInt8.toNat_inj]at *<;>omega)|(refine congrArg some (congrArg MV.bool ?_);rw[Bool.eq_iff_iff];simp_all[pK,←UInt8.toNat_inj]<;>omega)))
theorem canon_cong {keep:List (Nat × KMode)} {st:DS} {V:List (Nat × MV)} {O:List (Nat × Obj)} {nx:Nat} (h1:(aQ keep st).V=V) (h2:(aQ keep st).O=O) (h3:(aQ keep st).nx=nx):aQ keep st=⟨V,[],O,nx⟩:=by
 subst h1;subst h2;subst h3;rfl
theorem u' {R k b K st rhs} (h:∀K',K'=K→am R (RunL Q k b K' st)=rhs):am R (RunL Q k b K st)=rhs:=h K rfl
theorem gC {α β γ δ:Type} {x rhs:δ} (L:List α) (g:β→α→β ⊕ γ) (S:β→Nat→δ) (T:γ→δ) (I:β→Nat→Prop) (step:∀b i x,I b i→L[i]? = some x→cS I S T (S b i) (i+1) (g b x)) (b:β) (h0:I b 0)
  (hx:x=S b 0) (h1:∀s,aG g b L= .inl s→I s L.length→S s L.length=rhs) (h2:∀c,aG g b L= .inr c→T c=rhs):x=rhs:=by
 have h:=Ix L g S T I step b h0
 rw[hx]
 cases hg:aG g b L with
 |inl s=>rw[hg]at h;rw[h.2];exact h1 s hg h.1
 |inr c=>rw[hg]at h;exact h.trans (h2 c hg)
def oj (p:Nat) (c:UInt8):Nat ⊕ Unit:=if c.toNat=128∧p<128 then .inr ()else .inl c.toNat
def kq (b:List UInt8):Bool:=match aG oj 0 b with
 | .inl _=>decide (0<b.length)&&decide ((g0 b (b.length-1)).toNat<128)
 | .inr _=>false
theorem Co (b:List UInt8) (hb:b.length<2^62):Call Q 192 [.bs b]=some (.bool (kq b)):=by
 rw[Call_fn Q (m:=m192) rfl rfl]
 have eL:((b.length:Int)-1).toNat=b.length-1:=by omega
 apply ae;intro rhs hrhs
 simp(maxSteps:=4000000)(disch:=first|exact dz|fail)only[bB.u,seval,cut,m192,aq]
 refine u' fun K hK=>?_
 refine gC b oj (fun _ i=>am [(2,none,PK.other)] (RunL Q m192k0 m192b0 K ⟨[(0,.bs b),(5,.bs b),(6,.int .i64 b.length),(7,.int .i64 (i:Nat))],[],[],1⟩)) (fun _=>some (.bool false))
  (fun p i=>i≤b.length∧(i=0∧p=0∨0<i∧p=(g0 b (i-1)).toNat)) ?_ 0 ⟨by omega,.inl ⟨rfl,rfl⟩⟩ (congrArg (am _) (af (canon_cong kr kr kr))) ?_ ?_
 ·intro p i x hI hg
  obtain⟨hi,hxx⟩:=List.getElem?_eq_some_iff.1 hg
  have e1:((i:Int)-1).toNat=i-1:=by omega
  have hlt:decide ((i:Int)<(b.length:Int))=true:=by simp;omega
  have hgx:g0 b i=x:=by
   have:=bq b i hi
   rw[hg]at this;exact(Option.some.inj this).symm
  have hnx:g0 b (i+1-1)=x:=by rw[Nat.add_sub_cancel];exact hgx
  unfold oj
  split
  ·rename_i hc
   simp only[cS]
   obtain⟨b',hb'⟩:∃b',b'=m192b0:=⟨_,rfl⟩
   rw[ah,show Item.lp m192k0 m192b0=Item.lp m192k0 b' by rw[hb']]
   apply ae;intro rhs hrhs
   simp(maxSteps:=4000000)(disch:=first|exact dz|fail)only[bB.u,seval,cut,m192b0,hlt,hg,e1,bq]
   repeat'((with_reducible first|refine sp ?_ ?_|fail)<;>intro hx<;>(try simp only[bI.u]at hx)<;>(first|exact xz|(try simp(maxSteps:=4000000)(disch:=first|exact dz|fail)only[bB.u,seval,cut,hx,m192b0,hlt,hg,e1,bq])))
   all_goals first|exact xz|(subst hrhs;rfl)
  ·rename_i hc
   refine⟨⟨by omega,.inr ⟨by omega,by rw[hnx]⟩⟩,?_⟩
   obtain⟨b',hb'⟩:∃b',b'=m192b0:=⟨_,rfl⟩
   rw[ah,show Item.lp m192k0 m192b0=Item.lp m192k0 b' by rw[hb']]
   apply ae;intro rhs hrhs
   simp(maxSteps:=4000000)(disch:=first|exact dz|fail)only[bB.u,seval,cut,m192b0,hlt,hg,e1,bq]
   repeat'((with_reducible first|refine sp ?_ ?_|fail)<;>intro hx<;>(try simp only[bI.u]at hx)<;>(first|exact xz|(try simp(maxSteps:=4000000)(disch:=first|exact dz|fail)only[bB.u,seval,cut,hx,m192b0,hlt,hg,e1,bq])))
   all_goals first|exact xz|(subst hrhs;(subst hb';refine(congrArg (am _) (aA Q _ _ _ _)).trans ?_;exact congrArg (am [(2,none,.other)]) (af (canon_cong kr kr kr))))
 ·intro s hf hI
  have hlt:decide ((b.length:Int)<(b.length:Int))=false:=by simp
  subst hK
  obtain⟨b',hb'⟩:∃b',b'=m192b0:=⟨_,rfl⟩
  rw[ah,show Item.lp m192k0 m192b0=Item.lp m192k0 b' by rw[hb']]
  simp(maxSteps:=4000000)(disch:=first|exact dz|fail)only[bB.u,seval,cut,m192b0,hlt,eL,bq]
  repeat'((with_reducible first|refine sp ?_ ?_|fail)<;>intro hx<;>(try simp only[bI.u]at hx)<;>(first|exact xz|(try simp(maxSteps:=4000000)(disch:=first|exact dz|fail)only[bB.u,seval,cut,hx,m192b0,hlt,eL,bq])))
  all_goals first|exact xz|(subst hrhs;(rw[show kq b=(decide (0<b.length)&&decide ((g0 b (b.length-1)).toNat<128)) by unfold kq;rw[hf]];(first|rfl|(refine congrArg some (congrArg MV.bool ?_);rw[Bool.eq_iff_iff];simp only[Bool.and_eq_true,Bool.or_eq_true,Bool.not_eq_true',Bool.not_eq_true,decide_eq_true_eq,decide_eq_false_iff_not,beq_iff_eq,Bool.false_eq_true,false_iff,true_iff,iff_true,iff_false,←UInt8.toNat_inj];omega)|(refine congrArg some (congrArg MV.bool ?_);rw[Bool.eq_iff_iff];simp[←UInt8.toNat_inj]at *<;>omega)|(refine congrArg some (congrArg MV.bool ?_);rw[Bool.eq_iff_iff];simp_all[←UInt8.toNat_inj]<;>omega))))
 ·intro c hf
  subst hrhs
  unfold kq;rw[hf]
def oF (P:UInt8→Bool) (_:Unit) (c:UInt8):Unit ⊕ Unit:=if P c=true then .inl ()else .inr ()
theorem oG (P:UInt8→Bool):∀b:List UInt8,aG (oF P) () b=if b.all P=true then .inl ()else .inr ()
 | []=>rfl
 |c::r=>by
  rw[bw,List.all_cons]
  cases h:P c
  ·rw[show oF P () c= .inr () by unfold oF;rw[h];rfl];rfl
  ·rw[show oF P () c= .inl () by unfold oF;rw[h];rfl]
   simp only[Bool.true_and];exact oG P r
theorem Dw (P:UInt8→Bool) (f:Nat) (hP:∀c:UInt8,Call Q f [.int .u8 (c.toNat:Int)]=some (.bool (P c))) (b:List UInt8) (hb:b.length<2^62):Call Q 195 [.bs b,.fn f []]=some (.bool (b.all P)):=by
 rw[Call_fn Q (m:=m195) rfl rfl]
 apply ae;intro rhs hrhs
 simp(maxSteps:=4000000)(disch:=first|exact dz|fail)only[bB.u,seval,cut,m195,aq]
 refine u' fun K hK=>?_
 refine gC b (oF P) (fun _ i=>am [(4,none,PK.other)] (RunL Q m195k0 m195b0 K ⟨[(1,.fn f []),(7,.bs b),(8,.int .i64 b.length),(9,.int .i64 (i:Nat))],[],[],1⟩)) (fun _=>some (.bool false))
  (fun _ i=>i≤b.length) ?_ () (Nat.zero_le _) (congrArg (am _) (af (canon_cong kr kr kr))) ?_ ?_
 ·intro p i x hI hg
  obtain⟨hi,hxx⟩:=List.getElem?_eq_some_iff.1 hg
  have hlt:decide ((i:Int)<(b.length:Int))=true:=by simp;omega
  have hq:=hP x
  unfold oF
  split
  ·rename_i hc
   rw[hc]at hq
   refine⟨by omega,?_⟩
   obtain⟨b',hb'⟩:∃b',b'=m195b0:=⟨_,rfl⟩
   rw[ah,show Item.lp m195k0 m195b0=Item.lp m195k0 b' by rw[hb']]
   apply ae;intro rhs hrhs
   simp(maxSteps:=4000000)(disch:=first|exact dz|fail)only[bB.u,seval,cut,m195b0,hlt,hg,hq]
   subst hrhs;(subst hb';refine(congrArg (am _) (aA Q _ _ _ _)).trans ?_;exact congrArg (am [(4,none,.other)]) (af (canon_cong kr kr kr)))
  ·rename_i hc
   rw[Bool.not_eq_true]at hc
   rw[hc]at hq
   simp only[cS]
   obtain⟨b',hb'⟩:∃b',b'=m195b0:=⟨_,rfl⟩
   rw[ah,show Item.lp m195k0 m195b0=Item.lp m195k0 b' by rw[hb']]
   apply ae;intro rhs hrhs
   simp(maxSteps:=4000000)(disch:=first|exact dz|fail)only[bB.u,seval,cut,m195b0,hlt,hg,hq]
   subst hrhs;rfl
 ·intro s hf hI
  have hlt:decide ((b.length:Int)<(b.length:Int))=false:=by simp
  subst hK
  rw[oG]at hf
  have ha:b.all P=true:=by
   cases h:b.all P
   ·rw[h]at hf;cases hf
   ·rfl
  rw[hrhs,ha]
  obtain⟨b',hb'⟩:∃b',b'=m195b0:=⟨_,rfl⟩
  rw[ah,show Item.lp m195k0 m195b0=Item.lp m195k0 b' by rw[hb']]
  apply ae;intro rhs hrhs
  simp(maxSteps:=4000000)(disch:=first|exact dz|fail)only[bB.u,seval,cut,m195b0,hlt]
  subst hrhs;rfl
 ·intro c hf
  subst hrhs
  rw[oG]at hf
  cases h:b.all P
  ·rfl
  ·rw[h]at hf;cases hf
theorem Iy (c:UInt8):Call Q 197 [.int .u8 (c.toNat:Int)]=some (.bool (decide (c.toNat<128))):=by
 rw[Call_fn Q (m:=m197) rfl rfl]
 apply ae;intro rhs hrhs
 simp(maxSteps:=4000000)(disch:=first|exact dz|fail)only[bB.u,seval,cut,m197]
 subst hrhs;(first|rfl|(refine congrArg some (congrArg MV.bool ?_);rw[Bool.eq_iff_iff];simp only[Bool.and_eq_true,Bool.or_eq_true,Bool.not_eq_true',Bool.not_eq_true,decide_eq_true_eq,decide_eq_false_iff_not,beq_iff_eq,Bool.false_eq_true,false_iff,true_iff,iff_true,iff_false,←UInt8.toNat_inj];omega)|(refine congrArg some (congrArg MV.bool ?_);rw[Bool.eq_iff_iff];simp[←UInt8.toNat_inj]at *<;>omega)|(refine congrArg some (congrArg MV.bool ?_);rw[Bool.eq_iff_iff];simp_all[←UInt8.toNat_inj]<;>omega))
def m_ (c:UInt8):Bool:=decide (97≤c.toNat)&&decide (c.toNat≤122)||decide (65≤c.toNat)&&decide (c.toNat≤90)||decide (48≤c.toNat)&&decide (c.toNat≤57)||decide (0≤Lib.indexByte [UInt8.ofNat 32,UInt8.ofNat 39,UInt8.ofNat 40,UInt8.ofNat 41,UInt8.ofNat 43,UInt8.ofNat 44,UInt8.ofNat 45,UInt8.ofNat 46,UInt8.ofNat 47,UInt8.ofNat 58,UInt8.ofNat 61,UInt8.ofNat 63] c)
theorem Dx (a:UInt8) (l:List UInt8) (c:UInt8):Call Q 171 [.bs (a::l),.int .u8 (c.toNat:Int)]=some (.int .i64 (Lib.indexByte (a::l) c)):=by
 rw[bJ Q (g:=iP) rfl]
 show some (MV.int .i64 (Lib.indexByte (a::l) (UInt8.ofNat (c.toNat:Int).toNat)))=_
 simp
theorem Dy (c:UInt8):Call Q 148 [.int .u8 (c.toNat:Int)]=some (.bool (m_ c)):=by
 rw[Call_fn Q (m:=m148) rfl rfl]
 apply ae;intro rhs hrhs
 simp(maxSteps:=4000000)(disch:=first|exact dz|fail)only[bB.u,seval,cut,m148,Dx]
 repeat'((with_reducible first|refine sp ?_ ?_|fail)<;>intro hx<;>(try simp only[bI.u]at hx)<;>(first|exact xz|(try simp(maxSteps:=4000000)(disch:=first|exact dz|fail)only[bB.u,seval,cut,hx,m148,Dx])))
 all_goals first|exact xz|(subst hrhs;(first|rfl|(refine congrArg some (congrArg MV.bool ?_);rw[Bool.eq_iff_iff];simp only[m_,Bool.and_eq_true,Bool.or_eq_true,Bool.not_eq_true',Bool.not_eq_true,decide_eq_true_eq,decide_eq_false_iff_not,beq_iff_eq,Bool.false_eq_true,false_iff,true_iff,iff_true,iff_false,←UInt8.toNat_inj];omega)|(refine congrArg some (congrArg MV.bool ?_);rw[Bool.eq_iff_iff];simp[m_,←UInt8.toNat_inj]at *<;>omega)|(refine congrArg some (congrArg MV.bool ?_);rw[Bool.eq_iff_iff];simp_all[m_,←UInt8.toNat_inj]<;>omega)))
def dg (x:UInt8):Bool:=decide (48≤x.toNat)&&decide (x.toNat≤57)
def tv (x y:UInt8):Int:=((x.toNat:Int)-48)*10+((y.toNat:Int)-48)
theorem GN (x y:UInt8) (r:List UInt8) (hx:dg x=true) (hy:dg y=true):Call Q 217 [.bs (x::y::r)]=some (.tup [.int .i64 (tv x y),.bool true]):=by
 unfold dg at hx hy
 simp only[Bool.and_eq_true,decide_eq_true_eq]at hx hy
 rw[Call_fn Q (m:=m217) rfl rfl]
 have a1:(48:Int)≤(x.toNat:Int):=by omega
 have a2:(x.toNat:Int)≤57:=by omega
 have a3:(48:Int)≤(y.toNat:Int):=by omega
 have a4:(y.toNat:Int)≤57:=by omega
 have b1:decide ((48:Int)≤(x.toNat:Int))=true:=by simpa using a1
 have b2:decide ((x.toNat:Int)≤57)=true:=by simpa using a2
 have b3:decide ((48:Int)≤(y.toNat:Int))=true:=by simpa using a3
 have b4:decide ((y.toNat:Int)≤57)=true:=by simpa using a4
 apply ae;intro rhs hrhs
 simp(maxSteps:=4000000)(disch:=first|exact dz|fail)only[bB.u,seval,cut,m217,bq]
 repeat'((with_reducible first|refine sp ?_ ?_|fail)<;>intro hx<;>(try simp only[bI.u]at hx)<;>(first|exact xz|(try simp(maxSteps:=4000000)(disch:=first|exact dz|fail)only[bB.u,seval,cut,hx,m217,bq])))
 all_goals first|exact xz|(subst hrhs;(simp only[tv,b4]))
theorem t6 {z:Option MV} {n:Int} {b:Bool} (h:z=some (.tup [.int .i64 n,.bool b])) (hb:b=false):∃n,z=some (.tup [.int .i64 n,.bool false]):=⟨n,by rw[h,hb]⟩
theorem GO (x y:UInt8) (r:List UInt8) (h:(dg x&&dg y)=false):∃n,Call Q 217 [.bs (x::y::r)]=some (.tup [.int .i64 n,.bool false]):=by
 have h':¬((48:Int)≤(x.toNat:Int)∧(x.toNat:Int)≤57∧(48:Int)≤(y.toNat:Int)∧(y.toNat:Int)≤57):=by
  rintro⟨h1,h2,h3,h4⟩
  rw[show dg x=true by unfold dg;simp;omega,show dg y=true by unfold dg;simp;omega]at h
  cases h
 rw[Call_fn Q (m:=m217) rfl rfl]
 by_cases h1:(48:Int)≤(x.toNat:Int)
 ·by_cases h2:(x.toNat:Int)≤57
  ·by_cases h3:(48:Int)≤(y.toNat:Int)
   ·have h4:¬(y.toNat:Int)≤57:=fun h4=>h' ⟨h1,h2,h3,h4⟩
    refine t6 (n:=?n1) (b:=?b1) ?h1 ?hb1
    case h1=>simp(maxSteps:=4000000)(disch:=first|exact dz|fail)only[bB.u,seval,cut,m217,h1,h2,h3,h4,decide_true,decide_false];try exact rfl
    case hb1=>simp only[h4,decide_false]
   ·refine t6 (n:=?n2) (b:=?b2) ?h2 ?hb2
    case h2=>simp(maxSteps:=4000000)(disch:=first|exact dz|fail)only[bB.u,seval,cut,m217,h1,h2,h3,decide_true,decide_false];try exact rfl
    case hb2=>rfl
  ·refine t6 (n:=?n3) (b:=?b3) ?h3 ?hb3
   case h3=>simp(maxSteps:=4000000)(disch:=first|exact dz|fail)only[bB.u,seval,cut,m217,h1,h2,decide_true,decide_false];try exact rfl
   case hb3=>rfl
 ·refine t6 (n:=?n4) (b:=?b4) ?h4 ?hb4
  case h4=>simp(maxSteps:=4000000)(disch:=first|exact dz|fail)only[bB.u,seval,cut,m217,h1,decide_true,decide_false];try exact rfl
  case hb4=>rfl
def Cp (y m:Int):Int:=if m=4∨m=6∨m=9∨m=11 then 30 else if m=2 then(if y%4=0∧(y%100≠0∨y%400=0)then 29 else 28)else 31
theorem pL (y m:Int) (hy:0≤y):Call Q 218 [.int .i64 y,.int .i64 m]=some (.int .i64 (Cp y m)):=by
 rw[Call_fn Q (m:=m218) rfl rfl]
 apply ae;intro rhs hrhs
 simp(maxSteps:=4000000)(disch:=first|exact dz|fail)only[bB.u,seval,cut,m218]
 repeat'((with_reducible first|refine sp ?_ ?_|fail)<;>intro hx<;>(try simp only[bI.u]at hx)<;>(first|exact xz|(try simp(maxSteps:=4000000)(disch:=first|exact dz|fail)only[bB.u,seval,cut,hx,m218])))
 all_goals first|exact xz|(subst hrhs;(unfold Cp;first|rfl|(refine congrArg some (congrArg (MV.int .i64) ?_);split<;>(try split)<;>(try split)<;>first|rfl|(exfalso;omega))))
def gTm (b:List UInt8) (l:List Int) (j:Nat):List Int ⊕ Unit:=if(dg (g0 b (2*j))&&dg (g0 b (2*j+1)))=true then .inl (l++[tv (g0 b (2*j)) (g0 b (2*j+1))])else .inr ()
def dC (y m d h mi s:Int):Bool:=decide (1≤m)&&decide (m≤12)&&decide (1≤d)&&decide (d≤Cp y m)&&decide (h<24)&&decide (mi<60)&&decide (s<60)
def ku (k:Nat):List Int→Bool
 | [a,b,c,d,e,f]=>if k=6 then dC (if a+1900<1950 then a+1900+100 else a+1900) b c d e f else false
 | [z,a,b,c,d,e,f]=>if k=7 then dC (100*z+a) b c d e f else false
 |_=>false
def eI (b:List UInt8) (k:Nat):Bool:=decide (b.length=2*k+1)&&decide (g0 b (2*k)=90)&&match aG (gTm b) [] (List.range k)with
 | .inl l=>ku k l
 | .inr _=>false
def iv (l:List Int):List MV:=l.map fun n=>.int .i64 n
theorem Ag (l:List Int):(iv l).length=l.length:=by simp[iv]
theorem xH (l:List Int) (n:Int):iv (l++[n])=iv l++[.int .i64 n]:=by simp[iv]
theorem Ah (x y:UInt8) (h:(dg x&&dg y)=true):0≤tv x y∧tv x y≤99:=by
 unfold dg at h;unfold tv
 simp only[Bool.and_eq_true,decide_eq_true_eq]at h
 omega
theorem six {α:Type} (l:List α) (h:l.length=6):∃a b c d e f,l=[a,b,c,d,e,f]:=by
 match l,h with
 | [a,b,c,d,e,f],_=>exact⟨a,b,c,d,e,f,rfl⟩
theorem seven {α:Type} (l:List α) (h:l.length=7):∃z a b c d e f,l=[z,a,b,c,d,e,f]:=by
 match l,h with
 | [z,a,b,c,d,e,f],_=>exact⟨z,a,b,c,d,e,f,rfl⟩
theorem IA (b:List UInt8) (i:Nat) (h:i+1<b.length):b.drop i=g0 b i::g0 b (i+1)::b.drop (i+2):=by
 rw[List.drop_eq_getElem_cons (by omega),List.drop_eq_getElem_cons h]
 unfold g0
 simp[List.getD_eq_getElem?_getD,List.getElem?_eq_getElem h,List.getElem?_eq_getElem (show i<b.length by omega)]
theorem va (b:List UInt8) (k:Nat) (y:Int) (hk:k=6∧y=2∨k=7∧y=4) (hb:b.length<2^62):Call Q 199 [.bs b,.int .i64 y]=some (.bool (eI b k)):=by
 rw[Call_fn Q (m:=m199) rfl rfl]
 have ey:y+11=2*k+1:=by omega
 have eL:((b.length:Int)-1).toNat=b.length-1:=by omega
 by_cases hl:b.length=2*k+1
 rotate_left
 ·rw[show eI b k=false by unfold eI;rw[show decide (b.length=2*k+1)=false by simpa using hl];rfl]
  have hn:((b.length:Int)==y+11)=false:=by simp;omega
  have hw:IntKind.i64.wrap (y+11)=y+11:=fG (by omega) (by omega)
  apply ae;intro rhs hrhs
  simp(maxSteps:=4000000)(disch:=first|exact dz|fail)only[bB.u,seval,cut,m199,hw,hn]
  repeat'((with_reducible first|refine sp ?_ ?_|fail)<;>intro hx<;>(try simp only[bI.u]at hx)<;>(first|exact xz|(try simp(maxSteps:=4000000)(disch:=first|exact dz|fail)only[bB.u,seval,cut,hx,m199,hw,hn])))
  all_goals first|exact xz|(subst hrhs;rfl)
 by_cases hz:g0 b (2*k)=90
 rotate_left
 ·rw[show eI b k=false by unfold eI;rw[show decide (g0 b (2*k)=90)=false by simpa using hz];simp]
  have hn:((b.length:Int)==y+11)=true:=by simp;omega
  have hw:IntKind.i64.wrap (y+11)=y+11:=fG (by omega) (by omega)
  have e2:b.length-1=2*k:=by omega
  have h9:(((g0 b (2*k)).toNat:Int)==90)=false:=by
   simp only[beq_eq_false_iff_ne,ne_eq]
   intro h;apply hz;apply UInt8.toNat_inj.1;simp;omega
  apply ae;intro rhs hrhs
  simp(maxSteps:=4000000)(disch:=first|exact dz|fail)only[bB.u,seval,cut,m199,hw,hn,bq,eL,e2,h9]
  repeat'((with_reducible first|refine sp ?_ ?_|fail)<;>intro hx<;>(try simp only[bI.u]at hx)<;>(first|exact xz|(try simp(maxSteps:=4000000)(disch:=first|exact dz|fail)only[bB.u,seval,cut,hx,m199,hw,hn,bq,eL,e2,h9])))
  all_goals first|exact xz|(subst hrhs;rfl)
 ·have hn:((b.length:Int)==y+11)=true:=by simp;omega
  have hw:IntKind.i64.wrap (y+11)=y+11:=fG (by omega) (by omega)
  have e2:b.length-1=2*k:=by omega
  have h9:(((g0 b (2*k)).toNat:Int)==90)=true:=by rw[hz];rfl
  apply ae;intro rhs hrhs
  simp(maxSteps:=4000000)(disch:=first|exact dz|fail)only[bB.u,seval,cut,m199,aq,hw,hn,bq,eL,e2,h9]
  refine u' fun K hK=>?_
  refine gC (List.range k) (gTm b) (fun l i=>am [(4,none,PK.other)] (RunL Q m199k0 m199b0 K ⟨[(0,.bs b),(1,.int .i64 y),(5,.own (if i=0 then 1 else 0) i),(6,.int .i64 (2*i:Nat))],[],[(if i=0 then 1 else 0,.el 1 (iv l) false)],2⟩)) (fun _=>some (.bool false))
   (fun l i=>l.length=i∧∀x∈l,0≤x∧x≤99) ?_ [] ⟨rfl,by simp⟩ (congrArg (am _) (af (canon_cong kr kr kr))) ?_ ?_
  ·intro l i j hI hg
   obtain⟨hi,hij⟩:=List.getElem?_eq_some_iff.1 hg
   simp only[List.length_range]at hi
   simp only[List.getElem_range]at hij
   subst hij
   have hlt:decide (((2*i:Nat):Int)<(b.length:Int)-1)=true:=by simp;omega
   have hwl:IntKind.i64.wrap ((b.length:Int)-1)=(b.length:Int)-1:=fG (by omega) (by omega)
   have hd:=IA b (2*i) (by omega)
   have hle:2*i≤b.length:=by omega
   have htk:(b.drop (2*i)).take (b.length-2*i)=b.drop (2*i):=List.take_of_length_le (by simp)
   unfold gTm
   have ha:(if i=0 then 1 else 0)≤1:=by split<;>omega
   generalize(if i=0 then 1 else 0)=a at ha ⊢
   split
   ·rename_i hc
    have h2:=GN (g0 b (2*i)) (g0 b (2*i+1)) (b.drop (2*i+2)) (by simp only[Bool.and_eq_true]at hc;exact hc.1) (by simp only[Bool.and_eq_true]at hc;exact hc.2)
    rw[←hd]at h2
    have hr:=Ah _ _ hc
    generalize tv (g0 b (2*i)) (g0 b (2*i+1))=v at h2 hr ⊢
    refine⟨⟨by simp[hI.1],?_⟩,?_⟩
    ·intro x hx
     rcases List.mem_append.1 hx with hx|hx
     ·exact hI.2 x hx
     ·simp only[List.mem_singleton]at hx;subst hx;exact hr
    have e9:((2*(i+1):Nat):Int)=((2*i:Nat):Int)+2:=by omega
    have hiv:(iv l).length=i:=by rw[Ag];exact hI.1
    obtain⟨b',hb'⟩:∃b',b'=m199b0:=⟨_,rfl⟩
    rw[ah,show Item.lp m199k0 m199b0=Item.lp m199k0 b' by rw[hb']]
    apply ae;intro rhs hrhs
    simp(maxSteps:=4000000)(disch:=first|exact dz|fail)only[bB.u,seval,cut,m199b0,hlt,hwl,h2,hiv,htk]
    repeat'((with_reducible first|refine sp ?_ ?_|fail)<;>intro hx<;>(try simp only[bI.u]at hx)<;>(first|exact xz|(try simp(maxSteps:=4000000)(disch:=first|exact dz|fail)only[bB.u,seval,cut,hx,m199b0,hlt,hwl,h2,hiv,htk])))
    all_goals first|exact xz|(subst hrhs;(subst hb';refine(congrArg (am _) (aA Q _ _ _ _)).trans ?_;dsimp only;rw[xH,if_neg (Nat.succ_ne_zero _),e9];exact congrArg (am [(4,none,.other)]) (af (canon_cong kr kr kr))))
   ·rename_i hc
    rw[Bool.not_eq_true]at hc
    obtain⟨v,h2⟩:=GO (g0 b (2*i)) (g0 b (2*i+1)) (b.drop (2*i+2)) hc
    rw[←hd]at h2
    simp only[cS]
    obtain⟨b',hb'⟩:∃b',b'=m199b0:=⟨_,rfl⟩
    rw[ah,show Item.lp m199k0 m199b0=Item.lp m199k0 b' by rw[hb']]
    apply ae;intro rhs hrhs
    simp(maxSteps:=4000000)(disch:=first|exact dz|fail)only[bB.u,seval,cut,m199b0,hlt,hwl,h2,htk]
    repeat'((with_reducible first|refine sp ?_ ?_|fail)<;>intro hx<;>(try simp only[bI.u]at hx)<;>(first|exact xz|(try simp(maxSteps:=4000000)(disch:=first|exact dz|fail)only[bB.u,seval,cut,hx,m199b0,hlt,hwl,h2,htk])))
    all_goals first|exact xz|(subst hrhs;rfl)
  ·intro l hf hI
   rw[List.length_range]at hI ⊢
   have hE:eI b k=ku k l:=by
    unfold eI;rw[hf,hz,hl];simp
   rw[hrhs,hE]
   clear hrhs
   have hlt:decide (((2*k:Nat):Int)<(b.length:Int)-1)=false:=by simp;omega
   have hwl:IntKind.i64.wrap ((b.length:Int)-1)=(b.length:Int)-1:=fG (by omega) (by omega)
   have e1:(if k=0 then 1 else 0)=0:=if_neg (by omega)
   subst hK
   rw[e1]
   obtain⟨hI,hr⟩:=hI
   rcases hk with⟨rfl,rfl⟩|⟨rfl,rfl⟩
   ·obtain⟨a0,a1,a2,a3,a4,a5,rfl⟩:=six l hI
    have r0:=hr a0 (by simp);have r1:=hr a1 (by simp);have r2:=hr a2 (by simp);have r3:=hr a3 (by simp);have r4:=hr a4 (by simp);have r5:=hr a5 (by simp)
    clear hf hr
    obtain⟨b',hb'⟩:∃b',b'=m199b0:=⟨_,rfl⟩
    rw[ah,show Item.lp m199k0 m199b0=Item.lp m199k0 b' by rw[hb']]
    apply ae;intro rhs hrhs
    simp(maxSteps:=4000000)(disch:=first|exact dz|fail)only[bB.u,seval,cut,m199b0,hlt,hwl,iv,pL]
    repeat'((with_reducible first|refine sp ?_ ?_|fail)<;>intro hx<;>(try simp only[bI.u]at hx)<;>(first|exact xz|(try simp(maxSteps:=4000000)(disch:=first|exact dz|fail)only[bB.u,seval,cut,hx,m199b0,hlt,hwl,iv,pL])))
    all_goals first|exact xz|(subst hrhs;first|rfl|(simp only[ku,if_true];(first|rfl|(refine congrArg some (congrArg MV.bool ?_);rw[Bool.eq_iff_iff];simp only[dC,Bool.and_eq_true,Bool.or_eq_true,Bool.not_eq_true',Bool.not_eq_true,decide_eq_true_eq,decide_eq_false_iff_not,beq_iff_eq,Bool.false_eq_true,false_iff,true_iff,iff_true,iff_false,←UInt8.toNat_inj];omega)|(refine congrArg some (congrArg MV.bool ?_);rw[Bool.eq_iff_iff];simp[dC,←UInt8.toNat_inj]at *<;>omega)|(refine congrArg some (congrArg MV.bool ?_);rw[Bool.eq_iff_iff];simp_all[dC,←UInt8.toNat_inj]<;>omega)))|(simp only[ku,if_true];rw[if_pos (by omega)];(first|rfl|(refine congrArg some (congrArg MV.bool ?_);rw[Bool.eq_iff_iff];simp only[dC,Bool.and_eq_true,Bool.or_eq_true,Bool.not_eq_true',Bool.not_eq_true,decide_eq_true_eq,decide_eq_false_iff_not,beq_iff_eq,Bool.false_eq_true,false_iff,true_iff,iff_true,iff_false,←UInt8.toNat_inj];omega)|(refine congrArg some (congrArg MV.bool ?_);rw[Bool.eq_iff_iff];simp[dC,←UInt8.toNat_inj]at *<;>omega)|(refine congrArg some (congrArg MV.bool ?_);rw[Bool.eq_iff_iff];simp_all[dC,←UInt8.toNat_inj]<;>omega)))|(simp only[ku,if_true];rw[if_neg (by omega)];(first|rfl|(refine congrArg some (congrArg MV.bool ?_);rw[Bool.eq_iff_iff];simp only[dC,Bool.and_eq_true,Bool.or_eq_true,Bool.not_eq_true',Bool.not_eq_true,decide_eq_true_eq,decide_eq_false_iff_not,beq_iff_eq,Bool.false_eq_true,false_iff,true_iff,iff_true,iff_false,←UInt8.toNat_inj];omega)|(refine congrArg some (congrArg MV.bool ?_);rw[Bool.eq_iff_iff];simp[dC,←UInt8.toNat_inj]at *<;>omega)|(refine congrArg some (congrArg MV.bool ?_);rw[Bool.eq_iff_iff];simp_all[dC,←UInt8.toNat_inj]<;>omega))))
   ·obtain⟨a,a0,a1,a2,a3,a4,a5,rfl⟩:=seven l hI
    have r:=hr a (by simp);have r0:=hr a0 (by simp);have r1:=hr a1 (by simp);have r2:=hr a2 (by simp);have r3:=hr a3 (by simp);have r4:=hr a4 (by simp);have r5:=hr a5 (by simp)
    clear hf hr
    obtain⟨b',hb'⟩:∃b',b'=m199b0:=⟨_,rfl⟩
    rw[ah,show Item.lp m199k0 m199b0=Item.lp m199k0 b' by rw[hb']]
    apply ae;intro rhs hrhs
    simp(maxSteps:=4000000)(disch:=first|exact dz|fail)only[bB.u,seval,cut,m199b0,hlt,hwl,iv,pL]
    repeat'((with_reducible first|refine sp ?_ ?_|fail)<;>intro hx<;>(try simp only[bI.u]at hx)<;>(first|exact xz|(try simp(maxSteps:=4000000)(disch:=first|exact dz|fail)only[bB.u,seval,cut,hx,m199b0,hlt,hwl,iv,pL])))
    all_goals first|exact xz|(subst hrhs;first|rfl|(simp only[ku,if_true];(first|rfl|(refine congrArg some (congrArg MV.bool ?_);rw[Bool.eq_iff_iff];simp only[dC,Bool.and_eq_true,Bool.or_eq_true,Bool.not_eq_true',Bool.not_eq_true,decide_eq_true_eq,decide_eq_false_iff_not,beq_iff_eq,Bool.false_eq_true,false_iff,true_iff,iff_true,iff_false,←UInt8.toNat_inj];omega)|(refine congrArg some (congrArg MV.bool ?_);rw[Bool.eq_iff_iff];simp[dC,←UInt8.toNat_inj]at *<;>omega)|(refine congrArg some (congrArg MV.bool ?_);rw[Bool.eq_iff_iff];simp_all[dC,←UInt8.toNat_inj]<;>omega)))|(simp only[ku,if_true];rw[if_pos (by omega)];(first|rfl|(refine congrArg some (congrArg MV.bool ?_);rw[Bool.eq_iff_iff];simp only[dC,Bool.and_eq_true,Bool.or_eq_true,Bool.not_eq_true',Bool.not_eq_true,decide_eq_true_eq,decide_eq_false_iff_not,beq_iff_eq,Bool.false_eq_true,false_iff,true_iff,iff_true,iff_false,←UInt8.toNat_inj];omega)|(refine congrArg some (congrArg MV.bool ?_);rw[Bool.eq_iff_iff];simp[dC,←UInt8.toNat_inj]at *<;>omega)|(refine congrArg some (congrArg MV.bool ?_);rw[Bool.eq_iff_iff];simp_all[dC,←UInt8.toNat_inj]<;>omega)))|(simp only[ku,if_true];rw[if_neg (by omega)];(first|rfl|(refine congrArg some (congrArg MV.bool ?_);rw[Bool.eq_iff_iff];simp only[dC,Bool.and_eq_true,Bool.or_eq_true,Bool.not_eq_true',Bool.not_eq_true,decide_eq_true_eq,decide_eq_false_iff_not,beq_iff_eq,Bool.false_eq_true,false_iff,true_iff,iff_true,iff_false,←UInt8.toNat_inj];omega)|(refine congrArg some (congrArg MV.bool ?_);rw[Bool.eq_iff_iff];simp[dC,←UInt8.toNat_inj]at *<;>omega)|(refine congrArg some (congrArg MV.bool ?_);rw[Bool.eq_iff_iff];simp_all[dC,←UInt8.toNat_inj]<;>omega))))
  ·intro c hf
   subst hrhs
   unfold eI;rw[hf];simp
theorem vb:Call Q 168 [.int .i64 1]=some (.tup [.agg [.bool false,.fn 188 []],.bool true]):=Call_iff.2 ⟨100,by kernel_rfl⟩
theorem vc:Call Q 168 [.int .i64 2]=some (.tup [.agg [.bool false,.fn 189 []],.bool true]):=Call_iff.2 ⟨100,by kernel_rfl⟩
theorem sR:Call Q 168 [.int .i64 10]=some (.tup [.agg [.bool false,.fn 189 []],.bool true]):=Call_iff.2 ⟨100,by kernel_rfl⟩
theorem vg:Call Q 168 [.int .i64 3]=some (.tup [.agg [.bool false,.fn 190 []],.bool true]):=Call_iff.2 ⟨100,by kernel_rfl⟩
theorem Cq:Call Q 168 [.int .i64 4]=some (.tup [.agg [.bool false,.fn 187 []],.bool true]):=Call_iff.2 ⟨100,by kernel_rfl⟩
theorem vj:Call Q 168 [.int .i64 5]=some (.tup [.agg [.bool false,.fn 191 []],.bool true]):=Call_iff.2 ⟨100,by kernel_rfl⟩
theorem vk:Call Q 168 [.int .i64 6]=some (.tup [.agg [.bool false,.fn 192 []],.bool true]):=Call_iff.2 ⟨100,by kernel_rfl⟩
theorem sS:Call Q 168 [.int .i64 12]=some (.tup [.agg [.bool false,.fn 193 []],.bool true]):=Call_iff.2 ⟨100,by kernel_rfl⟩
theorem sT:Call Q 168 [.int .i64 19]=some (.tup [.agg [.bool false,.fn 194 []],.bool true]):=Call_iff.2 ⟨100,by kernel_rfl⟩
theorem sU:Call Q 168 [.int .i64 22]=some (.tup [.agg [.bool false,.fn 196 []],.bool true]):=Call_iff.2 ⟨100,by kernel_rfl⟩
theorem sV:Call Q 168 [.int .i64 23]=some (.tup [.agg [.bool false,.fn 198 []],.bool true]):=Call_iff.2 ⟨100,by kernel_rfl⟩
theorem sW:Call Q 168 [.int .i64 24]=some (.tup [.agg [.bool false,.fn 200 []],.bool true]):=Call_iff.2 ⟨100,by kernel_rfl⟩
theorem Ai:Call Q 168 [.int .i64 16]=some (.tup [.agg [.bool true,.fn 187 []],.bool true]):=Call_iff.2 ⟨100,by kernel_rfl⟩
theorem Aj:Call Q 168 [.int .i64 17]=some (.tup [.agg [.bool true,.fn 187 []],.bool true]):=Call_iff.2 ⟨100,by kernel_rfl⟩
theorem Cr (t:Int) (h:t≠1∧t≠2∧t≠10∧t≠3∧t≠4∧t≠5∧t≠6∧t≠12∧t≠19∧t≠22∧t≠23∧t≠24∧t≠16∧t≠17):Call Q 168 [.int .i64 t]=some (.tup [.agg [.bool false,.nilfn],.bool false]):=by
 obtain⟨h0,h1,h2,h3,h4,h5,h6,h7,h8,h9,h10,h11,h12,h13⟩:=h
 rw[Call_fn Q (m:=m168) rfl rfl]
 apply ae;intro rhs hrhs
 simp(maxSteps:=4000000)(disch:=first|exact dz|fail)only[bB.u,seval,cut,m168]
 repeat'((with_reducible first|refine sp ?_ ?_|fail)<;>intro hx<;>(try simp only[bI.u]at hx)<;>(first|exact xz|(try simp(maxSteps:=4000000)(disch:=first|exact dz|fail)only[bB.u,seval,cut,hx,m168])))
 all_goals first|exact xz|(subst hrhs;rfl)
theorem Cs (b:List UInt8) (hb:b.length<2^62):Call Q 194 [.bs b]=some (.bool (b.all m_)):=by
 have h:=Dw m_ 148 Dy b hb
 rw[Call_fn Q (m:=m194) rfl rfl]
 apply ae;intro rhs hrhs
 simp(maxSteps:=4000000)(disch:=first|exact dz|fail)only[bB.u,seval,cut,m194,h]
 subst hrhs;rfl
theorem GP (b:List UInt8) (hb:b.length<2^62):Call Q 196 [.bs b]=some (.bool (b.all fun c=>decide (c.toNat<128))):=by
 have h:=Dw (fun c=>decide (c.toNat<128)) 197 Iy b hb
 rw[Call_fn Q (m:=m196) rfl rfl]
 apply ae;intro rhs hrhs
 simp(maxSteps:=4000000)(disch:=first|exact dz|fail)only[bB.u,seval,cut,m196,h]
 subst hrhs;rfl
theorem Jo (b:List UInt8) (hb:b.length<2^62):Call Q 198 [.bs b]=some (.bool (eI b 6)):=by
 have h:=va b 6 2 (.inl ⟨rfl,rfl⟩) hb
 rw[Call_fn Q (m:=m198) rfl rfl]
 apply ae;intro rhs hrhs
 simp(maxSteps:=4000000)(disch:=first|exact dz|fail)only[bB.u,seval,cut,m198,h]
 subst hrhs;rfl
theorem Jp (b:List UInt8) (hb:b.length<2^62):Call Q 200 [.bs b]=some (.bool (eI b 7)):=by
 have h:=va b 7 4 (.inr ⟨rfl,rfl⟩) hb
 rw[Call_fn Q (m:=m200) rfl rfl]
 apply ae;intro rhs hrhs
 simp(maxSteps:=4000000)(disch:=first|exact dz|fail)only[bB.u,seval,cut,m200,h]
 subst hrhs;rfl
theorem xI (b:List UInt8) (hb:b.length≤2^47):Call Q 193 [.bs b]=some (.bool (Lib.validD b)):=by
 rw[bJ Q (g:=kK) rfl]
 exact if_pos hb
theorem d_ {f:Nat} {m:MFunc} (hp:Q.prim f=none) (hf:Q.fn f=some m) (he:entry m [.nilsl]=entry m [.bs []]):Call Q f [.nilsl]=Call Q f [.bs []]:=by
 rw[Call_fn Q hp hf,Call_fn Q hp hf,he]
theorem Ct:Call Q 193 [.nilsl]=Call Q 193 [.bs []]:=by
 rw[xI [] (by simp),bJ Q (g:=kK) rfl];rfl
def right (t:Int) (b:List UInt8):Bool:=
 if t=1 then pJ b else
 if t=2 then m8 b else
 if t=10 then m8 b else
 if t=3 then pK b else
 if t=4 then true else
 if t=5 then b.isEmpty else
 if t=6 then kq b else
 if t=12 then Lib.validD b else
 if t=19 then b.all m_ else
 if t=22 then b.all fun c=>decide (c.toNat<128)else
 if t=23 then eI b 6 else
 if t=24 then eI b 7 else true
def aR (c t:Int) (m:Bool) (b:List UInt8):Int:=
 if c≠0 then 0
 else if t=16∨t=17 then(if m then 0 else 21)
 else if t=1∨t=2∨t=10∨t=3∨t=4∨t=5∨t=6∨t=12∨t=19∨t=22∨t=23∨t=24 then(if m then 21 else if right t b then 0 else 24)
 else 21
inductive Rb:MV→List UInt8→Prop
 |bs (l):Rb (.bs l) l
 |nil:Rb .nilsl []
inductive Rk:MV→Prop
 |sl (l):Rk (.sl 5 l)
 |fsl (l):Rk (.fsl 5 l)
 |nil:Rk .nilsl
theorem ET (m:Bool) (v k:MV) (b:List UInt8) (hv:Rb v b) (hk:Rk k) (hb:b.length≤2^47):Call Q 145 [.agg [.int .i64 0,.int .i64 1,.bool m,v,k]]=some (.int .i64 (aR 0 1 m b)):=by
 have hb2:b.length<2^62:=by omega
 have h:=EP b
 have h0:Call Q 188 [.nilsl]=Call Q 188 [.bs []]:=d_ (m:=m188) rfl rfl rfl
 rw[Call_fn Q (m:=m145) rfl rfl]
 cases hv<;>cases hk<;>cases m
 all_goals(
  apply ae;intro rhs hrhs
  simp(maxSteps:=4000000)(disch:=first|exact dz|fail)only[bB.u,seval,cut,m145,vb,h0,h]
  repeat'((with_reducible first|refine sp ?_ ?_|fail)<;>intro hx<;>(try simp only[bI.u]at hx)<;>(first|exact xz|(try simp(maxSteps:=4000000)(disch:=first|exact dz|fail)only[bB.u,seval,cut,hx,m145,vb,h0,h])))
  all_goals first|exact xz|(subst hrhs;(first|rfl|(simp[aR,right, *]))))
theorem EU (m:Bool) (v k:MV) (b:List UInt8) (hv:Rb v b) (hk:Rk k) (hb:b.length≤2^47):Call Q 145 [.agg [.int .i64 0,.int .i64 2,.bool m,v,k]]=some (.int .i64 (aR 0 2 m b)):=by
 have hb2:b.length<2^62:=by omega
 have h:=xG b hb2
 have h0:Call Q 189 [.nilsl]=Call Q 189 [.bs []]:=d_ (m:=m189) rfl rfl rfl
 rw[Call_fn Q (m:=m145) rfl rfl]
 cases hv<;>cases hk<;>cases m
 all_goals(
  apply ae;intro rhs hrhs
  simp(maxSteps:=4000000)(disch:=first|exact dz|fail)only[bB.u,seval,cut,m145,vc,h0,h]
  repeat'((with_reducible first|refine sp ?_ ?_|fail)<;>intro hx<;>(try simp only[bI.u]at hx)<;>(first|exact xz|(try simp(maxSteps:=4000000)(disch:=first|exact dz|fail)only[bB.u,seval,cut,hx,m145,vc,h0,h])))
  all_goals first|exact xz|(subst hrhs;(first|rfl|(simp[aR,right, *]))))
theorem Cu (m:Bool) (v k:MV) (b:List UInt8) (hv:Rb v b) (hk:Rk k) (hb:b.length≤2^47):Call Q 145 [.agg [.int .i64 0,.int .i64 10,.bool m,v,k]]=some (.int .i64 (aR 0 10 m b)):=by
 have hb2:b.length<2^62:=by omega
 have h:=xG b hb2
 have h0:Call Q 189 [.nilsl]=Call Q 189 [.bs []]:=d_ (m:=m189) rfl rfl rfl
 rw[Call_fn Q (m:=m145) rfl rfl]
 cases hv<;>cases hk<;>cases m
 all_goals(
  apply ae;intro rhs hrhs
  simp(maxSteps:=4000000)(disch:=first|exact dz|fail)only[bB.u,seval,cut,m145,sR,h0,h]
  repeat'((with_reducible first|refine sp ?_ ?_|fail)<;>intro hx<;>(try simp only[bI.u]at hx)<;>(first|exact xz|(try simp(maxSteps:=4000000)(disch:=first|exact dz|fail)only[bB.u,seval,cut,hx,m145,sR,h0,h])))
  all_goals first|exact xz|(subst hrhs;(first|rfl|(simp[aR,right, *]))))
theorem EV (m:Bool) (v k:MV) (b:List UInt8) (hv:Rb v b) (hk:Rk k) (hb:b.length≤2^47):Call Q 145 [.agg [.int .i64 0,.int .i64 3,.bool m,v,k]]=some (.int .i64 (aR 0 3 m b)):=by
 have hb2:b.length<2^62:=by omega
 have h:=ES b hb2
 have h0:Call Q 190 [.nilsl]=Call Q 190 [.bs []]:=d_ (m:=m190) rfl rfl rfl
 rw[Call_fn Q (m:=m145) rfl rfl]
 cases hv<;>cases hk<;>cases m
 all_goals(
  apply ae;intro rhs hrhs
  simp(maxSteps:=4000000)(disch:=first|exact dz|fail)only[bB.u,seval,cut,m145,vg,h0,h]
  repeat'((with_reducible first|refine sp ?_ ?_|fail)<;>intro hx<;>(try simp only[bI.u]at hx)<;>(first|exact xz|(try simp(maxSteps:=4000000)(disch:=first|exact dz|fail)only[bB.u,seval,cut,hx,m145,vg,h0,h])))
  all_goals first|exact xz|(subst hrhs;(first|rfl|(simp[aR,right, *]))))
theorem EW (m:Bool) (v k:MV) (b:List UInt8) (hv:Rb v b) (hk:Rk k) (hb:b.length≤2^47):Call Q 145 [.agg [.int .i64 0,.int .i64 4,.bool m,v,k]]=some (.int .i64 (aR 0 4 m b)):=by
 have hb2:b.length<2^62:=by omega
 have h:=rF b
 have h0:Call Q 187 [.nilsl]=Call Q 187 [.bs []]:=d_ (m:=m187) rfl rfl rfl
 rw[Call_fn Q (m:=m145) rfl rfl]
 cases hv<;>cases hk<;>cases m
 all_goals(
  apply ae;intro rhs hrhs
  simp(maxSteps:=4000000)(disch:=first|exact dz|fail)only[bB.u,seval,cut,m145,Cq,h0,h]
  subst hrhs;(first|rfl|(simp[aR,right, *])))
theorem EX (m:Bool) (v k:MV) (b:List UInt8) (hv:Rb v b) (hk:Rk k) (hb:b.length≤2^47):Call Q 145 [.agg [.int .i64 0,.int .i64 5,.bool m,v,k]]=some (.int .i64 (aR 0 5 m b)):=by
 have hb2:b.length<2^62:=by omega
 have h:=EQ b
 have h0:Call Q 191 [.nilsl]=Call Q 191 [.bs []]:=d_ (m:=m191) rfl rfl rfl
 rw[Call_fn Q (m:=m145) rfl rfl]
 cases hv<;>cases hk<;>cases m
 all_goals(
  apply ae;intro rhs hrhs
  simp(maxSteps:=4000000)(disch:=first|exact dz|fail)only[bB.u,seval,cut,m145,vj,h0,h]
  repeat'((with_reducible first|refine sp ?_ ?_|fail)<;>intro hx<;>(try simp only[bI.u]at hx)<;>(first|exact xz|(try simp(maxSteps:=4000000)(disch:=first|exact dz|fail)only[bB.u,seval,cut,hx,m145,vj,h0,h])))
  all_goals first|exact xz|(subst hrhs;(first|rfl|(simp[aR,right, *]))))
theorem EY (m:Bool) (v k:MV) (b:List UInt8) (hv:Rb v b) (hk:Rk k) (hb:b.length≤2^47):Call Q 145 [.agg [.int .i64 0,.int .i64 6,.bool m,v,k]]=some (.int .i64 (aR 0 6 m b)):=by
 have hb2:b.length<2^62:=by omega
 have h:=Co b hb2
 have h0:Call Q 192 [.nilsl]=Call Q 192 [.bs []]:=d_ (m:=m192) rfl rfl rfl
 rw[Call_fn Q (m:=m145) rfl rfl]
 cases hv<;>cases hk<;>cases m
 all_goals(
  apply ae;intro rhs hrhs
  simp(maxSteps:=4000000)(disch:=first|exact dz|fail)only[bB.u,seval,cut,m145,vk,h0,h]
  repeat'((with_reducible first|refine sp ?_ ?_|fail)<;>intro hx<;>(try simp only[bI.u]at hx)<;>(first|exact xz|(try simp(maxSteps:=4000000)(disch:=first|exact dz|fail)only[bB.u,seval,cut,hx,m145,vk,h0,h])))
  all_goals first|exact xz|(subst hrhs;(first|rfl|(simp[aR,right, *]))))
theorem Cv (m:Bool) (v k:MV) (b:List UInt8) (hv:Rb v b) (hk:Rk k) (hb:b.length≤2^47):Call Q 145 [.agg [.int .i64 0,.int .i64 12,.bool m,v,k]]=some (.int .i64 (aR 0 12 m b)):=by
 have hb2:b.length<2^62:=by omega
 have h:=xI b hb
 have h0:Call Q 193 [.nilsl]=Call Q 193 [.bs []]:=Ct
 rw[Call_fn Q (m:=m145) rfl rfl]
 cases hv<;>cases hk<;>cases m
 all_goals(
  apply ae;intro rhs hrhs
  simp(maxSteps:=4000000)(disch:=first|exact dz|fail)only[bB.u,seval,cut,m145,sS,h0,h]
  repeat'((with_reducible first|refine sp ?_ ?_|fail)<;>intro hx<;>(try simp only[bI.u]at hx)<;>(first|exact xz|(try simp(maxSteps:=4000000)(disch:=first|exact dz|fail)only[bB.u,seval,cut,hx,m145,sS,h0,h])))
  all_goals first|exact xz|(subst hrhs;(first|rfl|(simp[aR,right, *]))))
theorem Cw (m:Bool) (v k:MV) (b:List UInt8) (hv:Rb v b) (hk:Rk k) (hb:b.length≤2^47):Call Q 145 [.agg [.int .i64 0,.int .i64 19,.bool m,v,k]]=some (.int .i64 (aR 0 19 m b)):=by
 have hb2:b.length<2^62:=by omega
 have h:=Cs b hb2
 have h0:Call Q 194 [.nilsl]=Call Q 194 [.bs []]:=d_ (m:=m194) rfl rfl rfl
 rw[Call_fn Q (m:=m145) rfl rfl]
 cases hv<;>cases hk<;>cases m
 all_goals(
  apply ae;intro rhs hrhs
  simp(maxSteps:=4000000)(disch:=first|exact dz|fail)only[bB.u,seval,cut,m145,sT,h0,h]
  repeat'((with_reducible first|refine sp ?_ ?_|fail)<;>intro hx<;>(try simp only[bI.u]at hx)<;>(first|exact xz|(try simp(maxSteps:=4000000)(disch:=first|exact dz|fail)only[bB.u,seval,cut,hx,m145,sT,h0,h])))
  all_goals first|exact xz|(subst hrhs;(first|rfl|(simp[aR,right, *]))))
theorem Cx (m:Bool) (v k:MV) (b:List UInt8) (hv:Rb v b) (hk:Rk k) (hb:b.length≤2^47):Call Q 145 [.agg [.int .i64 0,.int .i64 22,.bool m,v,k]]=some (.int .i64 (aR 0 22 m b)):=by
 have hb2:b.length<2^62:=by omega
 have h:=GP b hb2
 have h0:Call Q 196 [.nilsl]=Call Q 196 [.bs []]:=d_ (m:=m196) rfl rfl rfl
 rw[Call_fn Q (m:=m145) rfl rfl]
 cases hv<;>cases hk<;>cases m
 all_goals(
  apply ae;intro rhs hrhs
  simp(maxSteps:=4000000)(disch:=first|exact dz|fail)only[bB.u,seval,cut,m145,sU,h0,h]
  repeat'((with_reducible first|refine sp ?_ ?_|fail)<;>intro hx<;>(try simp only[bI.u]at hx)<;>(first|exact xz|(try simp(maxSteps:=4000000)(disch:=first|exact dz|fail)only[bB.u,seval,cut,hx,m145,sU,h0,h])))
  all_goals first|exact xz|(subst hrhs;(first|rfl|(simp[aR,right, *]))))
theorem Cy (m:Bool) (v k:MV) (b:List UInt8) (hv:Rb v b) (hk:Rk k) (hb:b.length≤2^47):Call Q 145 [.agg [.int .i64 0,.int .i64 23,.bool m,v,k]]=some (.int .i64 (aR 0 23 m b)):=by
 have hb2:b.length<2^62:=by omega
 have h:=Jo b hb2
 have h0:Call Q 198 [.nilsl]=Call Q 198 [.bs []]:=d_ (m:=m198) rfl rfl rfl
 rw[Call_fn Q (m:=m145) rfl rfl]
 cases hv<;>cases hk<;>cases m
 all_goals(
  apply ae;intro rhs hrhs
  simp(maxSteps:=4000000)(disch:=first|exact dz|fail)only[bB.u,seval,cut,m145,sV,h0,h]
  repeat'((with_reducible first|refine sp ?_ ?_|fail)<;>intro hx<;>(try simp only[bI.u]at hx)<;>(first|exact xz|(try simp(maxSteps:=4000000)(disch:=first|exact dz|fail)only[bB.u,seval,cut,hx,m145,sV,h0,h])))
  all_goals first|exact xz|(subst hrhs;(first|rfl|(simp[aR,right, *]))))
theorem Cz (m:Bool) (v k:MV) (b:List UInt8) (hv:Rb v b) (hk:Rk k) (hb:b.length≤2^47):Call Q 145 [.agg [.int .i64 0,.int .i64 24,.bool m,v,k]]=some (.int .i64 (aR 0 24 m b)):=by
 have hb2:b.length<2^62:=by omega
 have h:=Jp b hb2
 have h0:Call Q 200 [.nilsl]=Call Q 200 [.bs []]:=d_ (m:=m200) rfl rfl rfl
 rw[Call_fn Q (m:=m145) rfl rfl]
 cases hv<;>cases hk<;>cases m
 all_goals(
  apply ae;intro rhs hrhs
  simp(maxSteps:=4000000)(disch:=first|exact dz|fail)only[bB.u,seval,cut,m145,sW,h0,h]
  repeat'((with_reducible first|refine sp ?_ ?_|fail)<;>intro hx<;>(try simp only[bI.u]at hx)<;>(first|exact xz|(try simp(maxSteps:=4000000)(disch:=first|exact dz|fail)only[bB.u,seval,cut,hx,m145,sW,h0,h])))
  all_goals first|exact xz|(subst hrhs;(first|rfl|(simp[aR,right, *]))))
theorem CA (m:Bool) (v k:MV) (b:List UInt8) (hv:Rb v b) (hk:Rk k) (hb:b.length≤2^47):Call Q 145 [.agg [.int .i64 0,.int .i64 16,.bool m,v,k]]=some (.int .i64 (aR 0 16 m b)):=by
 have hb2:b.length<2^62:=by omega
 have h:=rF b
 have h0:Call Q 187 [.nilsl]=Call Q 187 [.bs []]:=d_ (m:=m187) rfl rfl rfl
 rw[Call_fn Q (m:=m145) rfl rfl]
 cases hv<;>cases hk<;>cases m
 all_goals(
  apply ae;intro rhs hrhs
  simp(maxSteps:=4000000)(disch:=first|exact dz|fail)only[bB.u,seval,cut,m145,Ai,h0,h]
  subst hrhs;(first|rfl|(simp[aR,right, *])))
theorem CB (m:Bool) (v k:MV) (b:List UInt8) (hv:Rb v b) (hk:Rk k) (hb:b.length≤2^47):Call Q 145 [.agg [.int .i64 0,.int .i64 17,.bool m,v,k]]=some (.int .i64 (aR 0 17 m b)):=by
 have hb2:b.length<2^62:=by omega
 have h:=rF b
 have h0:Call Q 187 [.nilsl]=Call Q 187 [.bs []]:=d_ (m:=m187) rfl rfl rfl
 rw[Call_fn Q (m:=m145) rfl rfl]
 cases hv<;>cases hk<;>cases m
 all_goals(
  apply ae;intro rhs hrhs
  simp(maxSteps:=4000000)(disch:=first|exact dz|fail)only[bB.u,seval,cut,m145,Aj,h0,h]
  subst hrhs;(first|rfl|(simp[aR,right, *])))
theorem na (c t:Int) (m:Bool) (v k:MV) (b:List UInt8) (hv:Rb v b) (hk:Rk k) (hb:b.length≤2^47):Call Q 145 [.agg [.int .i64 c,.int .i64 t,.bool m,v,k]]=some (.int .i64 (aR c t m b)):=by
 by_cases hc:c=0
 rotate_left
 ·rw[show aR c t m b=0 from if_pos hc]
  have hcb:(c==0)=false:=by simpa using hc
  rw[Call_fn Q (m:=m145) rfl rfl]
  cases hv<;>cases hk
  all_goals(
   apply ae;intro rhs hrhs
   simp(maxSteps:=4000000)(disch:=first|exact dz|fail)only[bB.u,seval,cut,m145,hc,hcb]
   subst hrhs;rfl)
 subst hc
 by_cases h1:t=1
 ·subst h1;exact ET m v k b hv hk hb
 by_cases h2:t=2
 ·subst h2;exact EU m v k b hv hk hb
 by_cases h10:t=10
 ·subst h10;exact Cu m v k b hv hk hb
 by_cases h3:t=3
 ·subst h3;exact EV m v k b hv hk hb
 by_cases h4:t=4
 ·subst h4;exact EW m v k b hv hk hb
 by_cases h5:t=5
 ·subst h5;exact EX m v k b hv hk hb
 by_cases h6:t=6
 ·subst h6;exact EY m v k b hv hk hb
 by_cases h12:t=12
 ·subst h12;exact Cv m v k b hv hk hb
 by_cases h19:t=19
 ·subst h19;exact Cw m v k b hv hk hb
 by_cases h22:t=22
 ·subst h22;exact Cx m v k b hv hk hb
 by_cases h23:t=23
 ·subst h23;exact Cy m v k b hv hk hb
 by_cases h24:t=24
 ·subst h24;exact Cz m v k b hv hk hb
 by_cases h16:t=16
 ·subst h16;exact CA m v k b hv hk hb
 by_cases h17:t=17
 ·subst h17;exact CB m v k b hv hk hb
 have hn:=Cr t ⟨h1,h2,h10,h3,h4,h5,h6,h12,h19,h22,h23,h24,h16,h17⟩
 rw[show aR 0 t m b=21 by unfold aR;simp[*]]
 rw[Call_fn Q (m:=m145) rfl rfl]
 cases hv<;>cases hk
 all_goals(
  apply ae;intro rhs hrhs
  simp(maxSteps:=4000000)(disch:=first|exact dz|fail)only[bB.u,seval,cut,m145,hn]
  subst hrhs;rfl)
inductive T where
 |mk (c t:Int) (m:Bool) (b:List UInt8) (ks:List T)
mutual
inductive Wv:Bool→MV→T→Prop
 |mk {f c t m v k b ks}:Rb v b→Ws f k ks→Wv f (.agg [.int .i64 c,.int .i64 t,.bool m,v,k]) (.mk c t m b ks)
inductive Ws:Bool→MV→List T→Prop
 |nil {f}:Ws f .nilsl []
 |sl {f l ks}:Wl f l ks→Ws f (.sl 5 l) ks
 |fsl {l ks}:Wl true l ks→Ws true (.fsl 5 l) ks
inductive Wl:Bool→List MV→List T→Prop
 |nil {f}:Wl f [] []
 |cons {f v t l ts}:Wv f v t→Wl f l ts→Wl f (v::l) (t::ts)
end
abbrev Rv:=Wv false
abbrev Rs:=Ws false
abbrev Rl:=Wl false
theorem Wl.get {f:Bool} {l:List MV} {ts:List T} (h:Wl f l ts):∀ {i:Nat} {t:T},ts[i]? = some t→∃v,l[i]? = some v∧Wv f v t:=by
 induction ts generalizing l with
 |nil=>intro i t hg;simp at hg
 |cons t0 ts ih=>
  cases h with
  |cons h1 h2=>
   intro i t hg
   cases i with
   |zero=>simp at hg;subst hg;exact⟨_,rfl,h1⟩
   |succ i=>simp at hg;obtain⟨v,h3,h4⟩:=ih h2 hg;exact⟨v,by simpa using h3,h4⟩
theorem Wl.length {f:Bool} {l:List MV} {ts:List T} (h:Wl f l ts):l.length=ts.length:=by
 induction ts generalizing l with
 |nil=>cases h;rfl
 |cons t ts ih=>cases h with|cons h1 h2=>simp[ih h2]
mutual
def sz:T→Nat
 | .mk _ _ _ b ks=>b.length+16+szs ks
def szs:List T→Nat
 | []=>0
 |k::r=>sz k+szs r
end
theorem rG:∀ {ts:List T} {i:Nat} {t:T},ts[i]? = some t→sz t≤szs ts
 | [],i,t,h=>by simp at h
 |a::r,i,t,h=>by
  rw[szs]
  cases i with
  |zero=>simp at h;subst h;omega
  |succ i=>simp at h;have:=rG h;omega
theorem g_:∀ts:List T,16*ts.length≤szs ts
 | []=>by simp[szs]
 |a::r=>by
  have:=g_ r
  have:16≤sz a:=by cases a;rw[sz];omega
  rw[szs,List.length_cons];omega
def ch (n:Nat):List UInt8:=
 if n<128 then [UInt8.ofNat n]else if n<256 then [129,UInt8.ofNat n]else if n<65536 then [130,UInt8.ofNat (n/256),UInt8.ofNat n]else [131,UInt8.ofNat (n/65536),UInt8.ofNat (n/256),UInt8.ofNat n]
def first(c:Int) (m:Bool):Nat:=64*c.toNat+(if m then 32 else 0)
def cw (c t:Int) (m:Bool):List UInt8:=
 if t<31 then [UInt8.ofNat (first c m+t.toNat)]else UInt8.ofNat (first c m+31)::((if 16384≤t then [UInt8.ofNat (128+t.toNat/16384)]else [])++(if 128≤t then [UInt8.ofNat (128+t.toNat/128%128)]else [])++[UInt8.ofNat (t.toNat%128)])
def Ak (p q:List UInt8):List UInt8 ⊕ Unit:=if 0<d9 p q then .inr ()else .inl q
def bP:List (List UInt8)→Bool
 | []=>true
 |p::ps=>match aG Ak p ps with| .inl _=>true| .inr _=>false
def bT (c t:Int):Bool:=decide (c<0)||decide (3<c)||decide (t<0)||decide (2097152≤t)
def gc (d:Nat) (c t:Int) (m:Bool) (b:List UInt8) (kids:Bool) (e:Int) (ps:List (List UInt8)):Int × List UInt8:=
 if 16<d then(23,[])else if bT c t=true then(21,[])else if aR c t m b=21 then(21,[])else if aR c t m b≠0∨(m=true∧b≠[])∨(m=false∧kids=true)then(24,[])
 else if e≠0 then(e,[])else if c=0∧t=17∧bP ps=false then(25,[])else(0,cw c t m++(ch (if m then ps.flatten else b).length++(if m then ps.flatten else b)))
mutual
def wr (d:Nat):T→Int × List UInt8
 | .mk c t m b ks=>gc d c t m b (!ks.isEmpty) (aP (d+1) ks).1 (aP (d+1) ks).2
def aP (d:Nat):List T→Int × List (List UInt8)
 | []=>(0,[])
 |k::r=>if(wr d k).1≠0 then((wr d k).1,[])else if(aP d r).1≠0 then((aP d r).1,[])else(0,(wr d k).2::(aP d r).2)
end
def gW (d:Nat) (ps:List (List UInt8)) (k:T):List (List UInt8) ⊕ Int:=if(wr d k).1≠0 then .inr (wr d k).1 else .inl (ps++[(wr d k).2])
theorem oH (d:Nat):∀(ts:List T) (ps:List (List UInt8)),aG (gW d) ps ts=if(aP d ts).1≠0 then .inr (aP d ts).1 else .inl (ps++(aP d ts).2)
 | [],ps=>by simp[aG,aP]
 |k::r,ps=>by
  rw[bw,aP]
  by_cases h:(wr d k).1=0
  ·rw[show gW d ps k= .inl (ps++[(wr d k).2]) by unfold gW;rw[if_neg (by simp[h])]]
   simp only
   rw[oH d r]
   by_cases h2:(aP d r).1=0<;>simp[h,h2]
  ·rw[show gW d ps k= .inr (wr d k).1 by unfold gW;rw[if_pos h]]
   simp[h]
theorem IB (a b:List UInt8):Call Q 169 [.bs a,.bs b]=some (.int .i64 (d9 a b)):=by
 rw[bJ Q (g:=lE) rfl];rfl
theorem dQ (ps:List (List UInt8)) (hp:ps.length<2^62):Call Q 146 [.sl 1 (ps.map .bs)]=some (.bool (bP ps)):=by
 rw[Call_fn Q (m:=m146) rfl rfl]
 have hml:(ps.map MV.bs).length=ps.length:=by simp
 apply ae;intro rhs hrhs
 simp(maxSteps:=4000000)(disch:=first|exact dz|fail)only[bB.u,seval,cut,m146,aq]
 refine u' fun K hK=>?_
 refine gC ps.tail Ak (fun _ i=>am [(2,none,PK.other)] (RunL Q m146k0 m146b0 K ⟨[(0,.sl 1 (ps.map .bs)),(3,.int .i64 ((i:Int)+1))],[],[],1⟩)) (fun _=>some (.bool false))
  (fun p i=>ps=[]∨ps[i]? = some p) ?_ (ps.headD []) (by cases ps<;>simp) (congrArg (am _) (af (canon_cong kr kr kr))) ?_ ?_
 ·intro p i q hI hg
  have hg1:ps[i+1]? = some q:=by simpa using hg
  have hi:i+1<ps.length:=(List.getElem?_eq_some_iff.1 hg1).1
  have hI:ps[i]? = some p:=by
   rcases hI with hI|hI
   ·subst hI;simp at hg1
   ·exact hI
  have m0:(ps.map MV.bs)[i]? = some (.bs p):=by simp[hI]
  have m1:(ps.map MV.bs)[i+1]? = some (.bs q):=by simp[hg1]
  have hlt:decide ((i:Int)+1<(ps.length:Int))=true:=by simp;omega
  have e0:((i:Int)+1-1).toNat=i:=by omega
  have e1:((i:Int)+1).toNat=i+1:=by omega
  have hc:=IB p q
  unfold Ak
  split
  ·rename_i hx
   simp only[cS]
   have hb:decide (0<d9 p q)=true:=by simpa using hx
   obtain⟨b',hb'⟩:∃b',b'=m146b0:=⟨_,rfl⟩
   rw[ah,show Item.lp m146k0 m146b0=Item.lp m146k0 b' by rw[hb']]
   apply ae;intro rhs hrhs
   simp(maxSteps:=4000000)(disch:=first|exact dz|fail)only[bB.u,seval,cut,m146b0,hlt,hml,m0,m1,e0,e1,hc,hb]
   subst hrhs;rfl
  ·rename_i hx
   refine⟨.inr hg1,?_⟩
   have hb:decide (0<d9 p q)=false:=by simpa using hx
   obtain⟨b',hb'⟩:∃b',b'=m146b0:=⟨_,rfl⟩
   rw[ah,show Item.lp m146k0 m146b0=Item.lp m146k0 b' by rw[hb']]
   apply ae;intro rhs hrhs
   simp(maxSteps:=4000000)(disch:=first|exact dz|fail)only[bB.u,seval,cut,m146b0,hlt,hml,m0,m1,e0,e1,hc,hb]
   subst hrhs;(subst hb';refine(congrArg (am _) (aA Q _ _ _ _)).trans ?_;exact congrArg (am [(2,none,.other)]) (af (canon_cong kr kr kr)))
 ·intro s hf hI
  have hlt:decide ((ps.tail.length:Int)+1<(ps.length:Int))=false:=by simp;cases ps<;>simp<;>omega
  subst hK
  have hE:bP ps=true:=by
   cases ps with
   |nil=>rfl
   |cons p r=>simp only[List.headD_cons,List.tail_cons]at hf;rw[show bP (p::r)=(match aG Ak p r with| .inl _=>true| .inr _=>false)from rfl,hf]
  rw[hrhs,hE]
  clear hrhs
  obtain⟨b',hb'⟩:∃b',b'=m146b0:=⟨_,rfl⟩
  rw[ah,show Item.lp m146k0 m146b0=Item.lp m146k0 b' by rw[hb']]
  apply ae;intro rhs hrhs
  simp(maxSteps:=4000000)(disch:=first|exact dz|fail)only[bB.u,seval,cut,m146b0,hlt,hml]
  subst hrhs;rfl
 ·intro c hf
  subst hrhs
  cases ps with
  |nil=>simp[aG]at hf
  |cons p r=>simp only[List.headD_cons,List.tail_cons]at hf;rw[show bP (p::r)=(match aG Ak p r with| .inl _=>true| .inr _=>false)from rfl,hf]
theorem xJ:∀ps:List (List UInt8),byts (ps.map .bs)=some ps
 | []=>rfl
 |p::r=>by
  show(byts (r.map .bs)).map (p:: ·)=_
  rw[xJ r];rfl
theorem iz (ps:List (List UInt8)) (h1:ps.flatten.length≤2^46) (h2:ps.length≤2^46):Call Q 166 [.sl 1 (ps.map .bs),.nilsl]=some (.bs ps.flatten):=by
 rw[bJ Q (g:=pI) rfl]
 show(match byts (ps.map .bs)with|some xs=>if xs.flatten.length≤2^46∧xs.length≤2^46 then some (MV.bs xs.flatten)else none|none=>none)=_
 rw[xJ]
 exact if_pos ⟨h1,h2⟩
theorem shl6 (c:Int) (h0:0≤c) (h3:c≤3):bf .shl .i64 c 6=some (.int .i64 (64*c)):=by
 have:c=0∨c=1∨c=2∨c=3:=by omega
 rcases this with rfl|rfl|rfl|rfl<;>rfl
theorem GQ (k n:Nat) (hk:k<8) (hn:n<32):IntKind.u8.wrap ((BitVec.ofInt IntKind.u8.bits ((32*k:Nat):Int)|||BitVec.ofInt IntKind.u8.bits (n:Int)).toNat:Int)=((32*k+n:Nat):Int):=by
 have h:=GI (UInt8.ofNat (32*k)) (UInt8.ofNat n)
 have e1:(UInt8.ofNat (32*k)).toNat=32*k:=by simp;omega
 have e2:(UInt8.ofNat n).toNat=n:=by simp;omega
 rw[e1,e2]at h
 rw[h]
 have e3:(UInt8.ofNat (32*k)|||UInt8.ofNat n).toNat=32*k+n:=by
  rw[UInt8.toNat_or,e1,e2]
  have:=Nat.two_pow_add_eq_or_of_lt (i:=5) (b:=n) (by omega) k
  simpa using this.symm
 rw[e3]
theorem sX (x t:Int) (k:Nat) (hx:x=((32*k:Nat):Int)) (hk:k<8) (h0:0≤t) (h1:t<32):IntKind.u8.wrap ((BitVec.ofInt IntKind.u8.bits x|||BitVec.ofInt IntKind.u8.bits t).toNat:Int)=x+t:=by
 obtain⟨n,rfl⟩:=Int.eq_ofNat_of_zero_le h0
 subst hx
 rw[GQ k n hk (by omega)]
 omega
variable {fb:Bool}
theorem CD (c t:Int) (m:Bool):(cw c t m).length≤4:=by
 unfold cw
 split
 ·simp
 ·simp only[List.length_cons,List.length_append,List.length_nil]
  split<;>split<;>simp
theorem CE (n:Nat):(ch n).length≤4:=by
 unfold ch
 split
 ·simp
 ·split
  ·simp
  ·split<;>simp
mutual
theorem pN (d:Nat):∀t:T,(wr d t).2.length≤sz t
 | .mk c t m b ks=>by
  have h:=rH (d+1) ks
  have h1:=CD c t m
  have h3:(if m then(aP (d+1) ks).2.flatten else b).length≤b.length+szs ks:=by cases m<;>simp only[if_true,Bool.false_eq_true,if_false]<;>omega
  rw[wr,gc,sz]
  generalize(if m then(aP (d+1) ks).2.flatten else b)=body at h3 ⊢
  have h2:=CE body.length
  repeat' split
  all_goals first|(simp only[List.length_nil];omega)|(simp only[List.length_append];omega)
theorem rH (d:Nat):∀ts:List T,(aP d ts).2.flatten.length≤szs ts
 | []=>by simp[aP,szs]
 |k::r=>by
  have h1:=pN d k
  have h2:=rH d r
  rw[aP,szs]
  repeat' split
  all_goals simp only[List.flatten_nil,List.length_nil,List.flatten_cons,List.length_append]<;>omega
end
theorem xK (d:Nat):∀ts:List T,(aP d ts).1=0→(aP d ts).2.length=ts.length
 | [],_=>rfl
 |k::r,h=>by
  rw[aP]at h ⊢
  by_cases h1:(wr d k).1=0
  ·by_cases h2:(aP d r).1=0
   ·simp[h1,h2,xK d r h2]
   ·simp[h1,h2]at h
  ·simp[h1]at h
theorem vl (v:MV) (t:T) (hv:Wv fb v t) (d:Nat) (hd:d=17):Call Q 142 [v,.int .i64 (d:Nat)]=some (.tup [.bs (wr d t).2,.int .i64 (wr d t).1]):=by
 cases hv with
 | @mk _ c t m v k b ks hb hk=>
  subst hd
  rw[wr,gc,if_pos (by omega)]
  rw[Call_fn Q (m:=m142) rfl rfl]
  cases hb<;>cases hk
  all_goals(
   apply ae;intro rhs hrhs
   simp(maxSteps:=4000000)(disch:=first|exact dz|fail)only[bB.u,seval,cut,m142]
   subst hrhs;rfl)
theorem tQ (v:MV) (c t:Int) (m:Bool) (b:List UInt8) (ks:List T) (hv:Wv fb v (.mk c t m b ks)) (d:Nat) (hd:d≤16) (hr:bT c t=true):Call Q 142 [v,.int .i64 (d:Nat)]=some (.tup [.bs [],.int .i64 21]):=by
 have h1:decide (16<(d:Int))=false:=by simp;omega
 unfold bT at hr
 simp only[Bool.or_eq_true,decide_eq_true_eq]at hr
 cases hv with
 |mk hb hk=>
  rw[Call_fn Q (m:=m142) rfl rfl]
  cases hb<;>cases hk
  all_goals(
   apply ae;intro rhs hrhs
   simp(maxSteps:=4000000)(disch:=first|exact dz|fail)only[bB.u,seval,cut,m142,h1]
   repeat'((with_reducible first|refine sp ?_ ?_|fail)<;>intro hx<;>(try simp only[bI.u]at hx)<;>(first|exact xz|(try simp(maxSteps:=4000000)(disch:=first|exact dz|fail)only[bB.u,seval,cut,hx,m142,h1])))
   all_goals first|exact xz|(subst hrhs;rfl))
theorem vn (v:MV) (c t:Int) (m:Bool) (b:List UInt8) (ks:List T) (hv:Wv fb v (.mk c t m b ks)) (hbl:b.length≤2^47) (d:Nat) (hd:d≤16) (hr:bT c t=false) (e:Int) (he:aR c t m b=e) (h:e≠0):
  Call Q 142 [v,.int .i64 (d:Nat)]=some (.tup [.bs [],.int .i64 (if e=21 then 21 else 24)]):=by
 have h1:decide (16<(d:Int))=false:=by simp;omega
 unfold bT at hr
 simp only[Bool.or_eq_false_iff]at hr
 obtain⟨⟨⟨r1,r2⟩,r3⟩,r4⟩:=hr
 cases hv with
 | @mk _ _ _ _ v k _ _ hb hk=>
  have hf:=na c t m v k b hb (by cases hk<;>constructor) hbl
  rw[he]at hf
  rw[Call_fn Q (m:=m142) rfl rfl]
  cases hb<;>cases hk
  all_goals(
   apply ae;intro rhs hrhs
   simp(maxSteps:=4000000)(disch:=first|exact dz|fail)only[bB.u,seval,cut,m142,h1,r1,r2,r3,r4,hf]
   repeat'((with_reducible first|refine sp ?_ ?_|fail)<;>intro hx<;>(try simp only[bI.u]at hx)<;>(first|exact xz|(try simp(maxSteps:=4000000)(disch:=first|exact dz|fail)only[bB.u,seval,cut,hx,m142,h1,r1,r2,r3,r4,hf])))
   all_goals first|exact xz|(subst hrhs;(first|rfl|simp_all)))
theorem vp (v:MV) (c t:Int) (m:Bool) (b:List UInt8) (ks:List T) (hv:Wv fb v (.mk c t m b ks)) (hbl:b.length≤2^47) (d:Nat) (hd:d≤16) (hr:bT c t=false) (he:aR c t m b=0) (h:(m=true∧b≠[])∨(m=false∧ks≠[])) (hs:szs ks≤2^40):
  Call Q 142 [v,.int .i64 (d:Nat)]=some (.tup [.bs [],.int .i64 24]):=by
 have h1:decide (16<(d:Int))=false:=by simp;omega
 unfold bT at hr
 simp only[Bool.or_eq_false_iff]at hr
 obtain⟨⟨⟨r1,r2⟩,r3⟩,r4⟩:=hr
 have hkl:=g_ ks
 cases hv with
 | @mk _ _ _ _ v k _ _ hb hk=>
  have hf:=na c t m v k b hb (by cases hk<;>constructor) hbl
  rw[he]at hf
  rw[Call_fn Q (m:=m142) rfl rfl]
  rcases h with⟨rfl,hne⟩|⟨rfl,hne⟩
  ·cases hb with
   |nil=>exact absurd rfl hne
   |bs b=>
    have hp:decide (0<(b.length:Int))=true:=by
     cases b with
     |nil=>exact absurd rfl hne
     |cons x r=>simp<;>omega
    cases hk
    all_goals(
     apply ae;intro rhs hrhs
     simp(maxSteps:=4000000)(disch:=first|exact dz|fail)only[bB.u,seval,cut,m142,h1,r1,r2,r3,r4,hf,hp]
     subst hrhs;(first|rfl|simp_all))
  ·cases hk with
   |nil=>exact absurd rfl hne
   | @sl _ l _ hl=>
    have hll:=hl.length
    have hp:decide (0<(l.length:Int))=true:=by
     rw[hll]
     cases ks with
     |nil=>exact absurd rfl hne
     |cons x r=>simp<;>omega
    cases hb
    all_goals(
     apply ae;intro rhs hrhs
     simp(maxSteps:=4000000)(disch:=first|exact dz|fail)only[bB.u,seval,cut,m142,h1,r1,r2,r3,r4,hf,hp]
     subst hrhs;(first|rfl|simp_all))
   | @fsl l _ hl=>
    have hll:=hl.length
    have hp:decide (0<(l.length:Int))=true:=by
     rw[hll]
     cases ks with
     |nil=>exact absurd rfl hne
     |cons x r=>simp<;>omega
    cases hb
    all_goals(
     apply ae;intro rhs hrhs
     simp(maxSteps:=4000000)(disch:=first|exact dz|fail)only[bB.u,seval,cut,m142,h1,r1,r2,r3,r4,hf,hp]
     subst hrhs;(first|rfl|simp_all))
variable {fb:Bool}
def cY:List (Nat × Option (Bool × Nat) × PK):=[(4,none,PK.byt),(5,none,PK.other)]
def bE:MCode:=(.seq (sq [qd 90 0 2,qc 91 90,qx 92 .eql 91 0,qf 93 92,qR 94 1 2 93,qP 95 94 93,qV 96 .eql 95 17 93,qp 97 93 96,qf 98 97,qM 99 8 98,gT 100 (.call 146 [.t 99]) 98,gT 101 (.un .not (.t 100)) 98,qr 102 98 101] (.cond (.v 102) (sq [qn 4,qe 5 25] .ret) .skip)) (.seq (sq [qd 103 2 2,oV 104 (.load false 1 (.t 103))] (.cond (.v 104) (.rg [qa 105 8,oT 106 (.call 166 [.t 105,.c .nilsl]),qb 7 106]) .skip)) (sq [qd 107 0 2,qc 108 107,oT 109 (.bin .shl (.t 108) (.c (.int .u64 6))),qJ 110 109,qb 13 110] (.seq (sq [qd 111 2 2,oV 112 (.load false 1 (.t 111))] (.cond (.v 112) (.rg [qa 113 13,oT 114 (.bin .or (.t 113) (qu 32)),qb 13 114]) .skip)) (sq [qn 14] (.seq (sq [qd 115 1 2,qc 116 115,qC 117 .lss 116 31] (.cond (.v 117) (.rg [qa 118 13,qd 119 1 2,qc 120 119,qJ 121 120,qB 122 .or 118 121,oT 123 (.bslB 1 [(0,.t 122)]),qb 14 123]) (sq [qa 124 13,oT 125 (.bin .or (.t 124) (qu 31)),oT 126 (.bslB 1 [(0,.t 125)]),qb 14 126] (sq [qe 15 14] (.block 4 (.loop m142k1 m142b1)))))) (sq [qa 154 7,qj 155 154,qb 17 155] (.seq (.block 6 (sq [qa 168 17,qx 169 .lss 168 128,qb 167 169] (.cond (.v 167) (.rg [qa 170 14,qa 171 17,qJ 172 171,oT 173 (.bslB 1 [(0,.t 172)]),oT 174 (.app true 1 1 (.t 170) (.t 173)),qb 14 174]) (sq [qa 176 17,qx 177 .lss 176 256,qb 175 177] (.cond (.v 175) (.rg [qa 178 14,qa 179 17,qJ 180 179,oT 181 (.bslB 2 [(0,qu 129),(1,.t 180)]),oT 182 (.app true 1 1 (.t 178) (.t 181)),qb 14 182]) (sq [qa 184 17,qx 185 .lss 184 65536,qb 183 185] (.cond (.v 183) (.rg [qa 186 14,qa 187 17,oT 188 (.bin .shr (.t 187) (.c (.int .u64 8))),qJ 189 188,qa 190 17,qJ 191 190,oT 192 (.bslB 3 [(0,qu 130),(1,.t 189),(2,.t 191)]),oT 193 (.app true 1 1 (.t 186) (.t 192)),qb 14 193]) (.rg [qa 156 14,qa 157 17,oT 158 (.bin .shr (.t 157) (.c (.int .u64 16))),qJ 159 158,qa 160 17,oT 161 (.bin .shr (.t 160) (.c (.int .u64 8))),qJ 162 161,qa 163 17,qJ 164 163,oT 165 (.bslB 4 [(0,qu 131),(1,.t 159),(2,.t 162),(3,.t 164)]),oT 166 (.app true 1 1 (.t 156) (.t 165)),qb 14 166])))))))) (sq [qa 194 14,qa 195 7,oT 196 (.app true 1 1 (.t 194) (.t 195)),qb 4 196,qe 5 0] .ret)))))))))
def dl (c t:Int) (m:Bool) (v k:MV) (d n:Nat) (ps:List (List UInt8)) (i:Nat):DS:=⟨[(1,.int .i64 (d:Nat)),(2,.ptr 0 0),(7,v),(8,.own (if i=0 then 2 else 1) i),(69,k),(70,.int .i64 (n:Nat)),(71,.int .i64 (i:Nat))],[],[(0,.cells [.int .i64 c,.int .i64 t,.bool m,v,k]),(if i=0 then 2 else 1,.el 1 (ps.map .bs) false)],3⟩
theorem GS (K:List Item) (c t:Int) (m:Bool) (v k:MV) (d:Nat) (kl:List MV) (ks:List T) (hv:(∃b,v= .bs b)∨v= .nilsl) (hk:(k= .sl 5 kl∨k= .fsl 5 kl)∧Wl fb kl ks∨ks=[]) (hs:szs ks≤2^30) (hd:d≤16)
  (ih:∀t v,t∈ks→Wv fb v t→Call Q 142 [v,.int .i64 ((d+1:Nat):Int)]=some (.tup [.bs (wr (d+1) t).2,.int .i64 (wr (d+1) t).1])):
  am cY (RunL Q m142k0 m142b0 K (dl c t m v k d ks.length [] 0))=if(aP (d+1) ks).1≠0 then some (.tup [.bs [],.int .i64 (aP (d+1) ks).1])else am cY (RunL Q m142k0 m142b0 K (dl c t m v k d ks.length (aP (d+1) ks).2 ks.length)):=by
 have hd1:IntKind.i64.wrap ((d:Int)+1)=((d+1:Nat):Int):=by rw[fG (by omega) (by omega)];rfl
 have hkl:=g_ ks
 rcases hv with⟨b,rfl⟩|rfl
 all_goals(
 refine gC ks (gW (d+1)) (fun ps i=>am cY (RunL Q m142k0 m142b0 K (dl c t m _ k d ks.length ps i))) (fun e=>some (.tup [.bs [],.int .i64 e])) (fun ps i=>ps.length=i) ?_ [] rfl rfl ?_ ?_
 ·intro ps i x hI hg
  rcases hk with⟨hk2,hl⟩|rfl
  rotate_left
  ·simp at hg
  rcases hk2 with rfl|rfl
  all_goals(
  obtain⟨hi,hxx⟩:=List.getElem?_eq_some_iff.1 hg
  obtain⟨w,hw,hrv⟩:=hl.get hg
  have hlt:decide ((i:Int)<(ks.length:Int))=true:=by simp;omega
  have hcall:=ih x w (List.mem_of_getElem? hg) hrv
  rw[show((d+1:Nat):Int)=(d:Int)+1 from rfl]at hcall
  have hll:=hl.length
  have ha:(if i=0 then 2 else 1)≤2:=by split<;>omega
  have ha':1≤(if i=0 then 2 else 1):=by split<;>omega
  have hml:(ps.map MV.bs).length=i:=by simp[hI]
  have hsn:∀q:List UInt8,(ps++[q]).map MV.bs=ps.map .bs++[.bs q]:=by intro q;simp
  have hz:=rG hg
  have e9:((i+1:Nat):Int)=(i:Int)+1:=rfl
  cases hrv with
  | @mk _ c' t' m' v' k' b' ks' hb' hk'=>
  have hlv:∀st,lend v' st=some (v',st):=by cases hb'<;>intro st<;>rfl
  have hlk:∀st,lend k' st=some (k',st):=by cases hk'<;>intro st<;>rfl
  unfold gW
  generalize hwr:wr (d+1) (T.mk c' t' m' b' ks')=wv at hcall ⊢
  obtain⟨e,q⟩:=wv
  simp only at hcall ⊢
  unfold dl
  generalize(if i=0 then 2 else 1)=a at ha ha' ⊢
  split
  ·rename_i hx
   have hxb:(e==0)=false:=by simpa using hx
   simp only[cS]
   obtain⟨b',hb'⟩:∃b',b'=m142b0:=⟨_,rfl⟩
   rw[ah,show Item.lp m142k0 m142b0=Item.lp m142k0 b' by rw[hb']]
   apply ae;intro rhs hrhs
   simp(maxSteps:=4000000)(disch:=first|exact dz|fail)only[bB.u,seval,cut,m142b0,cY,hlt,hw,hll,hml,hd1,hcall,hxb,hlv,hlk]
   subst hrhs;rfl
  ·rename_i hx
   have hx0:e=0:=by simpa using hx
   subst hx0
   refine⟨by simp[hI],?_⟩
   obtain⟨b',hb'⟩:∃b',b'=m142b0:=⟨_,rfl⟩
   rw[ah,show Item.lp m142k0 m142b0=Item.lp m142k0 b' by rw[hb']]
   apply ae;intro rhs hrhs
   simp(maxSteps:=4000000)(disch:=first|exact dz|fail)only[bB.u,seval,cut,m142b0,cY,hlt,hw,hll,hml,hd1,hcall,hlv,hlk]
   subst hrhs;(subst hb';refine(congrArg (am _) (aA Q _ _ _ _)).trans ?_;dsimp only;rw[hsn,if_neg (Nat.succ_ne_zero _),e9];exact congrArg (am cY) (af (canon_cong kr kr kr))))
 ·intro ps hf hI
  rw[oH]at hf
  by_cases h:(aP (d+1) ks).1=0
  ·simp only[h,ne_eq,not_true_eq_false,if_false,List.nil_append,Sum.inl.injEq]at hf ⊢
   rw[hf]
  ·simp[h]at hf
 ·intro e hf
  rw[oH]at hf
  by_cases h:(aP (d+1) ks).1=0
  ·simp[h]at hf
  ·simp only[ne_eq,h,not_false_eq_true,if_true,Sum.inr.injEq]at hf ⊢
   rw[hf])
end Go.Mini
namespace Go.Mini
open Go Go.Proofs.YtgiobgojobegfaaGreatDoor
set_option maxRecDepth 100000
set_option maxHeartbeats 4000000
theorem shr64 {n b:Int} (h0:0≤b) (h1:b≤63):bf .shr .i64 n b=some (.int .i64 (n/2^b.toNat)):=by
 obtain⟨m,rfl⟩:=Int.eq_ofNat_of_zero_le h0
 unfold bf
 rw[if_neg (by omega)]
 simp only[Int.toNat_natCast]
 have e:min m IntKind.i64.bits=m:=by show min m 64=m;omega
 rw[e]
 congr 2
 have e2:((2:Int)^m)=((2^m:Nat):Int):=by simp
 rw[e2,Int.fdiv_eq_ediv_of_nonneg _ (Int.natCast_nonneg _)]
def cW (c t:Int) (m:Bool) (b:List UInt8) (ps:List (List UInt8)):Int × List UInt8:=
 if c=0∧t=17∧bP ps=false then(25,[])else(0,cw c t m++(ch (if m then ps.flatten else b).length++(if m then ps.flatten else b)))
theorem gd {c t:Int} {m:Bool} {b:List UInt8} {ps:List (List UInt8)} (h:¬(c=0∧t=17∧bP ps=false)):cW c t m b ps=(0,cw c t m++(ch (if m then ps.flatten else b).length++(if m then ps.flatten else b))):=if_neg h
theorem gf {m:Bool} {t:Int} {b:List UInt8} {ps:List (List UInt8)} (h1:t=17) (h:bP ps=false):cW 0 t m b ps=(25,[]):=if_pos ⟨rfl,h1,h⟩
theorem cG (x:Int):UInt8.ofNat (IntKind.u8.wrap x).toNat=UInt8.ofNat (x%256).toNat:=by
 have:IntKind.u8.wrap x=x%256:=by
  simp[IntKind.wrap,IntKind.bits,IntKind.signed]
 rw[this]
theorem sY (x:Int) (h:0≤x):UInt8.ofNat (x%256).toNat=UInt8.ofNat x.toNat:=by
 apply UInt8.toNat_inj.1
 simp only[UInt8.toNat_ofNat']
 omega
theorem nc (L:Nat):((L:Int)/256).toNat=L/256:=by omega
theorem nd (L:Nat):((L:Int)/65536).toNat=L/65536:=by omega
theorem dS (t:Int) (h0:0≤t) (h1:t<31):IntKind.u8.wrap ((BitVec.ofInt IntKind.u8.bits 0|||BitVec.ofInt IntKind.u8.bits t).toNat:Int)=0+t:=sX 0 t 0 rfl (by decide) h0 (by omega)
theorem dT (t:Int) (h0:0≤t) (h1:t<31):IntKind.u8.wrap ((BitVec.ofInt IntKind.u8.bits 32|||BitVec.ofInt IntKind.u8.bits t).toNat:Int)=32+t:=sX 32 t 1 rfl (by decide) h0 (by omega)
theorem dU (t:Int) (h0:0≤t) (h1:t<31):IntKind.u8.wrap ((BitVec.ofInt IntKind.u8.bits 64|||BitVec.ofInt IntKind.u8.bits t).toNat:Int)=64+t:=sX 64 t 2 rfl (by decide) h0 (by omega)
theorem dV (t:Int) (h0:0≤t) (h1:t<31):IntKind.u8.wrap ((BitVec.ofInt IntKind.u8.bits 96|||BitVec.ofInt IntKind.u8.bits t).toNat:Int)=96+t:=sX 96 t 3 rfl (by decide) h0 (by omega)
theorem dW (t:Int) (h0:0≤t) (h1:t<31):IntKind.u8.wrap ((BitVec.ofInt IntKind.u8.bits 128|||BitVec.ofInt IntKind.u8.bits t).toNat:Int)=128+t:=sX 128 t 4 rfl (by decide) h0 (by omega)
theorem dX (t:Int) (h0:0≤t) (h1:t<31):IntKind.u8.wrap ((BitVec.ofInt IntKind.u8.bits 160|||BitVec.ofInt IntKind.u8.bits t).toNat:Int)=160+t:=sX 160 t 5 rfl (by decide) h0 (by omega)
theorem dY (t:Int) (h0:0≤t) (h1:t<31):IntKind.u8.wrap ((BitVec.ofInt IntKind.u8.bits 192|||BitVec.ofInt IntKind.u8.bits t).toNat:Int)=192+t:=sX 192 t 6 rfl (by decide) h0 (by omega)
theorem dZ (t:Int) (h0:0≤t) (h1:t<31):IntKind.u8.wrap ((BitVec.ofInt IntKind.u8.bits 224|||BitVec.ofInt IntKind.u8.bits t).toNat:Int)=224+t:=sX 224 t 7 rfl (by decide) h0 (by omega)
theorem t7:IntKind.u8.wrap ((BitVec.ofInt IntKind.u8.bits 0|||BitVec.ofInt IntKind.u8.bits 32).toNat:Int)=32:=rfl
theorem t8:((BitVec.ofInt IntKind.u8.bits 0|||BitVec.ofInt IntKind.u8.bits 32).toNat:Int)=32:=rfl
theorem Al (t:Int) (v kk:MV) (b:List UInt8) (d n:Nat) (ps:List (List UInt8)) (hv:Rb v b) (hk:Rk kk) (ht:0≤t) (ht2:t<31) (hn:ps.length=n) (hn2:n≤2^30) (hp:ps.flatten.length≤2^30) (hb:b.length≤2^30):
  am cY (RunL Q m142k0 m142b0 [.blk 2,.code bE] (dl 0 t false v kk d n ps n))=some (.tup [.bs (cW 0 t false b ps).2,.int .i64 (cW 0 t false b ps).1]):=by
 have hlt:decide ((n:Int)<(n:Int))=false:=by simp
 have hj:=iz ps (by omega) (by omega)
 have hso:=dQ ps (by omega)
 have hml:(ps.map MV.bs).length=n:=by simp[hn]
 have ha:(if n=0 then 2 else 1)≤2:=by split<;>omega
 have ha':1≤(if n=0 then 2 else 1):=by split<;>omega
 unfold dl
 generalize(if n=0 then 2 else 1)=a at ha ha' ⊢
 have t31:decide (t<31)=true:=by simpa using ht2
 have tn:(0+t).toNat=first 0 false+t.toNat:=by rw[show first 0 false=0 from rfl];omega
 have tg:cw 0 t false=[UInt8.ofNat (first 0 false+t.toNat)]:=if_pos ht2
 cases hv<;>cases hk
 all_goals(
  obtain⟨b',hb'⟩:∃b',b'=m142b0:=⟨_,rfl⟩
  rw[ah,show Item.lp m142k0 m142b0=Item.lp m142k0 b' by rw[hb']]
  apply ae;intro rhs hrhs
  simp(maxSteps:=4000000)(disch:=first|exact dz|fail)only[bB.u,seval,cut,m142b0,cY,bE,hlt,hj,hso,hml,t31,shl6,shr64,cG,Int.reducePow,t7,t8,dS,dT,dU,dV,dW,dX,dY,dZ]
  repeat'((with_reducible first|refine sp ?_ ?_|fail)<;>intro hx<;>(try simp only[bI.u]at hx)<;>(first|exact xz|(try simp(maxSteps:=4000000)(disch:=first|exact dz|fail)only[bB.u,seval,cut,hx,m142b0,cY,bE,hlt,hj,hso,hml,t31,shl6,shr64,cG,Int.reducePow,t7,t8,dS,dT,dU,dV,dW,dX,dY,dZ])))
  all_goals first|exact xz|(subst hrhs;first|(rw[gf (by assumption) (by assumption)])|(rw[gd (by rintro⟨h1,h2,h3⟩;simp_all),tg];(try(have e17:t=17:=by assumption;subst e17));simp only[if_true,Bool.false_eq_true,if_false,List.length_nil];unfold ch;(repeat(first|rw[if_pos (by omega)]|rw[if_neg (by omega)]));((try simp(disch:=omega) only[sY,nc,nd,Int.toNat_natCast,tn]);first|rfl|(rw[show t=17 by assumption];rfl)|(rw[show t=17 by omega];rfl)))))
theorem Am (t:Int) (v kk:MV) (b:List UInt8) (d n:Nat) (ps:List (List UInt8)) (hv:Rb v b) (hk:Rk kk) (ht:0≤t) (ht2:t<31) (hn:ps.length=n) (hn2:n≤2^30) (hp:ps.flatten.length≤2^30) (hb:b.length≤2^30):
  am cY (RunL Q m142k0 m142b0 [.blk 2,.code bE] (dl 0 t true v kk d n ps n))=some (.tup [.bs (cW 0 t true b ps).2,.int .i64 (cW 0 t true b ps).1]):=by
 have hlt:decide ((n:Int)<(n:Int))=false:=by simp
 have hj:=iz ps (by omega) (by omega)
 have hso:=dQ ps (by omega)
 have hml:(ps.map MV.bs).length=n:=by simp[hn]
 have ha:(if n=0 then 2 else 1)≤2:=by split<;>omega
 have ha':1≤(if n=0 then 2 else 1):=by split<;>omega
 unfold dl
 generalize(if n=0 then 2 else 1)=a at ha ha' ⊢
 have t31:decide (t<31)=true:=by simpa using ht2
 have tn:(32+t).toNat=first 0 true+t.toNat:=by rw[show first 0 true=32 from rfl];omega
 have tg:cw 0 t true=[UInt8.ofNat (first 0 true+t.toNat)]:=if_pos ht2
 cases hv<;>cases hk
 all_goals(
  obtain⟨b',hb'⟩:∃b',b'=m142b0:=⟨_,rfl⟩
  rw[ah,show Item.lp m142k0 m142b0=Item.lp m142k0 b' by rw[hb']]
  apply ae;intro rhs hrhs
  simp(maxSteps:=4000000)(disch:=first|exact dz|fail)only[bB.u,seval,cut,m142b0,cY,bE,hlt,hj,hso,hml,t31,shl6,shr64,cG,Int.reducePow,t7,t8,dS,dT,dU,dV,dW,dX,dY,dZ]
  repeat'((with_reducible first|refine sp ?_ ?_|fail)<;>intro hx<;>(try simp only[bI.u]at hx)<;>(first|exact xz|(try simp(maxSteps:=4000000)(disch:=first|exact dz|fail)only[bB.u,seval,cut,hx,m142b0,cY,bE,hlt,hj,hso,hml,t31,shl6,shr64,cG,Int.reducePow,t7,t8,dS,dT,dU,dV,dW,dX,dY,dZ])))
  all_goals first|exact xz|(subst hrhs;first|(rw[gf (by assumption) (by assumption)])|(rw[gd (by rintro⟨h1,h2,h3⟩;simp_all),tg];(try(have e17:t=17:=by assumption;subst e17));simp only[if_true,Bool.false_eq_true,if_false,List.length_nil];unfold ch;(repeat(first|rw[if_pos (by omega)]|rw[if_neg (by omega)]));((try simp(disch:=omega) only[sY,nc,nd,Int.toNat_natCast,tn]);first|rfl|(rw[show t=17 by assumption];rfl)|(rw[show t=17 by omega];rfl)))))
theorem t_:IntKind.u8.wrap ((BitVec.ofInt IntKind.u8.bits 64|||BitVec.ofInt IntKind.u8.bits 32).toNat:Int)=96:=rfl
theorem ua:((BitVec.ofInt IntKind.u8.bits 64|||BitVec.ofInt IntKind.u8.bits 32).toNat:Int)=96:=rfl
theorem An (t:Int) (v kk:MV) (b:List UInt8) (d n:Nat) (ps:List (List UInt8)) (hv:Rb v b) (hk:Rk kk) (ht:0≤t) (ht2:t<31) (hn:ps.length=n) (hn2:n≤2^30) (hp:ps.flatten.length≤2^30) (hb:b.length≤2^30):
  am cY (RunL Q m142k0 m142b0 [.blk 2,.code bE] (dl 1 t false v kk d n ps n))=some (.tup [.bs (cW 1 t false b ps).2,.int .i64 (cW 1 t false b ps).1]):=by
 have hlt:decide ((n:Int)<(n:Int))=false:=by simp
 have hj:=iz ps (by omega) (by omega)
 have hso:=dQ ps (by omega)
 have hml:(ps.map MV.bs).length=n:=by simp[hn]
 have ha:(if n=0 then 2 else 1)≤2:=by split<;>omega
 have ha':1≤(if n=0 then 2 else 1):=by split<;>omega
 unfold dl
 generalize(if n=0 then 2 else 1)=a at ha ha' ⊢
 have t31:decide (t<31)=true:=by simpa using ht2
 have tn:(64+t).toNat=first 1 false+t.toNat:=by rw[show first 1 false=64 from rfl];omega
 have tg:cw 1 t false=[UInt8.ofNat (first 1 false+t.toNat)]:=if_pos ht2
 cases hv<;>cases hk
 all_goals(
  obtain⟨b',hb'⟩:∃b',b'=m142b0:=⟨_,rfl⟩
  rw[ah,show Item.lp m142k0 m142b0=Item.lp m142k0 b' by rw[hb']]
  apply ae;intro rhs hrhs
  simp(maxSteps:=4000000)(disch:=first|exact dz|fail)only[bB.u,seval,cut,m142b0,cY,bE,hlt,hj,hso,hml,t31,shl6,shr64,cG,Int.reducePow,t_,ua,dS,dT,dU,dV,dW,dX,dY,dZ]
  repeat'((with_reducible first|refine sp ?_ ?_|fail)<;>intro hx<;>(try simp only[bI.u]at hx)<;>(first|exact xz|(try simp(maxSteps:=4000000)(disch:=first|exact dz|fail)only[bB.u,seval,cut,hx,m142b0,cY,bE,hlt,hj,hso,hml,t31,shl6,shr64,cG,Int.reducePow,t_,ua,dS,dT,dU,dV,dW,dX,dY,dZ])))
  all_goals first|exact xz|(subst hrhs;first|(rw[gf (by assumption) (by assumption)])|(rw[gd (by rintro⟨h1,h2,h3⟩;simp_all),tg];(try(have e17:t=17:=by assumption;subst e17));simp only[if_true,Bool.false_eq_true,if_false,List.length_nil];unfold ch;(repeat(first|rw[if_pos (by omega)]|rw[if_neg (by omega)]));((try simp(disch:=omega) only[sY,nc,nd,Int.toNat_natCast,tn]);first|rfl|(rw[show t=17 by assumption];rfl)|(rw[show t=17 by omega];rfl)))))
theorem Ao (t:Int) (v kk:MV) (b:List UInt8) (d n:Nat) (ps:List (List UInt8)) (hv:Rb v b) (hk:Rk kk) (ht:0≤t) (ht2:t<31) (hn:ps.length=n) (hn2:n≤2^30) (hp:ps.flatten.length≤2^30) (hb:b.length≤2^30):
  am cY (RunL Q m142k0 m142b0 [.blk 2,.code bE] (dl 1 t true v kk d n ps n))=some (.tup [.bs (cW 1 t true b ps).2,.int .i64 (cW 1 t true b ps).1]):=by
 have hlt:decide ((n:Int)<(n:Int))=false:=by simp
 have hj:=iz ps (by omega) (by omega)
 have hso:=dQ ps (by omega)
 have hml:(ps.map MV.bs).length=n:=by simp[hn]
 have ha:(if n=0 then 2 else 1)≤2:=by split<;>omega
 have ha':1≤(if n=0 then 2 else 1):=by split<;>omega
 unfold dl
 generalize(if n=0 then 2 else 1)=a at ha ha' ⊢
 have t31:decide (t<31)=true:=by simpa using ht2
 have tn:(96+t).toNat=first 1 true+t.toNat:=by rw[show first 1 true=96 from rfl];omega
 have tg:cw 1 t true=[UInt8.ofNat (first 1 true+t.toNat)]:=if_pos ht2
 cases hv<;>cases hk
 all_goals(
  obtain⟨b',hb'⟩:∃b',b'=m142b0:=⟨_,rfl⟩
  rw[ah,show Item.lp m142k0 m142b0=Item.lp m142k0 b' by rw[hb']]
  apply ae;intro rhs hrhs
  simp(maxSteps:=4000000)(disch:=first|exact dz|fail)only[bB.u,seval,cut,m142b0,cY,bE,hlt,hj,hso,hml,t31,shl6,shr64,cG,Int.reducePow,t_,ua,dS,dT,dU,dV,dW,dX,dY,dZ]
  repeat'((with_reducible first|refine sp ?_ ?_|fail)<;>intro hx<;>(try simp only[bI.u]at hx)<;>(first|exact xz|(try simp(maxSteps:=4000000)(disch:=first|exact dz|fail)only[bB.u,seval,cut,hx,m142b0,cY,bE,hlt,hj,hso,hml,t31,shl6,shr64,cG,Int.reducePow,t_,ua,dS,dT,dU,dV,dW,dX,dY,dZ])))
  all_goals first|exact xz|(subst hrhs;first|(rw[gf (by assumption) (by assumption)])|(rw[gd (by rintro⟨h1,h2,h3⟩;simp_all),tg];(try(have e17:t=17:=by assumption;subst e17));simp only[if_true,Bool.false_eq_true,if_false,List.length_nil];unfold ch;(repeat(first|rw[if_pos (by omega)]|rw[if_neg (by omega)]));((try simp(disch:=omega) only[sY,nc,nd,Int.toNat_natCast,tn]);first|rfl|(rw[show t=17 by assumption];rfl)|(rw[show t=17 by omega];rfl)))))
theorem ub:IntKind.u8.wrap ((BitVec.ofInt IntKind.u8.bits 128|||BitVec.ofInt IntKind.u8.bits 32).toNat:Int)=160:=rfl
theorem uc:((BitVec.ofInt IntKind.u8.bits 128|||BitVec.ofInt IntKind.u8.bits 32).toNat:Int)=160:=rfl
theorem Ap (t:Int) (v kk:MV) (b:List UInt8) (d n:Nat) (ps:List (List UInt8)) (hv:Rb v b) (hk:Rk kk) (ht:0≤t) (ht2:t<31) (hn:ps.length=n) (hn2:n≤2^30) (hp:ps.flatten.length≤2^30) (hb:b.length≤2^30):
  am cY (RunL Q m142k0 m142b0 [.blk 2,.code bE] (dl 2 t false v kk d n ps n))=some (.tup [.bs (cW 2 t false b ps).2,.int .i64 (cW 2 t false b ps).1]):=by
 have hlt:decide ((n:Int)<(n:Int))=false:=by simp
 have hj:=iz ps (by omega) (by omega)
 have hso:=dQ ps (by omega)
 have hml:(ps.map MV.bs).length=n:=by simp[hn]
 have ha:(if n=0 then 2 else 1)≤2:=by split<;>omega
 have ha':1≤(if n=0 then 2 else 1):=by split<;>omega
 unfold dl
 generalize(if n=0 then 2 else 1)=a at ha ha' ⊢
 have t31:decide (t<31)=true:=by simpa using ht2
 have tn:(128+t).toNat=first 2 false+t.toNat:=by rw[show first 2 false=128 from rfl];omega
 have tg:cw 2 t false=[UInt8.ofNat (first 2 false+t.toNat)]:=if_pos ht2
 cases hv<;>cases hk
 all_goals(
  obtain⟨b',hb'⟩:∃b',b'=m142b0:=⟨_,rfl⟩
  rw[ah,show Item.lp m142k0 m142b0=Item.lp m142k0 b' by rw[hb']]
  apply ae;intro rhs hrhs
  simp(maxSteps:=4000000)(disch:=first|exact dz|fail)only[bB.u,seval,cut,m142b0,cY,bE,hlt,hj,hso,hml,t31,shl6,shr64,cG,Int.reducePow,ub,uc,dS,dT,dU,dV,dW,dX,dY,dZ]
  repeat'((with_reducible first|refine sp ?_ ?_|fail)<;>intro hx<;>(try simp only[bI.u]at hx)<;>(first|exact xz|(try simp(maxSteps:=4000000)(disch:=first|exact dz|fail)only[bB.u,seval,cut,hx,m142b0,cY,bE,hlt,hj,hso,hml,t31,shl6,shr64,cG,Int.reducePow,ub,uc,dS,dT,dU,dV,dW,dX,dY,dZ])))
  all_goals first|exact xz|(subst hrhs;first|(rw[gf (by assumption) (by assumption)])|(rw[gd (by rintro⟨h1,h2,h3⟩;simp_all),tg];(try(have e17:t=17:=by assumption;subst e17));simp only[if_true,Bool.false_eq_true,if_false,List.length_nil];unfold ch;(repeat(first|rw[if_pos (by omega)]|rw[if_neg (by omega)]));((try simp(disch:=omega) only[sY,nc,nd,Int.toNat_natCast,tn]);first|rfl|(rw[show t=17 by assumption];rfl)|(rw[show t=17 by omega];rfl)))))
theorem Aq (t:Int) (v kk:MV) (b:List UInt8) (d n:Nat) (ps:List (List UInt8)) (hv:Rb v b) (hk:Rk kk) (ht:0≤t) (ht2:t<31) (hn:ps.length=n) (hn2:n≤2^30) (hp:ps.flatten.length≤2^30) (hb:b.length≤2^30):
  am cY (RunL Q m142k0 m142b0 [.blk 2,.code bE] (dl 2 t true v kk d n ps n))=some (.tup [.bs (cW 2 t true b ps).2,.int .i64 (cW 2 t true b ps).1]):=by
 have hlt:decide ((n:Int)<(n:Int))=false:=by simp
 have hj:=iz ps (by omega) (by omega)
 have hso:=dQ ps (by omega)
 have hml:(ps.map MV.bs).length=n:=by simp[hn]
 have ha:(if n=0 then 2 else 1)≤2:=by split<;>omega
 have ha':1≤(if n=0 then 2 else 1):=by split<;>omega
 unfold dl
 generalize(if n=0 then 2 else 1)=a at ha ha' ⊢
 have t31:decide (t<31)=true:=by simpa using ht2
 have tn:(160+t).toNat=first 2 true+t.toNat:=by rw[show first 2 true=160 from rfl];omega
 have tg:cw 2 t true=[UInt8.ofNat (first 2 true+t.toNat)]:=if_pos ht2
 cases hv<;>cases hk
 all_goals(
  obtain⟨b',hb'⟩:∃b',b'=m142b0:=⟨_,rfl⟩
  rw[ah,show Item.lp m142k0 m142b0=Item.lp m142k0 b' by rw[hb']]
  apply ae;intro rhs hrhs
  simp(maxSteps:=4000000)(disch:=first|exact dz|fail)only[bB.u,seval,cut,m142b0,cY,bE,hlt,hj,hso,hml,t31,shl6,shr64,cG,Int.reducePow,ub,uc,dS,dT,dU,dV,dW,dX,dY,dZ]
  repeat'((with_reducible first|refine sp ?_ ?_|fail)<;>intro hx<;>(try simp only[bI.u]at hx)<;>(first|exact xz|(try simp(maxSteps:=4000000)(disch:=first|exact dz|fail)only[bB.u,seval,cut,hx,m142b0,cY,bE,hlt,hj,hso,hml,t31,shl6,shr64,cG,Int.reducePow,ub,uc,dS,dT,dU,dV,dW,dX,dY,dZ])))
  all_goals first|exact xz|(subst hrhs;first|(rw[gf (by assumption) (by assumption)])|(rw[gd (by rintro⟨h1,h2,h3⟩;simp_all),tg];(try(have e17:t=17:=by assumption;subst e17));simp only[if_true,Bool.false_eq_true,if_false,List.length_nil];unfold ch;(repeat(first|rw[if_pos (by omega)]|rw[if_neg (by omega)]));((try simp(disch:=omega) only[sY,nc,nd,Int.toNat_natCast,tn]);first|rfl|(rw[show t=17 by assumption];rfl)|(rw[show t=17 by omega];rfl)))))
theorem ud:IntKind.u8.wrap ((BitVec.ofInt IntKind.u8.bits 192|||BitVec.ofInt IntKind.u8.bits 32).toNat:Int)=224:=rfl
theorem ue:((BitVec.ofInt IntKind.u8.bits 192|||BitVec.ofInt IntKind.u8.bits 32).toNat:Int)=224:=rfl
theorem Ar (t:Int) (v kk:MV) (b:List UInt8) (d n:Nat) (ps:List (List UInt8)) (hv:Rb v b) (hk:Rk kk) (ht:0≤t) (ht2:t<31) (hn:ps.length=n) (hn2:n≤2^30) (hp:ps.flatten.length≤2^30) (hb:b.length≤2^30):
  am cY (RunL Q m142k0 m142b0 [.blk 2,.code bE] (dl 3 t false v kk d n ps n))=some (.tup [.bs (cW 3 t false b ps).2,.int .i64 (cW 3 t false b ps).1]):=by
 have hlt:decide ((n:Int)<(n:Int))=false:=by simp
 have hj:=iz ps (by omega) (by omega)
 have hso:=dQ ps (by omega)
 have hml:(ps.map MV.bs).length=n:=by simp[hn]
 have ha:(if n=0 then 2 else 1)≤2:=by split<;>omega
 have ha':1≤(if n=0 then 2 else 1):=by split<;>omega
 unfold dl
 generalize(if n=0 then 2 else 1)=a at ha ha' ⊢
 have t31:decide (t<31)=true:=by simpa using ht2
 have tn:(192+t).toNat=first 3 false+t.toNat:=by rw[show first 3 false=192 from rfl];omega
 have tg:cw 3 t false=[UInt8.ofNat (first 3 false+t.toNat)]:=if_pos ht2
 cases hv<;>cases hk
 all_goals(
  obtain⟨b',hb'⟩:∃b',b'=m142b0:=⟨_,rfl⟩
  rw[ah,show Item.lp m142k0 m142b0=Item.lp m142k0 b' by rw[hb']]
  apply ae;intro rhs hrhs
  simp(maxSteps:=4000000)(disch:=first|exact dz|fail)only[bB.u,seval,cut,m142b0,cY,bE,hlt,hj,hso,hml,t31,shl6,shr64,cG,Int.reducePow,ud,ue,dS,dT,dU,dV,dW,dX,dY,dZ]
  repeat'((with_reducible first|refine sp ?_ ?_|fail)<;>intro hx<;>(try simp only[bI.u]at hx)<;>(first|exact xz|(try simp(maxSteps:=4000000)(disch:=first|exact dz|fail)only[bB.u,seval,cut,hx,m142b0,cY,bE,hlt,hj,hso,hml,t31,shl6,shr64,cG,Int.reducePow,ud,ue,dS,dT,dU,dV,dW,dX,dY,dZ])))
  all_goals first|exact xz|(subst hrhs;first|(rw[gf (by assumption) (by assumption)])|(rw[gd (by rintro⟨h1,h2,h3⟩;simp_all),tg];(try(have e17:t=17:=by assumption;subst e17));simp only[if_true,Bool.false_eq_true,if_false,List.length_nil];unfold ch;(repeat(first|rw[if_pos (by omega)]|rw[if_neg (by omega)]));((try simp(disch:=omega) only[sY,nc,nd,Int.toNat_natCast,tn]);first|rfl|(rw[show t=17 by assumption];rfl)|(rw[show t=17 by omega];rfl)))))
theorem As (t:Int) (v kk:MV) (b:List UInt8) (d n:Nat) (ps:List (List UInt8)) (hv:Rb v b) (hk:Rk kk) (ht:0≤t) (ht2:t<31) (hn:ps.length=n) (hn2:n≤2^30) (hp:ps.flatten.length≤2^30) (hb:b.length≤2^30):
  am cY (RunL Q m142k0 m142b0 [.blk 2,.code bE] (dl 3 t true v kk d n ps n))=some (.tup [.bs (cW 3 t true b ps).2,.int .i64 (cW 3 t true b ps).1]):=by
 have hlt:decide ((n:Int)<(n:Int))=false:=by simp
 have hj:=iz ps (by omega) (by omega)
 have hso:=dQ ps (by omega)
 have hml:(ps.map MV.bs).length=n:=by simp[hn]
 have ha:(if n=0 then 2 else 1)≤2:=by split<;>omega
 have ha':1≤(if n=0 then 2 else 1):=by split<;>omega
 unfold dl
 generalize(if n=0 then 2 else 1)=a at ha ha' ⊢
 have t31:decide (t<31)=true:=by simpa using ht2
 have tn:(224+t).toNat=first 3 true+t.toNat:=by rw[show first 3 true=224 from rfl];omega
 have tg:cw 3 t true=[UInt8.ofNat (first 3 true+t.toNat)]:=if_pos ht2
 cases hv<;>cases hk
 all_goals(
  obtain⟨b',hb'⟩:∃b',b'=m142b0:=⟨_,rfl⟩
  rw[ah,show Item.lp m142k0 m142b0=Item.lp m142k0 b' by rw[hb']]
  apply ae;intro rhs hrhs
  simp(maxSteps:=4000000)(disch:=first|exact dz|fail)only[bB.u,seval,cut,m142b0,cY,bE,hlt,hj,hso,hml,t31,shl6,shr64,cG,Int.reducePow,ud,ue,dS,dT,dU,dV,dW,dX,dY,dZ]
  repeat'((with_reducible first|refine sp ?_ ?_|fail)<;>intro hx<;>(try simp only[bI.u]at hx)<;>(first|exact xz|(try simp(maxSteps:=4000000)(disch:=first|exact dz|fail)only[bB.u,seval,cut,hx,m142b0,cY,bE,hlt,hj,hso,hml,t31,shl6,shr64,cG,Int.reducePow,ud,ue,dS,dT,dU,dV,dW,dX,dY,dZ])))
  all_goals first|exact xz|(subst hrhs;first|(rw[gf (by assumption) (by assumption)])|(rw[gd (by rintro⟨h1,h2,h3⟩;simp_all),tg];(try(have e17:t=17:=by assumption;subst e17));simp only[if_true,Bool.false_eq_true,if_false,List.length_nil];unfold ch;(repeat(first|rw[if_pos (by omega)]|rw[if_neg (by omega)]));((try simp(disch:=omega) only[sY,nc,nd,Int.toNat_natCast,tn]);first|rfl|(rw[show t=17 by assumption];rfl)|(rw[show t=17 by omega];rfl)))))
end Go.Mini
namespace Go.Mini
open Go Go.Proofs.YtgiobgojobegfaaGreatDoor
set_option maxRecDepth 100000
set_option maxHeartbeats 400000
variable {fb:Bool}
theorem IC (c t:Int) (m:Bool) (v kk:MV) (b:List UInt8) (d n:Nat) (ps:List (List UInt8)) (hv:Rb v b) (hk:Rk kk) (h0:0≤c) (h3:c≤3) (ht:0≤t) (ht2:t<31) (hn:ps.length=n) (hn2:n≤2^30) (hp:ps.flatten.length≤2^30) (hb:b.length≤2^30):
  am cY (RunL Q m142k0 m142b0 [.blk 2,.code bE] (dl c t m v kk d n ps n))=some (.tup [.bs (cW c t m b ps).2,.int .i64 (cW c t m b ps).1]):=by
 have hc:c=0∨c=1∨c=2∨c=3:=by omega
 rcases hc with rfl|rfl|rfl|rfl<;>cases m
 ·exact Al t v kk b d n ps hv hk ht ht2 hn hn2 hp hb
 ·exact Am t v kk b d n ps hv hk ht ht2 hn hn2 hp hb
 ·exact An t v kk b d n ps hv hk ht ht2 hn hn2 hp hb
 ·exact Ao t v kk b d n ps hv hk ht ht2 hn hn2 hp hb
 ·exact Ap t v kk b d n ps hv hk ht ht2 hn hn2 hp hb
 ·exact Aq t v kk b d n ps hv hk ht ht2 hn hn2 hp hb
 ·exact Ar t v kk b d n ps hv hk ht ht2 hn hn2 hp hb
 ·exact As t v kk b d n ps hv hk ht ht2 hn hn2 hp hb
mutual
def low:T→Prop
 | .mk _ t _ _ ks=>t<31∧bg ks
def bg:List T→Prop
 | []=>True
 |k::r=>low k∧bg r
end
theorem jk:∀ {ts:List T},bg ts→∀t∈ts,low t
 | [],_,t,h=>by simp at h
 |k::r,hl,t,h=>by
  rw[bg]at hl
  rcases List.mem_cons.1 h with rfl|h
  ·exact hl.1
  ·exact jk hl.2 t h
theorem xL {ts:List T} {t:T} (h:t∈ts):sz t≤szs ts:=by
 obtain⟨i,hi⟩:=List.getElem?_of_mem h
 exact rG hi
theorem Rb.form {v:MV} {b:List UInt8} (h:Rb v b):(∃b,v= .bs b)∨v= .nilsl:=by
 cases h
 ·exact .inl ⟨_,rfl⟩
 ·exact .inr rfl
theorem GU (c t:Int) (m:Bool) (v kk:MV) (b:List UInt8) (d:Nat) (kl:List MV) (ks:List T) (hv:Rb v b) (hk:Rk kk) (hk2:(kk= .sl 5 kl∨kk= .fsl 5 kl)∧Wl fb kl ks∨ks=[]) (h0:0≤c) (h3:c≤3) (ht:0≤t) (ht2:t<31) (hd:d≤16) (hs:szs ks≤2^30) (hb:b.length≤2^30)
  (ih:∀t v,t∈ks→Wv fb v t→Call Q 142 [v,.int .i64 ((d+1:Nat):Int)]=some (.tup [.bs (wr (d+1) t).2,.int .i64 (wr (d+1) t).1])):
  am cY (RunL Q m142k0 m142b0 [.blk 2,.code bE] (dl c t m v kk d ks.length [] 0))=if(aP (d+1) ks).1≠0 then some (.tup [.bs [],.int .i64 (aP (d+1) ks).1])else some (.tup [.bs (cW c t m b (aP (d+1) ks).2).2,.int .i64 (cW c t m b (aP (d+1) ks).2).1]):=by
 have hkl:=g_ ks
 rw[GS [.blk 2,.code bE] c t m v kk d kl ks hv.form hk2 hs hd ih]
 have hfl:=rH (d+1) ks
 by_cases h:(aP (d+1) ks).1=0
 ·rw[if_neg (by simpa using h),if_neg (by simpa using h)]
  exact IC c t m v kk b d ks.length _ hv hk h0 h3 ht ht2 (xK (d+1) ks h) (by omega) (by omega) hb
 ·rw[if_pos h,if_pos h]
theorem EZ (N:Nat):∀(t:T) (v:MV) (d:Nat),sz t≤N→N≤2^30→low t→Wv fb v t→d≤17→Call Q 142 [v,.int .i64 (d:Nat)]=some (.tup [.bs (wr d t).2,.int .i64 (wr d t).1]):=by
 induction N with
 |zero=>intro t v d hs;cases t;rw[sz]at hs;omega
 |succ N ih=>
  intro T0 v d hs hN hlow hv hd
  by_cases hd17:d=17
  ·exact vl v T0 hv d hd17
  have hd:d≤16:=by omega
  obtain⟨c,t,m,b,ks⟩:=T0
  rw[sz]at hs
  rw[low]at hlow
  rw[wr]
  cases hr:bT c t
  rotate_left
  ·rw[tQ v c t m b ks hv d hd hr,gc,if_neg (by omega),if_pos hr]
  by_cases he:aR c t m b=0
  rotate_left
  ·have hw:∀q e ps,gc d c t m b q e ps=(if aR c t m b=21 then 21 else 24,[]):=by
    intro q e ps
    rw[gc,if_neg (by omega),hr,if_neg (by simp)]
    split
    ·rfl
    ·rw[if_pos (.inl he)]
   rw[vn v c t m b ks hv (by omega) d hd hr _ rfl he,hw]
  by_cases hx:(m=true∧b≠[])∨(m=false∧ks≠[])
  ·rw[vp v c t m b ks hv (by omega) d hd hr he hx (by omega),gc,if_neg (by omega),hr,if_neg (by simp),he,if_neg (by decide),if_pos (.inr (hx.imp id fun h=>⟨h.1,by cases ks with|nil=>exact absurd rfl h.2|cons x r=>rfl⟩))]
  have hW:∀e ps,gc d c t m b (!ks.isEmpty) e ps=if e≠0 then(e,[])else cW c t m b ps:=by
   intro e ps
   rw[gc,if_neg (by omega),hr,if_neg (by simp),he,if_neg (by decide),if_neg]
   ·rfl
   rintro(h|h|h)
   ·exact h rfl
   ·exact hx (.inl h)
   ·exact hx (.inr ⟨h.1,by rintro rfl;simp at h⟩)
  rw[hW]
  clear hW
  have hkl:=g_ ks
  have hbl:b.length≤2^47:=by omega
  have h1:decide (16<(d:Int))=false:=by simp;omega
  have hr':=hr
  unfold bT at hr'
  simp only[Bool.or_eq_false_iff]at hr'
  obtain⟨⟨⟨r1,r2⟩,r3⟩,r4⟩:=hr'
  cases hv with
  | @mk _ _ _ _ v k _ _ hb hk=>
  have hf:=na c t m v k b hb (by cases hk<;>constructor) hbl
  rw[he]at hf
  have hRk:Rk k:=by cases hk<;>constructor
  have ih':∀t v,t∈ks→Wv fb v t→Call Q 142 [v,.int .i64 ((d+1:Nat):Int)]=some (.tup [.bs (wr (d+1) t).2,.int .i64 (wr (d+1) t).1]):=by
   intro t' v' hm hv'
   have:=xL hm
   exact ih t' v' (d+1) (by omega) (by omega) (jk hlow.2 t' hm) hv' (by omega)
  have hB:∀kl,((k= .sl 5 kl∨k= .fsl 5 kl)∧Wl fb kl ks∨ks=[])→am cY (RunL Q m142k0 m142b0 [.blk 2,.code bE] (dl c t m v k d ks.length [] 0))=some (.tup [.bs (if(aP (d+1) ks).1≠0 then((aP (d+1) ks).1,[])else cW c t m b (aP (d+1) ks).2).2,.int .i64 (if(aP (d+1) ks).1≠0 then((aP (d+1) ks).1,[])else cW c t m b (aP (d+1) ks).2).1]):=by
   intro kl h2
   simp only[decide_eq_false_iff_not]at r1 r2 r3 r4
   rw[GU c t m v k b d kl ks hb hRk h2 (by omega) (by omega) (by omega) hlow.1 hd (by omega) (by omega) ih']
   split<;>rfl
  have hxm:m=true→b=[]:=fun hm=>by cases b with|nil=>rfl|cons x r=>exact absurd (.inl ⟨hm,by simp⟩) hx
  have hxk:m=false→ks=[]:=fun hm=>by cases ks with|nil=>rfl|cons x r=>exact absurd (.inr ⟨hm,by simp⟩) hx
  rw[Call_fn Q (m:=m142) rfl rfl]
  clear hx ih ih'
  cases hk with
  |nil=>
   have hB:=hB [] (.inr rfl)
   cases hb<;>cases m
   all_goals(try(have hb0:=hxm rfl;subst hb0))
   all_goals(
    apply ae;intro rhs hrhs
    simp(maxSteps:=4000000)(disch:=first|exact dz|fail)only[bB.u,seval,cut,m142,aq,hf,h1,r1,r2,r3,r4]
    subst hrhs;exact(congrArg (am _) (af (canon_cong kr kr kr))).trans hB)
  | @sl _ l _ hl=>
   have hB:=hB l (.inl ⟨.inl rfl,hl⟩)
   have hll:=hl.length
   cases hb<;>cases m
   all_goals(try(have hb0:=hxm rfl;subst hb0))
   all_goals(try(have hk0:=hxk rfl;subst hk0;cases hl))
   all_goals(
    apply ae;intro rhs hrhs
    simp(maxSteps:=4000000)(disch:=first|exact dz|fail)only[bB.u,seval,cut,m142,aq,hf,h1,r1,r2,r3,r4,hll]
    subst hrhs;exact(congrArg (am _) (af (canon_cong kr kr kr))).trans hB)
  | @fsl l _ hl=>
   have hB:=hB l (.inl ⟨.inr rfl,hl⟩)
   have hll:=hl.length
   cases hb<;>cases m
   all_goals(try(have hb0:=hxm rfl;subst hb0))
   all_goals(try(have hk0:=hxk rfl;subst hk0;cases hl))
   all_goals(
    apply ae;intro rhs hrhs
    simp(maxSteps:=4000000)(disch:=first|exact dz|fail)only[bB.u,seval,cut,m142,aq,hf,h1,r1,r2,r3,r4,hll]
    subst hrhs;exact(congrArg (am _) (af (canon_cong kr kr kr))).trans hB)
theorem GV (s k x:Nat) (hx:x<2^s) (h:2^s*k+x<9223372036854775808):IntKind.i64.wrap ((BitVec.ofInt IntKind.i64.bits ((2^s*k:Nat):Int)|||BitVec.ofInt IntKind.i64.bits (x:Int)).toNat:Int)=((2^s*k+x:Nat):Int):=by
 have e:(BitVec.ofInt IntKind.i64.bits ((2^s*k:Nat):Int)|||BitVec.ofInt IntKind.i64.bits (x:Int)).toNat=2^s*k+x:=by
  show(BitVec.ofInt 64 ((2^s*k:Nat):Int)|||BitVec.ofInt 64 (x:Int)).toNat=2^s*k+x
  rw[BitVec.toNat_or,BitVec.ofInt_natCast,BitVec.ofInt_natCast,BitVec.toNat_ofNat,BitVec.toNat_ofNat,Nat.mod_eq_of_lt (by omega),Nat.mod_eq_of_lt (by omega)]
  exact(Nat.two_pow_add_eq_or_of_lt hx k).symm
 rw[e,fG (by omega) (by omega)]
theorem gg {a:Int} (h0:0≤a) (h1:a<1125899906842624):bf .shl .i64 a 7=some (.int .i64 (a*128)):=by
 unfold bf
 rw[if_neg (by omega)]
 show some (MV.int .i64 (IntKind.i64.wrap (a*128)))=_
 rw[fG (by omega) (by omega)]
theorem E4 {a:Int} (h0:0≤a) (h1:a<1125899906842624):bf .shl .i64 a 8=some (.int .i64 (a*256)):=by
 unfold bf
 rw[if_neg (by omega)]
 show some (MV.int .i64 (IntKind.i64.wrap (a*256)))=_
 rw[fG (by omega) (by omega)]
theorem ng {a:Int} (x:UInt8) (h0:0≤a) (h1:a<1125899906842624):IntKind.i64.wrap ((BitVec.ofInt IntKind.i64.bits (a*128)|||BitVec.ofInt IntKind.i64.bits ((x.toNat:Int)%128)).toNat:Int)=a*128+(x.toNat:Int)%128:=by
 obtain⟨k,rfl⟩:=Int.eq_ofNat_of_zero_le h0
 have h:=GV 7 k (x.toNat%128) (by omega) (by omega)
 have e:((2^7*k:Nat):Int)=(k:Int)*128:=by omega
 have e2:((x.toNat%128:Nat):Int)=(x.toNat:Int)%128:=by omega
 rw[e,e2]at h
 rw[h]
 omega
theorem GW {a:Int} (x:UInt8) (h0:0≤a) (h1:a<1125899906842624):IntKind.i64.wrap ((BitVec.ofInt IntKind.i64.bits (a*256)|||BitVec.ofInt IntKind.i64.bits (x.toNat:Int)).toNat:Int)=a*256+(x.toNat:Int):=by
 obtain⟨k,rfl⟩:=Int.eq_ofNat_of_zero_le h0
 have hx:=x.toNat_lt
 have h:=GV 8 k x.toNat (by omega) (by omega)
 have e:((2^8*k:Nat):Int)=(k:Int)*256:=by omega
 rw[e]at h
 rw[h]
 omega
theorem gh (x:UInt8):((x&&&127).toNat:Int)=(x.toNat:Int)%128:=by
 rw[UInt8.toNat_and,show(127:UInt8).toNat=2^7-1 from rfl,Nat.and_two_pow_sub_one_eq_mod];omega
theorem xM (x:UInt8):IntKind.u8.wrap ((BitVec.ofInt IntKind.u8.bits (x.toNat:Int)&&&BitVec.ofInt IntKind.u8.bits 31).toNat:Int)=(x.toNat:Int)%32:=by
 have h:=u6 x 31
 rw[show((31:UInt8).toNat:Int)=31 from rfl]at h
 rw[h,UInt8.toNat_and,show(31:UInt8).toNat=2^5-1 from rfl,Nat.and_two_pow_sub_one_eq_mod];omega
theorem xN (x:UInt8):IntKind.u8.wrap ((BitVec.ofInt IntKind.u8.bits (x.toNat:Int)&&&BitVec.ofInt IntKind.u8.bits 32).toNat:Int)=((x&&&32).toNat:Int):=u6 x 32
theorem GX (x:UInt8):IntKind.i64.wrap ((x>>>UInt8.ofNat 6).toNat:Int)=(x.toNat:Int)/64:=by
 have hx:=x.toNat_lt
 have e:(x>>>UInt8.ofNat 6).toNat=x.toNat/64:=by
  rw[UInt8.toNat_shiftRight,show(UInt8.ofNat 6).toNat%8=6 from rfl,Nat.shiftRight_eq_div_pow]
 rw[e,fG (by omega) (by omega)]
 omega
inductive HR where
 |er (e:Int)
 |ok (c t:Int) (m:Bool) (n at':Nat)
def aU (l:List UInt8):Nat:=l.foldl (fun n c=>n*256+c.toNat) 0
def iF (b:List UInt8) (c t:Int) (m:Bool) (at':Nat):HR:=
 if b.length≤at' then .er 20
 else if(g0 b at').toNat<128 then .ok c t m (g0 b at').toNat (at'+1)
 else if(g0 b at').toNat=128∨132<(g0 b at').toNat then .er 22
 else if b.length<at'+1+((g0 b at').toNat-128)then .er 20
 else if aU ((b.drop (at'+1)).take ((g0 b at').toNat-128))<128∨(g0 b (at'+1)).toNat=0 then .er 22
 else .ok c t m (aU ((b.drop (at'+1)).take ((g0 b at').toNat-128))) (at'+1+((g0 b at').toNat-128))
def ni (b:List UInt8) (c t:Int) (m:Bool) (at':Nat):HR:=if t<31 then .er 21 else iF b c t m at'
def cls (x:UInt8):Int:=(x.toNat:Int)/64
def mad (x:UInt8):Bool:= !(x&&&32==0)
def vq (b:List UInt8) (c:Int) (m:Bool):HR:=
 if b.length≤1 then .er 20 else if(g0 b 1).toNat=128 then .er 21
 else if(g0 b 1).toNat<128 then ni b c (g0 b 1).toNat m 2
 else if b.length≤2 then .er 20
 else if(g0 b 2).toNat<128 then ni b c (((g0 b 1).toNat-128)*128+(g0 b 2).toNat) m 3
 else if b.length≤3 then .er 20
 else if(g0 b 3).toNat<128 then ni b c ((((g0 b 1).toNat-128)*128+((g0 b 2).toNat-128))*128+(g0 b 3).toNat) m 4
 else if b.length≤4 then .er 20 else .er 21
def ii (b:List UInt8):HR:=
 if b.length≤0 then .er 20
 else if(g0 b 0).toNat%32=31 then vq b (cls (g0 b 0)) (mad (g0 b 0))
 else iF b (cls (g0 b 0)) ((g0 b 0).toNat%32:Nat) (mad (g0 b 0)) 1
def HO (r:HR) (x:Option MV):Prop:=match r with
 | .er e=>∃c t m,x=some (.tup [.agg [.int .i64 c,.int .i64 t,.bool m,.nilsl,.nilsl],.int .i64 0,.int .i64 0,.int .i64 e])
 | .ok c t m n a=>x=some (.tup [.agg [.int .i64 c,.int .i64 t,.bool m,.nilsl,.nilsl],.int .i64 (n:Nat),.int .i64 (a:Nat),.int .i64 0])
def cN:List (Nat × Option (Bool × Nat) × PK):=[(2,some (true,5),.other),(3,none,.other),(4,none,.other),(5,none,.other)]
def gi:MCode:=(.seq (sq [qa 128 3,qx 129 .lss 128 128,qf 130 129,qL 131 8 130,gF 132 (.bin .eql (.t 131) (qu 0)) 130,qq 133 130 132] (.cond (.v 133) (sq [qi 134 5 2,qg 5 2 134,qe 3 0,qe 4 0,qe 5 22] .ret) .skip)) (sq [qi 135 5 2,qa 136 3,qa 137 4,qg 5 2 135,qb 3 136,qb 4 137,qe 5 0] .ret))
def ij (b:List UInt8) (c t:Int) (m:Bool) (s:Int) (a f:Int) (n i:Nat):DS:=⟨[(0,.bs b),(2,.ptr 0 0),(3,.int .i64 s),(4,.int .i64 a),(8,.int .u8 f),(114,.int .i64 n),(115,.int .i64 i)],[],[(0,.cells [.int .i64 c,.int .i64 t,.bool m,.nilsl,.nilsl])],2⟩
theorem Au (b:List UInt8) (c t:Int) (m:Bool) (a n:Nat) (f:UInt8) (hn:n≤4) (hb:b.length<2^40) (ha:a+n≤b.length):
  HO (if aU ((b.drop a).take n)<128∨f.toNat=0 then .er 22 else .ok c t m (aU ((b.drop a).take n)) (a+n)) (am cN (RunL Q m144k1 m144b1 [.blk 4,.code gi] (ij b c t m 0 a (f.toNat:Int) n 0))):=by
 have hl:((b.drop a).take n).length=n:=by simp;omega
 have key:∀rhs,am cN (RunL Q m144k1 m144b1 [.blk 4,.code gi] (ij b c t m (aU ((b.drop a).take n)) ((a+n:Nat):Int) (f.toNat:Int) n n))=rhs→am cN (RunL Q m144k1 m144b1 [.blk 4,.code gi] (ij b c t m 0 a (f.toNat:Int) n 0))=rhs:=by
  intro rhs hrhs
  refine u' fun K hK=>?_
  refine gC (γ:=Empty) ((b.drop a).take n) (fun s x=>.inl (s*256+x.toNat)) (fun s i=>am cN (RunL Q m144k1 m144b1 K (ij b c t m (s:Nat) ((a+i:Nat):Int) (f.toNat:Int) n i))) (fun c=>nomatch c) (fun s i=>s<256^i) ?_ 0 (by simp) rfl ?_ (fun c=>nomatch c)
  ·intro s i x hI hg
   obtain⟨hi,hxx⟩:=List.getElem?_eq_some_iff.1 hg
   rw[hl]at hi
   have hI:s<256^i:=hI
   have h4:256^i≤256^3:=Nat.pow_le_pow_right (by omega) (by omega)
   have hs:(s:Int)<1125899906842624:=by
    have:256^3=16777216:=by decide
    omega
   have hlt:decide ((i:Int)<(n:Int))=true:=by simp;omega
   have hq:b[a+i]? = some x:=by
    rw[List.getElem?_take_of_lt (by omega),List.getElem?_drop]at hg
    exact hg
   have hx:=x.toNat_lt
   refine⟨?_,?_⟩
   ·show s*256+x.toNat<256^(i+1)
    rw[Nat.pow_succ];omega
   ·dsimp only
    unfold ij
    have e9:((a+(i+1):Nat):Int)=((a+i:Nat):Int)+1:=by omega
    have e8:((s*256+x.toNat:Nat):Int)=(s:Int)*256+(x.toNat:Int):=by omega
    have e7:((i+1:Nat):Int)=(i:Int)+1:=by omega
    rw[e9,e8,e7]
    have hai:a+i<b.length:=by omega
    obtain⟨b',hb'⟩:∃b',b'=m144b1:=⟨_,rfl⟩
    rw[ah,show Item.lp m144k1 m144b1=Item.lp m144k1 b' by rw[hb']]
    apply ae;intro rhs hrhs
    simp(maxSteps:=4000000)(disch:=first|exact dz|fail)only[bB.u,seval,cut,m144b1,cN,hlt,hq,E4,GW]
    subst hrhs;(subst hb';refine(congrArg (am _) (aA Q _ _ _ _)).trans ?_;exact congrArg (am cN) (af (canon_cong kr kr kr)))
  ·intro s hf hI
   rw[sQ]at hf
   cases hf
   rw[hl]
   subst hK
   exact hrhs
 have hsz:aU ((b.drop a).take n)<2^40:=by
  have:∀(l:List UInt8) (s:Nat),l.foldl (fun n c=>n*256+c.toNat) s<(s+1)*256^l.length:=by
   intro l
   induction l with
   |nil=>intro s;simp
   |cons x r ih=>
    intro s
    have hx:=x.toNat_lt
    simp only[List.foldl_cons,List.length_cons]
    refine Nat.lt_of_lt_of_le (ih _) ?_
    rw[Nat.pow_succ,Nat.mul_comm (256^r.length),←Nat.mul_assoc]
    exact Nat.mul_le_mul_right _ (by omega)
  have h:=this ((b.drop a).take n) 0
  rw[hl]at h
  have h4:256^n≤256^4:=Nat.pow_le_pow_right (by omega) hn
  unfold aU
  have:(256:Nat)^4=4294967296:=by decide
  omega
 have hlt:decide ((n:Int)<(n:Int))=false:=by simp
 generalize aU ((b.drop a).take n)=s at key hsz ⊢
 by_cases h1:s<128
 ·rw[if_pos (.inl h1)]
  refine⟨c,t,m,key _ ?_⟩
  have h1':decide ((s:Int)<128)=true:=by simp;omega
  unfold ij
  obtain⟨b',hb'⟩:∃b',b'=m144b1:=⟨_,rfl⟩
  rw[ah,show Item.lp m144k1 m144b1=Item.lp m144k1 b' by rw[hb']]
  apply ae;intro rhs hrhs
  simp(maxSteps:=4000000)(disch:=first|exact dz|fail)only[bB.u,seval,cut,m144b1,cN,gi,hlt,h1']
  subst hrhs;rfl
 ·have h1':decide ((s:Int)<128)=false:=by simp;omega
  by_cases h2:f.toNat=0
  ·rw[if_pos (.inr h2)]
   refine⟨c,t,m,key _ ?_⟩
   have h2':(f==0)=true:=by simp[←UInt8.toNat_inj,h2]
   unfold ij
   obtain⟨b',hb'⟩:∃b',b'=m144b1:=⟨_,rfl⟩
   rw[ah,show Item.lp m144k1 m144b1=Item.lp m144k1 b' by rw[hb']]
   apply ae;intro rhs hrhs
   simp(maxSteps:=4000000)(disch:=first|exact dz|fail)only[bB.u,seval,cut,m144b1,cN,gi,hlt,h1',h2']
   subst hrhs;rfl
  ·rw[if_neg (by omega)]
   refine key _ ?_
   have h2':(f==0)=false:=by simp[←UInt8.toNat_inj,h2]
   unfold ij
   obtain⟨b',hb'⟩:∃b',b'=m144b1:=⟨_,rfl⟩
   rw[ah,show Item.lp m144k1 m144b1=Item.lp m144k1 b' by rw[hb']]
   apply ae;intro rhs hrhs
   simp(maxSteps:=4000000)(disch:=first|exact dz|fail)only[bB.u,seval,cut,m144b1,cN,gi,hlt,h1',h2']
   subst hrhs;rfl
def bm:MCode:=(.seq (sq [qa 74 4,qa 75 0,qj 76 75,qE 77 .geq 74 76] (.cond (.v 77) (sq [qi 78 5 2,qg 5 2 78,qe 3 0,qe 4 0,qe 5 20] .ret) .skip)) (sq [qa 79 0,qa 80 4,oT 81 (.iad 1 (.t 79) (.t 80)),qc 82 81,oT 83 (.conv .i64 (.t 82)),qb 7 83] (sq [qa 84 4,qx 85 .add 84 1,qb 4 85] (.seq (.block 3 (sq [qa 87 7,qx 88 .lss 87 128,qb 86 88] (.cond (.v 86) (sq [qi 89 5 2,qa 90 7,qa 91 4,qg 5 2 89,qb 3 90,qb 4 91,qe 5 0] .ret) (sq [qa 93 7,qx 94 .eql 93 128,qf 95 94,qL 96 7 95,qW 97 .gtr 96 132 95,qo 98 95 97,qb 92 98] (.cond (.v 92) (sq [qi 99 5 2,qg 5 2 99,qe 3 0,qe 4 0,qe 5 22] .ret) (sq [qa 101 4,qa 102 7,qB 103 .add 101 102,qx 104 .sub 103 128,qa 105 0,qj 106 105,qB 107 .gtr 104 106,qb 100 107] (.cond (.v 100) (sq [qi 108 5 2,qg 5 2 108,qe 3 0,qe 4 0,qe 5 20] .ret) .skip))))))) (sq [qa 109 0,qa 110 4,oT 111 (.iad 1 (.t 109) (.t 110)),qc 112 111,qb 8 112] (.seq (sq [qa 113 7,qC 114 .sub 113 128,qe 115 0] (.block 4 (.loop m144k1 m144b1))) (.seq (sq [qa 128 3,qx 129 .lss 128 128,qf 130 129,qL 131 8 130,gF 132 (.bin .eql (.t 131) (qu 0)) 130,qq 133 130 132] (.cond (.v 133) (sq [qi 134 5 2,qg 5 2 134,qe 3 0,qe 4 0,qe 5 22] .ret) .skip)) (sq [qi 135 5 2,qa 136 3,qa 137 4,qg 5 2 135,qb 3 136,qb 4 137,qe 5 0] .ret))))))))
theorem vr:m144=⟨1,[.byt],[(2,some (true,5),.other),(3,none,.other),(4,none,.other),(5,none,.other)],
 .seq (.rg [oV 2 (.alloc [.int .i64 0,.int .i64 0,.bool false,.nilsl,.nilsl]),
  oV 3 (.mv (.c (.int .i64 0))),
  oV 4 (.mv (.c (.int .i64 0))),
  oV 5 (.mv (.c (.int .i64 0)))])
 (.seq (.seq (.rg [oT 9 (.mv (.v 0)),
  oT 10 (.len false (.t 9)),
  oV 11 (.bin .eql (.t 10) (.c (.int .i64 0)))])
  (.cond (.v 11) (.seq (.rg [oT 12 (.load true 5 (.v 2)),
  oN (.store 5 (.v 2) (.t 12)),
  oV 3 (.mv (.c (.int .i64 0))),
  oV 4 (.mv (.c (.int .i64 0))),
  oV 5 (.mv (.c (.int .i64 20)))])
  (.ret))
  (.skip)))
  (.seq (.rgd [oT 13 (.mv (.v 0)),
  oT 14 (.iad 1 (.t 13) (.c (.int .i64 0))),
  oT 15 (.load false 1 (.t 14)),
  oT 16 (.bin .shr (.t 15) (.c (.int .u64 6))),
  oT 17 (.conv .i64 (.t 16)),
  oT 18 (.mv (.v 0)),
  oT 19 (.iad 1 (.t 18) (.c (.int .i64 0))),
  oT 20 (.load false 1 (.t 19)),
  oT 21 (.bin .and (.t 20) (.c (.int .u8 31))),
  oT 22 (.conv .i64 (.t 21)),
  oT 23 (.mv (.v 0)),
  oT 24 (.iad 1 (.t 23) (.c (.int .i64 0))),
  oT 25 (.load false 1 (.t 24)),
  oT 26 (.bin .and (.t 25) (.c (.int .u8 32))),
  oT 27 (.bin .neq (.t 26) (.c (.int .u8 0))),
  oT 28 (.build [.int .i64 0,.int .i64 0,.bool false,.nilsl,.nilsl] [(0,1,.t 17),(1,1,.t 22),(2,1,.t 27)]),
  oN (.store 5 (.v 2) (.t 28))]
  (bn [[],[0],[1],[2],[3],[],[5],[6],[7],[8],[],[10],[11],[12],[13],[4,9,14],[15]]))
  (.seq (.rg [oV 4 (.mv (.c (.int .i64 1)))])
  (.seq (.seq (.rg [oT 29 (.fad 1 (.v 2)),
  oT 30 (.load false 1 (.t 29)),
  oV 31 (.bin .eql (.t 30) (.c (.int .i64 31)))])
  (.cond (.v 31) (.seq (.rg [oT 32 (.fad 1 (.v 2)),
  oN (.store 1 (.t 32) (.c (.int .i64 0)))])
  (.seq (.seq (.rg [oV 6 (.mv (.c (.bool true)))])
  (.block 0 (.loop m144k0 m144b0)))
  (.seq (.rg [oT 70 (.fad 1 (.v 2)),
  oT 71 (.load false 1 (.t 70)),
  oV 72 (.bin .lss (.t 71) (.c (.int .i64 31)))])
  (.cond (.v 72) (.seq (.rg [oT 73 (.load true 5 (.v 2)),
  oN (.store 5 (.v 2) (.t 73)),
  oV 3 (.mv (.c (.int .i64 0))),
  oV 4 (.mv (.c (.int .i64 0))),
  oV 5 (.mv (.c (.int .i64 21)))])
  (.ret))
  (.skip)))))
  (.skip)))
  (bm))))),none⟩:=rfl
theorem GY (b:List UInt8) (c t:Int) (m x:Bool) (O':List (Nat × Obj)) (hb:b.length<2^40):HO (iF b c t m (1)) (am cN (Run Q [.code bm] ⟨[(31,.bool false),(4,.int .i64 1),(11,.bool x),(5,.int .i64 0),(4,.int .i64 0),(3,.int .i64 0),(2,.ptr 1 0),(0,.bs b)],[],(1,.cells [.int .i64 c,.int .i64 t,.bool m,.nilsl,.nilsl])::O',113⟩)):=by
 unfold iF cN
 by_cases h1:b.length≤1
 ·rw[if_pos h1]
  have h1':decide ((b.length:Int)≤1)=true:=by simp;omega
  refine⟨c,t,m,?_⟩
  apply ae;intro rhs hrhs
  simp(maxSteps:=4000000)(disch:=first|exact dz|fail)only[bB.u,seval,cut,bm,h1',bq]
  repeat'((with_reducible first|refine sp ?_ ?_|fail)<;>intro hx<;>(try simp only[bI.u]at hx)<;>(first|exact xz|(try simp(maxSteps:=4000000)(disch:=first|exact dz|fail)only[bB.u,seval,cut,hx,bm,h1',bq])))
  all_goals first|exact xz|(subst hrhs;rfl)
 rw[if_neg h1]
 have h1':decide ((b.length:Int)≤1)=false:=by simp;omega
 have h1n:1<b.length:=by omega
 have hlt0:=(g0 b (1)).toNat_lt
 by_cases h2:(g0 b (1)).toNat<128
 ·rw[if_pos h2]
  have h2':decide (((g0 b (1)).toNat:Int)<128)=true:=by simp;omega
  apply ae;intro rhs hrhs
  simp(maxSteps:=4000000)(disch:=first|exact dz|fail)only[bB.u,seval,cut,bm,h1',h2',h1n,bq]
  repeat'((with_reducible first|refine sp ?_ ?_|fail)<;>intro hx<;>(try simp only[bI.u]at hx)<;>(first|exact xz|(try simp(maxSteps:=4000000)(disch:=first|exact dz|fail)only[bB.u,seval,cut,hx,bm,h1',h2',h1n,bq])))
  all_goals first|exact xz|(subst hrhs;rfl)
 rw[if_neg h2]
 have h2':decide (((g0 b (1)).toNat:Int)<128)=false:=by simp;omega
 by_cases h3:(g0 b (1)).toNat=128∨132<(g0 b (1)).toNat
 ·rw[if_pos h3]
  refine⟨c,t,m,?_⟩
  apply ae;intro rhs hrhs
  simp(maxSteps:=4000000)(disch:=first|exact dz|fail)only[bB.u,seval,cut,bm,h1',h2',h1n,bq]
  repeat'((with_reducible first|refine sp ?_ ?_|fail)<;>intro hx<;>(try simp only[bI.u]at hx)<;>(first|exact xz|(try simp(maxSteps:=4000000)(disch:=first|exact dz|fail)only[bB.u,seval,cut,hx,bm,h1',h2',h1n,bq])))
  all_goals first|exact xz|(subst hrhs;rfl)
 rw[if_neg h3]
 have h3a:(((g0 b (1)).toNat:Int)==128)=false:=by simp;omega
 have h3b:decide (132<((g0 b (1)).toNat:Int))=false:=by simp;omega
 by_cases h4:b.length<1+1+((g0 b (1)).toNat-128)
 ·rw[if_pos h4]
  have h4':decide ((b.length:Int)<(1:Nat)+1+((g0 b (1)).toNat:Int)-128)=true:=by simp;omega
  refine⟨c,t,m,?_⟩
  apply ae;intro rhs hrhs
  simp(maxSteps:=4000000)(disch:=first|exact dz|fail)only[bB.u,seval,cut,bm,h1',h2',h3a,h3b,h4',h1n,bq]
  repeat'((with_reducible first|refine sp ?_ ?_|fail)<;>intro hx<;>(try simp only[bI.u]at hx)<;>(first|exact xz|(try simp(maxSteps:=4000000)(disch:=first|exact dz|fail)only[bB.u,seval,cut,hx,bm,h1',h2',h3a,h3b,h4',h1n,bq])))
  all_goals first|exact xz|(subst hrhs;rfl)
 rw[if_neg h4]
 have h4':decide ((b.length:Int)<(1:Nat)+1+((g0 b (1)).toNat:Int)-128)=false:=by simp;omega
 have h5:1+1<b.length:=by omega
 have h5':((1:Nat):Int)+1<(b.length:Int):=by omega
 obtain⟨k,hk⟩:∃k,(g0 b (1)).toNat=128+k:=⟨(g0 b (1)).toNat-128,by omega⟩
 have hk1:((g0 b (1)).toNat:Int)-128=(k:Int):=by omega
 have hs:=Au b c t m (1+1) k (g0 b (1+1)) (by omega) hb (by omega)
 rw[show(g0 b (1)).toNat-128=k by omega]
 rw[show am [(2,some (true,5),PK.other),(3,none,PK.other),(4,none,PK.other),(5,none,PK.other)] (Run Q [.code bm] ⟨[(31,.bool false),(4,.int .i64 1),(11,.bool x),(5,.int .i64 0),(4,.int .i64 0),(3,.int .i64 0),(2,.ptr 1 0),(0,.bs b)],[],(1,.cells [.int .i64 c,.int .i64 t,.bool m,.nilsl,.nilsl])::O',113⟩)=am cN (RunL Q m144k1 m144b1 [.blk 4,.code gi] (ij b c t m 0 ((1+1:Nat):Int) ((g0 b (1+1)).toNat:Int) k 0))from ?_]
 ·exact hs
 have en:((1:Nat):Int)+1=((1+1:Nat):Int):=by omega
 have etn:((1+1:Nat):Int).toNat=1+1:=by omega
 apply ae;intro rhs hrhs
 simp(maxSteps:=4000000)(disch:=first|exact dz|fail)only[bB.u,seval,cut,bm,h1',h2',h3a,h3b,h4',h5,h5',h1n,bq,hk1,aq]
 repeat'((with_reducible first|refine sp ?_ ?_|fail)<;>intro hx<;>(try simp only[bI.u]at hx)<;>(first|exact xz|(try simp(maxSteps:=4000000)(disch:=first|exact dz|fail)only[bB.u,seval,cut,hx,bm,h1',h2',h3a,h3b,h4',h5,h5',h1n,bq,hk1,aq])))
 all_goals first|exact xz|(subst hrhs;exact congrArg (am cN) (af (canon_cong kr kr kr)))
def Av:MCode:=(sq [qd 70 1 2,qc 71 70,qC 72 .lss 71 31] (.cond (.v 72) (sq [qi 73 5 2,qg 5 2 73,qe 3 0,qe 4 0,qe 5 21] .ret) .skip))
def il (b:List UInt8) (c t:Int) (m:Bool) (i:Nat) (more:Bool):DS:=⟨[(0,.bs b),(2,.ptr 0 0),(3,.int .i64 0),(4,.int .i64 i),(6,.bool more)],[],[(0,.cells [.int .i64 c,.int .i64 t,.bool m,.nilsl,.nilsl])],2⟩
def rI (c t:Int) (m:Bool) (e:Int):Option MV:=some (.tup [.agg [.int .i64 c,.int .i64 t,.bool m,.nilsl,.nilsl],.int .i64 0,.int .i64 0,.int .i64 e])
theorem yR (b:List UInt8) (c:Int) (m:Bool) (K:List Item) (i tg:Nat) (h0:1≤i) (h4:i≤4) (ht:tg<1073741824) (hb:b.length<2^40):am cN (RunL Q m144k0 m144b0 K (il b c tg m i true)) =
  if b.length≤i then rI c tg m 20 else if i=1∧(g0 b i).toNat=128∨i=4 then rI c tg m 21
  else am cN (RunL Q m144k0 m144b0 K (il b c ((tg*128+(g0 b i).toNat%128:Nat):Int) m (i+1) (decide (128≤(g0 b i).toNat)))):=by
 by_cases h1:b.length≤i
 ·rw[if_pos h1]
  have h1':decide ((b.length:Int)≤(i:Int))=true:=by simp;omega
  unfold il rI
  obtain⟨b',hb'⟩:∃b',b'=m144b0:=⟨_,rfl⟩
  rw[ah,show Item.lp m144k0 m144b0=Item.lp m144k0 b' by rw[hb']]
  apply ae;intro rhs hrhs
  simp(maxSteps:=4000000)(disch:=first|exact dz|fail)only[bB.u,seval,cut,m144b0,cN,h1']
  repeat'((with_reducible first|refine sp ?_ ?_|fail)<;>intro hx<;>(try simp only[bI.u]at hx)<;>(first|exact xz|(try simp(maxSteps:=4000000)(disch:=first|exact dz|fail)only[bB.u,seval,cut,hx,m144b0,cN,h1'])))
  all_goals first|exact xz|(subst hrhs;rfl)
 rw[if_neg h1]
 have h1':decide ((b.length:Int)≤(i:Int))=false:=by simp;omega
 have h1n:i<b.length:=by omega
 have hi1:1<b.length:=by omega
 by_cases h2:i=1∧(g0 b i).toNat=128
 ·rw[if_pos (.inl h2)]
  obtain⟨rfl,h2⟩:=h2
  have h2':(((g0 b 1).toNat:Int)==128)=true:=by simp;omega
  unfold il rI
  obtain⟨b',hb'⟩:∃b',b'=m144b0:=⟨_,rfl⟩
  rw[ah,show Item.lp m144k0 m144b0=Item.lp m144k0 b' by rw[hb']]
  apply ae;intro rhs hrhs
  simp(maxSteps:=4000000)(disch:=first|exact dz|fail)only[bB.u,seval,cut,m144b0,cN,h1',bq,h2']
  repeat'((with_reducible first|refine sp ?_ ?_|fail)<;>intro hx<;>(try simp only[bI.u]at hx)<;>(first|exact xz|(try simp(maxSteps:=4000000)(disch:=first|exact dz|fail)only[bB.u,seval,cut,hx,m144b0,cN,h1',bq,h2'])))
  all_goals first|exact xz|(subst hrhs;rfl)
 by_cases h3:i=4
 ·rw[if_pos (.inr h3)]
  subst h3
  unfold il rI
  obtain⟨b',hb'⟩:∃b',b'=m144b0:=⟨_,rfl⟩
  rw[ah,show Item.lp m144k0 m144b0=Item.lp m144k0 b' by rw[hb']]
  apply ae;intro rhs hrhs
  simp(maxSteps:=4000000)(disch:=first|exact dz|fail)only[bB.u,seval,cut,m144b0,cN,h1',bq]
  repeat'((with_reducible first|refine sp ?_ ?_|fail)<;>intro hx<;>(try simp only[bI.u]at hx)<;>(first|exact xz|(try simp(maxSteps:=4000000)(disch:=first|exact dz|fail)only[bB.u,seval,cut,hx,m144b0,cN,h1',bq])))
  all_goals first|exact xz|(subst hrhs;rfl)
 rw[if_neg (by rintro(h|h);exact h2 h;exact h3 h)]
 have h3':((i:Int)==4)=false:=by simp;omega
 have hx:=(g0 b i).toNat_lt
 have e1:((tg*128+(g0 b i).toNat%128:Nat):Int)=(tg:Int)*128+((g0 b i).toNat:Int)%128:=by omega
 have e2:((i+1:Nat):Int)=(i:Int)+1:=by omega
 have e3:decide (128≤(g0 b i).toNat)=decide (128≤((g0 b i).toNat:Int)):=by
  rw[Bool.eq_iff_iff];simp<;>omega
 unfold il
 rw[e1,e2,e3]
 by_cases h5:i=1
 ·subst h5
  have h2':(((g0 b 1).toNat:Int)==128)=false:=by simp;omega
  obtain⟨b',hb'⟩:∃b',b'=m144b0:=⟨_,rfl⟩
  rw[ah,show Item.lp m144k0 m144b0=Item.lp m144k0 b' by rw[hb']]
  apply ae;intro rhs hrhs
  simp(maxSteps:=4000000)(disch:=first|exact dz|fail)only[bB.u,seval,cut,m144b0,cN,h1',h2',bq,gg,ng,gh,if_true]
  repeat'((with_reducible first|refine sp ?_ ?_|fail)<;>intro hx<;>(try simp only[bI.u]at hx)<;>(first|exact xz|(try simp(maxSteps:=4000000)(disch:=first|exact dz|fail)only[bB.u,seval,cut,hx,m144b0,cN,h1',h2',bq,gg,ng,gh,if_true])))
  all_goals first|exact xz|(subst hrhs;(subst hb';refine(congrArg (am _) (aA Q _ _ _ _)).trans ?_;exact congrArg (am cN) (af (canon_cong kr kr kr))))
 ·have h2':((i:Int)==1)=false:=by simp;omega
  obtain⟨b',hb'⟩:∃b',b'=m144b0:=⟨_,rfl⟩
  rw[ah,show Item.lp m144k0 m144b0=Item.lp m144k0 b' by rw[hb']]
  apply ae;intro rhs hrhs
  simp(maxSteps:=4000000)(disch:=first|exact dz|fail)only[bB.u,seval,cut,m144b0,cN,h1',h2',h3',bq,gg,ng,gh,if_true]
  repeat'((with_reducible first|refine sp ?_ ?_|fail)<;>intro hx<;>(try simp only[bI.u]at hx)<;>(first|exact xz|(try simp(maxSteps:=4000000)(disch:=first|exact dz|fail)only[bB.u,seval,cut,hx,m144b0,cN,h1',h2',h3',bq,gg,ng,gh,if_true])))
  all_goals first|exact xz|(subst hrhs;(subst hb';refine(congrArg (am _) (aA Q _ _ _ _)).trans ?_;exact congrArg (am cN) (af (canon_cong kr kr kr))))
theorem GZ (b:List UInt8) (c t:Int) (m:Bool) (a:Nat) (ha:1≤a∧a≤4) (hb:b.length<2^40):HO (iF b c t m (a)) (am cN (Run Q [.code bm] ⟨[(72,.bool false),(33,.bool false),(0,.bs b),(2,.ptr 0 0),(3,.int .i64 0),(4,.int .i64 (a:Nat)),(6,.bool false)],[],[(0,.cells [.int .i64 c,.int .i64 t,.bool m,.nilsl,.nilsl])],18⟩)):=by
 unfold iF cN
 by_cases h1:b.length≤a
 ·rw[if_pos h1]
  have h1':decide ((b.length:Int)≤a)=true:=by simp;omega
  refine⟨c,t,m,?_⟩
  apply ae;intro rhs hrhs
  simp(maxSteps:=4000000)(disch:=first|exact dz|fail)only[bB.u,seval,cut,bm,h1',bq]
  repeat'((with_reducible first|refine sp ?_ ?_|fail)<;>intro hx<;>(try simp only[bI.u]at hx)<;>(first|exact xz|(try simp(maxSteps:=4000000)(disch:=first|exact dz|fail)only[bB.u,seval,cut,hx,bm,h1',bq])))
  all_goals first|exact xz|(subst hrhs;rfl)
 rw[if_neg h1]
 have h1':decide ((b.length:Int)≤a)=false:=by simp;omega
 have h1n:a<b.length:=by omega
 have hlt0:=(g0 b (a)).toNat_lt
 by_cases h2:(g0 b (a)).toNat<128
 ·rw[if_pos h2]
  have h2':decide (((g0 b (a)).toNat:Int)<128)=true:=by simp;omega
  apply ae;intro rhs hrhs
  simp(maxSteps:=4000000)(disch:=first|exact dz|fail)only[bB.u,seval,cut,bm,h1',h2',h1n,bq]
  repeat'((with_reducible first|refine sp ?_ ?_|fail)<;>intro hx<;>(try simp only[bI.u]at hx)<;>(first|exact xz|(try simp(maxSteps:=4000000)(disch:=first|exact dz|fail)only[bB.u,seval,cut,hx,bm,h1',h2',h1n,bq])))
  all_goals first|exact xz|(subst hrhs;rfl)
 rw[if_neg h2]
 have h2':decide (((g0 b (a)).toNat:Int)<128)=false:=by simp;omega
 by_cases h3:(g0 b (a)).toNat=128∨132<(g0 b (a)).toNat
 ·rw[if_pos h3]
  refine⟨c,t,m,?_⟩
  apply ae;intro rhs hrhs
  simp(maxSteps:=4000000)(disch:=first|exact dz|fail)only[bB.u,seval,cut,bm,h1',h2',h1n,bq]
  repeat'((with_reducible first|refine sp ?_ ?_|fail)<;>intro hx<;>(try simp only[bI.u]at hx)<;>(first|exact xz|(try simp(maxSteps:=4000000)(disch:=first|exact dz|fail)only[bB.u,seval,cut,hx,bm,h1',h2',h1n,bq])))
  all_goals first|exact xz|(subst hrhs;rfl)
 rw[if_neg h3]
 have h3a:(((g0 b (a)).toNat:Int)==128)=false:=by simp;omega
 have h3b:decide (132<((g0 b (a)).toNat:Int))=false:=by simp;omega
 by_cases h4:b.length<a+1+((g0 b (a)).toNat-128)
 ·rw[if_pos h4]
  have h4':decide ((b.length:Int)<(a:Nat)+1+((g0 b (a)).toNat:Int)-128)=true:=by simp;omega
  refine⟨c,t,m,?_⟩
  apply ae;intro rhs hrhs
  simp(maxSteps:=4000000)(disch:=first|exact dz|fail)only[bB.u,seval,cut,bm,h1',h2',h3a,h3b,h4',h1n,bq]
  repeat'((with_reducible first|refine sp ?_ ?_|fail)<;>intro hx<;>(try simp only[bI.u]at hx)<;>(first|exact xz|(try simp(maxSteps:=4000000)(disch:=first|exact dz|fail)only[bB.u,seval,cut,hx,bm,h1',h2',h3a,h3b,h4',h1n,bq])))
  all_goals first|exact xz|(subst hrhs;rfl)
 rw[if_neg h4]
 have h4':decide ((b.length:Int)<(a:Nat)+1+((g0 b (a)).toNat:Int)-128)=false:=by simp;omega
 have h5:a+1<b.length:=by omega
 have h5':((a:Nat):Int)+1<(b.length:Int):=by omega
 obtain⟨k,hk⟩:∃k,(g0 b (a)).toNat=128+k:=⟨(g0 b (a)).toNat-128,by omega⟩
 have hk1:((g0 b (a)).toNat:Int)-128=(k:Int):=by omega
 have hs:=Au b c t m (a+1) k (g0 b (a+1)) (by omega) hb (by omega)
 rw[show(g0 b (a)).toNat-128=k by omega]
 rw[show am [(2,some (true,5),PK.other),(3,none,PK.other),(4,none,PK.other),(5,none,PK.other)] (Run Q [.code bm] ⟨[(72,.bool false),(33,.bool false),(0,.bs b),(2,.ptr 0 0),(3,.int .i64 0),(4,.int .i64 (a:Nat)),(6,.bool false)],[],[(0,.cells [.int .i64 c,.int .i64 t,.bool m,.nilsl,.nilsl])],18⟩)=am cN (RunL Q m144k1 m144b1 [.blk 4,.code gi] (ij b c t m 0 ((a+1:Nat):Int) ((g0 b (a+1)).toNat:Int) k 0))from ?_]
 ·exact hs
 have en:((a:Nat):Int)+1=((a+1:Nat):Int):=by omega
 have etn:((a+1:Nat):Int).toNat=a+1:=by omega
 apply ae;intro rhs hrhs
 simp(maxSteps:=4000000)(disch:=first|exact dz|fail)only[bB.u,seval,cut,bm,h1',h2',h3a,h3b,h4',h5,h5',h1n,bq,hk1,aq]
 repeat'((with_reducible first|refine sp ?_ ?_|fail)<;>intro hx<;>(try simp only[bI.u]at hx)<;>(first|exact xz|(try simp(maxSteps:=4000000)(disch:=first|exact dz|fail)only[bB.u,seval,cut,hx,bm,h1',h2',h3a,h3b,h4',h5,h5',h1n,bq,hk1,aq])))
 all_goals first|exact xz|(subst hrhs;exact congrArg (am cN) (af (canon_cong kr kr kr)))
theorem vt (b:List UInt8) (c:Int) (t:Nat) (m:Bool) (a:Nat) (ha:1≤a∧a≤4) (hb:b.length<2^40):HO (ni b c t m a) (am cN (RunL Q m144k0 m144b0 [.blk 0,.code Av,.code bm] (il b c t m a false))):=by
 unfold ni
 by_cases h:(t:Int)<31
 ·rw[if_pos h]
  refine⟨c,t,m,?_⟩
  have h':decide ((t:Int)<31)=true:=by simpa using h
  unfold il
  obtain⟨b',hb'⟩:∃b',b'=m144b0:=⟨_,rfl⟩
  rw[ah,show Item.lp m144k0 m144b0=Item.lp m144k0 b' by rw[hb']]
  apply ae;intro rhs hrhs
  simp(maxSteps:=4000000)(disch:=first|exact dz|fail)only[bB.u,seval,cut,m144b0,cN,Av,h']
  subst hrhs;rfl
 rw[if_neg h]
 have h':decide ((t:Int)<31)=false:=by simpa using h
 have hl:=GZ b c t m a ha hb
 refine Eq.mp (congrArg (HO _) ?_) hl
 unfold il
 refine Eq.symm ?_
 obtain⟨b',hb'⟩:∃b',b'=m144b0:=⟨_,rfl⟩
 rw[ah,show Item.lp m144k0 m144b0=Item.lp m144k0 b' by rw[hb']]
 apply ae;intro rhs hrhs
 simp(maxSteps:=4000000)(disch:=first|exact dz|fail)only[bB.u,seval,cut,m144b0,cN,Av,h']
 subst hrhs;rfl
theorem iY (c t:Int) (m:Bool) (e:Int):HO (.er e) (rI c t m e):=⟨c,t,m,rfl⟩
theorem ID (b:List UInt8) (c:Int) (m:Bool) (hb:b.length<2^40):HO (vq b c m) (am cN (RunL Q m144k0 m144b0 [.blk 0,.code Av,.code bm] (il b c 0 m 1 true))):=by
 have x1:=(g0 b 1).toNat_lt
 have x2:=(g0 b 2).toNat_lt
 have x3:=(g0 b 3).toNat_lt
 have s1:=yR b c m [.blk 0,.code Av,.code bm] 1 0 (by omega) (by omega) (by omega) hb
 rw[show((0:Nat):Int)=0 from rfl]at s1
 rw[s1]
 unfold vq
 by_cases h1:b.length≤1
 ·rw[if_pos h1,if_pos h1];exact iY _ _ _ _
 rw[if_neg h1,if_neg h1]
 by_cases h2:(g0 b 1).toNat=128
 ·rw[if_pos h2,if_pos (.inl ⟨rfl,h2⟩)];exact iY _ _ _ _
 rw[if_neg h2,if_neg (show ¬(1=1∧(g0 b 1).toNat=128∨1=4) by omega)]
 by_cases h3:(g0 b 1).toNat<128
 ·rw[if_pos h3,show decide (128≤(g0 b 1).toNat)=false by simp;omega,show 0*128+(g0 b 1).toNat%128=(g0 b 1).toNat by omega]
  exact vt b c _ m 2 (by omega) hb
 rw[if_neg h3,show decide (128≤(g0 b 1).toNat)=true by simp;omega,yR b c m _ 2 _ (by omega) (by omega) (by omega) hb]
 by_cases h4:b.length≤2
 ·rw[if_pos h4,if_pos h4];exact iY _ _ _ _
 rw[if_neg h4,if_neg h4,if_neg (show ¬(2=1∧(g0 b 2).toNat=128∨2=4) by omega)]
 by_cases h5:(g0 b 2).toNat<128
 ·rw[if_pos h5,show decide (128≤(g0 b 2).toNat)=false by simp;omega]
  rw[show((((g0 b 1).toNat:Int)-128)*128+((g0 b 2).toNat:Int))=(((0*128+(g0 b 1).toNat%128)*128+(g0 b 2).toNat%128:Nat):Int) by omega]
  exact vt b c _ m 3 (by omega) hb
 rw[if_neg h5,show decide (128≤(g0 b 2).toNat)=true by simp;omega,yR b c m _ 3 _ (by omega) (by omega) (by omega) hb]
 by_cases h6:b.length≤3
 ·rw[if_pos h6,if_pos h6];exact iY _ _ _ _
 rw[if_neg h6,if_neg h6,if_neg (show ¬(3=1∧(g0 b 3).toNat=128∨3=4) by omega)]
 by_cases h7:(g0 b 3).toNat<128
 ·rw[if_pos h7,show decide (128≤(g0 b 3).toNat)=false by simp;omega]
  rw[show((((g0 b 1).toNat:Int)-128)*128+(((g0 b 2).toNat:Int)-128))*128+((g0 b 3).toNat:Int)=((((0*128+(g0 b 1).toNat%128)*128+(g0 b 2).toNat%128)*128+(g0 b 3).toNat%128:Nat):Int) by omega]
  exact vt b c _ m 4 (by omega) hb
 rw[if_neg h7,show decide (128≤(g0 b 3).toNat)=true by simp;omega,yR b c m _ 4 _ (by omega) (by omega) (by omega) hb]
 by_cases h8:b.length≤4
 ·rw[if_pos h8,if_pos h8];exact iY _ _ _ _
 ·rw[if_neg h8,if_neg h8,if_pos (.inr rfl)];exact iY _ _ _ _
theorem G0 (b:List UInt8) (hb:b.length<2^40):HO (ii b) (Call Q 144 [.bs b]):=by
 unfold ii
 by_cases h0:b.length≤0
 ·rw[if_pos h0]
  have h0':((b.length:Int)==0)=true:=by rw[beq_iff_eq];omega
  refine⟨0,0,false,?_⟩
  rw[Call_fn Q (m:=m144) rfl rfl,vr]
  apply ae;intro rhs hrhs
  simp(maxSteps:=4000000)(disch:=first|exact dz|fail)only[bB.u,seval,cut,h0']
  subst hrhs;rfl
 rw[if_neg h0]
 have h0':((b.length:Int)==0)=false:=by rw[beq_eq_false_iff_ne];omega
 have h0n:0<b.length:=by omega
 have hmad:(!(g0 b 0&&&32==0))=mad (g0 b 0):=rfl
 have cl6b:IntKind.i64.wrap (((g0 b 0>>>6:UInt8)).toNat:Int)=cls (g0 b 0):=GX (g0 b 0)
 have hcls:((g0 b 0).toNat:Int)/64=cls (g0 b 0):=rfl
 have hw:=(g0 b 0).toNat_lt
 by_cases h:(g0 b 0).toNat%32=31
 ·rw[if_pos h]
  have h':(((g0 b 0).toNat:Int)%32==31)=true:=by simp;omega
  refine Eq.mp (congrArg (HO _) ?_) (ID b (cls (g0 b 0)) (mad (g0 b 0)) hb)
  refine Eq.symm ?_
  rw[Call_fn Q (m:=m144) rfl rfl,vr]
  apply ae;intro rhs hrhs
  simp(maxSteps:=4000000)(disch:=first|exact dz|fail)only[bB.u,seval,cut,bq,xM,xN,h0',h',aq,GX,cl6b,hcls,hmad]
  subst hrhs;exact congrArg (am cN) (af (canon_cong kr kr kr))
 rw[if_neg h]
 have h':(((g0 b 0).toNat:Int)%32==31)=false:=by simp;omega
 have hl:=GY b (cls (g0 b 0)) ((g0 b 0).toNat%32:Nat) (mad (g0 b 0)) false [(1,.cells [.int .i64 0,.int .i64 0,.bool false,.nilsl,.nilsl])] hb
 refine Eq.mp (congrArg (HO _) ?_) hl
 refine Eq.symm ?_
 rw[Call_fn Q (m:=m144) rfl rfl,vr]
 apply ae;intro rhs hrhs
 simp(maxSteps:=4000000)(disch:=first|exact dz|fail)only[bB.u,seval,cut,bq,xM,xN,h0',h',GX,cl6b,hcls,hmad]
 subst hrhs;rfl
mutual
def av:T→MV
 | .mk c t m b ks=>.agg [.int .i64 c,.int .i64 t,.bool m,if m then .nilsl else .bs b,match ks with| []=>.nilsl|k::r=>.sl 5 (av k::kw r)]
def kw:List T→List MV
 | []=>[]
 |k::r=>av k::kw r
end
def dm (ks:List T):MV:=match ks with| []=>.nilsl|k::r=>.sl 5 (kw (k::r))
theorem aX (c t:Int) (m:Bool) (b:List UInt8) (ks:List T):av (.mk c t m b ks)= .agg [.int .i64 c,.int .i64 t,.bool m,if m then .nilsl else .bs b,dm ks]:=by
 cases ks<;>rw[av]<;>rfl
theorem jl:∀ks,kw ks=ks.map av
 | []=>rfl
 |k::r=>by rw[kw,jl r];rfl
inductive RR where
 |er (e:Int)
 |ok (t:T) (n:Nat)
inductive KR where
 |er (e:Int)
 |ok (ks:List T) (ps:List (List UInt8))
def KR.cons (k:T) (p:List UInt8):KR→KR
 | .er e=>.er e
 | .ok ks ps=>.ok (k::ks) (p::ps)
def gj (R:List UInt8→RR):Nat→List UInt8→KR
 | 0,_=>.ok [] []
 |g+1,body=>if body.length=0 then .ok [] []else match R body with
  | .er e=>.er e
  | .ok k n=>(gj R g (body.drop n)).cons k (body.take n)
def vu (c t:Int) (n a:Nat):KR→RR
 | .er e=>.er e
 | .ok ks ps=>if c=0∧t=17∧bP ps=false then .er 25 else .ok (.mk c t true [] ks) (a+n)
def rd:Nat→List UInt8→RR
 | 0,_=>.er 23
 |f+1,b=>match ii b with
  | .er e=>.er e
  | .ok c t m n a=>if b.length<a+n then .er 20
   else if m=false then(if aR c t false ((b.drop a).take n)≠0 then .er (aR c t false ((b.drop a).take n))else .ok (.mk c t false ((b.drop a).take n) []) (a+n))
   else if aR c t true []≠0 then .er (aR c t true [])
   else vu c t n a (gj (rd f) n ((b.drop a).take n))
def aB:List MV:=[.int .i64 0,.int .i64 0,.bool false,.nilsl,.nilsl]
def dp:RR→MV
 | .er e=>.tup [.agg aB,.int .i64 0,.int .i64 e]
 | .ok t n=>.tup [av t,.int .i64 n,.int .i64 0]
def RR.go (r:RR) (F:T→Nat→Option MV):Option MV:=match r with
 | .er e=>some (dp (.er e))
 | .ok k m=>F k m
theorem CF (l:List UInt8):aU l<256^l.length:=by
 have:∀(l:List UInt8) (s:Nat),l.foldl (fun n c=>n*256+c.toNat) s<(s+1)*256^l.length:=by
  intro l
  induction l with
  |nil=>intro s;simp
  |cons x r ih=>
   intro s
   have hx:=x.toNat_lt
   simp only[List.foldl_cons,List.length_cons]
   refine Nat.lt_of_lt_of_le (ih _) ?_
   rw[Nat.pow_succ,Nat.mul_comm (256^r.length),←Nat.mul_assoc]
   exact Nat.mul_le_mul_right _ (by omega)
 have h:=this l 0
 unfold aU
 omega
theorem xO {b:List UInt8} {c t:Int} {m:Bool} {i:Nat} {c' t':Int} {m':Bool} {n a:Nat} (h:iF b c t m i= .ok c' t' m' n a):i<a∧a≤b.length∧n<1099511627776∧c'=c∧m'=m∧t'=t:=by
 unfold iF at h
 have hx:=(g0 b i).toNat_lt
 have hs:aU ((b.drop (i+1)).take ((g0 b i).toNat-128))<256^((b.drop (i+1)).take ((g0 b i).toNat-128)).length:=CF _
 split at h
 ·cases h
 ·split at h
  ·cases h;exact⟨by omega,by omega,by omega,rfl,rfl,rfl⟩
  ·split at h
   ·cases h
   ·split at h
    ·cases h
    ·split at h
     ·cases h
     ·cases h
      have h4:256^((b.drop (i+1)).take ((g0 b i).toNat-128)).length≤256^4:=Nat.pow_le_pow_right (by omega) (by rw[List.length_take];omega)
      have:(256:Nat)^4=4294967296:=by decide
      exact⟨by omega,by omega,by omega,rfl,rfl,rfl⟩
theorem E5 {b:List UInt8} {c t:Int} {m:Bool} {i:Nat} {c' t':Int} {m':Bool} {n a:Nat} (h:ni b c t m i= .ok c' t' m' n a):i<a∧a≤b.length∧n<1099511627776∧c'=c∧m'=m∧31≤t'∧t'=t:=by
 unfold ni at h
 split at h
 ·cases h
 ·obtain⟨h1,h2,h3,h4,h5,h6⟩:=xO h
  exact⟨h1,h2,h3,h4,h5,by omega,h6⟩
theorem vv {b:List UInt8} {c t:Int} {m:Bool} {n a:Nat} (h:ii b= .ok c t m n a):1<a∧a≤b.length∧n<1099511627776∧c=cls (g0 b 0)∧m=mad (g0 b 0):=by
 unfold ii at h
 split at h
 ·cases h
 split at h
 ·unfold vq at h
  repeat' split at h
  all_goals first|cases h|(have:=E5 h;exact⟨by omega,by omega,by omega,this.2.2.2.1,this.2.2.2.2.1⟩)
 ·have:=xO h
  exact⟨by omega,by omega,by omega,this.2.2.2.1,this.2.2.2.2.1⟩
theorem pQ:∀ {f:Nat} {b:List UInt8} {t:T} {n:Nat},rd f b= .ok t n→1≤n∧n≤b.length
 | 0,b,t,n,h=>by rw[rd]at h;cases h
 |f+1,b,t,n,h=>by
  rw[rd]at h
  split at h
  ·cases h
  ·rename_i c t' m n' a hh
   have:=vv hh
   split at h
   ·cases h
   split at h
   ·split at h
    ·cases h
    ·cases h;omega
   split at h
   ·cases h
   ·unfold vu at h
    split at h
    ·cases h
    ·split at h
     ·cases h
     ·cases h;omega
def fA:List (Nat × Option (Bool × Nat) × PK):=[(4,some (true,5),.other),(5,none,.other),(6,none,.other)]
def eu:MCode:=(.seq (sq [qd 96 0 7,qc 97 96,qx 98 .eql 97 0,qf 99 98,qR 100 1 7 99,qP 101 100 99,qV 102 .eql 101 17 99,qp 103 99 102,qf 104 103,qM 105 13 104,gT 106 (.call 146 [.t 105]) 104,gT 107 (.un .not (.t 106)) 104,qr 108 104 107] (.cond (.v 108) (sq [oT 109 (.build az []),qg 5 4 109,qe 5 0,qe 6 25] .ret) .skip)) (sq [qi 110 5 7,qa 111 9,qa 112 8,qB 113 .add 111 112,qg 5 4 110,qb 5 113,qe 6 0] .ret))
def lF (c t:Int) (d:Int) (n a:Nat) (body:List UInt8):DS:=⟨[(1,.int .i64 d),(4,.ptr 0 0),(7,.ptr 1 0),(8,.int .i64 n),(9,.int .i64 a),(11,.bs body),(13,.own 3 0)],[],[(0,.cells aB),(1,.cells [.int .i64 c,.int .i64 t,.bool true,.nilsl,.nilsl]),(3,.el 1 [] false)],4⟩
def iG (c t:Int) (d:Int) (n a:Nat) (body:List UInt8) (i:Nat) (kids parts:List MV):DS:=⟨[(1,.int .i64 d),(4,.ptr 0 0),(7,.ptr 1 0),(8,.int .i64 n),(9,.int .i64 a),(11,.bs body),(13,.own 2 i)],[],[(0,.cells aB),(1,.cells [.int .i64 c,.int .i64 t,.bool true,.nilsl,.own 3 i]),(2,.el 1 parts false),(3,.el 5 kids false)],5⟩
theorem E6 (K:List Item) (c t:Int) (d:Nat) (hd:d≤16) (n a:Nat) (body:List UInt8) (hb:0<body.length) (r:RR)
  (hr:Call Q 110 [.bs body,.int .i64 ((d:Int)+1)]=some (dp r)) (hrn:∀k m,r= .ok k m→1≤m∧m≤body.length) (hre:∀e,r= .er e→e≠0):
  am fA (RunL Q m110k0 m110b0 K (lF c t d n a body))=r.go fun k m=>if m=0 then none else am fA (RunL Q m110k0 m110b0 K (iG c t d n a (body.drop m) (0+1) ([]++[av k]) ([]++[.bs (body.take m)]))):=by
 have hlt:decide (0<(body.length:Int))=true:=by simp;omega
 cases r with
 |er e=>
  have he:=hre e rfl
  have he':(e==0)=false:=by simpa using he
  simp only[RR.go,dp,aB]at hr ⊢
  unfold lF aB
  obtain⟨b',hb'⟩:∃b',b'=m110b0:=⟨_,rfl⟩
  rw[ah,show Item.lp m110k0 m110b0=Item.lp m110k0 b' by rw[hb']]
  apply ae;intro rhs hrhs
  simp(maxSteps:=4000000)(disch:=first|exact dz|fail)only[bB.u,seval,cut,m110b0,fA,hlt,hr,he']
  subst hrhs;rfl
 |ok k m=>
  obtain⟨c',t',m',b',ks'⟩:=k
  obtain⟨h1,h2⟩:=hrn _ _ rfl
  have hk:dm ks'= .nilsl∨∃l,dm ks'= .sl 5 l:=by cases ks'<;>simp[dm]
  simp only[RR.go,dp,aX]at hr ⊢
  rw[if_neg (by omega)]
  have hdr:(body.drop m).take (body.length-m)=body.drop m:=List.take_of_length_le (by simp)
  unfold lF iG aB
  rcases hk with hk|⟨l,hk⟩<;>cases m'<;>simp only[hk,if_true,if_false,Bool.false_eq_true]at hr ⊢
  all_goals(
  obtain⟨b',hb'⟩:∃b',b'=m110b0:=⟨_,rfl⟩
  rw[ah,show Item.lp m110k0 m110b0=Item.lp m110k0 b' by rw[hb']]
  apply ae;intro rhs hrhs
  simp(maxSteps:=4000000)(disch:=first|exact dz|fail)only[bB.u,seval,cut,m110b0,fA,hlt,hr,hdr]
  subst hrhs;first|rfl|(subst hb';refine(congrArg (am _) (aA Q _ _ _ _)).trans ?_;exact congrArg (am fA) (af (canon_cong kr kr kr))))
theorem E7 (K:List Item) (c t:Int) (d:Nat) (hd:d≤16) (n a:Nat) (body:List UInt8) (i:Nat) (kids parts:List MV) (hi:i≤2^31) (hk0:kids.length=i) (hp0:parts.length=i) (hb:0<body.length) (r:RR)
  (hr:Call Q 110 [.bs body,.int .i64 ((d:Int)+1)]=some (dp r)) (hrn:∀k m,r= .ok k m→1≤m∧m≤body.length) (hre:∀e,r= .er e→e≠0):
  am fA (RunL Q m110k0 m110b0 K (iG c t d n a body i kids parts))=r.go fun k m=>if m=0 then none else am fA (RunL Q m110k0 m110b0 K (iG c t d n a (body.drop m) (i+1) (kids++[av k]) (parts++[.bs (body.take m)]))):=by
 have hlt:decide (0<(body.length:Int))=true:=by simp;omega
 cases r with
 |er e=>
  have he:=hre e rfl
  have he':(e==0)=false:=by simpa using he
  simp only[RR.go,dp,aB]at hr ⊢
  unfold iG aB
  obtain⟨b',hb'⟩:∃b',b'=m110b0:=⟨_,rfl⟩
  rw[ah,show Item.lp m110k0 m110b0=Item.lp m110k0 b' by rw[hb']]
  apply ae;intro rhs hrhs
  simp(maxSteps:=4000000)(disch:=first|exact dz|fail)only[bB.u,seval,cut,m110b0,fA,hlt,hr,he']
  subst hrhs;rfl
 |ok k m=>
  obtain⟨c',t',m',b',ks'⟩:=k
  obtain⟨h1,h2⟩:=hrn _ _ rfl
  have hk:dm ks'= .nilsl∨∃l,dm ks'= .sl 5 l:=by cases ks'<;>simp[dm]
  simp only[RR.go,dp,aX]at hr ⊢
  rw[if_neg (by omega)]
  have hdr:(body.drop m).take (body.length-m)=body.drop m:=List.take_of_length_le (by simp)
  unfold iG aB
  rcases hk with hk|⟨l,hk⟩<;>cases m'<;>simp only[hk,if_true,if_false,Bool.false_eq_true]at hr ⊢
  all_goals(
  obtain⟨b',hb'⟩:∃b',b'=m110b0:=⟨_,rfl⟩
  rw[ah,show Item.lp m110k0 m110b0=Item.lp m110k0 b' by rw[hb']]
  apply ae;intro rhs hrhs
  simp(maxSteps:=4000000)(disch:=first|exact dz|fail)only[bB.u,seval,cut,m110b0,fA,hlt,hr,hdr,hk0,hp0]
  subst hrhs;first|rfl|(subst hb';refine(congrArg (am _) (aA Q _ _ _ _)).trans ?_;exact congrArg (am fA) (af (canon_cong kr kr kr))))
def gD (c t:Int) (n a:Nat) (ks:List T) (ps:List (List UInt8)):RR:=if c=0∧t=17∧bP ps=false then .er 25 else .ok (.mk c t true [] ks) (a+n)
theorem Aw (c t:Int) (n a:Nat) (ks ps):vu c t n a (.ok ks ps)=gD c t n a ks ps:=rfl
theorem G1 (c t:Int) (d:Nat) (n a:Nat) (hn:n+a<2^40):am fA (RunL Q m110k0 m110b0 [.blk 1,.code eu] (lF c t d n a []))=some (dp (gD c t n a [] [])):=by
 have hso:=dQ [] (by simp)
 rw[List.map_nil]at hso
 by_cases hc:c=0
 rotate_left
 ·have hc':(c==0)=false:=by simpa using hc
  rw[show gD c t n a [] []= .ok (.mk c t true [] []) (a+n)from if_neg (fun h=>hc h.1)]
  simp only[dp,aX,if_true]
  unfold lF aB
  obtain⟨b',hb'⟩:∃b',b'=m110b0:=⟨_,rfl⟩
  rw[ah,show Item.lp m110k0 m110b0=Item.lp m110k0 b' by rw[hb']]
  apply ae;intro rhs hrhs
  simp(maxSteps:=4000000)(disch:=first|exact dz|fail)only[bB.u,seval,cut,m110b0,fA,eu,hc']
  subst hrhs;rfl
 subst hc
 by_cases ht:t=17
 rotate_left
 ·have ht':(t==17)=false:=by simpa using ht
  rw[show gD 0 t n a [] []= .ok (.mk 0 t true [] []) (a+n)from if_neg (fun h=>ht h.2.1)]
  simp only[dp,aX,if_true]
  unfold lF aB
  obtain⟨b',hb'⟩:∃b',b'=m110b0:=⟨_,rfl⟩
  rw[ah,show Item.lp m110k0 m110b0=Item.lp m110k0 b' by rw[hb']]
  apply ae;intro rhs hrhs
  simp(maxSteps:=4000000)(disch:=first|exact dz|fail)only[bB.u,seval,cut,m110b0,fA,eu,ht']
  subst hrhs;rfl
 subst ht
 cases hs:bP []
 ·rw[hs]at hso
  rw[show gD 0 17 n a [] []= .er 25 from if_pos ⟨rfl,rfl,hs⟩]
  simp only[dp]
  unfold lF aB
  obtain⟨b',hb'⟩:∃b',b'=m110b0:=⟨_,rfl⟩
  rw[ah,show Item.lp m110k0 m110b0=Item.lp m110k0 b' by rw[hb']]
  apply ae;intro rhs hrhs
  simp(maxSteps:=4000000)(disch:=first|exact dz|fail)only[bB.u,seval,cut,m110b0,fA,eu,hso]
  subst hrhs;rfl
 ·rw[hs]at hso
  rw[show gD 0 17 n a [] []= .ok (.mk 0 17 true [] []) (a+n)from if_neg (fun h=>by rw[hs]at h;cases h.2.2)]
  simp only[dp,aX,if_true]
  unfold lF aB
  obtain⟨b',hb'⟩:∃b',b'=m110b0:=⟨_,rfl⟩
  rw[ah,show Item.lp m110k0 m110b0=Item.lp m110k0 b' by rw[hb']]
  apply ae;intro rhs hrhs
  simp(maxSteps:=4000000)(disch:=first|exact dz|fail)only[bB.u,seval,cut,m110b0,fA,eu,hso]
  subst hrhs;rfl
theorem Ax (c t:Int) (d:Nat) (n a:Nat) (hn:n+a<2^40) (i:Nat) (k:T) (r:List T) (ks:List T) (hks:ks=k::r) (ps:List (List UInt8)) (hi:i≤2^32) (hk0:ks.length=i) (hp0:ps.length=i):am fA (RunL Q m110k0 m110b0 [.blk 1,.code eu] (iG c t d n a [] i (ks.map av) (ps.map .bs)))=some (dp (gD c t n a ks ps)):=by
 have hso:=dQ ps (by omega)
 have hkl:(ks.map av).length=i:=by simp[hk0]
 have hpl:(ps.map MV.bs).length=i:=by simp[hp0]
 have hmk:dm ks= .sl 5 (ks.map av):=by subst hks;simp[dm,jl]
 by_cases hc:c=0
 rotate_left
 ·have hc':(c==0)=false:=by simpa using hc
  rw[show gD c t n a ks ps= .ok (.mk c t true [] ks) (a+n)from if_neg (fun h=>hc h.1)]
  simp only[dp,aX,if_true,hmk]
  unfold iG aB
  obtain⟨b',hb'⟩:∃b',b'=m110b0:=⟨_,rfl⟩
  rw[ah,show Item.lp m110k0 m110b0=Item.lp m110k0 b' by rw[hb']]
  apply ae;intro rhs hrhs
  simp(maxSteps:=4000000)(disch:=first|exact dz|fail)only[bB.u,seval,cut,m110b0,fA,eu,hkl,hpl,hc']
  subst hrhs;rfl
 subst hc
 by_cases ht:t=17
 rotate_left
 ·have ht':(t==17)=false:=by simpa using ht
  rw[show gD 0 t n a ks ps= .ok (.mk 0 t true [] ks) (a+n)from if_neg (fun h=>ht h.2.1)]
  simp only[dp,aX,if_true,hmk]
  unfold iG aB
  obtain⟨b',hb'⟩:∃b',b'=m110b0:=⟨_,rfl⟩
  rw[ah,show Item.lp m110k0 m110b0=Item.lp m110k0 b' by rw[hb']]
  apply ae;intro rhs hrhs
  simp(maxSteps:=4000000)(disch:=first|exact dz|fail)only[bB.u,seval,cut,m110b0,fA,eu,hkl,hpl,ht']
  subst hrhs;rfl
 subst ht
 cases hs:bP ps
 ·rw[hs]at hso
  rw[show gD 0 17 n a ks ps= .er 25 from if_pos ⟨rfl,rfl,hs⟩]
  simp only[dp]
  unfold iG aB
  obtain⟨b',hb'⟩:∃b',b'=m110b0:=⟨_,rfl⟩
  rw[ah,show Item.lp m110k0 m110b0=Item.lp m110k0 b' by rw[hb']]
  apply ae;intro rhs hrhs
  simp(maxSteps:=4000000)(disch:=first|exact dz|fail)only[bB.u,seval,cut,m110b0,fA,eu,hkl,hpl,hso]
  subst hrhs;rfl
 ·rw[hs]at hso
  rw[show gD 0 17 n a ks ps= .ok (.mk 0 17 true [] ks) (a+n)from if_neg (fun h=>by rw[hs]at h;cases h.2.2)]
  simp only[dp,aX,if_true,hmk]
  unfold iG aB
  obtain⟨b',hb'⟩:∃b',b'=m110b0:=⟨_,rfl⟩
  rw[ah,show Item.lp m110k0 m110b0=Item.lp m110k0 b' by rw[hb']]
  apply ae;intro rhs hrhs
  simp(maxSteps:=4000000)(disch:=first|exact dz|fail)only[bB.u,seval,cut,m110b0,fA,eu,hkl,hpl,hso]
  subst hrhs;rfl
theorem xP {b:List UInt8} {c t:Int} {m:Bool} {i:Nat} {e:Int} (h:iF b c t m i= .er e):e≠0:=by
 unfold iF at h
 repeat' split at h
 all_goals first|(cases h;done)|(cases h;decide)
theorem vw {b:List UInt8} {e:Int} (h:ii b= .er e):e≠0:=by
 unfold ii at h
 split at h
 ·cases h;decide
 split at h
 ·unfold vq ni at h
  repeat' split at h
  all_goals first|exact xP h|(cases h;decide)
 ·exact xP h
theorem Ay {R:List UInt8→RR} (hR:∀b e,R b= .er e→e≠0):∀ {g:Nat} {b:List UInt8} {e:Int},gj R g b= .er e→e≠0
 | 0,b,e,h=>by rw[gj]at h;cases h
 |g+1,b,e,h=>by
  rw[gj]at h
  split at h
  ·cases h
  ·split at h
   ·rename_i e' he
    cases h;exact hR _ _ he
   ·rename_i k n hk
    cases hx:gj R g (b.drop n)with
    |er e'=>rw[hx]at h;cases h;exact Ay hR hx
    |ok ks ps=>rw[hx]at h;cases h
theorem uf:∀ {f:Nat} {b:List UInt8} {e:Int},rd f b= .er e→e≠0
 | 0,b,e,h=>by rw[rd]at h;cases h;decide
 |f+1,b,e,h=>by
  rw[rd]at h
  split at h
  ·rename_i e' he
   cases h;exact vw he
  ·split at h
   ·cases h;decide
   split at h
   ·split at h
    ·rename_i hf
     cases h;exact hf
    ·cases h
   split at h
   ·rename_i hf
    cases h;exact hf
   ·unfold vu at h
    split at h
    ·rename_i e' he
     cases h;exact Ay (fun b e=>uf) he
    ·split at h
     ·cases h;decide
     ·cases h
theorem rJ {R:List UInt8→RR} {g:Nat} {b:List UInt8} {k:T} {n:Nat} (hb:0<b.length) (h:R b= .ok k n):gj R (g+1) b=(gj R g (b.drop n)).cons k (b.take n):=by
 rw[gj,if_neg (by omega),h]
theorem xQ {R:List UInt8→RR} {g:Nat} {b:List UInt8} {e:Int} (hb:0<b.length) (h:R b= .er e):gj R (g+1) b= .er e:=by
 rw[gj,if_neg (by omega),h]
def KR.app (ks0:List T) (ps0:List (List UInt8)):KR→KR
 | .er e=>.er e
 | .ok ks ps=>.ok (ks0++ks) (ps0++ps)
theorem KR.app_cons (ks0:List T) (ps0:List (List UInt8)) (k:T) (p:List UInt8) (r:KR):(r.cons k p).app ks0 ps0=r.app (ks0++[k]) (ps0++[p]):=by
 cases r<;>simp[KR.cons,KR.app]
theorem Az (f d:Nat) (hd:d≤16) (ih:∀body:List UInt8,body.length≤2^31→Call Q 110 [.bs body,.int .i64 ((d:Int)+1)]=some (dp (rd f body))) (c t:Int) (n a:Nat) (hn:n+a<2^40):
  ∀(g:Nat) (body:List UInt8) (k0:T) (r0:List T) (ks:List T) (ps:List (List UInt8)) (i:Nat),ks=k0::r0→body.length≤g→i+body.length≤2^31→ks.length=i→ps.length=i →
   am fA (RunL Q m110k0 m110b0 [.blk 1,.code eu] (iG c t d n a body i (ks.map av) (ps.map .bs)))=some (dp (vu c t n a ((gj (rd f) g body).app ks ps)))
 | 0,body,k0,r0,ks,ps,i,hks,hg,hi,h1,h2=>by
  have:body=[]:=List.length_eq_zero_iff.1 (by omega)
  subst this
  rw[gj,KR.app,List.append_nil,List.append_nil,Aw]
  exact Ax c t d n a hn i k0 r0 ks hks ps (by omega) h1 h2
 |g+1,body,k0,r0,ks,ps,i,hks,hg,hi,h1,h2=>by
  by_cases hb:body.length=0
  ·have:body=[]:=List.length_eq_zero_iff.1 hb
   subst this
   rw[gj,if_pos List.length_nil,KR.app,List.append_nil,List.append_nil,Aw]
   exact Ax c t d n a hn i k0 r0 ks hks ps (by omega) h1 h2
  have hb0:0<body.length:=by omega
  rw[E7 _ c t d hd n a body i (ks.map av) (ps.map .bs) (by omega) (by simp[h1]) (by simp[h2]) hb0 (rd f body) (ih body (by omega)) (fun k m h=>pQ h) (fun e h=>uf h)]
  cases hr:rd f body with
  |er e=>rw[xQ hb0 hr];rfl
  |ok k m=>
   obtain⟨l1,l2⟩:=pQ hr
   simp only[RR.go]
   rw[if_neg (by omega),rJ hb0 hr,KR.app_cons]
   have e1:ks.map av++[av k]=(ks++[k]).map av:=by simp
   have e2:ps.map MV.bs++[.bs (body.take m)]=(ps++[body.take m]).map .bs:=by simp
   rw[e1,e2]
   exact Az f d hd ih c t n a hn g (body.drop m) k0 (r0++[k]) (ks++[k]) (ps++[body.take m]) (i+1) (by simp[hks]) (by simp;omega) (by simp;omega) (by simp[h1]) (by simp[h2])
theorem IE (f d:Nat) (hd:d≤16) (ih:∀body:List UInt8,body.length≤2^31→Call Q 110 [.bs body,.int .i64 ((d:Int)+1)]=some (dp (rd f body))) (c t:Int) (n a:Nat) (hn:n+a<2^40) (body:List UInt8) (hb:body.length≤2^31) (hg:body.length=n):
  am fA (RunL Q m110k0 m110b0 [.blk 1,.code eu] (lF c t d n a body))=some (dp (vu c t n a (gj (rd f) n body))):=by
 cases n with
 |zero=>
  have:body=[]:=List.length_eq_zero_iff.1 hg
  subst this
  exact G1 c t d 0 a hn
 |succ g=>
  have hb0:0<body.length:=by omega
  rw[E6 _ c t d hd (g+1) a body hb0 (rd f body) (ih body (by omega)) (fun k m h=>pQ h) (fun e h=>uf h)]
  cases hr:rd f body with
  |er e=>rw[xQ hb0 hr];rfl
  |ok k m=>
   obtain⟨l1,l2⟩:=pQ hr
   simp only[RR.go]
   rw[if_neg (by omega),rJ hb0 hr]
   have h:=Az f d hd ih c t (g+1) a hn g (body.drop m) k [] [k] [body.take m] 1 rfl (by simp;omega) (by simp;omega) rfl rfl
   rw[show((gj (rd f) g (body.drop m)).app [k] [body.take m])=(gj (rd f) g (body.drop m)).cons k (body.take m) by cases gj (rd f) g (body.drop m)<;>rfl]at h
   exact h
theorem AA:∀(f d:Nat),d+f=17→∀b:List UInt8,b.length≤2^31→Call Q 110 [.bs b,.int .i64 (d:Nat)]=some (dp (rd f b))
 | 0,d,hd,b,hb=>by
  obtain rfl:d=17:=by omega
  rw[rd]
  simp only[dp]
  unfold aB
  rw[Call_fn Q (m:=m110) rfl rfl]
  apply ae;intro rhs hrhs
  simp(maxSteps:=4000000)(disch:=first|exact dz|fail)only[bB.u,seval,cut,m110]
  subst hrhs;rfl
 |f+1,d,hd,b,hb=>by
  have ih:∀body:List UInt8,body.length≤2^31→Call Q 110 [.bs body,.int .i64 ((d:Int)+1)]=some (dp (rd f body)):=fun body h=>AA f (d+1) (by omega) body h
  have h1:decide (16<(d:Int))=false:=by simp;omega
  have hh:=G0 b (by omega)
  rw[rd]
  cases hs:ii b with
  |er e=>
   rw[hs]at hh
   obtain⟨c,t,m,hc⟩:=hh
   have he:(e==0)=false:=by simpa using vw hs
   simp only[dp]
   unfold aB
   rw[Call_fn Q (m:=m110) rfl rfl]
   apply ae;intro rhs hrhs
   simp(maxSteps:=4000000)(disch:=first|exact dz|fail)only[bB.u,seval,cut,m110,h1,hc,he]
   subst hrhs;rfl
  |ok c t m n a=>
   rw[hs]at hh
   have hc:Call Q 144 [.bs b]=some (.tup [.agg [.int .i64 c,.int .i64 t,.bool m,.nilsl,.nilsl],.int .i64 (n:Nat),.int .i64 (a:Nat),.int .i64 0]):=hh
   obtain⟨a1,a2,a3,a4,a5⟩:=vv hs
   simp only
   by_cases hl:b.length<a+n
   ·rw[if_pos hl]
    have hl':decide ((b.length:Int)-(a:Int)<(n:Int))=true:=by simp;omega
    simp only[dp]
    unfold aB
    rw[Call_fn Q (m:=m110) rfl rfl]
    apply ae;intro rhs hrhs
    simp(maxSteps:=4000000)(disch:=first|exact dz|fail)only[bB.u,seval,cut,m110,h1,hc,hl']
    subst hrhs;rfl
   rw[if_neg hl]
   have hl':decide ((b.length:Int)-(a:Int)<(n:Int))=false:=by simp;omega
   have etn:((a:Int)+(n:Int)).toNat=a+n:=by omega
   have etn2:a+n-a=n:=by omega
   have b1:(a:Int)≤(a:Int)+(n:Int):=by omega
   have b2:(a:Int)+(n:Int)≤(b.length:Int):=by omega
   have hbl:((b.drop a).take n).length=n:=by simp;omega
   cases m with
   |false=>
    rw[if_pos rfl]
    have hf:=na c t false (.bs ((b.drop a).take n)) .nilsl ((b.drop a).take n) (.bs _) .nil (by omega)
    by_cases he:aR c t false ((b.drop a).take n)=0
    ·rw[if_neg (by simpa using he)]
     rw[he]at hf
     simp only[dp,aX,dm,if_false,Bool.false_eq_true]
     rw[Call_fn Q (m:=m110) rfl rfl]
     apply ae;intro rhs hrhs
     simp(maxSteps:=4000000)(disch:=first|exact dz|fail)only[bB.u,seval,cut,m110,h1,hc,hl',etn,etn2,b1,b2,hf,hbl]
     subst hrhs;rfl
    ·rw[if_pos he]
     have he':(aR c t false ((b.drop a).take n)==0)=false:=by simpa using he
     simp only[dp]
     unfold aB
     rw[Call_fn Q (m:=m110) rfl rfl]
     apply ae;intro rhs hrhs
     simp(maxSteps:=4000000)(disch:=first|exact dz|fail)only[bB.u,seval,cut,m110,h1,hc,hl',etn,etn2,b1,b2,hf,he',hbl]
     subst hrhs;rfl
   |true=>
    rw[if_neg (by simp)]
    have hf:=na c t true .nilsl .nilsl [] .nil .nil (by simp)
    by_cases he:aR c t true []=0
    ·rw[if_neg (by simpa using he)]
     rw[he]at hf
     have hr:=IE f d (by omega) ih c t n a (by omega) ((b.drop a).take n) (by omega) hbl
     rw[Call_fn Q (m:=m110) rfl rfl]
     apply ae;intro rhs hrhs
     simp(maxSteps:=4000000)(disch:=first|exact dz|fail)only[bB.u,seval,cut,m110,aq,h1,hc,hl',etn,etn2,b1,b2,hf]
     subst hrhs;exact(congrArg (am _) (af (canon_cong kr kr kr))).trans hr
    ·rw[if_pos he]
     have he':(aR c t true []==0)=false:=by simpa using he
     simp only[dp]
     unfold aB
     rw[Call_fn Q (m:=m110) rfl rfl]
     apply ae;intro rhs hrhs
     simp(maxSteps:=4000000)(disch:=first|exact dz|fail)only[bB.u,seval,cut,m110,h1,hc,hl',etn,etn2,b1,b2,hf,he']
     subst hrhs;rfl
theorem E8:∀n:Fin 256,mad (UInt8.ofNat n.val)=decide (32≤n.val%64):=by decide
theorem G2 (x:UInt8):mad x=decide (32≤x.toNat%64):=by
 have h:=E8 ⟨x.toNat,x.toNat_lt⟩
 simpa using h
theorem kL (x:UInt8) (l:List UInt8):g0 (x::l) 0=x:=rfl
theorem nP (x:UInt8) (l:List UInt8) (i:Nat):g0 (x::l) (i+1)=g0 l i:=rfl
theorem G3 (n:Nat) (h:n<256):aU [UInt8.ofNat n]=n:=by
 simp[aU,UInt8.toNat_ofNat'];omega
theorem G4 (n:Nat) (h:n<65536):aU [UInt8.ofNat (n/256),UInt8.ofNat n]=n:=by
 simp[aU,UInt8.toNat_ofNat'];omega
theorem G5 (n:Nat) (h:n<16777216):aU [UInt8.ofNat (n/65536),UInt8.ofNat (n/256),UInt8.ofNat n]=n:=by
 simp[aU,UInt8.toNat_ofNat'];omega
theorem AB (x:UInt8) (n:Nat) (hn:n<16777216) (r:List UInt8) (c t:Int) (m:Bool):iF (x::(ch n++r)) c t m 1= .ok c t m n (1+(ch n).length):=by
 unfold iF ch
 by_cases h1:n<128
 ·have e:(UInt8.ofNat n).toNat=n:=by rw[UInt8.toNat_ofNat'];omega
  rw[if_pos h1]
  simp only[List.cons_append,List.nil_append,nP,kL,e,List.length_cons,List.length_nil]
  rw[if_neg (by omega),if_pos h1]
 rw[if_neg h1]
 by_cases h2:n<256
 ·have e:(UInt8.ofNat n).toNat=n:=by rw[UInt8.toNat_ofNat'];omega
  rw[if_pos h2]
  simp only[List.cons_append,List.nil_append,nP,kL,List.length_cons,List.length_nil,show(129:UInt8).toNat=129 from rfl,List.drop_succ_cons,List.drop_zero,show 129-128=1 from rfl,List.take_succ_cons,List.take_zero,G3 n h2,e]
  rw[if_neg (by omega),if_neg (by omega),if_neg (by omega),if_neg (by omega),if_neg (by omega)]
 rw[if_neg h2]
 by_cases h3:n<65536
 ·have e:(UInt8.ofNat (n/256)).toNat=n/256:=by rw[UInt8.toNat_ofNat'];omega
  rw[if_pos h3]
  simp only[List.cons_append,List.nil_append,nP,kL,List.length_cons,List.length_nil,show(130:UInt8).toNat=130 from rfl,List.drop_succ_cons,List.drop_zero,show 130-128=2 from rfl,List.take_succ_cons,List.take_zero,G4 n h3,e]
  rw[if_neg (by omega),if_neg (by omega),if_neg (by omega),if_neg (by omega),if_neg (by omega)]
 ·have e:(UInt8.ofNat (n/65536)).toNat=n/65536:=by rw[UInt8.toNat_ofNat'];omega
  rw[if_neg h3]
  simp only[List.cons_append,List.nil_append,nP,kL,List.length_cons,List.length_nil,show(131:UInt8).toNat=131 from rfl,List.drop_succ_cons,List.drop_zero,show 131-128=3 from rfl,List.take_succ_cons,List.take_zero,G5 n hn,e]
  rw[if_neg (by omega),if_neg (by omega),if_neg (by omega),if_neg (by omega),if_neg (by omega)]
theorem CG (c t:Int) (m:Bool) (h0:0≤c) (h3:c≤3) (ht:0≤t) (ht2:t<31) (n:Nat) (hn:n<16777216) (r:List UInt8):
  ii (cw c t m++(ch n++r))= .ok c t m n (1+(ch n).length):=by
 have hx:(UInt8.ofNat (first c m+t.toNat)).toNat=first c m+t.toNat:=by
  rw[UInt8.toNat_ofNat'];unfold first;split<;>omega
 rw[cw,if_pos ht2,List.cons_append,List.nil_append]
 have e1:cls (UInt8.ofNat (first c m+t.toNat))=c:=by
  unfold cls;rw[hx];unfold first;split<;>omega
 have e2:mad (UInt8.ofNat (first c m+t.toNat))=m:=by
  rw[G2,hx];unfold first;cases m
  ·simp;omega
  ·simp;omega
 have e3:first c m%32=0:=by unfold first;split<;>omega
 unfold ii
 rw[kL,e1,e2,hx,if_neg (by simp),if_neg (by omega),AB _ n hn]
 congr 1;omega
theorem AC (d:Nat) (t:T) (h:(wr d t).1=0):1≤(wr d t).2.length:=by
 obtain⟨c,t,m,b,ks⟩:=t
 rw[wr,gc]at h ⊢
 by_cases h1:16<d
 ·rw[if_pos h1]at h;cases h
 rw[if_neg h1]at h ⊢
 by_cases h2:bT c t=true
 ·rw[if_pos h2]at h;cases h
 rw[if_neg h2]at h ⊢
 by_cases h3:aR c t m b=21
 ·rw[if_pos h3]at h;cases h
 rw[if_neg h3]at h ⊢
 by_cases h4:aR c t m b≠0∨(m=true∧b≠[])∨(m=false∧(!ks.isEmpty)=true)
 ·rw[if_pos h4]at h;cases h
 rw[if_neg h4]at h ⊢
 by_cases h5:(aP (d+1) ks).1=0
 rotate_left
 ·rw[if_pos h5]at h;exact absurd h h5
 rw[if_neg (by simpa using h5)]at h ⊢
 by_cases h6:c=0∧t=17∧bP (aP (d+1) ks).2=false
 ·rw[if_pos h6]at h;cases h
 rw[if_neg h6]
 simp only[List.length_append]
 have:1≤(cw c t m).length:=by unfold cw;split<;>simp
 omega
theorem hcount:∀(ps:List (List UInt8)),(∀p∈ps,1≤p.length)→ps.length≤(ps.map List.length).sum
 | [],_=>by simp
 |p::r,h=>by
  have h1:=h p (by simp)
  have h2:=hcount r fun q hq=>h q (by simp[hq])
  simp only[List.length_cons,List.map_cons,List.sum_cons];omega
theorem xR (d:Nat):∀(ts:List T),(aP d ts).1=0→∀p∈(aP d ts).2,1≤p.length
 | [],_,p,hp=>by simp[aP]at hp
 |k::r,h,p,hp=>by
  rw[aP]at h hp
  by_cases h1:(wr d k).1=0
  rotate_left
  ·rw[if_pos h1]at h;exact absurd h h1
  rw[if_neg (by simpa using h1)]at h hp
  by_cases h2:(aP d r).1=0
  rotate_left
  ·rw[if_pos h2]at h;exact absurd h h2
  rw[if_neg (by simpa using h2)]at hp
  rcases List.mem_cons.1 hp with rfl|hp
  ·exact AC d k h1
  ·exact xR d r h2 p hp
mutual
theorem rt (d:Nat):∀(t:T) (r:List UInt8),low t→(wr d t).1=0→(wr d t).2.length<16777216→rd (17-d) ((wr d t).2++r)= .ok t (wr d t).2.length
 | .mk c t m b ks,r,hl,h,hn=>by
  rw[low]at hl
  rw[wr,gc]at h hn ⊢
  by_cases h1:16<d
  ·rw[if_pos h1]at h;cases h
  rw[if_neg h1]at h hn ⊢
  by_cases h2:bT c t=true
  ·rw[if_pos h2]at h;cases h
  rw[if_neg h2]at h hn ⊢
  rw[Bool.not_eq_true]at h2
  by_cases h3:aR c t m b=21
  ·rw[if_pos h3]at h;cases h
  rw[if_neg h3]at h hn ⊢
  by_cases h4:aR c t m b≠0∨(m=true∧b≠[])∨(m=false∧(!ks.isEmpty)=true)
  ·rw[if_pos h4]at h;cases h
  rw[if_neg h4]at h hn ⊢
  by_cases h5:(aP (d+1) ks).1=0
  rotate_left
  ·rw[if_pos h5]at h;exact absurd h h5
  rw[if_neg (by simpa using h5)]at h hn ⊢
  by_cases h6:c=0∧t=17∧bP (aP (d+1) ks).2=false
  ·rw[if_pos h6]at h;cases h
  rw[if_neg h6]at h hn ⊢
  simp only at hn ⊢
  have hk:=I_ (d+1) ks hl.2 h5
  generalize hbody:(if m=true then(aP (d+1) ks).2.flatten else b)=body at hn ⊢
  have htl:(cw c t m).length=1:=by rw[cw,if_pos hl.1];rfl
  simp only[List.length_append]at hn ⊢
  rw[htl]at hn ⊢
  unfold bT at h2
  simp only[Bool.or_eq_false_iff,decide_eq_false_iff_not]at h2
  obtain⟨⟨⟨r1,r2⟩,r3⟩,r4⟩:=h2
  have hh:=CG c t m (by omega) (by omega) (by omega) hl.1 body.length (by omega) (body++r)
  have ea:cw c t m++(ch body.length++body)++r=cw c t m++(ch body.length++(body++r)):=by simp
  rw[ea]
  obtain⟨f,hf⟩:∃f,17-d=f+1:=⟨16-d,by omega⟩
  rw[hf,rd,hh]
  simp only
  have hdt:((cw c t m++(ch body.length++(body++r))).drop (1+(ch body.length).length)).take body.length=body:=by
   have e1:(cw c t m++(ch body.length++(body++r)))=(cw c t m++ch body.length)++(body++r):=by simp
   have e2:(cw c t m++ch body.length).length=1+(ch body.length).length:=by simp[htl]
   rw[e1,←e2,List.drop_left,List.take_left]
  rw[hdt,if_neg (by simp[htl];omega)]
  have h4':aR c t m b=0∧(m=true→b=[])∧(m=false→ks=[]):=by
   refine⟨Decidable.not_not.1 fun h=>h4 (.inl h),fun hm=>Decidable.not_not.1 fun h=>h4 (.inr (.inl ⟨hm,h⟩)),fun hm=>?_⟩
   cases ks with
   |nil=>rfl
   |cons x y=>exact absurd (.inr (.inr ⟨hm,rfl⟩)) h4
  obtain⟨g1,g2,g3⟩:=h4'
  cases m with
  |false=>
   obtain rfl:=g3 rfl
   simp only[Bool.false_eq_true,if_false]at hbody
   subst hbody
   rw[if_pos rfl,if_neg (by simpa using g1)]
   congr 1;omega
  |true=>
   obtain rfl:=g2 rfl
   simp only[if_true]at hbody
   rw[if_neg (by simp),if_neg (by simpa using g1)]
   have hw:=hk f body.length (by rw[←hbody,List.length_flatten];exact hcount _ (xR _ _ h5)) (by omega) (by rw[hbody];omega)
   rw[hbody]at hw
   rw[hw,vu,if_neg h6]
   congr 1;omega
theorem I_ (d:Nat):∀(ts:List T),bg ts→(aP d ts).1=0→∀(f g:Nat),(aP d ts).2.length≤g→f=17-d→(aP d ts).2.flatten.length<16777216→gj (rd f) g (aP d ts).2.flatten= .ok ts (aP d ts).2
 | [],hl,h,f,g,hg,hf,hn=>by
  rw[aP]
  cases g with
  |zero=>rfl
  |succ g=>rw[gj];rfl
 |k::r,hl,h,f,g,hg,hf,hn=>by
  rw[bg]at hl
  rw[aP]at h hg hn ⊢
  by_cases h1:(wr d k).1=0
  rotate_left
  ·rw[if_pos h1]at h;exact absurd h h1
  rw[if_neg (by simpa using h1)]at h hg hn ⊢
  by_cases h2:(aP d r).1=0
  rotate_left
  ·rw[if_pos h2]at h;exact absurd h h2
  rw[if_neg (by simpa using h2)]at h hg hn ⊢
  simp only[List.flatten_cons,List.length_append,List.length_cons]at hg hn ⊢
  have hp:=AC d k h1
  obtain⟨g,rfl⟩:∃g',g=g'+1:=⟨g-1,by omega⟩
  have hr:=rt d k (aP d r).2.flatten hl.1 h1 (by omega)
  rw[←hf]at hr
  rw[rJ (by simp;omega) hr,List.drop_left,List.take_left,I_ d r hl.2 h2 f g (by omega) hf (by omega)]
  rfl
end
variable {fb:Bool}
def wrW (t:T):Int × List UInt8:=if(wr 0 t).1≠0 then((wr 0 t).1,[])else if 65536<(wr 0 t).2.length then(54,[])else(0,(wr 0 t).2)
theorem iZ (v:MV) (t:T) (hv:Wv fb v t) (hl:low t) (hs:sz t≤2^30):Call Q 107 [v]=some (.tup [.bs (wrW t).2,.int .i64 (wrW t).1]):=by
 have hw:=EZ (2^30) t v 0 hs (by omega) hl hv (by omega)
 rw[show((0:Nat):Int)=0 from rfl]at hw
 have hlen:=pN 0 t
 unfold wrW
 cases hv with
 | @mk _ c t m v k b ks hb hk=>
 generalize wr 0 (T.mk c t m b ks)=w at hw hlen ⊢
 obtain⟨e,bs⟩:=w
 simp only at hw hlen ⊢
 by_cases he:e=0
 rotate_left
 ·rw[if_pos he]
  have he':(e==0)=false:=by simpa using he
  rw[Call_fn Q (m:=m107) rfl rfl]
  cases hb<;>cases hk
  all_goals(
  apply ae;intro rhs hrhs
  simp(maxSteps:=4000000)(disch:=first|exact dz|fail)only[bB.u,seval,cut,m107,hw,he']
  subst hrhs;rfl)
 ·subst he
  rw[if_neg (by simp)]
  by_cases hb2:65536<bs.length
  ·rw[if_pos hb2]
   have hb':decide (65536<(bs.length:Int))=true:=by simp;omega
   rw[Call_fn Q (m:=m107) rfl rfl]
   cases hb<;>cases hk
   all_goals(
   apply ae;intro rhs hrhs
   simp(maxSteps:=4000000)(disch:=first|exact dz|fail)only[bB.u,seval,cut,m107,hw,hb']
   subst hrhs;rfl)
  ·rw[if_neg hb2]
   have hb':decide (65536<(bs.length:Int))=false:=by simp;omega
   rw[Call_fn Q (m:=m107) rfl rfl]
   cases hb<;>cases hk
   all_goals(
   apply ae;intro rhs hrhs
   simp(maxSteps:=4000000)(disch:=first|exact dz|fail)only[bB.u,seval,cut,m107,hw,hb']
   subst hrhs;rfl)
inductive RD where
 |er (e:Int)
 |ok (t:T)
def lG (b:List UInt8):RD:=if 65536<b.length then .er 54 else match rd 17 b with
 | .er e=>.er e
 | .ok t n=>if n<b.length then .er 26 else .ok t
def RD.mv:RD→MV
 | .er e=>.tup [.agg aB,.int .i64 e]
 | .ok t=>.tup [av t,.int .i64 0]
theorem pR (b:List UInt8) (hb:b.length≤2^31):Call Q 77 [.bs b]=some (lG b).mv:=by
 have hr:=AA 17 0 rfl b hb
 rw[show((0:Nat):Int)=0 from rfl]at hr
 unfold lG
 by_cases h1:65536<b.length
 ·rw[if_pos h1]
  have h1':decide (65536<(b.length:Int))=true:=by simp;omega
  simp only[RD.mv]
  unfold aB
  rw[Call_fn Q (m:=m77) rfl rfl]
  apply ae;intro rhs hrhs
  simp(maxSteps:=4000000)(disch:=first|exact dz|fail)only[bB.u,seval,cut,m77,h1']
  subst hrhs;rfl
 rw[if_neg h1]
 have h1':decide (65536<(b.length:Int))=false:=by simp;omega
 cases hd:rd 17 b with
 |er e=>
  have he:(e==0)=false:=by simpa using uf hd
  rw[hd]at hr
  simp only[RD.mv,dp]at hr ⊢
  unfold aB at hr ⊢
  rw[Call_fn Q (m:=m77) rfl rfl]
  apply ae;intro rhs hrhs
  simp(maxSteps:=4000000)(disch:=first|exact dz|fail)only[bB.u,seval,cut,m77,h1',hr,he]
  subst hrhs;rfl
 |ok t n=>
  rw[hd]at hr
  obtain⟨c,t,m,bs,ks⟩:=t
  have hk:dm ks= .nilsl∨∃l,dm ks= .sl 5 l:=by cases ks<;>simp[dm]
  simp only[dp,aX]at hr ⊢
  by_cases h2:n<b.length
  ·rw[if_pos h2]
   have h2':decide ((n:Int)<(b.length:Int))=true:=by simp;omega
   simp only[RD.mv]
   unfold aB
   rw[Call_fn Q (m:=m77) rfl rfl]
   rcases hk with hk|⟨l,hk⟩<;>cases m<;>simp only[hk,if_true,if_false,Bool.false_eq_true]at hr ⊢
   all_goals(
   apply ae;intro rhs hrhs
   simp(maxSteps:=4000000)(disch:=first|exact dz|fail)only[bB.u,seval,cut,m77,h1',hr,h2']
   subst hrhs;rfl)
  ·rw[if_neg h2]
   have h2':decide ((n:Int)<(b.length:Int))=false:=by simp;omega
   simp only[RD.mv,aX]
   rw[Call_fn Q (m:=m77) rfl rfl]
   rcases hk with hk|⟨l,hk⟩<;>cases m<;>simp only[hk,if_true,if_false,Bool.false_eq_true]at hr ⊢
   all_goals(
   apply ae;intro rhs hrhs
   simp(maxSteps:=4000000)(disch:=first|exact dz|fail)only[bB.u,seval,cut,m77,h1',hr,h2']
   subst hrhs;rfl)
theorem jU (t:T) (hl:low t) (h:(wrW t).1=0):lG (wrW t).2= .ok t:=by
 unfold wrW at h ⊢
 by_cases h1:(wr 0 t).1=0
 rotate_left
 ·rw[if_pos h1]at h;exact absurd h h1
 rw[if_neg (by simpa using h1)]at h ⊢
 by_cases h2:65536<(wr 0 t).2.length
 ·rw[if_pos h2]at h;cases h
 rw[if_neg h2]
 have hr:=rt 0 t [] hl h1 (by omega)
 rw[List.append_nil]at hr
 unfold lG
 simp only
 rw[if_neg h2,show(17:Nat)=17-0 from rfl,hr]
 simp
end Go.Mini

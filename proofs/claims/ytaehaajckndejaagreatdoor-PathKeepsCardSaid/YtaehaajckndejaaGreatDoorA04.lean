/- a certificate's names keep to limits as the document says: the law by that interpreter (part 4): what the program's functions answer, or plain laws of it; no conditions. -/
import Derived.Test.YtaehaajckndejaaGreatDoorA03
import Derived.Lib.Join
import Derived.Lib.Split
import Derived.Lib.AtoiAll
import Derived.Lib.AtoiAllCases
import Derived.Lib.ItoaNum
import Derived.Lib.ValidU
import Derived.Lib.Bytealg
import Derived.Lib.Repeat
import Derived.Lib.IndexAny
set_option linter.all false
namespace Go.Proofs.YtaehaajckndejaaGreatDoor
open Go Go.Mini Go.Proofs
set_option maxHeartbeats 4000000
set_option maxRecDepth 100000
def code : FuncId→Option MFunc
 | 4=>some m4
 | 5=>some m5
 | 7=>some m7
 | 8=>some m8
 | 9=>some m9
 | 10=>some m10
 | 11=>some m11
 | 12=>some m12
 | 13=>some m13
 | 14=>some m14
 | 16=>some m16
 | 21=>some m21
 | 22=>some m22
 | 23=>some m23
 | 24=>some m24
 | 25=>some m25
 | 26=>some m26
 | 27=>some m27
 | 29=>some m29
 | 35=>some m35
 | 36=>some m36
 | 37=>some m37
 | 38=>some m38
 | 40=>some m40
 | 42=>some m42
 | 43=>some m43
 | 44=>some m44
 | 45=>some m45
 | 46=>some m46
 | 47=>some m47
 | 48=>some m48
 | 49=>some m49
 | 50=>some m50
 | 51=>some m51
 | 55=>some m55
 | 56=>some m56
 | 57=>some m57
 | 59=>some m59
 | 60=>some m60
 | 61=>some m61
 | 67=>some m67
 | 68=>some m68
 | 69=>some m69
 | 70=>some m70
 | 71=>some m71
 | 77=>some m77
 | 78=>some m78
 | 79=>some m79
 | 80=>some m80
 | 81=>some m81
 | 82=>some m82
 | 83=>some m83
 | 85=>some m85
 | 86=>some m86
 | 92=>some m92
 | 93=>some m93
 | 94=>some m94
 | 126=>some m126
 | 127=>some m127
 | 132=>some m132
 | 135=>some m135
 | 136=>some m136
 | 137=>some m137
 | 191=>some m191
 | _=>none
theorem code_ok : ∀ (f : FuncId) (m : MFunc),code f = some m→∃ fn c tm hp,FnOK Tryz.prog f m fn c tm hp := by
 intro f m h
 unfold code at h
 split at h
 ·cases h; exact okE_ok m4o
 ·cases h; exact okE_ok m5o
 ·cases h; exact okE_ok m7o
 ·cases h; exact okE_ok m8o
 ·cases h; exact okE_ok m9o
 ·cases h; exact okE_ok m10o
 ·cases h; exact okE_ok m11o
 ·cases h; exact okE_ok m12o
 ·cases h; exact okE_ok m13o
 ·cases h; exact okE_ok m14o
 ·cases h; exact okE_ok m16o
 ·cases h; exact okE_ok m21o
 ·cases h; exact okE_ok m22o
 ·cases h; exact okE_ok m23o
 ·cases h; exact okE_ok m24o
 ·cases h; exact okE_ok m25o
 ·cases h; exact okE_ok m26o
 ·cases h; exact okE_ok m27o
 ·cases h; exact okE_ok m29o
 ·cases h; exact okE_ok m35o
 ·cases h; exact okE_ok m36o
 ·cases h; exact okE_ok m37o
 ·cases h; exact okE_ok m38o
 ·cases h; exact okE_ok m40o
 ·cases h; exact okE_ok m42o
 ·cases h; exact okE_ok m43o
 ·cases h; exact okE_ok m44o
 ·cases h; exact okE_ok m45o
 ·cases h; exact okE_ok m46o
 ·cases h; exact okE_ok m47o
 ·cases h; exact okE_ok m48o
 ·cases h; exact okE_ok m49o
 ·cases h; exact okE_ok m50o
 ·cases h; exact okE_ok m51o
 ·cases h; exact okE_ok m55o
 ·cases h; exact okE_ok m56o
 ·cases h; exact okE_ok m57o
 ·cases h; exact okE_ok m59o
 ·cases h; exact okE_ok m60o
 ·cases h; exact okE_ok m61o
 ·cases h; exact okE_ok m67o
 ·cases h; exact okE_ok m68o
 ·cases h; exact okE_ok m69o
 ·cases h; exact okE_ok m70o
 ·cases h; exact okE_ok m71o
 ·cases h; exact okE_ok m77o
 ·cases h; exact okE_ok m78o
 ·cases h; exact okE_ok m79o
 ·cases h; exact okE_ok m80o
 ·cases h; exact okE_ok m81o
 ·cases h; exact okE_ok m82o
 ·cases h; exact okE_ok m83o
 ·cases h; exact okE_ok m85o
 ·cases h; exact okE_ok m86o
 ·cases h; exact okE_ok m92o
 ·cases h; exact okE_ok m93o
 ·cases h; exact okE_ok m94o
 ·cases h; exact okE_ok m126o
 ·cases h; exact okE_ok m127o
 ·cases h; exact okE_ok m132o
 ·cases h; exact okE_ok m135o
 ·cases h; exact okE_ok m136o
 ·cases h; exact okE_ok m137o
 ·cases h; exact okE_ok m191o
 ·cases h
end Go.Proofs.YtaehaajckndejaaGreatDoor
namespace Go.Proofs.YtaehaajckndejaaGreatDoor
open Go Go.Mini Go.Proofs
def decF : Nat→Nat→List UInt8
 | 0,n=>[UInt8.ofNat (48 + n)]
 | k + 1,n=>if n < 10 then [UInt8.ofNat (48 + n)] else decF k (n / 10) ++ [UInt8.ofNat (48 + n % 10)]
def itoaL (n : Int) : List UInt8 := if n < 0 then 45 :: decF 19 n.natAbs else decF 19 n.toNat
theorem decF_eq : ∀ (k n : Nat),n < 10 ^ (k + 1)→decF k n = Lib.decDigits n
 | 0,n,h=>by
  rw [Lib.decDigits,dif_pos (by omega)]; rfl
 | k + 1,n,h=>by
  unfold decF
  rw [Lib.decDigits]
  by_cases h1 : n < 10
  ·rw [if_pos h1,dif_pos h1]
  ·rw [if_neg h1,dif_neg h1,decF_eq k (n / 10) (by rw [Nat.pow_succ] at h; omega)]
theorem itoaL_eq {n : Int} (h0 : -9223372036854775808 ≤ n) (h1 : n ≤ 9223372036854775807) : itoaL n = Lib.itoa n := by
 unfold itoaL Lib.itoa
 have e : (10 : Nat) ^ (19 + 1) = 100000000000000000000 := by decide
 split
 ·rw [decF_eq 19 _ (by omega)]
 ·rw [decF_eq 19 _ (by omega)]
def pItoa : List MV→Option MV
 | [.int .i64 n]=>some (.str (itoaL n))
 | _=>none
theorem decF_len : ∀ (k n : Nat),(decF k n).length ≤ k + 1
 | 0,n=>by simp [decF]
 | k + 1,n=>by
  unfold decF
  split
  ·simp
  ·have := decF_len k (n / 10)
   simp; omega
theorem itoaL_len (n : Int) : (itoaL n).length ≤ 21 := by
 unfold itoaL
 split
 ·have := decF_len 19 n.natAbs; simp; omega
 ·have := decF_len 19 n.toNat; omega
def pSplit : List MV→Option MV
 | [.str s,.str sep]=>if 1 ≤ sep.length ∧ s.length < 4294967281 then some (.sl 1 ((Lib.splitK sep 0 (Lib.count s sep) s).map .str)) else none
 | _=>none
theorem splitK_len (sep : List UInt8) : ∀ (k : Nat) (s : List UInt8),∀ p ∈ Lib.splitK sep 0 k s,p.length ≤ s.length
 | 0,s,p,h=>by simp [Lib.splitK] at h; subst h; exact Nat.le_refl _
 | k + 1,s,p,h=>by
  unfold Lib.splitK at h
  split at h
  ·simp at h; subst h; exact Nat.le_refl _
  ·rcases List.mem_cons.1 h with rfl | h
   ·simp; omega
   ·have := splitK_len sep k _ p h
    simp at this; omega
def atoiErr : TypeId := 276
def pAtoi : List MV→Option MV
 | [.str s]=>if s.length ≤ 281474976710656 then match Lib.atoiAll s with
  | .ok n=>if -9223372036854775808 ≤ n ∧ n ≤ 9223372036854775807 then some (.tup [.int .i64 n,.nilif]) else none
  | .range=>some (.tup [.int .i64 (Lib.atoiSat s),.iface atoiErr (.cptr [])])
  | _=>some (.tup [.int .i64 0,.iface atoiErr (.cptr [])])
  else none
 | _=>none
def pValid : List MV→Option MV
 | [.str s]=>if s.length ≤ 9223372036854775807 then some (.bool (Lib.validD s)) else none
 | _=>none
def pIndexByte : List MV→Option MV
 | [.bs (b :: l),.int .u8 c]=>some (.int .i64 (Lib.indexByte (b :: l) (UInt8.ofNat c.toNat)))
 | _=>none
def ascii (l : List UInt8) : Bool := l.all fun b=>decide (b.toNat < 128)
theorem ascii_get {l : List UInt8} (h : ascii l = true) : ∀ (j : Nat) b,l[j]? = some b→b.toNat < 128 := by
 intro j b hj
 have := List.all_eq_true.1 h b (List.mem_of_getElem? hj)
 simpa using this
def pIndexAny : List MV→Option MV
 | [.str s,.str cs]=>if s.length < 4294967281 ∧ cs.length < 4294967281 ∧ ascii s = true ∧ ascii cs = true then some (.int .i64 (Lib.indexAny s cs)) else none
 | _=>none
def pCut : List MV→Option MV
 | [.str s,.str sep]=>if s.length < 4294967281 then some (.tup [.str (Lib.cut s sep).1,.str (Lib.cut s sep).2.1,.bool (Lib.cut s sep).2.2]) else none
 | _=>none
theorem cut_len (s sep : List UInt8) : (Lib.cut s sep).1.length ≤ s.length ∧ (Lib.cut s sep).2.1.length ≤ s.length := by
 unfold Lib.cut
 split
 ·simp; omega
 ·simp
def prims0 : FuncId→Option (List MV→Option MV)
 | 124=>some pAtoi
 | 125=>some pItoa
 | 58=>some pSplit
 | 128=>some pValid
 | 184=>some pIndexByte
 | 39=>some pCut
 | 41=>some pIndexAny
 | _=>none
def Q0 : Mini.Prog := ⟨code,prims0⟩
def zc : MV := .agg [.int .i64 0,.int .i64 0,.nilsl,.nilsl,.int .i64 0,.int .i64 0,.int .i64 0,.nilsl,.bool false,.int .i64 0,.int .i64 0,.nilsl,.nilsl,.nilsl,.nilsl]
def isZc : MV→Bool
 | .agg [.int .i64 a,.int .i64 b,.nilsl,.nilsl,.int .i64 c,.int .i64 d,.int .i64 e,.nilsl,.bool f,.int .i64 g,.int .i64 h,.nilsl,.nilsl,.nilsl,.nilsl]=>a == 0 && b == 0 && c == 0 && d == 0 && e == 0 && !f && g == 0 && h == 0
 | _=>false
def zcs : MV→Option Nat
 | .nilsl=>some 0
 | .sl 15 l=>if l.all isZc = true ∧ l.length < 1000000 then some l.length else none
 | _=>none
def zcC : MV→Option Nat
 | .fsl 15 l=>zcs (.sl 15 l)
 | v=>zcs v
def pVal (e : Nat→Option Int) : List MV→Option MV
 | [c,r,.int .i64 0]=>match zcC c,zcs r with
  | some n,some m=>if n = 0 ∨ 6 < n then some (.int .i64 45) else (e m).map (.int .i64)
  | _,_=>none
 | _=>none
def pClone : List MV→Option MV
 | [.sl 3 l]=>if l.length < 1000000 then some (.fel 3 l) else none
 | _=>none
end Go.Proofs.YtaehaajckndejaaGreatDoor
namespace Go.Proofs.YtaehaajckndejaaGreatDoor
open Go Go.Mini Go.Proofs
def pVal0 := pVal fun m=>if m = 0 then some 46 else none
def prims : FuncId→Option (List MV→Option MV)
 | 124=>some pAtoi
 | 125=>some pItoa
 | 58=>some pSplit
 | 128=>some pValid
 | 184=>some pIndexByte
 | 39=>some pCut
 | 41=>some pIndexAny
 | 6=>some pVal0
 | 21=>some pClone
 | _=>none
def Q : Mini.Prog := ⟨code,prims⟩
end Go.Proofs.YtaehaajckndejaaGreatDoor
namespace Go.Mini.Nm
open Go Go.Mini Go.Proofs.YtaehaajckndejaaGreatDoor
set_option maxRecDepth 100000
set_option maxHeartbeats 4000000
theorem bnt {α : Type} [BEq α] {a b : α} (h : (a != b) = true) : (a == b) = false := by unfold bne at h; simpa using h
theorem bnn {α : Type} [BEq α] {a b : α} (h : (a != b) = false) : (a == b) = true := by unfold bne at h; simpa using h
theorem bnq {α : Type} [BEq α] {a b : α} {c : Bool} (h : (a != b) = !c) : (a == b) = c := by unfold bne at h; revert h; cases (a == b) <;> cases c <;> simp
theorem u8t {a b : UInt8} (h : ((a.toNat : Int) != (b.toNat : Int)) = true) : (a == b) = false := by
 rw [beq_eq_false_iff_ne]; rintro rfl; simp at h
theorem u8n {a b : UInt8} (h : ((a.toNat : Int) != (b.toNat : Int)) = false) : (a == b) = true := by
 have := bnn h; rw [beq_iff_eq] at this ⊢; exact UInt8.toNat_inj.1 (by omega)
theorem eqc35 (x : UInt8) : ((x.toNat : Int) == 35) = (x == 35) := eq8 x 35
theorem eqc46 (x : UInt8) : ((x.toNat : Int) == 46) = (x == 46) := eq8 x 46
theorem eqc47 (x : UInt8) : ((x.toNat : Int) == 47) = (x == 47) := eq8 x 47
theorem eqc58 (x : UInt8) : ((x.toNat : Int) == 58) = (x == 58) := eq8 x 58
theorem eqc63 (x : UInt8) : ((x.toNat : Int) == 63) = (x == 63) := eq8 x 63
def zero5 : List MV := [.int .i64 0,.int .i64 0,.bool false,.nilsl,.nilsl]
def numP (p : List UInt8) : Option Int := match Lib.atoiAll p with
 | .ok n=>if 0 ≤ n ∧ n < 1099511627776 ∧ itoaL n = p then some n else none
 | _=>none
def numsP : List (List UInt8)→Option (List Int)
 | []=>some []
 | p :: r=>match numP p,numsP r with
  | some n,some l=>some (n :: l)
  | _,_=>none
def part (n d : Int) : List UInt8 := if 0 < n / d then [UInt8.ofNat (n / d % 128).toNat ||| 128] else []
def encD (n : Int) : List Int→List UInt8
 | []=>[UInt8.ofNat (n % 128).toNat]
 | d :: r=>part n d ++ encD n r
def enc (n : Int) : List UInt8 := encD n [34359738368,268435456,2097152,16384,128]
def encs (l : List Int) : List UInt8 := l.flatMap enc
def oidN (l : List Int) : Option (List UInt8) := match l with
 | n0 :: n1 :: r=>if 2 < n0 ∨ n0 < 2 ∧ 39 < n1 ∨ n0 = 2 ∧ 1099511627776 ≤ n1 + 80 then none else some (encs ((n1 + 40 * n0) :: r))
 | _=>none
def oidS (s : List UInt8) : Option (List UInt8) :=
 let ps := Lib.splitK [46] 0 (Lib.count s [46]) s
 if ps.length < 2 ∨ 20 < ps.length then none else match numsP ps with
  | some l=>oidN l
  | none=>none
theorem canon_cong {keep : List (Nat × KMode)} {st : DS} {V : List (Nat × MV)} {O : List (Nat × Obj)} {nx : Nat} (h1 : (canon keep st).V = V) (h2 : (canon keep st).O = O) (h3 : (canon keep st).nx = nx) : canon keep st = ⟨V,[],O,nx⟩ := by
 subst h1; subst h2; subst h3; rfl
def ints (l : List Int) : List MV := l.map fun n=>.int .i64 n
theorem ints_length (l : List Int) : (ints l).length = l.length := by simp [ints]
def V53 (a : Nat) (ps : List (List UInt8)) (l : List Int) (i : Int) : List (Nat × MV) := [(2,.ptr 0 0),(5,.own a l.length),(26,.sl 1 (ps.map .str)),(27,.int .i64 (ps.length : Int)),(28,.int .i64 i)]
def O53 (a : Nat) (l : List Int) : List (Nat × Obj) := [(0,.cells zero5),(a,.el 1 (ints l) false)]
def R53 : List (Nat × Option (Bool × Nat) × PK) := [(2,some (true,5),.other),(3,none,.other)]
def bad53 : MV := .tup [.agg zero5,.bool false]
theorem Vapp (ps : List (List UInt8)) (l : List Int) (n i : Int) : [(2,MV.ptr 0 0),(5,.own 1 (l.length + 1)),(26,.sl 1 (ps.map .str)),(27,.int .i64 (ps.length : Int)),(28,.int .i64 i)] = V53 1 ps (l ++ [n]) i := by simp [V53]
theorem Oapp (l : List Int) (n : Int) : [(0,Obj.cells zero5),(1,.el 1 (ints l ++ [.int .i64 n]) false)] = O53 1 (l ++ [n]) := by simp [O53,ints]
theorem numP_itoa {p : List UInt8} {n : Int} (h : numP p = some n) : 0 ≤ n ∧ n < 1099511627776 := by
 unfold numP at h
 split at h
 ·split at h
  ·rename_i hc; cases h; exact ⟨hc.1,hc.2.1⟩
  ·cases h
 ·cases h
theorem atoi_ok {p : List UInt8} {n : Int} (hp : p.length < 1000000) (h : Lib.atoiAll p = .ok n) (h0 : -9223372036854775808 ≤ n ∧ n ≤ 9223372036854775807) : Call Q 124 [.str p] = some (.tup [.int .i64 n,.nilif]) := by
 rw [Call_prim Q (g := pAtoi) rfl]
 simp only [pAtoi,h]
 rw [if_pos (by omega),if_pos h0]
theorem atoi_no {p : List UInt8} (hp : p.length < 1000000) (h : ∀ n,Lib.atoiAll p ≠ .ok n) : ∃ n,Call Q 124 [.str p] = some (.tup [.int .i64 n,.iface atoiErr (.cptr [])]) := by
 rw [Call_prim Q (g := pAtoi) rfl]
 simp only [pAtoi]
 rw [if_pos (by omega)]
 cases h1 : Lib.atoiAll p with
 | ok n=>exact (h n h1).elim
 | range=>exact ⟨_,rfl⟩
 | _=>exact ⟨_,rfl⟩
theorem itoa_ok (n : Int) : Call Q 125 [.int .i64 n] = some (.str (itoaL n)) := Call_prim Q (g := pItoa) rfl
theorem c53_step (a : Nat) (ha : a = 1 ∨ a = 2) (ps : List (List UInt8)) (l : List Int) (i : Int) (h0 : 0 ≤ i) (hi : i < ps.length) (hps : ps.length ≤ 20) (hl : l.length ≤ 20) (p : List UInt8) (hp : ps[i.toNat]? = some p) (hpl : p.length < 1000000) (K : List Item) :
  fin R53 (RunL Q m77k0 m77b0 (.blk 0 :: K) ⟨V53 a ps l i,[],O53 a l,3⟩) = match numP p with
   | some n=>fin R53 (RunL Q m77k0 m77b0 (.blk 0 :: K) ⟨V53 1 ps (l ++ [n]) (i + 1),[],O53 1 (l ++ [n]),3⟩)
   | none=>some bad53 := by
 have hlt : decide (i < (ps.length : Int)) = true := by simp; omega
 have hlen : ((ps.map MV.str).length : Int) = (ps.length : Int) := by simp
 have hget : (ps.map MV.str)[i.toNat]? = some (.str p) := by rw [List.getElem?_map,hp]; rfl
 have hil := ints_length l
 have step : ∀ (b' : MCode) (n : Int) (V : List (Nat × MV)) (O : List (Nat × Obj)) (nx : Nat),b' = m77b0→canon m77k0 ⟨V,[],O,nx⟩ = ⟨V53 1 ps (l ++ [n]) (i + 1),[],O53 1 (l ++ [n]),3⟩ →
   fin R53 (Run Q (.lp m77k0 b' :: .blk 0 :: K) ⟨V,[],O,nx⟩) = fin R53 (RunL Q m77k0 m77b0 (.blk 0 :: K) ⟨V53 1 ps (l ++ [n]) (i + 1),[],O53 1 (l ++ [n]),3⟩) := by
  intro b' n V O nx hb hc
  subst hb
  rw [Run_lp,hc]
 obtain ⟨b',hb'⟩ : ∃ b',b' = m77b0 := ⟨_,rfl⟩
 rw [RunL_eq,show Item.lp m77k0 m77b0 = Item.lp m77k0 b' by rw [hb']]
 have hcap : (l.length + 1) * 8 ≤ 2 ^ 47 := by omega
 by_cases hok : ∃ n,Lib.atoiAll p = .ok n
 ·obtain ⟨n,hn⟩ := hok
  have hz := atoi_ok hpl hn (Lib.atoiAll_bounds hn)
  have hi2 := itoa_ok n
  have numeq : numP p = if 0 ≤ n ∧ n < 1099511627776 ∧ itoaL n = p then some n else none := by simp only [numP,hn]
  by_cases c1 : n < 0
  ·have d1 : decide (n < 0) = true := by simp; omega
   rw [numeq,if_neg (by omega)]
   rcases ha with rfl | rfl <;>
   simp (maxSteps := 4000000) (disch := first | omega | exact ok_of (by kernel_rfl) | decide) only [bA.u,seval,cut,if_pos,if_neg,m77b0,V53,O53,R53,bad53,hlt,hlen,hget,h0,hi,zero5,hz,hi2,d1]
  ·have d1 : decide (n < 0) = false := by simp; omega
   by_cases c2 : 1099511627776 ≤ n
   ·have d2 : decide (1099511627776 ≤ n) = true := by simp; omega
    rw [numeq,if_neg (by omega)]
    rcases ha with rfl | rfl <;>
    simp (maxSteps := 4000000) (disch := first | omega | exact ok_of (by kernel_rfl) | decide) only [bA.u,seval,cut,if_pos,if_neg,m77b0,V53,O53,R53,bad53,hlt,hlen,hget,h0,hi,zero5,hz,hi2,d1,d2]
   ·have d2 : decide (1099511627776 ≤ n) = false := by simp; omega
    by_cases c3 : itoaL n = p
    ·have d3 : (p == p) = true := by simp
     rw [numeq,if_pos ⟨by omega,by omega,c3⟩]
     show _ = fin R53 (RunL Q m77k0 m77b0 (.blk 0 :: K) ⟨V53 1 ps (l ++ [n]) (i + 1),[],O53 1 (l ++ [n]),3⟩)
     obtain ⟨rhs,hr⟩ : ∃ r,r = fin R53 (RunL Q m77k0 m77b0 (.blk 0 :: K) ⟨V53 1 ps (l ++ [n]) (i + 1),[],O53 1 (l ++ [n]),3⟩) := ⟨_,rfl⟩
     rw [← hr]
     rcases ha with rfl | rfl <;>
     simp (maxSteps := 4000000) (disch := first | omega | exact ok_of (by kernel_rfl) | decide) only [bA.u,seval,cut,if_pos,if_neg,m77b0,V53,O53,R53,bad53,hlt,hlen,hget,h0,hi,zero5,hz,hi2,d1,d2,c3,hil,hcap,List.set]
     all_goals (rw [hr]; exact step b' n _ _ _ hb' (canon_cong (Eq.trans (by kernel_rfl) (Vapp ps l n (i + 1))) (Eq.trans (by kernel_rfl) (Oapp l n)) (by kernel_rfl)))
    ·have d3 : (itoaL n == p) = false := by simpa using c3
     rw [numeq,if_neg (fun h=>c3 h.2.2)]
     rcases ha with rfl | rfl <;>
     simp (maxSteps := 4000000) (disch := first | omega | exact ok_of (by kernel_rfl) | decide) only [bA.u,seval,cut,if_pos,if_neg,m77b0,V53,O53,R53,bad53,hlt,hlen,hget,h0,hi,zero5,hz,hi2,d1,d2,d3]
 ·have hnum : numP p = none := by
   unfold numP
   split
   ·rename_i n hn; exact (hok ⟨n,hn⟩).elim
   ·rfl
  rw [hnum]
  obtain ⟨z,hz⟩ := atoi_no hpl (fun n hn=>hok ⟨n,hn⟩)
  rcases ha with rfl | rfl <;>
  simp (maxSteps := 4000000) (disch := first | omega | exact ok_of (by kernel_rfl) | decide) only [bA.u,seval,cut,if_pos,if_neg,m77b0,V53,O53,R53,bad53,hlt,hlen,hget,h0,hi,hz,zero5]
theorem numsP_cons (p : List UInt8) (r : List (List UInt8)) : numsP (p :: r) = match numP p,numsP r with
  | some n,some l=>some (n :: l)
  | _,_=>none := rfl
theorem c53_nums (ps : List (List UInt8)) (hps : ps.length ≤ 20) (hpl : ∀ p ∈ ps,p.length < 1000000) (K : List Item) : ∀ (r : List (List UInt8)) (a : Nat) (l : List Int) (i : Nat),(a = 1 ∨ a = 2)→(a = 2→r ≠ [])→ps.drop i = r→i + r.length = ps.length→l.length = i →
  fin R53 (RunL Q m77k0 m77b0 (.blk 0 :: K) ⟨V53 a ps l i,[],O53 a l,3⟩) = match numsP r with
   | some ns=>fin R53 (Run Q K ⟨(29,.bool false) :: V53 1 ps (l ++ ns) ps.length,[],O53 1 (l ++ ns),7⟩)
   | none=>some bad53
 | [],a,l,i,ha,ha2,hd,hi,hl=>by
  obtain rfl : a = 1 := by
   rcases ha with h | h
   ·exact h
   ·exact (ha2 h rfl).elim
  have hi' : i = ps.length := by simpa using hi
  subst hi'
  have hlt : decide ((ps.length : Int) < (ps.length : Int)) = false := by simp
  obtain ⟨b',hb'⟩ : ∃ b',b' = m77b0 := ⟨_,rfl⟩
  show _ = fin R53 (Run Q K ⟨(29,.bool false) :: V53 1 ps (l ++ []) ps.length,[],O53 1 (l ++ []),7⟩)
  rw [List.append_nil,RunL_eq,show Item.lp m77k0 m77b0 = Item.lp m77k0 b' by rw [hb']]
  simp (maxSteps := 4000000) (disch := first | omega | exact ok_of (by kernel_rfl) | decide) only [bA.u,seval,cut,if_pos,if_neg,m77b0,V53,O53,hlt]
 | p :: r,a,l,i,ha,ha2,hd,hi,hl=>by
  simp only [List.length_cons] at hi
  have hlt : i < ps.length := by omega
  have hp : ps[i]? = some p := by
   have := congrArg (·[0]?) hd
   simpa [List.getElem?_drop] using this
  have hd' : ps.drop (i + 1) = r := by
   have := congrArg (List.drop 1) hd
   simpa [List.drop_drop] using this
  rw [c53_step a ha ps l i (by omega) (by omega) hps (by omega) p (by simpa using hp) (hpl p (List.mem_of_getElem? hp)) K,numsP_cons]
  cases hn : numP p with
  | none=>rfl
  | some n =>
   have ih := c53_nums ps hps hpl K r 1 (l ++ [n]) (i + 1) (.inl rfl) (fun h=>by omega) hd' (by omega) (by simp [hl])
   have e : ((i : Int) + 1) = ((i + 1 : Nat) : Int) := by omega
   rw [e]
   simp only
   rw [ih]
   cases numsP r with
   | none=>rfl
   | some ns=>simp only [List.append_assoc,List.cons_append,List.nil_append]
theorem numsP_length : ∀ {r : List (List UInt8)} {ns : List Int},numsP r = some ns→ns.length = r.length ∧ ∀ n ∈ ns,0 ≤ n ∧ n < 1099511627776
 | [],ns,h=>by simp only [numsP,Option.some.injEq] at h; subst h; simp
 | p :: r,ns,h=>by
  rw [numsP_cons] at h
  split at h
  ·rename_i n l h1 h2
   cases h
   have ⟨a,b⟩ := numsP_length h2
   refine ⟨by simp [a],fun m hm=>?_⟩
   rcases List.mem_cons.1 hm with rfl | hm
   ·exact numP_itoa h1
   ·exact b m hm
  ·cases h
end Go.Mini.Nm
namespace Go.Mini.Nm
open Go Go.Mini Go.Proofs.YtaehaajckndejaaGreatDoor
set_option maxRecDepth 100000
set_option maxHeartbeats 4000000
theorem c34 (a b : List UInt8) : Call Q 42 [.bs a,.bs b] = some (.bool (a == b)) := by
 rw [Call_fn Q (m := m42) rfl rfl]
 simp (maxSteps := 4000000) (disch := first | omega | exact ok_of (by kernel_rfl) | decide) only [bA.u,seval,cut,if_pos,if_neg,m42]
end Go.Mini.Nm
namespace Go.Mini.Nm
open Go Go.Mini Go.Proofs.YtaehaajckndejaaGreatDoor
set_option maxRecDepth 100000
set_option maxHeartbeats 4000000
theorem shr64 {n b : Int} (h0 : 0 ≤ b) (h1 : b ≤ 63) : shiftI .shr .i64 n b = some (.int .i64 (n / 2 ^ b.toNat)) := by
 obtain ⟨m,rfl⟩ := Int.eq_ofNat_of_zero_le h0
 unfold shiftI
 rw [if_neg (by omega)]
 simp only [Int.toNat_natCast]
 have e : min m IntKind.i64.bits = m := by show min m 64 = m; omega
 rw [e]
 congr 2
 have e2 : ((2 : Int) ^ m) = ((2 ^ m : Nat) : Int) := by simp
 rw [e2,Int.fdiv_eq_ediv_of_nonneg _ (Int.natCast_nonneg _)]
theorem and64_127 {x : Int} (h0 : 0 ≤ x) (h1 : x ≤ 9223372036854775807) : IntKind.i64.wrap ((BitVec.ofInt IntKind.i64.bits x &&& BitVec.ofInt IntKind.i64.bits 127).toNat : Int) = x % 128 := by
 obtain ⟨n,rfl⟩ := Int.eq_ofNat_of_zero_le h0
 have e : (BitVec.ofInt IntKind.i64.bits (n : Int) &&& BitVec.ofInt IntKind.i64.bits 127).toNat = n % 128 := by
  show (BitVec.ofInt 64 (n : Int) &&& BitVec.ofInt 64 127).toNat = n % 128
  rw [BitVec.toNat_and,BitVec.ofInt_natCast,BitVec.toNat_ofNat]
  have : (BitVec.ofInt 64 127).toNat = 127 := by decide
  rw [this,Nat.mod_eq_of_lt (by omega),show 127 = 2 ^ 7 - 1 by decide,Nat.and_two_pow_sub_one_eq_mod]
 rw [e,w64 (by omega) (by omega)]
 omega
theorem or8_128 {m : Int} (h0 : 0 ≤ m) (h1 : m < 256) : IntKind.u8.wrap ((BitVec.ofInt IntKind.u8.bits m ||| BitVec.ofInt IntKind.u8.bits 128).toNat : Int) = ((UInt8.ofNat m.toNat ||| 128).toNat : Int) := by
 obtain ⟨n,rfl⟩ := Int.eq_ofNat_of_zero_le h0
 have := or8 (UInt8.ofNat n) 128
 have e : ((UInt8.ofNat n).toNat : Int) = (n : Int) := by rw [UInt8.toNat_ofNat']; omega
 rw [e] at this
 exact this
def V2 (out : List UInt8) (n sh : Int) (tl : List MV) (len i : Int) : List (Nat × MV) := [(2,.ptr 0 0),(10,.own 1 out.length),(12,.int .i64 n),(13,.int .i64 sh),(99,.sl 1 tl),(100,.int .i64 len),(101,.int .i64 i)]
def V1 (a : Nat) (out : List UInt8) (tl : List MV) (len i : Int) : List (Nat × MV) := [(2,.ptr 0 0),(10,.own a out.length),(99,.sl 1 tl),(100,.int .i64 len),(101,.int .i64 i)]
def OB (a : Nat) (out : List UInt8) : List (Nat × Obj) := [(0,.cells zero5),(a,.byt out false)]
theorem stop (out : List UInt8) (n : Int) (tl : List MV) (len i : Int) (K : List Item) : RunL Q m77k2 m77b2 (.blk 4 :: K) ⟨V2 out n (-7) tl len i,[],OB 1 out,3⟩ = Run Q K ⟨(106,.bool false) :: V2 out n (-7) tl len i,[],OB 1 out,11⟩ := by
 obtain ⟨b',hb'⟩ : ∃ b',b' = m77b2 := ⟨_,rfl⟩
 rw [RunL_eq,show Item.lp m77k2 m77b2 = Item.lp m77k2 b' by rw [hb']]
 simp (maxSteps := 4000000) (disch := first | omega | exact ok_of (by kernel_rfl) | decide) only [bA.u,seval,cut,if_pos,if_neg,m77b2,V2,OB]
theorem e0 (out : List UInt8) (n : Int) (hn : 0 ≤ n ∧ n < 9223372036854775807) (ho : out.length < 1000) (tl : List MV) (len i : Int) (K : List Item) : RunL Q m77k2 m77b2 (.blk 4 :: K) ⟨V2 out n 0 tl len i,[],OB 1 out,3⟩ = Run Q K ⟨(106,.bool false) :: V2 (out ++ encD n []) n (-7) tl len i,[],OB 1 (out ++ encD n []),11⟩ := by
 obtain ⟨rhs,hr⟩ : ∃ r,r = Run Q K ⟨(106,.bool false) :: V2 (out ++ encD n []) n (-7) tl len i,[],OB 1 (out ++ encD n []),11⟩ := ⟨_,rfl⟩
 rw [← hr]
 obtain ⟨b',hb'⟩ : ∃ b',b' = m77b2 := ⟨_,rfl⟩
 have hcap : out.length + 1 ≤ 2 ^ 47 := by omega
 rw [RunL_eq,show Item.lp m77k2 m77b2 = Item.lp m77k2 b' by rw [hb']]
 simp (maxSteps := 4000000) (disch := first | omega | exact ok_of (by kernel_rfl) | decide) only [bA.u,seval,cut,if_pos,if_neg,m77b2,V2,OB,hcap,shr64,Int.ediv_one,Int.reducePow,and64_127]
 subst hb'
 rw [Run_lp,hr]
 have ve : ∀ b : UInt8,[(2,MV.ptr 0 0),(10,.own 1 (out.length + 1)),(12,.int .i64 n),(13,.int .i64 (-7)),(99,.sl 1 tl),(100,.int .i64 len),(101,.int .i64 i)] = V2 (out ++ [b]) n (-7) tl len i := fun b=>by simp [V2]
 exact (RunL_canon (canon_cong (Eq.trans (by kernel_rfl) (ve _)) (by kernel_rfl) (by kernel_rfl))).trans (stop _ n tl len i K)
theorem e1 (out : List UInt8) (n : Int) (hn : 0 ≤ n ∧ n < 9223372036854775807) (ho : out.length < 999) (tl : List MV) (len i : Int) (K : List Item) : RunL Q m77k2 m77b2 (.blk 4 :: K) ⟨V2 out n 7 tl len i,[],OB 1 out,3⟩ = Run Q K ⟨(106,.bool false) :: V2 (out ++ encD n [128]) n (-7) tl len i,[],OB 1 (out ++ encD n [128]),11⟩ := by
 obtain ⟨rhs,hr⟩ : ∃ r,r = Run Q K ⟨(106,.bool false) :: V2 (out ++ encD n [128]) n (-7) tl len i,[],OB 1 (out ++ encD n [128]),11⟩ := ⟨_,rfl⟩
 rw [← hr]
 obtain ⟨b',hb'⟩ : ∃ b',b' = m77b2 := ⟨_,rfl⟩
 have hcap : out.length + 1 ≤ 2 ^ 47 := by omega
 rw [RunL_eq,show Item.lp m77k2 m77b2 = Item.lp m77k2 b' by rw [hb']]
 by_cases hd : 0 < n / 128
 ·have hd' : decide (0 < n / 128) = true := by simp; omega
  have hp : part n 128 = [UInt8.ofNat (n / 128 % 128).toNat ||| 128] := if_pos hd
  simp (maxSteps := 4000000) (disch := first | omega | exact ok_of (by kernel_rfl) | decide) only [bA.u,seval,cut,if_pos,if_neg,m77b2,V2,OB,hd',hcap,shr64,Int.ediv_one,Int.reducePow,and64_127,or8_128]
  subst hb'
  rw [Run_lp,hr]
  have ve : ∀ b : UInt8,[(2,MV.ptr 0 0),(10,.own 1 (out.length + 1)),(12,.int .i64 n),(13,.int .i64 0),(99,.sl 1 tl),(100,.int .i64 len),(101,.int .i64 i)] = V2 (out ++ [b]) n 0 tl len i := fun b=>by simp [V2]
  have ih := e0 (out ++ [UInt8.ofNat (n / 128 % 128).toNat ||| 128]) n hn (by simp; omega) tl len i K
  rw [show encD n [128] = part n 128 ++ encD n [] from rfl,hp,← List.append_assoc]
  exact (RunL_canon (canon_cong (Eq.trans (by kernel_rfl) (ve _)) (by kernel_rfl) (by kernel_rfl))).trans ih
 ·have hd' : decide (0 < n / 128) = false := by simp; omega
  have hp : part n 128 = [] := if_neg hd
  simp (maxSteps := 4000000) (disch := first | omega | exact ok_of (by kernel_rfl) | decide) only [bA.u,seval,cut,if_pos,if_neg,m77b2,V2,OB,hd',hcap,shr64,Int.ediv_one,Int.reducePow,and64_127,or8_128]
  subst hb'
  rw [Run_lp,hr]
  have ih := e0 out n hn (by omega) tl len i K
  rw [show encD n [128] = part n 128 ++ encD n [] from rfl,hp,List.nil_append]
  exact (RunL_canon (canon_cong (by kernel_rfl) (by kernel_rfl) (by kernel_rfl))).trans ih
theorem e2 (out : List UInt8) (n : Int) (hn : 0 ≤ n ∧ n < 9223372036854775807) (ho : out.length < 998) (tl : List MV) (len i : Int) (K : List Item) : RunL Q m77k2 m77b2 (.blk 4 :: K) ⟨V2 out n 14 tl len i,[],OB 1 out,3⟩ = Run Q K ⟨(106,.bool false) :: V2 (out ++ encD n [16384,128]) n (-7) tl len i,[],OB 1 (out ++ encD n [16384,128]),11⟩ := by
 obtain ⟨rhs,hr⟩ : ∃ r,r = Run Q K ⟨(106,.bool false) :: V2 (out ++ encD n [16384,128]) n (-7) tl len i,[],OB 1 (out ++ encD n [16384,128]),11⟩ := ⟨_,rfl⟩
 rw [← hr]
 obtain ⟨b',hb'⟩ : ∃ b',b' = m77b2 := ⟨_,rfl⟩
 have hcap : out.length + 1 ≤ 2 ^ 47 := by omega
 rw [RunL_eq,show Item.lp m77k2 m77b2 = Item.lp m77k2 b' by rw [hb']]
 by_cases hd : 0 < n / 16384
 ·have hd' : decide (0 < n / 16384) = true := by simp; omega
  have hp : part n 16384 = [UInt8.ofNat (n / 16384 % 128).toNat ||| 128] := if_pos hd
  simp (maxSteps := 4000000) (disch := first | omega | exact ok_of (by kernel_rfl) | decide) only [bA.u,seval,cut,if_pos,if_neg,m77b2,V2,OB,hd',hcap,shr64,Int.ediv_one,Int.reducePow,and64_127,or8_128]
  subst hb'
  rw [Run_lp,hr]
  have ve : ∀ b : UInt8,[(2,MV.ptr 0 0),(10,.own 1 (out.length + 1)),(12,.int .i64 n),(13,.int .i64 7),(99,.sl 1 tl),(100,.int .i64 len),(101,.int .i64 i)] = V2 (out ++ [b]) n 7 tl len i := fun b=>by simp [V2]
  have ih := e1 (out ++ [UInt8.ofNat (n / 16384 % 128).toNat ||| 128]) n hn (by simp; omega) tl len i K
  rw [show encD n [16384,128] = part n 16384 ++ encD n [128] from rfl,hp,← List.append_assoc]
  exact (RunL_canon (canon_cong (Eq.trans (by kernel_rfl) (ve _)) (by kernel_rfl) (by kernel_rfl))).trans ih
 ·have hd' : decide (0 < n / 16384) = false := by simp; omega
  have hp : part n 16384 = [] := if_neg hd
  simp (maxSteps := 4000000) (disch := first | omega | exact ok_of (by kernel_rfl) | decide) only [bA.u,seval,cut,if_pos,if_neg,m77b2,V2,OB,hd',hcap,shr64,Int.ediv_one,Int.reducePow,and64_127,or8_128]
  subst hb'
  rw [Run_lp,hr]
  have ih := e1 out n hn (by omega) tl len i K
  rw [show encD n [16384,128] = part n 16384 ++ encD n [128] from rfl,hp,List.nil_append]
  exact (RunL_canon (canon_cong (by kernel_rfl) (by kernel_rfl) (by kernel_rfl))).trans ih
theorem e3 (out : List UInt8) (n : Int) (hn : 0 ≤ n ∧ n < 9223372036854775807) (ho : out.length < 997) (tl : List MV) (len i : Int) (K : List Item) : RunL Q m77k2 m77b2 (.blk 4 :: K) ⟨V2 out n 21 tl len i,[],OB 1 out,3⟩ = Run Q K ⟨(106,.bool false) :: V2 (out ++ encD n [2097152,16384,128]) n (-7) tl len i,[],OB 1 (out ++ encD n [2097152,16384,128]),11⟩ := by
 obtain ⟨rhs,hr⟩ : ∃ r,r = Run Q K ⟨(106,.bool false) :: V2 (out ++ encD n [2097152,16384,128]) n (-7) tl len i,[],OB 1 (out ++ encD n [2097152,16384,128]),11⟩ := ⟨_,rfl⟩
 rw [← hr]
 obtain ⟨b',hb'⟩ : ∃ b',b' = m77b2 := ⟨_,rfl⟩
 have hcap : out.length + 1 ≤ 2 ^ 47 := by omega
 rw [RunL_eq,show Item.lp m77k2 m77b2 = Item.lp m77k2 b' by rw [hb']]
 by_cases hd : 0 < n / 2097152
 ·have hd' : decide (0 < n / 2097152) = true := by simp; omega
  have hp : part n 2097152 = [UInt8.ofNat (n / 2097152 % 128).toNat ||| 128] := if_pos hd
  simp (maxSteps := 4000000) (disch := first | omega | exact ok_of (by kernel_rfl) | decide) only [bA.u,seval,cut,if_pos,if_neg,m77b2,V2,OB,hd',hcap,shr64,Int.ediv_one,Int.reducePow,and64_127,or8_128]
  subst hb'
  rw [Run_lp,hr]
  have ve : ∀ b : UInt8,[(2,MV.ptr 0 0),(10,.own 1 (out.length + 1)),(12,.int .i64 n),(13,.int .i64 14),(99,.sl 1 tl),(100,.int .i64 len),(101,.int .i64 i)] = V2 (out ++ [b]) n 14 tl len i := fun b=>by simp [V2]
  have ih := e2 (out ++ [UInt8.ofNat (n / 2097152 % 128).toNat ||| 128]) n hn (by simp; omega) tl len i K
  rw [show encD n [2097152,16384,128] = part n 2097152 ++ encD n [16384,128] from rfl,hp,← List.append_assoc]
  exact (RunL_canon (canon_cong (Eq.trans (by kernel_rfl) (ve _)) (by kernel_rfl) (by kernel_rfl))).trans ih
 ·have hd' : decide (0 < n / 2097152) = false := by simp; omega
  have hp : part n 2097152 = [] := if_neg hd
  simp (maxSteps := 4000000) (disch := first | omega | exact ok_of (by kernel_rfl) | decide) only [bA.u,seval,cut,if_pos,if_neg,m77b2,V2,OB,hd',hcap,shr64,Int.ediv_one,Int.reducePow,and64_127,or8_128]
  subst hb'
  rw [Run_lp,hr]
  have ih := e2 out n hn (by omega) tl len i K
  rw [show encD n [2097152,16384,128] = part n 2097152 ++ encD n [16384,128] from rfl,hp,List.nil_append]
  exact (RunL_canon (canon_cong (by kernel_rfl) (by kernel_rfl) (by kernel_rfl))).trans ih
theorem e4 (out : List UInt8) (n : Int) (hn : 0 ≤ n ∧ n < 9223372036854775807) (ho : out.length < 996) (tl : List MV) (len i : Int) (K : List Item) : RunL Q m77k2 m77b2 (.blk 4 :: K) ⟨V2 out n 28 tl len i,[],OB 1 out,3⟩ = Run Q K ⟨(106,.bool false) :: V2 (out ++ encD n [268435456,2097152,16384,128]) n (-7) tl len i,[],OB 1 (out ++ encD n [268435456,2097152,16384,128]),11⟩ := by
 obtain ⟨rhs,hr⟩ : ∃ r,r = Run Q K ⟨(106,.bool false) :: V2 (out ++ encD n [268435456,2097152,16384,128]) n (-7) tl len i,[],OB 1 (out ++ encD n [268435456,2097152,16384,128]),11⟩ := ⟨_,rfl⟩
 rw [← hr]
 obtain ⟨b',hb'⟩ : ∃ b',b' = m77b2 := ⟨_,rfl⟩
 have hcap : out.length + 1 ≤ 2 ^ 47 := by omega
 rw [RunL_eq,show Item.lp m77k2 m77b2 = Item.lp m77k2 b' by rw [hb']]
 by_cases hd : 0 < n / 268435456
 ·have hd' : decide (0 < n / 268435456) = true := by simp; omega
  have hp : part n 268435456 = [UInt8.ofNat (n / 268435456 % 128).toNat ||| 128] := if_pos hd
  simp (maxSteps := 4000000) (disch := first | omega | exact ok_of (by kernel_rfl) | decide) only [bA.u,seval,cut,if_pos,if_neg,m77b2,V2,OB,hd',hcap,shr64,Int.ediv_one,Int.reducePow,and64_127,or8_128]
  subst hb'
  rw [Run_lp,hr]
  have ve : ∀ b : UInt8,[(2,MV.ptr 0 0),(10,.own 1 (out.length + 1)),(12,.int .i64 n),(13,.int .i64 21),(99,.sl 1 tl),(100,.int .i64 len),(101,.int .i64 i)] = V2 (out ++ [b]) n 21 tl len i := fun b=>by simp [V2]
  have ih := e3 (out ++ [UInt8.ofNat (n / 268435456 % 128).toNat ||| 128]) n hn (by simp; omega) tl len i K
  rw [show encD n [268435456,2097152,16384,128] = part n 268435456 ++ encD n [2097152,16384,128] from rfl,hp,← List.append_assoc]
  exact (RunL_canon (canon_cong (Eq.trans (by kernel_rfl) (ve _)) (by kernel_rfl) (by kernel_rfl))).trans ih
 ·have hd' : decide (0 < n / 268435456) = false := by simp; omega
  have hp : part n 268435456 = [] := if_neg hd
  simp (maxSteps := 4000000) (disch := first | omega | exact ok_of (by kernel_rfl) | decide) only [bA.u,seval,cut,if_pos,if_neg,m77b2,V2,OB,hd',hcap,shr64,Int.ediv_one,Int.reducePow,and64_127,or8_128]
  subst hb'
  rw [Run_lp,hr]
  have ih := e3 out n hn (by omega) tl len i K
  rw [show encD n [268435456,2097152,16384,128] = part n 268435456 ++ encD n [2097152,16384,128] from rfl,hp,List.nil_append]
  exact (RunL_canon (canon_cong (by kernel_rfl) (by kernel_rfl) (by kernel_rfl))).trans ih
theorem e5 (out : List UInt8) (n : Int) (hn : 0 ≤ n ∧ n < 9223372036854775807) (ho : out.length < 995) (tl : List MV) (len i : Int) (K : List Item) : RunL Q m77k2 m77b2 (.blk 4 :: K) ⟨V2 out n 35 tl len i,[],OB 1 out,3⟩ = Run Q K ⟨(106,.bool false) :: V2 (out ++ encD n [34359738368,268435456,2097152,16384,128]) n (-7) tl len i,[],OB 1 (out ++ encD n [34359738368,268435456,2097152,16384,128]),11⟩ := by
 obtain ⟨rhs,hr⟩ : ∃ r,r = Run Q K ⟨(106,.bool false) :: V2 (out ++ encD n [34359738368,268435456,2097152,16384,128]) n (-7) tl len i,[],OB 1 (out ++ encD n [34359738368,268435456,2097152,16384,128]),11⟩ := ⟨_,rfl⟩
 rw [← hr]
 obtain ⟨b',hb'⟩ : ∃ b',b' = m77b2 := ⟨_,rfl⟩
 have hcap : out.length + 1 ≤ 2 ^ 47 := by omega
 rw [RunL_eq,show Item.lp m77k2 m77b2 = Item.lp m77k2 b' by rw [hb']]
 by_cases hd : 0 < n / 34359738368
 ·have hd' : decide (0 < n / 34359738368) = true := by simp; omega
  have hp : part n 34359738368 = [UInt8.ofNat (n / 34359738368 % 128).toNat ||| 128] := if_pos hd
  simp (maxSteps := 4000000) (disch := first | omega | exact ok_of (by kernel_rfl) | decide) only [bA.u,seval,cut,if_pos,if_neg,m77b2,V2,OB,hd',hcap,shr64,Int.ediv_one,Int.reducePow,and64_127,or8_128]
  subst hb'
  rw [Run_lp,hr]
  have ve : ∀ b : UInt8,[(2,MV.ptr 0 0),(10,.own 1 (out.length + 1)),(12,.int .i64 n),(13,.int .i64 28),(99,.sl 1 tl),(100,.int .i64 len),(101,.int .i64 i)] = V2 (out ++ [b]) n 28 tl len i := fun b=>by simp [V2]
  have ih := e4 (out ++ [UInt8.ofNat (n / 34359738368 % 128).toNat ||| 128]) n hn (by simp; omega) tl len i K
  rw [show encD n [34359738368,268435456,2097152,16384,128] = part n 34359738368 ++ encD n [268435456,2097152,16384,128] from rfl,hp,← List.append_assoc]
  exact (RunL_canon (canon_cong (Eq.trans (by kernel_rfl) (ve _)) (by kernel_rfl) (by kernel_rfl))).trans ih
 ·have hd' : decide (0 < n / 34359738368) = false := by simp; omega
  have hp : part n 34359738368 = [] := if_neg hd
  simp (maxSteps := 4000000) (disch := first | omega | exact ok_of (by kernel_rfl) | decide) only [bA.u,seval,cut,if_pos,if_neg,m77b2,V2,OB,hd',hcap,shr64,Int.ediv_one,Int.reducePow,and64_127,or8_128]
  subst hb'
  rw [Run_lp,hr]
  have ih := e4 out n hn (by omega) tl len i K
  rw [show encD n [34359738368,268435456,2097152,16384,128] = part n 34359738368 ++ encD n [268435456,2097152,16384,128] from rfl,hp,List.nil_append]
  exact (RunL_canon (canon_cong (by kernel_rfl) (by kernel_rfl) (by kernel_rfl))).trans ih
end Go.Mini.Nm
namespace Go.Mini.Nm
open Go Go.Mini Go.Proofs.YtaehaajckndejaaGreatDoor
set_option maxRecDepth 100000
set_option maxHeartbeats 4000000
theorem enc_len (n : Int) : (enc n).length ≤ 6 := by
 unfold enc
 simp only [encD,part]
 repeat' split
 all_goals simp
theorem c53_out1 (a : Nat) (ha : a = 1 ∨ a = 2) (out : List UInt8) (ho : out.length < 200) (tl : List MV) (i : Int) (n : Int) (hn : 0 ≤ n ∧ n < 9223372036854775807) (hi : 0 ≤ i ∧ i < tl.length) (hg : tl[i.toNat]? = some (.int .i64 n)) (hl : tl.length < 1000) (K : List Item) :
  RunL Q m77k1 m77b1 (.blk 2 :: K) ⟨V1 a out tl tl.length i,[],OB a out,3⟩ = RunL Q m77k1 m77b1 (.blk 2 :: K) ⟨V1 1 (out ++ enc n) tl tl.length (i + 1),[],OB 1 (out ++ enc n),3⟩ := by
 obtain ⟨rhs,hr⟩ : ∃ r,r = RunL Q m77k1 m77b1 (.blk 2 :: K) ⟨V1 1 (out ++ enc n) tl tl.length (i + 1),[],OB 1 (out ++ enc n),3⟩ := ⟨_,rfl⟩
 rw [← hr]
 obtain ⟨b',hb'⟩ : ∃ b',b' = m77b1 := ⟨_,rfl⟩
 have hlt : decide (i < (tl.length : Int)) = true := by simp; omega
 have i0 := hi.1
 have i1 := hi.2
 rw [RunL_eq,show Item.lp m77k1 m77b1 = Item.lp m77k1 b' by rw [hb']]
 have fin2 : ∀ (V : List (Nat × MV)) (O : List (Nat × Obj)) (nx : Nat) (K' : List Item),canon m77k2 ⟨V,[],O,nx⟩ = ⟨V2 out n 35 tl tl.length i,[],OB 1 out,3⟩ →
   RunL Q m77k2 m77b2 (.blk 4 :: K') (canon m77k2 ⟨V,[],O,nx⟩) = Run Q K' ⟨(106,.bool false) :: V2 (out ++ enc n) n (-7) tl tl.length i,[],OB 1 (out ++ enc n),11⟩ := by
  intro V O nx K' hc
  rw [hc]
  exact e5 out n hn (by omega) tl tl.length i K'
 rcases ha with rfl | rfl
 ·simp (maxSteps := 4000000) (disch := first | omega | exact ok_of (by kernel_rfl) | decide) only [bA.u,seval,cut,if_pos,if_neg,m77b1,V1,OB,hlt,i0,i1,hg,Run_loop]
  rw [fin2 _ _ _ _ (canon_cong (by kernel_rfl) (by kernel_rfl) (by kernel_rfl))]
  simp (maxSteps := 4000000) (disch := first | omega | exact ok_of (by kernel_rfl) | decide) only [bA.u,seval,cut,if_pos,if_neg,V2,OB]
  subst hb'
  rw [Run_lp,hr]
  exact RunL_canon (canon_cong (Eq.trans (by kernel_rfl) (show [(2,MV.ptr 0 0),(10,.own 1 (out.length + (enc n).length)),(99,.sl 1 tl),(100,.int .i64 tl.length),(101,.int .i64 (i + 1))] = V1 1 (out ++ enc n) tl tl.length (i + 1) from by simp [V1])) (by kernel_rfl) (by kernel_rfl))
 ·simp (maxSteps := 4000000) (disch := first | omega | exact ok_of (by kernel_rfl) | decide) only [bA.u,seval,cut,if_pos,if_neg,m77b1,V1,OB,hlt,i0,i1,hg,Run_loop]
  rw [fin2 _ _ _ _ (canon_cong (by kernel_rfl) (by kernel_rfl) (by kernel_rfl))]
  simp (maxSteps := 4000000) (disch := first | omega | exact ok_of (by kernel_rfl) | decide) only [bA.u,seval,cut,if_pos,if_neg,V2,OB]
  subst hb'
  rw [Run_lp,hr]
  exact RunL_canon (canon_cong (Eq.trans (by kernel_rfl) (show [(2,MV.ptr 0 0),(10,.own 1 (out.length + (enc n).length)),(99,.sl 1 tl),(100,.int .i64 tl.length),(101,.int .i64 (i + 1))] = V1 1 (out ++ enc n) tl tl.length (i + 1) from by simp [V1])) (by kernel_rfl) (by kernel_rfl))
theorem c53_outs (tl : List Int) (htl : tl.length ≤ 20) (hr : ∀ n ∈ tl,0 ≤ n ∧ n < 9223372036854775807) (K : List Item) : ∀ (r : List Int) (a : Nat) (out : List UInt8) (i : Nat),(a = 1 ∨ a = 2)→(a = 2→r ≠ [])→tl.drop i = r→i + r.length = tl.length→out.length ≤ 6 * i →
  RunL Q m77k1 m77b1 (.blk 2 :: K) ⟨V1 a out (ints tl) (ints tl).length i,[],OB a out,3⟩ = Run Q K ⟨(102,.bool false) :: V1 1 (out ++ encs r) (ints tl) (ints tl).length (ints tl).length,[],OB 1 (out ++ encs r),7⟩
 | [],a,out,i,ha,ha2,hd,hi,ho=>by
  obtain rfl : a = 1 := by
   rcases ha with h | h
   ·exact h
   ·exact (ha2 h rfl).elim
  have hi' : i = tl.length := by simpa using hi
  have hlt : decide ((i : Int) < ((ints tl).length : Int)) = false := by rw [ints_length]; simp; omega
  have e : out ++ encs [] = out := by simp [encs]
  rw [e]
  have hi2 : (ints tl).length = i := by rw [ints_length]; omega
  obtain ⟨b',hb'⟩ : ∃ b',b' = m77b1 := ⟨_,rfl⟩
  obtain ⟨rhs,hrr⟩ : ∃ r,r = Run Q K ⟨(102,.bool false) :: V1 1 out (ints tl) (ints tl).length (ints tl).length,[],OB 1 out,7⟩ := ⟨_,rfl⟩
  rw [← hrr]
  rw [RunL_eq,show Item.lp m77k1 m77b1 = Item.lp m77k1 b' by rw [hb']]
  simp (maxSteps := 4000000) (disch := first | omega | exact ok_of (by kernel_rfl) | decide) only [bA.u,seval,cut,if_pos,if_neg,m77b1,V1,OB,hlt]
  rw [hrr]
  unfold V1 OB
  rw [hi2]
 | n :: r,a,out,i,ha,ha2,hd,hi,ho=>by
  simp only [List.length_cons] at hi
  have hg : tl[i]? = some n := by
   have := congrArg (·[0]?) hd
   simpa [List.getElem?_drop] using this
  have hd' : tl.drop (i + 1) = r := by
   have := congrArg (List.drop 1) hd
   simpa [List.drop_drop] using this
  have hl := enc_len n
  rw [c53_out1 a ha out (by omega) (ints tl) i n (hr n (List.mem_of_getElem? hg)) (by rw [ints_length]; omega) (by simp [ints,List.getElem?_map,hg]) (by rw [ints_length]; omega) K]
  have ih := c53_outs tl htl hr K r 1 (out ++ enc n) (i + 1) (.inl rfl) (fun h=>by omega) hd' (by omega) (by simp; omega)
  have e : ((i : Int) + 1) = ((i + 1 : Nat) : Int) := by omega
  rw [e,ih]
  have e2 : out ++ enc n ++ encs r = out ++ encs (n :: r) := by simp [encs]
  rw [e2]
theorem split_length (s : List UInt8) : ∀ p ∈ Lib.splitK [46] 0 (Lib.count s [46]) s,p.length ≤ s.length := splitK_len [46] _ s
theorem V1len (x : Int) (r : List Int) : [(2,MV.ptr 0 0),(10,.own 2 0),(99,.sl 1 (ints (x :: r))),(100,.int .i64 ((r.length + 1 : Nat) : Int)),(101,.int .i64 0)] = V1 2 [] (ints (x :: r)) (ints (x :: r)).length (0 : Nat) := by simp [V1,ints]
def good53 (out : List UInt8) : MV := .tup [.agg [.int .i64 0,.int .i64 6,.bool false,.bs out,.nilsl],.bool true]
def ans53 : Option (List UInt8)→MV
 | some out=>good53 out
 | none=>bad53
theorem c53 (s : List UInt8) (hs : s.length < 1000000) : Call Q 77 [.str s] = some (ans53 (oidS s)) := by
 obtain ⟨ps,hps⟩ : ∃ ps,ps = Lib.splitK [46] 0 (Lib.count s [46]) s := ⟨_,rfl⟩
 have hsp : Call Q 58 [.str s,.str [46]] = some (.sl 1 (ps.map .str)) := by
  rw [Call_prim Q (g := pSplit) rfl,hps]
  simp only [pSplit,List.length_cons,List.length_nil]
  rw [if_pos ⟨by omega,by omega⟩]
 have hpl : ∀ p ∈ ps,p.length < 1000000 := fun p hp=>by have := split_length s p (hps ▸ hp); omega
 unfold oidS
 rw [← hps]
 simp only
 rw [Call_fn Q (m := m77) rfl rfl]
 by_cases h1 : ps.length < 2
 ·have d1 : decide ((ps.length : Int) < 2) = true := by simp; omega
  rw [if_pos (.inl h1)]
  simp (maxSteps := 4000000) (disch := first | omega | exact ok_of (by kernel_rfl) | decide) only [bA.u,seval,cut,if_pos,if_neg,m77,hsp,d1,List.length_map,bad53,zero5]
  all_goals rfl
 have d1 : decide ((ps.length : Int) < 2) = false := by simp; omega
 by_cases h2 : 20 < ps.length
 ·have d2 : decide (20 < (ps.length : Int)) = true := by simp; omega
  rw [if_pos (.inr h2)]
  simp (maxSteps := 4000000) (disch := first | omega | exact ok_of (by kernel_rfl) | decide) only [bA.u,seval,cut,if_pos,if_neg,m77,hsp,d1,d2,List.length_map,bad53,zero5]
  all_goals rfl
 have d2 : decide (20 < (ps.length : Int)) = false := by simp; omega
 rw [if_neg (by omega)]
 obtain ⟨x,hx⟩ : ∃ x,x = numsP ps := ⟨_,rfl⟩
 rw [← hx]
 simp (maxSteps := 4000000) (disch := first | omega | exact ok_of (by kernel_rfl) | decide) only [bA.u,seval,cut,if_pos,if_neg,m77,hsp,d1,d2,List.length_map,Run_loop]
 refine (congrArg (fin _) (RunL_canon (canon_cong (V := V53 2 ps [] (0 : Nat)) (O := O53 2 []) (nx := 3) (by kernel_rfl) (by kernel_rfl) (by kernel_rfl)))).trans ?_
 refine (c53_nums ps (by omega) hpl _ ps 2 [] 0 (.inr rfl) (fun _ h=>by rw [h] at h1; simp at h1) rfl (by simp) rfl).trans ?_
 rw [← hx]
 cases x with
 | none=>rfl
 | some ns =>
  have hn := hx.symm
  obtain ⟨hl,hb⟩ := numsP_length hn
  match ns,hl,hb with
  | [],hl,_=>simp at hl; omega
  | [_],hl,_=>simp at hl; omega
  | n0 :: n1 :: r,hl,hb =>
   simp only [List.nil_append]
   have b0 := hb n0 (by simp)
   have b1 := hb n1 (by simp)
   have hl' : r.length + 1 + 1 = ps.length := by simpa using hl
   have p0 : (0 : Int) < ((r.length + 1 + 1 : Nat) : Int) := by omega
   have p1 : (1 : Int) < ((r.length + 1 + 1 : Nat) : Int) := by omega
   have p2 : (1 : Int) ≤ ((r.length + 1 + 1 : Nat) : Int) := by omega
   have tk : ∀ f : Int→MV,List.take r.length (r.map f) = r.map f := fun f=>by rw [List.take_of_length_le]; simp
   have oe : oidN (n0 :: n1 :: r) = if 2 < n0 ∨ n0 < 2 ∧ 39 < n1 ∨ n0 = 2 ∧ 1099511627776 ≤ n1 + 80 then none else some (encs ((n1 + 40 * n0) :: r)) := rfl
   show _ = some (ans53 (oidN (n0 :: n1 :: r)))
   rw [oe]
   by_cases c1 : 2 < n0
   ·have e1 : decide (2 < n0) = true := by simp; omega
    rw [if_pos (.inl c1)]
    simp (maxSteps := 4000000) (disch := first | omega | exact ok_of (by kernel_rfl) | decide) only [bA.u,seval,cut,if_pos,if_neg,V53,O53,R53,ints,zero5,p0,p1,p2,tk,Nat.add_sub_cancel,show r.length + 2 - 1 = r.length + 1 from rfl,Run_loop,List.length_map,e1]
    all_goals rfl
   have e1 : decide (2 < n0) = false := by simp; omega
   have ok : ∀ out,out = encs ((n1 + 40 * n0) :: r)→some (good53 out) = some (ans53 (some (encs ((n1 + 40 * n0) :: r)))) := fun out h=>by rw [h]; rfl
   have outs := fun K=>c53_outs ((n1 + 40 * n0) :: r) (by simp; omega) (fun n hn=>by
    rcases List.mem_cons.1 hn with rfl | hn
    ·omega
    ·have := hb n (by simp [hn]); omega) K ((n1 + 40 * n0) :: r) 2 [] 0 (.inr rfl) (fun _ h=>by cases h) rfl (by simp) (by simp)
   by_cases c2 : n0 < 2
   ·have e2 : decide (n0 < 2) = true := by simp; omega
    have e4 : (n0 == 2) = false := by simp; omega
    by_cases c3 : 39 < n1
    ·have e3 : decide (39 < n1) = true := by simp; omega
     rw [if_pos (.inr (.inl ⟨c2,c3⟩))]
     simp (maxSteps := 4000000) (disch := first | omega | exact ok_of (by kernel_rfl) | decide) only [bA.u,seval,cut,if_pos,if_neg,V53,O53,R53,ints,zero5,p0,p1,p2,tk,Nat.add_sub_cancel,show r.length + 2 - 1 = r.length + 1 from rfl,Run_loop,List.length_map,e1,e2,e3,e4]
     all_goals rfl
    ·have e3 : decide (39 < n1) = false := by simp; omega
     rw [if_neg (by omega),← ok _ rfl]
     simp (maxSteps := 4000000) (disch := first | omega | exact ok_of (by kernel_rfl) | decide) only [bA.u,seval,cut,if_pos,if_neg,V53,O53,R53,ints,zero5,p0,p1,p2,tk,Nat.add_sub_cancel,show r.length + 2 - 1 = r.length + 1 from rfl,Run_loop,List.length_map,e1,e2,e3,e4]
     refine (congrArg (fin _) (RunL_canon (canon_cong (V := V1 2 [] (ints ((n1 + 40 * n0) :: r)) (ints ((n1 + 40 * n0) :: r)).length (0 : Nat)) (O := OB 2 []) (nx := 3) (Eq.trans (by kernel_rfl) (V1len (n1 + 40 * n0) r)) (by kernel_rfl) (by kernel_rfl)))).trans ?_
     rw [outs]
     simp (maxSteps := 4000000) (disch := first | omega | exact ok_of (by kernel_rfl) | decide) only [bA.u,seval,cut,if_pos,if_neg,V1,OB,zero5,good53]
   ·have e2 : decide (n0 < 2) = false := by simp; omega
    obtain rfl : n0 = 2 := by omega
    by_cases c3 : 1099511627776 ≤ n1 + 80
    ·have e3 : decide (1099511627776 ≤ n1 + 80) = true := by simp; omega
     rw [if_pos (.inr (.inr ⟨rfl,c3⟩))]
     simp (maxSteps := 4000000) (disch := first | omega | exact ok_of (by kernel_rfl) | decide) only [bA.u,seval,cut,if_pos,if_neg,V53,O53,R53,ints,zero5,p0,p1,p2,tk,Nat.add_sub_cancel,show r.length + 2 - 1 = r.length + 1 from rfl,Run_loop,List.length_map,e1,e2,e3]
     all_goals rfl
    ·have e3 : decide (1099511627776 ≤ n1 + 80) = false := by simp; omega
     rw [if_neg (by omega),← ok _ rfl]
     simp (maxSteps := 4000000) (disch := first | omega | exact ok_of (by kernel_rfl) | decide) only [bA.u,seval,cut,if_pos,if_neg,V53,O53,R53,ints,zero5,p0,p1,p2,tk,Nat.add_sub_cancel,show r.length + 2 - 1 = r.length + 1 from rfl,Run_loop,List.length_map,e1,e2,e3]
     refine (congrArg (fin _) (RunL_canon (canon_cong (V := V1 2 [] (ints ((n1 + 40 * 2) :: r)) (ints ((n1 + 40 * 2) :: r)).length (0 : Nat)) (O := OB 2 []) (nx := 3) (Eq.trans (by kernel_rfl) (V1len (n1 + 40 * 2) r)) (by kernel_rfl) (by kernel_rfl)))).trans ?_
     rw [outs]
     simp (maxSteps := 4000000) (disch := first | omega | exact ok_of (by kernel_rfl) | decide) only [bA.u,seval,cut,if_pos,if_neg,V1,OB,zero5,good53]
end Go.Mini.Nm

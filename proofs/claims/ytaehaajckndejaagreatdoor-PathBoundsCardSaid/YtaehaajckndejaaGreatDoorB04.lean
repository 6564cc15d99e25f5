/- no chain of more than six, no pool of more than thirty-two: the law by that interpreter (part 4): what the program's functions answer, or plain laws of it; no conditions. -/
import Derived.Test.YtaehaajckndejaaGreatDoorB03
import Derived.Lib.Join
import Derived.Lib.Split
import Derived.Lib.AtoiAll
import Derived.Lib.AtoiAllCases
import Derived.Lib.ItoaNum
import Derived.Lib.ValidU
import Derived.Lib.Bytealg
import Derived.Lib.Repeat
import Derived.Lib.IndexAny
set_option linter.all false
namespace Go.Proofs.YtaehaajckndejaaGreatDoor
open Go Go.Mini Go.Proofs
set_option maxHeartbeats 4000000
set_option maxRecDepth 100000
def code : FuncId→Option MFunc
 | 3=>some m3
 | 5=>some m5
 | 7=>some m7
 | 16=>some m16
 | 20=>some m20
 | 29=>some m29
 | 30=>some m30
 | 32=>some m32
 | 33=>some m33
 | 34=>some m34
 | 35=>some m35
 | 51=>some m51
 | 52=>some m52
 | 54=>some m54
 | 55=>some m55
 | 56=>some m56
 | 57=>some m57
 | 59=>some m59
 | 72=>some m72
 | 77=>some m77
 | 78=>some m78
 | 79=>some m79
 | 80=>some m80
 | 81=>some m81
 | 82=>some m82
 | 83=>some m83
 | 85=>some m85
 | 95=>some m95
 | 126=>some m126
 | 127=>some m127
 | 132=>some m132
 | 282=>some m282
 | 283=>some m283
 | 284=>some m284
 | 285=>some m285
 | 286=>some m286
 | 287=>some m287
 | 288=>some m288
 | 289=>some m289
 | 290=>some m290
 | 291=>some m291
 | 292=>some m292
 | 293=>some m293
 | 294=>some m294
 | 295=>some m295
 | 296=>some m296
 | 297=>some m297
 | 298=>some m298
 | 299=>some m299
 | 300=>some m300
 | 301=>some m301
 | 302=>some m302
 | 303=>some m303
 | 304=>some m304
 | _=>none
theorem code_ok : ∀ (f : FuncId) (m : MFunc),code f = some m→∃ fn c tm hp,FnOK Tryz.prog f m fn c tm hp := by
 intro f m h
 unfold code at h
 split at h
 ·cases h; exact okE_ok m3o
 ·cases h; exact okE_ok m5o
 ·cases h; exact okE_ok m7o
 ·cases h; exact okE_ok m16o
 ·cases h; exact okE_ok m20o
 ·cases h; exact okE_ok m29o
 ·cases h; exact okE_ok m30o
 ·cases h; exact okE_ok m32o
 ·cases h; exact okE_ok m33o
 ·cases h; exact okE_ok m34o
 ·cases h; exact okE_ok m35o
 ·cases h; exact okE_ok m51o
 ·cases h; exact okE_ok m52o
 ·cases h; exact okE_ok m54o
 ·cases h; exact okE_ok m55o
 ·cases h; exact okE_ok m56o
 ·cases h; exact okE_ok m57o
 ·cases h; exact okE_ok m59o
 ·cases h; exact okE_ok m72o
 ·cases h; exact okE_ok m77o
 ·cases h; exact okE_ok m78o
 ·cases h; exact okE_ok m79o
 ·cases h; exact okE_ok m80o
 ·cases h; exact okE_ok m81o
 ·cases h; exact okE_ok m82o
 ·cases h; exact okE_ok m83o
 ·cases h; exact okE_ok m85o
 ·cases h; exact okE_ok m95o
 ·cases h; exact okE_ok m126o
 ·cases h; exact okE_ok m127o
 ·cases h; exact okE_ok m132o
 ·cases h; exact okE_ok m282o
 ·cases h; exact okE_ok m283o
 ·cases h; exact okE_ok m284o
 ·cases h; exact okE_ok m285o
 ·cases h; exact okE_ok m286o
 ·cases h; exact okE_ok m287o
 ·cases h; exact okE_ok m288o
 ·cases h; exact okE_ok m289o
 ·cases h; exact okE_ok m290o
 ·cases h; exact okE_ok m291o
 ·cases h; exact okE_ok m292o
 ·cases h; exact okE_ok m293o
 ·cases h; exact okE_ok m294o
 ·cases h; exact okE_ok m295o
 ·cases h; exact okE_ok m296o
 ·cases h; exact okE_ok m297o
 ·cases h; exact okE_ok m298o
 ·cases h; exact okE_ok m299o
 ·cases h; exact okE_ok m300o
 ·cases h; exact okE_ok m301o
 ·cases h; exact okE_ok m302o
 ·cases h; exact okE_ok m303o
 ·cases h; exact okE_ok m304o
 ·cases h
end Go.Proofs.YtaehaajckndejaaGreatDoor
namespace Go.Proofs.YtaehaajckndejaaGreatDoor
open Go Go.Mini Go.Proofs
def decF : Nat→Nat→List UInt8
 | 0,n=>[UInt8.ofNat (48 + n)]
 | k + 1,n=>if n < 10 then [UInt8.ofNat (48 + n)] else decF k (n / 10) ++ [UInt8.ofNat (48 + n % 10)]
def itoaL (n : Int) : List UInt8 := if n < 0 then 45 :: decF 19 n.natAbs else decF 19 n.toNat
theorem decF_eq : ∀ (k n : Nat),n < 10 ^ (k + 1)→decF k n = Lib.decDigits n
 | 0,n,h=>by
  rw [Lib.decDigits,dif_pos (by omega)]; rfl
 | k + 1,n,h=>by
  unfold decF
  rw [Lib.decDigits]
  by_cases h1 : n < 10
  ·rw [if_pos h1,dif_pos h1]
  ·rw [if_neg h1,dif_neg h1,decF_eq k (n / 10) (by rw [Nat.pow_succ] at h; omega)]
theorem itoaL_eq {n : Int} (h0 : -9223372036854775808 ≤ n) (h1 : n ≤ 9223372036854775807) : itoaL n = Lib.itoa n := by
 unfold itoaL Lib.itoa
 have e : (10 : Nat) ^ (19 + 1) = 100000000000000000000 := by decide
 split
 ·rw [decF_eq 19 _ (by omega)]
 ·rw [decF_eq 19 _ (by omega)]
def pItoa : List MV→Option MV
 | [.int .i64 n]=>some (.str (itoaL n))
 | _=>none
theorem decF_len : ∀ (k n : Nat),(decF k n).length ≤ k + 1
 | 0,n=>by simp [decF]
 | k + 1,n=>by
  unfold decF
  split
  ·simp
  ·have := decF_len k (n / 10)
   simp; omega
theorem itoaL_len (n : Int) : (itoaL n).length ≤ 21 := by
 unfold itoaL
 split
 ·have := decF_len 19 n.natAbs; simp; omega
 ·have := decF_len 19 n.toNat; omega
def pSplit : List MV→Option MV
 | [.str s,.str sep]=>if 1 ≤ sep.length ∧ s.length < 4294967281 then some (.sl 1 ((Lib.splitK sep 0 (Lib.count s sep) s).map .str)) else none
 | _=>none
theorem splitK_len (sep : List UInt8) : ∀ (k : Nat) (s : List UInt8),∀ p ∈ Lib.splitK sep 0 k s,p.length ≤ s.length
 | 0,s,p,h=>by simp [Lib.splitK] at h; subst h; exact Nat.le_refl _
 | k + 1,s,p,h=>by
  unfold Lib.splitK at h
  split at h
  ·simp at h; subst h; exact Nat.le_refl _
  ·rcases List.mem_cons.1 h with rfl | h
   ·simp; omega
   ·have := splitK_len sep k _ p h
    simp at this; omega
def atoiErr : TypeId := 276
def pAtoi : List MV→Option MV
 | [.str s]=>if s.length ≤ 281474976710656 then match Lib.atoiAll s with
  | .ok n=>if -9223372036854775808 ≤ n ∧ n ≤ 9223372036854775807 then some (.tup [.int .i64 n,.nilif]) else none
  | .range=>some (.tup [.int .i64 (Lib.atoiSat s),.iface atoiErr (.cptr [])])
  | _=>some (.tup [.int .i64 0,.iface atoiErr (.cptr [])])
  else none
 | _=>none
def pValid : List MV→Option MV
 | [.str s]=>if s.length ≤ 9223372036854775807 then some (.bool (Lib.validD s)) else none
 | _=>none
def pIndexByte : List MV→Option MV
 | [.bs (b :: l),.int .u8 c]=>some (.int .i64 (Lib.indexByte (b :: l) (UInt8.ofNat c.toNat)))
 | _=>none
def ascii (l : List UInt8) : Bool := l.all fun b=>decide (b.toNat < 128)
theorem ascii_get {l : List UInt8} (h : ascii l = true) : ∀ (j : Nat) b,l[j]? = some b→b.toNat < 128 := by
 intro j b hj
 have := List.all_eq_true.1 h b (List.mem_of_getElem? hj)
 simpa using this
def pIndexAny : List MV→Option MV
 | [.str s,.str cs]=>if s.length < 4294967281 ∧ cs.length < 4294967281 ∧ ascii s = true ∧ ascii cs = true then some (.int .i64 (Lib.indexAny s cs)) else none
 | _=>none
def pRepeat : List MV→Option MV
 | [.str s,.int .i64 c]=>if 0 ≤ c ∧ c ≤ 9223372036854775807 ∧ s.length * c.toNat ≤ 140737488355328 then some (.str (Lib.repeatL s c.toNat)) else none
 | _=>none
def pCut : List MV→Option MV
 | [.str s,.str sep]=>if s.length < 4294967281 then some (.tup [.str (Lib.cut s sep).1,.str (Lib.cut s sep).2.1,.bool (Lib.cut s sep).2.2]) else none
 | _=>none
theorem cut_len (s sep : List UInt8) : (Lib.cut s sep).1.length ≤ s.length ∧ (Lib.cut s sep).2.1.length ≤ s.length := by
 unfold Lib.cut
 split
 ·simp; omega
 ·simp
def prims0 : FuncId→Option (List MV→Option MV)
 | 124=>some pAtoi
 | 125=>some pItoa
 | 58=>some pSplit
 | 128=>some pValid
 | 184=>some pIndexByte
 | 305=>some pRepeat
 | 39=>some pCut
 | 41=>some pIndexAny
 | _=>none
def Q0 : Mini.Prog := ⟨code,prims0⟩
def zc : MV := .agg [.int .i64 0,.int .i64 0,.nilsl,.nilsl,.int .i64 0,.int .i64 0,.int .i64 0,.nilsl,.bool false,.int .i64 0,.int .i64 0,.nilsl,.nilsl,.nilsl,.nilsl]
def isZc : MV→Bool
 | .agg [.int .i64 a,.int .i64 b,.nilsl,.nilsl,.int .i64 c,.int .i64 d,.int .i64 e,.nilsl,.bool f,.int .i64 g,.int .i64 h,.nilsl,.nilsl,.nilsl,.nilsl]=>a == 0 && b == 0 && c == 0 && d == 0 && e == 0 && !f && g == 0 && h == 0
 | _=>false
def zcs : MV→Option Nat
 | .nilsl=>some 0
 | .sl 15 l=>if l.all isZc = true ∧ l.length < 1000000 then some l.length else none
 | _=>none
def zcC : MV→Option Nat
 | .fsl 15 l=>zcs (.sl 15 l)
 | v=>zcs v
def pVal (e : Nat→Option Int) : List MV→Option MV
 | [c,r,.int .i64 0]=>match zcC c,zcs r with
  | some n,some m=>if n = 0 ∨ 6 < n then some (.int .i64 45) else (e m).map (.int .i64)
  | _,_=>none
 | _=>none
end Go.Proofs.YtaehaajckndejaaGreatDoor
namespace Go.Proofs.YtaehaajckndejaaGreatDoor
open Go Go.Mini Go.Proofs
def pVal1 := pVal fun m=>if m = 0 then some 46 else some 40
def prims : FuncId→Option (List MV→Option MV)
 | 124=>some pAtoi
 | 125=>some pItoa
 | 58=>some pSplit
 | 128=>some pValid
 | 184=>some pIndexByte
 | 305=>some pRepeat
 | 39=>some pCut
 | 41=>some pIndexAny
 | 6=>some pVal1
 | _=>none
def Q : Mini.Prog := ⟨code,prims⟩
end Go.Proofs.YtaehaajckndejaaGreatDoor

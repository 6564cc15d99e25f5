/- The table of Mini's code. -/
import Derived.Test.YtncpjcojnjbhlaaGreatDoorC0
namespace Go.Proofs.YtncpjcojnjbhlaaGreatDoor
open Go Go.Mini Go.Proofs
def code : FuncId → Option MFunc
  | 3 => some m3
  | 8 => some m8
  | 9 => some m9
  | 10 => some m10
  | 11 => some m11
  | 12 => some m12
  | 14 => some m14
  | 19 => some m19
  | 20 => some m20
  | 21 => some m21
  | 22 => some m22
  | 24 => some m24
  | 26 => some m26
  | 27 => some m27
  | 28 => some m28
  | 29 => some m29
  | 30 => some m30
  | 32 => some m32
  | 34 => some m34
  | 35 => some m35
  | 36 => some m36
  | 37 => some m37
  | 38 => some m38
  | 39 => some m39
  | 40 => some m40
  | 41 => some m41
  | 42 => some m42
  | 43 => some m43
  | 44 => some m44
  | 46 => some m46
  | 47 => some m47
  | 51 => some m51
  | 52 => some m52
  | 53 => some m53
  | 54 => some m54
  | 55 => some m55
  | 56 => some m56
  | 58 => some m58
  | 59 => some m59
  | 65 => some m65
  | 66 => some m66
  | 67 => some m67
  | 73 => some m73
  | 74 => some m74
  | 75 => some m75
  | 76 => some m76
  | 77 => some m77
  | 78 => some m78
  | 79 => some m79
  | 81 => some m81
  | 84 => some m84
  | 85 => some m85
  | 86 => some m86
  | 87 => some m87
  | 96 => some m96
  | 97 => some m97
  | 103 => some m103
  | 104 => some m104
  | 109 => some m109
  | 124 => some m124
  | 127 => some m127
  | 150 => some m150
  | 151 => some m151
  | 152 => some m152
  | 153 => some m153
  | 154 => some m154
  | 155 => some m155
  | 157 => some m157
  | 158 => some m158
  | 159 => some m159
  | 160 => some m160
  | 161 => some m161
  | 162 => some m162
  | 163 => some m163
  | 175 => some m175
  | 176 => some m176
  | _ => none
theorem code_ok : ∀ (f : FuncId) (m : MFunc), code f = some m → ∃ fn c tm, FnOK Tryz.prog f m fn c tm := by
  intro f m h
  unfold code at h
  split at h
  · cases h; exact okE_ok m3o
  · cases h; exact okE_ok m8o
  · cases h; exact okE_ok m9o
  · cases h; exact okE_ok m10o
  · cases h; exact okE_ok m11o
  · cases h; exact okE_ok m12o
  · cases h; exact okE_ok m14o
  · cases h; exact okE_ok m19o
  · cases h; exact okE_ok m20o
  · cases h; exact okE_ok m21o
  · cases h; exact okE_ok m22o
  · cases h; exact okE_ok m24o
  · cases h; exact okE_ok m26o
  · cases h; exact okE_ok m27o
  · cases h; exact okE_ok m28o
  · cases h; exact okE_ok m29o
  · cases h; exact okE_ok m30o
  · cases h; exact okE_ok m32o
  · cases h; exact okE_ok m34o
  · cases h; exact okE_ok m35o
  · cases h; exact okE_ok m36o
  · cases h; exact okE_ok m37o
  · cases h; exact okE_ok m38o
  · cases h; exact okE_ok m39o
  · cases h; exact okE_ok m40o
  · cases h; exact okE_ok m41o
  · cases h; exact okE_ok m42o
  · cases h; exact okE_ok m43o
  · cases h; exact okE_ok m44o
  · cases h; exact okE_ok m46o
  · cases h; exact okE_ok m47o
  · cases h; exact okE_ok m51o
  · cases h; exact okE_ok m52o
  · cases h; exact okE_ok m53o
  · cases h; exact okE_ok m54o
  · cases h; exact okE_ok m55o
  · cases h; exact okE_ok m56o
  · cases h; exact okE_ok m58o
  · cases h; exact okE_ok m59o
  · cases h; exact okE_ok m65o
  · cases h; exact okE_ok m66o
  · cases h; exact okE_ok m67o
  · cases h; exact okE_ok m73o
  · cases h; exact okE_ok m74o
  · cases h; exact okE_ok m75o
  · cases h; exact okE_ok m76o
  · cases h; exact okE_ok m77o
  · cases h; exact okE_ok m78o
  · cases h; exact okE_ok m79o
  · cases h; exact okE_ok m81o
  · cases h; exact okE_ok m84o
  · cases h; exact okE_ok m85o
  · cases h; exact okE_ok m86o
  · cases h; exact okE_ok m87o
  · cases h; exact okE_ok m96o
  · cases h; exact okE_ok m97o
  · cases h; exact okE_ok m103o
  · cases h; exact okE_ok m104o
  · cases h; exact okE_ok m109o
  · cases h; exact okE_ok m124o
  · cases h; exact okE_ok m127o
  · cases h; exact okE_ok m150o
  · cases h; exact okE_ok m151o
  · cases h; exact okE_ok m152o
  · cases h; exact okE_ok m153o
  · cases h; exact okE_ok m154o
  · cases h; exact okE_ok m155o
  · cases h; exact okE_ok m157o
  · cases h; exact okE_ok m158o
  · cases h; exact okE_ok m159o
  · cases h; exact okE_ok m160o
  · cases h; exact okE_ok m161o
  · cases h; exact okE_ok m162o
  · cases h; exact okE_ok m163o
  · cases h; exact okE_ok m175o
  · cases h; exact okE_ok m176o
  · cases h
end Go.Proofs.YtncpjcojnjbhlaaGreatDoor

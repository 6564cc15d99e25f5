/- The table of Mini's code. -/
import Derived.Test.YtncpjcojnjbhlaaGreatDoorC0
import Derived.Test.YtncpjcojnjbhlaaGreatDoorC1
namespace Go.Proofs.YtncpjcojnjbhlaaGreatDoor
open Go Go.Mini Go.Proofs
def code : FuncId → Option MFunc
  | 3 => some m3
  | 4 => some m4
  | 5 => some m5
  | 6 => some m6
  | 7 => some m7
  | 8 => some m8
  | 9 => some m9
  | 10 => some m10
  | 11 => some m11
  | 12 => some m12
  | 13 => some m13
  | 14 => some m14
  | 15 => some m15
  | 16 => some m16
  | 17 => some m17
  | 18 => some m18
  | 19 => some m19
  | 20 => some m20
  | 21 => some m21
  | 22 => some m22
  | 23 => some m23
  | 24 => some m24
  | 25 => some m25
  | 26 => some m26
  | 27 => some m27
  | 28 => some m28
  | 29 => some m29
  | 30 => some m30
  | 32 => some m32
  | 34 => some m34
  | 35 => some m35
  | 36 => some m36
  | 37 => some m37
  | 38 => some m38
  | 39 => some m39
  | 40 => some m40
  | 41 => some m41
  | 42 => some m42
  | 43 => some m43
  | 44 => some m44
  | 45 => some m45
  | 46 => some m46
  | 47 => some m47
  | 48 => some m48
  | 49 => some m49
  | 50 => some m50
  | 51 => some m51
  | 52 => some m52
  | 53 => some m53
  | 54 => some m54
  | 55 => some m55
  | 56 => some m56
  | 57 => some m57
  | 58 => some m58
  | 59 => some m59
  | 60 => some m60
  | 65 => some m65
  | 66 => some m66
  | 67 => some m67
  | 73 => some m73
  | 74 => some m74
  | 75 => some m75
  | 76 => some m76
  | 77 => some m77
  | 78 => some m78
  | 79 => some m79
  | 81 => some m81
  | 82 => some m82
  | 83 => some m83
  | 84 => some m84
  | 85 => some m85
  | 86 => some m86
  | 87 => some m87
  | 96 => some m96
  | 97 => some m97
  | 103 => some m103
  | 104 => some m104
  | 108 => some m108
  | 109 => some m109
  | 124 => some m124
  | 127 => some m127
  | 131 => some m131
  | 132 => some m132
  | 133 => some m133
  | 150 => some m150
  | 151 => some m151
  | 152 => some m152
  | 153 => some m153
  | 154 => some m154
  | 155 => some m155
  | 157 => some m157
  | 158 => some m158
  | 159 => some m159
  | 160 => some m160
  | 161 => some m161
  | 162 => some m162
  | 163 => some m163
  | 165 => some m165
  | 175 => some m175
  | 176 => some m176
  | 177 => some m177
  | 180 => some m180
  | _ => none
theorem code_ok : ∀ (f : FuncId) (m : MFunc), code f = some m → ∃ fn c tm, FnOK Tryz.prog f m fn c tm := by
  intro f m h
  unfold code at h
  split at h
  · cases h; exact okFn_ok m3o
  · cases h; exact okFn_ok m4o
  · cases h; exact okFn_ok m5o
  · cases h; exact okFn_ok m6o
  · cases h; exact okFn_ok m7o
  · cases h; exact okFn_ok m8o
  · cases h; exact okFn_ok m9o
  · cases h; exact okFn_ok m10o
  · cases h; exact okFn_ok m11o
  · cases h; exact okFn_ok m12o
  · cases h; exact okFn_ok m13o
  · cases h; exact okFn_ok m14o
  · cases h; exact okFn_ok m15o
  · cases h; exact okFn_ok m16o
  · cases h; exact okFn_ok m17o
  · cases h; exact okFn_ok m18o
  · cases h; exact okFn_ok m19o
  · cases h; exact okFn_ok m20o
  · cases h; exact okFn_ok m21o
  · cases h; exact okFn_ok m22o
  · cases h; exact okFn_ok m23o
  · cases h; exact okFn_ok m24o
  · cases h; exact okFn_ok m25o
  · cases h; exact okFn_ok m26o
  · cases h; exact okFn_ok m27o
  · cases h; exact okFn_ok m28o
  · cases h; exact okFn_ok m29o
  · cases h; exact okFn_ok m30o
  · cases h; exact okFn_ok m32o
  · cases h; exact okFn_ok m34o
  · cases h; exact okFn_ok m35o
  · cases h; exact okFn_ok m36o
  · cases h; exact okFn_ok m37o
  · cases h; exact okFn_ok m38o
  · cases h; exact okFn_ok m39o
  · cases h; exact okFn_ok m40o
  · cases h; exact okFn_ok m41o
  · cases h; exact okFn_ok m42o
  · cases h; exact okFn_ok m43o
  · cases h; exact okFn_ok m44o
  · cases h; exact okFn_ok m45o
  · cases h; exact okFn_ok m46o
  · cases h; exact okFn_ok m47o
  · cases h; exact okFn_ok m48o
  · cases h; exact okFn_ok m49o
  · cases h; exact okFn_ok m50o
  · cases h; exact okFn_ok m51o
  · cases h; exact okFn_ok m52o
  · cases h; exact okFn_ok m53o
  · cases h; exact okFn_ok m54o
  · cases h; exact okFn_ok m55o
  · cases h; exact okFn_ok m56o
  · cases h; exact okFn_ok m57o
  · cases h; exact okFn_ok m58o
  · cases h; exact okFn_ok m59o
  · cases h; exact okFn_ok m60o
  · cases h; exact okFn_ok m65o
  · cases h; exact okFn_ok m66o
  · cases h; exact okFn_ok m67o
  · cases h; exact okFn_ok m73o
  · cases h; exact okFn_ok m74o
  · cases h; exact okFn_ok m75o
  · cases h; exact okFn_ok m76o
  · cases h; exact okFn_ok m77o
  · cases h; exact okFn_ok m78o
  · cases h; exact okFn_ok m79o
  · cases h; exact okFn_ok m81o
  · cases h; exact okFn_ok m82o
  · cases h; exact okFn_ok m83o
  · cases h; exact okFn_ok m84o
  · cases h; exact okFn_ok m85o
  · cases h; exact okFn_ok m86o
  · cases h; exact okFn_ok m87o
  · cases h; exact okFn_ok m96o
  · cases h; exact okFn_ok m97o
  · cases h; exact okFn_ok m103o
  · cases h; exact okFn_ok m104o
  · cases h; exact okFn_ok m108o
  · cases h; exact okFn_ok m109o
  · cases h; exact okFn_ok m124o
  · cases h; exact okFn_ok m127o
  · cases h; exact okFn_ok m131o
  · cases h; exact okFn_ok m132o
  · cases h; exact okFn_ok m133o
  · cases h; exact okFn_ok m150o
  · cases h; exact okFn_ok m151o
  · cases h; exact okFn_ok m152o
  · cases h; exact okFn_ok m153o
  · cases h; exact okFn_ok m154o
  · cases h; exact okFn_ok m155o
  · cases h; exact okFn_ok m157o
  · cases h; exact okFn_ok m158o
  · cases h; exact okFn_ok m159o
  · cases h; exact okFn_ok m160o
  · cases h; exact okFn_ok m161o
  · cases h; exact okFn_ok m162o
  · cases h; exact okFn_ok m163o
  · cases h; exact okFn_ok m165o
  · cases h; exact okFn_ok m175o
  · cases h; exact okFn_ok m176o
  · cases h; exact okFn_ok m177o
  · cases h; exact okFn_ok m180o
  · cases h
end Go.Proofs.YtncpjcojnjbhlaaGreatDoor

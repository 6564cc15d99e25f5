/- Mini's code of functions of the program, and that it is theirs. -/
import Derived.Test.YtncpjcojnjbhlaaGreatDoorM1
import Derived.Test.YtncpjcojnjbhlaaGreatDoorProg
namespace Go.Proofs.YtncpjcojnjbhlaaGreatDoor
open Go Go.Mini Go.Proofs
set_option maxRecDepth 100000
def m83 : MFunc := ⟨1, [.other], [(2, none, .other)],
 .seq (.rg [⟨some (.v 2), .mv (.c (.str [])), none⟩])
  (.seq (.seq (.rg [⟨some (.t 3), .mv (.v 0), none⟩,
   ⟨some (.v 4), .bin .lss (.t 3) (.c (.int .i64 10)), none⟩])
   (.cond (.v 4) (.seq (.rg [⟨some (.t 5), .mv (.v 0), none⟩,
   ⟨some (.t 6), .bin .add (.c (.int .i64 48)) (.t 5), none⟩,
   ⟨some (.t 7), .conv .u8 (.t 6), none⟩,
   ⟨some (.t 8), .bslB 1 [(0, .t 7)], none⟩,
   ⟨some (.t 9), .b2s (.t 8), none⟩,
   ⟨some (.v 2), .mv (.t 9), none⟩])
   (.ret))
   (.skip)))
   (.seq (.rgd [⟨some (.t 10), .mv (.v 0), none⟩,
   ⟨some (.t 11), .bin .quo (.t 10) (.c (.int .i64 10)), none⟩,
   ⟨some (.t 12), .call 83 [.t 11], none⟩,
   ⟨some (.t 13), .mv (.v 0), none⟩,
   ⟨some (.t 14), .bin .rem (.t 13) (.c (.int .i64 10)), none⟩,
   ⟨some (.t 15), .bin .add (.c (.int .i64 48)) (.t 14), none⟩,
   ⟨some (.t 16), .conv .u8 (.t 15), none⟩,
   ⟨some (.t 17), .bslB 1 [(0, .t 16)], none⟩,
   ⟨some (.t 18), .b2s (.t 17), none⟩,
   ⟨some (.t 19), .bin .add (.t 12) (.t 18), none⟩,
   ⟨some (.v 2), .mv (.t 19), none⟩]
   [[], [0], [0, 1], [], [3], [3, 4], [3, 4, 5], [3, 4, 5, 6], [3, 4, 5, 6, 7], [0, 1, 2, 3, 4, 5, 6, 7, 8], [0, 1, 2, 3, 4, 5, 6, 7, 8, 9]])
   (.ret)))⟩
theorem m83o : okFn Tryz.prog 83 [3, 5, 6, 7, 8, 9, 10, 11, 12, 13, 14, 15, 16, 17, 18, 19] [] [[[], [0], [0, 1], [], [3], [3, 4], [3, 4, 5], [3, 4, 5, 6], [3, 4, 5, 6, 7], [0, 1, 2, 3, 4, 5, 6, 7, 8], [0, 1, 2, 3, 4, 5, 6, 7, 8, 9]]] m83.nargs m83.params m83.results = some m83.body := by kernel_rfl

def m84k0 : List (Nat × KMode) := [(0, .plain), (3, .plain)]
def m84b0 : MCode :=
 .seq (.seq (.rg [⟨some (.t 5), .mv (.v 3), none⟩,
   ⟨some (.t 6), .mv (.v 0), none⟩,
   ⟨some (.t 7), .len false (.t 6), none⟩,
   ⟨some (.v 8), .bin .lss (.t 5) (.t 7), none⟩])
   (.cond (.v 8) (.skip)
   (.exit 0)))
  (.block 1 (.seq (.rg [⟨some (.t 9), .mv (.v 0), none⟩,
   ⟨some (.t 10), .mv (.v 3), none⟩,
   ⟨some (.t 11), .call 109 [.t 9, .t 10], none⟩,
   ⟨some (.v 4), .mv (.t 11), none⟩])
   (.seq (.seq (.rg [⟨some (.t 12), .mv (.v 4), none⟩,
   ⟨some (.v 13), .bin .eql (.t 12) (.c (.int .i64 0)), none⟩])
   (.cond (.v 13) (.seq (.rg [⟨some (.v 2), .mv (.c (.bool false)), none⟩])
   (.ret))
   (.skip)))
   (.rg [⟨some (.t 14), .mv (.v 3), none⟩,
   ⟨some (.t 15), .mv (.v 4), none⟩,
   ⟨some (.t 16), .bin .add (.t 14) (.t 15), none⟩,
   ⟨some (.v 3), .mv (.t 16), none⟩]))))
def m84 : MFunc := ⟨1, [.byt], [(2, none, .other)],
 .seq (.rg [⟨some (.v 2), .mv (.c (.bool false)), none⟩])
  (.seq (.rg [⟨some (.v 3), .mv (.c (.int .i64 0)), none⟩])
   (.seq (.block 0 (.loop m84k0 m84b0))
   (.seq (.rg [⟨some (.v 2), .mv (.c (.bool true)), none⟩])
   (.ret))))⟩
theorem m84o : okFn Tryz.prog 84 [5, 6, 7, 9, 10, 11, 12, 14, 15, 16] [m84k0] [] m84.nargs m84.params m84.results = some m84.body := by kernel_rfl

def m85k0 : List (Nat × KMode) := [(0, .plain), (3, .plain), (4, .plain)]
def m85b0 : MCode :=
 .seq (.seq (.rg [⟨some (.t 27), .mv (.v 4), none⟩,
   ⟨some (.t 28), .mv (.v 3), none⟩,
   ⟨some (.t 29), .len true (.t 28), none⟩,
   ⟨some (.v 30), .bin .lss (.t 27) (.t 29), none⟩])
   (.cond (.v 30) (.skip)
   (.exit 0)))
  (.seq (.block 1 (.seq (.rg [⟨some (.t 33), .mv (.v 3), none⟩,
   ⟨some (.t 34), .mv (.v 4), none⟩,
   ⟨some (.t 35), .idxS (.t 33) (.t 34), none⟩,
   ⟨some (.t 36), .mv (.v 0), none⟩,
   ⟨some (.v 37), .bin .eql (.t 35) (.t 36), none⟩])
   (.cond (.v 37) (.seq (.rg [⟨some (.v 2), .mv (.c (.bool true)), none⟩])
   (.ret))
   (.skip))))
   (.rg [⟨some (.t 31), .mv (.v 4), none⟩,
   ⟨some (.t 32), .bin .add (.t 31) (.c (.int .i64 1)), none⟩,
   ⟨some (.v 4), .mv (.t 32), none⟩]))
def m85 : MFunc := ⟨1, [.other], [(2, none, .other)],
 .seq (.rg [⟨some (.v 2), .mv (.c (.bool false)), none⟩])
  (.seq (.seq (.rg [⟨some (.t 5), .mv (.v 0), none⟩,
   ⟨some (.t 6), .bin .geq (.t 5) (.c (.int .u8 97)), none⟩,
   ⟨some (.t 7), .mv (.t 6), none⟩,
   ⟨some (.t 8), .mv (.v 0), some (.t 7, true)⟩,
   ⟨some (.t 9), .bin .leq (.t 8) (.c (.int .u8 122)), some (.t 7, true)⟩,
   ⟨some (.t 10), .pick (.t 7) (.t 9) (.c (.bool false)), none⟩,
   ⟨some (.t 11), .mv (.t 10), none⟩,
   ⟨some (.t 12), .mv (.v 0), some (.t 11, false)⟩,
   ⟨some (.t 13), .bin .geq (.t 12) (.c (.int .u8 65)), some (.t 11, false)⟩,
   ⟨some (.t 14), .mv (.t 13), some (.t 11, false)⟩,
   ⟨some (.t 15), .mv (.v 0), some (.t 14, true)⟩,
   ⟨some (.t 16), .bin .leq (.t 15) (.c (.int .u8 90)), some (.t 14, true)⟩,
   ⟨some (.t 17), .pick (.t 14) (.t 16) (.c (.bool false)), some (.t 11, false)⟩,
   ⟨some (.t 18), .pick (.t 11) (.c (.bool true)) (.t 17), none⟩,
   ⟨some (.t 19), .mv (.t 18), none⟩,
   ⟨some (.t 20), .mv (.v 0), some (.t 19, false)⟩,
   ⟨some (.t 21), .bin .geq (.t 20) (.c (.int .u8 48)), some (.t 19, false)⟩,
   ⟨some (.t 22), .mv (.t 21), some (.t 19, false)⟩,
   ⟨some (.t 23), .mv (.v 0), some (.t 22, true)⟩,
   ⟨some (.t 24), .bin .leq (.t 23) (.c (.int .u8 57)), some (.t 22, true)⟩,
   ⟨some (.t 25), .pick (.t 22) (.t 24) (.c (.bool false)), some (.t 19, false)⟩,
   ⟨some (.v 26), .pick (.t 19) (.c (.bool true)) (.t 25), none⟩])
   (.cond (.v 26) (.seq (.rg [⟨some (.v 2), .mv (.c (.bool true)), none⟩])
   (.ret))
   (.skip)))
   (.seq (.rg [⟨some (.v 3), .mv (.c (.str [32, 39, 40, 41, 43, 44, 45, 46, 47, 58, 61, 63])), none⟩])
   (.seq (.seq (.rg [⟨some (.v 4), .mv (.c (.int .i64 0)), none⟩])
   (.block 0 (.loop m85k0 m85b0)))
   (.seq (.rg [⟨some (.v 2), .mv (.c (.bool false)), none⟩])
   (.ret)))))⟩
theorem m85o : okFn Tryz.prog 85 [5, 6, 7, 8, 9, 10, 11, 12, 13, 14, 15, 16, 17, 18, 19, 20, 21, 22, 23, 24, 25, 27, 28, 29, 31, 32, 33, 34, 35, 36] [m85k0] [] m85.nargs m85.params m85.results = some m85.body := by kernel_rfl

def m86k0 : List (Nat × KMode) := [(0, .plain), (1, .plain), (7, .plain), (8, .plain)]
def m86b0 : MCode :=
 .seq (.rg [⟨some (.v 9), .bin .lss (.v 8) (.v 7), none⟩])
  (.seq (.cond (.v 9) (.skip)
   (.exit 0))
   (.seq (.block 1 (.seq (.rg [⟨some (.t 10), .mv (.v 8), none⟩,
   ⟨some (.v 5), .mv (.t 10), none⟩])
   (.seq (.rg [⟨some (.t 11), .mv (.v 1), none⟩,
   ⟨some (.t 12), .mv (.v 0), none⟩,
   ⟨some (.t 13), .mv (.v 5), none⟩,
   ⟨some (.t 14), .iad 2 (.t 12) (.t 13), none⟩,
   ⟨some (.t 15), .load true 2 (.t 14), none⟩,
   ⟨some (.v 16), .callv (.t 11) [.t 15], none⟩])
   (.cond (.v 16) (.seq (.rg [⟨some (.t 17), .mv (.v 5), none⟩,
   ⟨some (.v 4), .mv (.t 17), none⟩])
   (.ret))
   (.skip)))))
   (.rg [⟨some (.t 18), .bin .add (.v 8) (.c (.int .i64 1)), none⟩,
   ⟨some (.v 8), .mv (.t 18), none⟩])))
def m86 : MFunc := ⟨2, [.el 2, .other], [(4, none, .other)],
 .seq (.rg [⟨some (.v 4), .mv (.c (.int .i64 0)), none⟩])
  (.seq (.seq (.rg [⟨some (.t 6), .mv (.v 0), none⟩,
   ⟨some (.v 7), .len false (.t 6), none⟩,
   ⟨some (.v 8), .mv (.c (.int .i64 0)), none⟩])
   (.block 0 (.loop m86k0 m86b0)))
   (.seq (.rg [⟨some (.v 4), .mv (.c (.int .i64 (-1))), none⟩])
   (.ret)))⟩
theorem m86o : okFn Tryz.prog 86 [6, 10, 11, 12, 13, 14, 15, 17, 18] [m86k0] [] m86.nargs m86.params m86.results = some m86.body := by kernel_rfl

def m87k1 : List (Nat × KMode) := [(0, .plain), (4, (.ownE 1)), (6, .plain), (7, .plain), (8, .plain), (9, .plain)]
def m87b1 : MCode :=
 .seq (.seq (.rg [⟨some (.t 58), .mv (.v 9), none⟩,
   ⟨some (.t 59), .mv (.v 7), none⟩,
   ⟨some (.t 60), .len true (.t 59), none⟩,
   ⟨some (.v 61), .bin .lss (.t 58) (.t 60), none⟩])
   (.cond (.v 61) (.skip)
   (.exit 2)))
  (.seq (.block 3 (.rg [⟨some (.t 64), .mv (.v 8), none⟩,
   ⟨some (.t 65), .bin .mul (.c (.int .i64 10)) (.t 64), none⟩,
   ⟨some (.t 66), .mv (.v 7), none⟩,
   ⟨some (.t 67), .mv (.v 9), none⟩,
   ⟨some (.t 68), .idxS (.t 66) (.t 67), none⟩,
   ⟨some (.t 69), .conv .i64 (.t 68), none⟩,
   ⟨some (.t 70), .bin .add (.t 65) (.t 69), none⟩,
   ⟨some (.t 71), .bin .sub (.t 70) (.c (.int .i64 48)), none⟩,
   ⟨some (.v 8), .mv (.t 71), none⟩]))
   (.rg [⟨some (.t 62), .mv (.v 9), none⟩,
   ⟨some (.t 63), .bin .add (.t 62) (.c (.int .i64 1)), none⟩,
   ⟨some (.v 9), .mv (.t 63), none⟩]))
def m87k0 : List (Nat × KMode) := [(0, .plain), (4, (.ownE 1)), (5, .plain), (6, .plain)]
def m87b0 : MCode :=
 .seq (.seq (.rg [⟨some (.t 10), .mv (.v 6), none⟩,
   ⟨some (.t 11), .mv (.v 0), none⟩,
   ⟨some (.t 12), .len true (.t 11), none⟩,
   ⟨some (.v 13), .bin .leq (.t 10) (.t 12), none⟩])
   (.cond (.v 13) (.skip)
   (.exit 0)))
  (.seq (.block 1 (.seq (.seq (.rg [⟨some (.t 16), .mv (.v 6), none⟩,
   ⟨some (.t 17), .mv (.v 0), none⟩,
   ⟨some (.t 18), .len true (.t 17), none⟩,
   ⟨some (.t 19), .bin .lss (.t 16) (.t 18), none⟩,
   ⟨some (.t 20), .mv (.t 19), none⟩,
   ⟨some (.t 21), .mv (.v 0), some (.t 20, true)⟩,
   ⟨some (.t 22), .mv (.v 6), some (.t 20, true)⟩,
   ⟨some (.t 23), .idxS (.t 21) (.t 22), some (.t 20, true)⟩,
   ⟨some (.t 24), .bin .neq (.t 23) (.c (.int .u8 46)), some (.t 20, true)⟩,
   ⟨some (.v 25), .pick (.t 20) (.t 24) (.c (.bool false)), none⟩])
   (.cond (.v 25) (.seq (.seq (.rg [⟨some (.t 26), .mv (.v 0), none⟩,
   ⟨some (.t 27), .mv (.v 6), none⟩,
   ⟨some (.t 28), .idxS (.t 26) (.t 27), none⟩,
   ⟨some (.t 29), .bin .lss (.t 28) (.c (.int .u8 48)), none⟩,
   ⟨some (.t 30), .mv (.t 29), none⟩,
   ⟨some (.t 31), .mv (.v 0), some (.t 30, false)⟩,
   ⟨some (.t 32), .mv (.v 6), some (.t 30, false)⟩,
   ⟨some (.t 33), .idxS (.t 31) (.t 32), some (.t 30, false)⟩,
   ⟨some (.t 34), .bin .gtr (.t 33) (.c (.int .u8 57)), some (.t 30, false)⟩,
   ⟨some (.v 35), .pick (.t 30) (.c (.bool true)) (.t 34), none⟩])
   (.cond (.v 35) (.seq (.rg [⟨some (.v 2), .mv (.c (.nilsl)), none⟩,
   ⟨some (.v 3), .mv (.c (.bool false)), none⟩])
   (.ret))
   (.skip)))
   (.exit 1))
   (.skip)))
   (.seq (.rg [⟨some (.t 36), .mv (.v 0), none⟩,
   ⟨some (.t 37), .mv (.v 5), none⟩,
   ⟨some (.t 38), .mv (.v 6), none⟩,
   ⟨some (.t 39), .slc true 1 (.t 36) (some (.t 37)) (some (.t 38)), none⟩,
   ⟨some (.v 7), .mv (.t 39), none⟩])
   (.seq (.seq (.rg [⟨some (.t 40), .mv (.v 7), none⟩,
   ⟨some (.t 41), .len true (.t 40), none⟩,
   ⟨some (.t 42), .bin .eql (.t 41) (.c (.int .i64 0)), none⟩,
   ⟨some (.t 43), .mv (.t 42), none⟩,
   ⟨some (.t 44), .mv (.v 7), some (.t 43, false)⟩,
   ⟨some (.t 45), .len true (.t 44), some (.t 43, false)⟩,
   ⟨some (.t 46), .bin .gtr (.t 45) (.c (.int .i64 13)), some (.t 43, false)⟩,
   ⟨some (.t 47), .pick (.t 43) (.c (.bool true)) (.t 46), none⟩,
   ⟨some (.t 48), .mv (.t 47), none⟩,
   ⟨some (.t 49), .mv (.v 7), some (.t 48, false)⟩,
   ⟨some (.t 50), .len true (.t 49), some (.t 48, false)⟩,
   ⟨some (.t 51), .bin .gtr (.t 50) (.c (.int .i64 1)), some (.t 48, false)⟩,
   ⟨some (.t 52), .mv (.t 51), some (.t 48, false)⟩,
   ⟨some (.t 53), .mv (.v 7), some (.t 52, true)⟩,
   ⟨some (.t 54), .idxS (.t 53) (.c (.int .i64 0)), some (.t 52, true)⟩,
   ⟨some (.t 55), .bin .eql (.t 54) (.c (.int .u8 48)), some (.t 52, true)⟩,
   ⟨some (.t 56), .pick (.t 52) (.t 55) (.c (.bool false)), some (.t 48, false)⟩,
   ⟨some (.v 57), .pick (.t 48) (.c (.bool true)) (.t 56), none⟩])
   (.cond (.v 57) (.seq (.rg [⟨some (.v 2), .mv (.c (.nilsl)), none⟩,
   ⟨some (.v 3), .mv (.c (.bool false)), none⟩])
   (.ret))
   (.skip)))
   (.seq (.rg [⟨some (.v 8), .mv (.c (.int .i64 0)), none⟩])
   (.seq (.seq (.rg [⟨some (.v 9), .mv (.c (.int .i64 0)), none⟩])
   (.block 2 (.loop m87k1 m87b1)))
   (.seq (.seq (.rg [⟨some (.t 72), .mv (.v 8), none⟩,
   ⟨some (.v 73), .bin .geq (.t 72) (.c (.int .i64 1099511627776)), none⟩])
   (.cond (.v 73) (.seq (.rg [⟨some (.v 2), .mv (.c (.nilsl)), none⟩,
   ⟨some (.v 3), .mv (.c (.bool false)), none⟩])
   (.ret))
   (.skip)))
   (.seq (.rg [⟨some (.t 74), .mv (.v 4), none⟩,
   ⟨some (.t 75), .mv (.v 8), none⟩,
   ⟨some (.t 76), .bslE 1 (.int .i64 0) 1 [(0, .t 75)], none⟩,
   ⟨some (.t 77), .app false 1 8 (.t 74) (.t 76), none⟩,
   ⟨some (.v 4), .mv (.t 77), none⟩])
   (.rg [⟨some (.t 78), .mv (.v 6), none⟩,
   ⟨some (.t 79), .bin .add (.t 78) (.c (.int .i64 1)), none⟩,
   ⟨some (.v 5), .mv (.t 79), none⟩])))))))))
   (.rg [⟨some (.t 14), .mv (.v 6), none⟩,
   ⟨some (.t 15), .bin .add (.t 14) (.c (.int .i64 1)), none⟩,
   ⟨some (.v 6), .mv (.t 15), none⟩]))
def m87 : MFunc := ⟨1, [.other], [(2, none, .el 1), (3, none, .other)],
 .seq (.rg [⟨some (.v 2), .mv (.c (.nilsl)), none⟩,
   ⟨some (.v 3), .mv (.c (.bool false)), none⟩])
  (.seq (.rg [⟨some (.v 4), .mv (.c (.nilsl)), none⟩])
   (.seq (.rg [⟨some (.v 5), .mv (.c (.int .i64 0)), none⟩])
   (.seq (.seq (.rg [⟨some (.v 6), .mv (.c (.int .i64 0)), none⟩])
   (.block 0 (.loop m87k0 m87b0)))
   (.seq (.rg [⟨some (.t 80), .mv (.v 4), none⟩,
   ⟨some (.t 81), .mv (.v 4), none⟩,
   ⟨some (.t 82), .len false (.t 81), none⟩,
   ⟨some (.t 83), .bin .geq (.t 82) (.c (.int .i64 2)), none⟩,
   ⟨some (.t 84), .mv (.t 83), none⟩,
   ⟨some (.t 85), .mv (.v 4), some (.t 84, true)⟩,
   ⟨some (.t 86), .len false (.t 85), some (.t 84, true)⟩,
   ⟨some (.t 87), .bin .leq (.t 86) (.c (.int .i64 20)), some (.t 84, true)⟩,
   ⟨some (.t 88), .pick (.t 84) (.t 87) (.c (.bool false)), none⟩,
   ⟨some (.v 2), .mv (.t 80), none⟩,
   ⟨some (.v 3), .mv (.t 88), none⟩])
   (.ret)))))⟩
theorem m87o : okFn Tryz.prog 87 [10, 11, 12, 14, 15, 16, 17, 18, 19, 20, 21, 22, 23, 24, 26, 27, 28, 29, 30, 31, 32, 33, 34, 36, 37, 38, 39, 40, 41, 42, 43, 44, 45, 46, 47, 48, 49, 50, 51, 52, 53, 54, 55, 56, 58, 59, 60, 62, 63, 64, 65, 66, 67, 68, 69, 70, 71, 72, 74, 75, 76, 77, 78, 79, 80, 81, 82, 83, 84, 85, 86, 87, 88] [m87k0, m87k1] [] m87.nargs m87.params m87.results = some m87.body := by kernel_rfl

def m96 : MFunc := ⟨2, [.other, .other], [(4, none, .other)],
 .seq (.rg [⟨some (.v 4), .mv (.c (.int .i64 0)), none⟩])
  (.seq (.rg [⟨some (.t 5), .mv (.v 0), none⟩,
   ⟨some (.t 6), .mv (.v 1), none⟩,
   ⟨some (.t 7), .call 124 [.t 5, .t 6, .c (.bool true)], none⟩,
   ⟨some (.v 4), .mv (.t 7), none⟩])
   (.ret))⟩
theorem m96o : okFn Tryz.prog 96 [5, 6, 7] [] [] m96.nargs m96.params m96.results = some m96.body := by kernel_rfl

def m97 : MFunc := ⟨2, [.other, .other], [(4, none, .other)],
 .seq (.rg [⟨some (.v 4), .mv (.c (.bool false)), none⟩])
  (.seq (.rg [⟨some (.t 5), .mv (.v 0), none⟩,
   ⟨some (.t 6), .len true (.t 5), none⟩,
   ⟨some (.t 7), .mv (.v 1), none⟩,
   ⟨some (.t 8), .len true (.t 7), none⟩,
   ⟨some (.t 9), .bin .geq (.t 6) (.t 8), none⟩,
   ⟨some (.t 10), .mv (.t 9), none⟩,
   ⟨some (.t 11), .mv (.v 0), some (.t 10, true)⟩,
   ⟨some (.t 12), .mv (.v 0), some (.t 10, true)⟩,
   ⟨some (.t 13), .len true (.t 12), some (.t 10, true)⟩,
   ⟨some (.t 14), .mv (.v 1), some (.t 10, true)⟩,
   ⟨some (.t 15), .len true (.t 14), some (.t 10, true)⟩,
   ⟨some (.t 16), .bin .sub (.t 13) (.t 15), some (.t 10, true)⟩,
   ⟨some (.t 17), .slc true 1 (.t 11) (some (.t 16)) none, some (.t 10, true)⟩,
   ⟨some (.t 18), .mv (.v 1), some (.t 10, true)⟩,
   ⟨some (.t 19), .bin .eql (.t 17) (.t 18), some (.t 10, true)⟩,
   ⟨some (.t 20), .pick (.t 10) (.t 19) (.c (.bool false)), none⟩,
   ⟨some (.v 4), .mv (.t 20), none⟩])
   (.ret))⟩
theorem m97o : okFn Tryz.prog 97 [5, 6, 7, 8, 9, 10, 11, 12, 13, 14, 15, 16, 17, 18, 19, 20] [] [] m97.nargs m97.params m97.results = some m97.body := by kernel_rfl

def m103 : MFunc := ⟨1, [.other], [(2, none, .other)],
 .seq (.rg [⟨some (.v 1), .box (.v 0), none⟩,
   ⟨some (.v 2), .mv (.c (.int .i64 0)), none⟩])
  (.seq (.seq (.rg [⟨some (.t 5), .fad 0 (.v 1), none⟩,
   ⟨some (.t 6), .load false 1 (.t 5), none⟩,
   ⟨some (.v 7), .bin .neq (.t 6) (.c (.int .i64 0)), none⟩])
   (.cond (.v 7) (.seq (.rg [⟨some (.v 2), .mv (.c (.int .i64 0)), none⟩])
   (.ret))
   (.skip)))
   (.seq (.rg [⟨some (.t 9), .fad 1 (.v 1), none⟩,
   ⟨some (.t 10), .load false 1 (.t 9), none⟩,
   ⟨some (.t 11), .call 127 [.t 10], none⟩,
   ⟨some (.t 8), .mv (.t 11), none⟩,
   ⟨some (.t 12), .ext 0 (.t 8), none⟩,
   ⟨some (.t 13), .ext 1 (.t 8), none⟩,
   ⟨some (.v 3), .alloc [.bool false, .nilfn], none⟩,
   ⟨none, .store 2 (.v 3) (.t 12), none⟩,
   ⟨some (.v 4), .mv (.t 13), none⟩])
   (.seq (.block 0 (.seq (.rg [⟨some (.t 15), .mv (.v 4), none⟩,
   ⟨some (.t 16), .un .not (.t 15), none⟩,
   ⟨some (.t 17), .mv (.t 16), none⟩,
   ⟨some (.t 18), .fad 0 (.v 3), some (.t 17, false)⟩,
   ⟨some (.t 19), .load false 1 (.t 18), some (.t 17, false)⟩,
   ⟨some (.t 20), .fad 2 (.v 1), some (.t 17, false)⟩,
   ⟨some (.t 21), .load false 1 (.t 20), some (.t 17, false)⟩,
   ⟨some (.t 22), .eqs .bool true (.t 19) (.t 21), some (.t 17, false)⟩,
   ⟨some (.t 23), .pick (.t 17) (.c (.bool true)) (.t 22), none⟩,
   ⟨some (.v 14), .mv (.t 23), none⟩])
   (.cond (.v 14) (.seq (.rg [⟨some (.v 2), .mv (.c (.int .i64 21)), none⟩])
   (.ret))
   (.seq (.rg [⟨some (.t 25), .fad 2 (.v 1), none⟩,
   ⟨some (.t 26), .load false 1 (.t 25), none⟩,
   ⟨some (.t 27), .un .not (.t 26), none⟩,
   ⟨some (.t 28), .mv (.t 27), none⟩,
   ⟨some (.t 29), .fad 1 (.v 3), some (.t 28, true)⟩,
   ⟨some (.t 30), .load false 1 (.t 29), some (.t 28, true)⟩,
   ⟨some (.t 31), .fad 3 (.v 1), some (.t 28, true)⟩,
   ⟨some (.t 32), .load false 1 (.t 31), some (.t 28, true)⟩,
   ⟨some (.t 33), .callv (.t 30) [.t 32], some (.t 28, true)⟩,
   ⟨some (.t 34), .un .not (.t 33), some (.t 28, true)⟩,
   ⟨some (.t 35), .pick (.t 28) (.t 34) (.c (.bool false)), none⟩,
   ⟨some (.v 24), .mv (.t 35), none⟩])
   (.cond (.v 24) (.seq (.rg [⟨some (.v 2), .mv (.c (.int .i64 24)), none⟩])
   (.ret))
   (.skip))))))
   (.seq (.rg [⟨some (.v 2), .mv (.c (.int .i64 0)), none⟩])
   (.ret)))))⟩
theorem m103o : okFn Tryz.prog 103 [5, 6, 8, 9, 10, 11, 12, 13, 15, 16, 17, 18, 19, 20, 21, 22, 23, 25, 26, 27, 28, 29, 30, 31, 32, 33, 34, 35] [] [] m103.nargs m103.params m103.results = some m103.body := by kernel_rfl

def m104k0 : List (Nat × KMode) := [(0, .plain), (3, .plain)]
def m104b0 : MCode :=
 .seq (.seq (.rg [⟨some (.t 4), .mv (.v 3), none⟩,
   ⟨some (.t 5), .mv (.v 0), none⟩,
   ⟨some (.t 6), .len false (.t 5), none⟩,
   ⟨some (.v 7), .bin .lss (.t 4) (.t 6), none⟩])
   (.cond (.v 7) (.skip)
   (.exit 0)))
  (.seq (.block 1 (.seq (.rgd [⟨some (.t 10), .mv (.v 0), none⟩,
   ⟨some (.t 11), .mv (.v 3), none⟩,
   ⟨some (.t 12), .bin .sub (.t 11) (.c (.int .i64 1)), none⟩,
   ⟨some (.t 13), .iad 1 (.t 10) (.t 12), none⟩,
   ⟨some (.t 14), .load false 1 (.t 13), none⟩,
   ⟨some (.t 15), .mv (.v 0), none⟩,
   ⟨some (.t 16), .mv (.v 3), none⟩,
   ⟨some (.t 17), .iad 1 (.t 15) (.t 16), none⟩,
   ⟨some (.t 18), .load false 1 (.t 17), none⟩,
   ⟨some (.t 19), .call 128 [.t 14, .t 18], none⟩,
   ⟨some (.v 20), .bin .gtr (.t 19) (.c (.int .i64 0)), none⟩]
   [[], [], [1], [0, 1, 2], [0, 1, 2, 3], [], [], [5, 6], [5, 6, 7], [0, 1, 2, 3, 4, 5, 6, 7, 8], [0, 1, 2, 3, 4, 5, 6, 7, 8, 9]])
   (.cond (.v 20) (.seq (.rg [⟨some (.v 2), .mv (.c (.bool false)), none⟩])
   (.ret))
   (.skip))))
   (.rg [⟨some (.t 8), .mv (.v 3), none⟩,
   ⟨some (.t 9), .bin .add (.t 8) (.c (.int .i64 1)), none⟩,
   ⟨some (.v 3), .mv (.t 9), none⟩]))
def m104 : MFunc := ⟨1, [.el 1], [(2, none, .other)],
 .seq (.rg [⟨some (.v 2), .mv (.c (.bool false)), none⟩])
  (.seq (.seq (.rg [⟨some (.v 3), .mv (.c (.int .i64 1)), none⟩])
   (.block 0 (.loop m104k0 m104b0)))
   (.seq (.rg [⟨some (.v 2), .mv (.c (.bool true)), none⟩])
   (.ret)))⟩
theorem m104o : okFn Tryz.prog 104 [4, 5, 6, 8, 9, 10, 11, 12, 13, 14, 15, 16, 17, 18, 19] [m104k0] [[[], [], [1], [0, 1, 2], [0, 1, 2, 3], [], [], [5, 6], [5, 6, 7], [0, 1, 2, 3, 4, 5, 6, 7, 8], [0, 1, 2, 3, 4, 5, 6, 7, 8, 9]]] m104.nargs m104.params m104.results = some m104.body := by kernel_rfl

def m108k0 : List (Nat × KMode) := [(1, .plain), (2, .plain), (7, .ownB), (8, .plain), (9, .plain), (10, .plain)]
def m108b0 : MCode :=
 .seq (.seq (.rg [⟨some (.t 66), .mv (.v 10), none⟩,
   ⟨some (.t 67), .fad 4 (.v 2), none⟩,
   ⟨some (.t 68), .load false 1 (.t 67), none⟩,
   ⟨some (.t 69), .len false (.t 68), none⟩,
   ⟨some (.v 70), .bin .lss (.t 66) (.t 69), none⟩])
   (.cond (.v 70) (.skip)
   (.exit 0)))
  (.seq (.block 1 (.seq (.rg [⟨some (.t 74), .fad 4 (.v 2), none⟩,
   ⟨some (.t 75), .load false 1 (.t 74), none⟩,
   ⟨some (.t 76), .mv (.v 10), none⟩,
   ⟨some (.t 77), .iad 5 (.t 75) (.t 76), none⟩,
   ⟨some (.t 78), .load true 5 (.t 77), none⟩,
   ⟨some (.t 79), .mv (.v 1), none⟩,
   ⟨some (.t 80), .bin .add (.t 79) (.c (.int .i64 1)), none⟩,
   ⟨some (.t 81), .call 108 [.t 78, .t 80], none⟩,
   ⟨some (.t 73), .mv (.t 81), none⟩,
   ⟨some (.t 82), .ext 0 (.t 73), none⟩,
   ⟨some (.t 83), .ext 1 (.t 73), none⟩,
   ⟨some (.v 11), .mv (.t 82), none⟩,
   ⟨some (.v 12), .mv (.t 83), none⟩])
   (.seq (.seq (.rg [⟨some (.t 84), .mv (.v 12), none⟩,
   ⟨some (.v 85), .bin .neq (.t 84) (.c (.int .i64 0)), none⟩])
   (.cond (.v 85) (.seq (.rg [⟨some (.t 86), .mv (.v 12), none⟩,
   ⟨some (.v 4), .mv (.c (.nilsl)), none⟩,
   ⟨some (.v 5), .mv (.t 86), none⟩])
   (.ret))
   (.skip)))
   (.seq (.rg [⟨some (.t 87), .mv (.v 9), none⟩,
   ⟨some (.t 88), .mv (.t 87), none⟩,
   ⟨some (.t 89), .mv (.v 10), some (.t 88, false)⟩,
   ⟨some (.t 90), .bin .gtr (.t 89) (.c (.int .i64 0)), some (.t 88, false)⟩,
   ⟨some (.t 91), .mv (.t 90), some (.t 88, false)⟩,
   ⟨some (.t 92), .mv (.v 11), some (.t 91, true)⟩,
   ⟨some (.t 93), .mv (.v 8), some (.t 91, true)⟩,
   ⟨some (.t 94), .call 132 [.t 92, .t 93], some (.t 91, true)⟩,
   ⟨some (.t 95), .pick (.t 91) (.t 94) (.c (.bool false)), some (.t 88, false)⟩,
   ⟨some (.t 96), .pick (.t 88) (.c (.bool true)) (.t 95), none⟩,
   ⟨some (.v 9), .mv (.t 96), none⟩])
   (.seq (.rg [⟨some (.t 97), .mv (.v 11), none⟩,
   ⟨some (.v 8), .mv (.t 97), none⟩])
   (.rg [⟨some (.t 98), .mv (.v 7), none⟩,
   ⟨some (.t 99), .mv (.v 11), none⟩,
   ⟨some (.t 100), .app true 1 1 (.t 98) (.t 99), none⟩,
   ⟨some (.v 7), .mv (.t 100), none⟩]))))))
   (.rg [⟨some (.t 71), .mv (.v 10), none⟩,
   ⟨some (.t 72), .bin .add (.t 71) (.c (.int .i64 1)), none⟩,
   ⟨some (.v 10), .mv (.t 72), none⟩]))
def m108 : MFunc := ⟨2, [.other, .other], [(4, none, .byt), (5, none, .other)],
 .seq (.rg [⟨some (.v 2), .box (.v 0), none⟩,
   ⟨some (.v 4), .mv (.c (.nilsl)), none⟩,
   ⟨some (.v 5), .mv (.c (.int .i64 0)), none⟩])
  (.seq (.seq (.rg [⟨some (.t 14), .mv (.v 1), none⟩,
   ⟨some (.v 15), .bin .gtr (.t 14) (.c (.int .i64 16)), none⟩])
   (.cond (.v 15) (.seq (.rg [⟨some (.v 4), .mv (.c (.nilsl)), none⟩,
   ⟨some (.v 5), .mv (.c (.int .i64 23)), none⟩])
   (.ret))
   (.skip)))
   (.seq (.seq (.rg [⟨some (.t 16), .fad 0 (.v 2), none⟩,
   ⟨some (.t 17), .load false 1 (.t 16), none⟩,
   ⟨some (.t 18), .bin .lss (.t 17) (.c (.int .i64 0)), none⟩,
   ⟨some (.t 19), .mv (.t 18), none⟩,
   ⟨some (.t 20), .fad 0 (.v 2), some (.t 19, false)⟩,
   ⟨some (.t 21), .load false 1 (.t 20), some (.t 19, false)⟩,
   ⟨some (.t 22), .bin .gtr (.t 21) (.c (.int .i64 3)), some (.t 19, false)⟩,
   ⟨some (.t 23), .pick (.t 19) (.c (.bool true)) (.t 22), none⟩,
   ⟨some (.t 24), .mv (.t 23), none⟩,
   ⟨some (.t 25), .fad 1 (.v 2), some (.t 24, false)⟩,
   ⟨some (.t 26), .load false 1 (.t 25), some (.t 24, false)⟩,
   ⟨some (.t 27), .bin .lss (.t 26) (.c (.int .i64 0)), some (.t 24, false)⟩,
   ⟨some (.t 28), .pick (.t 24) (.c (.bool true)) (.t 27), none⟩,
   ⟨some (.t 29), .mv (.t 28), none⟩,
   ⟨some (.t 30), .fad 1 (.v 2), some (.t 29, false)⟩,
   ⟨some (.t 31), .load false 1 (.t 30), some (.t 29, false)⟩,
   ⟨some (.t 32), .bin .geq (.t 31) (.c (.int .i64 2097152)), some (.t 29, false)⟩,
   ⟨some (.v 33), .pick (.t 29) (.c (.bool true)) (.t 32), none⟩])
   (.cond (.v 33) (.seq (.rg [⟨some (.v 4), .mv (.c (.nilsl)), none⟩,
   ⟨some (.v 5), .mv (.c (.int .i64 21)), none⟩])
   (.ret))
   (.skip)))
   (.seq (.rg [⟨some (.t 34), .load true 5 (.v 2), none⟩,
   ⟨some (.t 35), .call 131 [.t 34], none⟩,
   ⟨some (.v 6), .mv (.t 35), none⟩])
   (.seq (.seq (.rg [⟨some (.t 36), .mv (.v 6), none⟩,
   ⟨some (.v 37), .bin .eql (.t 36) (.c (.int .i64 21)), none⟩])
   (.cond (.v 37) (.seq (.rg [⟨some (.t 38), .mv (.v 6), none⟩,
   ⟨some (.v 4), .mv (.c (.nilsl)), none⟩,
   ⟨some (.v 5), .mv (.t 38), none⟩])
   (.ret))
   (.skip)))
   (.seq (.seq (.rg [⟨some (.t 39), .mv (.v 6), none⟩,
   ⟨some (.t 40), .bin .neq (.t 39) (.c (.int .i64 0)), none⟩,
   ⟨some (.t 41), .mv (.t 40), none⟩,
   ⟨some (.t 42), .fad 2 (.v 2), some (.t 41, false)⟩,
   ⟨some (.t 43), .load false 1 (.t 42), some (.t 41, false)⟩,
   ⟨some (.t 44), .mv (.t 43), some (.t 41, false)⟩,
   ⟨some (.t 45), .fad 3 (.v 2), some (.t 44, true)⟩,
   ⟨some (.t 46), .load false 1 (.t 45), some (.t 44, true)⟩,
   ⟨some (.t 47), .len false (.t 46), some (.t 44, true)⟩,
   ⟨some (.t 48), .bin .gtr (.t 47) (.c (.int .i64 0)), some (.t 44, true)⟩,
   ⟨some (.t 49), .pick (.t 44) (.t 48) (.c (.bool false)), some (.t 41, false)⟩,
   ⟨some (.t 50), .pick (.t 41) (.c (.bool true)) (.t 49), none⟩,
   ⟨some (.t 51), .mv (.t 50), none⟩,
   ⟨some (.t 52), .fad 2 (.v 2), some (.t 51, false)⟩,
   ⟨some (.t 53), .load false 1 (.t 52), some (.t 51, false)⟩,
   ⟨some (.t 54), .un .not (.t 53), some (.t 51, false)⟩,
   ⟨some (.t 55), .mv (.t 54), some (.t 51, false)⟩,
   ⟨some (.t 56), .fad 4 (.v 2), some (.t 55, true)⟩,
   ⟨some (.t 57), .load false 1 (.t 56), some (.t 55, true)⟩,
   ⟨some (.t 58), .len false (.t 57), some (.t 55, true)⟩,
   ⟨some (.t 59), .bin .gtr (.t 58) (.c (.int .i64 0)), some (.t 55, true)⟩,
   ⟨some (.t 60), .pick (.t 55) (.t 59) (.c (.bool false)), some (.t 51, false)⟩,
   ⟨some (.v 61), .pick (.t 51) (.c (.bool true)) (.t 60), none⟩])
   (.cond (.v 61) (.seq (.rg [⟨some (.v 4), .mv (.c (.nilsl)), none⟩,
   ⟨some (.v 5), .mv (.c (.int .i64 24)), none⟩])
   (.ret))
   (.skip)))
   (.seq (.rg [⟨some (.t 62), .bslB 0 [], none⟩,
   ⟨some (.t 63), .fad 3 (.v 2), none⟩,
   ⟨some (.t 64), .load false 1 (.t 63), none⟩,
   ⟨some (.t 65), .app true 1 1 (.t 62) (.t 64), none⟩,
   ⟨some (.v 7), .mv (.t 65), none⟩])
   (.seq (.rg [⟨some (.v 8), .mv (.c (.nilsl)), none⟩])
   (.seq (.rg [⟨some (.v 9), .mv (.c (.bool false)), none⟩])
   (.seq (.seq (.rg [⟨some (.v 10), .mv (.c (.int .i64 0)), none⟩])
   (.block 0 (.loop m108k0 m108b0)))
   (.seq (.seq (.rg [⟨some (.t 101), .mv (.v 9), none⟩,
   ⟨some (.t 102), .mv (.t 101), none⟩,
   ⟨some (.t 103), .fad 0 (.v 2), some (.t 102, true)⟩,
   ⟨some (.t 104), .load false 1 (.t 103), some (.t 102, true)⟩,
   ⟨some (.t 105), .bin .eql (.t 104) (.c (.int .i64 0)), some (.t 102, true)⟩,
   ⟨some (.t 106), .pick (.t 102) (.t 105) (.c (.bool false)), none⟩,
   ⟨some (.t 107), .mv (.t 106), none⟩,
   ⟨some (.t 108), .fad 1 (.v 2), some (.t 107, true)⟩,
   ⟨some (.t 109), .load false 1 (.t 108), some (.t 107, true)⟩,
   ⟨some (.t 110), .bin .eql (.t 109) (.c (.int .i64 17)), some (.t 107, true)⟩,
   ⟨some (.v 111), .pick (.t 107) (.t 110) (.c (.bool false)), none⟩])
   (.cond (.v 111) (.seq (.rg [⟨some (.v 4), .mv (.c (.nilsl)), none⟩,
   ⟨some (.v 5), .mv (.c (.int .i64 25)), none⟩])
   (.ret))
   (.skip)))
   (.seq (.rg [⟨some (.t 112), .load true 5 (.v 2), none⟩,
   ⟨some (.t 113), .mv (.v 7), none⟩,
   ⟨some (.t 114), .len false (.t 113), none⟩,
   ⟨some (.t 115), .call 133 [.t 112, .t 114], none⟩,
   ⟨some (.v 13), .mv (.t 115), none⟩])
   (.seq (.rg [⟨some (.t 116), .mv (.v 13), none⟩,
   ⟨some (.t 117), .mv (.v 7), none⟩,
   ⟨some (.t 118), .app true 1 1 (.t 116) (.t 117), none⟩,
   ⟨some (.v 4), .mv (.t 118), none⟩,
   ⟨some (.v 5), .mv (.c (.int .i64 0)), none⟩])
   (.ret)))))))))))))⟩
theorem m108o : okFn Tryz.prog 108 [14, 16, 17, 18, 19, 20, 21, 22, 23, 24, 25, 26, 27, 28, 29, 30, 31, 32, 34, 35, 36, 38, 39, 40, 41, 42, 43, 44, 45, 46, 47, 48, 49, 50, 51, 52, 53, 54, 55, 56, 57, 58, 59, 60, 62, 63, 64, 65, 66, 67, 68, 69, 71, 72, 73, 74, 75, 76, 77, 78, 79, 80, 81, 82, 83, 84, 86, 87, 88, 89, 90, 91, 92, 93, 94, 95, 96, 97, 98, 99, 100, 101, 102, 103, 104, 105, 106, 107, 108, 109, 110, 112, 113, 114, 115, 116, 117, 118] [m108k0] [] m108.nargs m108.params m108.results = some m108.body := by kernel_rfl

def m109k0 : List (Nat × KMode) := [(0, .plain), (1, .plain), (6, .plain), (7, .plain), (8, .plain), (9, .plain)]
def m109b0 : MCode :=
 .seq (.seq (.rg [⟨some (.t 48), .mv (.v 9), none⟩,
   ⟨some (.t 49), .mv (.v 6), none⟩,
   ⟨some (.v 50), .bin .lss (.t 48) (.t 49), none⟩])
   (.cond (.v 50) (.skip)
   (.exit 0)))
  (.seq (.block 1 (.seq (.seq (.rg [⟨some (.t 53), .mv (.v 0), none⟩,
   ⟨some (.t 54), .mv (.v 1), none⟩,
   ⟨some (.t 55), .mv (.v 9), none⟩,
   ⟨some (.t 56), .bin .add (.t 54) (.t 55), none⟩,
   ⟨some (.t 57), .iad 1 (.t 53) (.t 56), none⟩,
   ⟨some (.t 58), .load false 1 (.t 57), none⟩,
   ⟨some (.t 59), .bin .lss (.t 58) (.c (.int .u8 128)), none⟩,
   ⟨some (.t 60), .mv (.t 59), none⟩,
   ⟨some (.t 61), .mv (.v 0), some (.t 60, false)⟩,
   ⟨some (.t 62), .mv (.v 1), some (.t 60, false)⟩,
   ⟨some (.t 63), .mv (.v 9), some (.t 60, false)⟩,
   ⟨some (.t 64), .bin .add (.t 62) (.t 63), some (.t 60, false)⟩,
   ⟨some (.t 65), .iad 1 (.t 61) (.t 64), some (.t 60, false)⟩,
   ⟨some (.t 66), .load false 1 (.t 65), some (.t 60, false)⟩,
   ⟨some (.t 67), .bin .geq (.t 66) (.c (.int .u8 192)), some (.t 60, false)⟩,
   ⟨some (.v 68), .pick (.t 60) (.c (.bool true)) (.t 67), none⟩])
   (.cond (.v 68) (.seq (.rg [⟨some (.v 4), .mv (.c (.int .i64 0)), none⟩])
   (.ret))
   (.skip)))
   (.rg [⟨some (.t 69), .mv (.v 8), none⟩,
   ⟨some (.t 70), .bin .mul (.c (.int .i64 64)) (.t 69), none⟩,
   ⟨some (.t 71), .mv (.v 0), none⟩,
   ⟨some (.t 72), .mv (.v 1), none⟩,
   ⟨some (.t 73), .mv (.v 9), none⟩,
   ⟨some (.t 74), .bin .add (.t 72) (.t 73), none⟩,
   ⟨some (.t 75), .iad 1 (.t 71) (.t 74), none⟩,
   ⟨some (.t 76), .load false 1 (.t 75), none⟩,
   ⟨some (.t 77), .conv .i64 (.t 76), none⟩,
   ⟨some (.t 78), .bin .rem (.t 77) (.c (.int .i64 64)), none⟩,
   ⟨some (.t 79), .bin .add (.t 70) (.t 78), none⟩,
   ⟨some (.v 8), .mv (.t 79), none⟩])))
   (.rg [⟨some (.t 51), .mv (.v 9), none⟩,
   ⟨some (.t 52), .bin .add (.t 51) (.c (.int .i64 1)), none⟩,
   ⟨some (.v 9), .mv (.t 52), none⟩]))
def m109 : MFunc := ⟨2, [.byt, .other], [(4, none, .other)],
 .seq (.rg [⟨some (.v 4), .mv (.c (.int .i64 0)), none⟩])
  (.seq (.rg [⟨some (.t 10), .mv (.v 0), none⟩,
   ⟨some (.t 11), .mv (.v 1), none⟩,
   ⟨some (.t 12), .iad 1 (.t 10) (.t 11), none⟩,
   ⟨some (.t 13), .load false 1 (.t 12), none⟩,
   ⟨some (.t 14), .conv .i64 (.t 13), none⟩,
   ⟨some (.v 5), .mv (.t 14), none⟩])
   (.seq (.rg [⟨some (.v 6), .mv (.c (.int .i64 1)), none⟩])
   (.seq (.rg [⟨some (.v 7), .mv (.c (.int .i64 0)), none⟩])
   (.seq (.rg [⟨some (.t 15), .mv (.v 5), none⟩,
   ⟨some (.v 8), .mv (.t 15), none⟩])
   (.seq (.seq (.rg [⟨some (.t 16), .mv (.v 5), none⟩,
   ⟨some (.t 17), .bin .geq (.t 16) (.c (.int .i64 240)), none⟩,
   ⟨some (.t 18), .mv (.t 17), none⟩,
   ⟨some (.t 19), .mv (.v 5), some (.t 18, true)⟩,
   ⟨some (.t 20), .bin .lss (.t 19) (.c (.int .i64 248)), some (.t 18, true)⟩,
   ⟨some (.v 21), .pick (.t 18) (.t 20) (.c (.bool false)), none⟩])
   (.cond (.v 21) (.seq (.rg [⟨some (.v 6), .mv (.c (.int .i64 4)), none⟩])
   (.seq (.rg [⟨some (.v 7), .mv (.c (.int .i64 65536)), none⟩])
   (.rg [⟨some (.t 22), .mv (.v 5), none⟩,
   ⟨some (.t 23), .bin .rem (.t 22) (.c (.int .i64 8)), none⟩,
   ⟨some (.v 8), .mv (.t 23), none⟩])))
   (.seq (.rg [⟨some (.t 24), .mv (.v 5), none⟩,
   ⟨some (.t 25), .bin .geq (.t 24) (.c (.int .i64 224)), none⟩,
   ⟨some (.t 26), .mv (.t 25), none⟩,
   ⟨some (.t 27), .mv (.v 5), some (.t 26, true)⟩,
   ⟨some (.t 28), .bin .lss (.t 27) (.c (.int .i64 240)), some (.t 26, true)⟩,
   ⟨some (.v 29), .pick (.t 26) (.t 28) (.c (.bool false)), none⟩])
   (.cond (.v 29) (.seq (.rg [⟨some (.v 6), .mv (.c (.int .i64 3)), none⟩])
   (.seq (.rg [⟨some (.v 7), .mv (.c (.int .i64 2048)), none⟩])
   (.rg [⟨some (.t 30), .mv (.v 5), none⟩,
   ⟨some (.t 31), .bin .rem (.t 30) (.c (.int .i64 16)), none⟩,
   ⟨some (.v 8), .mv (.t 31), none⟩])))
   (.seq (.rg [⟨some (.t 32), .mv (.v 5), none⟩,
   ⟨some (.t 33), .bin .geq (.t 32) (.c (.int .i64 192)), none⟩,
   ⟨some (.t 34), .mv (.t 33), none⟩,
   ⟨some (.t 35), .mv (.v 5), some (.t 34, true)⟩,
   ⟨some (.t 36), .bin .lss (.t 35) (.c (.int .i64 224)), some (.t 34, true)⟩,
   ⟨some (.v 37), .pick (.t 34) (.t 36) (.c (.bool false)), none⟩])
   (.cond (.v 37) (.seq (.rg [⟨some (.v 6), .mv (.c (.int .i64 2)), none⟩])
   (.seq (.rg [⟨some (.v 7), .mv (.c (.int .i64 128)), none⟩])
   (.rg [⟨some (.t 38), .mv (.v 5), none⟩,
   ⟨some (.t 39), .bin .rem (.t 38) (.c (.int .i64 32)), none⟩,
   ⟨some (.v 8), .mv (.t 39), none⟩])))
   (.seq (.rg [⟨some (.t 40), .mv (.v 5), none⟩,
   ⟨some (.v 41), .bin .geq (.t 40) (.c (.int .i64 128)), none⟩])
   (.cond (.v 41) (.seq (.rg [⟨some (.v 4), .mv (.c (.int .i64 0)), none⟩])
   (.ret))
   (.skip)))))))))
   (.seq (.seq (.rg [⟨some (.t 42), .mv (.v 1), none⟩,
   ⟨some (.t 43), .mv (.v 6), none⟩,
   ⟨some (.t 44), .bin .add (.t 42) (.t 43), none⟩,
   ⟨some (.t 45), .mv (.v 0), none⟩,
   ⟨some (.t 46), .len false (.t 45), none⟩,
   ⟨some (.v 47), .bin .gtr (.t 44) (.t 46), none⟩])
   (.cond (.v 47) (.seq (.rg [⟨some (.v 4), .mv (.c (.int .i64 0)), none⟩])
   (.ret))
   (.skip)))
   (.seq (.seq (.rg [⟨some (.v 9), .mv (.c (.int .i64 1)), none⟩])
   (.block 0 (.loop m109k0 m109b0)))
   (.seq (.seq (.rg [⟨some (.t 80), .mv (.v 8), none⟩,
   ⟨some (.t 81), .mv (.v 7), none⟩,
   ⟨some (.t 82), .bin .lss (.t 80) (.t 81), none⟩,
   ⟨some (.t 83), .mv (.t 82), none⟩,
   ⟨some (.t 84), .mv (.v 8), some (.t 83, false)⟩,
   ⟨some (.t 85), .bin .gtr (.t 84) (.c (.int .i64 1114111)), some (.t 83, false)⟩,
   ⟨some (.t 86), .pick (.t 83) (.c (.bool true)) (.t 85), none⟩,
   ⟨some (.t 87), .mv (.t 86), none⟩,
   ⟨some (.t 88), .mv (.v 8), some (.t 87, false)⟩,
   ⟨some (.t 89), .bin .geq (.t 88) (.c (.int .i64 55296)), some (.t 87, false)⟩,
   ⟨some (.t 90), .mv (.t 89), some (.t 87, false)⟩,
   ⟨some (.t 91), .mv (.v 8), some (.t 90, true)⟩,
   ⟨some (.t 92), .bin .lss (.t 91) (.c (.int .i64 57344)), some (.t 90, true)⟩,
   ⟨some (.t 93), .pick (.t 90) (.t 92) (.c (.bool false)), some (.t 87, false)⟩,
   ⟨some (.v 94), .pick (.t 87) (.c (.bool true)) (.t 93), none⟩])
   (.cond (.v 94) (.seq (.rg [⟨some (.v 4), .mv (.c (.int .i64 0)), none⟩])
   (.ret))
   (.skip)))
   (.seq (.rg [⟨some (.t 95), .mv (.v 6), none⟩,
   ⟨some (.v 4), .mv (.t 95), none⟩])
   (.ret))))))))))⟩
theorem m109o : okFn Tryz.prog 109 [10, 11, 12, 13, 14, 15, 16, 17, 18, 19, 20, 22, 23, 24, 25, 26, 27, 28, 30, 31, 32, 33, 34, 35, 36, 38, 39, 40, 42, 43, 44, 45, 46, 48, 49, 51, 52, 53, 54, 55, 56, 57, 58, 59, 60, 61, 62, 63, 64, 65, 66, 67, 69, 70, 71, 72, 73, 74, 75, 76, 77, 78, 79, 80, 81, 82, 83, 84, 85, 86, 87, 88, 89, 90, 91, 92, 93, 95] [m109k0] [] m109.nargs m109.params m109.results = some m109.body := by kernel_rfl

def m124k0 : List (Nat × KMode) := [(1, .plain), (2, .plain), (10, .plain)]
def m124b0 : MCode :=
 .seq (.rg [⟨some (.v 11), .nxt (.v 10), none⟩,
   ⟨some (.v 12), .ext 0 (.v 11), none⟩])
  (.seq (.cond (.v 12) (.skip)
   (.exit 0))
   (.block 1 (.seq (.rg [⟨some (.t 13), .ext 1 (.v 11), none⟩,
   ⟨some (.t 14), .ext 2 (.v 11), none⟩,
   ⟨some (.v 7), .mv (.t 13), none⟩,
   ⟨some (.v 8), .mv (.t 14), none⟩])
   (.seq (.rg [⟨some (.t 15), .mv (.v 1), none⟩,
   ⟨some (.t 16), .mv (.v 8), none⟩,
   ⟨some (.t 17), .callv (.t 15) [.t 16], none⟩,
   ⟨some (.t 18), .mv (.v 2), none⟩,
   ⟨some (.v 19), .eqs .bool false (.t 17) (.t 18), none⟩])
   (.cond (.v 19) (.seq (.rg [⟨some (.t 20), .mv (.v 7), none⟩,
   ⟨some (.v 6), .mv (.t 20), none⟩])
   (.ret))
   (.skip))))))
def m124 : MFunc := ⟨3, [.other, .other, .other], [(6, none, .other)],
 .seq (.rg [⟨some (.v 6), .mv (.c (.int .i64 0)), none⟩])
  (.seq (.seq (.rg [⟨some (.t 9), .mv (.v 0), none⟩,
   ⟨some (.v 10), .rng (.t 9), none⟩])
   (.block 0 (.loop m124k0 m124b0)))
   (.seq (.rg [⟨some (.v 6), .mv (.c (.int .i64 (-1))), none⟩])
   (.ret)))⟩
theorem m124o : okFn Tryz.prog 124 [9, 13, 14, 15, 16, 17, 18, 20] [m124k0] [] m124.nargs m124.params m124.results = some m124.body := by kernel_rfl

def m127 : MFunc := ⟨1, [.other], [(2, some (true, 2), .other), (3, none, .other)],
 .seq (.rg [⟨some (.v 2), .alloc [.bool false, .nilfn], none⟩,
   ⟨some (.v 3), .mv (.c (.bool false)), none⟩])
  (.seq (.rg [⟨some (.v 4), .mv (.c (.fn 150 [])), none⟩])
   (.seq (.seq (.rg [⟨some (.v 5), .mv (.v 0), none⟩])
   (.block 0 (.seq (.rg [⟨some (.t 7), .bin .eql (.v 5) (.c (.int .i64 1)), none⟩,
   ⟨some (.v 6), .mv (.t 7), none⟩])
   (.cond (.v 6) (.seq (.rg [⟨some (.t 8), .build [.bool false, .nilfn] [(1, 1, .c (.fn 151 []))], none⟩,
   ⟨none, .store 2 (.v 2) (.t 8), none⟩,
   ⟨some (.v 3), .mv (.c (.bool true)), none⟩])
   (.ret))
   (.seq (.seq (.rg [⟨some (.t 10), .bin .eql (.v 5) (.c (.int .i64 2)), none⟩,
   ⟨some (.v 9), .mv (.t 10), none⟩])
   (.cond (.v 9) (.skip)
   (.rg [⟨some (.t 11), .bin .eql (.v 5) (.c (.int .i64 10)), none⟩,
   ⟨some (.v 9), .mv (.t 11), none⟩])))
   (.cond (.v 9) (.seq (.rg [⟨some (.t 12), .build [.bool false, .nilfn] [(1, 1, .c (.fn 152 []))], none⟩,
   ⟨none, .store 2 (.v 2) (.t 12), none⟩,
   ⟨some (.v 3), .mv (.c (.bool true)), none⟩])
   (.ret))
   (.seq (.rg [⟨some (.t 14), .bin .eql (.v 5) (.c (.int .i64 3)), none⟩,
   ⟨some (.v 13), .mv (.t 14), none⟩])
   (.cond (.v 13) (.seq (.rg [⟨some (.t 15), .build [.bool false, .nilfn] [(1, 1, .c (.fn 153 []))], none⟩,
   ⟨none, .store 2 (.v 2) (.t 15), none⟩,
   ⟨some (.v 3), .mv (.c (.bool true)), none⟩])
   (.ret))
   (.seq (.rg [⟨some (.t 17), .bin .eql (.v 5) (.c (.int .i64 4)), none⟩,
   ⟨some (.v 16), .mv (.t 17), none⟩])
   (.cond (.v 16) (.seq (.rg [⟨some (.t 18), .mv (.v 4), none⟩,
   ⟨some (.t 19), .build [.bool false, .nilfn] [(1, 1, .t 18)], none⟩,
   ⟨none, .store 2 (.v 2) (.t 19), none⟩,
   ⟨some (.v 3), .mv (.c (.bool true)), none⟩])
   (.ret))
   (.seq (.rg [⟨some (.t 21), .bin .eql (.v 5) (.c (.int .i64 5)), none⟩,
   ⟨some (.v 20), .mv (.t 21), none⟩])
   (.cond (.v 20) (.seq (.rg [⟨some (.t 22), .build [.bool false, .nilfn] [(1, 1, .c (.fn 154 []))], none⟩,
   ⟨none, .store 2 (.v 2) (.t 22), none⟩,
   ⟨some (.v 3), .mv (.c (.bool true)), none⟩])
   (.ret))
   (.seq (.rg [⟨some (.t 24), .bin .eql (.v 5) (.c (.int .i64 6)), none⟩,
   ⟨some (.v 23), .mv (.t 24), none⟩])
   (.cond (.v 23) (.seq (.rg [⟨some (.t 25), .build [.bool false, .nilfn] [(1, 1, .c (.fn 155 []))], none⟩,
   ⟨none, .store 2 (.v 2) (.t 25), none⟩,
   ⟨some (.v 3), .mv (.c (.bool true)), none⟩])
   (.ret))
   (.seq (.rg [⟨some (.t 27), .bin .eql (.v 5) (.c (.int .i64 12)), none⟩,
   ⟨some (.v 26), .mv (.t 27), none⟩])
   (.cond (.v 26) (.seq (.rg [⟨some (.t 28), .build [.bool false, .nilfn] [(1, 1, .c (.fn 156 []))], none⟩,
   ⟨none, .store 2 (.v 2) (.t 28), none⟩,
   ⟨some (.v 3), .mv (.c (.bool true)), none⟩])
   (.ret))
   (.seq (.rg [⟨some (.t 30), .bin .eql (.v 5) (.c (.int .i64 19)), none⟩,
   ⟨some (.v 29), .mv (.t 30), none⟩])
   (.cond (.v 29) (.seq (.rg [⟨some (.t 31), .build [.bool false, .nilfn] [(1, 1, .c (.fn 157 []))], none⟩,
   ⟨none, .store 2 (.v 2) (.t 31), none⟩,
   ⟨some (.v 3), .mv (.c (.bool true)), none⟩])
   (.ret))
   (.seq (.rg [⟨some (.t 33), .bin .eql (.v 5) (.c (.int .i64 22)), none⟩,
   ⟨some (.v 32), .mv (.t 33), none⟩])
   (.cond (.v 32) (.seq (.rg [⟨some (.t 34), .build [.bool false, .nilfn] [(1, 1, .c (.fn 159 []))], none⟩,
   ⟨none, .store 2 (.v 2) (.t 34), none⟩,
   ⟨some (.v 3), .mv (.c (.bool true)), none⟩])
   (.ret))
   (.seq (.rg [⟨some (.t 36), .bin .eql (.v 5) (.c (.int .i64 23)), none⟩,
   ⟨some (.v 35), .mv (.t 36), none⟩])
   (.cond (.v 35) (.seq (.rg [⟨some (.t 37), .build [.bool false, .nilfn] [(1, 1, .c (.fn 161 []))], none⟩,
   ⟨none, .store 2 (.v 2) (.t 37), none⟩,
   ⟨some (.v 3), .mv (.c (.bool true)), none⟩])
   (.ret))
   (.seq (.rg [⟨some (.t 39), .bin .eql (.v 5) (.c (.int .i64 24)), none⟩,
   ⟨some (.v 38), .mv (.t 39), none⟩])
   (.cond (.v 38) (.seq (.rg [⟨some (.t 40), .build [.bool false, .nilfn] [(1, 1, .c (.fn 163 []))], none⟩,
   ⟨none, .store 2 (.v 2) (.t 40), none⟩,
   ⟨some (.v 3), .mv (.c (.bool true)), none⟩])
   (.ret))
   (.seq (.seq (.rg [⟨some (.t 42), .bin .eql (.v 5) (.c (.int .i64 16)), none⟩,
   ⟨some (.v 41), .mv (.t 42), none⟩])
   (.cond (.v 41) (.skip)
   (.rg [⟨some (.t 43), .bin .eql (.v 5) (.c (.int .i64 17)), none⟩,
   ⟨some (.v 41), .mv (.t 43), none⟩])))
   (.cond (.v 41) (.seq (.rg [⟨some (.t 44), .mv (.v 4), none⟩,
   ⟨some (.t 45), .build [.bool false, .nilfn] [(0, 1, .c (.bool true)), (1, 1, .t 44)], none⟩,
   ⟨none, .store 2 (.v 2) (.t 45), none⟩,
   ⟨some (.v 3), .mv (.c (.bool true)), none⟩])
   (.ret))
   (.skip)))))))))))))))))))))))))))
   (.seq (.rg [⟨some (.t 46), .build [.bool false, .nilfn] [], none⟩,
   ⟨none, .store 2 (.v 2) (.t 46), none⟩,
   ⟨some (.v 3), .mv (.c (.bool false)), none⟩])
   (.ret))))⟩
theorem m127o : okFn Tryz.prog 127 [7, 8, 10, 11, 12, 14, 15, 17, 18, 19, 21, 22, 24, 25, 27, 28, 30, 31, 33, 34, 36, 37, 39, 40, 42, 43, 44, 45, 46] [] [] m127.nargs m127.params m127.results = some m127.body := by kernel_rfl

def m131 : MFunc := ⟨1, [.other], [(2, none, .other)],
 .seq (.rg [⟨some (.v 1), .box (.v 0), none⟩,
   ⟨some (.v 2), .mv (.c (.int .i64 0)), none⟩])
  (.seq (.seq (.rg [⟨some (.t 6), .fad 0 (.v 1), none⟩,
   ⟨some (.t 7), .load false 1 (.t 6), none⟩,
   ⟨some (.v 8), .bin .neq (.t 7) (.c (.int .i64 0)), none⟩])
   (.cond (.v 8) (.seq (.rg [⟨some (.v 2), .mv (.c (.int .i64 0)), none⟩])
   (.ret))
   (.skip)))
   (.seq (.rg [⟨some (.t 9), .fad 1 (.v 1), none⟩,
   ⟨some (.t 10), .load false 1 (.t 9), none⟩,
   ⟨some (.v 3), .mv (.t 10), none⟩])
   (.seq (.rg [⟨some (.t 11), .mv (.v 3), none⟩,
   ⟨some (.t 12), .bin .eql (.t 11) (.c (.int .i64 16)), none⟩,
   ⟨some (.t 13), .mv (.t 12), none⟩,
   ⟨some (.t 14), .mv (.v 3), some (.t 13, false)⟩,
   ⟨some (.t 15), .bin .eql (.t 14) (.c (.int .i64 17)), some (.t 13, false)⟩,
   ⟨some (.t 16), .pick (.t 13) (.c (.bool true)) (.t 15), none⟩,
   ⟨some (.v 4), .mv (.t 16), none⟩])
   (.seq (.rg [⟨some (.t 17), .mv (.v 3), none⟩,
   ⟨some (.t 18), .bin .geq (.t 17) (.c (.int .i64 1)), none⟩,
   ⟨some (.t 19), .mv (.t 18), none⟩,
   ⟨some (.t 20), .mv (.v 3), some (.t 19, true)⟩,
   ⟨some (.t 21), .bin .leq (.t 20) (.c (.int .i64 6)), some (.t 19, true)⟩,
   ⟨some (.t 22), .pick (.t 19) (.t 21) (.c (.bool false)), none⟩,
   ⟨some (.t 23), .mv (.t 22), none⟩,
   ⟨some (.t 24), .mv (.v 3), some (.t 23, false)⟩,
   ⟨some (.t 25), .bin .eql (.t 24) (.c (.int .i64 10)), some (.t 23, false)⟩,
   ⟨some (.t 26), .pick (.t 23) (.c (.bool true)) (.t 25), none⟩,
   ⟨some (.t 27), .mv (.t 26), none⟩,
   ⟨some (.t 28), .mv (.v 3), some (.t 27, false)⟩,
   ⟨some (.t 29), .bin .eql (.t 28) (.c (.int .i64 12)), some (.t 27, false)⟩,
   ⟨some (.t 30), .pick (.t 27) (.c (.bool true)) (.t 29), none⟩,
   ⟨some (.t 31), .mv (.t 30), none⟩,
   ⟨some (.t 32), .mv (.v 3), some (.t 31, false)⟩,
   ⟨some (.t 33), .bin .eql (.t 32) (.c (.int .i64 19)), some (.t 31, false)⟩,
   ⟨some (.t 34), .pick (.t 31) (.c (.bool true)) (.t 33), none⟩,
   ⟨some (.t 35), .mv (.t 34), none⟩,
   ⟨some (.t 36), .mv (.v 3), some (.t 35, false)⟩,
   ⟨some (.t 37), .bin .geq (.t 36) (.c (.int .i64 22)), some (.t 35, false)⟩,
   ⟨some (.t 38), .mv (.t 37), some (.t 35, false)⟩,
   ⟨some (.t 39), .mv (.v 3), some (.t 38, true)⟩,
   ⟨some (.t 40), .bin .leq (.t 39) (.c (.int .i64 24)), some (.t 38, true)⟩,
   ⟨some (.t 41), .pick (.t 38) (.t 40) (.c (.bool false)), some (.t 35, false)⟩,
   ⟨some (.t 42), .pick (.t 35) (.c (.bool true)) (.t 41), none⟩,
   ⟨some (.v 5), .mv (.t 42), none⟩])
   (.seq (.seq (.rg [⟨some (.t 43), .mv (.v 4), none⟩,
   ⟨some (.t 44), .un .not (.t 43), none⟩,
   ⟨some (.t 45), .mv (.t 44), none⟩,
   ⟨some (.t 46), .mv (.v 5), some (.t 45, true)⟩,
   ⟨some (.t 47), .un .not (.t 46), some (.t 45, true)⟩,
   ⟨some (.t 48), .pick (.t 45) (.t 47) (.c (.bool false)), none⟩,
   ⟨some (.t 49), .mv (.t 48), none⟩,
   ⟨some (.t 50), .mv (.v 4), some (.t 49, false)⟩,
   ⟨some (.t 51), .fad 2 (.v 1), some (.t 49, false)⟩,
   ⟨some (.t 52), .load false 1 (.t 51), some (.t 49, false)⟩,
   ⟨some (.t 53), .eqs .bool true (.t 50) (.t 52), some (.t 49, false)⟩,
   ⟨some (.v 54), .pick (.t 49) (.c (.bool true)) (.t 53), none⟩])
   (.cond (.v 54) (.seq (.rg [⟨some (.v 2), .mv (.c (.int .i64 21)), none⟩])
   (.ret))
   (.skip)))
   (.seq (.seq (.rg [⟨some (.t 55), .mv (.v 5), none⟩,
   ⟨some (.t 56), .mv (.t 55), none⟩,
   ⟨some (.t 57), .mv (.v 3), some (.t 56, true)⟩,
   ⟨some (.t 58), .fad 3 (.v 1), some (.t 56, true)⟩,
   ⟨some (.t 59), .load false 1 (.t 58), some (.t 56, true)⟩,
   ⟨some (.t 60), .call 165 [.t 57, .t 59], some (.t 56, true)⟩,
   ⟨some (.t 61), .un .not (.t 60), some (.t 56, true)⟩,
   ⟨some (.v 62), .pick (.t 56) (.t 61) (.c (.bool false)), none⟩])
   (.cond (.v 62) (.seq (.rg [⟨some (.v 2), .mv (.c (.int .i64 24)), none⟩])
   (.ret))
   (.skip)))
   (.seq (.rg [⟨some (.v 2), .mv (.c (.int .i64 0)), none⟩])
   (.ret))))))))⟩
theorem m131o : okFn Tryz.prog 131 [6, 7, 9, 10, 11, 12, 13, 14, 15, 16, 17, 18, 19, 20, 21, 22, 23, 24, 25, 26, 27, 28, 29, 30, 31, 32, 33, 34, 35, 36, 37, 38, 39, 40, 41, 42, 43, 44, 45, 46, 47, 48, 49, 50, 51, 52, 53, 55, 56, 57, 58, 59, 60, 61] [] [] m131.nargs m131.params m131.results = some m131.body := by kernel_rfl

def m132k0 : List (Nat × KMode) := [(0, .plain), (1, .plain), (5, .plain)]
def m132b0 : MCode :=
 .seq (.seq (.rg [⟨some (.t 6), .mv (.v 5), none⟩,
   ⟨some (.t 7), .mv (.v 0), none⟩,
   ⟨some (.t 8), .len false (.t 7), none⟩,
   ⟨some (.t 9), .bin .lss (.t 6) (.t 8), none⟩,
   ⟨some (.t 10), .mv (.t 9), none⟩,
   ⟨some (.t 11), .mv (.v 5), some (.t 10, true)⟩,
   ⟨some (.t 12), .mv (.v 1), some (.t 10, true)⟩,
   ⟨some (.t 13), .len false (.t 12), some (.t 10, true)⟩,
   ⟨some (.t 14), .bin .lss (.t 11) (.t 13), some (.t 10, true)⟩,
   ⟨some (.v 15), .pick (.t 10) (.t 14) (.c (.bool false)), none⟩])
   (.cond (.v 15) (.skip)
   (.exit 0)))
  (.seq (.block 1 (.seq (.rgd [⟨some (.t 18), .mv (.v 0), none⟩,
   ⟨some (.t 19), .mv (.v 5), none⟩,
   ⟨some (.t 20), .iad 1 (.t 18) (.t 19), none⟩,
   ⟨some (.t 21), .load false 1 (.t 20), none⟩,
   ⟨some (.t 22), .mv (.v 1), none⟩,
   ⟨some (.t 23), .mv (.v 5), none⟩,
   ⟨some (.t 24), .iad 1 (.t 22) (.t 23), none⟩,
   ⟨some (.t 25), .load false 1 (.t 24), none⟩,
   ⟨some (.v 26), .bin .neq (.t 21) (.t 25), none⟩]
   [[], [], [0, 1], [0, 1, 2], [], [], [4, 5], [4, 5, 6], [0, 1, 2, 3, 4, 5, 6, 7]])
   (.cond (.v 26) (.seq (.rgd [⟨some (.t 27), .mv (.v 0), none⟩,
   ⟨some (.t 28), .mv (.v 5), none⟩,
   ⟨some (.t 29), .iad 1 (.t 27) (.t 28), none⟩,
   ⟨some (.t 30), .load false 1 (.t 29), none⟩,
   ⟨some (.t 31), .mv (.v 1), none⟩,
   ⟨some (.t 32), .mv (.v 5), none⟩,
   ⟨some (.t 33), .iad 1 (.t 31) (.t 32), none⟩,
   ⟨some (.t 34), .load false 1 (.t 33), none⟩,
   ⟨some (.t 35), .bin .lss (.t 30) (.t 34), none⟩,
   ⟨some (.v 4), .mv (.t 35), none⟩]
   [[], [], [0, 1], [0, 1, 2], [], [], [4, 5], [4, 5, 6], [0, 1, 2, 3, 4, 5, 6, 7], [0, 1, 2, 3, 4, 5, 6, 7, 8]])
   (.ret))
   (.skip))))
   (.rg [⟨some (.t 16), .mv (.v 5), none⟩,
   ⟨some (.t 17), .bin .add (.t 16) (.c (.int .i64 1)), none⟩,
   ⟨some (.v 5), .mv (.t 17), none⟩]))
def m132 : MFunc := ⟨2, [.byt, .byt], [(4, none, .other)],
 .seq (.rg [⟨some (.v 4), .mv (.c (.bool false)), none⟩])
  (.seq (.seq (.rg [⟨some (.v 5), .mv (.c (.int .i64 0)), none⟩])
   (.block 0 (.loop m132k0 m132b0)))
   (.seq (.rg [⟨some (.t 36), .mv (.v 0), none⟩,
   ⟨some (.t 37), .len false (.t 36), none⟩,
   ⟨some (.t 38), .mv (.v 1), none⟩,
   ⟨some (.t 39), .len false (.t 38), none⟩,
   ⟨some (.t 40), .bin .lss (.t 37) (.t 39), none⟩,
   ⟨some (.v 4), .mv (.t 40), none⟩])
   (.ret)))⟩
theorem m132o : okFn Tryz.prog 132 [6, 7, 8, 9, 10, 11, 12, 13, 14, 16, 17, 18, 19, 20, 21, 22, 23, 24, 25, 27, 28, 29, 30, 31, 32, 33, 34, 35, 36, 37, 38, 39, 40] [m132k0] [[[], [], [0, 1], [0, 1, 2], [], [], [4, 5], [4, 5, 6], [0, 1, 2, 3, 4, 5, 6, 7]], [[], [], [0, 1], [0, 1, 2], [], [], [4, 5], [4, 5, 6], [0, 1, 2, 3, 4, 5, 6, 7], [0, 1, 2, 3, 4, 5, 6, 7, 8]]] m132.nargs m132.params m132.results = some m132.body := by kernel_rfl

def m133k0 : List (Nat × KMode) := [(1, .plain), (6, .ownB), (7, .ownB)]
def m133b0 : MCode :=
 .seq (.seq (.rg [⟨some (.t 70), .mv (.v 1), none⟩,
   ⟨some (.v 71), .bin .gtr (.t 70) (.c (.int .i64 0)), none⟩])
   (.cond (.v 71) (.skip)
   (.exit 0)))
  (.block 1 (.seq (.rg [⟨some (.t 72), .mv (.v 7), none⟩,
   ⟨some (.t 73), .mv (.v 1), none⟩,
   ⟨some (.t 74), .conv .u8 (.t 73), none⟩,
   ⟨some (.t 75), .bslB 1 [(0, .t 74)], none⟩,
   ⟨some (.t 76), .app true 1 1 (.t 72) (.t 75), none⟩,
   ⟨some (.v 7), .mv (.t 76), none⟩])
   (.rg [⟨some (.t 77), .mv (.v 1), none⟩,
   ⟨some (.t 78), .bin .quo (.t 77) (.c (.int .i64 256)), none⟩,
   ⟨some (.v 1), .mv (.t 78), none⟩])))
def m133k1 : List (Nat × KMode) := [(6, .ownB), (7, .ownB), (8, .plain)]
def m133b1 : MCode :=
 .seq (.seq (.rg [⟨some (.t 89), .mv (.v 8), none⟩,
   ⟨some (.v 90), .bin .geq (.t 89) (.c (.int .i64 0)), none⟩])
   (.cond (.v 90) (.skip)
   (.exit 2)))
  (.seq (.block 3 (.rg [⟨some (.t 93), .mv (.v 6), none⟩,
   ⟨some (.t 94), .mv (.v 7), none⟩,
   ⟨some (.t 95), .mv (.v 8), none⟩,
   ⟨some (.t 96), .iad 1 (.t 94) (.t 95), none⟩,
   ⟨some (.t 97), .load false 1 (.t 96), none⟩,
   ⟨some (.t 98), .bslB 1 [(0, .t 97)], none⟩,
   ⟨some (.t 99), .app true 1 1 (.t 93) (.t 98), none⟩,
   ⟨some (.v 6), .mv (.t 99), none⟩]))
   (.rg [⟨some (.t 91), .mv (.v 8), none⟩,
   ⟨some (.t 92), .bin .sub (.t 91) (.c (.int .i64 1)), none⟩,
   ⟨some (.v 8), .mv (.t 92), none⟩]))
def m133 : MFunc := ⟨2, [.other, .other], [(4, none, .byt)],
 .seq (.rg [⟨some (.v 2), .box (.v 0), none⟩,
   ⟨some (.v 4), .mv (.c (.nilsl)), none⟩])
  (.seq (.rg [⟨some (.t 9), .fad 0 (.v 2), none⟩,
   ⟨some (.t 10), .load false 1 (.t 9), none⟩,
   ⟨some (.t 11), .bin .mul (.c (.int .i64 64)) (.t 10), none⟩,
   ⟨some (.v 5), .mv (.t 11), none⟩])
   (.seq (.seq (.rg [⟨some (.t 12), .fad 2 (.v 2), none⟩,
   ⟨some (.v 13), .load false 1 (.t 12), none⟩])
   (.cond (.v 13) (.rg [⟨some (.t 14), .mv (.v 5), none⟩,
   ⟨some (.t 15), .bin .add (.t 14) (.c (.int .i64 32)), none⟩,
   ⟨some (.v 5), .mv (.t 15), none⟩])
   (.skip)))
   (.seq (.rg [⟨some (.v 6), .mv (.c (.nilsl)), none⟩])
   (.seq (.seq (.rg [⟨some (.t 16), .fad 1 (.v 2), none⟩,
   ⟨some (.t 17), .load false 1 (.t 16), none⟩,
   ⟨some (.v 18), .bin .lss (.t 17) (.c (.int .i64 31)), none⟩])
   (.cond (.v 18) (.rg [⟨some (.t 19), .mv (.v 6), none⟩,
   ⟨some (.t 20), .mv (.v 5), none⟩,
   ⟨some (.t 21), .fad 1 (.v 2), none⟩,
   ⟨some (.t 22), .load false 1 (.t 21), none⟩,
   ⟨some (.t 23), .bin .add (.t 20) (.t 22), none⟩,
   ⟨some (.t 24), .conv .u8 (.t 23), none⟩,
   ⟨some (.t 25), .bslB 1 [(0, .t 24)], none⟩,
   ⟨some (.t 26), .app true 1 1 (.t 19) (.t 25), none⟩,
   ⟨some (.v 6), .mv (.t 26), none⟩])
   (.seq (.rg [⟨some (.t 27), .mv (.v 6), none⟩,
   ⟨some (.t 28), .mv (.v 5), none⟩,
   ⟨some (.t 29), .bin .add (.t 28) (.c (.int .i64 31)), none⟩,
   ⟨some (.t 30), .conv .u8 (.t 29), none⟩,
   ⟨some (.t 31), .bslB 1 [(0, .t 30)], none⟩,
   ⟨some (.t 32), .app true 1 1 (.t 27) (.t 31), none⟩,
   ⟨some (.v 6), .mv (.t 32), none⟩])
   (.seq (.seq (.rg [⟨some (.t 33), .fad 1 (.v 2), none⟩,
   ⟨some (.t 34), .load false 1 (.t 33), none⟩,
   ⟨some (.v 35), .bin .geq (.t 34) (.c (.int .i64 16384)), none⟩])
   (.cond (.v 35) (.rg [⟨some (.t 36), .mv (.v 6), none⟩,
   ⟨some (.t 37), .fad 1 (.v 2), none⟩,
   ⟨some (.t 38), .load false 1 (.t 37), none⟩,
   ⟨some (.t 39), .bin .shr (.t 38) (.c (.int .u64 14)), none⟩,
   ⟨some (.t 40), .bin .add (.c (.int .i64 128)) (.t 39), none⟩,
   ⟨some (.t 41), .conv .u8 (.t 40), none⟩,
   ⟨some (.t 42), .bslB 1 [(0, .t 41)], none⟩,
   ⟨some (.t 43), .app true 1 1 (.t 36) (.t 42), none⟩,
   ⟨some (.v 6), .mv (.t 43), none⟩])
   (.skip)))
   (.seq (.seq (.rg [⟨some (.t 44), .fad 1 (.v 2), none⟩,
   ⟨some (.t 45), .load false 1 (.t 44), none⟩,
   ⟨some (.v 46), .bin .geq (.t 45) (.c (.int .i64 128)), none⟩])
   (.cond (.v 46) (.rg [⟨some (.t 47), .mv (.v 6), none⟩,
   ⟨some (.t 48), .fad 1 (.v 2), none⟩,
   ⟨some (.t 49), .load false 1 (.t 48), none⟩,
   ⟨some (.t 50), .bin .shr (.t 49) (.c (.int .u64 7)), none⟩,
   ⟨some (.t 51), .bin .rem (.t 50) (.c (.int .i64 128)), none⟩,
   ⟨some (.t 52), .bin .add (.c (.int .i64 128)) (.t 51), none⟩,
   ⟨some (.t 53), .conv .u8 (.t 52), none⟩,
   ⟨some (.t 54), .bslB 1 [(0, .t 53)], none⟩,
   ⟨some (.t 55), .app true 1 1 (.t 47) (.t 54), none⟩,
   ⟨some (.v 6), .mv (.t 55), none⟩])
   (.skip)))
   (.rg [⟨some (.t 56), .mv (.v 6), none⟩,
   ⟨some (.t 57), .fad 1 (.v 2), none⟩,
   ⟨some (.t 58), .load false 1 (.t 57), none⟩,
   ⟨some (.t 59), .bin .rem (.t 58) (.c (.int .i64 128)), none⟩,
   ⟨some (.t 60), .conv .u8 (.t 59), none⟩,
   ⟨some (.t 61), .bslB 1 [(0, .t 60)], none⟩,
   ⟨some (.t 62), .app true 1 1 (.t 56) (.t 61), none⟩,
   ⟨some (.v 6), .mv (.t 62), none⟩]))))))
   (.seq (.seq (.rg [⟨some (.t 63), .mv (.v 1), none⟩,
   ⟨some (.v 64), .bin .lss (.t 63) (.c (.int .i64 128)), none⟩])
   (.cond (.v 64) (.seq (.rg [⟨some (.t 65), .mv (.v 6), none⟩,
   ⟨some (.t 66), .mv (.v 1), none⟩,
   ⟨some (.t 67), .conv .u8 (.t 66), none⟩,
   ⟨some (.t 68), .bslB 1 [(0, .t 67)], none⟩,
   ⟨some (.t 69), .app true 1 1 (.t 65) (.t 68), none⟩,
   ⟨some (.v 4), .mv (.t 69), none⟩])
   (.ret))
   (.skip)))
   (.seq (.rg [⟨some (.v 7), .mv (.c (.nilsl)), none⟩])
   (.seq (.block 0 (.loop m133k0 m133b0))
   (.seq (.rg [⟨some (.t 79), .mv (.v 6), none⟩,
   ⟨some (.t 80), .mv (.v 7), none⟩,
   ⟨some (.t 81), .len false (.t 80), none⟩,
   ⟨some (.t 82), .bin .add (.c (.int .i64 128)) (.t 81), none⟩,
   ⟨some (.t 83), .conv .u8 (.t 82), none⟩,
   ⟨some (.t 84), .bslB 1 [(0, .t 83)], none⟩,
   ⟨some (.t 85), .app true 1 1 (.t 79) (.t 84), none⟩,
   ⟨some (.v 6), .mv (.t 85), none⟩])
   (.seq (.seq (.rg [⟨some (.t 86), .mv (.v 7), none⟩,
   ⟨some (.t 87), .len false (.t 86), none⟩,
   ⟨some (.t 88), .bin .sub (.t 87) (.c (.int .i64 1)), none⟩,
   ⟨some (.v 8), .mv (.t 88), none⟩])
   (.block 2 (.loop m133k1 m133b1)))
   (.seq (.rg [⟨some (.t 100), .mv (.v 6), none⟩,
   ⟨some (.v 4), .mv (.t 100), none⟩])
   (.ret)))))))))))⟩
theorem m133o : okFn Tryz.prog 133 [9, 10, 11, 12, 14, 15, 16, 17, 19, 20, 21, 22, 23, 24, 25, 26, 27, 28, 29, 30, 31, 32, 33, 34, 36, 37, 38, 39, 40, 41, 42, 43, 44, 45, 47, 48, 49, 50, 51, 52, 53, 54, 55, 56, 57, 58, 59, 60, 61, 62, 63, 65, 66, 67, 68, 69, 70, 72, 73, 74, 75, 76, 77, 78, 79, 80, 81, 82, 83, 84, 85, 86, 87, 88, 89, 91, 92, 93, 94, 95, 96, 97, 98, 99, 100] [m133k0, m133k1] [] m133.nargs m133.params m133.results = some m133.body := by kernel_rfl

def m150 : MFunc := ⟨1, [.byt], [(2, none, .other)],
 .seq (.rg [⟨some (.v 2), .mv (.c (.bool false)), none⟩])
  (.seq (.rg [⟨some (.v 2), .mv (.c (.bool true)), none⟩])
   (.ret))⟩
theorem m150o : okFn Tryz.prog 150 [] [] [] m150.nargs m150.params m150.results = some m150.body := by kernel_rfl

def m151 : MFunc := ⟨1, [.byt], [(2, none, .other)],
 .seq (.rg [⟨some (.v 2), .mv (.c (.bool false)), none⟩])
  (.seq (.rg [⟨some (.t 3), .mv (.v 0), none⟩,
   ⟨some (.t 4), .len false (.t 3), none⟩,
   ⟨some (.t 5), .bin .eql (.t 4) (.c (.int .i64 1)), none⟩,
   ⟨some (.t 6), .mv (.t 5), none⟩,
   ⟨some (.t 7), .mv (.v 0), some (.t 6, true)⟩,
   ⟨some (.t 8), .iad 1 (.t 7) (.c (.int .i64 0)), some (.t 6, true)⟩,
   ⟨some (.t 9), .load false 1 (.t 8), some (.t 6, true)⟩,
   ⟨some (.t 10), .bin .eql (.t 9) (.c (.int .u8 0)), some (.t 6, true)⟩,
   ⟨some (.t 11), .mv (.t 10), some (.t 6, true)⟩,
   ⟨some (.t 12), .mv (.v 0), some (.t 11, false)⟩,
   ⟨some (.t 13), .iad 1 (.t 12) (.c (.int .i64 0)), some (.t 11, false)⟩,
   ⟨some (.t 14), .load false 1 (.t 13), some (.t 11, false)⟩,
   ⟨some (.t 15), .bin .eql (.t 14) (.c (.int .u8 255)), some (.t 11, false)⟩,
   ⟨some (.t 16), .pick (.t 11) (.c (.bool true)) (.t 15), some (.t 6, true)⟩,
   ⟨some (.t 17), .pick (.t 6) (.t 16) (.c (.bool false)), none⟩,
   ⟨some (.v 2), .mv (.t 17), none⟩])
   (.ret))⟩
theorem m151o : okFn Tryz.prog 151 [3, 4, 5, 6, 7, 8, 9, 10, 11, 12, 13, 14, 15, 16, 17] [] [] m151.nargs m151.params m151.results = some m151.body := by kernel_rfl

def m152 : MFunc := ⟨1, [.byt], [(2, none, .other)],
 .seq (.rg [⟨some (.v 2), .mv (.c (.bool false)), none⟩])
  (.seq (.rg [⟨some (.t 3), .mv (.v 0), none⟩,
   ⟨some (.t 4), .len false (.t 3), none⟩,
   ⟨some (.t 5), .bin .eql (.t 4) (.c (.int .i64 1)), none⟩,
   ⟨some (.t 6), .mv (.t 5), none⟩,
   ⟨some (.t 7), .mv (.v 0), some (.t 6, false)⟩,
   ⟨some (.t 8), .len false (.t 7), some (.t 6, false)⟩,
   ⟨some (.t 9), .bin .gtr (.t 8) (.c (.int .i64 1)), some (.t 6, false)⟩,
   ⟨some (.t 10), .mv (.t 9), some (.t 6, false)⟩,
   ⟨some (.t 11), .mv (.v 0), some (.t 10, true)⟩,
   ⟨some (.t 12), .iad 1 (.t 11) (.c (.int .i64 0)), some (.t 10, true)⟩,
   ⟨some (.t 13), .load false 1 (.t 12), some (.t 10, true)⟩,
   ⟨some (.t 14), .bin .eql (.t 13) (.c (.int .u8 0)), some (.t 10, true)⟩,
   ⟨some (.t 15), .mv (.t 14), some (.t 10, true)⟩,
   ⟨some (.t 16), .mv (.v 0), some (.t 15, true)⟩,
   ⟨some (.t 17), .iad 1 (.t 16) (.c (.int .i64 1)), some (.t 15, true)⟩,
   ⟨some (.t 18), .load false 1 (.t 17), some (.t 15, true)⟩,
   ⟨some (.t 19), .bin .lss (.t 18) (.c (.int .u8 128)), some (.t 15, true)⟩,
   ⟨some (.t 20), .pick (.t 15) (.t 19) (.c (.bool false)), some (.t 10, true)⟩,
   ⟨some (.t 21), .un .not (.t 20), some (.t 10, true)⟩,
   ⟨some (.t 22), .pick (.t 10) (.t 21) (.c (.bool false)), some (.t 6, false)⟩,
   ⟨some (.t 23), .mv (.t 22), some (.t 6, false)⟩,
   ⟨some (.t 24), .mv (.v 0), some (.t 23, true)⟩,
   ⟨some (.t 25), .iad 1 (.t 24) (.c (.int .i64 0)), some (.t 23, true)⟩,
   ⟨some (.t 26), .load false 1 (.t 25), some (.t 23, true)⟩,
   ⟨some (.t 27), .bin .eql (.t 26) (.c (.int .u8 255)), some (.t 23, true)⟩,
   ⟨some (.t 28), .mv (.t 27), some (.t 23, true)⟩,
   ⟨some (.t 29), .mv (.v 0), some (.t 28, true)⟩,
   ⟨some (.t 30), .iad 1 (.t 29) (.c (.int .i64 1)), some (.t 28, true)⟩,
   ⟨some (.t 31), .load false 1 (.t 30), some (.t 28, true)⟩,
   ⟨some (.t 32), .bin .geq (.t 31) (.c (.int .u8 128)), some (.t 28, true)⟩,
   ⟨some (.t 33), .pick (.t 28) (.t 32) (.c (.bool false)), some (.t 23, true)⟩,
   ⟨some (.t 34), .un .not (.t 33), some (.t 23, true)⟩,
   ⟨some (.t 35), .pick (.t 23) (.t 34) (.c (.bool false)), some (.t 6, false)⟩,
   ⟨some (.t 36), .pick (.t 6) (.c (.bool true)) (.t 35), none⟩,
   ⟨some (.v 2), .mv (.t 36), none⟩])
   (.ret))⟩
theorem m152o : okFn Tryz.prog 152 [3, 4, 5, 6, 7, 8, 9, 10, 11, 12, 13, 14, 15, 16, 17, 18, 19, 20, 21, 22, 23, 24, 25, 26, 27, 28, 29, 30, 31, 32, 33, 34, 35, 36] [] [] m152.nargs m152.params m152.results = some m152.body := by kernel_rfl

def m153 : MFunc := ⟨1, [.byt], [(2, none, .other)],
 .seq (.rg [⟨some (.v 2), .mv (.c (.bool false)), none⟩])
  (.seq (.rgd [⟨some (.t 3), .mv (.v 0), none⟩,
   ⟨some (.t 4), .len false (.t 3), none⟩,
   ⟨some (.t 5), .bin .gtr (.t 4) (.c (.int .i64 0)), none⟩,
   ⟨some (.t 6), .mv (.t 5), none⟩,
   ⟨some (.t 7), .mv (.v 0), some (.t 6, true)⟩,
   ⟨some (.t 8), .iad 1 (.t 7) (.c (.int .i64 0)), some (.t 6, true)⟩,
   ⟨some (.t 9), .load false 1 (.t 8), some (.t 6, true)⟩,
   ⟨some (.t 10), .bin .leq (.t 9) (.c (.int .u8 7)), some (.t 6, true)⟩,
   ⟨some (.t 11), .pick (.t 6) (.t 10) (.c (.bool false)), none⟩,
   ⟨some (.t 12), .mv (.t 11), none⟩,
   ⟨some (.t 13), .mv (.v 0), some (.t 12, true)⟩,
   ⟨some (.t 14), .len false (.t 13), some (.t 12, true)⟩,
   ⟨some (.t 15), .bin .gtr (.t 14) (.c (.int .i64 1)), some (.t 12, true)⟩,
   ⟨some (.t 16), .mv (.t 15), some (.t 12, true)⟩,
   ⟨some (.t 17), .mv (.v 0), some (.t 16, false)⟩,
   ⟨some (.t 18), .iad 1 (.t 17) (.c (.int .i64 0)), some (.t 16, false)⟩,
   ⟨some (.t 19), .load false 1 (.t 18), some (.t 16, false)⟩,
   ⟨some (.t 20), .bin .eql (.t 19) (.c (.int .u8 0)), some (.t 16, false)⟩,
   ⟨some (.t 21), .pick (.t 16) (.c (.bool true)) (.t 20), some (.t 12, true)⟩,
   ⟨some (.t 22), .pick (.t 12) (.t 21) (.c (.bool false)), none⟩,
   ⟨some (.t 23), .mv (.t 22), none⟩,
   ⟨some (.t 24), .mv (.v 0), some (.t 23, true)⟩,
   ⟨some (.t 25), .len false (.t 24), some (.t 23, true)⟩,
   ⟨some (.t 26), .bin .eql (.t 25) (.c (.int .i64 1)), some (.t 23, true)⟩,
   ⟨some (.t 27), .mv (.t 26), some (.t 23, true)⟩,
   ⟨some (.t 28), .mv (.v 0), some (.t 27, false)⟩,
   ⟨some (.t 29), .mv (.v 0), some (.t 27, false)⟩,
   ⟨some (.t 30), .len false (.t 29), some (.t 27, false)⟩,
   ⟨some (.t 31), .bin .sub (.t 30) (.c (.int .i64 1)), some (.t 27, false)⟩,
   ⟨some (.t 32), .iad 1 (.t 28) (.t 31), some (.t 27, false)⟩,
   ⟨some (.t 33), .load false 1 (.t 32), some (.t 27, false)⟩,
   ⟨some (.t 34), .mv (.v 0), some (.t 27, false)⟩,
   ⟨some (.t 35), .iad 1 (.t 34) (.c (.int .i64 0)), some (.t 27, false)⟩,
   ⟨some (.t 36), .load false 1 (.t 35), some (.t 27, false)⟩,
   ⟨some (.t 37), .bin .shl (.c (.int .u8 1)) (.t 36), some (.t 27, false)⟩,
   ⟨some (.t 38), .bin .sub (.t 37) (.c (.int .u8 1)), some (.t 27, false)⟩,
   ⟨some (.t 39), .bin .and (.t 33) (.t 38), some (.t 27, false)⟩,
   ⟨some (.t 40), .bin .eql (.t 39) (.c (.int .u8 0)), some (.t 27, false)⟩,
   ⟨some (.t 41), .pick (.t 27) (.c (.bool true)) (.t 40), some (.t 23, true)⟩,
   ⟨some (.t 42), .pick (.t 23) (.t 41) (.c (.bool false)), none⟩,
   ⟨some (.v 2), .mv (.t 42), none⟩]
   [[], [0], [0, 1], [0, 1, 2], [0, 1, 2, 3], [0, 1, 2, 3, 4], [0, 1, 2, 3, 4, 5], [0, 1, 2, 3, 4, 5, 6], [0, 1, 2, 3, 4, 5, 6, 7], [0, 1, 2, 3, 4, 5, 6, 7, 8], [0, 1, 2, 3, 4, 5, 6, 7, 8, 9], [0, 1, 2, 3, 4, 5, 6, 7, 8, 9, 10], [0, 1, 2, 3, 4, 5, 6, 7, 8, 9, 10, 11], [0, 1, 2, 3, 4, 5, 6, 7, 8, 9, 10, 11, 12], [0, 1, 2, 3, 4, 5, 6, 7, 8, 9, 10, 11, 12, 13], [0, 1, 2, 3, 4, 5, 6, 7, 8, 9, 10, 11, 12, 13, 14], [0, 1, 2, 3, 4, 5, 6, 7, 8, 9, 10, 11, 12, 13, 14, 15], [0, 1, 2, 3, 4, 5, 6, 7, 8, 9, 10, 11, 12, 13, 14, 15, 16], [0, 1, 2, 3, 4, 5, 6, 7, 8, 9, 10, 11, 12, 13, 14, 15, 16, 17], [0, 1, 2, 3, 4, 5, 6, 7, 8, 9, 10, 11, 12, 13, 14, 15, 16, 17, 18], [0, 1, 2, 3, 4, 5, 6, 7, 8, 9, 10, 11, 12, 13, 14, 15, 16, 17, 18, 19], [0, 1, 2, 3, 4, 5, 6, 7, 8, 9, 10, 11, 12, 13, 14, 15, 16, 17, 18, 19, 20], [0, 1, 2, 3, 4, 5, 6, 7, 8, 9, 10, 11, 12, 13, 14, 15, 16, 17, 18, 19, 20, 21], [0, 1, 2, 3, 4, 5, 6, 7, 8, 9, 10, 11, 12, 13, 14, 15, 16, 17, 18, 19, 20, 21, 22], [0, 1, 2, 3, 4, 5, 6, 7, 8, 9, 10, 11, 12, 13, 14, 15, 16, 17, 18, 19, 20, 21, 22, 23], [0, 1, 2, 3, 4, 5, 6, 7, 8, 9, 10, 11, 12, 13, 14, 15, 16, 17, 18, 19, 20, 21, 22, 23, 24], [0, 1, 2, 3, 4, 5, 6, 7, 8, 9, 10, 11, 12, 13, 14, 15, 16, 17, 18, 19, 20, 21, 22, 23, 24], [0, 1, 2, 3, 4, 5, 6, 7, 8, 9, 10, 11, 12, 13, 14, 15, 16, 17, 18, 19, 20, 21, 22, 23, 24, 26], [0, 1, 2, 3, 4, 5, 6, 7, 8, 9, 10, 11, 12, 13, 14, 15, 16, 17, 18, 19, 20, 21, 22, 23, 24, 26, 27], [0, 1, 2, 3, 4, 5, 6, 7, 8, 9, 10, 11, 12, 13, 14, 15, 16, 17, 18, 19, 20, 21, 22, 23, 24, 25, 26, 27, 28], [0, 1, 2, 3, 4, 5, 6, 7, 8, 9, 10, 11, 12, 13, 14, 15, 16, 17, 18, 19, 20, 21, 22, 23, 24, 25, 26, 27, 28, 29], [0, 1, 2, 3, 4, 5, 6, 7, 8, 9, 10, 11, 12, 13, 14, 15, 16, 17, 18, 19, 20, 21, 22, 23, 24], [0, 1, 2, 3, 4, 5, 6, 7, 8, 9, 10, 11, 12, 13, 14, 15, 16, 17, 18, 19, 20, 21, 22, 23, 24, 31], [0, 1, 2, 3, 4, 5, 6, 7, 8, 9, 10, 11, 12, 13, 14, 15, 16, 17, 18, 19, 20, 21, 22, 23, 24, 31, 32], [0, 1, 2, 3, 4, 5, 6, 7, 8, 9, 10, 11, 12, 13, 14, 15, 16, 17, 18, 19, 20, 21, 22, 23, 24, 31, 32, 33], [0, 1, 2, 3, 4, 5, 6, 7, 8, 9, 10, 11, 12, 13, 14, 15, 16, 17, 18, 19, 20, 21, 22, 23, 24, 31, 32, 33, 34], [0, 1, 2, 3, 4, 5, 6, 7, 8, 9, 10, 11, 12, 13, 14, 15, 16, 17, 18, 19, 20, 21, 22, 23, 24, 25, 26, 27, 28, 29, 30, 31, 32, 33, 34, 35], [0, 1, 2, 3, 4, 5, 6, 7, 8, 9, 10, 11, 12, 13, 14, 15, 16, 17, 18, 19, 20, 21, 22, 23, 24, 25, 26, 27, 28, 29, 30, 31, 32, 33, 34, 35, 36], [0, 1, 2, 3, 4, 5, 6, 7, 8, 9, 10, 11, 12, 13, 14, 15, 16, 17, 18, 19, 20, 21, 22, 23, 24, 25, 26, 27, 28, 29, 30, 31, 32, 33, 34, 35, 36, 37], [0, 1, 2, 3, 4, 5, 6, 7, 8, 9, 10, 11, 12, 13, 14, 15, 16, 17, 18, 19, 20, 21, 22, 23, 24, 25, 26, 27, 28, 29, 30, 31, 32, 33, 34, 35, 36, 37, 38], [0, 1, 2, 3, 4, 5, 6, 7, 8, 9, 10, 11, 12, 13, 14, 15, 16, 17, 18, 19, 20, 21, 22, 23, 24, 25, 26, 27, 28, 29, 30, 31, 32, 33, 34, 35, 36, 37, 38, 39]])
   (.ret))⟩
theorem m153o : okFn Tryz.prog 153 [3, 4, 5, 6, 7, 8, 9, 10, 11, 12, 13, 14, 15, 16, 17, 18, 19, 20, 21, 22, 23, 24, 25, 26, 27, 28, 29, 30, 31, 32, 33, 34, 35, 36, 37, 38, 39, 40, 41, 42] [] [[[], [0], [0, 1], [0, 1, 2], [0, 1, 2, 3], [0, 1, 2, 3, 4], [0, 1, 2, 3, 4, 5], [0, 1, 2, 3, 4, 5, 6], [0, 1, 2, 3, 4, 5, 6, 7], [0, 1, 2, 3, 4, 5, 6, 7, 8], [0, 1, 2, 3, 4, 5, 6, 7, 8, 9], [0, 1, 2, 3, 4, 5, 6, 7, 8, 9, 10], [0, 1, 2, 3, 4, 5, 6, 7, 8, 9, 10, 11], [0, 1, 2, 3, 4, 5, 6, 7, 8, 9, 10, 11, 12], [0, 1, 2, 3, 4, 5, 6, 7, 8, 9, 10, 11, 12, 13], [0, 1, 2, 3, 4, 5, 6, 7, 8, 9, 10, 11, 12, 13, 14], [0, 1, 2, 3, 4, 5, 6, 7, 8, 9, 10, 11, 12, 13, 14, 15], [0, 1, 2, 3, 4, 5, 6, 7, 8, 9, 10, 11, 12, 13, 14, 15, 16], [0, 1, 2, 3, 4, 5, 6, 7, 8, 9, 10, 11, 12, 13, 14, 15, 16, 17], [0, 1, 2, 3, 4, 5, 6, 7, 8, 9, 10, 11, 12, 13, 14, 15, 16, 17, 18], [0, 1, 2, 3, 4, 5, 6, 7, 8, 9, 10, 11, 12, 13, 14, 15, 16, 17, 18, 19], [0, 1, 2, 3, 4, 5, 6, 7, 8, 9, 10, 11, 12, 13, 14, 15, 16, 17, 18, 19, 20], [0, 1, 2, 3, 4, 5, 6, 7, 8, 9, 10, 11, 12, 13, 14, 15, 16, 17, 18, 19, 20, 21], [0, 1, 2, 3, 4, 5, 6, 7, 8, 9, 10, 11, 12, 13, 14, 15, 16, 17, 18, 19, 20, 21, 22], [0, 1, 2, 3, 4, 5, 6, 7, 8, 9, 10, 11, 12, 13, 14, 15, 16, 17, 18, 19, 20, 21, 22, 23], [0, 1, 2, 3, 4, 5, 6, 7, 8, 9, 10, 11, 12, 13, 14, 15, 16, 17, 18, 19, 20, 21, 22, 23, 24], [0, 1, 2, 3, 4, 5, 6, 7, 8, 9, 10, 11, 12, 13, 14, 15, 16, 17, 18, 19, 20, 21, 22, 23, 24], [0, 1, 2, 3, 4, 5, 6, 7, 8, 9, 10, 11, 12, 13, 14, 15, 16, 17, 18, 19, 20, 21, 22, 23, 24, 26], [0, 1, 2, 3, 4, 5, 6, 7, 8, 9, 10, 11, 12, 13, 14, 15, 16, 17, 18, 19, 20, 21, 22, 23, 24, 26, 27], [0, 1, 2, 3, 4, 5, 6, 7, 8, 9, 10, 11, 12, 13, 14, 15, 16, 17, 18, 19, 20, 21, 22, 23, 24, 25, 26, 27, 28], [0, 1, 2, 3, 4, 5, 6, 7, 8, 9, 10, 11, 12, 13, 14, 15, 16, 17, 18, 19, 20, 21, 22, 23, 24, 25, 26, 27, 28, 29], [0, 1, 2, 3, 4, 5, 6, 7, 8, 9, 10, 11, 12, 13, 14, 15, 16, 17, 18, 19, 20, 21, 22, 23, 24], [0, 1, 2, 3, 4, 5, 6, 7, 8, 9, 10, 11, 12, 13, 14, 15, 16, 17, 18, 19, 20, 21, 22, 23, 24, 31], [0, 1, 2, 3, 4, 5, 6, 7, 8, 9, 10, 11, 12, 13, 14, 15, 16, 17, 18, 19, 20, 21, 22, 23, 24, 31, 32], [0, 1, 2, 3, 4, 5, 6, 7, 8, 9, 10, 11, 12, 13, 14, 15, 16, 17, 18, 19, 20, 21, 22, 23, 24, 31, 32, 33], [0, 1, 2, 3, 4, 5, 6, 7, 8, 9, 10, 11, 12, 13, 14, 15, 16, 17, 18, 19, 20, 21, 22, 23, 24, 31, 32, 33, 34], [0, 1, 2, 3, 4, 5, 6, 7, 8, 9, 10, 11, 12, 13, 14, 15, 16, 17, 18, 19, 20, 21, 22, 23, 24, 25, 26, 27, 28, 29, 30, 31, 32, 33, 34, 35], [0, 1, 2, 3, 4, 5, 6, 7, 8, 9, 10, 11, 12, 13, 14, 15, 16, 17, 18, 19, 20, 21, 22, 23, 24, 25, 26, 27, 28, 29, 30, 31, 32, 33, 34, 35, 36], [0, 1, 2, 3, 4, 5, 6, 7, 8, 9, 10, 11, 12, 13, 14, 15, 16, 17, 18, 19, 20, 21, 22, 23, 24, 25, 26, 27, 28, 29, 30, 31, 32, 33, 34, 35, 36, 37], [0, 1, 2, 3, 4, 5, 6, 7, 8, 9, 10, 11, 12, 13, 14, 15, 16, 17, 18, 19, 20, 21, 22, 23, 24, 25, 26, 27, 28, 29, 30, 31, 32, 33, 34, 35, 36, 37, 38], [0, 1, 2, 3, 4, 5, 6, 7, 8, 9, 10, 11, 12, 13, 14, 15, 16, 17, 18, 19, 20, 21, 22, 23, 24, 25, 26, 27, 28, 29, 30, 31, 32, 33, 34, 35, 36, 37, 38, 39]]] m153.nargs m153.params m153.results = some m153.body := by kernel_rfl

def m154 : MFunc := ⟨1, [.byt], [(2, none, .other)],
 .seq (.rg [⟨some (.v 2), .mv (.c (.bool false)), none⟩])
  (.seq (.rg [⟨some (.t 3), .mv (.v 0), none⟩,
   ⟨some (.t 4), .len false (.t 3), none⟩,
   ⟨some (.t 5), .bin .eql (.t 4) (.c (.int .i64 0)), none⟩,
   ⟨some (.v 2), .mv (.t 5), none⟩])
   (.ret))⟩
theorem m154o : okFn Tryz.prog 154 [3, 4, 5] [] [] m154.nargs m154.params m154.results = some m154.body := by kernel_rfl

def m155k0 : List (Nat × KMode) := [(0, .plain), (5, .plain), (6, .plain), (7, .plain)]
def m155b0 : MCode :=
 .seq (.rg [⟨some (.v 8), .bin .lss (.v 7) (.v 6), none⟩])
  (.seq (.cond (.v 8) (.skip)
   (.exit 0))
   (.seq (.block 1 (.seq (.rg [⟨some (.t 9), .mv (.v 7), none⟩,
   ⟨some (.t 10), .iad 1 (.v 5) (.v 7), none⟩,
   ⟨some (.t 11), .load false 1 (.t 10), none⟩,
   ⟨some (.v 3), .mv (.t 9), none⟩,
   ⟨some (.v 4), .mv (.t 11), none⟩])
   (.seq (.rg [⟨some (.t 12), .mv (.v 4), none⟩,
   ⟨some (.t 13), .bin .eql (.t 12) (.c (.int .u8 128)), none⟩,
   ⟨some (.t 14), .mv (.t 13), none⟩,
   ⟨some (.t 15), .mv (.v 3), some (.t 14, true)⟩,
   ⟨some (.t 16), .bin .eql (.t 15) (.c (.int .i64 0)), some (.t 14, true)⟩,
   ⟨some (.t 17), .mv (.t 16), some (.t 14, true)⟩,
   ⟨some (.t 18), .mv (.v 0), some (.t 17, false)⟩,
   ⟨some (.t 19), .mv (.v 3), some (.t 17, false)⟩,
   ⟨some (.t 20), .bin .sub (.t 19) (.c (.int .i64 1)), some (.t 17, false)⟩,
   ⟨some (.t 21), .iad 1 (.t 18) (.t 20), some (.t 17, false)⟩,
   ⟨some (.t 22), .load false 1 (.t 21), some (.t 17, false)⟩,
   ⟨some (.t 23), .bin .lss (.t 22) (.c (.int .u8 128)), some (.t 17, false)⟩,
   ⟨some (.t 24), .pick (.t 17) (.c (.bool true)) (.t 23), some (.t 14, true)⟩,
   ⟨some (.v 25), .pick (.t 14) (.t 24) (.c (.bool false)), none⟩])
   (.cond (.v 25) (.seq (.rg [⟨some (.v 2), .mv (.c (.bool false)), none⟩])
   (.ret))
   (.skip)))))
   (.rg [⟨some (.t 26), .bin .add (.v 7) (.c (.int .i64 1)), none⟩,
   ⟨some (.v 7), .mv (.t 26), none⟩])))
def m155 : MFunc := ⟨1, [.byt], [(2, none, .other)],
 .seq (.rg [⟨some (.v 2), .mv (.c (.bool false)), none⟩])
  (.seq (.seq (.rg [⟨some (.v 5), .mv (.v 0), none⟩,
   ⟨some (.v 6), .len false (.v 5), none⟩,
   ⟨some (.v 7), .mv (.c (.int .i64 0)), none⟩])
   (.block 0 (.loop m155k0 m155b0)))
   (.seq (.rg [⟨some (.t 27), .mv (.v 0), none⟩,
   ⟨some (.t 28), .len false (.t 27), none⟩,
   ⟨some (.t 29), .bin .gtr (.t 28) (.c (.int .i64 0)), none⟩,
   ⟨some (.t 30), .mv (.t 29), none⟩,
   ⟨some (.t 31), .mv (.v 0), some (.t 30, true)⟩,
   ⟨some (.t 32), .mv (.v 0), some (.t 30, true)⟩,
   ⟨some (.t 33), .len false (.t 32), some (.t 30, true)⟩,
   ⟨some (.t 34), .bin .sub (.t 33) (.c (.int .i64 1)), some (.t 30, true)⟩,
   ⟨some (.t 35), .iad 1 (.t 31) (.t 34), some (.t 30, true)⟩,
   ⟨some (.t 36), .load false 1 (.t 35), some (.t 30, true)⟩,
   ⟨some (.t 37), .bin .lss (.t 36) (.c (.int .u8 128)), some (.t 30, true)⟩,
   ⟨some (.t 38), .pick (.t 30) (.t 37) (.c (.bool false)), none⟩,
   ⟨some (.v 2), .mv (.t 38), none⟩])
   (.ret)))⟩
theorem m155o : okFn Tryz.prog 155 [9, 10, 11, 12, 13, 14, 15, 16, 17, 18, 19, 20, 21, 22, 23, 24, 26, 27, 28, 29, 30, 31, 32, 33, 34, 35, 36, 37, 38] [m155k0] [] m155.nargs m155.params m155.results = some m155.body := by kernel_rfl

def m157 : MFunc := ⟨1, [.byt], [(2, none, .other)],
 .seq (.rg [⟨some (.v 2), .mv (.c (.bool false)), none⟩])
  (.seq (.rg [⟨some (.t 3), .mv (.v 0), none⟩,
   ⟨some (.t 4), .call 158 [.t 3, .c (.fn 81 [])], none⟩,
   ⟨some (.v 2), .mv (.t 4), none⟩])
   (.ret))⟩
theorem m157o : okFn Tryz.prog 157 [3, 4] [] [] m157.nargs m157.params m157.results = some m157.body := by kernel_rfl

def m158k0 : List (Nat × KMode) := [(1, .plain), (7, .plain), (8, .plain), (9, .plain)]
def m158b0 : MCode :=
 .seq (.rg [⟨some (.v 10), .bin .lss (.v 9) (.v 8), none⟩])
  (.seq (.cond (.v 10) (.skip)
   (.exit 0))
   (.seq (.block 1 (.seq (.rg [⟨some (.t 11), .iad 1 (.v 7) (.v 9), none⟩,
   ⟨some (.t 12), .load false 1 (.t 11), none⟩,
   ⟨some (.v 6), .mv (.t 12), none⟩])
   (.seq (.rg [⟨some (.t 13), .mv (.v 1), none⟩,
   ⟨some (.t 14), .mv (.v 6), none⟩,
   ⟨some (.t 15), .callv (.t 13) [.t 14], none⟩,
   ⟨some (.v 16), .un .not (.t 15), none⟩])
   (.cond (.v 16) (.seq (.rg [⟨some (.v 4), .mv (.c (.bool false)), none⟩])
   (.ret))
   (.skip)))))
   (.rg [⟨some (.t 17), .bin .add (.v 9) (.c (.int .i64 1)), none⟩,
   ⟨some (.v 9), .mv (.t 17), none⟩])))
def m158 : MFunc := ⟨2, [.byt, .other], [(4, none, .other)],
 .seq (.rg [⟨some (.v 4), .mv (.c (.bool false)), none⟩])
  (.seq (.seq (.rg [⟨some (.v 7), .mv (.v 0), none⟩,
   ⟨some (.v 8), .len false (.v 7), none⟩,
   ⟨some (.v 9), .mv (.c (.int .i64 0)), none⟩])
   (.block 0 (.loop m158k0 m158b0)))
   (.seq (.rg [⟨some (.v 4), .mv (.c (.bool true)), none⟩])
   (.ret)))⟩
theorem m158o : okFn Tryz.prog 158 [11, 12, 13, 14, 15, 17] [m158k0] [] m158.nargs m158.params m158.results = some m158.body := by kernel_rfl

def m159 : MFunc := ⟨1, [.byt], [(2, none, .other)],
 .seq (.rg [⟨some (.v 2), .mv (.c (.bool false)), none⟩])
  (.seq (.rg [⟨some (.t 3), .mv (.v 0), none⟩,
   ⟨some (.t 4), .call 158 [.t 3, .c (.fn 160 [])], none⟩,
   ⟨some (.v 2), .mv (.t 4), none⟩])
   (.ret))⟩
theorem m159o : okFn Tryz.prog 159 [3, 4] [] [] m159.nargs m159.params m159.results = some m159.body := by kernel_rfl

def m160 : MFunc := ⟨1, [.other], [(2, none, .other)],
 .seq (.rg [⟨some (.v 2), .mv (.c (.bool false)), none⟩])
  (.seq (.rg [⟨some (.t 3), .mv (.v 0), none⟩,
   ⟨some (.t 4), .bin .lss (.t 3) (.c (.int .u8 128)), none⟩,
   ⟨some (.v 2), .mv (.t 4), none⟩])
   (.ret))⟩
theorem m160o : okFn Tryz.prog 160 [3, 4] [] [] m160.nargs m160.params m160.results = some m160.body := by kernel_rfl

def m161 : MFunc := ⟨1, [.byt], [(2, none, .other)],
 .seq (.rg [⟨some (.v 2), .mv (.c (.bool false)), none⟩])
  (.seq (.rg [⟨some (.t 3), .mv (.v 0), none⟩,
   ⟨some (.t 4), .call 162 [.t 3, .c (.int .i64 2)], none⟩,
   ⟨some (.v 2), .mv (.t 4), none⟩])
   (.ret))⟩
theorem m161o : okFn Tryz.prog 161 [3, 4] [] [] m161.nargs m161.params m161.results = some m161.body := by kernel_rfl

def m162k0 : List (Nat × KMode) := [(0, .plain), (1, .plain), (5, (.ownE 1)), (6, .plain)]
def m162b0 : MCode :=
 .seq (.seq (.rg [⟨some (.t 24), .mv (.v 6), none⟩,
   ⟨some (.t 25), .mv (.v 0), none⟩,
   ⟨some (.t 26), .len false (.t 25), none⟩,
   ⟨some (.t 27), .bin .sub (.t 26) (.c (.int .i64 1)), none⟩,
   ⟨some (.v 28), .bin .lss (.t 24) (.t 27), none⟩])
   (.cond (.v 28) (.skip)
   (.exit 0)))
  (.seq (.block 1 (.seq (.rg [⟨some (.t 32), .mv (.v 0), none⟩,
   ⟨some (.t 33), .mv (.v 6), none⟩,
   ⟨some (.t 34), .slc false 1 (.t 32) (some (.t 33)) none, none⟩,
   ⟨some (.t 35), .call 175 [.t 34], none⟩,
   ⟨some (.t 31), .mv (.t 35), none⟩,
   ⟨some (.t 36), .ext 0 (.t 31), none⟩,
   ⟨some (.t 37), .ext 1 (.t 31), none⟩,
   ⟨some (.v 7), .mv (.t 36), none⟩,
   ⟨some (.v 8), .mv (.t 37), none⟩])
   (.seq (.seq (.rg [⟨some (.t 38), .mv (.v 8), none⟩,
   ⟨some (.v 39), .un .not (.t 38), none⟩])
   (.cond (.v 39) (.seq (.rg [⟨some (.v 4), .mv (.c (.bool false)), none⟩])
   (.ret))
   (.skip)))
   (.rg [⟨some (.t 40), .mv (.v 5), none⟩,
   ⟨some (.t 41), .mv (.v 7), none⟩,
   ⟨some (.t 42), .bslE 1 (.int .i64 0) 1 [(0, .t 41)], none⟩,
   ⟨some (.t 43), .app false 1 8 (.t 40) (.t 42), none⟩,
   ⟨some (.v 5), .mv (.t 43), none⟩]))))
   (.rg [⟨some (.t 29), .mv (.v 6), none⟩,
   ⟨some (.t 30), .bin .add (.t 29) (.c (.int .i64 2)), none⟩,
   ⟨some (.v 6), .mv (.t 30), none⟩]))
def m162 : MFunc := ⟨2, [.byt, .other], [(4, none, .other)],
 .seq (.rg [⟨some (.v 4), .mv (.c (.bool false)), none⟩])
  (.seq (.seq (.rg [⟨some (.t 10), .mv (.v 0), none⟩,
   ⟨some (.t 11), .len false (.t 10), none⟩,
   ⟨some (.t 12), .mv (.v 1), none⟩,
   ⟨some (.t 13), .bin .add (.t 12) (.c (.int .i64 11)), none⟩,
   ⟨some (.t 14), .bin .neq (.t 11) (.t 13), none⟩,
   ⟨some (.t 15), .mv (.t 14), none⟩,
   ⟨some (.t 16), .mv (.v 0), some (.t 15, false)⟩,
   ⟨some (.t 17), .mv (.v 0), some (.t 15, false)⟩,
   ⟨some (.t 18), .len false (.t 17), some (.t 15, false)⟩,
   ⟨some (.t 19), .bin .sub (.t 18) (.c (.int .i64 1)), some (.t 15, false)⟩,
   ⟨some (.t 20), .iad 1 (.t 16) (.t 19), some (.t 15, false)⟩,
   ⟨some (.t 21), .load false 1 (.t 20), some (.t 15, false)⟩,
   ⟨some (.t 22), .bin .neq (.t 21) (.c (.int .u8 90)), some (.t 15, false)⟩,
   ⟨some (.v 23), .pick (.t 15) (.c (.bool true)) (.t 22), none⟩])
   (.cond (.v 23) (.seq (.rg [⟨some (.v 4), .mv (.c (.bool false)), none⟩])
   (.ret))
   (.skip)))
   (.seq (.rg [⟨some (.v 5), .mv (.c (.nilsl)), none⟩])
   (.seq (.seq (.rg [⟨some (.v 6), .mv (.c (.int .i64 0)), none⟩])
   (.block 0 (.loop m162k0 m162b0)))
   (.seq (.rg [⟨some (.t 44), .mv (.v 5), none⟩,
   ⟨some (.t 45), .iad 1 (.t 44) (.c (.int .i64 0)), none⟩,
   ⟨some (.t 46), .load false 1 (.t 45), none⟩,
   ⟨some (.v 9), .mv (.t 46), none⟩])
   (.seq (.seq (.rg [⟨some (.t 47), .mv (.v 1), none⟩,
   ⟨some (.v 48), .bin .eql (.t 47) (.c (.int .i64 4)), none⟩])
   (.cond (.v 48) (.rgd [⟨some (.t 49), .mv (.v 5), none⟩,
   ⟨some (.t 50), .iad 1 (.t 49) (.c (.int .i64 0)), none⟩,
   ⟨some (.t 51), .load false 1 (.t 50), none⟩,
   ⟨some (.t 52), .bin .mul (.c (.int .i64 100)) (.t 51), none⟩,
   ⟨some (.t 53), .mv (.v 5), none⟩,
   ⟨some (.t 54), .iad 1 (.t 53) (.c (.int .i64 1)), none⟩,
   ⟨some (.t 55), .load false 1 (.t 54), none⟩,
   ⟨some (.t 56), .bin .add (.t 52) (.t 55), none⟩,
   ⟨some (.t 57), .mv (.v 5), none⟩,
   ⟨some (.t 58), .slc false 1 (.t 57) (some (.c (.int .i64 1))) none, none⟩,
   ⟨some (.v 9), .mv (.t 56), none⟩,
   ⟨some (.v 5), .mv (.t 58), none⟩]
   [[], [0], [0, 1], [0, 1, 2], [], [4], [4, 5], [0, 1, 2, 3, 4, 5, 6], [], [8], [0, 1, 2, 3, 4, 5, 6, 7], [0, 1, 2, 3, 4, 5, 6, 7, 8, 9, 10]])
   (.seq (.rg [⟨some (.t 59), .mv (.v 9), none⟩,
   ⟨some (.t 60), .bin .add (.t 59) (.c (.int .i64 1900)), none⟩,
   ⟨some (.v 9), .mv (.t 60), none⟩])
   (.seq (.rg [⟨some (.t 61), .mv (.v 9), none⟩,
   ⟨some (.v 62), .bin .lss (.t 61) (.c (.int .i64 1950)), none⟩])
   (.cond (.v 62) (.rg [⟨some (.t 63), .mv (.v 9), none⟩,
   ⟨some (.t 64), .bin .add (.t 63) (.c (.int .i64 100)), none⟩,
   ⟨some (.v 9), .mv (.t 64), none⟩])
   (.skip))))))
   (.seq (.rgd [⟨some (.t 65), .mv (.v 5), none⟩,
   ⟨some (.t 66), .iad 1 (.t 65) (.c (.int .i64 1)), none⟩,
   ⟨some (.t 67), .load false 1 (.t 66), none⟩,
   ⟨some (.t 68), .bin .geq (.t 67) (.c (.int .i64 1)), none⟩,
   ⟨some (.t 69), .mv (.t 68), none⟩,
   ⟨some (.t 70), .mv (.v 5), some (.t 69, true)⟩,
   ⟨some (.t 71), .iad 1 (.t 70) (.c (.int .i64 1)), some (.t 69, true)⟩,
   ⟨some (.t 72), .load false 1 (.t 71), some (.t 69, true)⟩,
   ⟨some (.t 73), .bin .leq (.t 72) (.c (.int .i64 12)), some (.t 69, true)⟩,
   ⟨some (.t 74), .pick (.t 69) (.t 73) (.c (.bool false)), none⟩,
   ⟨some (.t 75), .mv (.t 74), none⟩,
   ⟨some (.t 76), .mv (.v 5), some (.t 75, true)⟩,
   ⟨some (.t 77), .iad 1 (.t 76) (.c (.int .i64 2)), some (.t 75, true)⟩,
   ⟨some (.t 78), .load false 1 (.t 77), some (.t 75, true)⟩,
   ⟨some (.t 79), .bin .geq (.t 78) (.c (.int .i64 1)), some (.t 75, true)⟩,
   ⟨some (.t 80), .pick (.t 75) (.t 79) (.c (.bool false)), none⟩,
   ⟨some (.t 81), .mv (.t 80), none⟩,
   ⟨some (.t 82), .mv (.v 5), some (.t 81, true)⟩,
   ⟨some (.t 83), .iad 1 (.t 82) (.c (.int .i64 2)), some (.t 81, true)⟩,
   ⟨some (.t 84), .load false 1 (.t 83), some (.t 81, true)⟩,
   ⟨some (.t 85), .mv (.v 9), some (.t 81, true)⟩,
   ⟨some (.t 86), .mv (.v 5), some (.t 81, true)⟩,
   ⟨some (.t 87), .iad 1 (.t 86) (.c (.int .i64 1)), some (.t 81, true)⟩,
   ⟨some (.t 88), .load false 1 (.t 87), some (.t 81, true)⟩,
   ⟨some (.t 89), .call 176 [.t 85, .t 88], some (.t 81, true)⟩,
   ⟨some (.t 90), .bin .leq (.t 84) (.t 89), some (.t 81, true)⟩,
   ⟨some (.t 91), .pick (.t 81) (.t 90) (.c (.bool false)), none⟩,
   ⟨some (.t 92), .mv (.t 91), none⟩,
   ⟨some (.t 93), .mv (.v 5), some (.t 92, true)⟩,
   ⟨some (.t 94), .iad 1 (.t 93) (.c (.int .i64 3)), some (.t 92, true)⟩,
   ⟨some (.t 95), .load false 1 (.t 94), some (.t 92, true)⟩,
   ⟨some (.t 96), .bin .lss (.t 95) (.c (.int .i64 24)), some (.t 92, true)⟩,
   ⟨some (.t 97), .pick (.t 92) (.t 96) (.c (.bool false)), none⟩,
   ⟨some (.t 98), .mv (.t 97), none⟩,
   ⟨some (.t 99), .mv (.v 5), some (.t 98, true)⟩,
   ⟨some (.t 100), .iad 1 (.t 99) (.c (.int .i64 4)), some (.t 98, true)⟩,
   ⟨some (.t 101), .load false 1 (.t 100), some (.t 98, true)⟩,
   ⟨some (.t 102), .bin .lss (.t 101) (.c (.int .i64 60)), some (.t 98, true)⟩,
   ⟨some (.t 103), .pick (.t 98) (.t 102) (.c (.bool false)), none⟩,
   ⟨some (.t 104), .mv (.t 103), none⟩,
   ⟨some (.t 105), .mv (.v 5), some (.t 104, true)⟩,
   ⟨some (.t 106), .iad 1 (.t 105) (.c (.int .i64 5)), some (.t 104, true)⟩,
   ⟨some (.t 107), .load false 1 (.t 106), some (.t 104, true)⟩,
   ⟨some (.t 108), .bin .lss (.t 107) (.c (.int .i64 60)), some (.t 104, true)⟩,
   ⟨some (.t 109), .pick (.t 104) (.t 108) (.c (.bool false)), none⟩,
   ⟨some (.v 4), .mv (.t 109), none⟩]
   [[], [0], [0, 1], [0, 1, 2], [0, 1, 2, 3], [0, 1, 2, 3, 4], [0, 1, 2, 3, 4, 5], [0, 1, 2, 3, 4, 5, 6], [0, 1, 2, 3, 4, 5, 6, 7], [0, 1, 2, 3, 4, 5, 6, 7, 8], [0, 1, 2, 3, 4, 5, 6, 7, 8, 9], [0, 1, 2, 3, 4, 5, 6, 7, 8, 9, 10], [0, 1, 2, 3, 4, 5, 6, 7, 8, 9, 10, 11], [0, 1, 2, 3, 4, 5, 6, 7, 8, 9, 10, 11, 12], [0, 1, 2, 3, 4, 5, 6, 7, 8, 9, 10, 11, 12, 13], [0, 1, 2, 3, 4, 5, 6, 7, 8, 9, 10, 11, 12, 13, 14], [0, 1, 2, 3, 4, 5, 6, 7, 8, 9, 10, 11, 12, 13, 14, 15], [0, 1, 2, 3, 4, 5, 6, 7, 8, 9, 10, 11, 12, 13, 14, 15, 16], [0, 1, 2, 3, 4, 5, 6, 7, 8, 9, 10, 11, 12, 13, 14, 15, 16, 17], [0, 1, 2, 3, 4, 5, 6, 7, 8, 9, 10, 11, 12, 13, 14, 15, 16, 17, 18], [0, 1, 2, 3, 4, 5, 6, 7, 8, 9, 10, 11, 12, 13, 14, 15, 16], [0, 1, 2, 3, 4, 5, 6, 7, 8, 9, 10, 11, 12, 13, 14, 15, 16], [0, 1, 2, 3, 4, 5, 6, 7, 8, 9, 10, 11, 12, 13, 14, 15, 16, 21], [0, 1, 2, 3, 4, 5, 6, 7, 8, 9, 10, 11, 12, 13, 14, 15, 16, 21, 22], [0, 1, 2, 3, 4, 5, 6, 7, 8, 9, 10, 11, 12, 13, 14, 15, 16, 20, 21, 22, 23], [0, 1, 2, 3, 4, 5, 6, 7, 8, 9, 10, 11, 12, 13, 14, 15, 16, 17, 18, 19, 20, 21, 22, 23, 24], [0, 1, 2, 3, 4, 5, 6, 7, 8, 9, 10, 11, 12, 13, 14, 15, 16, 17, 18, 19, 20, 21, 22, 23, 24, 25], [0, 1, 2, 3, 4, 5, 6, 7, 8, 9, 10, 11, 12, 13, 14, 15, 16, 17, 18, 19, 20, 21, 22, 23, 24, 25, 26], [0, 1, 2, 3, 4, 5, 6, 7, 8, 9, 10, 11, 12, 13, 14, 15, 16, 17, 18, 19, 20, 21, 22, 23, 24, 25, 26, 27], [0, 1, 2, 3, 4, 5, 6, 7, 8, 9, 10, 11, 12, 13, 14, 15, 16, 17, 18, 19, 20, 21, 22, 23, 24, 25, 26, 27, 28], [0, 1, 2, 3, 4, 5, 6, 7, 8, 9, 10, 11, 12, 13, 14, 15, 16, 17, 18, 19, 20, 21, 22, 23, 24, 25, 26, 27, 28, 29], [0, 1, 2, 3, 4, 5, 6, 7, 8, 9, 10, 11, 12, 13, 14, 15, 16, 17, 18, 19, 20, 21, 22, 23, 24, 25, 26, 27, 28, 29, 30], [0, 1, 2, 3, 4, 5, 6, 7, 8, 9, 10, 11, 12, 13, 14, 15, 16, 17, 18, 19, 20, 21, 22, 23, 24, 25, 26, 27, 28, 29, 30, 31], [0, 1, 2, 3, 4, 5, 6, 7, 8, 9, 10, 11, 12, 13, 14, 15, 16, 17, 18, 19, 20, 21, 22, 23, 24, 25, 26, 27, 28, 29, 30, 31, 32], [0, 1, 2, 3, 4, 5, 6, 7, 8, 9, 10, 11, 12, 13, 14, 15, 16, 17, 18, 19, 20, 21, 22, 23, 24, 25, 26, 27, 28, 29, 30, 31, 32, 33], [0, 1, 2, 3, 4, 5, 6, 7, 8, 9, 10, 11, 12, 13, 14, 15, 16, 17, 18, 19, 20, 21, 22, 23, 24, 25, 26, 27, 28, 29, 30, 31, 32, 33, 34], [0, 1, 2, 3, 4, 5, 6, 7, 8, 9, 10, 11, 12, 13, 14, 15, 16, 17, 18, 19, 20, 21, 22, 23, 24, 25, 26, 27, 28, 29, 30, 31, 32, 33, 34, 35], [0, 1, 2, 3, 4, 5, 6, 7, 8, 9, 10, 11, 12, 13, 14, 15, 16, 17, 18, 19, 20, 21, 22, 23, 24, 25, 26, 27, 28, 29, 30, 31, 32, 33, 34, 35, 36], [0, 1, 2, 3, 4, 5, 6, 7, 8, 9, 10, 11, 12, 13, 14, 15, 16, 17, 18, 19, 20, 21, 22, 23, 24, 25, 26, 27, 28, 29, 30, 31, 32, 33, 34, 35, 36, 37], [0, 1, 2, 3, 4, 5, 6, 7, 8, 9, 10, 11, 12, 13, 14, 15, 16, 17, 18, 19, 20, 21, 22, 23, 24, 25, 26, 27, 28, 29, 30, 31, 32, 33, 34, 35, 36, 37, 38], [0, 1, 2, 3, 4, 5, 6, 7, 8, 9, 10, 11, 12, 13, 14, 15, 16, 17, 18, 19, 20, 21, 22, 23, 24, 25, 26, 27, 28, 29, 30, 31, 32, 33, 34, 35, 36, 37, 38, 39], [0, 1, 2, 3, 4, 5, 6, 7, 8, 9, 10, 11, 12, 13, 14, 15, 16, 17, 18, 19, 20, 21, 22, 23, 24, 25, 26, 27, 28, 29, 30, 31, 32, 33, 34, 35, 36, 37, 38, 39, 40], [0, 1, 2, 3, 4, 5, 6, 7, 8, 9, 10, 11, 12, 13, 14, 15, 16, 17, 18, 19, 20, 21, 22, 23, 24, 25, 26, 27, 28, 29, 30, 31, 32, 33, 34, 35, 36, 37, 38, 39, 40, 41], [0, 1, 2, 3, 4, 5, 6, 7, 8, 9, 10, 11, 12, 13, 14, 15, 16, 17, 18, 19, 20, 21, 22, 23, 24, 25, 26, 27, 28, 29, 30, 31, 32, 33, 34, 35, 36, 37, 38, 39, 40, 41, 42], [0, 1, 2, 3, 4, 5, 6, 7, 8, 9, 10, 11, 12, 13, 14, 15, 16, 17, 18, 19, 20, 21, 22, 23, 24, 25, 26, 27, 28, 29, 30, 31, 32, 33, 34, 35, 36, 37, 38, 39, 40, 41, 42, 43], [0, 1, 2, 3, 4, 5, 6, 7, 8, 9, 10, 11, 12, 13, 14, 15, 16, 17, 18, 19, 20, 21, 22, 23, 24, 25, 26, 27, 28, 29, 30, 31, 32, 33, 34, 35, 36, 37, 38, 39, 40, 41, 42, 43, 44]])
   (.ret)))))))⟩
theorem m162o : okFn Tryz.prog 162 [10, 11, 12, 13, 14, 15, 16, 17, 18, 19, 20, 21, 22, 24, 25, 26, 27, 29, 30, 31, 32, 33, 34, 35, 36, 37, 38, 40, 41, 42, 43, 44, 45, 46, 47, 49, 50, 51, 52, 53, 54, 55, 56, 57, 58, 59, 60, 61, 63, 64, 65, 66, 67, 68, 69, 70, 71, 72, 73, 74, 75, 76, 77, 78, 79, 80, 81, 82, 83, 84, 85, 86, 87, 88, 89, 90, 91, 92, 93, 94, 95, 96, 97, 98, 99, 100, 101, 102, 103, 104, 105, 106, 107, 108, 109] [m162k0] [[[], [0], [0, 1], [0, 1, 2], [], [4], [4, 5], [0, 1, 2, 3, 4, 5, 6], [], [8], [0, 1, 2, 3, 4, 5, 6, 7], [0, 1, 2, 3, 4, 5, 6, 7, 8, 9, 10]], [[], [0], [0, 1], [0, 1, 2], [0, 1, 2, 3], [0, 1, 2, 3, 4], [0, 1, 2, 3, 4, 5], [0, 1, 2, 3, 4, 5, 6], [0, 1, 2, 3, 4, 5, 6, 7], [0, 1, 2, 3, 4, 5, 6, 7, 8], [0, 1, 2, 3, 4, 5, 6, 7, 8, 9], [0, 1, 2, 3, 4, 5, 6, 7, 8, 9, 10], [0, 1, 2, 3, 4, 5, 6, 7, 8, 9, 10, 11], [0, 1, 2, 3, 4, 5, 6, 7, 8, 9, 10, 11, 12], [0, 1, 2, 3, 4, 5, 6, 7, 8, 9, 10, 11, 12, 13], [0, 1, 2, 3, 4, 5, 6, 7, 8, 9, 10, 11, 12, 13, 14], [0, 1, 2, 3, 4, 5, 6, 7, 8, 9, 10, 11, 12, 13, 14, 15], [0, 1, 2, 3, 4, 5, 6, 7, 8, 9, 10, 11, 12, 13, 14, 15, 16], [0, 1, 2, 3, 4, 5, 6, 7, 8, 9, 10, 11, 12, 13, 14, 15, 16, 17], [0, 1, 2, 3, 4, 5, 6, 7, 8, 9, 10, 11, 12, 13, 14, 15, 16, 17, 18], [0, 1, 2, 3, 4, 5, 6, 7, 8, 9, 10, 11, 12, 13, 14, 15, 16], [0, 1, 2, 3, 4, 5, 6, 7, 8, 9, 10, 11, 12, 13, 14, 15, 16], [0, 1, 2, 3, 4, 5, 6, 7, 8, 9, 10, 11, 12, 13, 14, 15, 16, 21], [0, 1, 2, 3, 4, 5, 6, 7, 8, 9, 10, 11, 12, 13, 14, 15, 16, 21, 22], [0, 1, 2, 3, 4, 5, 6, 7, 8, 9, 10, 11, 12, 13, 14, 15, 16, 20, 21, 22, 23], [0, 1, 2, 3, 4, 5, 6, 7, 8, 9, 10, 11, 12, 13, 14, 15, 16, 17, 18, 19, 20, 21, 22, 23, 24], [0, 1, 2, 3, 4, 5, 6, 7, 8, 9, 10, 11, 12, 13, 14, 15, 16, 17, 18, 19, 20, 21, 22, 23, 24, 25], [0, 1, 2, 3, 4, 5, 6, 7, 8, 9, 10, 11, 12, 13, 14, 15, 16, 17, 18, 19, 20, 21, 22, 23, 24, 25, 26], [0, 1, 2, 3, 4, 5, 6, 7, 8, 9, 10, 11, 12, 13, 14, 15, 16, 17, 18, 19, 20, 21, 22, 23, 24, 25, 26, 27], [0, 1, 2, 3, 4, 5, 6, 7, 8, 9, 10, 11, 12, 13, 14, 15, 16, 17, 18, 19, 20, 21, 22, 23, 24, 25, 26, 27, 28], [0, 1, 2, 3, 4, 5, 6, 7, 8, 9, 10, 11, 12, 13, 14, 15, 16, 17, 18, 19, 20, 21, 22, 23, 24, 25, 26, 27, 28, 29], [0, 1, 2, 3, 4, 5, 6, 7, 8, 9, 10, 11, 12, 13, 14, 15, 16, 17, 18, 19, 20, 21, 22, 23, 24, 25, 26, 27, 28, 29, 30], [0, 1, 2, 3, 4, 5, 6, 7, 8, 9, 10, 11, 12, 13, 14, 15, 16, 17, 18, 19, 20, 21, 22, 23, 24, 25, 26, 27, 28, 29, 30, 31], [0, 1, 2, 3, 4, 5, 6, 7, 8, 9, 10, 11, 12, 13, 14, 15, 16, 17, 18, 19, 20, 21, 22, 23, 24, 25, 26, 27, 28, 29, 30, 31, 32], [0, 1, 2, 3, 4, 5, 6, 7, 8, 9, 10, 11, 12, 13, 14, 15, 16, 17, 18, 19, 20, 21, 22, 23, 24, 25, 26, 27, 28, 29, 30, 31, 32, 33], [0, 1, 2, 3, 4, 5, 6, 7, 8, 9, 10, 11, 12, 13, 14, 15, 16, 17, 18, 19, 20, 21, 22, 23, 24, 25, 26, 27, 28, 29, 30, 31, 32, 33, 34], [0, 1, 2, 3, 4, 5, 6, 7, 8, 9, 10, 11, 12, 13, 14, 15, 16, 17, 18, 19, 20, 21, 22, 23, 24, 25, 26, 27, 28, 29, 30, 31, 32, 33, 34, 35], [0, 1, 2, 3, 4, 5, 6, 7, 8, 9, 10, 11, 12, 13, 14, 15, 16, 17, 18, 19, 20, 21, 22, 23, 24, 25, 26, 27, 28, 29, 30, 31, 32, 33, 34, 35, 36], [0, 1, 2, 3, 4, 5, 6, 7, 8, 9, 10, 11, 12, 13, 14, 15, 16, 17, 18, 19, 20, 21, 22, 23, 24, 25, 26, 27, 28, 29, 30, 31, 32, 33, 34, 35, 36, 37], [0, 1, 2, 3, 4, 5, 6, 7, 8, 9, 10, 11, 12, 13, 14, 15, 16, 17, 18, 19, 20, 21, 22, 23, 24, 25, 26, 27, 28, 29, 30, 31, 32, 33, 34, 35, 36, 37, 38], [0, 1, 2, 3, 4, 5, 6, 7, 8, 9, 10, 11, 12, 13, 14, 15, 16, 17, 18, 19, 20, 21, 22, 23, 24, 25, 26, 27, 28, 29, 30, 31, 32, 33, 34, 35, 36, 37, 38, 39], [0, 1, 2, 3, 4, 5, 6, 7, 8, 9, 10, 11, 12, 13, 14, 15, 16, 17, 18, 19, 20, 21, 22, 23, 24, 25, 26, 27, 28, 29, 30, 31, 32, 33, 34, 35, 36, 37, 38, 39, 40], [0, 1, 2, 3, 4, 5, 6, 7, 8, 9, 10, 11, 12, 13, 14, 15, 16, 17, 18, 19, 20, 21, 22, 23, 24, 25, 26, 27, 28, 29, 30, 31, 32, 33, 34, 35, 36, 37, 38, 39, 40, 41], [0, 1, 2, 3, 4, 5, 6, 7, 8, 9, 10, 11, 12, 13, 14, 15, 16, 17, 18, 19, 20, 21, 22, 23, 24, 25, 26, 27, 28, 29, 30, 31, 32, 33, 34, 35, 36, 37, 38, 39, 40, 41, 42], [0, 1, 2, 3, 4, 5, 6, 7, 8, 9, 10, 11, 12, 13, 14, 15, 16, 17, 18, 19, 20, 21, 22, 23, 24, 25, 26, 27, 28, 29, 30, 31, 32, 33, 34, 35, 36, 37, 38, 39, 40, 41, 42, 43], [0, 1, 2, 3, 4, 5, 6, 7, 8, 9, 10, 11, 12, 13, 14, 15, 16, 17, 18, 19, 20, 21, 22, 23, 24, 25, 26, 27, 28, 29, 30, 31, 32, 33, 34, 35, 36, 37, 38, 39, 40, 41, 42, 43, 44]]] m162.nargs m162.params m162.results = some m162.body := by kernel_rfl

def m163 : MFunc := ⟨1, [.byt], [(2, none, .other)],
 .seq (.rg [⟨some (.v 2), .mv (.c (.bool false)), none⟩])
  (.seq (.rg [⟨some (.t 3), .mv (.v 0), none⟩,
   ⟨some (.t 4), .call 162 [.t 3, .c (.int .i64 4)], none⟩,
   ⟨some (.v 2), .mv (.t 4), none⟩])
   (.ret))⟩
theorem m163o : okFn Tryz.prog 163 [3, 4] [] [] m163.nargs m163.params m163.results = some m163.body := by kernel_rfl

def m165k0 : List (Nat × KMode) := [(1, .plain), (5, .plain), (6, .plain)]
def m165b0 : MCode :=
 .seq (.seq (.rg [⟨some (.t 99), .mv (.v 6), none⟩,
   ⟨some (.t 100), .mv (.v 5), none⟩,
   ⟨some (.v 101), .bin .lss (.t 99) (.t 100), none⟩])
   (.cond (.v 101) (.skip)
   (.exit 1)))
  (.seq (.block 2 (.seq (.rg [⟨some (.t 104), .mv (.v 1), none⟩,
   ⟨some (.t 105), .mv (.v 6), none⟩,
   ⟨some (.t 106), .iad 1 (.t 104) (.t 105), none⟩,
   ⟨some (.t 107), .load false 1 (.t 106), none⟩,
   ⟨some (.t 108), .bin .eql (.t 107) (.c (.int .u8 128)), none⟩,
   ⟨some (.t 109), .mv (.t 108), none⟩,
   ⟨some (.t 110), .mv (.v 6), some (.t 109, true)⟩,
   ⟨some (.t 111), .bin .eql (.t 110) (.c (.int .i64 0)), some (.t 109, true)⟩,
   ⟨some (.t 112), .mv (.t 111), some (.t 109, true)⟩,
   ⟨some (.t 113), .mv (.v 1), some (.t 112, false)⟩,
   ⟨some (.t 114), .mv (.v 6), some (.t 112, false)⟩,
   ⟨some (.t 115), .bin .sub (.t 114) (.c (.int .i64 1)), some (.t 112, false)⟩,
   ⟨some (.t 116), .iad 1 (.t 113) (.t 115), some (.t 112, false)⟩,
   ⟨some (.t 117), .load false 1 (.t 116), some (.t 112, false)⟩,
   ⟨some (.t 118), .bin .lss (.t 117) (.c (.int .u8 128)), some (.t 112, false)⟩,
   ⟨some (.t 119), .pick (.t 112) (.c (.bool true)) (.t 118), some (.t 109, true)⟩,
   ⟨some (.v 120), .pick (.t 109) (.t 119) (.c (.bool false)), none⟩])
   (.cond (.v 120) (.seq (.rg [⟨some (.v 4), .mv (.c (.bool false)), none⟩])
   (.ret))
   (.skip))))
   (.rg [⟨some (.t 102), .mv (.v 6), none⟩,
   ⟨some (.t 103), .bin .add (.t 102) (.c (.int .i64 1)), none⟩,
   ⟨some (.v 6), .mv (.t 103), none⟩]))
def m165k1 : List (Nat × KMode) := [(1, .plain), (5, .plain), (7, .plain)]
def m165b1 : MCode :=
 .seq (.seq (.rg [⟨some (.t 137), .mv (.v 7), none⟩,
   ⟨some (.t 138), .mv (.v 5), none⟩,
   ⟨some (.v 139), .bin .lss (.t 137) (.t 138), none⟩])
   (.cond (.v 139) (.skip)
   (.exit 3)))
  (.seq (.block 4 (.seq (.rg [⟨some (.t 142), .mv (.v 1), none⟩,
   ⟨some (.t 143), .mv (.v 7), none⟩,
   ⟨some (.t 144), .iad 1 (.t 142) (.t 143), none⟩,
   ⟨some (.t 145), .load false 1 (.t 144), none⟩,
   ⟨some (.t 146), .call 85 [.t 145], none⟩,
   ⟨some (.v 147), .un .not (.t 146), none⟩])
   (.cond (.v 147) (.seq (.rg [⟨some (.v 4), .mv (.c (.bool false)), none⟩])
   (.ret))
   (.skip))))
   (.rg [⟨some (.t 140), .mv (.v 7), none⟩,
   ⟨some (.t 141), .bin .add (.t 140) (.c (.int .i64 1)), none⟩,
   ⟨some (.v 7), .mv (.t 141), none⟩]))
def m165k2 : List (Nat × KMode) := [(1, .plain), (5, .plain), (8, .plain)]
def m165b2 : MCode :=
 .seq (.seq (.rg [⟨some (.t 150), .mv (.v 8), none⟩,
   ⟨some (.t 151), .mv (.v 5), none⟩,
   ⟨some (.v 152), .bin .lss (.t 150) (.t 151), none⟩])
   (.cond (.v 152) (.skip)
   (.exit 5)))
  (.seq (.block 6 (.seq (.rg [⟨some (.t 155), .mv (.v 1), none⟩,
   ⟨some (.t 156), .mv (.v 8), none⟩,
   ⟨some (.t 157), .iad 1 (.t 155) (.t 156), none⟩,
   ⟨some (.t 158), .load false 1 (.t 157), none⟩,
   ⟨some (.v 159), .bin .geq (.t 158) (.c (.int .u8 128)), none⟩])
   (.cond (.v 159) (.seq (.rg [⟨some (.v 4), .mv (.c (.bool false)), none⟩])
   (.ret))
   (.skip))))
   (.rg [⟨some (.t 153), .mv (.v 8), none⟩,
   ⟨some (.t 154), .bin .add (.t 153) (.c (.int .i64 1)), none⟩,
   ⟨some (.v 8), .mv (.t 154), none⟩]))
def m165 : MFunc := ⟨2, [.other, .byt], [(4, none, .other)],
 .seq (.rg [⟨some (.v 4), .mv (.c (.bool false)), none⟩])
  (.seq (.rg [⟨some (.t 13), .mv (.v 1), none⟩,
   ⟨some (.t 14), .len false (.t 13), none⟩,
   ⟨some (.v 5), .mv (.t 14), none⟩])
   (.seq (.seq (.rg [⟨some (.v 15), .mv (.v 0), none⟩])
   (.block 0 (.seq (.rg [⟨some (.t 17), .bin .eql (.v 15) (.c (.int .i64 1)), none⟩,
   ⟨some (.v 16), .mv (.t 17), none⟩])
   (.cond (.v 16) (.seq (.rg [⟨some (.t 18), .mv (.v 5), none⟩,
   ⟨some (.t 19), .bin .eql (.t 18) (.c (.int .i64 1)), none⟩,
   ⟨some (.t 20), .mv (.t 19), none⟩,
   ⟨some (.t 21), .mv (.v 1), some (.t 20, true)⟩,
   ⟨some (.t 22), .iad 1 (.t 21) (.c (.int .i64 0)), some (.t 20, true)⟩,
   ⟨some (.t 23), .load false 1 (.t 22), some (.t 20, true)⟩,
   ⟨some (.t 24), .bin .eql (.t 23) (.c (.int .u8 0)), some (.t 20, true)⟩,
   ⟨some (.t 25), .mv (.t 24), some (.t 20, true)⟩,
   ⟨some (.t 26), .mv (.v 1), some (.t 25, false)⟩,
   ⟨some (.t 27), .iad 1 (.t 26) (.c (.int .i64 0)), some (.t 25, false)⟩,
   ⟨some (.t 28), .load false 1 (.t 27), some (.t 25, false)⟩,
   ⟨some (.t 29), .bin .eql (.t 28) (.c (.int .u8 255)), some (.t 25, false)⟩,
   ⟨some (.t 30), .pick (.t 25) (.c (.bool true)) (.t 29), some (.t 20, true)⟩,
   ⟨some (.t 31), .pick (.t 20) (.t 30) (.c (.bool false)), none⟩,
   ⟨some (.v 4), .mv (.t 31), none⟩])
   (.ret))
   (.seq (.seq (.rg [⟨some (.t 33), .bin .eql (.v 15) (.c (.int .i64 2)), none⟩,
   ⟨some (.v 32), .mv (.t 33), none⟩])
   (.cond (.v 32) (.skip)
   (.rg [⟨some (.t 34), .bin .eql (.v 15) (.c (.int .i64 10)), none⟩,
   ⟨some (.v 32), .mv (.t 34), none⟩])))
   (.cond (.v 32) (.seq (.rg [⟨some (.t 35), .mv (.v 5), none⟩,
   ⟨some (.t 36), .bin .eql (.t 35) (.c (.int .i64 1)), none⟩,
   ⟨some (.t 37), .mv (.t 36), none⟩,
   ⟨some (.t 38), .mv (.v 5), some (.t 37, false)⟩,
   ⟨some (.t 39), .bin .gtr (.t 38) (.c (.int .i64 1)), some (.t 37, false)⟩,
   ⟨some (.t 40), .mv (.t 39), some (.t 37, false)⟩,
   ⟨some (.t 41), .mv (.v 1), some (.t 40, true)⟩,
   ⟨some (.t 42), .iad 1 (.t 41) (.c (.int .i64 0)), some (.t 40, true)⟩,
   ⟨some (.t 43), .load false 1 (.t 42), some (.t 40, true)⟩,
   ⟨some (.t 44), .bin .neq (.t 43) (.c (.int .u8 0)), some (.t 40, true)⟩,
   ⟨some (.t 45), .mv (.t 44), some (.t 40, true)⟩,
   ⟨some (.t 46), .mv (.v 1), some (.t 45, false)⟩,
   ⟨some (.t 47), .iad 1 (.t 46) (.c (.int .i64 1)), some (.t 45, false)⟩,
   ⟨some (.t 48), .load false 1 (.t 47), some (.t 45, false)⟩,
   ⟨some (.t 49), .bin .geq (.t 48) (.c (.int .u8 128)), some (.t 45, false)⟩,
   ⟨some (.t 50), .pick (.t 45) (.c (.bool true)) (.t 49), some (.t 40, true)⟩,
   ⟨some (.t 51), .pick (.t 40) (.t 50) (.c (.bool false)), some (.t 37, false)⟩,
   ⟨some (.t 52), .mv (.t 51), some (.t 37, false)⟩,
   ⟨some (.t 53), .mv (.v 1), some (.t 52, true)⟩,
   ⟨some (.t 54), .iad 1 (.t 53) (.c (.int .i64 0)), some (.t 52, true)⟩,
   ⟨some (.t 55), .load false 1 (.t 54), some (.t 52, true)⟩,
   ⟨some (.t 56), .bin .neq (.t 55) (.c (.int .u8 255)), some (.t 52, true)⟩,
   ⟨some (.t 57), .mv (.t 56), some (.t 52, true)⟩,
   ⟨some (.t 58), .mv (.v 1), some (.t 57, false)⟩,
   ⟨some (.t 59), .iad 1 (.t 58) (.c (.int .i64 1)), some (.t 57, false)⟩,
   ⟨some (.t 60), .load false 1 (.t 59), some (.t 57, false)⟩,
   ⟨some (.t 61), .bin .lss (.t 60) (.c (.int .u8 128)), some (.t 57, false)⟩,
   ⟨some (.t 62), .pick (.t 57) (.c (.bool true)) (.t 61), some (.t 52, true)⟩,
   ⟨some (.t 63), .pick (.t 52) (.t 62) (.c (.bool false)), some (.t 37, false)⟩,
   ⟨some (.t 64), .pick (.t 37) (.c (.bool true)) (.t 63), none⟩,
   ⟨some (.v 4), .mv (.t 64), none⟩])
   (.ret))
   (.seq (.rg [⟨some (.t 66), .bin .eql (.v 15) (.c (.int .i64 3)), none⟩,
   ⟨some (.v 65), .mv (.t 66), none⟩])
   (.cond (.v 65) (.seq (.seq (.rg [⟨some (.t 67), .mv (.v 5), none⟩,
   ⟨some (.t 68), .bin .eql (.t 67) (.c (.int .i64 0)), none⟩,
   ⟨some (.t 69), .mv (.t 68), none⟩,
   ⟨some (.t 70), .mv (.v 1), some (.t 69, false)⟩,
   ⟨some (.t 71), .iad 1 (.t 70) (.c (.int .i64 0)), some (.t 69, false)⟩,
   ⟨some (.t 72), .load false 1 (.t 71), some (.t 69, false)⟩,
   ⟨some (.t 73), .bin .gtr (.t 72) (.c (.int .u8 7)), some (.t 69, false)⟩,
   ⟨some (.v 74), .pick (.t 69) (.c (.bool true)) (.t 73), none⟩])
   (.cond (.v 74) (.seq (.rg [⟨some (.v 4), .mv (.c (.bool false)), none⟩])
   (.ret))
   (.skip)))
   (.seq (.seq (.rg [⟨some (.t 75), .mv (.v 5), none⟩,
   ⟨some (.v 76), .bin .eql (.t 75) (.c (.int .i64 1)), none⟩])
   (.cond (.v 76) (.seq (.rg [⟨some (.t 77), .mv (.v 1), none⟩,
   ⟨some (.t 78), .iad 1 (.t 77) (.c (.int .i64 0)), none⟩,
   ⟨some (.t 79), .load false 1 (.t 78), none⟩,
   ⟨some (.t 80), .bin .eql (.t 79) (.c (.int .u8 0)), none⟩,
   ⟨some (.v 4), .mv (.t 80), none⟩])
   (.ret))
   (.skip)))
   (.seq (.rgd [⟨some (.t 81), .mv (.v 1), none⟩,
   ⟨some (.t 82), .mv (.v 5), none⟩,
   ⟨some (.t 83), .bin .sub (.t 82) (.c (.int .i64 1)), none⟩,
   ⟨some (.t 84), .iad 1 (.t 81) (.t 83), none⟩,
   ⟨some (.t 85), .load false 1 (.t 84), none⟩,
   ⟨some (.t 86), .conv .i64 (.t 85), none⟩,
   ⟨some (.t 87), .mv (.v 1), none⟩,
   ⟨some (.t 88), .iad 1 (.t 87) (.c (.int .i64 0)), none⟩,
   ⟨some (.t 89), .load false 1 (.t 88), none⟩,
   ⟨some (.t 90), .bin .shl (.c (.int .i64 1)) (.t 89), none⟩,
   ⟨some (.t 91), .bin .rem (.t 86) (.t 90), none⟩,
   ⟨some (.t 92), .bin .eql (.t 91) (.c (.int .i64 0)), none⟩,
   ⟨some (.v 4), .mv (.t 92), none⟩]
   [[], [], [1], [0, 1, 2], [0, 1, 2, 3], [0, 1, 2, 3, 4], [], [6], [6, 7], [6, 7, 8], [0, 1, 2, 3, 4, 5, 6, 7, 8, 9], [0, 1, 2, 3, 4, 5, 6, 7, 8, 9, 10], [0, 1, 2, 3, 4, 5, 6, 7, 8, 9, 10, 11]])
   (.ret))))
   (.seq (.rg [⟨some (.t 94), .bin .eql (.v 15) (.c (.int .i64 5)), none⟩,
   ⟨some (.v 93), .mv (.t 94), none⟩])
   (.cond (.v 93) (.seq (.rg [⟨some (.t 95), .mv (.v 5), none⟩,
   ⟨some (.t 96), .bin .eql (.t 95) (.c (.int .i64 0)), none⟩,
   ⟨some (.v 4), .mv (.t 96), none⟩])
   (.ret))
   (.seq (.rg [⟨some (.t 98), .bin .eql (.v 15) (.c (.int .i64 6)), none⟩,
   ⟨some (.v 97), .mv (.t 98), none⟩])
   (.cond (.v 97) (.seq (.seq (.rg [⟨some (.v 6), .mv (.c (.int .i64 0)), none⟩])
   (.block 1 (.loop m165k0 m165b0)))
   (.seq (.rg [⟨some (.t 121), .mv (.v 5), none⟩,
   ⟨some (.t 122), .bin .gtr (.t 121) (.c (.int .i64 0)), none⟩,
   ⟨some (.t 123), .mv (.t 122), none⟩,
   ⟨some (.t 124), .mv (.v 1), some (.t 123, true)⟩,
   ⟨some (.t 125), .mv (.v 5), some (.t 123, true)⟩,
   ⟨some (.t 126), .bin .sub (.t 125) (.c (.int .i64 1)), some (.t 123, true)⟩,
   ⟨some (.t 127), .iad 1 (.t 124) (.t 126), some (.t 123, true)⟩,
   ⟨some (.t 128), .load false 1 (.t 127), some (.t 123, true)⟩,
   ⟨some (.t 129), .bin .lss (.t 128) (.c (.int .u8 128)), some (.t 123, true)⟩,
   ⟨some (.t 130), .pick (.t 123) (.t 129) (.c (.bool false)), none⟩,
   ⟨some (.v 4), .mv (.t 130), none⟩])
   (.ret)))
   (.seq (.rg [⟨some (.t 132), .bin .eql (.v 15) (.c (.int .i64 12)), none⟩,
   ⟨some (.v 131), .mv (.t 132), none⟩])
   (.cond (.v 131) (.seq (.rg [⟨some (.t 133), .mv (.v 1), none⟩,
   ⟨some (.t 134), .call 84 [.t 133], none⟩,
   ⟨some (.v 4), .mv (.t 134), none⟩])
   (.ret))
   (.seq (.rg [⟨some (.t 136), .bin .eql (.v 15) (.c (.int .i64 19)), none⟩,
   ⟨some (.v 135), .mv (.t 136), none⟩])
   (.cond (.v 135) (.seq (.rg [⟨some (.v 7), .mv (.c (.int .i64 0)), none⟩])
   (.block 3 (.loop m165k1 m165b1)))
   (.seq (.rg [⟨some (.t 149), .bin .eql (.v 15) (.c (.int .i64 22)), none⟩,
   ⟨some (.v 148), .mv (.t 149), none⟩])
   (.cond (.v 148) (.seq (.rg [⟨some (.v 8), .mv (.c (.int .i64 0)), none⟩])
   (.block 5 (.loop m165k2 m165b2)))
   (.seq (.rg [⟨some (.t 161), .bin .eql (.v 15) (.c (.int .i64 23)), none⟩,
   ⟨some (.v 160), .mv (.t 161), none⟩])
   (.cond (.v 160) (.seq (.rg [⟨some (.t 163), .mv (.v 1), none⟩,
   ⟨some (.t 164), .call 177 [.t 163, .c (.int .i64 2)], none⟩,
   ⟨some (.t 162), .mv (.t 164), none⟩,
   ⟨some (.t 165), .ext 0 (.t 162), none⟩,
   ⟨some (.t 166), .ext 1 (.t 162), none⟩,
   ⟨some (.t 9), .alloc [.int .i64 0, .int .i64 0, .int .i64 0, .int .i64 0, .int .i64 0, .int .i64 0], none⟩,
   ⟨none, .store 6 (.t 9) (.t 165), none⟩,
   ⟨some (.v 10), .mv (.t 166), none⟩])
   (.seq (.rg [⟨some (.t 167), .mv (.v 10), none⟩,
   ⟨some (.v 4), .mv (.t 167), none⟩])
   (.ret)))
   (.seq (.rg [⟨some (.t 169), .bin .eql (.v 15) (.c (.int .i64 24)), none⟩,
   ⟨some (.v 168), .mv (.t 169), none⟩])
   (.cond (.v 168) (.seq (.rg [⟨some (.t 171), .mv (.v 1), none⟩,
   ⟨some (.t 172), .call 177 [.t 171, .c (.int .i64 4)], none⟩,
   ⟨some (.t 170), .mv (.t 172), none⟩,
   ⟨some (.t 173), .ext 0 (.t 170), none⟩,
   ⟨some (.t 174), .ext 1 (.t 170), none⟩,
   ⟨some (.t 11), .alloc [.int .i64 0, .int .i64 0, .int .i64 0, .int .i64 0, .int .i64 0, .int .i64 0], none⟩,
   ⟨none, .store 6 (.t 11) (.t 173), none⟩,
   ⟨some (.v 12), .mv (.t 174), none⟩])
   (.seq (.rg [⟨some (.t 175), .mv (.v 12), none⟩,
   ⟨some (.v 4), .mv (.t 175), none⟩])
   (.ret)))
   (.skip)))))))))))))))))))))))
   (.seq (.rg [⟨some (.v 4), .mv (.c (.bool true)), none⟩])
   (.ret))))⟩
theorem m165o : okFn Tryz.prog 165 [9, 11, 13, 14, 17, 18, 19, 20, 21, 22, 23, 24, 25, 26, 27, 28, 29, 30, 31, 33, 34, 35, 36, 37, 38, 39, 40, 41, 42, 43, 44, 45, 46, 47, 48, 49, 50, 51, 52, 53, 54, 55, 56, 57, 58, 59, 60, 61, 62, 63, 64, 66, 67, 68, 69, 70, 71, 72, 73, 75, 77, 78, 79, 80, 81, 82, 83, 84, 85, 86, 87, 88, 89, 90, 91, 92, 94, 95, 96, 98, 99, 100, 102, 103, 104, 105, 106, 107, 108, 109, 110, 111, 112, 113, 114, 115, 116, 117, 118, 119, 121, 122, 123, 124, 125, 126, 127, 128, 129, 130, 132, 133, 134, 136, 137, 138, 140, 141, 142, 143, 144, 145, 146, 149, 150, 151, 153, 154, 155, 156, 157, 158, 161, 162, 163, 164, 165, 166, 167, 169, 170, 171, 172, 173, 174, 175] [m165k0, m165k1, m165k2] [[[], [], [1], [0, 1, 2], [0, 1, 2, 3], [0, 1, 2, 3, 4], [], [6], [6, 7], [6, 7, 8], [0, 1, 2, 3, 4, 5, 6, 7, 8, 9], [0, 1, 2, 3, 4, 5, 6, 7, 8, 9, 10], [0, 1, 2, 3, 4, 5, 6, 7, 8, 9, 10, 11]]] m165.nargs m165.params m165.results = some m165.body := by kernel_rfl

def m175 : MFunc := ⟨1, [.byt], [(2, none, .other), (3, none, .other)],
 .seq (.rg [⟨some (.v 2), .mv (.c (.int .i64 0)), none⟩,
   ⟨some (.v 3), .mv (.c (.bool false)), none⟩])
  (.seq (.rg [⟨some (.t 5), .mv (.v 0), none⟩,
   ⟨some (.t 6), .iad 1 (.t 5) (.c (.int .i64 0)), none⟩,
   ⟨some (.t 7), .load false 1 (.t 6), none⟩,
   ⟨some (.t 8), .bin .geq (.t 7) (.c (.int .u8 48)), none⟩,
   ⟨some (.t 9), .mv (.t 8), none⟩,
   ⟨some (.t 10), .mv (.v 0), some (.t 9, true)⟩,
   ⟨some (.t 11), .iad 1 (.t 10) (.c (.int .i64 0)), some (.t 9, true)⟩,
   ⟨some (.t 12), .load false 1 (.t 11), some (.t 9, true)⟩,
   ⟨some (.t 13), .bin .leq (.t 12) (.c (.int .u8 57)), some (.t 9, true)⟩,
   ⟨some (.t 14), .pick (.t 9) (.t 13) (.c (.bool false)), none⟩,
   ⟨some (.t 15), .mv (.t 14), none⟩,
   ⟨some (.t 16), .mv (.v 0), some (.t 15, true)⟩,
   ⟨some (.t 17), .iad 1 (.t 16) (.c (.int .i64 1)), some (.t 15, true)⟩,
   ⟨some (.t 18), .load false 1 (.t 17), some (.t 15, true)⟩,
   ⟨some (.t 19), .bin .geq (.t 18) (.c (.int .u8 48)), some (.t 15, true)⟩,
   ⟨some (.t 20), .pick (.t 15) (.t 19) (.c (.bool false)), none⟩,
   ⟨some (.t 21), .mv (.t 20), none⟩,
   ⟨some (.t 22), .mv (.v 0), some (.t 21, true)⟩,
   ⟨some (.t 23), .iad 1 (.t 22) (.c (.int .i64 1)), some (.t 21, true)⟩,
   ⟨some (.t 24), .load false 1 (.t 23), some (.t 21, true)⟩,
   ⟨some (.t 25), .bin .leq (.t 24) (.c (.int .u8 57)), some (.t 21, true)⟩,
   ⟨some (.t 26), .pick (.t 21) (.t 25) (.c (.bool false)), none⟩,
   ⟨some (.v 4), .mv (.t 26), none⟩])
   (.seq (.rgd [⟨some (.t 27), .mv (.v 0), none⟩,
   ⟨some (.t 28), .iad 1 (.t 27) (.c (.int .i64 0)), none⟩,
   ⟨some (.t 29), .load false 1 (.t 28), none⟩,
   ⟨some (.t 30), .bin .sub (.t 29) (.c (.int .u8 48)), none⟩,
   ⟨some (.t 31), .conv .i64 (.t 30), none⟩,
   ⟨some (.t 32), .bin .mul (.t 31) (.c (.int .i64 10)), none⟩,
   ⟨some (.t 33), .mv (.v 0), none⟩,
   ⟨some (.t 34), .iad 1 (.t 33) (.c (.int .i64 1)), none⟩,
   ⟨some (.t 35), .load false 1 (.t 34), none⟩,
   ⟨some (.t 36), .bin .sub (.t 35) (.c (.int .u8 48)), none⟩,
   ⟨some (.t 37), .conv .i64 (.t 36), none⟩,
   ⟨some (.t 38), .bin .add (.t 32) (.t 37), none⟩,
   ⟨some (.t 39), .mv (.v 4), none⟩,
   ⟨some (.v 2), .mv (.t 38), none⟩,
   ⟨some (.v 3), .mv (.t 39), none⟩]
   [[], [0], [0, 1], [0, 1, 2], [0, 1, 2, 3], [0, 1, 2, 3, 4], [], [6], [6, 7], [6, 7, 8], [6, 7, 8, 9], [0, 1, 2, 3, 4, 5, 6, 7, 8, 9, 10], [], [0, 1, 2, 3, 4, 5, 6, 7, 8, 9, 10, 11], [0, 1, 2, 3, 4, 5, 6, 7, 8, 9, 10, 11, 12, 13]])
   (.ret)))⟩
theorem m175o : okFn Tryz.prog 175 [5, 6, 7, 8, 9, 10, 11, 12, 13, 14, 15, 16, 17, 18, 19, 20, 21, 22, 23, 24, 25, 26, 27, 28, 29, 30, 31, 32, 33, 34, 35, 36, 37, 38, 39] [] [[[], [0], [0, 1], [0, 1, 2], [0, 1, 2, 3], [0, 1, 2, 3, 4], [], [6], [6, 7], [6, 7, 8], [6, 7, 8, 9], [0, 1, 2, 3, 4, 5, 6, 7, 8, 9, 10], [], [0, 1, 2, 3, 4, 5, 6, 7, 8, 9, 10, 11], [0, 1, 2, 3, 4, 5, 6, 7, 8, 9, 10, 11, 12, 13]]] m175.nargs m175.params m175.results = some m175.body := by kernel_rfl

def m176 : MFunc := ⟨2, [.other, .other], [(4, none, .other)],
 .seq (.rg [⟨some (.v 4), .mv (.c (.int .i64 0)), none⟩])
  (.seq (.seq (.rg [⟨some (.v 5), .mv (.v 1), none⟩])
   (.block 0 (.seq (.seq (.rg [⟨some (.t 7), .bin .eql (.v 5) (.c (.int .i64 4)), none⟩,
   ⟨some (.v 6), .mv (.t 7), none⟩])
   (.cond (.v 6) (.skip)
   (.seq (.rg [⟨some (.t 8), .bin .eql (.v 5) (.c (.int .i64 6)), none⟩,
   ⟨some (.v 6), .mv (.t 8), none⟩])
   (.cond (.v 6) (.skip)
   (.seq (.rg [⟨some (.t 9), .bin .eql (.v 5) (.c (.int .i64 9)), none⟩,
   ⟨some (.v 6), .mv (.t 9), none⟩])
   (.cond (.v 6) (.skip)
   (.rg [⟨some (.t 10), .bin .eql (.v 5) (.c (.int .i64 11)), none⟩,
   ⟨some (.v 6), .mv (.t 10), none⟩])))))))
   (.cond (.v 6) (.seq (.rg [⟨some (.v 4), .mv (.c (.int .i64 30)), none⟩])
   (.ret))
   (.seq (.rg [⟨some (.t 12), .bin .eql (.v 5) (.c (.int .i64 2)), none⟩,
   ⟨some (.v 11), .mv (.t 12), none⟩])
   (.cond (.v 11) (.seq (.seq (.rg [⟨some (.t 13), .mv (.v 0), none⟩,
   ⟨some (.t 14), .bin .rem (.t 13) (.c (.int .i64 4)), none⟩,
   ⟨some (.t 15), .bin .eql (.t 14) (.c (.int .i64 0)), none⟩,
   ⟨some (.t 16), .mv (.t 15), none⟩,
   ⟨some (.t 17), .mv (.v 0), some (.t 16, true)⟩,
   ⟨some (.t 18), .bin .rem (.t 17) (.c (.int .i64 100)), some (.t 16, true)⟩,
   ⟨some (.t 19), .bin .neq (.t 18) (.c (.int .i64 0)), some (.t 16, true)⟩,
   ⟨some (.t 20), .mv (.t 19), some (.t 16, true)⟩,
   ⟨some (.t 21), .mv (.v 0), some (.t 20, false)⟩,
   ⟨some (.t 22), .bin .rem (.t 21) (.c (.int .i64 400)), some (.t 20, false)⟩,
   ⟨some (.t 23), .bin .eql (.t 22) (.c (.int .i64 0)), some (.t 20, false)⟩,
   ⟨some (.t 24), .pick (.t 20) (.c (.bool true)) (.t 23), some (.t 16, true)⟩,
   ⟨some (.v 25), .pick (.t 16) (.t 24) (.c (.bool false)), none⟩])
   (.cond (.v 25) (.seq (.rg [⟨some (.v 4), .mv (.c (.int .i64 29)), none⟩])
   (.ret))
   (.skip)))
   (.seq (.rg [⟨some (.v 4), .mv (.c (.int .i64 28)), none⟩])
   (.ret)))
   (.skip)))))))
   (.seq (.rg [⟨some (.v 4), .mv (.c (.int .i64 31)), none⟩])
   (.ret)))⟩
theorem m176o : okFn Tryz.prog 176 [7, 8, 9, 10, 12, 13, 14, 15, 16, 17, 18, 19, 20, 21, 22, 23, 24] [] [] m176.nargs m176.params m176.results = some m176.body := by kernel_rfl

def m177k0 : List (Nat × KMode) := [(0, .plain), (1, .plain), (4, .plain), (6, .plain), (7, .plain)]
def m177b0 : MCode :=
 .seq (.seq (.rg [⟨some (.t 24), .mv (.v 7), none⟩,
   ⟨some (.t 25), .mv (.v 1), none⟩,
   ⟨some (.t 26), .bin .add (.t 25) (.c (.int .i64 10)), none⟩,
   ⟨some (.v 27), .bin .lss (.t 24) (.t 26), none⟩])
   (.cond (.v 27) (.skip)
   (.exit 0)))
  (.seq (.block 1 (.seq (.seq (.rg [⟨some (.t 30), .mv (.v 0), none⟩,
   ⟨some (.t 31), .mv (.v 7), none⟩,
   ⟨some (.t 32), .iad 1 (.t 30) (.t 31), none⟩,
   ⟨some (.t 33), .load false 1 (.t 32), none⟩,
   ⟨some (.t 34), .bin .lss (.t 33) (.c (.int .u8 48)), none⟩,
   ⟨some (.t 35), .mv (.t 34), none⟩,
   ⟨some (.t 36), .mv (.v 0), some (.t 35, false)⟩,
   ⟨some (.t 37), .mv (.v 7), some (.t 35, false)⟩,
   ⟨some (.t 38), .iad 1 (.t 36) (.t 37), some (.t 35, false)⟩,
   ⟨some (.t 39), .load false 1 (.t 38), some (.t 35, false)⟩,
   ⟨some (.t 40), .bin .gtr (.t 39) (.c (.int .u8 57)), some (.t 35, false)⟩,
   ⟨some (.v 41), .pick (.t 35) (.c (.bool true)) (.t 40), none⟩])
   (.cond (.v 41) (.seq (.rg [⟨some (.t 42), .load true 6 (.v 6), none⟩,
   ⟨none, .store 6 (.v 4) (.t 42), none⟩,
   ⟨some (.v 5), .mv (.c (.bool false)), none⟩])
   (.ret))
   (.skip)))
   (.seq (.rg [⟨some (.v 8), .mv (.c (.int .i64 0)), none⟩])
   (.seq (.seq (.rg [⟨some (.t 43), .mv (.v 7), none⟩,
   ⟨some (.t 44), .mv (.v 1), none⟩,
   ⟨some (.v 45), .bin .geq (.t 43) (.t 44), none⟩])
   (.cond (.v 45) (.rg [⟨some (.t 46), .mv (.v 7), none⟩,
   ⟨some (.t 47), .mv (.v 1), none⟩,
   ⟨some (.t 48), .bin .sub (.t 46) (.t 47), none⟩,
   ⟨some (.t 49), .bin .quo (.t 48) (.c (.int .i64 2)), none⟩,
   ⟨some (.t 50), .bin .add (.c (.int .i64 1)) (.t 49), none⟩,
   ⟨some (.v 8), .mv (.t 50), none⟩])
   (.skip)))
   (.rgd [⟨some (.t 51), .mv (.v 8), none⟩,
   ⟨some (.t 52), .mv (.v 8), none⟩,
   ⟨some (.t 53), .aad 1 6 (.v 6) (.t 52), none⟩,
   ⟨some (.t 54), .load false 1 (.t 53), none⟩,
   ⟨some (.t 55), .bin .mul (.c (.int .i64 10)) (.t 54), none⟩,
   ⟨some (.t 56), .mv (.v 0), none⟩,
   ⟨some (.t 57), .mv (.v 7), none⟩,
   ⟨some (.t 58), .iad 1 (.t 56) (.t 57), none⟩,
   ⟨some (.t 59), .load false 1 (.t 58), none⟩,
   ⟨some (.t 60), .conv .i64 (.t 59), none⟩,
   ⟨some (.t 61), .bin .add (.t 55) (.t 60), none⟩,
   ⟨some (.t 62), .bin .sub (.t 61) (.c (.int .i64 48)), none⟩,
   ⟨some (.t 63), .aad 1 6 (.v 6) (.t 51), none⟩,
   ⟨none, .store 1 (.t 63) (.t 62), none⟩]
   [[], [], [1], [1, 2], [1, 2, 3], [], [], [5, 6], [5, 6, 7], [5, 6, 7, 8], [1, 2, 3, 4, 5, 6, 7, 8, 9], [1, 2, 3, 4, 5, 6, 7, 8, 9, 10], [0, 1, 2, 3, 4, 5, 6, 7, 8, 9, 10, 11], [0, 1, 2, 3, 4, 5, 6, 7, 8, 9, 10, 11, 12]])))))
   (.rg [⟨some (.t 28), .mv (.v 7), none⟩,
   ⟨some (.t 29), .bin .add (.t 28) (.c (.int .i64 1)), none⟩,
   ⟨some (.v 7), .mv (.t 29), none⟩]))
def m177 : MFunc := ⟨2, [.byt, .other], [(4, some (true, 6), .other), (5, none, .other)],
 .seq (.rg [⟨some (.v 4), .alloc [.int .i64 0, .int .i64 0, .int .i64 0, .int .i64 0, .int .i64 0, .int .i64 0], none⟩,
   ⟨some (.v 5), .mv (.c (.bool false)), none⟩])
  (.seq (.rg [⟨some (.v 6), .alloc [.int .i64 0, .int .i64 0, .int .i64 0, .int .i64 0, .int .i64 0, .int .i64 0], none⟩])
   (.seq (.seq (.rg [⟨some (.t 10), .mv (.v 0), none⟩,
   ⟨some (.t 11), .len false (.t 10), none⟩,
   ⟨some (.t 12), .mv (.v 1), none⟩,
   ⟨some (.t 13), .bin .add (.t 12) (.c (.int .i64 11)), none⟩,
   ⟨some (.t 14), .bin .neq (.t 11) (.t 13), none⟩,
   ⟨some (.t 15), .mv (.t 14), none⟩,
   ⟨some (.t 16), .mv (.v 0), some (.t 15, false)⟩,
   ⟨some (.t 17), .mv (.v 1), some (.t 15, false)⟩,
   ⟨some (.t 18), .bin .add (.t 17) (.c (.int .i64 10)), some (.t 15, false)⟩,
   ⟨some (.t 19), .iad 1 (.t 16) (.t 18), some (.t 15, false)⟩,
   ⟨some (.t 20), .load false 1 (.t 19), some (.t 15, false)⟩,
   ⟨some (.t 21), .bin .neq (.t 20) (.c (.int .u8 90)), some (.t 15, false)⟩,
   ⟨some (.v 22), .pick (.t 15) (.c (.bool true)) (.t 21), none⟩])
   (.cond (.v 22) (.seq (.rg [⟨some (.t 23), .load true 6 (.v 6), none⟩,
   ⟨none, .store 6 (.v 4) (.t 23), none⟩,
   ⟨some (.v 5), .mv (.c (.bool false)), none⟩])
   (.ret))
   (.skip)))
   (.seq (.seq (.rg [⟨some (.v 7), .mv (.c (.int .i64 0)), none⟩])
   (.block 0 (.loop m177k0 m177b0)))
   (.seq (.seq (.rg [⟨some (.t 64), .mv (.v 1), none⟩,
   ⟨some (.v 65), .bin .eql (.t 64) (.c (.int .i64 2)), none⟩])
   (.cond (.v 65) (.seq (.rg [⟨some (.t 66), .aad 1 6 (.v 6) (.c (.int .i64 0)), none⟩,
   ⟨some (.t 67), .load false 1 (.t 66), none⟩,
   ⟨some (.t 68), .bin .add (.t 67) (.c (.int .i64 1900)), none⟩,
   ⟨some (.t 69), .aad 1 6 (.v 6) (.c (.int .i64 0)), none⟩,
   ⟨none, .store 1 (.t 69) (.t 68), none⟩])
   (.seq (.rg [⟨some (.t 70), .aad 1 6 (.v 6) (.c (.int .i64 0)), none⟩,
   ⟨some (.t 71), .load false 1 (.t 70), none⟩,
   ⟨some (.v 72), .bin .lss (.t 71) (.c (.int .i64 1950)), none⟩])
   (.cond (.v 72) (.rg [⟨some (.t 73), .aad 1 6 (.v 6) (.c (.int .i64 0)), none⟩,
   ⟨some (.t 74), .load false 1 (.t 73), none⟩,
   ⟨some (.t 75), .bin .add (.t 74) (.c (.int .i64 100)), none⟩,
   ⟨some (.t 76), .aad 1 6 (.v 6) (.c (.int .i64 0)), none⟩,
   ⟨none, .store 1 (.t 76) (.t 75), none⟩])
   (.skip))))
   (.skip)))
   (.seq (.rgd [⟨some (.t 77), .aad 1 6 (.v 6) (.c (.int .i64 1)), none⟩,
   ⟨some (.t 78), .load false 1 (.t 77), none⟩,
   ⟨some (.t 79), .bin .geq (.t 78) (.c (.int .i64 1)), none⟩,
   ⟨some (.t 80), .mv (.t 79), none⟩,
   ⟨some (.t 81), .aad 1 6 (.v 6) (.c (.int .i64 1)), some (.t 80, true)⟩,
   ⟨some (.t 82), .load false 1 (.t 81), some (.t 80, true)⟩,
   ⟨some (.t 83), .bin .leq (.t 82) (.c (.int .i64 12)), some (.t 80, true)⟩,
   ⟨some (.t 84), .pick (.t 80) (.t 83) (.c (.bool false)), none⟩,
   ⟨some (.t 85), .mv (.t 84), none⟩,
   ⟨some (.t 86), .aad 1 6 (.v 6) (.c (.int .i64 2)), some (.t 85, true)⟩,
   ⟨some (.t 87), .load false 1 (.t 86), some (.t 85, true)⟩,
   ⟨some (.t 88), .bin .geq (.t 87) (.c (.int .i64 1)), some (.t 85, true)⟩,
   ⟨some (.t 89), .pick (.t 85) (.t 88) (.c (.bool false)), none⟩,
   ⟨some (.t 90), .mv (.t 89), none⟩,
   ⟨some (.t 91), .aad 1 6 (.v 6) (.c (.int .i64 2)), some (.t 90, true)⟩,
   ⟨some (.t 92), .load false 1 (.t 91), some (.t 90, true)⟩,
   ⟨some (.t 93), .aad 1 6 (.v 6) (.c (.int .i64 0)), some (.t 90, true)⟩,
   ⟨some (.t 94), .load false 1 (.t 93), some (.t 90, true)⟩,
   ⟨some (.t 95), .aad 1 6 (.v 6) (.c (.int .i64 1)), some (.t 90, true)⟩,
   ⟨some (.t 96), .load false 1 (.t 95), some (.t 90, true)⟩,
   ⟨some (.t 97), .call 180 [.t 94, .t 96], some (.t 90, true)⟩,
   ⟨some (.t 98), .bin .leq (.t 92) (.t 97), some (.t 90, true)⟩,
   ⟨some (.t 99), .pick (.t 90) (.t 98) (.c (.bool false)), none⟩,
   ⟨some (.t 100), .mv (.t 99), none⟩,
   ⟨some (.t 101), .aad 1 6 (.v 6) (.c (.int .i64 3)), some (.t 100, true)⟩,
   ⟨some (.t 102), .load false 1 (.t 101), some (.t 100, true)⟩,
   ⟨some (.t 103), .bin .leq (.t 102) (.c (.int .i64 23)), some (.t 100, true)⟩,
   ⟨some (.t 104), .pick (.t 100) (.t 103) (.c (.bool false)), none⟩,
   ⟨some (.t 105), .mv (.t 104), none⟩,
   ⟨some (.t 106), .aad 1 6 (.v 6) (.c (.int .i64 4)), some (.t 105, true)⟩,
   ⟨some (.t 107), .load false 1 (.t 106), some (.t 105, true)⟩,
   ⟨some (.t 108), .bin .leq (.t 107) (.c (.int .i64 59)), some (.t 105, true)⟩,
   ⟨some (.t 109), .pick (.t 105) (.t 108) (.c (.bool false)), none⟩,
   ⟨some (.t 110), .mv (.t 109), none⟩,
   ⟨some (.t 111), .aad 1 6 (.v 6) (.c (.int .i64 5)), some (.t 110, true)⟩,
   ⟨some (.t 112), .load false 1 (.t 111), some (.t 110, true)⟩,
   ⟨some (.t 113), .bin .leq (.t 112) (.c (.int .i64 59)), some (.t 110, true)⟩,
   ⟨some (.t 114), .pick (.t 110) (.t 113) (.c (.bool false)), none⟩,
   ⟨some (.v 9), .mv (.t 114), none⟩]
   [[], [0], [0, 1], [0, 1, 2], [0, 1, 2, 3], [0, 1, 2, 3, 4], [0, 1, 2, 3, 4, 5], [0, 1, 2, 3, 4, 5, 6], [0, 1, 2, 3, 4, 5, 6, 7], [0, 1, 2, 3, 4, 5, 6, 7, 8], [0, 1, 2, 3, 4, 5, 6, 7, 8, 9], [0, 1, 2, 3, 4, 5, 6, 7, 8, 9, 10], [0, 1, 2, 3, 4, 5, 6, 7, 8, 9, 10, 11], [0, 1, 2, 3, 4, 5, 6, 7, 8, 9, 10, 11, 12], [0, 1, 2, 3, 4, 5, 6, 7, 8, 9, 10, 11, 12, 13], [0, 1, 2, 3, 4, 5, 6, 7, 8, 9, 10, 11, 12, 13, 14], [0, 1, 2, 3, 4, 5, 6, 7, 8, 9, 10, 11, 12, 13], [0, 1, 2, 3, 4, 5, 6, 7, 8, 9, 10, 11, 12, 13, 16], [0, 1, 2, 3, 4, 5, 6, 7, 8, 9, 10, 11, 12, 13], [0, 1, 2, 3, 4, 5, 6, 7, 8, 9, 10, 11, 12, 13, 18], [0, 1, 2, 3, 4, 5, 6, 7, 8, 9, 10, 11, 12, 13, 16, 17, 18, 19], [0, 1, 2, 3, 4, 5, 6, 7, 8, 9, 10, 11, 12, 13, 14, 15, 16, 17, 18, 19, 20], [0, 1, 2, 3, 4, 5, 6, 7, 8, 9, 10, 11, 12, 13, 14, 15, 16, 17, 18, 19, 20, 21], [0, 1, 2, 3, 4, 5, 6, 7, 8, 9, 10, 11, 12, 13, 14, 15, 16, 17, 18, 19, 20, 21, 22], [0, 1, 2, 3, 4, 5, 6, 7, 8, 9, 10, 11, 12, 13, 14, 15, 16, 17, 18, 19, 20, 21, 22, 23], [0, 1, 2, 3, 4, 5, 6, 7, 8, 9, 10, 11, 12, 13, 14, 15, 16, 17, 18, 19, 20, 21, 22, 23, 24], [0, 1, 2, 3, 4, 5, 6, 7, 8, 9, 10, 11, 12, 13, 14, 15, 16, 17, 18, 19, 20, 21, 22, 23, 24, 25], [0, 1, 2, 3, 4, 5, 6, 7, 8, 9, 10, 11, 12, 13, 14, 15, 16, 17, 18, 19, 20, 21, 22, 23, 24, 25, 26], [0, 1, 2, 3, 4, 5, 6, 7, 8, 9, 10, 11, 12, 13, 14, 15, 16, 17, 18, 19, 20, 21, 22, 23, 24, 25, 26, 27], [0, 1, 2, 3, 4, 5, 6, 7, 8, 9, 10, 11, 12, 13, 14, 15, 16, 17, 18, 19, 20, 21, 22, 23, 24, 25, 26, 27, 28], [0, 1, 2, 3, 4, 5, 6, 7, 8, 9, 10, 11, 12, 13, 14, 15, 16, 17, 18, 19, 20, 21, 22, 23, 24, 25, 26, 27, 28, 29], [0, 1, 2, 3, 4, 5, 6, 7, 8, 9, 10, 11, 12, 13, 14, 15, 16, 17, 18, 19, 20, 21, 22, 23, 24, 25, 26, 27, 28, 29, 30], [0, 1, 2, 3, 4, 5, 6, 7, 8, 9, 10, 11, 12, 13, 14, 15, 16, 17, 18, 19, 20, 21, 22, 23, 24, 25, 26, 27, 28, 29, 30, 31], [0, 1, 2, 3, 4, 5, 6, 7, 8, 9, 10, 11, 12, 13, 14, 15, 16, 17, 18, 19, 20, 21, 22, 23, 24, 25, 26, 27, 28, 29, 30, 31, 32], [0, 1, 2, 3, 4, 5, 6, 7, 8, 9, 10, 11, 12, 13, 14, 15, 16, 17, 18, 19, 20, 21, 22, 23, 24, 25, 26, 27, 28, 29, 30, 31, 32, 33], [0, 1, 2, 3, 4, 5, 6, 7, 8, 9, 10, 11, 12, 13, 14, 15, 16, 17, 18, 19, 20, 21, 22, 23, 24, 25, 26, 27, 28, 29, 30, 31, 32, 33, 34], [0, 1, 2, 3, 4, 5, 6, 7, 8, 9, 10, 11, 12, 13, 14, 15, 16, 17, 18, 19, 20, 21, 22, 23, 24, 25, 26, 27, 28, 29, 30, 31, 32, 33, 34, 35], [0, 1, 2, 3, 4, 5, 6, 7, 8, 9, 10, 11, 12, 13, 14, 15, 16, 17, 18, 19, 20, 21, 22, 23, 24, 25, 26, 27, 28, 29, 30, 31, 32, 33, 34, 35, 36], [0, 1, 2, 3, 4, 5, 6, 7, 8, 9, 10, 11, 12, 13, 14, 15, 16, 17, 18, 19, 20, 21, 22, 23, 24, 25, 26, 27, 28, 29, 30, 31, 32, 33, 34, 35, 36, 37]])
   (.seq (.rg [⟨some (.t 115), .load true 6 (.v 6), none⟩,
   ⟨some (.t 116), .mv (.v 9), none⟩,
   ⟨none, .store 6 (.v 4) (.t 115), none⟩,
   ⟨some (.v 5), .mv (.t 116), none⟩])
   (.ret)))))))⟩
theorem m177o : okFn Tryz.prog 177 [10, 11, 12, 13, 14, 15, 16, 17, 18, 19, 20, 21, 23, 24, 25, 26, 28, 29, 30, 31, 32, 33, 34, 35, 36, 37, 38, 39, 40, 42, 43, 44, 46, 47, 48, 49, 50, 51, 52, 53, 54, 55, 56, 57, 58, 59, 60, 61, 62, 63, 64, 66, 67, 68, 69, 70, 71, 73, 74, 75, 76, 77, 78, 79, 80, 81, 82, 83, 84, 85, 86, 87, 88, 89, 90, 91, 92, 93, 94, 95, 96, 97, 98, 99, 100, 101, 102, 103, 104, 105, 106, 107, 108, 109, 110, 111, 112, 113, 114, 115, 116] [m177k0] [[[], [], [1], [1, 2], [1, 2, 3], [], [], [5, 6], [5, 6, 7], [5, 6, 7, 8], [1, 2, 3, 4, 5, 6, 7, 8, 9], [1, 2, 3, 4, 5, 6, 7, 8, 9, 10], [0, 1, 2, 3, 4, 5, 6, 7, 8, 9, 10, 11], [0, 1, 2, 3, 4, 5, 6, 7, 8, 9, 10, 11, 12]], [[], [0], [0, 1], [0, 1, 2], [0, 1, 2, 3], [0, 1, 2, 3, 4], [0, 1, 2, 3, 4, 5], [0, 1, 2, 3, 4, 5, 6], [0, 1, 2, 3, 4, 5, 6, 7], [0, 1, 2, 3, 4, 5, 6, 7, 8], [0, 1, 2, 3, 4, 5, 6, 7, 8, 9], [0, 1, 2, 3, 4, 5, 6, 7, 8, 9, 10], [0, 1, 2, 3, 4, 5, 6, 7, 8, 9, 10, 11], [0, 1, 2, 3, 4, 5, 6, 7, 8, 9, 10, 11, 12], [0, 1, 2, 3, 4, 5, 6, 7, 8, 9, 10, 11, 12, 13], [0, 1, 2, 3, 4, 5, 6, 7, 8, 9, 10, 11, 12, 13, 14], [0, 1, 2, 3, 4, 5, 6, 7, 8, 9, 10, 11, 12, 13], [0, 1, 2, 3, 4, 5, 6, 7, 8, 9, 10, 11, 12, 13, 16], [0, 1, 2, 3, 4, 5, 6, 7, 8, 9, 10, 11, 12, 13], [0, 1, 2, 3, 4, 5, 6, 7, 8, 9, 10, 11, 12, 13, 18], [0, 1, 2, 3, 4, 5, 6, 7, 8, 9, 10, 11, 12, 13, 16, 17, 18, 19], [0, 1, 2, 3, 4, 5, 6, 7, 8, 9, 10, 11, 12, 13, 14, 15, 16, 17, 18, 19, 20], [0, 1, 2, 3, 4, 5, 6, 7, 8, 9, 10, 11, 12, 13, 14, 15, 16, 17, 18, 19, 20, 21], [0, 1, 2, 3, 4, 5, 6, 7, 8, 9, 10, 11, 12, 13, 14, 15, 16, 17, 18, 19, 20, 21, 22], [0, 1, 2, 3, 4, 5, 6, 7, 8, 9, 10, 11, 12, 13, 14, 15, 16, 17, 18, 19, 20, 21, 22, 23], [0, 1, 2, 3, 4, 5, 6, 7, 8, 9, 10, 11, 12, 13, 14, 15, 16, 17, 18, 19, 20, 21, 22, 23, 24], [0, 1, 2, 3, 4, 5, 6, 7, 8, 9, 10, 11, 12, 13, 14, 15, 16, 17, 18, 19, 20, 21, 22, 23, 24, 25], [0, 1, 2, 3, 4, 5, 6, 7, 8, 9, 10, 11, 12, 13, 14, 15, 16, 17, 18, 19, 20, 21, 22, 23, 24, 25, 26], [0, 1, 2, 3, 4, 5, 6, 7, 8, 9, 10, 11, 12, 13, 14, 15, 16, 17, 18, 19, 20, 21, 22, 23, 24, 25, 26, 27], [0, 1, 2, 3, 4, 5, 6, 7, 8, 9, 10, 11, 12, 13, 14, 15, 16, 17, 18, 19, 20, 21, 22, 23, 24, 25, 26, 27, 28], [0, 1, 2, 3, 4, 5, 6, 7, 8, 9, 10, 11, 12, 13, 14, 15, 16, 17, 18, 19, 20, 21, 22, 23, 24, 25, 26, 27, 28, 29], [0, 1, 2, 3, 4, 5, 6, 7, 8, 9, 10, 11, 12, 13, 14, 15, 16, 17, 18, 19, 20, 21, 22, 23, 24, 25, 26, 27, 28, 29, 30], [0, 1, 2, 3, 4, 5, 6, 7, 8, 9, 10, 11, 12, 13, 14, 15, 16, 17, 18, 19, 20, 21, 22, 23, 24, 25, 26, 27, 28, 29, 30, 31], [0, 1, 2, 3, 4, 5, 6, 7, 8, 9, 10, 11, 12, 13, 14, 15, 16, 17, 18, 19, 20, 21, 22, 23, 24, 25, 26, 27, 28, 29, 30, 31, 32], [0, 1, 2, 3, 4, 5, 6, 7, 8, 9, 10, 11, 12, 13, 14, 15, 16, 17, 18, 19, 20, 21, 22, 23, 24, 25, 26, 27, 28, 29, 30, 31, 32, 33], [0, 1, 2, 3, 4, 5, 6, 7, 8, 9, 10, 11, 12, 13, 14, 15, 16, 17, 18, 19, 20, 21, 22, 23, 24, 25, 26, 27, 28, 29, 30, 31, 32, 33, 34], [0, 1, 2, 3, 4, 5, 6, 7, 8, 9, 10, 11, 12, 13, 14, 15, 16, 17, 18, 19, 20, 21, 22, 23, 24, 25, 26, 27, 28, 29, 30, 31, 32, 33, 34, 35], [0, 1, 2, 3, 4, 5, 6, 7, 8, 9, 10, 11, 12, 13, 14, 15, 16, 17, 18, 19, 20, 21, 22, 23, 24, 25, 26, 27, 28, 29, 30, 31, 32, 33, 34, 35, 36], [0, 1, 2, 3, 4, 5, 6, 7, 8, 9, 10, 11, 12, 13, 14, 15, 16, 17, 18, 19, 20, 21, 22, 23, 24, 25, 26, 27, 28, 29, 30, 31, 32, 33, 34, 35, 36, 37]]] m177.nargs m177.params m177.results = some m177.body := by kernel_rfl

def m180 : MFunc := ⟨2, [.other, .other], [(4, none, .other)],
 .seq (.rg [⟨some (.v 4), .mv (.c (.int .i64 0)), none⟩])
  (.seq (.seq (.rg [⟨some (.t 5), .mv (.v 1), none⟩,
   ⟨some (.v 6), .bin .eql (.t 5) (.c (.int .i64 2)), none⟩])
   (.cond (.v 6) (.seq (.seq (.rg [⟨some (.t 7), .mv (.v 0), none⟩,
   ⟨some (.t 8), .bin .rem (.t 7) (.c (.int .i64 4)), none⟩,
   ⟨some (.t 9), .bin .eql (.t 8) (.c (.int .i64 0)), none⟩,
   ⟨some (.t 10), .mv (.t 9), none⟩,
   ⟨some (.t 11), .mv (.v 0), some (.t 10, true)⟩,
   ⟨some (.t 12), .bin .rem (.t 11) (.c (.int .i64 100)), some (.t 10, true)⟩,
   ⟨some (.t 13), .bin .neq (.t 12) (.c (.int .i64 0)), some (.t 10, true)⟩,
   ⟨some (.t 14), .pick (.t 10) (.t 13) (.c (.bool false)), none⟩,
   ⟨some (.t 15), .mv (.t 14), none⟩,
   ⟨some (.t 16), .mv (.v 0), some (.t 15, false)⟩,
   ⟨some (.t 17), .bin .rem (.t 16) (.c (.int .i64 400)), some (.t 15, false)⟩,
   ⟨some (.t 18), .bin .eql (.t 17) (.c (.int .i64 0)), some (.t 15, false)⟩,
   ⟨some (.v 19), .pick (.t 15) (.c (.bool true)) (.t 18), none⟩])
   (.cond (.v 19) (.seq (.rg [⟨some (.v 4), .mv (.c (.int .i64 29)), none⟩])
   (.ret))
   (.skip)))
   (.seq (.rg [⟨some (.v 4), .mv (.c (.int .i64 28)), none⟩])
   (.ret)))
   (.skip)))
   (.seq (.seq (.rg [⟨some (.t 20), .mv (.v 1), none⟩,
   ⟨some (.t 21), .bin .eql (.t 20) (.c (.int .i64 4)), none⟩,
   ⟨some (.t 22), .mv (.t 21), none⟩,
   ⟨some (.t 23), .mv (.v 1), some (.t 22, false)⟩,
   ⟨some (.t 24), .bin .eql (.t 23) (.c (.int .i64 6)), some (.t 22, false)⟩,
   ⟨some (.t 25), .pick (.t 22) (.c (.bool true)) (.t 24), none⟩,
   ⟨some (.t 26), .mv (.t 25), none⟩,
   ⟨some (.t 27), .mv (.v 1), some (.t 26, false)⟩,
   ⟨some (.t 28), .bin .eql (.t 27) (.c (.int .i64 9)), some (.t 26, false)⟩,
   ⟨some (.t 29), .pick (.t 26) (.c (.bool true)) (.t 28), none⟩,
   ⟨some (.t 30), .mv (.t 29), none⟩,
   ⟨some (.t 31), .mv (.v 1), some (.t 30, false)⟩,
   ⟨some (.t 32), .bin .eql (.t 31) (.c (.int .i64 11)), some (.t 30, false)⟩,
   ⟨some (.v 33), .pick (.t 30) (.c (.bool true)) (.t 32), none⟩])
   (.cond (.v 33) (.seq (.rg [⟨some (.v 4), .mv (.c (.int .i64 30)), none⟩])
   (.ret))
   (.skip)))
   (.seq (.rg [⟨some (.v 4), .mv (.c (.int .i64 31)), none⟩])
   (.ret))))⟩
theorem m180o : okFn Tryz.prog 180 [5, 7, 8, 9, 10, 11, 12, 13, 14, 15, 16, 17, 18, 20, 21, 22, 23, 24, 25, 26, 27, 28, 29, 30, 31, 32] [] [] m180.nargs m180.params m180.results = some m180.body := by kernel_rfl
end Go.Proofs.YtncpjcojnjbhlaaGreatDoor

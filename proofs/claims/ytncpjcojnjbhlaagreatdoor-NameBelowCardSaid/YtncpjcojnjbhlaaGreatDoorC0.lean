/- Mini's code of functions of the program, and that it is theirs. -/
import Derived.Test.YtncpjcojnjbhlaaGreatDoorM1
import Derived.Test.YtncpjcojnjbhlaaGreatDoorProg
namespace Go.Proofs.YtncpjcojnjbhlaaGreatDoor
open Go Go.Mini Go.Proofs
set_option maxRecDepth 100000
def m3 : MFunc := ⟨2, [.other, .other], [(4, none, .other)],
 .seq (.rg [⟨some (.v 2), .box (.v 0), none⟩,
   ⟨some (.v 3), .box (.v 1), none⟩,
   ⟨some (.v 4), .mv (.c (.bool false)), none⟩])
  (.seq (.seq (.rg [⟨some (.t 5), .call 8 [], none⟩,
   ⟨some (.v 6), .un .not (.t 5), none⟩])
   (.cond (.v 6) (.seq (.rg [⟨some (.v 4), .mv (.c (.bool false)), none⟩])
   (.ret))
   (.skip)))
   (.seq (.seq (.rg [⟨some (.t 7), .load true 3 (.v 2), none⟩,
   ⟨some (.t 8), .call 9 [.t 7], none⟩,
   ⟨some (.t 9), .un .not (.t 8), none⟩,
   ⟨some (.t 10), .mv (.t 9), none⟩,
   ⟨some (.t 11), .load true 3 (.v 3), some (.t 10, false)⟩,
   ⟨some (.t 12), .call 9 [.t 11], some (.t 10, false)⟩,
   ⟨some (.t 13), .un .not (.t 12), some (.t 10, false)⟩,
   ⟨some (.v 14), .pick (.t 10) (.c (.bool true)) (.t 13), none⟩])
   (.cond (.v 14) (.seq (.rg [⟨some (.v 4), .mv (.c (.bool true)), none⟩])
   (.ret))
   (.skip)))
   (.seq (.rgd [⟨some (.t 15), .load true 3 (.v 2), none⟩,
   ⟨some (.t 16), .load true 3 (.v 3), none⟩,
   ⟨some (.t 17), .call 10 [.t 15, .t 16], none⟩,
   ⟨some (.t 18), .load true 3 (.v 2), none⟩,
   ⟨some (.t 19), .call 12 [.t 18], none⟩,
   ⟨some (.t 20), .load true 3 (.v 3), none⟩,
   ⟨some (.t 21), .call 12 [.t 20], none⟩,
   ⟨some (.t 22), .call 11 [.t 19, .t 21], none⟩,
   ⟨some (.t 23), .eqs .bool false (.t 17) (.t 22), none⟩,
   ⟨some (.v 4), .mv (.t 23), none⟩]
   [[], [], [0, 1], [], [0, 1, 2, 3], [], [0, 1, 2, 3, 4, 5], [0, 1, 2, 3, 4, 5, 6], [0, 1, 2, 3, 4, 5, 6, 7], [0, 1, 2, 3, 4, 5, 6, 7, 8]])
   (.ret))))⟩
theorem m3o : okFn Tryz.prog 3 [5, 7, 8, 9, 10, 11, 12, 13, 15, 16, 17, 18, 19, 20, 21, 22, 23] [] [[[], [], [0, 1], [], [0, 1, 2, 3], [], [0, 1, 2, 3, 4, 5], [0, 1, 2, 3, 4, 5, 6], [0, 1, 2, 3, 4, 5, 6, 7], [0, 1, 2, 3, 4, 5, 6, 7, 8]]] m3.nargs m3.params m3.results = some m3.body := by kernel_rfl

def m4k0 : List (Nat × KMode) := [(0, .plain), (1, .plain), (7, .plain), (8, .plain), (42, .plain), (43, .plain)]
def m4b0 : MCode :=
 .seq (.rg [⟨some (.v 44), .bin .lss (.v 43) (.v 42), none⟩])
  (.seq (.cond (.v 44) (.skip)
   (.exit 0))
   (.seq (.block 1 (.seq (.rg [⟨some (.t 45), .mv (.v 43), none⟩,
   ⟨some (.v 9), .mv (.t 45), none⟩])
   (.seq (.rgd [⟨some (.t 46), .mv (.v 7), none⟩,
   ⟨some (.t 47), .mv (.v 9), none⟩,
   ⟨some (.t 48), .bin .quo (.t 47) (.c (.int .i64 8)), none⟩,
   ⟨some (.t 49), .iad 1 (.t 46) (.t 48), none⟩,
   ⟨some (.t 50), .load false 1 (.t 49), none⟩,
   ⟨some (.t 51), .mv (.v 9), none⟩,
   ⟨some (.t 52), .bin .rem (.t 51) (.c (.int .i64 8)), none⟩,
   ⟨some (.t 53), .bin .shr (.c (.int .u8 128)) (.t 52), none⟩,
   ⟨some (.t 54), .bin .or (.t 50) (.t 53), none⟩,
   ⟨some (.t 55), .iad 1 (.t 46) (.t 48), none⟩,
   ⟨none, .store 1 (.t 55) (.t 54), none⟩]
   [[], [], [1], [0, 1, 2], [0, 1, 2, 3], [], [5], [5, 6], [0, 1, 2, 3, 4, 5, 6, 7], [0, 1, 2, 3, 4, 5, 6, 7, 8], [0, 1, 2, 3, 4, 5, 6, 7, 8, 9]])
   (.rgd [⟨some (.t 56), .mv (.v 8), none⟩,
   ⟨some (.t 57), .mv (.t 56), none⟩,
   ⟨some (.t 58), .mv (.v 0), some (.t 57, true)⟩,
   ⟨some (.t 59), .mv (.v 9), some (.t 57, true)⟩,
   ⟨some (.t 60), .bin .quo (.t 59) (.c (.int .i64 8)), some (.t 57, true)⟩,
   ⟨some (.t 61), .iad 1 (.t 58) (.t 60), some (.t 57, true)⟩,
   ⟨some (.t 62), .load false 1 (.t 61), some (.t 57, true)⟩,
   ⟨some (.t 63), .mv (.v 1), some (.t 57, true)⟩,
   ⟨some (.t 64), .mv (.v 9), some (.t 57, true)⟩,
   ⟨some (.t 65), .bin .quo (.t 64) (.c (.int .i64 8)), some (.t 57, true)⟩,
   ⟨some (.t 66), .iad 1 (.t 63) (.t 65), some (.t 57, true)⟩,
   ⟨some (.t 67), .load false 1 (.t 66), some (.t 57, true)⟩,
   ⟨some (.t 68), .bin .xor (.t 62) (.t 67), some (.t 57, true)⟩,
   ⟨some (.t 69), .mv (.v 9), some (.t 57, true)⟩,
   ⟨some (.t 70), .bin .rem (.t 69) (.c (.int .i64 8)), some (.t 57, true)⟩,
   ⟨some (.t 71), .bin .sub (.c (.int .i64 7)) (.t 70), some (.t 57, true)⟩,
   ⟨some (.t 72), .bin .shr (.t 68) (.t 71), some (.t 57, true)⟩,
   ⟨some (.t 73), .bin .and (.t 72) (.c (.int .u8 1)), some (.t 57, true)⟩,
   ⟨some (.t 74), .bin .eql (.t 73) (.c (.int .u8 0)), some (.t 57, true)⟩,
   ⟨some (.t 75), .pick (.t 57) (.t 74) (.c (.bool false)), none⟩,
   ⟨some (.v 8), .mv (.t 75), none⟩]
   [[], [0], [0, 1], [0, 1], [0, 1, 3], [0, 1, 2, 3, 4], [0, 1, 2, 3, 4, 5], [0, 1], [0, 1], [0, 1, 8], [0, 1, 7, 8, 9], [0, 1, 7, 8, 9, 10], [0, 1, 2, 3, 4, 5, 6, 7, 8, 9, 10, 11], [0, 1], [0, 1, 13], [0, 1, 13, 14], [0, 1, 2, 3, 4, 5, 6, 7, 8, 9, 10, 11, 12, 13, 14, 15], [0, 1, 2, 3, 4, 5, 6, 7, 8, 9, 10, 11, 12, 13, 14, 15, 16], [0, 1, 2, 3, 4, 5, 6, 7, 8, 9, 10, 11, 12, 13, 14, 15, 16, 17], [0, 1, 2, 3, 4, 5, 6, 7, 8, 9, 10, 11, 12, 13, 14, 15, 16, 17, 18], [0, 1, 2, 3, 4, 5, 6, 7, 8, 9, 10, 11, 12, 13, 14, 15, 16, 17, 18, 19]]))))
   (.rg [⟨some (.t 76), .bin .add (.v 43) (.c (.int .i64 1)), none⟩,
   ⟨some (.v 43), .mv (.t 76), none⟩])))
def m4 : MFunc := ⟨3, [.byt, .byt, .other], [(6, none, .other)],
 .seq (.rg [⟨some (.v 6), .mv (.c (.bool false)), none⟩])
  (.seq (.seq (.rg [⟨some (.t 11), .call 8 [], none⟩,
   ⟨some (.v 12), .un .not (.t 11), none⟩])
   (.cond (.v 12) (.seq (.rg [⟨some (.v 6), .mv (.c (.bool false)), none⟩])
   (.ret))
   (.skip)))
   (.seq (.seq (.rg [⟨some (.t 13), .mv (.v 0), none⟩,
   ⟨some (.t 14), .len false (.t 13), none⟩,
   ⟨some (.t 15), .bin .neq (.t 14) (.c (.int .i64 4)), none⟩,
   ⟨some (.t 16), .mv (.t 15), none⟩,
   ⟨some (.t 17), .mv (.v 0), some (.t 16, true)⟩,
   ⟨some (.t 18), .len false (.t 17), some (.t 16, true)⟩,
   ⟨some (.t 19), .bin .neq (.t 18) (.c (.int .i64 16)), some (.t 16, true)⟩,
   ⟨some (.t 20), .pick (.t 16) (.t 19) (.c (.bool false)), none⟩,
   ⟨some (.t 21), .mv (.t 20), none⟩,
   ⟨some (.t 22), .mv (.v 1), some (.t 21, false)⟩,
   ⟨some (.t 23), .len false (.t 22), some (.t 21, false)⟩,
   ⟨some (.t 24), .mv (.v 0), some (.t 21, false)⟩,
   ⟨some (.t 25), .len false (.t 24), some (.t 21, false)⟩,
   ⟨some (.t 26), .bin .neq (.t 23) (.t 25), some (.t 21, false)⟩,
   ⟨some (.t 27), .pick (.t 21) (.c (.bool true)) (.t 26), none⟩,
   ⟨some (.t 28), .mv (.t 27), none⟩,
   ⟨some (.t 29), .mv (.v 2), some (.t 28, false)⟩,
   ⟨some (.t 30), .bin .lss (.t 29) (.c (.int .i64 0)), some (.t 28, false)⟩,
   ⟨some (.t 31), .pick (.t 28) (.c (.bool true)) (.t 30), none⟩,
   ⟨some (.t 32), .mv (.t 31), none⟩,
   ⟨some (.t 33), .mv (.v 2), some (.t 32, false)⟩,
   ⟨some (.t 34), .mv (.v 0), some (.t 32, false)⟩,
   ⟨some (.t 35), .len false (.t 34), some (.t 32, false)⟩,
   ⟨some (.t 36), .bin .mul (.c (.int .i64 8)) (.t 35), some (.t 32, false)⟩,
   ⟨some (.t 37), .bin .gtr (.t 33) (.t 36), some (.t 32, false)⟩,
   ⟨some (.v 38), .pick (.t 32) (.c (.bool true)) (.t 37), none⟩])
   (.cond (.v 38) (.seq (.rg [⟨some (.v 6), .mv (.c (.bool true)), none⟩])
   (.ret))
   (.skip)))
   (.seq (.rg [⟨some (.t 39), .mv (.v 0), none⟩,
   ⟨some (.t 40), .len false (.t 39), none⟩,
   ⟨some (.t 41), .mksB (.t 40) (.t 40), none⟩,
   ⟨some (.v 7), .mv (.t 41), none⟩])
   (.seq (.rg [⟨some (.v 8), .mv (.c (.bool true)), none⟩])
   (.seq (.seq (.rg [⟨some (.v 42), .mv (.v 2), none⟩,
   ⟨some (.v 43), .mv (.c (.int .i64 0)), none⟩])
   (.block 0 (.loop m4k0 m4b0)))
   (.seq (.rg [⟨some (.t 77), .mv (.v 1), none⟩,
   ⟨some (.t 78), .mv (.v 7), none⟩,
   ⟨some (.t 79), .call 13 [.t 77, .t 78], none⟩,
   ⟨some (.t 80), .b2s (.t 79), none⟩,
   ⟨some (.t 81), .build [.int .i64 0, .str [], .nilsl] [(0, 1, .c (.int .i64 7)), (1, 1, .t 80)], none⟩,
   ⟨some (.v 10), .alloc [.int .i64 0, .str [], .nilsl], none⟩,
   ⟨none, .store 3 (.v 10) (.t 81), none⟩])
   (.seq (.rg [⟨some (.t 82), .mv (.v 0), none⟩,
   ⟨some (.t 83), .b2s (.t 82), none⟩,
   ⟨some (.t 84), .build [.int .i64 0, .str [], .nilsl] [(0, 1, .c (.int .i64 7)), (1, 1, .t 83)], none⟩,
   ⟨some (.t 85), .load true 3 (.v 10), none⟩,
   ⟨some (.t 86), .call 10 [.t 84, .t 85], none⟩,
   ⟨some (.t 87), .mv (.v 8), none⟩,
   ⟨some (.t 88), .eqs .bool false (.t 86) (.t 87), none⟩,
   ⟨some (.t 89), .mv (.t 88), none⟩,
   ⟨some (.t 90), .mv (.v 0), some (.t 89, true)⟩,
   ⟨some (.t 91), .b2s (.t 90), some (.t 89, true)⟩,
   ⟨some (.t 92), .bin .add (.t 91) (.c (.str [120])), some (.t 89, true)⟩,
   ⟨some (.t 93), .build [.int .i64 0, .str [], .nilsl] [(0, 1, .c (.int .i64 7)), (1, 1, .t 92)], some (.t 89, true)⟩,
   ⟨some (.t 94), .load true 3 (.v 10), some (.t 89, true)⟩,
   ⟨some (.t 95), .call 10 [.t 93, .t 94], some (.t 89, true)⟩,
   ⟨some (.t 96), .un .not (.t 95), some (.t 89, true)⟩,
   ⟨some (.t 97), .pick (.t 89) (.t 96) (.c (.bool false)), none⟩,
   ⟨some (.v 6), .mv (.t 97), none⟩])
   (.ret))))))))⟩
theorem m4o : okFn Tryz.prog 4 [11, 13, 14, 15, 16, 17, 18, 19, 20, 21, 22, 23, 24, 25, 26, 27, 28, 29, 30, 31, 32, 33, 34, 35, 36, 37, 39, 40, 41, 45, 46, 47, 48, 49, 50, 51, 52, 53, 54, 55, 56, 57, 58, 59, 60, 61, 62, 63, 64, 65, 66, 67, 68, 69, 70, 71, 72, 73, 74, 75, 76, 77, 78, 79, 80, 81, 82, 83, 84, 85, 86, 87, 88, 89, 90, 91, 92, 93, 94, 95, 96, 97] [m4k0] [[[], [], [1], [0, 1, 2], [0, 1, 2, 3], [], [5], [5, 6], [0, 1, 2, 3, 4, 5, 6, 7], [0, 1, 2, 3, 4, 5, 6, 7, 8], [0, 1, 2, 3, 4, 5, 6, 7, 8, 9]], [[], [0], [0, 1], [0, 1], [0, 1, 3], [0, 1, 2, 3, 4], [0, 1, 2, 3, 4, 5], [0, 1], [0, 1], [0, 1, 8], [0, 1, 7, 8, 9], [0, 1, 7, 8, 9, 10], [0, 1, 2, 3, 4, 5, 6, 7, 8, 9, 10, 11], [0, 1], [0, 1, 13], [0, 1, 13, 14], [0, 1, 2, 3, 4, 5, 6, 7, 8, 9, 10, 11, 12, 13, 14, 15], [0, 1, 2, 3, 4, 5, 6, 7, 8, 9, 10, 11, 12, 13, 14, 15, 16], [0, 1, 2, 3, 4, 5, 6, 7, 8, 9, 10, 11, 12, 13, 14, 15, 16, 17], [0, 1, 2, 3, 4, 5, 6, 7, 8, 9, 10, 11, 12, 13, 14, 15, 16, 17, 18], [0, 1, 2, 3, 4, 5, 6, 7, 8, 9, 10, 11, 12, 13, 14, 15, 16, 17, 18, 19]]] m4.nargs m4.params m4.results = some m4.body := by kernel_rfl

def m5k0 : List (Nat × KMode) := [(1, .plain), (2, .plain), (3, .plain), (9, (.ownE 2)), (48, .plain), (49, .plain), (50, .plain)]
def m5b0 : MCode :=
 .seq (.rg [⟨some (.v 51), .bin .lss (.v 50) (.v 49), none⟩])
  (.seq (.cond (.v 51) (.skip)
   (.exit 0))
   (.seq (.block 1 (.seq (.rg [⟨some (.t 52), .mv (.v 50), none⟩,
   ⟨some (.t 53), .iad 1 (.v 48) (.v 50), none⟩,
   ⟨some (.t 54), .load false 1 (.t 53), none⟩,
   ⟨some (.v 10), .mv (.t 52), none⟩,
   ⟨some (.v 11), .mv (.t 54), none⟩])
   (.seq (.seq (.rg [⟨some (.t 55), .mv (.v 11), none⟩,
   ⟨some (.t 56), .len true (.t 55), none⟩,
   ⟨some (.t 57), .bin .gtr (.t 56) (.c (.int .i64 100)), none⟩,
   ⟨some (.t 58), .mv (.t 57), none⟩,
   ⟨some (.t 59), .mv (.v 1), some (.t 58, false)⟩,
   ⟨some (.t 60), .mv (.v 10), some (.t 58, false)⟩,
   ⟨some (.t 61), .iad 1 (.t 59) (.t 60), some (.t 58, false)⟩,
   ⟨some (.t 62), .load false 1 (.t 61), some (.t 58, false)⟩,
   ⟨some (.t 63), .len true (.t 62), some (.t 58, false)⟩,
   ⟨some (.t 64), .bin .gtr (.t 63) (.c (.int .i64 100)), some (.t 58, false)⟩,
   ⟨some (.v 65), .pick (.t 58) (.c (.bool true)) (.t 64), none⟩])
   (.cond (.v 65) (.seq (.rg [⟨some (.v 8), .mv (.c (.bool true)), none⟩])
   (.ret))
   (.skip)))
   (.rg [⟨some (.t 66), .mv (.v 9), none⟩,
   ⟨some (.t 67), .mv (.v 11), none⟩,
   ⟨some (.t 68), .mv (.v 1), none⟩,
   ⟨some (.t 69), .mv (.v 10), none⟩,
   ⟨some (.t 70), .iad 1 (.t 68) (.t 69), none⟩,
   ⟨some (.t 71), .load false 1 (.t 70), none⟩,
   ⟨some (.t 72), .build [.str [], .str []] [(0, 1, .t 67), (1, 1, .t 71)], none⟩,
   ⟨some (.t 73), .bslE 2 (.agg [.str [], .str []]) 1 [(0, .t 72)], none⟩,
   ⟨some (.t 74), .app false 2 32 (.t 66) (.t 73), none⟩,
   ⟨some (.v 9), .mv (.t 74), none⟩]))))
   (.rg [⟨some (.t 75), .bin .add (.v 50) (.c (.int .i64 1)), none⟩,
   ⟨some (.v 50), .mv (.t 75), none⟩])))
def m5 : MFunc := ⟨4, [.el 1, .el 1, .other, .other], [(8, none, .other)],
 .seq (.rg [⟨some (.v 8), .mv (.c (.bool false)), none⟩])
  (.seq (.seq (.rg [⟨some (.t 16), .call 8 [], none⟩,
   ⟨some (.v 17), .un .not (.t 16), none⟩])
   (.cond (.v 17) (.seq (.rg [⟨some (.v 8), .mv (.c (.bool false)), none⟩])
   (.ret))
   (.skip)))
   (.seq (.seq (.rg [⟨some (.t 18), .mv (.v 0), none⟩,
   ⟨some (.t 19), .len false (.t 18), none⟩,
   ⟨some (.t 20), .bin .lss (.t 19) (.c (.int .i64 1)), none⟩,
   ⟨some (.t 21), .mv (.t 20), none⟩,
   ⟨some (.t 22), .mv (.v 0), some (.t 21, false)⟩,
   ⟨some (.t 23), .len false (.t 22), some (.t 21, false)⟩,
   ⟨some (.t 24), .bin .gtr (.t 23) (.c (.int .i64 10)), some (.t 21, false)⟩,
   ⟨some (.t 25), .pick (.t 21) (.c (.bool true)) (.t 24), none⟩,
   ⟨some (.t 26), .mv (.t 25), none⟩,
   ⟨some (.t 27), .mv (.v 1), some (.t 26, false)⟩,
   ⟨some (.t 28), .len false (.t 27), some (.t 26, false)⟩,
   ⟨some (.t 29), .mv (.v 0), some (.t 26, false)⟩,
   ⟨some (.t 30), .len false (.t 29), some (.t 26, false)⟩,
   ⟨some (.t 31), .bin .lss (.t 28) (.t 30), some (.t 26, false)⟩,
   ⟨some (.t 32), .pick (.t 26) (.c (.bool true)) (.t 31), none⟩,
   ⟨some (.t 33), .mv (.t 32), none⟩,
   ⟨some (.t 34), .mv (.v 2), some (.t 33, false)⟩,
   ⟨some (.t 35), .bin .lss (.t 34) (.c (.int .i64 0)), some (.t 33, false)⟩,
   ⟨some (.t 36), .pick (.t 33) (.c (.bool true)) (.t 35), none⟩,
   ⟨some (.t 37), .mv (.t 36), none⟩,
   ⟨some (.t 38), .mv (.v 2), some (.t 37, false)⟩,
   ⟨some (.t 39), .mv (.v 0), some (.t 37, false)⟩,
   ⟨some (.t 40), .len false (.t 39), some (.t 37, false)⟩,
   ⟨some (.t 41), .bin .gtr (.t 38) (.t 40), some (.t 37, false)⟩,
   ⟨some (.t 42), .pick (.t 37) (.c (.bool true)) (.t 41), none⟩,
   ⟨some (.t 43), .mv (.t 42), none⟩,
   ⟨some (.t 44), .mv (.v 3), some (.t 43, false)⟩,
   ⟨some (.t 45), .len true (.t 44), some (.t 43, false)⟩,
   ⟨some (.t 46), .bin .gtr (.t 45) (.c (.int .i64 100)), some (.t 43, false)⟩,
   ⟨some (.v 47), .pick (.t 43) (.c (.bool true)) (.t 46), none⟩])
   (.cond (.v 47) (.seq (.rg [⟨some (.v 8), .mv (.c (.bool true)), none⟩])
   (.ret))
   (.skip)))
   (.seq (.rg [⟨some (.v 9), .mv (.c (.nilsl)), none⟩])
   (.seq (.seq (.rg [⟨some (.v 48), .mv (.v 0), none⟩,
   ⟨some (.v 49), .len false (.v 48), none⟩,
   ⟨some (.v 50), .mv (.c (.int .i64 0)), none⟩])
   (.block 0 (.loop m5k0 m5b0)))
   (.seq (.rg [⟨some (.t 76), .mv (.v 9), none⟩,
   ⟨some (.t 77), .build [.int .i64 0, .str [], .nilsl] [(0, 1, .c (.int .i64 4)), (2, 1, .t 76)], none⟩,
   ⟨some (.v 12), .alloc [.int .i64 0, .str [], .nilsl], none⟩,
   ⟨none, .store 3 (.v 12) (.t 77), none⟩])
   (.seq (.seq (.rg [⟨some (.t 79), .load true 3 (.v 12), none⟩,
   ⟨some (.t 80), .call 14 [.t 79, .c (.bool false)], none⟩,
   ⟨some (.t 78), .mv (.t 80), none⟩,
   ⟨some (.t 81), .ext 0 (.t 78), none⟩,
   ⟨some (.t 82), .ext 1 (.t 78), none⟩,
   ⟨some (.t 13), .alloc [.int .i64 0, .int .i64 0, .bool false, .nilsl, .nilsl], none⟩,
   ⟨none, .store 5 (.t 13) (.t 81), none⟩,
   ⟨some (.v 14), .mv (.t 82), none⟩])
   (.seq (.rg [⟨some (.t 83), .mv (.v 14), none⟩,
   ⟨some (.v 84), .bin .neq (.t 83) (.c (.int .i64 0)), none⟩])
   (.cond (.v 84) (.seq (.rg [⟨some (.t 85), .load true 3 (.v 12), none⟩,
   ⟨some (.t 86), .load true 3 (.v 12), none⟩,
   ⟨some (.t 87), .call 10 [.t 85, .t 86], none⟩,
   ⟨some (.t 88), .un .not (.t 87), none⟩,
   ⟨some (.v 8), .mv (.t 88), none⟩])
   (.ret))
   (.skip))))
   (.seq (.seq (.rgd [⟨some (.t 89), .load true 3 (.v 12), none⟩,
   ⟨some (.t 90), .mv (.v 9), none⟩,
   ⟨some (.t 91), .mv (.v 2), none⟩,
   ⟨some (.t 92), .slc false 2 (.t 90) none (some (.t 91)), none⟩,
   ⟨some (.t 93), .build [.int .i64 0, .str [], .nilsl] [(0, 1, .c (.int .i64 4)), (2, 1, .t 92)], none⟩,
   ⟨some (.t 94), .call 10 [.t 89, .t 93], none⟩,
   ⟨some (.v 95), .un .not (.t 94), none⟩]
   [[], [], [], [1, 2], [1, 2, 3], [0, 1, 2, 3, 4], [0, 1, 2, 3, 4, 5]])
   (.cond (.v 95) (.seq (.rg [⟨some (.v 8), .mv (.c (.bool false)), none⟩])
   (.ret))
   (.skip)))
   (.seq (.seq (.rg [⟨some (.t 96), .mv (.v 2), none⟩,
   ⟨some (.t 97), .bin .eql (.t 96) (.c (.int .i64 0)), none⟩,
   ⟨some (.t 98), .mv (.t 97), none⟩,
   ⟨some (.t 99), .mv (.v 3), some (.t 98, false)⟩,
   ⟨some (.t 100), .mv (.v 9), some (.t 98, false)⟩,
   ⟨some (.t 101), .mv (.v 2), some (.t 98, false)⟩,
   ⟨some (.t 102), .bin .sub (.t 101) (.c (.int .i64 1)), some (.t 98, false)⟩,
   ⟨some (.t 103), .iad 2 (.t 100) (.t 102), some (.t 98, false)⟩,
   ⟨some (.t 104), .fad 1 (.t 103), some (.t 98, false)⟩,
   ⟨some (.t 105), .load false 1 (.t 104), some (.t 98, false)⟩,
   ⟨some (.t 106), .bin .eql (.t 99) (.t 105), some (.t 98, false)⟩,
   ⟨some (.v 107), .pick (.t 98) (.c (.bool true)) (.t 106), none⟩])
   (.cond (.v 107) (.seq (.rg [⟨some (.v 8), .mv (.c (.bool true)), none⟩])
   (.ret))
   (.skip)))
   (.seq (.rg [⟨some (.t 108), .bslE 2 (.agg [.str [], .str []]) 0 [], none⟩,
   ⟨some (.t 109), .mv (.v 9), none⟩,
   ⟨some (.t 110), .mv (.v 2), none⟩,
   ⟨some (.t 111), .slc false 2 (.t 109) none (some (.t 110)), none⟩,
   ⟨some (.t 112), .app false 2 32 (.t 108) (.t 111), none⟩,
   ⟨some (.v 15), .mv (.t 112), none⟩])
   (.seq (.rg [⟨some (.t 113), .mv (.v 15), none⟩,
   ⟨some (.t 114), .mv (.v 2), none⟩,
   ⟨some (.t 115), .bin .sub (.t 114) (.c (.int .i64 1)), none⟩,
   ⟨some (.t 116), .mv (.v 3), none⟩,
   ⟨some (.t 117), .iad 2 (.t 113) (.t 115), none⟩,
   ⟨some (.t 118), .fad 1 (.t 117), none⟩,
   ⟨none, .store 1 (.t 118) (.t 116), none⟩])
   (.seq (.rg [⟨some (.t 119), .load true 3 (.v 12), none⟩,
   ⟨some (.t 120), .mv (.v 15), none⟩,
   ⟨some (.t 121), .build [.int .i64 0, .str [], .nilsl] [(0, 1, .c (.int .i64 4)), (2, 1, .t 120)], none⟩,
   ⟨some (.t 122), .call 10 [.t 119, .t 121], none⟩,
   ⟨some (.t 123), .un .not (.t 122), none⟩,
   ⟨some (.v 8), .mv (.t 123), none⟩])
   (.ret))))))))))))⟩
theorem m5o : okFn Tryz.prog 5 [13, 16, 18, 19, 20, 21, 22, 23, 24, 25, 26, 27, 28, 29, 30, 31, 32, 33, 34, 35, 36, 37, 38, 39, 40, 41, 42, 43, 44, 45, 46, 52, 53, 54, 55, 56, 57, 58, 59, 60, 61, 62, 63, 64, 66, 67, 68, 69, 70, 71, 72, 73, 74, 75, 76, 77, 78, 79, 80, 81, 82, 83, 85, 86, 87, 88, 89, 90, 91, 92, 93, 94, 96, 97, 98, 99, 100, 101, 102, 103, 104, 105, 106, 108, 109, 110, 111, 112, 113, 114, 115, 116, 117, 118, 119, 120, 121, 122, 123] [m5k0] [[[], [], [], [1, 2], [1, 2, 3], [0, 1, 2, 3, 4], [0, 1, 2, 3, 4, 5]]] m5.nargs m5.params m5.results = some m5.body := by kernel_rfl

def m6 : MFunc := ⟨2, [.other, .el 2], [(4, none, .other)],
 .seq (.rg [⟨some (.v 2), .box (.v 0), none⟩,
   ⟨some (.v 4), .mv (.c (.bool false)), none⟩])
  (.seq (.seq (.rg [⟨some (.t 17), .call 8 [], none⟩,
   ⟨some (.v 18), .un .not (.t 17), none⟩])
   (.cond (.v 18) (.seq (.rg [⟨some (.v 4), .mv (.c (.bool false)), none⟩])
   (.ret))
   (.skip)))
   (.seq (.seq (.rg [⟨some (.t 19), .load true 5 (.v 2), none⟩,
   ⟨some (.t 20), .call 15 [.t 19, .c (.int .i64 30), .c (.int .i64 3000)], none⟩,
   ⟨some (.t 21), .bin .lss (.t 20) (.c (.int .i64 0)), none⟩,
   ⟨some (.t 22), .mv (.t 21), none⟩,
   ⟨some (.t 23), .mv (.v 1), some (.t 22, false)⟩,
   ⟨some (.t 24), .build [.int .i64 0, .str [], .nilsl] [(2, 1, .t 23)], some (.t 22, false)⟩,
   ⟨some (.t 25), .call 9 [.t 24], some (.t 22, false)⟩,
   ⟨some (.t 26), .un .not (.t 25), some (.t 22, false)⟩,
   ⟨some (.v 27), .pick (.t 22) (.c (.bool true)) (.t 26), none⟩])
   (.cond (.v 27) (.seq (.rg [⟨some (.v 4), .mv (.c (.bool true)), none⟩])
   (.ret))
   (.skip)))
   (.seq (.rg [⟨some (.t 29), .load true 5 (.v 2), none⟩,
   ⟨some (.t 30), .call 16 [.t 29], none⟩,
   ⟨some (.t 28), .mv (.t 30), none⟩,
   ⟨some (.t 31), .ext 0 (.t 28), none⟩,
   ⟨some (.t 32), .ext 1 (.t 28), none⟩,
   ⟨some (.v 5), .mv (.t 31), none⟩,
   ⟨some (.v 6), .mv (.t 32), none⟩])
   (.seq (.rg [⟨some (.t 34), .load true 5 (.v 2), none⟩,
   ⟨some (.t 35), .call 18 [.t 34], none⟩,
   ⟨some (.t 36), .call 17 [.t 35], none⟩,
   ⟨some (.t 33), .mv (.t 36), none⟩,
   ⟨some (.t 37), .ext 0 (.t 33), none⟩,
   ⟨some (.t 38), .ext 1 (.t 33), none⟩,
   ⟨some (.v 7), .mv (.t 37), none⟩,
   ⟨some (.v 8), .mv (.t 38), none⟩])
   (.seq (.rg [⟨some (.t 40), .mv (.v 1), none⟩,
   ⟨some (.t 41), .call 19 [.t 40], none⟩,
   ⟨some (.t 39), .mv (.t 41), none⟩,
   ⟨some (.t 42), .ext 0 (.t 39), none⟩,
   ⟨some (.t 43), .ext 1 (.t 39), none⟩,
   ⟨some (.v 9), .alloc [.int .i64 0, .int .i64 0, .bool false, .nilsl, .nilsl], none⟩,
   ⟨none, .store 5 (.v 9) (.t 42), none⟩,
   ⟨some (.v 10), .mv (.t 43), none⟩])
   (.seq (.rg [⟨some (.t 45), .mv (.v 1), none⟩,
   ⟨some (.t 46), .call 21 [.t 45], none⟩,
   ⟨some (.t 47), .call 20 [.t 46], none⟩,
   ⟨some (.t 44), .mv (.t 47), none⟩,
   ⟨some (.t 48), .ext 0 (.t 44), none⟩,
   ⟨some (.t 49), .ext 1 (.t 44), none⟩,
   ⟨some (.v 11), .alloc [.int .i64 0, .int .i64 0, .bool false, .nilsl, .nilsl], none⟩,
   ⟨none, .store 5 (.v 11) (.t 48), none⟩,
   ⟨some (.v 12), .mv (.t 49), none⟩])
   (.seq (.seq (.rg [⟨some (.t 50), .mv (.v 6), none⟩,
   ⟨some (.t 51), .mv (.v 8), none⟩,
   ⟨some (.t 52), .bin .neq (.t 50) (.t 51), none⟩,
   ⟨some (.t 53), .mv (.t 52), none⟩,
   ⟨some (.t 54), .mv (.v 5), some (.t 53, false)⟩,
   ⟨some (.t 55), .call 21 [.t 54], some (.t 53, false)⟩,
   ⟨some (.t 56), .mv (.v 7), some (.t 53, false)⟩,
   ⟨some (.t 57), .call 22 [.t 55, .t 56], some (.t 53, false)⟩,
   ⟨some (.t 58), .un .not (.t 57), some (.t 53, false)⟩,
   ⟨some (.t 59), .pick (.t 53) (.c (.bool true)) (.t 58), none⟩,
   ⟨some (.t 60), .mv (.t 59), none⟩,
   ⟨some (.t 61), .mv (.v 10), some (.t 60, false)⟩,
   ⟨some (.t 62), .mv (.v 12), some (.t 60, false)⟩,
   ⟨some (.t 63), .bin .neq (.t 61) (.t 62), some (.t 60, false)⟩,
   ⟨some (.t 64), .pick (.t 60) (.c (.bool true)) (.t 63), none⟩,
   ⟨some (.t 65), .mv (.t 64), none⟩,
   ⟨some (.t 66), .load true 5 (.v 9), some (.t 65, false)⟩,
   ⟨some (.t 67), .load true 5 (.v 11), some (.t 65, false)⟩,
   ⟨some (.t 68), .call 23 [.t 66, .t 67], some (.t 65, false)⟩,
   ⟨some (.t 69), .un .not (.t 68), some (.t 65, false)⟩,
   ⟨some (.v 70), .pick (.t 65) (.c (.bool true)) (.t 69), none⟩])
   (.cond (.v 70) (.seq (.rg [⟨some (.v 4), .mv (.c (.bool false)), none⟩])
   (.ret))
   (.skip)))
   (.seq (.seq (.rg [⟨some (.t 71), .mv (.v 6), none⟩,
   ⟨some (.v 72), .bin .eql (.t 71) (.c (.int .i64 0)), none⟩])
   (.cond (.v 72) (.seq (.rg [⟨some (.t 74), .mv (.v 5), none⟩,
   ⟨some (.t 75), .call 19 [.t 74], none⟩,
   ⟨some (.t 73), .mv (.t 75), none⟩,
   ⟨some (.t 76), .ext 0 (.t 73), none⟩,
   ⟨some (.t 77), .ext 1 (.t 73), none⟩,
   ⟨some (.v 13), .alloc [.int .i64 0, .int .i64 0, .bool false, .nilsl, .nilsl], none⟩,
   ⟨none, .store 5 (.v 13) (.t 76), none⟩,
   ⟨some (.v 14), .mv (.t 77), none⟩])
   (.seq (.rgd [⟨some (.t 78), .mv (.v 14), none⟩,
   ⟨some (.t 79), .bin .neq (.t 78) (.c (.int .i64 0)), none⟩,
   ⟨some (.t 80), .mv (.t 79), none⟩,
   ⟨some (.t 81), .load true 5 (.v 13), some (.t 80, false)⟩,
   ⟨some (.t 82), .load true 5 (.v 2), some (.t 80, false)⟩,
   ⟨some (.t 83), .call 18 [.t 82], some (.t 80, false)⟩,
   ⟨some (.t 84), .call 23 [.t 81, .t 83], some (.t 80, false)⟩,
   ⟨some (.t 85), .un .not (.t 84), some (.t 80, false)⟩,
   ⟨some (.v 86), .pick (.t 80) (.c (.bool true)) (.t 85), none⟩]
   [[], [0], [0, 1], [0, 1, 2], [0, 1, 2], [0, 1, 2, 4], [0, 1, 2, 3, 4, 5], [0, 1, 2, 3, 4, 5, 6], [0, 1, 2, 3, 4, 5, 6, 7]])
   (.cond (.v 86) (.seq (.rg [⟨some (.v 4), .mv (.c (.bool false)), none⟩])
   (.ret))
   (.skip))))
   (.skip)))
   (.seq (.rg [⟨some (.t 88), .load true 5 (.v 9), none⟩,
   ⟨some (.t 89), .call 16 [.t 88], none⟩,
   ⟨some (.t 87), .mv (.t 89), none⟩,
   ⟨some (.t 90), .ext 0 (.t 87), none⟩,
   ⟨some (.t 91), .ext 1 (.t 87), none⟩,
   ⟨some (.v 15), .mv (.t 90), none⟩,
   ⟨some (.v 16), .mv (.t 91), none⟩])
   (.seq (.rg [⟨some (.t 92), .mv (.v 10), none⟩,
   ⟨some (.t 93), .bin .neq (.t 92) (.c (.int .i64 0)), none⟩,
   ⟨some (.t 94), .mv (.t 93), none⟩,
   ⟨some (.t 95), .mv (.v 16), some (.t 94, false)⟩,
   ⟨some (.t 96), .bin .eql (.t 95) (.c (.int .i64 0)), some (.t 94, false)⟩,
   ⟨some (.t 97), .mv (.t 96), some (.t 94, false)⟩,
   ⟨some (.t 98), .mv (.v 15), some (.t 97, true)⟩,
   ⟨some (.t 99), .mv (.v 1), some (.t 97, true)⟩,
   ⟨some (.t 100), .call 24 [.t 98, .t 99], some (.t 97, true)⟩,
   ⟨some (.t 101), .pick (.t 97) (.t 100) (.c (.bool false)), some (.t 94, false)⟩,
   ⟨some (.t 102), .pick (.t 94) (.c (.bool true)) (.t 101), none⟩,
   ⟨some (.v 4), .mv (.t 102), none⟩])
   (.ret)))))))))))⟩
theorem m6o : okFn Tryz.prog 6 [17, 19, 20, 21, 22, 23, 24, 25, 26, 28, 29, 30, 31, 32, 33, 34, 35, 36, 37, 38, 39, 40, 41, 42, 43, 44, 45, 46, 47, 48, 49, 50, 51, 52, 53, 54, 55, 56, 57, 58, 59, 60, 61, 62, 63, 64, 65, 66, 67, 68, 69, 71, 73, 74, 75, 76, 77, 78, 79, 80, 81, 82, 83, 84, 85, 87, 88, 89, 90, 91, 92, 93, 94, 95, 96, 97, 98, 99, 100, 101, 102] [] [[[], [0], [0, 1], [0, 1, 2], [0, 1, 2], [0, 1, 2, 4], [0, 1, 2, 3, 4, 5], [0, 1, 2, 3, 4, 5, 6], [0, 1, 2, 3, 4, 5, 6, 7]]] m6.nargs m6.params m6.results = some m6.body := by kernel_rfl

def m7 : MFunc := ⟨2, [.other, .other], [(4, none, .other)],
 .seq (.rg [⟨some (.v 4), .mv (.c (.bool false)), none⟩])
  (.seq (.seq (.rg [⟨some (.t 9), .call 8 [], none⟩,
   ⟨some (.v 10), .un .not (.t 9), none⟩])
   (.cond (.v 10) (.seq (.rg [⟨some (.v 4), .mv (.c (.bool false)), none⟩])
   (.ret))
   (.skip)))
   (.seq (.seq (.rg [⟨some (.t 11), .mv (.v 0), none⟩,
   ⟨some (.t 12), .bin .lss (.t 11) (.c (.int .i64 946684800)), none⟩,
   ⟨some (.t 13), .mv (.t 12), none⟩,
   ⟨some (.t 14), .mv (.v 1), some (.t 13, false)⟩,
   ⟨some (.t 15), .bin .lss (.t 14) (.c (.int .i64 1)), some (.t 13, false)⟩,
   ⟨some (.t 16), .pick (.t 13) (.c (.bool true)) (.t 15), none⟩,
   ⟨some (.t 17), .mv (.t 16), none⟩,
   ⟨some (.t 18), .mv (.v 1), some (.t 17, false)⟩,
   ⟨some (.t 19), .bin .gtr (.t 18) (.c (.int .i64 1073741824)), some (.t 17, false)⟩,
   ⟨some (.t 20), .pick (.t 17) (.c (.bool true)) (.t 19), none⟩,
   ⟨some (.t 21), .mv (.t 20), none⟩,
   ⟨some (.t 22), .mv (.v 0), some (.t 21, false)⟩,
   ⟨some (.t 23), .mv (.v 1), some (.t 21, false)⟩,
   ⟨some (.t 24), .bin .sub (.c (.int .i64 2524607999)) (.t 23), some (.t 21, false)⟩,
   ⟨some (.t 25), .bin .gtr (.t 22) (.t 24), some (.t 21, false)⟩,
   ⟨some (.v 26), .pick (.t 21) (.c (.bool true)) (.t 25), none⟩])
   (.cond (.v 26) (.seq (.rg [⟨some (.v 4), .mv (.c (.bool true)), none⟩])
   (.ret))
   (.skip)))
   (.seq (.rg [⟨some (.t 28), .mv (.v 0), none⟩,
   ⟨some (.t 29), .call 25 [.t 28], none⟩,
   ⟨some (.t 27), .mv (.t 29), none⟩,
   ⟨some (.t 30), .ext 0 (.t 27), none⟩,
   ⟨some (.t 31), .ext 1 (.t 27), none⟩,
   ⟨some (.v 5), .alloc [.int .i64 0, .int .i64 0, .bool false, .nilsl, .nilsl], none⟩,
   ⟨none, .store 5 (.v 5) (.t 30), none⟩,
   ⟨some (.t 6), .mv (.t 31), none⟩])
   (.seq (.rg [⟨some (.t 33), .mv (.v 0), none⟩,
   ⟨some (.t 34), .mv (.v 1), none⟩,
   ⟨some (.t 35), .bin .add (.t 33) (.t 34), none⟩,
   ⟨some (.t 36), .call 25 [.t 35], none⟩,
   ⟨some (.t 32), .mv (.t 36), none⟩,
   ⟨some (.t 37), .ext 0 (.t 32), none⟩,
   ⟨some (.t 38), .ext 1 (.t 32), none⟩,
   ⟨some (.v 7), .alloc [.int .i64 0, .int .i64 0, .bool false, .nilsl, .nilsl], none⟩,
   ⟨none, .store 5 (.v 7) (.t 37), none⟩,
   ⟨some (.t 8), .mv (.t 38), none⟩])
   (.seq (.rg [⟨some (.t 39), .fad 1 (.v 5), none⟩,
   ⟨some (.t 40), .load false 1 (.t 39), none⟩,
   ⟨some (.t 41), .bin .eql (.t 40) (.c (.int .i64 23)), none⟩,
   ⟨some (.t 42), .mv (.t 41), none⟩,
   ⟨some (.t 43), .fad 1 (.v 7), some (.t 42, true)⟩,
   ⟨some (.t 44), .load false 1 (.t 43), some (.t 42, true)⟩,
   ⟨some (.t 45), .bin .eql (.t 44) (.c (.int .i64 23)), some (.t 42, true)⟩,
   ⟨some (.t 46), .pick (.t 42) (.t 45) (.c (.bool false)), none⟩,
   ⟨some (.t 47), .mv (.t 46), none⟩,
   ⟨some (.t 48), .fad 3 (.v 5), some (.t 47, true)⟩,
   ⟨some (.t 49), .load false 1 (.t 48), some (.t 47, true)⟩,
   ⟨some (.t 50), .b2s (.t 49), some (.t 47, true)⟩,
   ⟨some (.t 51), .fad 3 (.v 7), some (.t 47, true)⟩,
   ⟨some (.t 52), .load false 1 (.t 51), some (.t 47, true)⟩,
   ⟨some (.t 53), .b2s (.t 52), some (.t 47, true)⟩,
   ⟨some (.t 54), .bin .lss (.t 50) (.t 53), some (.t 47, true)⟩,
   ⟨some (.t 55), .pick (.t 47) (.t 54) (.c (.bool false)), none⟩,
   ⟨some (.v 4), .mv (.t 55), none⟩])
   (.ret))))))⟩
theorem m7o : okFn Tryz.prog 7 [6, 8, 9, 11, 12, 13, 14, 15, 16, 17, 18, 19, 20, 21, 22, 23, 24, 25, 27, 28, 29, 30, 31, 32, 33, 34, 35, 36, 37, 38, 39, 40, 41, 42, 43, 44, 45, 46, 47, 48, 49, 50, 51, 52, 53, 54, 55] [] [] m7.nargs m7.params m7.results = some m7.body := by kernel_rfl

def m8 : MFunc := ⟨0, [], [(0, none, .other)],
 .seq (.rg [⟨some (.v 0), .mv (.c (.bool false)), none⟩])
  (.seq (.rg [⟨some (.t 6), .bslB 3 [(0, .c (.int .u8 42)), (1, .c (.int .u8 134)), (2, .c (.int .u8 72))], none⟩,
   ⟨some (.t 7), .build [.int .i64 0, .int .i64 0, .bool false, .nilsl, .nilsl] [(1, 1, .c (.int .i64 6)), (3, 1, .t 6)], none⟩,
   ⟨some (.t 8), .call 26 [.t 7], none⟩,
   ⟨some (.t 5), .mv (.t 8), none⟩,
   ⟨some (.t 9), .ext 0 (.t 5), none⟩,
   ⟨some (.t 10), .ext 1 (.t 5), none⟩,
   ⟨some (.v 1), .mv (.t 9), none⟩,
   ⟨some (.v 2), .mv (.t 10), none⟩])
   (.seq (.rg [⟨some (.t 12), .bslB 13 [(0, .c (.int .u8 52)), (1, .c (.int .u8 57)), (2, .c (.int .u8 49)), (3, .c (.int .u8 50)), (4, .c (.int .u8 51)), (5, .c (.int .u8 49)), (6, .c (.int .u8 50)), (7, .c (.int .u8 51)), (8, .c (.int .u8 53)), (9, .c (.int .u8 57)), (10, .c (.int .u8 53)), (11, .c (.int .u8 57)), (12, .c (.int .u8 90))], none⟩,
   ⟨some (.t 13), .mark (.t 12), none⟩,
   ⟨some (.t 14), .build [.int .i64 0, .int .i64 0, .bool false, .nilsl, .nilsl] [(1, 1, .c (.int .i64 23)), (3, 1, .t 13)], none⟩,
   ⟨some (.t 15), .call 27 [.t 14], none⟩,
   ⟨some (.t 11), .mv (.t 15), none⟩,
   ⟨some (.t 16), .ext 0 (.t 11), none⟩,
   ⟨some (.t 17), .ext 1 (.t 11), none⟩,
   ⟨some (.v 3), .mv (.t 16), none⟩,
   ⟨some (.v 4), .mv (.t 17), none⟩])
   (.seq (.rg [⟨some (.t 18), .mv (.v 2), none⟩,
   ⟨some (.t 19), .mv (.t 18), none⟩,
   ⟨some (.t 20), .mv (.v 1), some (.t 19, true)⟩,
   ⟨some (.t 21), .bin .eql (.t 20) (.c (.str [49, 46, 50, 46, 56, 52, 48])), some (.t 19, true)⟩,
   ⟨some (.t 22), .pick (.t 19) (.t 21) (.c (.bool false)), none⟩,
   ⟨some (.t 23), .mv (.t 22), none⟩,
   ⟨some (.t 24), .mv (.v 4), some (.t 23, true)⟩,
   ⟨some (.t 25), .bin .eql (.t 24) (.c (.int .i64 0)), some (.t 23, true)⟩,
   ⟨some (.t 26), .pick (.t 23) (.t 25) (.c (.bool false)), none⟩,
   ⟨some (.t 27), .mv (.t 26), none⟩,
   ⟨some (.t 28), .mv (.v 3), some (.t 27, true)⟩,
   ⟨some (.t 29), .bin .eql (.t 28) (.c (.int .i64 2524607999)), some (.t 27, true)⟩,
   ⟨some (.t 30), .pick (.t 27) (.t 29) (.c (.bool false)), none⟩,
   ⟨some (.t 31), .mv (.t 30), none⟩,
   ⟨some (.t 32), .build [.int .i64 0, .str [], .nilsl] [(0, 1, .c (.int .i64 2)), (1, 1, .c (.str [97, 46, 66, 46, 101, 120, 97, 109, 112, 108, 101]))], some (.t 31, true)⟩,
   ⟨some (.t 33), .build [.int .i64 0, .str [], .nilsl] [(0, 1, .c (.int .i64 2)), (1, 1, .c (.str [98, 46, 101, 120, 97, 109, 112, 108, 101]))], some (.t 31, true)⟩,
   ⟨some (.t 34), .call 10 [.t 32, .t 33], some (.t 31, true)⟩,
   ⟨some (.t 35), .pick (.t 31) (.t 34) (.c (.bool false)), none⟩,
   ⟨some (.v 0), .mv (.t 35), none⟩])
   (.ret))))⟩
theorem m8o : okFn Tryz.prog 8 [5, 6, 7, 8, 9, 10, 11, 12, 13, 14, 15, 16, 17, 18, 19, 20, 21, 22, 23, 24, 25, 26, 27, 28, 29, 30, 31, 32, 33, 34, 35] [] [] m8.nargs m8.params m8.results = some m8.body := by kernel_rfl

def m9k0 : List (Nat × KMode) := [(3, .plain), (14, .plain), (15, .plain), (16, .plain)]
def m9b0 : MCode :=
 .seq (.rg [⟨some (.v 17), .bin .lss (.v 16) (.v 15), none⟩])
  (.seq (.cond (.v 17) (.skip)
   (.exit 0))
   (.seq (.block 1 (.seq (.rg [⟨some (.t 18), .iad 2 (.v 14) (.v 16), none⟩,
   ⟨some (.t 19), .load true 2 (.t 18), none⟩,
   ⟨some (.v 5), .alloc [.str [], .str []], none⟩,
   ⟨none, .store 2 (.v 5) (.t 19), none⟩])
   (.seq (.rg [⟨some (.t 20), .mv (.v 3), none⟩,
   ⟨some (.t 21), .fad 0 (.v 5), none⟩,
   ⟨some (.t 22), .load false 1 (.t 21), none⟩,
   ⟨some (.t 23), .len true (.t 22), none⟩,
   ⟨some (.t 24), .fad 1 (.v 5), none⟩,
   ⟨some (.t 25), .load false 1 (.t 24), none⟩,
   ⟨some (.t 26), .len true (.t 25), none⟩,
   ⟨some (.t 27), .bin .add (.t 23) (.t 26), none⟩,
   ⟨some (.t 28), .bin .add (.t 20) (.t 27), none⟩,
   ⟨some (.v 3), .mv (.t 28), none⟩])
   (.seq (.rg [⟨some (.t 29), .mv (.v 3), none⟩,
   ⟨some (.v 30), .bin .gtr (.t 29) (.c (.int .i64 3000)), none⟩])
   (.cond (.v 30) (.seq (.rg [⟨some (.v 2), .mv (.c (.bool false)), none⟩])
   (.ret))
   (.skip))))))
   (.rg [⟨some (.t 31), .bin .add (.v 16) (.c (.int .i64 1)), none⟩,
   ⟨some (.v 16), .mv (.t 31), none⟩])))
def m9 : MFunc := ⟨1, [.other], [(2, none, .other)],
 .seq (.rg [⟨some (.v 1), .box (.v 0), none⟩,
   ⟨some (.v 2), .mv (.c (.bool false)), none⟩])
  (.seq (.rg [⟨some (.t 6), .fad 1 (.v 1), none⟩,
   ⟨some (.t 7), .load false 1 (.t 6), none⟩,
   ⟨some (.t 8), .len true (.t 7), none⟩,
   ⟨some (.t 9), .fad 2 (.v 1), none⟩,
   ⟨some (.t 10), .load false 1 (.t 9), none⟩,
   ⟨some (.t 11), .len false (.t 10), none⟩,
   ⟨some (.t 12), .bin .add (.t 8) (.t 11), none⟩,
   ⟨some (.v 3), .mv (.t 12), none⟩])
   (.seq (.seq (.rg [⟨some (.t 13), .fad 2 (.v 1), none⟩,
   ⟨some (.v 14), .load false 1 (.t 13), none⟩,
   ⟨some (.v 15), .len false (.v 14), none⟩,
   ⟨some (.v 16), .mv (.c (.int .i64 0)), none⟩])
   (.block 0 (.loop m9k0 m9b0)))
   (.seq (.rg [⟨some (.t 32), .mv (.v 3), none⟩,
   ⟨some (.t 33), .bin .leq (.t 32) (.c (.int .i64 3000)), none⟩,
   ⟨some (.v 2), .mv (.t 33), none⟩])
   (.ret))))⟩
theorem m9o : okFn Tryz.prog 9 [6, 7, 8, 9, 10, 11, 12, 13, 18, 19, 20, 21, 22, 23, 24, 25, 26, 27, 28, 29, 31, 32, 33] [m9k0] [] m9.nargs m9.params m9.results = some m9.body := by kernel_rfl

def m10k0 : List (Nat × KMode) := [(21, .plain), (22, .plain), (23, .plain), (156, .plain), (157, .plain)]
def m10b0 : MCode :=
 .seq (.rg [⟨some (.v 158), .bin .lss (.v 157) (.v 156), none⟩])
  (.seq (.cond (.v 158) (.skip)
   (.exit 1))
   (.seq (.block 2 (.seq (.rg [⟨some (.t 159), .mv (.v 157), none⟩,
   ⟨some (.v 24), .mv (.t 159), none⟩])
   (.seq (.rgd [⟨some (.t 160), .mv (.v 21), none⟩,
   ⟨some (.t 161), .mv (.v 24), none⟩,
   ⟨some (.t 162), .iad 1 (.t 160) (.t 161), none⟩,
   ⟨some (.t 163), .load false 1 (.t 162), none⟩,
   ⟨some (.t 164), .mv (.v 23), none⟩,
   ⟨some (.t 165), .mv (.v 24), none⟩,
   ⟨some (.t 166), .iad 1 (.t 164) (.t 165), none⟩,
   ⟨some (.t 167), .load false 1 (.t 166), none⟩,
   ⟨some (.t 168), .bin .and (.t 163) (.t 167), none⟩,
   ⟨some (.t 169), .iad 1 (.t 160) (.t 161), none⟩,
   ⟨none, .store 1 (.t 169) (.t 168), none⟩]
   [[], [], [0, 1], [0, 1, 2], [], [], [4, 5], [4, 5, 6], [0, 1, 2, 3, 4, 5, 6, 7], [0, 1, 2, 3, 4, 5, 6, 7, 8], [0, 1, 2, 3, 4, 5, 6, 7, 8, 9]])
   (.rgd [⟨some (.t 170), .mv (.v 22), none⟩,
   ⟨some (.t 171), .mv (.v 24), none⟩,
   ⟨some (.t 172), .iad 1 (.t 170) (.t 171), none⟩,
   ⟨some (.t 173), .load false 1 (.t 172), none⟩,
   ⟨some (.t 174), .mv (.v 23), none⟩,
   ⟨some (.t 175), .mv (.v 24), none⟩,
   ⟨some (.t 176), .iad 1 (.t 174) (.t 175), none⟩,
   ⟨some (.t 177), .load false 1 (.t 176), none⟩,
   ⟨some (.t 178), .bin .and (.t 173) (.t 177), none⟩,
   ⟨some (.t 179), .iad 1 (.t 170) (.t 171), none⟩,
   ⟨none, .store 1 (.t 179) (.t 178), none⟩]
   [[], [], [0, 1], [0, 1, 2], [], [], [4, 5], [4, 5, 6], [0, 1, 2, 3, 4, 5, 6, 7], [0, 1, 2, 3, 4, 5, 6, 7, 8], [0, 1, 2, 3, 4, 5, 6, 7, 8, 9]]))))
   (.rg [⟨some (.t 180), .bin .add (.v 157) (.c (.int .i64 1)), none⟩,
   ⟨some (.v 157), .mv (.t 180), none⟩])))
def m10 : MFunc := ⟨2, [.other, .other], [(4, none, .other)],
 .seq (.rg [⟨some (.v 2), .box (.v 0), none⟩,
   ⟨some (.v 3), .box (.v 1), none⟩,
   ⟨some (.v 4), .mv (.c (.bool false)), none⟩])
  (.seq (.rg [⟨some (.t 26), .load true 3 (.v 2), none⟩,
   ⟨some (.t 27), .call 14 [.t 26, .c (.bool false)], none⟩,
   ⟨some (.t 25), .mv (.t 27), none⟩,
   ⟨some (.t 28), .ext 0 (.t 25), none⟩,
   ⟨some (.t 29), .ext 1 (.t 25), none⟩,
   ⟨some (.t 5), .alloc [.int .i64 0, .int .i64 0, .bool false, .nilsl, .nilsl], none⟩,
   ⟨none, .store 5 (.t 5) (.t 28), none⟩,
   ⟨some (.v 6), .mv (.t 29), none⟩])
   (.seq (.rg [⟨some (.t 31), .load true 3 (.v 3), none⟩,
   ⟨some (.t 32), .call 14 [.t 31, .c (.bool true)], none⟩,
   ⟨some (.t 30), .mv (.t 32), none⟩,
   ⟨some (.t 33), .ext 0 (.t 30), none⟩,
   ⟨some (.t 34), .ext 1 (.t 30), none⟩,
   ⟨some (.t 7), .alloc [.int .i64 0, .int .i64 0, .bool false, .nilsl, .nilsl], none⟩,
   ⟨none, .store 5 (.t 7) (.t 33), none⟩,
   ⟨some (.v 8), .mv (.t 34), none⟩])
   (.seq (.seq (.rg [⟨some (.t 35), .mv (.v 6), none⟩,
   ⟨some (.t 36), .bin .neq (.t 35) (.c (.int .i64 0)), none⟩,
   ⟨some (.t 37), .mv (.t 36), none⟩,
   ⟨some (.t 38), .mv (.v 8), some (.t 37, false)⟩,
   ⟨some (.t 39), .bin .neq (.t 38) (.c (.int .i64 0)), some (.t 37, false)⟩,
   ⟨some (.t 40), .pick (.t 37) (.c (.bool true)) (.t 39), none⟩,
   ⟨some (.t 41), .mv (.t 40), none⟩,
   ⟨some (.t 42), .fad 0 (.v 2), some (.t 41, false)⟩,
   ⟨some (.t 43), .load false 1 (.t 42), some (.t 41, false)⟩,
   ⟨some (.t 44), .fad 0 (.v 3), some (.t 41, false)⟩,
   ⟨some (.t 45), .load false 1 (.t 44), some (.t 41, false)⟩,
   ⟨some (.t 46), .bin .neq (.t 43) (.t 45), some (.t 41, false)⟩,
   ⟨some (.v 47), .pick (.t 41) (.c (.bool true)) (.t 46), none⟩])
   (.cond (.v 47) (.seq (.rg [⟨some (.v 4), .mv (.c (.bool false)), none⟩])
   (.ret))
   (.skip)))
   (.seq (.rgd [⟨some (.t 48), .fad 1 (.v 2), none⟩,
   ⟨some (.t 49), .load false 1 (.t 48), none⟩,
   ⟨some (.t 50), .fad 1 (.v 3), none⟩,
   ⟨some (.t 51), .load false 1 (.t 50), none⟩,
   ⟨some (.v 9), .mv (.t 49), none⟩,
   ⟨some (.v 10), .mv (.t 51), none⟩]
   [[], [0], [], [2], [0, 1], [0, 1, 2, 3, 4]])
   (.seq (.seq (.rg [⟨some (.t 52), .fad 0 (.v 2), none⟩,
   ⟨some (.v 53), .load false 1 (.t 52), none⟩])
   (.block 0 (.seq (.rg [⟨some (.t 55), .bin .eql (.v 53) (.c (.int .i64 2)), none⟩,
   ⟨some (.v 54), .mv (.t 55), none⟩])
   (.cond (.v 54) (.seq (.rg [⟨some (.t 56), .mv (.v 9), none⟩,
   ⟨some (.t 57), .call 28 [.t 56], none⟩,
   ⟨some (.t 58), .mv (.t 57), none⟩,
   ⟨some (.t 59), .mv (.v 10), some (.t 58, true)⟩,
   ⟨some (.t 60), .bin .eql (.t 59) (.c (.str [])), some (.t 58, true)⟩,
   ⟨some (.t 61), .mv (.t 60), some (.t 58, true)⟩,
   ⟨some (.t 62), .mv (.v 9), some (.t 61, false)⟩,
   ⟨some (.t 63), .call 29 [.t 62], some (.t 61, false)⟩,
   ⟨some (.t 64), .mv (.v 10), some (.t 61, false)⟩,
   ⟨some (.t 65), .call 29 [.t 64], some (.t 61, false)⟩,
   ⟨some (.t 66), .bin .eql (.t 63) (.t 65), some (.t 61, false)⟩,
   ⟨some (.t 67), .pick (.t 61) (.c (.bool true)) (.t 66), some (.t 58, true)⟩,
   ⟨some (.t 68), .mv (.t 67), some (.t 58, true)⟩,
   ⟨some (.t 69), .mv (.v 9), some (.t 68, false)⟩,
   ⟨some (.t 70), .mv (.v 10), some (.t 68, false)⟩,
   ⟨some (.t 71), .bin .add (.c (.str [46])) (.t 70), some (.t 68, false)⟩,
   ⟨some (.t 72), .call 30 [.t 69, .t 71], some (.t 68, false)⟩,
   ⟨some (.t 73), .pick (.t 68) (.c (.bool true)) (.t 72), some (.t 58, true)⟩,
   ⟨some (.t 74), .pick (.t 58) (.t 73) (.c (.bool false)), none⟩,
   ⟨some (.v 4), .mv (.t 74), none⟩])
   (.ret))
   (.seq (.rg [⟨some (.t 76), .bin .eql (.v 53) (.c (.int .i64 1)), none⟩,
   ⟨some (.v 75), .mv (.t 76), none⟩])
   (.cond (.v 75) (.seq (.rg [⟨some (.t 78), .mv (.v 9), none⟩,
   ⟨some (.t 79), .call 31 [.t 78, .c (.str [64])], none⟩,
   ⟨some (.t 77), .mv (.t 79), none⟩,
   ⟨some (.t 80), .ext 0 (.t 77), none⟩,
   ⟨some (.t 81), .ext 1 (.t 77), none⟩,
   ⟨some (.t 82), .ext 2 (.t 77), none⟩,
   ⟨some (.v 11), .mv (.t 80), none⟩,
   ⟨some (.v 12), .mv (.t 81), none⟩,
   ⟨some (.v 13), .mv (.t 82), none⟩])
   (.seq (.seq (.rg [⟨some (.t 83), .mv (.v 13), none⟩,
   ⟨some (.t 84), .un .not (.t 83), none⟩,
   ⟨some (.t 85), .mv (.t 84), none⟩,
   ⟨some (.t 86), .mv (.v 11), some (.t 85, false)⟩,
   ⟨some (.t 87), .bin .eql (.t 86) (.c (.str [])), some (.t 85, false)⟩,
   ⟨some (.t 88), .pick (.t 85) (.c (.bool true)) (.t 87), none⟩,
   ⟨some (.t 89), .mv (.t 88), none⟩,
   ⟨some (.t 90), .mv (.v 12), some (.t 89, false)⟩,
   ⟨some (.t 91), .call 28 [.t 90], some (.t 89, false)⟩,
   ⟨some (.t 92), .un .not (.t 91), some (.t 89, false)⟩,
   ⟨some (.v 93), .pick (.t 89) (.c (.bool true)) (.t 92), none⟩])
   (.cond (.v 93) (.seq (.rg [⟨some (.v 4), .mv (.c (.bool false)), none⟩])
   (.ret))
   (.skip)))
   (.seq (.seq (.rg [⟨some (.t 95), .mv (.v 10), none⟩,
   ⟨some (.t 96), .call 31 [.t 95, .c (.str [64])], none⟩,
   ⟨some (.t 94), .mv (.t 96), none⟩,
   ⟨some (.t 97), .ext 0 (.t 94), none⟩,
   ⟨some (.t 98), .ext 1 (.t 94), none⟩,
   ⟨some (.t 99), .ext 2 (.t 94), none⟩,
   ⟨some (.v 14), .mv (.t 97), none⟩,
   ⟨some (.v 15), .mv (.t 98), none⟩,
   ⟨some (.v 16), .mv (.t 99), none⟩])
   (.seq (.rg [⟨some (.v 100), .mv (.v 16), none⟩])
   (.cond (.v 100) (.seq (.rg [⟨some (.t 101), .mv (.v 14), none⟩,
   ⟨some (.t 102), .mv (.v 11), none⟩,
   ⟨some (.t 103), .bin .eql (.t 101) (.t 102), none⟩,
   ⟨some (.t 104), .mv (.t 103), none⟩,
   ⟨some (.t 105), .mv (.v 15), some (.t 104, true)⟩,
   ⟨some (.t 106), .call 29 [.t 105], some (.t 104, true)⟩,
   ⟨some (.t 107), .mv (.v 12), some (.t 104, true)⟩,
   ⟨some (.t 108), .call 29 [.t 107], some (.t 104, true)⟩,
   ⟨some (.t 109), .bin .eql (.t 106) (.t 108), some (.t 104, true)⟩,
   ⟨some (.t 110), .pick (.t 104) (.t 109) (.c (.bool false)), none⟩,
   ⟨some (.v 4), .mv (.t 110), none⟩])
   (.ret))
   (.skip))))
   (.seq (.rg [⟨some (.t 111), .mv (.v 12), none⟩,
   ⟨some (.t 112), .mv (.v 10), none⟩,
   ⟨some (.t 113), .call 32 [.t 111, .t 112], none⟩,
   ⟨some (.v 4), .mv (.t 113), none⟩])
   (.ret)))))
   (.seq (.rg [⟨some (.t 115), .bin .eql (.v 53) (.c (.int .i64 6)), none⟩,
   ⟨some (.v 114), .mv (.t 115), none⟩])
   (.cond (.v 114) (.seq (.rg [⟨some (.t 117), .mv (.v 9), none⟩,
   ⟨some (.t 118), .call 31 [.t 117, .c (.str [58, 47, 47])], none⟩,
   ⟨some (.t 116), .mv (.t 118), none⟩,
   ⟨some (.t 119), .ext 0 (.t 116), none⟩,
   ⟨some (.t 120), .ext 1 (.t 116), none⟩,
   ⟨some (.t 121), .ext 2 (.t 116), none⟩,
   ⟨some (.t 17), .mv (.t 119), none⟩,
   ⟨some (.v 18), .mv (.t 120), none⟩,
   ⟨some (.v 19), .mv (.t 121), none⟩])
   (.seq (.seq (.rg [⟨some (.t 122), .mv (.v 18), none⟩,
   ⟨some (.t 123), .call 33 [.t 122, .c (.str [47, 58, 63, 35])], none⟩,
   ⟨some (.v 20), .mv (.t 123), none⟩])
   (.seq (.rg [⟨some (.t 124), .mv (.v 20), none⟩,
   ⟨some (.v 125), .bin .geq (.t 124) (.c (.int .i64 0)), none⟩])
   (.cond (.v 125) (.rg [⟨some (.t 126), .mv (.v 18), none⟩,
   ⟨some (.t 127), .mv (.v 20), none⟩,
   ⟨some (.t 128), .slc true 1 (.t 126) none (some (.t 127)), none⟩,
   ⟨some (.v 18), .mv (.t 128), none⟩])
   (.skip))))
   (.seq (.rg [⟨some (.t 129), .mv (.v 19), none⟩,
   ⟨some (.t 130), .mv (.t 129), none⟩,
   ⟨some (.t 131), .mv (.v 18), some (.t 130, true)⟩,
   ⟨some (.t 132), .mv (.v 10), some (.t 130, true)⟩,
   ⟨some (.t 133), .call 32 [.t 131, .t 132], some (.t 130, true)⟩,
   ⟨some (.t 134), .pick (.t 130) (.t 133) (.c (.bool false)), none⟩,
   ⟨some (.v 4), .mv (.t 134), none⟩])
   (.ret))))
   (.seq (.rg [⟨some (.t 136), .bin .eql (.v 53) (.c (.int .i64 7)), none⟩,
   ⟨some (.v 135), .mv (.t 136), none⟩])
   (.cond (.v 135) (.seq (.seq (.rg [⟨some (.t 137), .mv (.v 9), none⟩,
   ⟨some (.t 138), .len true (.t 137), none⟩,
   ⟨some (.t 139), .bin .mul (.c (.int .i64 2)) (.t 138), none⟩,
   ⟨some (.t 140), .mv (.v 10), none⟩,
   ⟨some (.t 141), .len true (.t 140), none⟩,
   ⟨some (.v 142), .bin .neq (.t 139) (.t 141), none⟩])
   (.cond (.v 142) (.seq (.rg [⟨some (.v 4), .mv (.c (.bool false)), none⟩])
   (.ret))
   (.skip)))
   (.seq (.rgd [⟨some (.t 143), .mv (.v 9), none⟩,
   ⟨some (.t 144), .s2b (.t 143), none⟩,
   ⟨some (.t 145), .mv (.v 10), none⟩,
   ⟨some (.t 146), .mv (.v 9), none⟩,
   ⟨some (.t 147), .len true (.t 146), none⟩,
   ⟨some (.t 148), .slc true 1 (.t 145) none (some (.t 147)), none⟩,
   ⟨some (.t 149), .s2b (.t 148), none⟩,
   ⟨some (.t 150), .mv (.v 10), none⟩,
   ⟨some (.t 151), .mv (.v 9), none⟩,
   ⟨some (.t 152), .len true (.t 151), none⟩,
   ⟨some (.t 153), .slc true 1 (.t 150) (some (.t 152)) none, none⟩,
   ⟨some (.t 154), .s2b (.t 153), none⟩,
   ⟨some (.v 21), .mv (.t 144), none⟩,
   ⟨some (.v 22), .mv (.t 149), none⟩,
   ⟨some (.v 23), .mv (.t 154), none⟩]
   [[], [0], [], [], [3], [2, 3, 4], [2, 3, 4, 5], [], [], [8], [7, 8, 9], [7, 8, 9, 10], [0, 1], [0, 1, 2, 3, 4, 5, 6, 12], [0, 1, 2, 3, 4, 5, 6, 7, 8, 9, 10, 11, 12, 13]])
   (.seq (.seq (.rg [⟨some (.t 155), .mv (.v 23), none⟩,
   ⟨some (.v 156), .len false (.t 155), none⟩,
   ⟨some (.v 157), .mv (.c (.int .i64 0)), none⟩])
   (.block 1 (.loop m10k0 m10b0)))
   (.seq (.rg [⟨some (.t 181), .mv (.v 21), none⟩,
   ⟨some (.t 182), .mv (.v 22), none⟩,
   ⟨some (.t 183), .call 34 [.t 181, .t 182], none⟩,
   ⟨some (.v 4), .mv (.t 183), none⟩])
   (.ret)))))
   (.skip)))))))))))
   (.seq (.rgd [⟨some (.t 184), .fad 2 (.v 3), none⟩,
   ⟨some (.t 185), .load false 1 (.t 184), none⟩,
   ⟨some (.t 186), .len false (.t 185), none⟩,
   ⟨some (.t 187), .fad 2 (.v 2), none⟩,
   ⟨some (.t 188), .load false 1 (.t 187), none⟩,
   ⟨some (.t 189), .len false (.t 188), none⟩,
   ⟨some (.t 190), .bin .leq (.t 186) (.t 189), none⟩,
   ⟨some (.t 191), .mv (.t 190), none⟩,
   ⟨some (.t 192), .fad 2 (.v 2), some (.t 191, true)⟩,
   ⟨some (.t 193), .load false 1 (.t 192), some (.t 191, true)⟩,
   ⟨some (.t 194), .fad 2 (.v 3), some (.t 191, true)⟩,
   ⟨some (.t 195), .load false 1 (.t 194), some (.t 191, true)⟩,
   ⟨some (.t 196), .len false (.t 195), some (.t 191, true)⟩,
   ⟨some (.t 197), .slc false 2 (.t 193) none (some (.t 196)), some (.t 191, true)⟩,
   ⟨some (.t 198), .fad 2 (.v 3), some (.t 191, true)⟩,
   ⟨some (.t 199), .load false 1 (.t 198), some (.t 191, true)⟩,
   ⟨some (.t 200), .call 24 [.t 197, .t 199], some (.t 191, true)⟩,
   ⟨some (.t 201), .pick (.t 191) (.t 200) (.c (.bool false)), none⟩,
   ⟨some (.v 4), .mv (.t 201), none⟩]
   [[], [0], [0, 1], [], [3], [3, 4], [0, 1, 2, 3, 4, 5], [0, 1, 2, 3, 4, 5, 6], [0, 1, 2, 3, 4, 5, 6, 7], [0, 1, 2, 3, 4, 5, 6, 7, 8], [0, 1, 2, 3, 4, 5, 6, 7], [0, 1, 2, 3, 4, 5, 6, 7, 10], [0, 1, 2, 3, 4, 5, 6, 7, 10, 11], [0, 1, 2, 3, 4, 5, 6, 7, 8, 9, 10, 11, 12], [0, 1, 2, 3, 4, 5, 6, 7], [0, 1, 2, 3, 4, 5, 6, 7, 14], [0, 1, 2, 3, 4, 5, 6, 7, 8, 9, 10, 11, 12, 13, 14, 15], [0, 1, 2, 3, 4, 5, 6, 7, 8, 9, 10, 11, 12, 13, 14, 15, 16], [0, 1, 2, 3, 4, 5, 6, 7, 8, 9, 10, 11, 12, 13, 14, 15, 16, 17]])
   (.ret)))))))⟩
theorem m10o : okFn Tryz.prog 10 [5, 7, 17, 25, 26, 27, 28, 29, 30, 31, 32, 33, 34, 35, 36, 37, 38, 39, 40, 41, 42, 43, 44, 45, 46, 48, 49, 50, 51, 52, 55, 56, 57, 58, 59, 60, 61, 62, 63, 64, 65, 66, 67, 68, 69, 70, 71, 72, 73, 74, 76, 77, 78, 79, 80, 81, 82, 83, 84, 85, 86, 87, 88, 89, 90, 91, 92, 94, 95, 96, 97, 98, 99, 101, 102, 103, 104, 105, 106, 107, 108, 109, 110, 111, 112, 113, 115, 116, 117, 118, 119, 120, 121, 122, 123, 124, 126, 127, 128, 129, 130, 131, 132, 133, 134, 136, 137, 138, 139, 140, 141, 143, 144, 145, 146, 147, 148, 149, 150, 151, 152, 153, 154, 155, 159, 160, 161, 162, 163, 164, 165, 166, 167, 168, 169, 170, 171, 172, 173, 174, 175, 176, 177, 178, 179, 180, 181, 182, 183, 184, 185, 186, 187, 188, 189, 190, 191, 192, 193, 194, 195, 196, 197, 198, 199, 200, 201] [m10k0] [[[], [0], [], [2], [0, 1], [0, 1, 2, 3, 4]], [[], [0], [], [], [3], [2, 3, 4], [2, 3, 4, 5], [], [], [8], [7, 8, 9], [7, 8, 9, 10], [0, 1], [0, 1, 2, 3, 4, 5, 6, 12], [0, 1, 2, 3, 4, 5, 6, 7, 8, 9, 10, 11, 12, 13]], [[], [], [0, 1], [0, 1, 2], [], [], [4, 5], [4, 5, 6], [0, 1, 2, 3, 4, 5, 6, 7], [0, 1, 2, 3, 4, 5, 6, 7, 8], [0, 1, 2, 3, 4, 5, 6, 7, 8, 9]], [[], [], [0, 1], [0, 1, 2], [], [], [4, 5], [4, 5, 6], [0, 1, 2, 3, 4, 5, 6, 7], [0, 1, 2, 3, 4, 5, 6, 7, 8], [0, 1, 2, 3, 4, 5, 6, 7, 8, 9]], [[], [0], [0, 1], [], [3], [3, 4], [0, 1, 2, 3, 4, 5], [0, 1, 2, 3, 4, 5, 6], [0, 1, 2, 3, 4, 5, 6, 7], [0, 1, 2, 3, 4, 5, 6, 7, 8], [0, 1, 2, 3, 4, 5, 6, 7], [0, 1, 2, 3, 4, 5, 6, 7, 10], [0, 1, 2, 3, 4, 5, 6, 7, 10, 11], [0, 1, 2, 3, 4, 5, 6, 7, 8, 9, 10, 11, 12], [0, 1, 2, 3, 4, 5, 6, 7], [0, 1, 2, 3, 4, 5, 6, 7, 14], [0, 1, 2, 3, 4, 5, 6, 7, 8, 9, 10, 11, 12, 13, 14, 15], [0, 1, 2, 3, 4, 5, 6, 7, 8, 9, 10, 11, 12, 13, 14, 15, 16], [0, 1, 2, 3, 4, 5, 6, 7, 8, 9, 10, 11, 12, 13, 14, 15, 16, 17]]] m10.nargs m10.params m10.results = some m10.body := by kernel_rfl

def m11k0 : List (Nat × KMode) := [(2, .plain), (3, .plain), (11, .plain), (12, .plain)]
def m11b0 : MCode :=
 .seq (.seq (.rg [⟨some (.t 96), .mv (.v 12), none⟩,
   ⟨some (.t 97), .mv (.v 11), none⟩,
   ⟨some (.v 98), .bin .lss (.t 96) (.t 97), none⟩])
   (.cond (.v 98) (.skip)
   (.exit 1)))
  (.seq (.block 2 (.seq (.rgd [⟨some (.t 101), .fad 1 (.v 2), none⟩,
   ⟨some (.t 102), .load false 1 (.t 101), none⟩,
   ⟨some (.t 103), .mv (.v 12), none⟩,
   ⟨some (.t 104), .idxS (.t 102) (.t 103), none⟩,
   ⟨some (.t 105), .fad 1 (.v 3), none⟩,
   ⟨some (.t 106), .load false 1 (.t 105), none⟩,
   ⟨some (.t 107), .mv (.v 12), none⟩,
   ⟨some (.t 108), .idxS (.t 106) (.t 107), none⟩,
   ⟨some (.t 109), .bin .xor (.t 104) (.t 108), none⟩,
   ⟨some (.t 110), .fad 1 (.v 3), none⟩,
   ⟨some (.t 111), .load false 1 (.t 110), none⟩,
   ⟨some (.t 112), .mv (.v 11), none⟩,
   ⟨some (.t 113), .mv (.v 12), none⟩,
   ⟨some (.t 114), .bin .add (.t 112) (.t 113), none⟩,
   ⟨some (.t 115), .idxS (.t 111) (.t 114), none⟩,
   ⟨some (.t 116), .bin .and (.t 109) (.t 115), none⟩,
   ⟨some (.v 117), .bin .neq (.t 116) (.c (.int .u8 0)), none⟩]
   [[], [0], [], [0, 1, 2], [], [4], [], [4, 5, 6], [0, 1, 2, 3, 4, 5, 6, 7], [], [9], [], [], [11, 12], [9, 10, 11, 12, 13], [0, 1, 2, 3, 4, 5, 6, 7, 8, 9, 10, 11, 12, 13, 14], [0, 1, 2, 3, 4, 5, 6, 7, 8, 9, 10, 11, 12, 13, 14, 15]])
   (.cond (.v 117) (.seq (.rg [⟨some (.v 4), .mv (.c (.bool false)), none⟩])
   (.ret))
   (.skip))))
   (.rg [⟨some (.t 99), .mv (.v 12), none⟩,
   ⟨some (.t 100), .bin .add (.t 99) (.c (.int .i64 1)), none⟩,
   ⟨some (.v 12), .mv (.t 100), none⟩]))
def m11 : MFunc := ⟨2, [.other, .other], [(4, none, .other)],
 .seq (.rg [⟨some (.v 2), .box (.v 0), none⟩,
   ⟨some (.v 3), .box (.v 1), none⟩,
   ⟨some (.v 4), .mv (.c (.bool false)), none⟩])
  (.seq (.rg [⟨some (.t 14), .load true 3 (.v 2), none⟩,
   ⟨some (.t 15), .call 35 [.t 14, .c (.bool false)], none⟩,
   ⟨some (.t 13), .mv (.t 15), none⟩,
   ⟨some (.t 16), .ext 0 (.t 13), none⟩,
   ⟨some (.t 17), .ext 1 (.t 13), none⟩,
   ⟨some (.t 5), .alloc [.int .i64 0, .int .i64 0, .bool false, .nilsl, .nilsl], none⟩,
   ⟨none, .store 5 (.t 5) (.t 16), none⟩,
   ⟨some (.v 6), .mv (.t 17), none⟩])
   (.seq (.rg [⟨some (.t 19), .load true 3 (.v 3), none⟩,
   ⟨some (.t 20), .call 35 [.t 19, .c (.bool true)], none⟩,
   ⟨some (.t 18), .mv (.t 20), none⟩,
   ⟨some (.t 21), .ext 0 (.t 18), none⟩,
   ⟨some (.t 22), .ext 1 (.t 18), none⟩,
   ⟨some (.t 7), .alloc [.int .i64 0, .int .i64 0, .bool false, .nilsl, .nilsl], none⟩,
   ⟨none, .store 5 (.t 7) (.t 21), none⟩,
   ⟨some (.v 8), .mv (.t 22), none⟩])
   (.seq (.seq (.rg [⟨some (.t 23), .mv (.v 6), none⟩,
   ⟨some (.t 24), .bin .neq (.t 23) (.c (.int .i64 0)), none⟩,
   ⟨some (.t 25), .mv (.t 24), none⟩,
   ⟨some (.t 26), .mv (.v 8), some (.t 25, false)⟩,
   ⟨some (.t 27), .bin .neq (.t 26) (.c (.int .i64 0)), some (.t 25, false)⟩,
   ⟨some (.t 28), .pick (.t 25) (.c (.bool true)) (.t 27), none⟩,
   ⟨some (.t 29), .mv (.t 28), none⟩,
   ⟨some (.t 30), .fad 0 (.v 2), some (.t 29, false)⟩,
   ⟨some (.t 31), .load false 1 (.t 30), some (.t 29, false)⟩,
   ⟨some (.t 32), .fad 0 (.v 3), some (.t 29, false)⟩,
   ⟨some (.t 33), .load false 1 (.t 32), some (.t 29, false)⟩,
   ⟨some (.t 34), .bin .neq (.t 31) (.t 33), some (.t 29, false)⟩,
   ⟨some (.v 35), .pick (.t 29) (.c (.bool true)) (.t 34), none⟩])
   (.cond (.v 35) (.seq (.rg [⟨some (.v 4), .mv (.c (.bool false)), none⟩])
   (.ret))
   (.skip)))
   (.seq (.seq (.rg [⟨some (.t 36), .fad 0 (.v 2), none⟩,
   ⟨some (.v 37), .load false 1 (.t 36), none⟩])
   (.block 0 (.seq (.rg [⟨some (.t 39), .bin .eql (.v 37) (.c (.int .i64 1)), none⟩,
   ⟨some (.v 38), .mv (.t 39), none⟩])
   (.cond (.v 38) (.seq (.rg [⟨some (.t 40), .fad 1 (.v 2), none⟩,
   ⟨some (.t 41), .load false 1 (.t 40), none⟩,
   ⟨some (.t 42), .fad 1 (.v 3), none⟩,
   ⟨some (.t 43), .load false 1 (.t 42), none⟩,
   ⟨some (.t 44), .call 36 [.t 41, .t 43], none⟩,
   ⟨some (.v 4), .mv (.t 44), none⟩])
   (.ret))
   (.seq (.rg [⟨some (.t 46), .bin .eql (.v 37) (.c (.int .i64 2)), none⟩,
   ⟨some (.v 45), .mv (.t 46), none⟩])
   (.cond (.v 45) (.seq (.rg [⟨some (.t 47), .fad 1 (.v 2), none⟩,
   ⟨some (.t 48), .load false 1 (.t 47), none⟩,
   ⟨some (.t 49), .call 37 [.t 48], none⟩,
   ⟨some (.t 50), .mv (.t 49), none⟩,
   ⟨some (.t 51), .fad 1 (.v 3), some (.t 50, true)⟩,
   ⟨some (.t 52), .load false 1 (.t 51), some (.t 50, true)⟩,
   ⟨some (.t 53), .bin .eql (.t 52) (.c (.str [])), some (.t 50, true)⟩,
   ⟨some (.t 54), .mv (.t 53), some (.t 50, true)⟩,
   ⟨some (.t 55), .fad 1 (.v 2), some (.t 54, false)⟩,
   ⟨some (.t 56), .load false 1 (.t 55), some (.t 54, false)⟩,
   ⟨some (.t 57), .fad 1 (.v 3), some (.t 54, false)⟩,
   ⟨some (.t 58), .load false 1 (.t 57), some (.t 54, false)⟩,
   ⟨some (.t 59), .call 38 [.t 56, .t 58], some (.t 54, false)⟩,
   ⟨some (.t 60), .pick (.t 54) (.c (.bool true)) (.t 59), some (.t 50, true)⟩,
   ⟨some (.t 61), .mv (.t 60), some (.t 50, true)⟩,
   ⟨some (.t 62), .fad 1 (.v 2), some (.t 61, false)⟩,
   ⟨some (.t 63), .load false 1 (.t 62), some (.t 61, false)⟩,
   ⟨some (.t 64), .fad 1 (.v 3), some (.t 61, false)⟩,
   ⟨some (.t 65), .load false 1 (.t 64), some (.t 61, false)⟩,
   ⟨some (.t 66), .bin .add (.c (.str [46])) (.t 65), some (.t 61, false)⟩,
   ⟨some (.t 67), .call 39 [.t 63, .t 66], some (.t 61, false)⟩,
   ⟨some (.t 68), .pick (.t 61) (.c (.bool true)) (.t 67), some (.t 50, true)⟩,
   ⟨some (.t 69), .pick (.t 50) (.t 68) (.c (.bool false)), none⟩,
   ⟨some (.v 4), .mv (.t 69), none⟩])
   (.ret))
   (.seq (.rg [⟨some (.t 71), .bin .eql (.v 37) (.c (.int .i64 6)), none⟩,
   ⟨some (.v 70), .mv (.t 71), none⟩])
   (.cond (.v 70) (.seq (.rg [⟨some (.t 73), .fad 1 (.v 2), none⟩,
   ⟨some (.t 74), .load false 1 (.t 73), none⟩,
   ⟨some (.t 75), .call 40 [.t 74], none⟩,
   ⟨some (.t 72), .mv (.t 75), none⟩,
   ⟨some (.t 76), .ext 0 (.t 72), none⟩,
   ⟨some (.t 77), .ext 1 (.t 72), none⟩,
   ⟨some (.v 9), .mv (.t 76), none⟩,
   ⟨some (.v 10), .mv (.t 77), none⟩])
   (.seq (.rg [⟨some (.t 78), .mv (.v 10), none⟩,
   ⟨some (.t 79), .mv (.t 78), none⟩,
   ⟨some (.t 80), .mv (.v 9), some (.t 79, true)⟩,
   ⟨some (.t 81), .fad 1 (.v 3), some (.t 79, true)⟩,
   ⟨some (.t 82), .load false 1 (.t 81), some (.t 79, true)⟩,
   ⟨some (.t 83), .call 41 [.t 80, .t 82], some (.t 79, true)⟩,
   ⟨some (.t 84), .pick (.t 79) (.t 83) (.c (.bool false)), none⟩,
   ⟨some (.v 4), .mv (.t 84), none⟩])
   (.ret)))
   (.seq (.rg [⟨some (.t 86), .bin .eql (.v 37) (.c (.int .i64 7)), none⟩,
   ⟨some (.v 85), .mv (.t 86), none⟩])
   (.cond (.v 85) (.seq (.rg [⟨some (.t 87), .fad 1 (.v 2), none⟩,
   ⟨some (.t 88), .load false 1 (.t 87), none⟩,
   ⟨some (.t 89), .len true (.t 88), none⟩,
   ⟨some (.v 11), .mv (.t 89), none⟩])
   (.seq (.seq (.rg [⟨some (.t 90), .mv (.v 11), none⟩,
   ⟨some (.t 91), .bin .mul (.c (.int .i64 2)) (.t 90), none⟩,
   ⟨some (.t 92), .fad 1 (.v 3), none⟩,
   ⟨some (.t 93), .load false 1 (.t 92), none⟩,
   ⟨some (.t 94), .len true (.t 93), none⟩,
   ⟨some (.v 95), .bin .neq (.t 91) (.t 94), none⟩])
   (.cond (.v 95) (.seq (.rg [⟨some (.v 4), .mv (.c (.bool false)), none⟩])
   (.ret))
   (.skip)))
   (.seq (.seq (.rg [⟨some (.v 12), .mv (.c (.int .i64 0)), none⟩])
   (.block 1 (.loop m11k0 m11b0)))
   (.seq (.rg [⟨some (.v 4), .mv (.c (.bool true)), none⟩])
   (.ret)))))
   (.skip)))))))))))
   (.seq (.rgd [⟨some (.t 118), .fad 2 (.v 3), none⟩,
   ⟨some (.t 119), .load false 1 (.t 118), none⟩,
   ⟨some (.t 120), .len false (.t 119), none⟩,
   ⟨some (.t 121), .fad 2 (.v 2), none⟩,
   ⟨some (.t 122), .load false 1 (.t 121), none⟩,
   ⟨some (.t 123), .len false (.t 122), none⟩,
   ⟨some (.t 124), .bin .leq (.t 120) (.t 123), none⟩,
   ⟨some (.t 125), .mv (.t 124), none⟩,
   ⟨some (.t 126), .fad 2 (.v 2), some (.t 125, true)⟩,
   ⟨some (.t 127), .load false 1 (.t 126), some (.t 125, true)⟩,
   ⟨some (.t 128), .fad 2 (.v 3), some (.t 125, true)⟩,
   ⟨some (.t 129), .load false 1 (.t 128), some (.t 125, true)⟩,
   ⟨some (.t 130), .len false (.t 129), some (.t 125, true)⟩,
   ⟨some (.t 131), .slc false 2 (.t 127) none (some (.t 130)), some (.t 125, true)⟩,
   ⟨some (.t 132), .fad 2 (.v 3), some (.t 125, true)⟩,
   ⟨some (.t 133), .load false 1 (.t 132), some (.t 125, true)⟩,
   ⟨some (.t 134), .call 22 [.t 131, .t 133], some (.t 125, true)⟩,
   ⟨some (.t 135), .pick (.t 125) (.t 134) (.c (.bool false)), none⟩,
   ⟨some (.v 4), .mv (.t 135), none⟩]
   [[], [0], [0, 1], [], [3], [3, 4], [0, 1, 2, 3, 4, 5], [0, 1, 2, 3, 4, 5, 6], [0, 1, 2, 3, 4, 5, 6, 7], [0, 1, 2, 3, 4, 5, 6, 7, 8], [0, 1, 2, 3, 4, 5, 6, 7], [0, 1, 2, 3, 4, 5, 6, 7, 10], [0, 1, 2, 3, 4, 5, 6, 7, 10, 11], [0, 1, 2, 3, 4, 5, 6, 7, 8, 9, 10, 11, 12], [0, 1, 2, 3, 4, 5, 6, 7], [0, 1, 2, 3, 4, 5, 6, 7, 14], [0, 1, 2, 3, 4, 5, 6, 7, 8, 9, 10, 11, 12, 13, 14, 15], [0, 1, 2, 3, 4, 5, 6, 7, 8, 9, 10, 11, 12, 13, 14, 15, 16], [0, 1, 2, 3, 4, 5, 6, 7, 8, 9, 10, 11, 12, 13, 14, 15, 16, 17]])
   (.ret))))))⟩
theorem m11o : okFn Tryz.prog 11 [5, 7, 13, 14, 15, 16, 17, 18, 19, 20, 21, 22, 23, 24, 25, 26, 27, 28, 29, 30, 31, 32, 33, 34, 36, 39, 40, 41, 42, 43, 44, 46, 47, 48, 49, 50, 51, 52, 53, 54, 55, 56, 57, 58, 59, 60, 61, 62, 63, 64, 65, 66, 67, 68, 69, 71, 72, 73, 74, 75, 76, 77, 78, 79, 80, 81, 82, 83, 84, 86, 87, 88, 89, 90, 91, 92, 93, 94, 96, 97, 99, 100, 101, 102, 103, 104, 105, 106, 107, 108, 109, 110, 111, 112, 113, 114, 115, 116, 118, 119, 120, 121, 122, 123, 124, 125, 126, 127, 128, 129, 130, 131, 132, 133, 134, 135] [m11k0] [[[], [0], [], [0, 1, 2], [], [4], [], [4, 5, 6], [0, 1, 2, 3, 4, 5, 6, 7], [], [9], [], [], [11, 12], [9, 10, 11, 12, 13], [0, 1, 2, 3, 4, 5, 6, 7, 8, 9, 10, 11, 12, 13, 14], [0, 1, 2, 3, 4, 5, 6, 7, 8, 9, 10, 11, 12, 13, 14, 15]], [[], [0], [0, 1], [], [3], [3, 4], [0, 1, 2, 3, 4, 5], [0, 1, 2, 3, 4, 5, 6], [0, 1, 2, 3, 4, 5, 6, 7], [0, 1, 2, 3, 4, 5, 6, 7, 8], [0, 1, 2, 3, 4, 5, 6, 7], [0, 1, 2, 3, 4, 5, 6, 7, 10], [0, 1, 2, 3, 4, 5, 6, 7, 10, 11], [0, 1, 2, 3, 4, 5, 6, 7, 8, 9, 10, 11, 12], [0, 1, 2, 3, 4, 5, 6, 7], [0, 1, 2, 3, 4, 5, 6, 7, 14], [0, 1, 2, 3, 4, 5, 6, 7, 8, 9, 10, 11, 12, 13, 14, 15], [0, 1, 2, 3, 4, 5, 6, 7, 8, 9, 10, 11, 12, 13, 14, 15, 16], [0, 1, 2, 3, 4, 5, 6, 7, 8, 9, 10, 11, 12, 13, 14, 15, 16, 17]]] m11.nargs m11.params m11.results = some m11.body := by kernel_rfl

def m12 : MFunc := ⟨1, [.other], [(2, some (true, 3), .other)],
 .seq (.rg [⟨some (.v 1), .box (.v 0), none⟩,
   ⟨some (.v 2), .alloc [.int .i64 0, .str [], .nilsl], none⟩])
  (.seq (.rgd [⟨some (.t 3), .fad 0 (.v 1), none⟩,
   ⟨some (.t 4), .load false 1 (.t 3), none⟩,
   ⟨some (.t 5), .fad 1 (.v 1), none⟩,
   ⟨some (.t 6), .load false 1 (.t 5), none⟩,
   ⟨some (.t 7), .fad 2 (.v 1), none⟩,
   ⟨some (.t 8), .load false 1 (.t 7), none⟩,
   ⟨some (.t 9), .call 21 [.t 8], none⟩,
   ⟨some (.t 10), .build [.int .i64 0, .str [], .nilsl] [(0, 1, .t 4), (1, 1, .t 6), (2, 1, .t 9)], none⟩,
   ⟨none, .store 3 (.v 2) (.t 10), none⟩]
   [[], [0], [], [2], [], [4], [4, 5], [0, 1, 2, 3, 4, 5, 6], [0, 1, 2, 3, 4, 5, 6, 7]])
   (.ret))⟩
theorem m12o : okFn Tryz.prog 12 [3, 4, 5, 6, 7, 8, 9, 10] [] [[[], [0], [], [2], [], [4], [4, 5], [0, 1, 2, 3, 4, 5, 6], [0, 1, 2, 3, 4, 5, 6, 7]]] m12.nargs m12.params m12.results = some m12.body := by kernel_rfl

def m13 : MFunc := ⟨2, [.byt, .byt], [(4, none, .byt)],
 .seq (.rg [⟨some (.v 4), .mv (.c (.nilsl)), none⟩])
  (.seq (.rg [⟨some (.t 6), .bslB 0 [], none⟩,
   ⟨some (.t 7), .mv (.v 0), none⟩,
   ⟨some (.t 8), .app true 1 1 (.t 6) (.t 7), none⟩,
   ⟨some (.v 5), .mv (.t 8), none⟩])
   (.seq (.rg [⟨some (.t 9), .mv (.v 5), none⟩,
   ⟨some (.t 10), .mv (.v 1), none⟩,
   ⟨some (.t 11), .app true 1 1 (.t 9) (.t 10), none⟩,
   ⟨some (.v 4), .mv (.t 11), none⟩])
   (.ret)))⟩
theorem m13o : okFn Tryz.prog 13 [6, 7, 8, 9, 10, 11] [] [] m13.nargs m13.params m13.results = some m13.body := by kernel_rfl

def m14 : MFunc := ⟨2, [.other, .other], [(4, some (true, 5), .other), (5, none, .other)],
 .seq (.rg [⟨some (.v 2), .box (.v 0), none⟩,
   ⟨some (.v 4), .alloc [.int .i64 0, .int .i64 0, .bool false, .nilsl, .nilsl], none⟩,
   ⟨some (.v 5), .mv (.c (.int .i64 0)), none⟩])
  (.seq (.seq (.rg [⟨some (.t 9), .fad 0 (.v 2), none⟩,
   ⟨some (.t 10), .load false 1 (.t 9), none⟩,
   ⟨some (.t 11), .call 42 [.t 10], none⟩,
   ⟨some (.t 12), .un .not (.t 11), none⟩,
   ⟨some (.t 13), .mv (.t 12), none⟩,
   ⟨some (.t 14), .fad 0 (.v 2), some (.t 13, false)⟩,
   ⟨some (.t 15), .load false 1 (.t 14), some (.t 13, false)⟩,
   ⟨some (.t 16), .bin .neq (.t 15) (.c (.int .i64 4)), some (.t 13, false)⟩,
   ⟨some (.t 17), .mv (.t 16), some (.t 13, false)⟩,
   ⟨some (.t 18), .fad 2 (.v 2), some (.t 17, true)⟩,
   ⟨some (.t 19), .load false 1 (.t 18), some (.t 17, true)⟩,
   ⟨some (.t 20), .len false (.t 19), some (.t 17, true)⟩,
   ⟨some (.t 21), .bin .gtr (.t 20) (.c (.int .i64 0)), some (.t 17, true)⟩,
   ⟨some (.t 22), .pick (.t 17) (.t 21) (.c (.bool false)), some (.t 13, false)⟩,
   ⟨some (.t 23), .pick (.t 13) (.c (.bool true)) (.t 22), none⟩,
   ⟨some (.t 24), .mv (.t 23), none⟩,
   ⟨some (.t 25), .fad 0 (.v 2), some (.t 24, false)⟩,
   ⟨some (.t 26), .load false 1 (.t 25), some (.t 24, false)⟩,
   ⟨some (.t 27), .bin .eql (.t 26) (.c (.int .i64 4)), some (.t 24, false)⟩,
   ⟨some (.t 28), .mv (.t 27), some (.t 24, false)⟩,
   ⟨some (.t 29), .fad 1 (.v 2), some (.t 28, true)⟩,
   ⟨some (.t 30), .load false 1 (.t 29), some (.t 28, true)⟩,
   ⟨some (.t 31), .bin .neq (.t 30) (.c (.str [])), some (.t 28, true)⟩,
   ⟨some (.t 32), .pick (.t 28) (.t 31) (.c (.bool false)), some (.t 24, false)⟩,
   ⟨some (.v 33), .pick (.t 24) (.c (.bool true)) (.t 32), none⟩])
   (.cond (.v 33) (.seq (.rg [⟨some (.t 34), .build [.int .i64 0, .int .i64 0, .bool false, .nilsl, .nilsl] [], none⟩,
   ⟨none, .store 5 (.v 4) (.t 34), none⟩,
   ⟨some (.v 5), .mv (.c (.int .i64 30)), none⟩])
   (.ret))
   (.skip)))
   (.seq (.rg [⟨some (.t 35), .fad 0 (.v 2), none⟩,
   ⟨some (.t 36), .load false 1 (.t 35), none⟩,
   ⟨some (.t 37), .fad 1 (.v 2), none⟩,
   ⟨some (.t 38), .load false 1 (.t 37), none⟩,
   ⟨some (.t 39), .s2b (.t 38), none⟩,
   ⟨some (.t 40), .build [.int .i64 0, .int .i64 0, .bool false, .nilsl, .nilsl] [(0, 1, .c (.int .i64 2)), (1, 1, .t 36), (3, 1, .t 39)], none⟩,
   ⟨some (.v 6), .alloc [.int .i64 0, .int .i64 0, .bool false, .nilsl, .nilsl], none⟩,
   ⟨none, .store 5 (.v 6) (.t 40), none⟩])
   (.seq (.seq (.rg [⟨some (.t 41), .fad 0 (.v 2), none⟩,
   ⟨some (.t 42), .load false 1 (.t 41), none⟩,
   ⟨some (.v 43), .bin .eql (.t 42) (.c (.int .i64 4)), none⟩])
   (.cond (.v 43) (.seq (.rg [⟨some (.t 45), .fad 2 (.v 2), none⟩,
   ⟨some (.t 46), .load false 1 (.t 45), none⟩,
   ⟨some (.t 47), .call 19 [.t 46], none⟩,
   ⟨some (.t 44), .mv (.t 47), none⟩,
   ⟨some (.t 48), .ext 0 (.t 44), none⟩,
   ⟨some (.t 49), .ext 1 (.t 44), none⟩,
   ⟨some (.v 7), .alloc [.int .i64 0, .int .i64 0, .bool false, .nilsl, .nilsl], none⟩,
   ⟨none, .store 5 (.v 7) (.t 48), none⟩,
   ⟨some (.v 8), .mv (.t 49), none⟩])
   (.seq (.seq (.rg [⟨some (.t 50), .mv (.v 8), none⟩,
   ⟨some (.v 51), .bin .neq (.t 50) (.c (.int .i64 0)), none⟩])
   (.cond (.v 51) (.seq (.rg [⟨some (.t 52), .build [.int .i64 0, .int .i64 0, .bool false, .nilsl, .nilsl] [], none⟩,
   ⟨none, .store 5 (.v 4) (.t 52), none⟩,
   ⟨some (.v 5), .mv (.c (.int .i64 31)), none⟩])
   (.ret))
   (.skip)))
   (.rgd [⟨some (.t 53), .load true 5 (.v 7), none⟩,
   ⟨some (.t 54), .bslE 5 (.agg [.int .i64 0, .int .i64 0, .bool false, .nilsl, .nilsl]) 1 [(0, .t 53)], none⟩,
   ⟨some (.t 55), .fad 2 (.v 6), none⟩,
   ⟨none, .store 1 (.t 55) (.c (.bool true)), none⟩,
   ⟨some (.t 56), .fad 3 (.v 6), none⟩,
   ⟨none, .store 1 (.t 56) (.c (.nilsl)), none⟩,
   ⟨some (.t 57), .fad 4 (.v 6), none⟩,
   ⟨none, .store 1 (.t 57) (.t 54), none⟩]
   [[], [0], [], [2], [2, 3], [2, 3, 4], [0, 1, 2, 3, 4, 5], [0, 1, 2, 3, 4, 5, 6]])))
   (.skip)))
   (.seq (.seq (.rg [⟨some (.t 58), .load true 3 (.v 2), none⟩,
   ⟨some (.t 59), .mv (.v 1), none⟩,
   ⟨some (.t 60), .call 43 [.t 58, .t 59], none⟩,
   ⟨some (.v 61), .un .not (.t 60), none⟩])
   (.cond (.v 61) (.seq (.rg [⟨some (.t 62), .build [.int .i64 0, .int .i64 0, .bool false, .nilsl, .nilsl] [], none⟩,
   ⟨none, .store 5 (.v 4) (.t 62), none⟩,
   ⟨some (.v 5), .mv (.c (.int .i64 31)), none⟩])
   (.ret))
   (.skip)))
   (.seq (.rg [⟨some (.t 63), .load true 5 (.v 6), none⟩,
   ⟨none, .store 5 (.v 4) (.t 63), none⟩,
   ⟨some (.v 5), .mv (.c (.int .i64 0)), none⟩])
   (.ret))))))⟩
theorem m14o : okFn Tryz.prog 14 [9, 10, 11, 12, 13, 14, 15, 16, 17, 18, 19, 20, 21, 22, 23, 24, 25, 26, 27, 28, 29, 30, 31, 32, 34, 35, 36, 37, 38, 39, 40, 41, 42, 44, 45, 46, 47, 48, 49, 50, 52, 53, 54, 55, 56, 57, 58, 59, 60, 62, 63] [] [[[], [0], [], [2], [2, 3], [2, 3, 4], [0, 1, 2, 3, 4, 5], [0, 1, 2, 3, 4, 5, 6]]] m14.nargs m14.params m14.results = some m14.body := by kernel_rfl

def m15k0 : List (Nat × KMode) := [(1, .plain), (2, .plain), (29, .plain), (30, .plain), (31, .plain)]
def m15b0 : MCode :=
 .seq (.rg [⟨some (.v 32), .bin .lss (.v 31) (.v 30), none⟩])
  (.seq (.cond (.v 32) (.skip)
   (.exit 0))
   (.seq (.block 1 (.seq (.rg [⟨some (.t 33), .iad 5 (.v 29) (.v 31), none⟩,
   ⟨some (.t 34), .load true 5 (.t 33), none⟩,
   ⟨some (.v 8), .alloc [.int .i64 0, .int .i64 0, .bool false, .nilsl, .nilsl], none⟩,
   ⟨none, .store 5 (.v 8) (.t 34), none⟩])
   (.seq (.rg [⟨some (.t 35), .load true 5 (.v 8), none⟩,
   ⟨some (.t 36), .mv (.v 1), none⟩,
   ⟨some (.t 37), .bin .sub (.t 36) (.c (.int .i64 1)), none⟩,
   ⟨some (.t 38), .mv (.v 2), none⟩,
   ⟨some (.t 39), .call 15 [.t 35, .t 37, .t 38], none⟩,
   ⟨some (.v 2), .mv (.t 39), none⟩])
   (.seq (.rg [⟨some (.t 40), .mv (.v 2), none⟩,
   ⟨some (.v 41), .bin .lss (.t 40) (.c (.int .i64 0)), none⟩])
   (.cond (.v 41) (.seq (.rg [⟨some (.v 6), .mv (.c (.int .i64 (-1))), none⟩])
   (.ret))
   (.skip))))))
   (.rg [⟨some (.t 42), .bin .add (.v 31) (.c (.int .i64 1)), none⟩,
   ⟨some (.v 31), .mv (.t 42), none⟩])))
def m15 : MFunc := ⟨3, [.other, .other, .other], [(6, none, .other)],
 .seq (.rg [⟨some (.v 3), .box (.v 0), none⟩,
   ⟨some (.v 6), .mv (.c (.int .i64 0)), none⟩])
  (.seq (.seq (.rg [⟨some (.t 9), .mv (.v 1), none⟩,
   ⟨some (.t 10), .bin .eql (.t 9) (.c (.int .i64 0)), none⟩,
   ⟨some (.t 11), .mv (.t 10), none⟩,
   ⟨some (.t 12), .mv (.v 2), some (.t 11, false)⟩,
   ⟨some (.t 13), .bin .leq (.t 12) (.c (.int .i64 0)), some (.t 11, false)⟩,
   ⟨some (.t 14), .pick (.t 11) (.c (.bool true)) (.t 13), none⟩,
   ⟨some (.t 15), .mv (.t 14), none⟩,
   ⟨some (.t 16), .fad 3 (.v 3), some (.t 15, false)⟩,
   ⟨some (.t 17), .load false 1 (.t 16), some (.t 15, false)⟩,
   ⟨some (.t 18), .len false (.t 17), some (.t 15, false)⟩,
   ⟨some (.t 19), .mv (.v 2), some (.t 15, false)⟩,
   ⟨some (.t 20), .bin .geq (.t 18) (.t 19), some (.t 15, false)⟩,
   ⟨some (.v 21), .pick (.t 15) (.c (.bool true)) (.t 20), none⟩])
   (.cond (.v 21) (.seq (.rg [⟨some (.v 6), .mv (.c (.int .i64 (-1))), none⟩])
   (.ret))
   (.skip)))
   (.seq (.rg [⟨some (.t 22), .mv (.v 2), none⟩,
   ⟨some (.t 23), .fad 3 (.v 3), none⟩,
   ⟨some (.t 24), .load false 1 (.t 23), none⟩,
   ⟨some (.t 25), .len false (.t 24), none⟩,
   ⟨some (.t 26), .bin .add (.c (.int .i64 1)) (.t 25), none⟩,
   ⟨some (.t 27), .bin .sub (.t 22) (.t 26), none⟩,
   ⟨some (.v 2), .mv (.t 27), none⟩])
   (.seq (.seq (.rg [⟨some (.t 28), .fad 4 (.v 3), none⟩,
   ⟨some (.v 29), .load false 1 (.t 28), none⟩,
   ⟨some (.v 30), .len false (.v 29), none⟩,
   ⟨some (.v 31), .mv (.c (.int .i64 0)), none⟩])
   (.block 0 (.loop m15k0 m15b0)))
   (.seq (.rg [⟨some (.t 43), .mv (.v 2), none⟩,
   ⟨some (.v 6), .mv (.t 43), none⟩])
   (.ret)))))⟩
theorem m15o : okFn Tryz.prog 15 [9, 10, 11, 12, 13, 14, 15, 16, 17, 18, 19, 20, 22, 23, 24, 25, 26, 27, 28, 33, 34, 35, 36, 37, 38, 39, 40, 42, 43] [m15k0] [] m15.nargs m15.params m15.results = some m15.body := by kernel_rfl

def m16k0 : List (Nat × KMode) := [(6, (.ownE 2)), (7, .plain), (38, .plain), (39, .plain), (40, .plain)]
def m16b0 : MCode :=
 .seq (.rg [⟨some (.v 41), .bin .lss (.v 40) (.v 39), none⟩])
  (.seq (.cond (.v 41) (.skip)
   (.exit 0))
   (.seq (.block 1 (.seq (.rg [⟨some (.t 42), .iad 5 (.v 38) (.v 40), none⟩,
   ⟨some (.t 43), .load true 5 (.t 42), none⟩,
   ⟨some (.v 9), .alloc [.int .i64 0, .int .i64 0, .bool false, .nilsl, .nilsl], none⟩,
   ⟨none, .store 5 (.v 9) (.t 43), none⟩])
   (.seq (.seq (.rg [⟨some (.t 44), .load true 5 (.v 9), none⟩,
   ⟨some (.t 45), .call 45 [.t 44, .c (.int .i64 17), .c (.int .i64 1)], none⟩,
   ⟨some (.t 46), .un .not (.t 45), none⟩,
   ⟨some (.t 47), .mv (.t 46), none⟩,
   ⟨some (.t 48), .fad 4 (.v 9), some (.t 47, false)⟩,
   ⟨some (.t 49), .load false 1 (.t 48), some (.t 47, false)⟩,
   ⟨some (.t 50), .iad 5 (.t 49) (.c (.int .i64 0)), some (.t 47, false)⟩,
   ⟨some (.t 51), .load true 5 (.t 50), some (.t 47, false)⟩,
   ⟨some (.t 52), .call 45 [.t 51, .c (.int .i64 16), .c (.int .i64 2)], some (.t 47, false)⟩,
   ⟨some (.t 53), .un .not (.t 52), some (.t 47, false)⟩,
   ⟨some (.v 54), .pick (.t 47) (.c (.bool true)) (.t 53), none⟩])
   (.cond (.v 54) (.seq (.rg [⟨some (.v 2), .mv (.c (.nilsl)), none⟩,
   ⟨some (.v 3), .mv (.c (.int .i64 30)), none⟩])
   (.ret))
   (.skip)))
   (.seq (.rgd [⟨some (.t 55), .fad 4 (.v 9), none⟩,
   ⟨some (.t 56), .load false 1 (.t 55), none⟩,
   ⟨some (.t 57), .iad 5 (.t 56) (.c (.int .i64 0)), none⟩,
   ⟨some (.t 58), .fad 4 (.t 57), none⟩,
   ⟨some (.t 59), .load false 1 (.t 58), none⟩,
   ⟨some (.t 60), .iad 5 (.t 59) (.c (.int .i64 0)), none⟩,
   ⟨some (.t 61), .load true 5 (.t 60), none⟩,
   ⟨some (.t 62), .fad 4 (.v 9), none⟩,
   ⟨some (.t 63), .load false 1 (.t 62), none⟩,
   ⟨some (.t 64), .iad 5 (.t 63) (.c (.int .i64 0)), none⟩,
   ⟨some (.t 65), .fad 4 (.t 64), none⟩,
   ⟨some (.t 66), .load false 1 (.t 65), none⟩,
   ⟨some (.t 67), .iad 5 (.t 66) (.c (.int .i64 1)), none⟩,
   ⟨some (.t 68), .load true 5 (.t 67), none⟩,
   ⟨some (.v 10), .alloc [.int .i64 0, .int .i64 0, .bool false, .nilsl, .nilsl], none⟩,
   ⟨some (.v 11), .alloc [.int .i64 0, .int .i64 0, .bool false, .nilsl, .nilsl], none⟩,
   ⟨none, .store 5 (.v 10) (.t 61), none⟩,
   ⟨none, .store 5 (.v 11) (.t 68), none⟩]
   [[], [0], [0, 1], [0, 1, 2], [0, 1, 2, 3], [0, 1, 2, 3, 4], [0, 1, 2, 3, 4, 5], [], [7], [7, 8], [7, 8, 9], [7, 8, 9, 10], [7, 8, 9, 10, 11], [7, 8, 9, 10, 11, 12], [], [], [0, 1, 2, 3, 4, 5, 6, 14, 15], [0, 1, 2, 3, 4, 5, 6, 7, 8, 9, 10, 11, 12, 13, 14, 15, 16]])
   (.seq (.rg [⟨some (.t 70), .load true 5 (.v 10), none⟩,
   ⟨some (.t 71), .call 26 [.t 70], none⟩,
   ⟨some (.t 69), .mv (.t 71), none⟩,
   ⟨some (.t 72), .ext 0 (.t 69), none⟩,
   ⟨some (.t 73), .ext 1 (.t 69), none⟩,
   ⟨some (.v 12), .mv (.t 72), none⟩,
   ⟨some (.v 13), .mv (.t 73), none⟩])
   (.seq (.seq (.rg [⟨some (.t 74), .mv (.v 13), none⟩,
   ⟨some (.t 75), .un .not (.t 74), none⟩,
   ⟨some (.t 76), .mv (.t 75), none⟩,
   ⟨some (.t 77), .load true 5 (.v 11), some (.t 76, false)⟩,
   ⟨some (.t 78), .call 45 [.t 77, .c (.int .i64 12), .c (.int .i64 0)], some (.t 76, false)⟩,
   ⟨some (.t 79), .un .not (.t 78), some (.t 76, false)⟩,
   ⟨some (.t 80), .mv (.t 79), some (.t 76, false)⟩,
   ⟨some (.t 81), .load true 5 (.v 11), some (.t 80, true)⟩,
   ⟨some (.t 82), .call 45 [.t 81, .c (.int .i64 19), .c (.int .i64 0)], some (.t 80, true)⟩,
   ⟨some (.t 83), .un .not (.t 82), some (.t 80, true)⟩,
   ⟨some (.t 84), .pick (.t 80) (.t 83) (.c (.bool false)), some (.t 76, false)⟩,
   ⟨some (.v 85), .pick (.t 76) (.c (.bool true)) (.t 84), none⟩])
   (.cond (.v 85) (.seq (.rg [⟨some (.v 2), .mv (.c (.nilsl)), none⟩,
   ⟨some (.v 3), .mv (.c (.int .i64 30)), none⟩])
   (.ret))
   (.skip)))
   (.seq (.rg [⟨some (.t 86), .fad 3 (.v 11), none⟩,
   ⟨some (.t 87), .load false 1 (.t 86), none⟩,
   ⟨some (.t 88), .b2s (.t 87), none⟩,
   ⟨some (.v 14), .mv (.t 88), none⟩])
   (.seq (.seq (.rgd [⟨some (.t 89), .mv (.v 14), none⟩,
   ⟨some (.t 90), .call 46 [.t 89], none⟩,
   ⟨some (.t 91), .un .not (.t 90), none⟩,
   ⟨some (.t 92), .mv (.t 91), none⟩,
   ⟨some (.t 93), .mv (.v 14), some (.t 92, false)⟩,
   ⟨some (.t 94), .call 47 [.t 93], some (.t 92, false)⟩,
   ⟨some (.t 95), .fad 1 (.v 11), some (.t 92, false)⟩,
   ⟨some (.t 96), .load false 1 (.t 95), some (.t 92, false)⟩,
   ⟨some (.t 97), .bin .neq (.t 94) (.t 96), some (.t 92, false)⟩,
   ⟨some (.v 98), .pick (.t 92) (.c (.bool true)) (.t 97), none⟩]
   [[], [0], [0, 1], [0, 1, 2], [0, 1, 2, 3], [0, 1, 2, 3, 4], [0, 1, 2, 3], [0, 1, 2, 3, 6], [0, 1, 2, 3, 4, 5, 6, 7], [0, 1, 2, 3, 4, 5, 6, 7, 8]])
   (.cond (.v 98) (.rg [⟨some (.v 7), .mv (.c (.int .i64 31)), none⟩])
   (.skip)))
   (.rg [⟨some (.t 99), .mv (.v 6), none⟩,
   ⟨some (.t 100), .mv (.v 12), none⟩,
   ⟨some (.t 101), .mv (.v 14), none⟩,
   ⟨some (.t 102), .build [.str [], .str []] [(0, 1, .t 100), (1, 1, .t 101)], none⟩,
   ⟨some (.t 103), .bslE 2 (.agg [.str [], .str []]) 1 [(0, .t 102)], none⟩,
   ⟨some (.t 104), .app false 2 32 (.t 99) (.t 103), none⟩,
   ⟨some (.v 6), .mv (.t 104), none⟩])))))))))
   (.rg [⟨some (.t 105), .bin .add (.v 40) (.c (.int .i64 1)), none⟩,
   ⟨some (.v 40), .mv (.t 105), none⟩])))
def m16 : MFunc := ⟨1, [.other], [(2, none, .el 2), (3, none, .other)],
 .seq (.rg [⟨some (.v 1), .box (.v 0), none⟩,
   ⟨some (.v 2), .mv (.c (.nilsl)), none⟩,
   ⟨some (.v 3), .mv (.c (.int .i64 0)), none⟩])
  (.seq (.seq (.rg [⟨some (.t 16), .load true 5 (.v 1), none⟩,
   ⟨some (.t 17), .call 44 [.t 16], none⟩,
   ⟨some (.t 15), .mv (.t 17), none⟩,
   ⟨some (.t 18), .ext 0 (.t 15), none⟩,
   ⟨some (.t 19), .ext 1 (.t 15), none⟩,
   ⟨some (.t 4), .mv (.t 18), none⟩,
   ⟨some (.v 5), .mv (.t 19), none⟩])
   (.seq (.rg [⟨some (.t 20), .mv (.v 5), none⟩,
   ⟨some (.t 21), .bin .neq (.t 20) (.c (.int .i64 0)), none⟩,
   ⟨some (.t 22), .mv (.t 21), none⟩,
   ⟨some (.t 23), .load true 5 (.v 1), some (.t 22, false)⟩,
   ⟨some (.t 24), .fad 4 (.v 1), some (.t 22, false)⟩,
   ⟨some (.t 25), .load false 1 (.t 24), some (.t 22, false)⟩,
   ⟨some (.t 26), .len false (.t 25), some (.t 22, false)⟩,
   ⟨some (.t 27), .call 45 [.t 23, .c (.int .i64 16), .t 26], some (.t 22, false)⟩,
   ⟨some (.t 28), .un .not (.t 27), some (.t 22, false)⟩,
   ⟨some (.t 29), .pick (.t 22) (.c (.bool true)) (.t 28), none⟩,
   ⟨some (.t 30), .mv (.t 29), none⟩,
   ⟨some (.t 31), .fad 4 (.v 1), some (.t 30, false)⟩,
   ⟨some (.t 32), .load false 1 (.t 31), some (.t 30, false)⟩,
   ⟨some (.t 33), .len false (.t 32), some (.t 30, false)⟩,
   ⟨some (.t 34), .bin .gtr (.t 33) (.c (.int .i64 16)), some (.t 30, false)⟩,
   ⟨some (.v 35), .pick (.t 30) (.c (.bool true)) (.t 34), none⟩])
   (.cond (.v 35) (.seq (.rg [⟨some (.v 2), .mv (.c (.nilsl)), none⟩,
   ⟨some (.v 3), .mv (.c (.int .i64 30)), none⟩])
   (.ret))
   (.skip))))
   (.seq (.rg [⟨some (.t 36), .bslE 2 (.agg [.str [], .str []]) 0 [], none⟩,
   ⟨some (.v 6), .mv (.t 36), none⟩])
   (.seq (.rg [⟨some (.v 7), .mv (.c (.int .i64 0)), none⟩])
   (.seq (.seq (.rg [⟨some (.t 37), .fad 4 (.v 1), none⟩,
   ⟨some (.v 38), .load false 1 (.t 37), none⟩,
   ⟨some (.v 39), .len false (.v 38), none⟩,
   ⟨some (.v 40), .mv (.c (.int .i64 0)), none⟩])
   (.block 0 (.loop m16k0 m16b0)))
   (.seq (.seq (.rg [⟨some (.t 106), .mv (.v 7), none⟩,
   ⟨some (.v 107), .bin .neq (.t 106) (.c (.int .i64 0)), none⟩])
   (.cond (.v 107) (.seq (.rg [⟨some (.t 108), .mv (.v 7), none⟩,
   ⟨some (.v 2), .mv (.c (.nilsl)), none⟩,
   ⟨some (.v 3), .mv (.t 108), none⟩])
   (.ret))
   (.skip)))
   (.seq (.rg [⟨some (.t 109), .mv (.v 6), none⟩,
   ⟨some (.v 2), .mv (.t 109), none⟩,
   ⟨some (.v 3), .mv (.c (.int .i64 0)), none⟩])
   (.ret)))))))⟩
theorem m16o : okFn Tryz.prog 16 [4, 15, 16, 17, 18, 19, 20, 21, 22, 23, 24, 25, 26, 27, 28, 29, 30, 31, 32, 33, 34, 36, 37, 42, 43, 44, 45, 46, 47, 48, 49, 50, 51, 52, 53, 55, 56, 57, 58, 59, 60, 61, 62, 63, 64, 65, 66, 67, 68, 69, 70, 71, 72, 73, 74, 75, 76, 77, 78, 79, 80, 81, 82, 83, 84, 86, 87, 88, 89, 90, 91, 92, 93, 94, 95, 96, 97, 99, 100, 101, 102, 103, 104, 105, 106, 108, 109] [m16k0] [[[], [0], [0, 1], [0, 1, 2], [0, 1, 2, 3], [0, 1, 2, 3, 4], [0, 1, 2, 3, 4, 5], [], [7], [7, 8], [7, 8, 9], [7, 8, 9, 10], [7, 8, 9, 10, 11], [7, 8, 9, 10, 11, 12], [], [], [0, 1, 2, 3, 4, 5, 6, 14, 15], [0, 1, 2, 3, 4, 5, 6, 7, 8, 9, 10, 11, 12, 13, 14, 15, 16]], [[], [0], [0, 1], [0, 1, 2], [0, 1, 2, 3], [0, 1, 2, 3, 4], [0, 1, 2, 3], [0, 1, 2, 3, 6], [0, 1, 2, 3, 4, 5, 6, 7], [0, 1, 2, 3, 4, 5, 6, 7, 8]]] m16.nargs m16.params m16.results = some m16.body := by kernel_rfl

def m17k0 : List (Nat × KMode) := [(1, .plain), (4, (.ownE 2)), (5, .plain), (6, .plain)]
def m17b0 : MCode :=
 .seq (.seq (.rg [⟨some (.t 32), .mv (.v 6), none⟩,
   ⟨some (.t 33), .fad 4 (.v 1), none⟩,
   ⟨some (.t 34), .load false 1 (.t 33), none⟩,
   ⟨some (.t 35), .len false (.t 34), none⟩,
   ⟨some (.v 36), .bin .lss (.t 32) (.t 35), none⟩])
   (.cond (.v 36) (.skip)
   (.exit 0)))
  (.seq (.block 1 (.seq (.rg [⟨some (.t 40), .fad 4 (.v 1), none⟩,
   ⟨some (.t 41), .load false 1 (.t 40), none⟩,
   ⟨some (.t 42), .mv (.v 6), none⟩,
   ⟨some (.t 43), .iad 5 (.t 41) (.t 42), none⟩,
   ⟨some (.t 44), .load true 5 (.t 43), none⟩,
   ⟨some (.t 45), .call 49 [.t 44], none⟩,
   ⟨some (.t 39), .mv (.t 45), none⟩,
   ⟨some (.t 46), .ext 0 (.t 39), none⟩,
   ⟨some (.t 47), .ext 1 (.t 39), none⟩,
   ⟨some (.t 48), .ext 2 (.t 39), none⟩,
   ⟨some (.v 7), .alloc [.int .i64 0, .int .i64 0, .bool false, .nilsl, .nilsl], none⟩,
   ⟨some (.v 8), .alloc [.int .i64 0, .int .i64 0, .bool false, .nilsl, .nilsl], none⟩,
   ⟨none, .store 5 (.v 7) (.t 46), none⟩,
   ⟨none, .store 5 (.v 8) (.t 47), none⟩,
   ⟨some (.v 9), .mv (.t 48), none⟩])
   (.seq (.rg [⟨some (.t 50), .load true 5 (.v 7), none⟩,
   ⟨some (.t 51), .call 50 [.t 50], none⟩,
   ⟨some (.t 49), .mv (.t 51), none⟩,
   ⟨some (.t 52), .ext 0 (.t 49), none⟩,
   ⟨some (.t 53), .ext 1 (.t 49), none⟩,
   ⟨some (.v 10), .mv (.t 52), none⟩,
   ⟨some (.v 11), .mv (.t 53), none⟩])
   (.seq (.seq (.rg [⟨some (.t 54), .mv (.v 9), none⟩,
   ⟨some (.t 55), .un .not (.t 54), none⟩,
   ⟨some (.t 56), .mv (.t 55), none⟩,
   ⟨some (.t 57), .mv (.v 11), some (.t 56, false)⟩,
   ⟨some (.t 58), .un .not (.t 57), some (.t 56, false)⟩,
   ⟨some (.v 59), .pick (.t 56) (.c (.bool true)) (.t 58), none⟩])
   (.cond (.v 59) (.seq (.rg [⟨some (.v 2), .mv (.c (.nilsl)), none⟩,
   ⟨some (.v 3), .mv (.c (.int .i64 30)), none⟩])
   (.ret))
   (.skip)))
   (.seq (.rg [⟨some (.t 60), .fad 3 (.v 8), none⟩,
   ⟨some (.t 61), .load false 1 (.t 60), none⟩,
   ⟨some (.t 62), .b2s (.t 61), none⟩,
   ⟨some (.v 12), .mv (.t 62), none⟩])
   (.seq (.seq (.rgd [⟨some (.t 63), .mv (.v 12), none⟩,
   ⟨some (.t 64), .call 51 [.t 63], none⟩,
   ⟨some (.t 65), .un .not (.t 64), none⟩,
   ⟨some (.t 66), .mv (.t 65), none⟩,
   ⟨some (.t 67), .mv (.v 12), some (.t 66, false)⟩,
   ⟨some (.t 68), .call 52 [.t 67], some (.t 66, false)⟩,
   ⟨some (.t 69), .fad 1 (.v 8), some (.t 66, false)⟩,
   ⟨some (.t 70), .load false 1 (.t 69), some (.t 66, false)⟩,
   ⟨some (.t 71), .bin .neq (.t 68) (.t 70), some (.t 66, false)⟩,
   ⟨some (.v 72), .pick (.t 66) (.c (.bool true)) (.t 71), none⟩]
   [[], [0], [0, 1], [0, 1, 2], [0, 1, 2, 3], [0, 1, 2, 3, 4], [0, 1, 2, 3], [0, 1, 2, 3, 6], [0, 1, 2, 3, 4, 5, 6, 7], [0, 1, 2, 3, 4, 5, 6, 7, 8]])
   (.cond (.v 72) (.rg [⟨some (.v 5), .mv (.c (.int .i64 31)), none⟩])
   (.skip)))
   (.rg [⟨some (.t 73), .mv (.v 4), none⟩,
   ⟨some (.t 74), .mv (.v 10), none⟩,
   ⟨some (.t 75), .mv (.v 12), none⟩,
   ⟨some (.t 76), .build [.str [], .str []] [(0, 1, .t 74), (1, 1, .t 75)], none⟩,
   ⟨some (.t 77), .bslE 2 (.agg [.str [], .str []]) 1 [(0, .t 76)], none⟩,
   ⟨some (.t 78), .app false 2 32 (.t 73) (.t 77), none⟩,
   ⟨some (.v 4), .mv (.t 78), none⟩])))))))
   (.rg [⟨some (.t 37), .mv (.v 6), none⟩,
   ⟨some (.t 38), .bin .add (.t 37) (.c (.int .i64 1)), none⟩,
   ⟨some (.v 6), .mv (.t 38), none⟩]))
def m17 : MFunc := ⟨1, [.other], [(2, none, .el 2), (3, none, .other)],
 .seq (.rg [⟨some (.v 1), .box (.v 0), none⟩,
   ⟨some (.v 2), .mv (.c (.nilsl)), none⟩,
   ⟨some (.v 3), .mv (.c (.int .i64 0)), none⟩])
  (.seq (.seq (.rg [⟨some (.t 13), .load true 5 (.v 1), none⟩,
   ⟨some (.t 14), .call 48 [.t 13], none⟩,
   ⟨some (.t 15), .un .not (.t 14), none⟩,
   ⟨some (.t 16), .mv (.t 15), none⟩,
   ⟨some (.t 17), .fad 0 (.v 1), some (.t 16, false)⟩,
   ⟨some (.t 18), .load false 1 (.t 17), some (.t 16, false)⟩,
   ⟨some (.t 19), .bin .neq (.t 18) (.c (.int .i64 0)), some (.t 16, false)⟩,
   ⟨some (.t 20), .pick (.t 16) (.c (.bool true)) (.t 19), none⟩,
   ⟨some (.t 21), .mv (.t 20), none⟩,
   ⟨some (.t 22), .fad 1 (.v 1), some (.t 21, false)⟩,
   ⟨some (.t 23), .load false 1 (.t 22), some (.t 21, false)⟩,
   ⟨some (.t 24), .bin .neq (.t 23) (.c (.int .i64 16)), some (.t 21, false)⟩,
   ⟨some (.t 25), .pick (.t 21) (.c (.bool true)) (.t 24), none⟩,
   ⟨some (.t 26), .mv (.t 25), none⟩,
   ⟨some (.t 27), .fad 4 (.v 1), some (.t 26, false)⟩,
   ⟨some (.t 28), .load false 1 (.t 27), some (.t 26, false)⟩,
   ⟨some (.t 29), .len false (.t 28), some (.t 26, false)⟩,
   ⟨some (.t 30), .bin .gtr (.t 29) (.c (.int .i64 16)), some (.t 26, false)⟩,
   ⟨some (.v 31), .pick (.t 26) (.c (.bool true)) (.t 30), none⟩])
   (.cond (.v 31) (.seq (.rg [⟨some (.v 2), .mv (.c (.nilsl)), none⟩,
   ⟨some (.v 3), .mv (.c (.int .i64 30)), none⟩])
   (.ret))
   (.skip)))
   (.seq (.rg [⟨some (.v 4), .mv (.c (.nilsl)), none⟩])
   (.seq (.rg [⟨some (.v 5), .mv (.c (.int .i64 0)), none⟩])
   (.seq (.seq (.rg [⟨some (.v 6), .mv (.c (.int .i64 0)), none⟩])
   (.block 0 (.loop m17k0 m17b0)))
   (.seq (.seq (.rg [⟨some (.t 79), .mv (.v 5), none⟩,
   ⟨some (.v 80), .bin .neq (.t 79) (.c (.int .i64 0)), none⟩])
   (.cond (.v 80) (.seq (.rg [⟨some (.t 81), .mv (.v 5), none⟩,
   ⟨some (.v 2), .mv (.c (.nilsl)), none⟩,
   ⟨some (.v 3), .mv (.t 81), none⟩])
   (.ret))
   (.skip)))
   (.seq (.rg [⟨some (.t 82), .mv (.v 4), none⟩,
   ⟨some (.v 2), .mv (.t 82), none⟩,
   ⟨some (.v 3), .mv (.c (.int .i64 0)), none⟩])
   (.ret)))))))⟩
theorem m17o : okFn Tryz.prog 17 [13, 14, 15, 16, 17, 18, 19, 20, 21, 22, 23, 24, 25, 26, 27, 28, 29, 30, 32, 33, 34, 35, 37, 38, 39, 40, 41, 42, 43, 44, 45, 46, 47, 48, 49, 50, 51, 52, 53, 54, 55, 56, 57, 58, 60, 61, 62, 63, 64, 65, 66, 67, 68, 69, 70, 71, 73, 74, 75, 76, 77, 78, 79, 81, 82] [m17k0] [[[], [0], [0, 1], [0, 1, 2], [0, 1, 2, 3], [0, 1, 2, 3, 4], [0, 1, 2, 3], [0, 1, 2, 3, 6], [0, 1, 2, 3, 4, 5, 6, 7], [0, 1, 2, 3, 4, 5, 6, 7, 8]]] m17.nargs m17.params m17.results = some m17.body := by kernel_rfl

def m18k0 : List (Nat × KMode) := [(2, .plain), (3, .plain), (16, .plain), (17, .plain), (18, .plain)]
def m18b0 : MCode :=
 .seq (.rg [⟨some (.v 19), .bin .lss (.v 18) (.v 17), none⟩])
  (.seq (.cond (.v 19) (.skip)
   (.exit 0))
   (.seq (.block 1 (.seq (.rg [⟨some (.t 20), .iad 5 (.v 16) (.v 18), none⟩,
   ⟨some (.t 21), .load true 5 (.t 20), none⟩,
   ⟨some (.v 5), .alloc [.int .i64 0, .int .i64 0, .bool false, .nilsl, .nilsl], none⟩,
   ⟨none, .store 5 (.v 5) (.t 21), none⟩])
   (.rgd [⟨some (.t 22), .fad 4 (.v 3), none⟩,
   ⟨some (.t 23), .load false 1 (.t 22), none⟩,
   ⟨some (.t 24), .load true 5 (.v 5), none⟩,
   ⟨some (.t 25), .call 18 [.t 24], none⟩,
   ⟨some (.t 26), .bslE 5 (.agg [.int .i64 0, .int .i64 0, .bool false, .nilsl, .nilsl]) 1 [(0, .t 25)], none⟩,
   ⟨some (.t 27), .app false 5 72 (.t 23) (.t 26), none⟩,
   ⟨some (.t 28), .fad 4 (.v 3), none⟩,
   ⟨none, .store 1 (.t 28) (.t 27), none⟩]
   [[], [0], [], [2], [2, 3], [0, 1, 2, 3, 4], [0, 1, 2, 3, 4, 5], [0, 1, 2, 3, 4, 5, 6]])))
   (.rg [⟨some (.t 29), .bin .add (.v 18) (.c (.int .i64 1)), none⟩,
   ⟨some (.v 18), .mv (.t 29), none⟩])))
def m18 : MFunc := ⟨1, [.other], [(2, some (true, 5), .other)],
 .seq (.rg [⟨some (.v 1), .box (.v 0), none⟩,
   ⟨some (.v 2), .alloc [.int .i64 0, .int .i64 0, .bool false, .nilsl, .nilsl], none⟩])
  (.seq (.rg [⟨some (.t 6), .fad 0 (.v 1), none⟩,
   ⟨some (.t 7), .load false 1 (.t 6), none⟩,
   ⟨some (.t 8), .fad 1 (.v 1), none⟩,
   ⟨some (.t 9), .load false 1 (.t 8), none⟩,
   ⟨some (.t 10), .fad 2 (.v 1), none⟩,
   ⟨some (.t 11), .load false 1 (.t 10), none⟩,
   ⟨some (.t 12), .fad 3 (.v 1), none⟩,
   ⟨some (.t 13), .load false 1 (.t 12), none⟩,
   ⟨some (.t 14), .build [.int .i64 0, .int .i64 0, .bool false, .nilsl, .nilsl] [(0, 1, .t 7), (1, 1, .t 9), (2, 1, .t 11), (3, 1, .t 13)], none⟩,
   ⟨some (.v 3), .alloc [.int .i64 0, .int .i64 0, .bool false, .nilsl, .nilsl], none⟩,
   ⟨none, .store 5 (.v 3) (.t 14), none⟩])
   (.seq (.seq (.rg [⟨some (.t 15), .fad 4 (.v 1), none⟩,
   ⟨some (.v 16), .load false 1 (.t 15), none⟩,
   ⟨some (.v 17), .len false (.v 16), none⟩,
   ⟨some (.v 18), .mv (.c (.int .i64 0)), none⟩])
   (.block 0 (.loop m18k0 m18b0)))
   (.seq (.rg [⟨some (.t 30), .load true 5 (.v 3), none⟩,
   ⟨none, .store 5 (.v 2) (.t 30), none⟩])
   (.ret))))⟩
theorem m18o : okFn Tryz.prog 18 [6, 7, 8, 9, 10, 11, 12, 13, 14, 15, 20, 21, 22, 23, 24, 25, 26, 27, 28, 29, 30] [m18k0] [[[], [0], [], [2], [2, 3], [0, 1, 2, 3, 4], [0, 1, 2, 3, 4, 5], [0, 1, 2, 3, 4, 5, 6]]] m18.nargs m18.params m18.results = some m18.body := by kernel_rfl

def m19k0 : List (Nat × KMode) := [(0, .plain), (2, .plain), (4, .plain), (15, .plain), (16, .plain), (17, .plain)]
def m19b0 : MCode :=
 .seq (.rg [⟨some (.v 18), .bin .lss (.v 17) (.v 16), none⟩])
  (.seq (.cond (.v 18) (.skip)
   (.exit 0))
   (.seq (.block 1 (.seq (.rg [⟨some (.t 19), .iad 2 (.v 15) (.v 17), none⟩,
   ⟨some (.t 20), .load true 2 (.t 19), none⟩,
   ⟨some (.v 6), .alloc [.str [], .str []], none⟩,
   ⟨none, .store 2 (.v 6) (.t 20), none⟩])
   (.seq (.rg [⟨some (.t 22), .fad 0 (.v 6), none⟩,
   ⟨some (.t 23), .load false 1 (.t 22), none⟩,
   ⟨some (.t 24), .call 53 [.t 23], none⟩,
   ⟨some (.t 21), .mv (.t 24), none⟩,
   ⟨some (.t 25), .ext 0 (.t 21), none⟩,
   ⟨some (.t 26), .ext 1 (.t 21), none⟩,
   ⟨some (.v 7), .alloc [.int .i64 0, .int .i64 0, .bool false, .nilsl, .nilsl], none⟩,
   ⟨none, .store 5 (.v 7) (.t 25), none⟩,
   ⟨some (.v 8), .mv (.t 26), none⟩])
   (.seq (.seq (.rg [⟨some (.t 27), .mv (.v 8), none⟩,
   ⟨some (.v 28), .un .not (.t 27), none⟩])
   (.cond (.v 28) (.seq (.rg [⟨some (.t 29), .build [.int .i64 0, .int .i64 0, .bool false, .nilsl, .nilsl] [], none⟩,
   ⟨none, .store 5 (.v 2) (.t 29), none⟩,
   ⟨some (.v 3), .mv (.c (.int .i64 30)), none⟩])
   (.ret))
   (.skip)))
   (.seq (.rgd [⟨some (.t 30), .load true 5 (.v 7), none⟩,
   ⟨some (.t 31), .fad 1 (.v 6), none⟩,
   ⟨some (.t 32), .load false 1 (.t 31), none⟩,
   ⟨some (.t 33), .call 47 [.t 32], none⟩,
   ⟨some (.t 34), .fad 1 (.v 6), none⟩,
   ⟨some (.t 35), .load false 1 (.t 34), none⟩,
   ⟨some (.t 36), .s2b (.t 35), none⟩,
   ⟨some (.t 37), .build [.int .i64 0, .int .i64 0, .bool false, .nilsl, .nilsl] [(1, 1, .t 33), (3, 1, .t 36)], none⟩,
   ⟨some (.t 38), .bslE 5 (.agg [.int .i64 0, .int .i64 0, .bool false, .nilsl, .nilsl]) 2 [(0, .t 30), (1, .t 37)], none⟩,
   ⟨some (.t 39), .build [.int .i64 0, .int .i64 0, .bool false, .nilsl, .nilsl] [(1, 1, .c (.int .i64 16)), (2, 1, .c (.bool true)), (4, 1, .t 38)], none⟩,
   ⟨some (.v 9), .alloc [.int .i64 0, .int .i64 0, .bool false, .nilsl, .nilsl], none⟩,
   ⟨none, .store 5 (.v 9) (.t 39), none⟩]
   [[], [], [1], [1, 2], [], [4], [4, 5], [1, 2, 3, 4, 5, 6], [0, 1, 2, 3, 4, 5, 6, 7], [0, 1, 2, 3, 4, 5, 6, 7, 8], [], [0, 1, 2, 3, 4, 5, 6, 7, 8, 9, 10]])
   (.rg [⟨some (.t 40), .fad 4 (.v 4), none⟩,
   ⟨some (.t 41), .load false 1 (.t 40), none⟩,
   ⟨some (.t 42), .load true 5 (.v 9), none⟩,
   ⟨some (.t 43), .bslE 5 (.agg [.int .i64 0, .int .i64 0, .bool false, .nilsl, .nilsl]) 1 [(0, .t 42)], none⟩,
   ⟨some (.t 44), .build [.int .i64 0, .int .i64 0, .bool false, .nilsl, .nilsl] [(1, 1, .c (.int .i64 17)), (2, 1, .c (.bool true)), (4, 1, .t 43)], none⟩,
   ⟨some (.t 45), .bslE 5 (.agg [.int .i64 0, .int .i64 0, .bool false, .nilsl, .nilsl]) 1 [(0, .t 44)], none⟩,
   ⟨some (.t 46), .app false 5 72 (.t 41) (.t 45), none⟩,
   ⟨some (.t 47), .fad 4 (.v 4), none⟩,
   ⟨none, .store 1 (.t 47) (.t 46), none⟩]))))))
   (.rg [⟨some (.t 48), .bin .add (.v 17) (.c (.int .i64 1)), none⟩,
   ⟨some (.v 17), .mv (.t 48), none⟩])))
def m19 : MFunc := ⟨1, [.el 2], [(2, some (true, 5), .other), (3, none, .other)],
 .seq (.rg [⟨some (.v 2), .alloc [.int .i64 0, .int .i64 0, .bool false, .nilsl, .nilsl], none⟩,
   ⟨some (.v 3), .mv (.c (.int .i64 0)), none⟩])
  (.seq (.rg [⟨some (.t 10), .build [.int .i64 0, .int .i64 0, .bool false, .nilsl, .nilsl] [(1, 1, .c (.int .i64 16)), (2, 1, .c (.bool true))], none⟩,
   ⟨some (.v 4), .alloc [.int .i64 0, .int .i64 0, .bool false, .nilsl, .nilsl], none⟩,
   ⟨none, .store 5 (.v 4) (.t 10), none⟩])
   (.seq (.seq (.rg [⟨some (.t 11), .mv (.v 0), none⟩,
   ⟨some (.t 12), .len false (.t 11), none⟩,
   ⟨some (.v 13), .bin .gtr (.t 12) (.c (.int .i64 16)), none⟩])
   (.cond (.v 13) (.seq (.rg [⟨some (.t 14), .build [.int .i64 0, .int .i64 0, .bool false, .nilsl, .nilsl] [], none⟩,
   ⟨none, .store 5 (.v 2) (.t 14), none⟩,
   ⟨some (.v 3), .mv (.c (.int .i64 30)), none⟩])
   (.ret))
   (.skip)))
   (.seq (.seq (.rg [⟨some (.v 15), .mv (.v 0), none⟩,
   ⟨some (.v 16), .len false (.v 15), none⟩,
   ⟨some (.v 17), .mv (.c (.int .i64 0)), none⟩])
   (.block 0 (.loop m19k0 m19b0)))
   (.seq (.seq (.rg [⟨some (.t 49), .mv (.v 0), none⟩,
   ⟨some (.v 50), .call 54 [.t 49, .c (.fn 55 [])], none⟩])
   (.cond (.v 50) (.seq (.rg [⟨some (.t 51), .build [.int .i64 0, .int .i64 0, .bool false, .nilsl, .nilsl] [], none⟩,
   ⟨none, .store 5 (.v 2) (.t 51), none⟩,
   ⟨some (.v 3), .mv (.c (.int .i64 31)), none⟩])
   (.ret))
   (.skip)))
   (.seq (.rg [⟨some (.t 52), .load true 5 (.v 4), none⟩,
   ⟨none, .store 5 (.v 2) (.t 52), none⟩,
   ⟨some (.v 3), .mv (.c (.int .i64 0)), none⟩])
   (.ret))))))⟩
theorem m19o : okFn Tryz.prog 19 [10, 11, 12, 14, 19, 20, 21, 22, 23, 24, 25, 26, 27, 29, 30, 31, 32, 33, 34, 35, 36, 37, 38, 39, 40, 41, 42, 43, 44, 45, 46, 47, 48, 49, 51, 52] [m19k0] [[[], [], [1], [1, 2], [], [4], [4, 5], [1, 2, 3, 4, 5, 6], [0, 1, 2, 3, 4, 5, 6, 7], [0, 1, 2, 3, 4, 5, 6, 7, 8], [], [0, 1, 2, 3, 4, 5, 6, 7, 8, 9, 10]]] m19.nargs m19.params m19.results = some m19.body := by kernel_rfl

def m20k0 : List (Nat × KMode) := [(0, .plain), (2, .plain), (4, .plain), (5, .plain), (6, .plain)]
def m20b0 : MCode :=
 .seq (.seq (.rg [⟨some (.t 16), .mv (.v 6), none⟩,
   ⟨some (.t 17), .mv (.v 0), none⟩,
   ⟨some (.t 18), .len false (.t 17), none⟩,
   ⟨some (.v 19), .bin .lss (.t 16) (.t 18), none⟩])
   (.cond (.v 19) (.skip)
   (.exit 0)))
  (.seq (.block 1 (.seq (.rg [⟨some (.t 23), .mv (.v 0), none⟩,
   ⟨some (.t 24), .mv (.v 6), none⟩,
   ⟨some (.t 25), .iad 2 (.t 23) (.t 24), none⟩,
   ⟨some (.t 26), .fad 0 (.t 25), none⟩,
   ⟨some (.t 27), .load false 1 (.t 26), none⟩,
   ⟨some (.t 28), .call 56 [.t 27], none⟩,
   ⟨some (.t 22), .mv (.t 28), none⟩,
   ⟨some (.t 29), .ext 0 (.t 22), none⟩,
   ⟨some (.t 30), .ext 1 (.t 22), none⟩,
   ⟨some (.v 7), .alloc [.int .i64 0, .int .i64 0, .bool false, .nilsl, .nilsl], none⟩,
   ⟨none, .store 5 (.v 7) (.t 29), none⟩,
   ⟨some (.v 8), .mv (.t 30), none⟩])
   (.seq (.seq (.rg [⟨some (.t 31), .mv (.v 8), none⟩,
   ⟨some (.v 32), .un .not (.t 31), none⟩])
   (.cond (.v 32) (.seq (.rg [⟨some (.t 33), .build [.int .i64 0, .int .i64 0, .bool false, .nilsl, .nilsl] [], none⟩,
   ⟨none, .store 5 (.v 2) (.t 33), none⟩,
   ⟨some (.v 3), .mv (.c (.int .i64 30)), none⟩])
   (.ret))
   (.skip)))
   (.seq (.seq (.rg [⟨some (.t 34), .mv (.v 0), none⟩,
   ⟨some (.t 35), .mv (.v 6), none⟩,
   ⟨some (.t 36), .iad 2 (.t 34) (.t 35), none⟩,
   ⟨some (.t 37), .fad 1 (.t 36), none⟩,
   ⟨some (.t 38), .load false 1 (.t 37), none⟩,
   ⟨some (.t 39), .call 51 [.t 38], none⟩,
   ⟨some (.v 40), .un .not (.t 39), none⟩])
   (.cond (.v 40) (.rg [⟨some (.v 5), .mv (.c (.int .i64 31)), none⟩])
   (.skip)))
   (.seq (.rgd [⟨some (.t 41), .mv (.v 0), none⟩,
   ⟨some (.t 42), .mv (.v 6), none⟩,
   ⟨some (.t 43), .iad 2 (.t 41) (.t 42), none⟩,
   ⟨some (.t 44), .fad 1 (.t 43), none⟩,
   ⟨some (.t 45), .load false 1 (.t 44), none⟩,
   ⟨some (.t 46), .call 52 [.t 45], none⟩,
   ⟨some (.t 47), .mv (.v 0), none⟩,
   ⟨some (.t 48), .mv (.v 6), none⟩,
   ⟨some (.t 49), .iad 2 (.t 47) (.t 48), none⟩,
   ⟨some (.t 50), .fad 1 (.t 49), none⟩,
   ⟨some (.t 51), .load false 1 (.t 50), none⟩,
   ⟨some (.t 52), .s2b (.t 51), none⟩,
   ⟨some (.t 53), .build [.int .i64 0, .int .i64 0, .bool false, .nilsl, .nilsl] [(1, 1, .t 46), (3, 1, .t 52)], none⟩,
   ⟨some (.v 9), .alloc [.int .i64 0, .int .i64 0, .bool false, .nilsl, .nilsl], none⟩,
   ⟨none, .store 5 (.v 9) (.t 53), none⟩]
   [[], [], [0, 1], [0, 1, 2], [0, 1, 2, 3], [0, 1, 2, 3, 4], [], [], [6, 7], [6, 7, 8], [6, 7, 8, 9], [6, 7, 8, 9, 10], [0, 1, 2, 3, 4, 5, 6, 7, 8, 9, 10, 11], [], [0, 1, 2, 3, 4, 5, 6, 7, 8, 9, 10, 11, 12, 13]])
   (.seq (.rg [⟨some (.t 54), .load true 5 (.v 7), none⟩,
   ⟨some (.t 55), .load true 5 (.v 9), none⟩,
   ⟨some (.t 56), .bslE 5 (.agg [.int .i64 0, .int .i64 0, .bool false, .nilsl, .nilsl]) 2 [(0, .t 54), (1, .t 55)], none⟩,
   ⟨some (.t 57), .build [.int .i64 0, .int .i64 0, .bool false, .nilsl, .nilsl] [(1, 1, .c (.int .i64 16)), (2, 1, .c (.bool true)), (4, 1, .t 56)], none⟩,
   ⟨some (.v 10), .alloc [.int .i64 0, .int .i64 0, .bool false, .nilsl, .nilsl], none⟩,
   ⟨none, .store 5 (.v 10) (.t 57), none⟩])
   (.rg [⟨some (.t 58), .fad 4 (.v 4), none⟩,
   ⟨some (.t 59), .load false 1 (.t 58), none⟩,
   ⟨some (.t 60), .load true 5 (.v 10), none⟩,
   ⟨some (.t 61), .bslE 5 (.agg [.int .i64 0, .int .i64 0, .bool false, .nilsl, .nilsl]) 1 [(0, .t 60)], none⟩,
   ⟨some (.t 62), .build [.int .i64 0, .int .i64 0, .bool false, .nilsl, .nilsl] [(1, 1, .c (.int .i64 17)), (2, 1, .c (.bool true)), (4, 1, .t 61)], none⟩,
   ⟨some (.t 63), .bslE 5 (.agg [.int .i64 0, .int .i64 0, .bool false, .nilsl, .nilsl]) 1 [(0, .t 62)], none⟩,
   ⟨some (.t 64), .app false 5 72 (.t 59) (.t 63), none⟩,
   ⟨some (.t 65), .fad 4 (.v 4), none⟩,
   ⟨none, .store 1 (.t 65) (.t 64), none⟩])))))))
   (.rg [⟨some (.t 20), .mv (.v 6), none⟩,
   ⟨some (.t 21), .bin .add (.t 20) (.c (.int .i64 1)), none⟩,
   ⟨some (.v 6), .mv (.t 21), none⟩]))
def m20 : MFunc := ⟨1, [.el 2], [(2, some (true, 5), .other), (3, none, .other)],
 .seq (.rg [⟨some (.v 2), .alloc [.int .i64 0, .int .i64 0, .bool false, .nilsl, .nilsl], none⟩,
   ⟨some (.v 3), .mv (.c (.int .i64 0)), none⟩])
  (.seq (.seq (.rg [⟨some (.t 11), .mv (.v 0), none⟩,
   ⟨some (.t 12), .len false (.t 11), none⟩,
   ⟨some (.v 13), .bin .gtr (.t 12) (.c (.int .i64 16)), none⟩])
   (.cond (.v 13) (.seq (.rg [⟨some (.t 14), .build [.int .i64 0, .int .i64 0, .bool false, .nilsl, .nilsl] [], none⟩,
   ⟨none, .store 5 (.v 2) (.t 14), none⟩,
   ⟨some (.v 3), .mv (.c (.int .i64 30)), none⟩])
   (.ret))
   (.skip)))
   (.seq (.rg [⟨some (.t 15), .build [.int .i64 0, .int .i64 0, .bool false, .nilsl, .nilsl] [(1, 1, .c (.int .i64 16)), (2, 1, .c (.bool true))], none⟩,
   ⟨some (.v 4), .alloc [.int .i64 0, .int .i64 0, .bool false, .nilsl, .nilsl], none⟩,
   ⟨none, .store 5 (.v 4) (.t 15), none⟩])
   (.seq (.rg [⟨some (.v 5), .mv (.c (.int .i64 0)), none⟩])
   (.seq (.seq (.rg [⟨some (.v 6), .mv (.c (.int .i64 0)), none⟩])
   (.block 0 (.loop m20k0 m20b0)))
   (.seq (.seq (.rg [⟨some (.t 66), .mv (.v 5), none⟩,
   ⟨some (.v 67), .bin .neq (.t 66) (.c (.int .i64 0)), none⟩])
   (.cond (.v 67) (.seq (.rg [⟨some (.t 68), .build [.int .i64 0, .int .i64 0, .bool false, .nilsl, .nilsl] [], none⟩,
   ⟨some (.t 69), .mv (.v 5), none⟩,
   ⟨none, .store 5 (.v 2) (.t 68), none⟩,
   ⟨some (.v 3), .mv (.t 69), none⟩])
   (.ret))
   (.skip)))
   (.seq (.rg [⟨some (.t 70), .load true 5 (.v 4), none⟩,
   ⟨none, .store 5 (.v 2) (.t 70), none⟩,
   ⟨some (.v 3), .mv (.c (.int .i64 0)), none⟩])
   (.ret)))))))⟩
theorem m20o : okFn Tryz.prog 20 [11, 12, 14, 15, 16, 17, 18, 20, 21, 22, 23, 24, 25, 26, 27, 28, 29, 30, 31, 33, 34, 35, 36, 37, 38, 39, 41, 42, 43, 44, 45, 46, 47, 48, 49, 50, 51, 52, 53, 54, 55, 56, 57, 58, 59, 60, 61, 62, 63, 64, 65, 66, 68, 69, 70] [m20k0] [[[], [], [0, 1], [0, 1, 2], [0, 1, 2, 3], [0, 1, 2, 3, 4], [], [], [6, 7], [6, 7, 8], [6, 7, 8, 9], [6, 7, 8, 9, 10], [0, 1, 2, 3, 4, 5, 6, 7, 8, 9, 10, 11], [], [0, 1, 2, 3, 4, 5, 6, 7, 8, 9, 10, 11, 12, 13]]] m20.nargs m20.params m20.results = some m20.body := by kernel_rfl

def m21k0 : List (Nat × KMode) := [(3, (.ownE 2)), (6, .plain), (7, .plain), (8, .plain)]
def m21b0 : MCode :=
 .seq (.rg [⟨some (.v 9), .bin .lss (.v 8) (.v 7), none⟩])
  (.seq (.cond (.v 9) (.skip)
   (.exit 0))
   (.seq (.block 1 (.seq (.rg [⟨some (.t 10), .iad 2 (.v 6) (.v 8), none⟩,
   ⟨some (.t 11), .load true 2 (.t 10), none⟩,
   ⟨some (.v 5), .alloc [.str [], .str []], none⟩,
   ⟨none, .store 2 (.v 5) (.t 11), none⟩])
   (.rg [⟨some (.t 12), .mv (.v 3), none⟩,
   ⟨some (.t 13), .fad 0 (.v 5), none⟩,
   ⟨some (.t 14), .load false 1 (.t 13), none⟩,
   ⟨some (.t 15), .fad 1 (.v 5), none⟩,
   ⟨some (.t 16), .load false 1 (.t 15), none⟩,
   ⟨some (.t 17), .build [.str [], .str []] [(0, 1, .t 14), (1, 1, .t 16)], none⟩,
   ⟨some (.t 18), .bslE 2 (.agg [.str [], .str []]) 1 [(0, .t 17)], none⟩,
   ⟨some (.t 19), .app false 2 32 (.t 12) (.t 18), none⟩,
   ⟨some (.v 3), .mv (.t 19), none⟩])))
   (.rg [⟨some (.t 20), .bin .add (.v 8) (.c (.int .i64 1)), none⟩,
   ⟨some (.v 8), .mv (.t 20), none⟩])))
def m21 : MFunc := ⟨1, [.el 2], [(2, none, .el 2)],
 .seq (.rg [⟨some (.v 2), .mv (.c (.nilsl)), none⟩])
  (.seq (.rg [⟨some (.v 3), .mv (.c (.nilsl)), none⟩])
   (.seq (.seq (.rg [⟨some (.v 6), .mv (.v 0), none⟩,
   ⟨some (.v 7), .len false (.v 6), none⟩,
   ⟨some (.v 8), .mv (.c (.int .i64 0)), none⟩])
   (.block 0 (.loop m21k0 m21b0)))
   (.seq (.rg [⟨some (.t 21), .mv (.v 3), none⟩,
   ⟨some (.v 2), .mv (.t 21), none⟩])
   (.ret))))⟩
theorem m21o : okFn Tryz.prog 21 [10, 11, 12, 13, 14, 15, 16, 17, 18, 19, 20, 21] [m21k0] [] m21.nargs m21.params m21.results = some m21.body := by kernel_rfl

def m22k0 : List (Nat × KMode) := [(0, .plain), (1, .plain), (5, .plain)]
def m22b0 : MCode :=
 .seq (.seq (.rg [⟨some (.t 11), .mv (.v 5), none⟩,
   ⟨some (.t 12), .mv (.v 0), none⟩,
   ⟨some (.t 13), .len false (.t 12), none⟩,
   ⟨some (.v 14), .bin .lss (.t 11) (.t 13), none⟩])
   (.cond (.v 14) (.skip)
   (.exit 0)))
  (.seq (.block 1 (.seq (.rgd [⟨some (.t 17), .mv (.v 0), none⟩,
   ⟨some (.t 18), .mv (.v 5), none⟩,
   ⟨some (.t 19), .iad 2 (.t 17) (.t 18), none⟩,
   ⟨some (.t 20), .load true 2 (.t 19), none⟩,
   ⟨some (.t 21), .mv (.v 1), none⟩,
   ⟨some (.t 22), .mv (.v 5), none⟩,
   ⟨some (.t 23), .iad 2 (.t 21) (.t 22), none⟩,
   ⟨some (.t 24), .load true 2 (.t 23), none⟩,
   ⟨some (.v 25), .eqs (.struct [.str, .str]) true (.t 20) (.t 24), none⟩]
   [[], [], [0, 1], [0, 1, 2], [], [], [4, 5], [4, 5, 6], [0, 1, 2, 3, 4, 5, 6, 7]])
   (.cond (.v 25) (.seq (.rg [⟨some (.v 4), .mv (.c (.bool false)), none⟩])
   (.ret))
   (.skip))))
   (.rg [⟨some (.t 15), .mv (.v 5), none⟩,
   ⟨some (.t 16), .bin .add (.t 15) (.c (.int .i64 1)), none⟩,
   ⟨some (.v 5), .mv (.t 16), none⟩]))
def m22 : MFunc := ⟨2, [.el 2, .el 2], [(4, none, .other)],
 .seq (.rg [⟨some (.v 4), .mv (.c (.bool false)), none⟩])
  (.seq (.seq (.rg [⟨some (.t 6), .mv (.v 0), none⟩,
   ⟨some (.t 7), .len false (.t 6), none⟩,
   ⟨some (.t 8), .mv (.v 1), none⟩,
   ⟨some (.t 9), .len false (.t 8), none⟩,
   ⟨some (.v 10), .bin .neq (.t 7) (.t 9), none⟩])
   (.cond (.v 10) (.seq (.rg [⟨some (.v 4), .mv (.c (.bool false)), none⟩])
   (.ret))
   (.skip)))
   (.seq (.seq (.rg [⟨some (.v 5), .mv (.c (.int .i64 0)), none⟩])
   (.block 0 (.loop m22k0 m22b0)))
   (.seq (.rg [⟨some (.v 4), .mv (.c (.bool true)), none⟩])
   (.ret))))⟩
theorem m22o : okFn Tryz.prog 22 [6, 7, 8, 9, 11, 12, 13, 15, 16, 17, 18, 19, 20, 21, 22, 23, 24] [m22k0] [[[], [], [0, 1], [0, 1, 2], [], [], [4, 5], [4, 5, 6], [0, 1, 2, 3, 4, 5, 6, 7]]] m22.nargs m22.params m22.results = some m22.body := by kernel_rfl

def m23k0 : List (Nat × KMode) := [(3, .plain), (44, .plain), (45, .plain), (46, .plain)]
def m23b0 : MCode :=
 .seq (.rg [⟨some (.v 47), .bin .lss (.v 46) (.v 45), none⟩])
  (.seq (.cond (.v 47) (.skip)
   (.exit 0))
   (.seq (.block 1 (.seq (.rg [⟨some (.t 48), .mv (.v 46), none⟩,
   ⟨some (.t 49), .iad 5 (.v 44) (.v 46), none⟩,
   ⟨some (.t 50), .load true 5 (.t 49), none⟩,
   ⟨some (.v 6), .alloc [.int .i64 0, .int .i64 0, .bool false, .nilsl, .nilsl], none⟩,
   ⟨some (.v 5), .mv (.t 48), none⟩,
   ⟨none, .store 5 (.v 6) (.t 50), none⟩])
   (.seq (.rgd [⟨some (.t 51), .load true 5 (.v 6), none⟩,
   ⟨some (.t 52), .fad 4 (.v 3), none⟩,
   ⟨some (.t 53), .load false 1 (.t 52), none⟩,
   ⟨some (.t 54), .mv (.v 5), none⟩,
   ⟨some (.t 55), .iad 5 (.t 53) (.t 54), none⟩,
   ⟨some (.t 56), .load true 5 (.t 55), none⟩,
   ⟨some (.t 57), .call 23 [.t 51, .t 56], none⟩,
   ⟨some (.v 58), .un .not (.t 57), none⟩]
   [[], [], [1], [], [1, 2, 3], [1, 2, 3, 4], [0, 1, 2, 3, 4, 5], [0, 1, 2, 3, 4, 5, 6]])
   (.cond (.v 58) (.seq (.rg [⟨some (.v 4), .mv (.c (.bool false)), none⟩])
   (.ret))
   (.skip)))))
   (.rg [⟨some (.t 59), .bin .add (.v 46) (.c (.int .i64 1)), none⟩,
   ⟨some (.v 46), .mv (.t 59), none⟩])))
def m23 : MFunc := ⟨2, [.other, .other], [(4, none, .other)],
 .seq (.rg [⟨some (.v 2), .box (.v 0), none⟩,
   ⟨some (.v 3), .box (.v 1), none⟩,
   ⟨some (.v 4), .mv (.c (.bool false)), none⟩])
  (.seq (.seq (.rg [⟨some (.t 7), .fad 0 (.v 2), none⟩,
   ⟨some (.t 8), .load false 1 (.t 7), none⟩,
   ⟨some (.t 9), .fad 0 (.v 3), none⟩,
   ⟨some (.t 10), .load false 1 (.t 9), none⟩,
   ⟨some (.t 11), .bin .neq (.t 8) (.t 10), none⟩,
   ⟨some (.t 12), .mv (.t 11), none⟩,
   ⟨some (.t 13), .fad 1 (.v 2), some (.t 12, false)⟩,
   ⟨some (.t 14), .load false 1 (.t 13), some (.t 12, false)⟩,
   ⟨some (.t 15), .fad 1 (.v 3), some (.t 12, false)⟩,
   ⟨some (.t 16), .load false 1 (.t 15), some (.t 12, false)⟩,
   ⟨some (.t 17), .bin .neq (.t 14) (.t 16), some (.t 12, false)⟩,
   ⟨some (.t 18), .pick (.t 12) (.c (.bool true)) (.t 17), none⟩,
   ⟨some (.t 19), .mv (.t 18), none⟩,
   ⟨some (.t 20), .fad 2 (.v 2), some (.t 19, false)⟩,
   ⟨some (.t 21), .load false 1 (.t 20), some (.t 19, false)⟩,
   ⟨some (.t 22), .fad 2 (.v 3), some (.t 19, false)⟩,
   ⟨some (.t 23), .load false 1 (.t 22), some (.t 19, false)⟩,
   ⟨some (.t 24), .eqs .bool true (.t 21) (.t 23), some (.t 19, false)⟩,
   ⟨some (.t 25), .pick (.t 19) (.c (.bool true)) (.t 24), none⟩,
   ⟨some (.t 26), .mv (.t 25), none⟩,
   ⟨some (.t 27), .fad 3 (.v 2), some (.t 26, false)⟩,
   ⟨some (.t 28), .load false 1 (.t 27), some (.t 26, false)⟩,
   ⟨some (.t 29), .fad 3 (.v 3), some (.t 26, false)⟩,
   ⟨some (.t 30), .load false 1 (.t 29), some (.t 26, false)⟩,
   ⟨some (.t 31), .call 57 [.t 28, .t 30], some (.t 26, false)⟩,
   ⟨some (.t 32), .un .not (.t 31), some (.t 26, false)⟩,
   ⟨some (.t 33), .pick (.t 26) (.c (.bool true)) (.t 32), none⟩,
   ⟨some (.t 34), .mv (.t 33), none⟩,
   ⟨some (.t 35), .fad 4 (.v 2), some (.t 34, false)⟩,
   ⟨some (.t 36), .load false 1 (.t 35), some (.t 34, false)⟩,
   ⟨some (.t 37), .len false (.t 36), some (.t 34, false)⟩,
   ⟨some (.t 38), .fad 4 (.v 3), some (.t 34, false)⟩,
   ⟨some (.t 39), .load false 1 (.t 38), some (.t 34, false)⟩,
   ⟨some (.t 40), .len false (.t 39), some (.t 34, false)⟩,
   ⟨some (.t 41), .bin .neq (.t 37) (.t 40), some (.t 34, false)⟩,
   ⟨some (.v 42), .pick (.t 34) (.c (.bool true)) (.t 41), none⟩])
   (.cond (.v 42) (.seq (.rg [⟨some (.v 4), .mv (.c (.bool false)), none⟩])
   (.ret))
   (.skip)))
   (.seq (.seq (.rg [⟨some (.t 43), .fad 4 (.v 2), none⟩,
   ⟨some (.v 44), .load false 1 (.t 43), none⟩,
   ⟨some (.v 45), .len false (.v 44), none⟩,
   ⟨some (.v 46), .mv (.c (.int .i64 0)), none⟩])
   (.block 0 (.loop m23k0 m23b0)))
   (.seq (.rg [⟨some (.v 4), .mv (.c (.bool true)), none⟩])
   (.ret))))⟩
theorem m23o : okFn Tryz.prog 23 [7, 8, 9, 10, 11, 12, 13, 14, 15, 16, 17, 18, 19, 20, 21, 22, 23, 24, 25, 26, 27, 28, 29, 30, 31, 32, 33, 34, 35, 36, 37, 38, 39, 40, 41, 43, 48, 49, 50, 51, 52, 53, 54, 55, 56, 57, 59] [m23k0] [[[], [], [1], [], [1, 2, 3], [1, 2, 3, 4], [0, 1, 2, 3, 4, 5], [0, 1, 2, 3, 4, 5, 6]]] m23.nargs m23.params m23.results = some m23.body := by kernel_rfl

def m24 : MFunc := ⟨2, [.el 2, .el 2], [(4, none, .other)],
 .seq (.rg [⟨some (.v 4), .mv (.c (.bool false)), none⟩])
  (.seq (.rg [⟨some (.t 5), .mv (.v 0), none⟩,
   ⟨some (.t 6), .mv (.v 1), none⟩,
   ⟨some (.t 7), .call 58 [.t 5, .t 6], none⟩,
   ⟨some (.v 4), .mv (.t 7), none⟩])
   (.ret))⟩
theorem m24o : okFn Tryz.prog 24 [5, 6, 7] [] [] m24.nargs m24.params m24.results = some m24.body := by kernel_rfl

def m25k0 : List (Nat × KMode) := [(2, .plain), (4, .plain), (5, .plain), (6, .plain)]
def m25b0 : MCode :=
 .seq (.seq (.rg [⟨some (.t 23), .mv (.v 6), none⟩,
   ⟨some (.t 24), .bin .add (.t 23) (.c (.int .i64 1)), none⟩,
   ⟨some (.t 25), .call 59 [.t 24, .c (.int .i64 1), .c (.int .i64 1)], none⟩,
   ⟨some (.t 26), .mv (.v 4), none⟩,
   ⟨some (.v 27), .bin .leq (.t 25) (.t 26), none⟩])
   (.cond (.v 27) (.skip)
   (.exit 0)))
  (.block 1 (.rg [⟨some (.t 28), .mv (.v 6), none⟩,
   ⟨some (.t 29), .bin .add (.t 28) (.c (.int .i64 1)), none⟩,
   ⟨some (.v 6), .mv (.t 29), none⟩]))
def m25k1 : List (Nat × KMode) := [(2, .plain), (4, .plain), (5, .plain), (6, .plain), (7, .plain)]
def m25b1 : MCode :=
 .seq (.seq (.rg [⟨some (.t 30), .mv (.v 7), none⟩,
   ⟨some (.t 31), .bin .lss (.t 30) (.c (.int .i64 12)), none⟩,
   ⟨some (.t 32), .mv (.t 31), none⟩,
   ⟨some (.t 33), .mv (.v 6), some (.t 32, true)⟩,
   ⟨some (.t 34), .mv (.v 7), some (.t 32, true)⟩,
   ⟨some (.t 35), .bin .add (.t 34) (.c (.int .i64 1)), some (.t 32, true)⟩,
   ⟨some (.t 36), .call 59 [.t 33, .t 35, .c (.int .i64 1)], some (.t 32, true)⟩,
   ⟨some (.t 37), .mv (.v 4), some (.t 32, true)⟩,
   ⟨some (.t 38), .bin .leq (.t 36) (.t 37), some (.t 32, true)⟩,
   ⟨some (.v 39), .pick (.t 32) (.t 38) (.c (.bool false)), none⟩])
   (.cond (.v 39) (.skip)
   (.exit 2)))
  (.block 3 (.rg [⟨some (.t 40), .mv (.v 7), none⟩,
   ⟨some (.t 41), .bin .add (.t 40) (.c (.int .i64 1)), none⟩,
   ⟨some (.v 7), .mv (.t 41), none⟩]))
def m25 : MFunc := ⟨1, [.other], [(2, some (true, 5), .other), (3, none, .other)],
 .seq (.rg [⟨some (.v 2), .alloc [.int .i64 0, .int .i64 0, .bool false, .nilsl, .nilsl], none⟩,
   ⟨some (.v 3), .mv (.c (.int .i64 0)), none⟩])
  (.seq (.seq (.rg [⟨some (.t 9), .mv (.v 0), none⟩,
   ⟨some (.t 10), .bin .lss (.t 9) (.c (.int .i64 0)), none⟩,
   ⟨some (.t 11), .mv (.t 10), none⟩,
   ⟨some (.t 12), .mv (.v 0), some (.t 11, false)⟩,
   ⟨some (.t 13), .bin .gtr (.t 12) (.c (.int .i64 253402300799)), some (.t 11, false)⟩,
   ⟨some (.v 14), .pick (.t 11) (.c (.bool true)) (.t 13), none⟩])
   (.cond (.v 14) (.seq (.rg [⟨some (.t 15), .build [.int .i64 0, .int .i64 0, .bool false, .nilsl, .nilsl] [], none⟩,
   ⟨none, .store 5 (.v 2) (.t 15), none⟩,
   ⟨some (.v 3), .mv (.c (.int .i64 32)), none⟩])
   (.ret))
   (.skip)))
   (.seq (.rg [⟨some (.t 16), .mv (.v 0), none⟩,
   ⟨some (.t 17), .bin .quo (.t 16) (.c (.int .i64 86400)), none⟩,
   ⟨some (.t 18), .mv (.v 0), none⟩,
   ⟨some (.t 19), .bin .rem (.t 18) (.c (.int .i64 86400)), none⟩,
   ⟨some (.v 4), .mv (.t 17), none⟩,
   ⟨some (.v 5), .mv (.t 19), none⟩])
   (.seq (.rg [⟨some (.t 20), .mv (.v 4), none⟩,
   ⟨some (.t 21), .bin .quo (.t 20) (.c (.int .i64 366)), none⟩,
   ⟨some (.t 22), .bin .add (.c (.int .i64 1970)) (.t 21), none⟩,
   ⟨some (.v 6), .mv (.t 22), none⟩])
   (.seq (.block 0 (.loop m25k0 m25b0))
   (.seq (.rg [⟨some (.v 7), .mv (.c (.int .i64 1)), none⟩])
   (.seq (.block 2 (.loop m25k1 m25b1))
   (.seq (.rg [⟨some (.t 42), .mv (.v 7), none⟩,
   ⟨some (.t 43), .call 60 [.t 42, .c (.int .i64 2)], none⟩,
   ⟨some (.t 44), .mv (.v 4), none⟩,
   ⟨some (.t 45), .mv (.v 6), none⟩,
   ⟨some (.t 46), .mv (.v 7), none⟩,
   ⟨some (.t 47), .call 59 [.t 45, .t 46, .c (.int .i64 1)], none⟩,
   ⟨some (.t 48), .bin .sub (.t 44) (.t 47), none⟩,
   ⟨some (.t 49), .bin .add (.t 48) (.c (.int .i64 1)), none⟩,
   ⟨some (.t 50), .call 60 [.t 49, .c (.int .i64 2)], none⟩,
   ⟨some (.t 51), .bin .add (.t 43) (.t 50), none⟩,
   ⟨some (.t 52), .mv (.v 5), none⟩,
   ⟨some (.t 53), .bin .quo (.t 52) (.c (.int .i64 3600)), none⟩,
   ⟨some (.t 54), .call 60 [.t 53, .c (.int .i64 2)], none⟩,
   ⟨some (.t 55), .bin .add (.t 51) (.t 54), none⟩,
   ⟨some (.t 56), .mv (.v 5), none⟩,
   ⟨some (.t 57), .bin .quo (.t 56) (.c (.int .i64 60)), none⟩,
   ⟨some (.t 58), .bin .rem (.t 57) (.c (.int .i64 60)), none⟩,
   ⟨some (.t 59), .call 60 [.t 58, .c (.int .i64 2)], none⟩,
   ⟨some (.t 60), .bin .add (.t 55) (.t 59), none⟩,
   ⟨some (.t 61), .mv (.v 5), none⟩,
   ⟨some (.t 62), .bin .rem (.t 61) (.c (.int .i64 60)), none⟩,
   ⟨some (.t 63), .call 60 [.t 62, .c (.int .i64 2)], none⟩,
   ⟨some (.t 64), .bin .add (.t 60) (.t 63), none⟩,
   ⟨some (.t 65), .bin .add (.t 64) (.c (.str [90])), none⟩,
   ⟨some (.v 8), .mv (.t 65), none⟩])
   (.seq (.seq (.rg [⟨some (.t 66), .mv (.v 6), none⟩,
   ⟨some (.v 67), .bin .lss (.t 66) (.c (.int .i64 2050)), none⟩])
   (.cond (.v 67) (.seq (.rg [⟨some (.t 68), .mv (.v 6), none⟩,
   ⟨some (.t 69), .bin .rem (.t 68) (.c (.int .i64 100)), none⟩,
   ⟨some (.t 70), .call 60 [.t 69, .c (.int .i64 2)], none⟩,
   ⟨some (.t 71), .mv (.v 8), none⟩,
   ⟨some (.t 72), .bin .add (.t 70) (.t 71), none⟩,
   ⟨some (.t 73), .s2b (.t 72), none⟩,
   ⟨some (.t 74), .build [.int .i64 0, .int .i64 0, .bool false, .nilsl, .nilsl] [(1, 1, .c (.int .i64 23)), (3, 1, .t 73)], none⟩,
   ⟨none, .store 5 (.v 2) (.t 74), none⟩,
   ⟨some (.v 3), .mv (.c (.int .i64 0)), none⟩])
   (.ret))
   (.skip)))
   (.seq (.rg [⟨some (.t 75), .mv (.v 6), none⟩,
   ⟨some (.t 76), .call 60 [.t 75, .c (.int .i64 4)], none⟩,
   ⟨some (.t 77), .mv (.v 8), none⟩,
   ⟨some (.t 78), .bin .add (.t 76) (.t 77), none⟩,
   ⟨some (.t 79), .s2b (.t 78), none⟩,
   ⟨some (.t 80), .build [.int .i64 0, .int .i64 0, .bool false, .nilsl, .nilsl] [(1, 1, .c (.int .i64 24)), (3, 1, .t 79)], none⟩,
   ⟨none, .store 5 (.v 2) (.t 80), none⟩,
   ⟨some (.v 3), .mv (.c (.int .i64 0)), none⟩])
   (.ret))))))))))⟩
theorem m25o : okFn Tryz.prog 25 [9, 10, 11, 12, 13, 15, 16, 17, 18, 19, 20, 21, 22, 23, 24, 25, 26, 28, 29, 30, 31, 32, 33, 34, 35, 36, 37, 38, 40, 41, 42, 43, 44, 45, 46, 47, 48, 49, 50, 51, 52, 53, 54, 55, 56, 57, 58, 59, 60, 61, 62, 63, 64, 65, 66, 68, 69, 70, 71, 72, 73, 74, 75, 76, 77, 78, 79, 80] [m25k0, m25k1] [] m25.nargs m25.params m25.results = some m25.body := by kernel_rfl

def m26k0 : List (Nat × KMode) := [(6, (.ownE 1)), (7, .plain), (29, .plain), (30, .plain), (31, .plain)]
def m26b0 : MCode :=
 .seq (.rg [⟨some (.v 32), .bin .lss (.v 31) (.v 30), none⟩])
  (.seq (.cond (.v 32) (.skip)
   (.exit 0))
   (.seq (.block 1 (.seq (.rg [⟨some (.t 33), .iad 1 (.v 29) (.v 31), none⟩,
   ⟨some (.t 34), .load false 1 (.t 33), none⟩,
   ⟨some (.v 9), .mv (.t 34), none⟩])
   (.seq (.seq (.rg [⟨some (.t 35), .mv (.v 7), none⟩,
   ⟨some (.t 36), .bin .shl (.t 35) (.c (.int .u64 7)), none⟩,
   ⟨some (.t 37), .mv (.v 9), none⟩,
   ⟨some (.t 38), .bin .and (.t 37) (.c (.int .u8 127)), none⟩,
   ⟨some (.t 39), .conv .i64 (.t 38), none⟩,
   ⟨some (.t 40), .bin .or (.t 36) (.t 39), none⟩,
   ⟨some (.v 7), .mv (.t 40), none⟩])
   (.seq (.rg [⟨some (.t 41), .mv (.v 7), none⟩,
   ⟨some (.v 42), .bin .geq (.t 41) (.c (.int .i64 1099511627776)), none⟩])
   (.cond (.v 42) (.seq (.rg [⟨some (.v 2), .mv (.c (.str [])), none⟩,
   ⟨some (.v 3), .mv (.c (.bool false)), none⟩])
   (.ret))
   (.skip))))
   (.seq (.seq (.rg [⟨some (.t 43), .mv (.v 9), none⟩,
   ⟨some (.v 44), .bin .geq (.t 43) (.c (.int .u8 128)), none⟩])
   (.cond (.v 44) (.exit 1)
   (.skip)))
   (.seq (.seq (.rg [⟨some (.t 45), .mv (.v 6), none⟩,
   ⟨some (.t 46), .len false (.t 45), none⟩,
   ⟨some (.v 47), .bin .eql (.t 46) (.c (.int .i64 0)), none⟩])
   (.cond (.v 47) (.seq (.rg [⟨some (.t 48), .mv (.v 7), none⟩,
   ⟨some (.t 49), .bin .quo (.t 48) (.c (.int .i64 40)), none⟩,
   ⟨some (.t 50), .minmax false [.t 49, .c (.int .i64 2)], none⟩,
   ⟨some (.v 10), .mv (.t 50), none⟩])
   (.rg [⟨some (.t 51), .mv (.v 6), none⟩,
   ⟨some (.t 52), .mv (.v 10), none⟩,
   ⟨some (.t 53), .call 61 [.t 52], none⟩,
   ⟨some (.t 54), .bslE 1 (.str []) 1 [(0, .t 53)], none⟩,
   ⟨some (.t 55), .app false 1 16 (.t 51) (.t 54), none⟩,
   ⟨some (.t 56), .mv (.v 7), none⟩,
   ⟨some (.t 57), .mv (.v 10), none⟩,
   ⟨some (.t 58), .bin .mul (.c (.int .i64 40)) (.t 57), none⟩,
   ⟨some (.t 59), .bin .sub (.t 56) (.t 58), none⟩,
   ⟨some (.v 6), .mv (.t 55), none⟩,
   ⟨some (.v 7), .mv (.t 59), none⟩]))
   (.skip)))
   (.rg [⟨some (.t 60), .mv (.v 6), none⟩,
   ⟨some (.t 61), .mv (.v 7), none⟩,
   ⟨some (.t 62), .call 61 [.t 61], none⟩,
   ⟨some (.t 63), .bslE 1 (.str []) 1 [(0, .t 62)], none⟩,
   ⟨some (.t 64), .app false 1 16 (.t 60) (.t 63), none⟩,
   ⟨some (.v 6), .mv (.t 64), none⟩,
   ⟨some (.v 7), .mv (.c (.int .i64 0)), none⟩]))))))
   (.rg [⟨some (.t 65), .bin .add (.v 31) (.c (.int .i64 1)), none⟩,
   ⟨some (.v 31), .mv (.t 65), none⟩])))
def m26 : MFunc := ⟨1, [.other], [(2, none, .other), (3, none, .other)],
 .seq (.rg [⟨some (.v 1), .box (.v 0), none⟩,
   ⟨some (.v 2), .mv (.c (.str [])), none⟩,
   ⟨some (.v 3), .mv (.c (.bool false)), none⟩])
  (.seq (.seq (.rg [⟨some (.t 12), .load true 5 (.v 1), none⟩,
   ⟨some (.t 13), .call 44 [.t 12], none⟩,
   ⟨some (.t 11), .mv (.t 13), none⟩,
   ⟨some (.t 14), .ext 0 (.t 11), none⟩,
   ⟨some (.t 15), .ext 1 (.t 11), none⟩,
   ⟨some (.t 4), .mv (.t 14), none⟩,
   ⟨some (.v 5), .mv (.t 15), none⟩])
   (.seq (.rg [⟨some (.t 16), .mv (.v 5), none⟩,
   ⟨some (.t 17), .bin .neq (.t 16) (.c (.int .i64 0)), none⟩,
   ⟨some (.t 18), .mv (.t 17), none⟩,
   ⟨some (.t 19), .fad 0 (.v 1), some (.t 18, false)⟩,
   ⟨some (.t 20), .load false 1 (.t 19), some (.t 18, false)⟩,
   ⟨some (.t 21), .bin .neq (.t 20) (.c (.int .i64 0)), some (.t 18, false)⟩,
   ⟨some (.t 22), .pick (.t 18) (.c (.bool true)) (.t 21), none⟩,
   ⟨some (.t 23), .mv (.t 22), none⟩,
   ⟨some (.t 24), .fad 1 (.v 1), some (.t 23, false)⟩,
   ⟨some (.t 25), .load false 1 (.t 24), some (.t 23, false)⟩,
   ⟨some (.t 26), .bin .neq (.t 25) (.c (.int .i64 6)), some (.t 23, false)⟩,
   ⟨some (.v 27), .pick (.t 23) (.c (.bool true)) (.t 26), none⟩])
   (.cond (.v 27) (.seq (.rg [⟨some (.v 2), .mv (.c (.str [])), none⟩,
   ⟨some (.v 3), .mv (.c (.bool false)), none⟩])
   (.ret))
   (.skip))))
   (.seq (.rg [⟨some (.v 6), .mv (.c (.nilsl)), none⟩])
   (.seq (.rg [⟨some (.v 7), .mv (.c (.int .i64 0)), none⟩])
   (.seq (.seq (.rg [⟨some (.t 28), .fad 3 (.v 1), none⟩,
   ⟨some (.v 29), .load false 1 (.t 28), none⟩,
   ⟨some (.v 30), .len false (.v 29), none⟩,
   ⟨some (.v 31), .mv (.c (.int .i64 0)), none⟩])
   (.block 0 (.loop m26k0 m26b0)))
   (.seq (.seq (.rg [⟨some (.t 66), .mv (.v 6), none⟩,
   ⟨some (.t 67), .len false (.t 66), none⟩,
   ⟨some (.v 68), .bin .gtr (.t 67) (.c (.int .i64 20)), none⟩])
   (.cond (.v 68) (.seq (.rg [⟨some (.v 2), .mv (.c (.str [])), none⟩,
   ⟨some (.v 3), .mv (.c (.bool false)), none⟩])
   (.ret))
   (.skip)))
   (.seq (.rg [⟨some (.t 69), .mv (.v 6), none⟩,
   ⟨some (.t 70), .call 62 [.t 69, .c (.str [46])], none⟩,
   ⟨some (.v 2), .mv (.t 70), none⟩,
   ⟨some (.v 3), .mv (.c (.bool true)), none⟩])
   (.ret)))))))⟩
theorem m26o : okFn Tryz.prog 26 [4, 11, 12, 13, 14, 15, 16, 17, 18, 19, 20, 21, 22, 23, 24, 25, 26, 28, 33, 34, 35, 36, 37, 38, 39, 40, 41, 43, 45, 46, 48, 49, 50, 51, 52, 53, 54, 55, 56, 57, 58, 59, 60, 61, 62, 63, 64, 65, 66, 67, 69, 70] [m26k0] [] m26.nargs m26.params m26.results = some m26.body := by kernel_rfl

def m27k0 : List (Nat × KMode) := [(1, .plain), (7, (.ownE 1)), (59, .plain), (60, .plain)]
def m27b0 : MCode :=
 .seq (.rg [⟨some (.v 61), .bin .lss (.v 60) (.c (.int .i64 6)), none⟩])
  (.seq (.cond (.v 61) (.skip)
   (.exit 0))
   (.seq (.block 1 (.seq (.rg [⟨some (.t 62), .idxA false 1 6 (.v 59) (.v 60), none⟩,
   ⟨some (.v 9), .mv (.t 62), none⟩])
   (.seq (.rg [⟨some (.t 64), .mv (.v 9), none⟩,
   ⟨some (.t 65), .call 63 [.t 64], none⟩,
   ⟨some (.t 63), .mv (.t 65), none⟩,
   ⟨some (.t 66), .ext 0 (.t 63), none⟩,
   ⟨some (.t 67), .ext 1 (.t 63), none⟩,
   ⟨some (.v 10), .mv (.t 66), none⟩,
   ⟨some (.t 11), .mv (.t 67), none⟩])
   (.rg [⟨some (.t 68), .mv (.v 7), none⟩,
   ⟨some (.t 69), .mv (.v 10), none⟩,
   ⟨some (.t 70), .bslE 1 (.int .i64 0) 1 [(0, .t 69)], none⟩,
   ⟨some (.t 71), .app false 1 8 (.t 68) (.t 70), none⟩,
   ⟨some (.v 7), .mv (.t 71), none⟩]))))
   (.rg [⟨some (.t 72), .bin .add (.v 60) (.c (.int .i64 1)), none⟩,
   ⟨some (.v 60), .mv (.t 72), none⟩])))
def m27 : MFunc := ⟨1, [.other], [(2, none, .other), (3, none, .other)],
 .seq (.rg [⟨some (.v 1), .box (.v 0), none⟩,
   ⟨some (.v 2), .mv (.c (.int .i64 0)), none⟩,
   ⟨some (.v 3), .mv (.c (.int .i64 0)), none⟩])
  (.seq (.seq (.rg [⟨some (.t 13), .load true 5 (.v 1), none⟩,
   ⟨some (.t 14), .call 44 [.t 13], none⟩,
   ⟨some (.t 12), .mv (.t 14), none⟩,
   ⟨some (.t 15), .ext 0 (.t 12), none⟩,
   ⟨some (.t 16), .ext 1 (.t 12), none⟩,
   ⟨some (.t 4), .mv (.t 15), none⟩,
   ⟨some (.v 5), .mv (.t 16), none⟩])
   (.seq (.rg [⟨some (.t 17), .mv (.v 5), none⟩,
   ⟨some (.t 18), .bin .neq (.t 17) (.c (.int .i64 0)), none⟩,
   ⟨some (.t 19), .mv (.t 18), none⟩,
   ⟨some (.t 20), .fad 0 (.v 1), some (.t 19, false)⟩,
   ⟨some (.t 21), .load false 1 (.t 20), some (.t 19, false)⟩,
   ⟨some (.t 22), .bin .neq (.t 21) (.c (.int .i64 0)), some (.t 19, false)⟩,
   ⟨some (.t 23), .pick (.t 19) (.c (.bool true)) (.t 22), none⟩,
   ⟨some (.t 24), .mv (.t 23), none⟩,
   ⟨some (.t 25), .fad 1 (.v 1), some (.t 24, false)⟩,
   ⟨some (.t 26), .load false 1 (.t 25), some (.t 24, false)⟩,
   ⟨some (.t 27), .bin .neq (.t 26) (.c (.int .i64 23)), some (.t 24, false)⟩,
   ⟨some (.t 28), .mv (.t 27), some (.t 24, false)⟩,
   ⟨some (.t 29), .fad 1 (.v 1), some (.t 28, true)⟩,
   ⟨some (.t 30), .load false 1 (.t 29), some (.t 28, true)⟩,
   ⟨some (.t 31), .bin .neq (.t 30) (.c (.int .i64 24)), some (.t 28, true)⟩,
   ⟨some (.t 32), .pick (.t 28) (.t 31) (.c (.bool false)), some (.t 24, false)⟩,
   ⟨some (.v 33), .pick (.t 24) (.c (.bool true)) (.t 32), none⟩])
   (.cond (.v 33) (.seq (.rg [⟨some (.v 2), .mv (.c (.int .i64 0)), none⟩,
   ⟨some (.v 3), .mv (.c (.int .i64 30)), none⟩])
   (.ret))
   (.skip))))
   (.seq (.rg [⟨some (.t 34), .fad 3 (.v 1), none⟩,
   ⟨some (.t 35), .load false 1 (.t 34), none⟩,
   ⟨some (.t 36), .b2s (.t 35), none⟩,
   ⟨some (.v 6), .mv (.t 36), none⟩])
   (.seq (.seq (.rg [⟨some (.t 37), .fad 1 (.v 1), none⟩,
   ⟨some (.t 38), .load false 1 (.t 37), none⟩,
   ⟨some (.v 39), .bin .eql (.t 38) (.c (.int .i64 23)), none⟩])
   (.cond (.v 39) (.seq (.rg [⟨some (.t 40), .mv (.v 6), none⟩,
   ⟨some (.t 41), .idxS (.t 40) (.c (.int .i64 0)), none⟩,
   ⟨some (.v 42), .bin .geq (.t 41) (.c (.int .u8 53)), none⟩])
   (.cond (.v 42) (.rg [⟨some (.t 43), .mv (.v 6), none⟩,
   ⟨some (.t 44), .bin .add (.c (.str [49, 57])) (.t 43), none⟩,
   ⟨some (.v 6), .mv (.t 44), none⟩])
   (.rg [⟨some (.t 45), .mv (.v 6), none⟩,
   ⟨some (.t 46), .bin .add (.c (.str [50, 48])) (.t 45), none⟩,
   ⟨some (.v 6), .mv (.t 46), none⟩])))
   (.skip)))
   (.seq (.rg [⟨some (.v 7), .mv (.c (.nilsl)), none⟩])
   (.seq (.seq (.rgd [⟨some (.t 47), .mv (.v 6), none⟩,
   ⟨some (.t 48), .slc true 1 (.t 47) none (some (.c (.int .i64 4))), none⟩,
   ⟨some (.t 49), .mv (.v 6), none⟩,
   ⟨some (.t 50), .slc true 1 (.t 49) (some (.c (.int .i64 4))) (some (.c (.int .i64 6))), none⟩,
   ⟨some (.t 51), .mv (.v 6), none⟩,
   ⟨some (.t 52), .slc true 1 (.t 51) (some (.c (.int .i64 6))) (some (.c (.int .i64 8))), none⟩,
   ⟨some (.t 53), .mv (.v 6), none⟩,
   ⟨some (.t 54), .slc true 1 (.t 53) (some (.c (.int .i64 8))) (some (.c (.int .i64 10))), none⟩,
   ⟨some (.t 55), .mv (.v 6), none⟩,
   ⟨some (.t 56), .slc true 1 (.t 55) (some (.c (.int .i64 10))) (some (.c (.int .i64 12))), none⟩,
   ⟨some (.t 57), .mv (.v 6), none⟩,
   ⟨some (.t 58), .slc true 1 (.t 57) (some (.c (.int .i64 12))) (some (.c (.int .i64 14))), none⟩,
   ⟨some (.v 59), .build [.str [], .str [], .str [], .str [], .str [], .str []] [(0, 1, .t 48), (1, 1, .t 50), (2, 1, .t 52), (3, 1, .t 54), (4, 1, .t 56), (5, 1, .t 58)], none⟩,
   ⟨some (.v 60), .mv (.c (.int .i64 0)), none⟩]
   [[], [0], [], [2], [], [4], [], [6], [], [8], [], [10], [0, 1, 2, 3, 4, 5, 6, 7, 8, 9, 10, 11], []])
   (.block 0 (.loop m27k0 m27b0)))
   (.seq (.seq (.rg [⟨some (.t 73), .mv (.v 7), none⟩,
   ⟨some (.t 74), .iad 1 (.t 73) (.c (.int .i64 0)), none⟩,
   ⟨some (.t 75), .load false 1 (.t 74), none⟩,
   ⟨some (.t 76), .bin .lss (.t 75) (.c (.int .i64 1970)), none⟩,
   ⟨some (.t 77), .mv (.t 76), none⟩,
   ⟨some (.t 78), .fad 1 (.v 1), some (.t 77, false)⟩,
   ⟨some (.t 79), .load false 1 (.t 78), some (.t 77, false)⟩,
   ⟨some (.t 80), .bin .eql (.t 79) (.c (.int .i64 24)), some (.t 77, false)⟩,
   ⟨some (.t 81), .mv (.t 80), some (.t 77, false)⟩,
   ⟨some (.t 82), .mv (.v 7), some (.t 81, true)⟩,
   ⟨some (.t 83), .iad 1 (.t 82) (.c (.int .i64 0)), some (.t 81, true)⟩,
   ⟨some (.t 84), .load false 1 (.t 83), some (.t 81, true)⟩,
   ⟨some (.t 85), .bin .lss (.t 84) (.c (.int .i64 2050)), some (.t 81, true)⟩,
   ⟨some (.t 86), .pick (.t 81) (.t 85) (.c (.bool false)), some (.t 77, false)⟩,
   ⟨some (.v 87), .pick (.t 77) (.c (.bool true)) (.t 86), none⟩])
   (.cond (.v 87) (.seq (.rg [⟨some (.v 2), .mv (.c (.int .i64 0)), none⟩,
   ⟨some (.v 3), .mv (.c (.int .i64 32)), none⟩])
   (.ret))
   (.skip)))
   (.seq (.rgd [⟨some (.t 88), .mv (.v 7), none⟩,
   ⟨some (.t 89), .iad 1 (.t 88) (.c (.int .i64 0)), none⟩,
   ⟨some (.t 90), .load false 1 (.t 89), none⟩,
   ⟨some (.t 91), .mv (.v 7), none⟩,
   ⟨some (.t 92), .iad 1 (.t 91) (.c (.int .i64 1)), none⟩,
   ⟨some (.t 93), .load false 1 (.t 92), none⟩,
   ⟨some (.t 94), .mv (.v 7), none⟩,
   ⟨some (.t 95), .iad 1 (.t 94) (.c (.int .i64 2)), none⟩,
   ⟨some (.t 96), .load false 1 (.t 95), none⟩,
   ⟨some (.t 97), .call 59 [.t 90, .t 93, .t 96], none⟩,
   ⟨some (.t 98), .bin .mul (.c (.int .i64 86400)) (.t 97), none⟩,
   ⟨some (.t 99), .mv (.v 7), none⟩,
   ⟨some (.t 100), .iad 1 (.t 99) (.c (.int .i64 3)), none⟩,
   ⟨some (.t 101), .load false 1 (.t 100), none⟩,
   ⟨some (.t 102), .bin .mul (.c (.int .i64 3600)) (.t 101), none⟩,
   ⟨some (.t 103), .bin .add (.t 98) (.t 102), none⟩,
   ⟨some (.t 104), .mv (.v 7), none⟩,
   ⟨some (.t 105), .iad 1 (.t 104) (.c (.int .i64 4)), none⟩,
   ⟨some (.t 106), .load false 1 (.t 105), none⟩,
   ⟨some (.t 107), .bin .mul (.c (.int .i64 60)) (.t 106), none⟩,
   ⟨some (.t 108), .bin .add (.t 103) (.t 107), none⟩,
   ⟨some (.t 109), .mv (.v 7), none⟩,
   ⟨some (.t 110), .iad 1 (.t 109) (.c (.int .i64 5)), none⟩,
   ⟨some (.t 111), .load false 1 (.t 110), none⟩,
   ⟨some (.t 112), .bin .add (.t 108) (.t 111), none⟩,
   ⟨some (.v 2), .mv (.t 112), none⟩,
   ⟨some (.v 3), .mv (.c (.int .i64 0)), none⟩]
   [[], [0], [0, 1], [], [3], [3, 4], [], [6], [6, 7], [0, 1, 2, 3, 4, 5, 6, 7, 8], [0, 1, 2, 3, 4, 5, 6, 7, 8, 9], [], [11], [11, 12], [11, 12, 13], [0, 1, 2, 3, 4, 5, 6, 7, 8, 9, 10, 11, 12, 13, 14], [], [16], [16, 17], [16, 17, 18], [0, 1, 2, 3, 4, 5, 6, 7, 8, 9, 10, 11, 12, 13, 14, 15, 16, 17, 18, 19], [], [21], [21, 22], [0, 1, 2, 3, 4, 5, 6, 7, 8, 9, 10, 11, 12, 13, 14, 15, 16, 17, 18, 19, 20, 21, 22, 23], [0, 1, 2, 3, 4, 5, 6, 7, 8, 9, 10, 11, 12, 13, 14, 15, 16, 17, 18, 19, 20, 21, 22, 23, 24], [0, 1, 2, 3, 4, 5, 6, 7, 8, 9, 10, 11, 12, 13, 14, 15, 16, 17, 18, 19, 20, 21, 22, 23, 24, 25]])
   (.ret))))))))⟩
theorem m27o : okFn Tryz.prog 27 [4, 11, 12, 13, 14, 15, 16, 17, 18, 19, 20, 21, 22, 23, 24, 25, 26, 27, 28, 29, 30, 31, 32, 34, 35, 36, 37, 38, 40, 41, 43, 44, 45, 46, 47, 48, 49, 50, 51, 52, 53, 54, 55, 56, 57, 58, 62, 63, 64, 65, 66, 67, 68, 69, 70, 71, 72, 73, 74, 75, 76, 77, 78, 79, 80, 81, 82, 83, 84, 85, 86, 88, 89, 90, 91, 92, 93, 94, 95, 96, 97, 98, 99, 100, 101, 102, 103, 104, 105, 106, 107, 108, 109, 110, 111, 112] [m27k0] [[[], [0], [], [2], [], [4], [], [6], [], [8], [], [10], [0, 1, 2, 3, 4, 5, 6, 7, 8, 9, 10, 11], []], [[], [0], [0, 1], [], [3], [3, 4], [], [6], [6, 7], [0, 1, 2, 3, 4, 5, 6, 7, 8], [0, 1, 2, 3, 4, 5, 6, 7, 8, 9], [], [11], [11, 12], [11, 12, 13], [0, 1, 2, 3, 4, 5, 6, 7, 8, 9, 10, 11, 12, 13, 14], [], [16], [16, 17], [16, 17, 18], [0, 1, 2, 3, 4, 5, 6, 7, 8, 9, 10, 11, 12, 13, 14, 15, 16, 17, 18, 19], [], [21], [21, 22], [0, 1, 2, 3, 4, 5, 6, 7, 8, 9, 10, 11, 12, 13, 14, 15, 16, 17, 18, 19, 20, 21, 22, 23], [0, 1, 2, 3, 4, 5, 6, 7, 8, 9, 10, 11, 12, 13, 14, 15, 16, 17, 18, 19, 20, 21, 22, 23, 24], [0, 1, 2, 3, 4, 5, 6, 7, 8, 9, 10, 11, 12, 13, 14, 15, 16, 17, 18, 19, 20, 21, 22, 23, 24, 25]]] m27.nargs m27.params m27.results = some m27.body := by kernel_rfl

def m28k0 : List (Nat × KMode) := [(7, .plain), (8, .plain), (9, .plain)]
def m28b0 : MCode :=
 .seq (.rg [⟨some (.v 10), .bin .lss (.v 9) (.v 8), none⟩])
  (.seq (.cond (.v 10) (.skip)
   (.exit 0))
   (.seq (.block 1 (.seq (.rg [⟨some (.t 11), .iad 1 (.v 7) (.v 9), none⟩,
   ⟨some (.t 12), .load false 1 (.t 11), none⟩,
   ⟨some (.v 4), .mv (.t 12), none⟩])
   (.seq (.rg [⟨some (.t 13), .mv (.v 4), none⟩,
   ⟨some (.t 14), .len true (.t 13), none⟩,
   ⟨some (.v 5), .mv (.t 14), none⟩])
   (.seq (.rg [⟨some (.t 15), .mv (.v 5), none⟩,
   ⟨some (.t 16), .bin .lss (.t 15) (.c (.int .i64 1)), none⟩,
   ⟨some (.t 17), .mv (.t 16), none⟩,
   ⟨some (.t 18), .mv (.v 5), some (.t 17, false)⟩,
   ⟨some (.t 19), .bin .gtr (.t 18) (.c (.int .i64 63)), some (.t 17, false)⟩,
   ⟨some (.t 20), .pick (.t 17) (.c (.bool true)) (.t 19), none⟩,
   ⟨some (.t 21), .mv (.t 20), none⟩,
   ⟨some (.t 22), .mv (.v 4), some (.t 21, false)⟩,
   ⟨some (.t 23), .idxS (.t 22) (.c (.int .i64 0)), some (.t 21, false)⟩,
   ⟨some (.t 24), .bin .eql (.t 23) (.c (.int .u8 45)), some (.t 21, false)⟩,
   ⟨some (.t 25), .pick (.t 21) (.c (.bool true)) (.t 24), none⟩,
   ⟨some (.t 26), .mv (.t 25), none⟩,
   ⟨some (.t 27), .mv (.v 4), some (.t 26, false)⟩,
   ⟨some (.t 28), .mv (.v 5), some (.t 26, false)⟩,
   ⟨some (.t 29), .bin .sub (.t 28) (.c (.int .i64 1)), some (.t 26, false)⟩,
   ⟨some (.t 30), .idxS (.t 27) (.t 29), some (.t 26, false)⟩,
   ⟨some (.t 31), .bin .eql (.t 30) (.c (.int .u8 45)), some (.t 26, false)⟩,
   ⟨some (.t 32), .pick (.t 26) (.c (.bool true)) (.t 31), none⟩,
   ⟨some (.t 33), .mv (.t 32), none⟩,
   ⟨some (.t 34), .mv (.v 4), some (.t 33, false)⟩,
   ⟨some (.t 35), .call 65 [.t 34, .c (.fn 66 [])], some (.t 33, false)⟩,
   ⟨some (.v 36), .pick (.t 33) (.c (.bool true)) (.t 35), none⟩])
   (.cond (.v 36) (.seq (.rg [⟨some (.v 2), .mv (.c (.bool false)), none⟩])
   (.ret))
   (.skip))))))
   (.rg [⟨some (.t 37), .bin .add (.v 9) (.c (.int .i64 1)), none⟩,
   ⟨some (.v 9), .mv (.t 37), none⟩])))
def m28 : MFunc := ⟨1, [.other], [(2, none, .other)],
 .seq (.rg [⟨some (.v 2), .mv (.c (.bool false)), none⟩])
  (.seq (.seq (.rg [⟨some (.t 6), .mv (.v 0), none⟩,
   ⟨some (.v 7), .call 64 [.t 6, .c (.str [46])], none⟩,
   ⟨some (.v 8), .len false (.v 7), none⟩,
   ⟨some (.v 9), .mv (.c (.int .i64 0)), none⟩])
   (.block 0 (.loop m28k0 m28b0)))
   (.seq (.rg [⟨some (.v 2), .mv (.c (.bool true)), none⟩])
   (.ret)))⟩
theorem m28o : okFn Tryz.prog 28 [6, 11, 12, 13, 14, 15, 16, 17, 18, 19, 20, 21, 22, 23, 24, 25, 26, 27, 28, 29, 30, 31, 32, 33, 34, 35, 37] [m28k0] [] m28.nargs m28.params m28.results = some m28.body := by kernel_rfl

def m29k0 : List (Nat × KMode) := [(3, .plain), (8, .plain), (9, .plain), (10, .plain)]
def m29b0 : MCode :=
 .seq (.rg [⟨some (.v 11), .bin .lss (.v 10) (.v 9), none⟩])
  (.seq (.cond (.v 11) (.skip)
   (.exit 0))
   (.seq (.block 1 (.seq (.rg [⟨some (.t 12), .mv (.v 10), none⟩,
   ⟨some (.t 13), .iad 1 (.v 8) (.v 10), none⟩,
   ⟨some (.t 14), .load false 1 (.t 13), none⟩,
   ⟨some (.v 4), .mv (.t 12), none⟩,
   ⟨some (.v 5), .mv (.t 14), none⟩])
   (.seq (.rg [⟨some (.t 15), .mv (.v 5), none⟩,
   ⟨some (.t 16), .bin .geq (.t 15) (.c (.int .u8 65)), none⟩,
   ⟨some (.t 17), .mv (.t 16), none⟩,
   ⟨some (.t 18), .mv (.v 5), some (.t 17, true)⟩,
   ⟨some (.t 19), .bin .leq (.t 18) (.c (.int .u8 90)), some (.t 17, true)⟩,
   ⟨some (.v 20), .pick (.t 17) (.t 19) (.c (.bool false)), none⟩])
   (.cond (.v 20) (.rg [⟨some (.t 21), .mv (.v 3), none⟩,
   ⟨some (.t 22), .mv (.v 4), none⟩,
   ⟨some (.t 23), .iad 1 (.t 21) (.t 22), none⟩,
   ⟨some (.t 24), .load false 1 (.t 23), none⟩,
   ⟨some (.t 25), .bin .add (.t 24) (.c (.int .u8 32)), none⟩,
   ⟨some (.t 26), .iad 1 (.t 21) (.t 22), none⟩,
   ⟨none, .store 1 (.t 26) (.t 25), none⟩])
   (.skip)))))
   (.rg [⟨some (.t 27), .bin .add (.v 10) (.c (.int .i64 1)), none⟩,
   ⟨some (.v 10), .mv (.t 27), none⟩])))
def m29 : MFunc := ⟨1, [.other], [(2, none, .other)],
 .seq (.rg [⟨some (.v 2), .mv (.c (.str [])), none⟩])
  (.seq (.rg [⟨some (.t 6), .mv (.v 0), none⟩,
   ⟨some (.t 7), .s2b (.t 6), none⟩,
   ⟨some (.v 3), .mv (.t 7), none⟩])
   (.seq (.seq (.rg [⟨some (.v 8), .mv (.v 3), none⟩,
   ⟨some (.v 9), .len false (.v 8), none⟩,
   ⟨some (.v 10), .mv (.c (.int .i64 0)), none⟩])
   (.block 0 (.loop m29k0 m29b0)))
   (.seq (.rg [⟨some (.t 28), .mv (.v 3), none⟩,
   ⟨some (.t 29), .b2s (.t 28), none⟩,
   ⟨some (.v 2), .mv (.t 29), none⟩])
   (.ret))))⟩
theorem m29o : okFn Tryz.prog 29 [6, 7, 12, 13, 14, 15, 16, 17, 18, 19, 21, 22, 23, 24, 25, 26, 27, 28, 29] [m29k0] [] m29.nargs m29.params m29.results = some m29.body := by kernel_rfl

def m30 : MFunc := ⟨2, [.other, .other], [(4, none, .other)],
 .seq (.rg [⟨some (.v 4), .mv (.c (.bool false)), none⟩])
  (.seq (.rg [⟨some (.t 5), .mv (.v 0), none⟩,
   ⟨some (.t 6), .len true (.t 5), none⟩,
   ⟨some (.t 7), .mv (.v 1), none⟩,
   ⟨some (.t 8), .len true (.t 7), none⟩,
   ⟨some (.t 9), .bin .gtr (.t 6) (.t 8), none⟩,
   ⟨some (.t 10), .mv (.t 9), none⟩,
   ⟨some (.t 11), .mv (.v 0), some (.t 10, true)⟩,
   ⟨some (.t 12), .call 29 [.t 11], some (.t 10, true)⟩,
   ⟨some (.t 13), .mv (.v 1), some (.t 10, true)⟩,
   ⟨some (.t 14), .call 29 [.t 13], some (.t 10, true)⟩,
   ⟨some (.t 15), .call 67 [.t 12, .t 14], some (.t 10, true)⟩,
   ⟨some (.t 16), .pick (.t 10) (.t 15) (.c (.bool false)), none⟩,
   ⟨some (.v 4), .mv (.t 16), none⟩])
   (.ret))⟩
theorem m30o : okFn Tryz.prog 30 [5, 6, 7, 8, 9, 10, 11, 12, 13, 14, 15, 16] [] [] m30.nargs m30.params m30.results = some m30.body := by kernel_rfl

def m32 : MFunc := ⟨2, [.other, .other], [(4, none, .other)],
 .seq (.rg [⟨some (.v 4), .mv (.c (.bool false)), none⟩])
  (.seq (.block 0 (.seq (.rg [⟨some (.t 6), .mv (.v 0), none⟩,
   ⟨some (.t 7), .call 28 [.t 6], none⟩,
   ⟨some (.t 8), .un .not (.t 7), none⟩,
   ⟨some (.v 5), .mv (.t 8), none⟩])
   (.cond (.v 5) (.seq (.rg [⟨some (.v 4), .mv (.c (.bool false)), none⟩])
   (.ret))
   (.seq (.rg [⟨some (.t 10), .mv (.v 1), none⟩,
   ⟨some (.t 11), .bin .eql (.t 10) (.c (.str [])), none⟩,
   ⟨some (.v 9), .mv (.t 11), none⟩])
   (.cond (.v 9) (.seq (.rg [⟨some (.v 4), .mv (.c (.bool true)), none⟩])
   (.ret))
   (.seq (.rg [⟨some (.t 13), .mv (.v 1), none⟩,
   ⟨some (.t 14), .idxS (.t 13) (.c (.int .i64 0)), none⟩,
   ⟨some (.t 15), .bin .eql (.t 14) (.c (.int .u8 46)), none⟩,
   ⟨some (.v 12), .mv (.t 15), none⟩])
   (.cond (.v 12) (.seq (.rg [⟨some (.t 16), .mv (.v 0), none⟩,
   ⟨some (.t 17), .mv (.v 1), none⟩,
   ⟨some (.t 18), .call 30 [.t 16, .t 17], none⟩,
   ⟨some (.v 4), .mv (.t 18), none⟩])
   (.ret))
   (.skip))))))))
   (.seq (.rg [⟨some (.t 19), .mv (.v 0), none⟩,
   ⟨some (.t 20), .call 29 [.t 19], none⟩,
   ⟨some (.t 21), .mv (.v 1), none⟩,
   ⟨some (.t 22), .call 29 [.t 21], none⟩,
   ⟨some (.t 23), .bin .eql (.t 20) (.t 22), none⟩,
   ⟨some (.v 4), .mv (.t 23), none⟩])
   (.ret)))⟩
theorem m32o : okFn Tryz.prog 32 [6, 7, 8, 10, 11, 13, 14, 15, 16, 17, 18, 19, 20, 21, 22, 23] [] [] m32.nargs m32.params m32.results = some m32.body := by kernel_rfl

def m34 : MFunc := ⟨2, [.byt, .byt], [(4, none, .other)],
 .seq (.rg [⟨some (.v 4), .mv (.c (.bool false)), none⟩])
  (.seq (.rg [⟨some (.t 5), .mv (.v 0), none⟩,
   ⟨some (.t 6), .b2s (.t 5), none⟩,
   ⟨some (.t 7), .mv (.v 1), none⟩,
   ⟨some (.t 8), .b2s (.t 7), none⟩,
   ⟨some (.t 9), .bin .eql (.t 6) (.t 8), none⟩,
   ⟨some (.v 4), .mv (.t 9), none⟩])
   (.ret))⟩
theorem m34o : okFn Tryz.prog 34 [5, 6, 7, 8, 9] [] [] m34.nargs m34.params m34.results = some m34.body := by kernel_rfl

def m35 : MFunc := ⟨2, [.other, .other], [(4, some (true, 5), .other), (5, none, .other)],
 .seq (.rg [⟨some (.v 2), .box (.v 0), none⟩,
   ⟨some (.v 4), .alloc [.int .i64 0, .int .i64 0, .bool false, .nilsl, .nilsl], none⟩,
   ⟨some (.v 5), .mv (.c (.int .i64 0)), none⟩])
  (.seq (.seq (.rg [⟨some (.t 8), .fad 0 (.v 2), none⟩,
   ⟨some (.t 9), .load false 1 (.t 8), none⟩,
   ⟨some (.t 10), .call 73 [.t 9], none⟩,
   ⟨some (.t 11), .un .not (.t 10), none⟩,
   ⟨some (.t 12), .mv (.t 11), none⟩,
   ⟨some (.t 13), .fad 0 (.v 2), some (.t 12, false)⟩,
   ⟨some (.t 14), .load false 1 (.t 13), some (.t 12, false)⟩,
   ⟨some (.t 15), .bin .neq (.t 14) (.c (.int .i64 4)), some (.t 12, false)⟩,
   ⟨some (.t 16), .mv (.t 15), some (.t 12, false)⟩,
   ⟨some (.t 17), .fad 2 (.v 2), some (.t 16, true)⟩,
   ⟨some (.t 18), .load false 1 (.t 17), some (.t 16, true)⟩,
   ⟨some (.t 19), .len false (.t 18), some (.t 16, true)⟩,
   ⟨some (.t 20), .bin .gtr (.t 19) (.c (.int .i64 0)), some (.t 16, true)⟩,
   ⟨some (.t 21), .pick (.t 16) (.t 20) (.c (.bool false)), some (.t 12, false)⟩,
   ⟨some (.t 22), .pick (.t 12) (.c (.bool true)) (.t 21), none⟩,
   ⟨some (.t 23), .mv (.t 22), none⟩,
   ⟨some (.t 24), .fad 0 (.v 2), some (.t 23, false)⟩,
   ⟨some (.t 25), .load false 1 (.t 24), some (.t 23, false)⟩,
   ⟨some (.t 26), .bin .eql (.t 25) (.c (.int .i64 4)), some (.t 23, false)⟩,
   ⟨some (.t 27), .mv (.t 26), some (.t 23, false)⟩,
   ⟨some (.t 28), .fad 1 (.v 2), some (.t 27, true)⟩,
   ⟨some (.t 29), .load false 1 (.t 28), some (.t 27, true)⟩,
   ⟨some (.t 30), .bin .neq (.t 29) (.c (.str [])), some (.t 27, true)⟩,
   ⟨some (.t 31), .pick (.t 27) (.t 30) (.c (.bool false)), some (.t 23, false)⟩,
   ⟨some (.v 32), .pick (.t 23) (.c (.bool true)) (.t 31), none⟩])
   (.cond (.v 32) (.seq (.rg [⟨some (.t 33), .build [.int .i64 0, .int .i64 0, .bool false, .nilsl, .nilsl] [], none⟩,
   ⟨none, .store 5 (.v 4) (.t 33), none⟩,
   ⟨some (.v 5), .mv (.c (.int .i64 30)), none⟩])
   (.ret))
   (.skip)))
   (.seq (.seq (.rg [⟨some (.t 34), .fad 0 (.v 2), none⟩,
   ⟨some (.t 35), .load false 1 (.t 34), none⟩,
   ⟨some (.v 36), .bin .eql (.t 35) (.c (.int .i64 4)), none⟩])
   (.cond (.v 36) (.seq (.rg [⟨some (.t 38), .fad 2 (.v 2), none⟩,
   ⟨some (.t 39), .load false 1 (.t 38), none⟩,
   ⟨some (.t 40), .call 20 [.t 39], none⟩,
   ⟨some (.t 37), .mv (.t 40), none⟩,
   ⟨some (.t 41), .ext 0 (.t 37), none⟩,
   ⟨some (.t 42), .ext 1 (.t 37), none⟩,
   ⟨some (.v 6), .alloc [.int .i64 0, .int .i64 0, .bool false, .nilsl, .nilsl], none⟩,
   ⟨none, .store 5 (.v 6) (.t 41), none⟩,
   ⟨some (.v 7), .mv (.t 42), none⟩])
   (.seq (.seq (.rg [⟨some (.t 43), .mv (.v 7), none⟩,
   ⟨some (.t 44), .bin .neq (.t 43) (.c (.int .i64 0)), none⟩,
   ⟨some (.t 45), .mv (.t 44), none⟩,
   ⟨some (.t 46), .load true 3 (.v 2), some (.t 45, false)⟩,
   ⟨some (.t 47), .mv (.v 1), some (.t 45, false)⟩,
   ⟨some (.t 48), .call 74 [.t 46, .t 47], some (.t 45, false)⟩,
   ⟨some (.t 49), .un .not (.t 48), some (.t 45, false)⟩,
   ⟨some (.v 50), .pick (.t 45) (.c (.bool true)) (.t 49), none⟩])
   (.cond (.v 50) (.seq (.rg [⟨some (.t 51), .build [.int .i64 0, .int .i64 0, .bool false, .nilsl, .nilsl] [], none⟩,
   ⟨none, .store 5 (.v 4) (.t 51), none⟩,
   ⟨some (.v 5), .mv (.c (.int .i64 31)), none⟩])
   (.ret))
   (.skip)))
   (.seq (.rg [⟨some (.t 52), .load true 5 (.v 6), none⟩,
   ⟨some (.t 53), .bslE 5 (.agg [.int .i64 0, .int .i64 0, .bool false, .nilsl, .nilsl]) 1 [(0, .t 52)], none⟩,
   ⟨some (.t 54), .build [.int .i64 0, .int .i64 0, .bool false, .nilsl, .nilsl] [(0, 1, .c (.int .i64 2)), (1, 1, .c (.int .i64 4)), (2, 1, .c (.bool true)), (4, 1, .t 53)], none⟩,
   ⟨none, .store 5 (.v 4) (.t 54), none⟩,
   ⟨some (.v 5), .mv (.c (.int .i64 0)), none⟩])
   (.ret))))
   (.skip)))
   (.seq (.seq (.rg [⟨some (.t 55), .load true 3 (.v 2), none⟩,
   ⟨some (.t 56), .mv (.v 1), none⟩,
   ⟨some (.t 57), .call 74 [.t 55, .t 56], none⟩,
   ⟨some (.v 58), .un .not (.t 57), none⟩])
   (.cond (.v 58) (.seq (.rg [⟨some (.t 59), .build [.int .i64 0, .int .i64 0, .bool false, .nilsl, .nilsl] [], none⟩,
   ⟨none, .store 5 (.v 4) (.t 59), none⟩,
   ⟨some (.v 5), .mv (.c (.int .i64 31)), none⟩])
   (.ret))
   (.skip)))
   (.seq (.rg [⟨some (.t 60), .fad 0 (.v 2), none⟩,
   ⟨some (.t 61), .load false 1 (.t 60), none⟩,
   ⟨some (.t 62), .fad 1 (.v 2), none⟩,
   ⟨some (.t 63), .load false 1 (.t 62), none⟩,
   ⟨some (.t 64), .s2b (.t 63), none⟩,
   ⟨some (.t 65), .build [.int .i64 0, .int .i64 0, .bool false, .nilsl, .nilsl] [(0, 1, .c (.int .i64 2)), (1, 1, .t 61), (3, 1, .t 64)], none⟩,
   ⟨none, .store 5 (.v 4) (.t 65), none⟩,
   ⟨some (.v 5), .mv (.c (.int .i64 0)), none⟩])
   (.ret)))))⟩
theorem m35o : okFn Tryz.prog 35 [8, 9, 10, 11, 12, 13, 14, 15, 16, 17, 18, 19, 20, 21, 22, 23, 24, 25, 26, 27, 28, 29, 30, 31, 33, 34, 35, 37, 38, 39, 40, 41, 42, 43, 44, 45, 46, 47, 48, 49, 51, 52, 53, 54, 55, 56, 57, 59, 60, 61, 62, 63, 64, 65] [] [] m35.nargs m35.params m35.results = some m35.body := by kernel_rfl

def m36 : MFunc := ⟨2, [.other, .other], [(4, none, .other)],
 .seq (.rg [⟨some (.v 4), .mv (.c (.bool false)), none⟩])
  (.seq (.rg [⟨some (.t 7), .mv (.v 0), none⟩,
   ⟨some (.t 8), .call 75 [.t 7, .c (.int .u8 64)], none⟩,
   ⟨some (.v 5), .mv (.t 8), none⟩])
   (.seq (.seq (.rg [⟨some (.t 9), .mv (.v 5), none⟩,
   ⟨some (.t 10), .bin .lss (.t 9) (.c (.int .i64 1)), none⟩,
   ⟨some (.t 11), .mv (.t 10), none⟩,
   ⟨some (.t 12), .mv (.v 0), some (.t 11, false)⟩,
   ⟨some (.t 13), .mv (.v 5), some (.t 11, false)⟩,
   ⟨some (.t 14), .bin .add (.t 13) (.c (.int .i64 1)), some (.t 11, false)⟩,
   ⟨some (.t 15), .slc true 1 (.t 12) (some (.t 14)) none, some (.t 11, false)⟩,
   ⟨some (.t 16), .call 37 [.t 15], some (.t 11, false)⟩,
   ⟨some (.t 17), .un .not (.t 16), some (.t 11, false)⟩,
   ⟨some (.v 18), .pick (.t 11) (.c (.bool true)) (.t 17), none⟩])
   (.cond (.v 18) (.seq (.rg [⟨some (.v 4), .mv (.c (.bool false)), none⟩])
   (.ret))
   (.skip)))
   (.seq (.rg [⟨some (.t 19), .mv (.v 1), none⟩,
   ⟨some (.t 20), .call 75 [.t 19, .c (.int .u8 64)], none⟩,
   ⟨some (.v 6), .mv (.t 20), none⟩])
   (.seq (.seq (.rg [⟨some (.t 21), .mv (.v 6), none⟩,
   ⟨some (.v 22), .bin .geq (.t 21) (.c (.int .i64 0)), none⟩])
   (.cond (.v 22) (.seq (.rgd [⟨some (.t 23), .mv (.v 1), none⟩,
   ⟨some (.t 24), .mv (.v 6), none⟩,
   ⟨some (.t 25), .slc true 1 (.t 23) none (some (.t 24)), none⟩,
   ⟨some (.t 26), .mv (.v 0), none⟩,
   ⟨some (.t 27), .mv (.v 5), none⟩,
   ⟨some (.t 28), .slc true 1 (.t 26) none (some (.t 27)), none⟩,
   ⟨some (.t 29), .bin .eql (.t 25) (.t 28), none⟩,
   ⟨some (.t 30), .mv (.t 29), none⟩,
   ⟨some (.t 31), .mv (.v 1), some (.t 30, true)⟩,
   ⟨some (.t 32), .mv (.v 6), some (.t 30, true)⟩,
   ⟨some (.t 33), .bin .add (.t 32) (.c (.int .i64 1)), some (.t 30, true)⟩,
   ⟨some (.t 34), .slc true 1 (.t 31) (some (.t 33)) none, some (.t 30, true)⟩,
   ⟨some (.t 35), .mv (.v 0), some (.t 30, true)⟩,
   ⟨some (.t 36), .mv (.v 5), some (.t 30, true)⟩,
   ⟨some (.t 37), .bin .add (.t 36) (.c (.int .i64 1)), some (.t 30, true)⟩,
   ⟨some (.t 38), .slc true 1 (.t 35) (some (.t 37)) none, some (.t 30, true)⟩,
   ⟨some (.t 39), .call 38 [.t 34, .t 38], some (.t 30, true)⟩,
   ⟨some (.t 40), .pick (.t 30) (.t 39) (.c (.bool false)), none⟩,
   ⟨some (.v 4), .mv (.t 40), none⟩]
   [[], [], [0, 1], [], [], [3, 4], [0, 1, 2, 3, 4, 5], [0, 1, 2, 3, 4, 5, 6], [0, 1, 2, 3, 4, 5, 6, 7], [0, 1, 2, 3, 4, 5, 6, 7], [0, 1, 2, 3, 4, 5, 6, 7, 9], [0, 1, 2, 3, 4, 5, 6, 7, 8, 9, 10], [0, 1, 2, 3, 4, 5, 6, 7], [0, 1, 2, 3, 4, 5, 6, 7], [0, 1, 2, 3, 4, 5, 6, 7, 13], [0, 1, 2, 3, 4, 5, 6, 7, 12, 13, 14], [0, 1, 2, 3, 4, 5, 6, 7, 8, 9, 10, 11, 12, 13, 14, 15], [0, 1, 2, 3, 4, 5, 6, 7, 8, 9, 10, 11, 12, 13, 14, 15, 16], [0, 1, 2, 3, 4, 5, 6, 7, 8, 9, 10, 11, 12, 13, 14, 15, 16, 17]])
   (.ret))
   (.skip)))
   (.seq (.rg [⟨some (.t 41), .mv (.v 0), none⟩,
   ⟨some (.t 42), .mv (.v 5), none⟩,
   ⟨some (.t 43), .bin .add (.t 42) (.c (.int .i64 1)), none⟩,
   ⟨some (.t 44), .slc true 1 (.t 41) (some (.t 43)) none, none⟩,
   ⟨some (.t 45), .mv (.v 1), none⟩,
   ⟨some (.t 46), .call 41 [.t 44, .t 45], none⟩,
   ⟨some (.v 4), .mv (.t 46), none⟩])
   (.ret))))))⟩
theorem m36o : okFn Tryz.prog 36 [7, 8, 9, 10, 11, 12, 13, 14, 15, 16, 17, 19, 20, 21, 23, 24, 25, 26, 27, 28, 29, 30, 31, 32, 33, 34, 35, 36, 37, 38, 39, 40, 41, 42, 43, 44, 45, 46] [] [[[], [], [0, 1], [], [], [3, 4], [0, 1, 2, 3, 4, 5], [0, 1, 2, 3, 4, 5, 6], [0, 1, 2, 3, 4, 5, 6, 7], [0, 1, 2, 3, 4, 5, 6, 7], [0, 1, 2, 3, 4, 5, 6, 7, 9], [0, 1, 2, 3, 4, 5, 6, 7, 8, 9, 10], [0, 1, 2, 3, 4, 5, 6, 7], [0, 1, 2, 3, 4, 5, 6, 7], [0, 1, 2, 3, 4, 5, 6, 7, 13], [0, 1, 2, 3, 4, 5, 6, 7, 12, 13, 14], [0, 1, 2, 3, 4, 5, 6, 7, 8, 9, 10, 11, 12, 13, 14, 15], [0, 1, 2, 3, 4, 5, 6, 7, 8, 9, 10, 11, 12, 13, 14, 15, 16], [0, 1, 2, 3, 4, 5, 6, 7, 8, 9, 10, 11, 12, 13, 14, 15, 16, 17]]] m36.nargs m36.params m36.results = some m36.body := by kernel_rfl

def m37k0 : List (Nat × KMode) := [(0, .plain), (3, .plain), (4, .plain)]
def m37b0 : MCode :=
 .seq (.seq (.rg [⟨some (.t 6), .mv (.v 4), none⟩,
   ⟨some (.t 7), .mv (.v 0), none⟩,
   ⟨some (.t 8), .len true (.t 7), none⟩,
   ⟨some (.v 9), .bin .leq (.t 6) (.t 8), none⟩])
   (.cond (.v 9) (.skip)
   (.exit 0)))
  (.seq (.block 1 (.seq (.seq (.rg [⟨some (.t 12), .mv (.v 4), none⟩,
   ⟨some (.t 13), .mv (.v 0), none⟩,
   ⟨some (.t 14), .len true (.t 13), none⟩,
   ⟨some (.t 15), .bin .eql (.t 12) (.t 14), none⟩,
   ⟨some (.t 16), .mv (.t 15), none⟩,
   ⟨some (.t 17), .mv (.v 0), some (.t 16, false)⟩,
   ⟨some (.t 18), .mv (.v 4), some (.t 16, false)⟩,
   ⟨some (.t 19), .idxS (.t 17) (.t 18), some (.t 16, false)⟩,
   ⟨some (.t 20), .bin .eql (.t 19) (.c (.int .u8 46)), some (.t 16, false)⟩,
   ⟨some (.v 21), .pick (.t 16) (.c (.bool true)) (.t 20), none⟩])
   (.cond (.v 21) (.seq (.seq (.rg [⟨some (.t 22), .mv (.v 3), none⟩,
   ⟨some (.t 23), .bin .lss (.t 22) (.c (.int .i64 1)), none⟩,
   ⟨some (.t 24), .mv (.t 23), none⟩,
   ⟨some (.t 25), .mv (.v 3), some (.t 24, false)⟩,
   ⟨some (.t 26), .bin .gtr (.t 25) (.c (.int .i64 63)), some (.t 24, false)⟩,
   ⟨some (.t 27), .pick (.t 24) (.c (.bool true)) (.t 26), none⟩,
   ⟨some (.t 28), .mv (.t 27), none⟩,
   ⟨some (.t 29), .mv (.v 0), some (.t 28, false)⟩,
   ⟨some (.t 30), .mv (.v 4), some (.t 28, false)⟩,
   ⟨some (.t 31), .bin .sub (.t 30) (.c (.int .i64 1)), some (.t 28, false)⟩,
   ⟨some (.t 32), .idxS (.t 29) (.t 31), some (.t 28, false)⟩,
   ⟨some (.t 33), .bin .eql (.t 32) (.c (.int .u8 45)), some (.t 28, false)⟩,
   ⟨some (.t 34), .pick (.t 28) (.c (.bool true)) (.t 33), none⟩,
   ⟨some (.t 35), .mv (.t 34), none⟩,
   ⟨some (.t 36), .mv (.v 0), some (.t 35, false)⟩,
   ⟨some (.t 37), .mv (.v 4), some (.t 35, false)⟩,
   ⟨some (.t 38), .mv (.v 3), some (.t 35, false)⟩,
   ⟨some (.t 39), .bin .sub (.t 37) (.t 38), some (.t 35, false)⟩,
   ⟨some (.t 40), .idxS (.t 36) (.t 39), some (.t 35, false)⟩,
   ⟨some (.t 41), .bin .eql (.t 40) (.c (.int .u8 45)), some (.t 35, false)⟩,
   ⟨some (.v 42), .pick (.t 35) (.c (.bool true)) (.t 41), none⟩])
   (.cond (.v 42) (.seq (.rg [⟨some (.v 2), .mv (.c (.bool false)), none⟩])
   (.ret))
   (.skip)))
   (.seq (.rg [⟨some (.v 3), .mv (.c (.int .i64 0)), none⟩])
   (.exit 1)))
   (.skip)))
   (.seq (.rg [⟨some (.t 43), .mv (.v 0), none⟩,
   ⟨some (.t 44), .mv (.v 4), none⟩,
   ⟨some (.t 45), .idxS (.t 43) (.t 44), none⟩,
   ⟨some (.t 46), .call 76 [.t 45], none⟩,
   ⟨some (.v 5), .mv (.t 46), none⟩])
   (.seq (.seq (.rg [⟨some (.t 47), .mv (.v 5), none⟩,
   ⟨some (.t 48), .bin .lss (.t 47) (.c (.int .u8 97)), none⟩,
   ⟨some (.t 49), .mv (.t 48), none⟩,
   ⟨some (.t 50), .mv (.v 5), some (.t 49, false)⟩,
   ⟨some (.t 51), .bin .gtr (.t 50) (.c (.int .u8 122)), some (.t 49, false)⟩,
   ⟨some (.t 52), .pick (.t 49) (.c (.bool true)) (.t 51), none⟩,
   ⟨some (.t 53), .mv (.t 52), none⟩,
   ⟨some (.t 54), .mv (.v 5), some (.t 53, true)⟩,
   ⟨some (.t 55), .bin .lss (.t 54) (.c (.int .u8 48)), some (.t 53, true)⟩,
   ⟨some (.t 56), .mv (.t 55), some (.t 53, true)⟩,
   ⟨some (.t 57), .mv (.v 5), some (.t 56, false)⟩,
   ⟨some (.t 58), .bin .gtr (.t 57) (.c (.int .u8 57)), some (.t 56, false)⟩,
   ⟨some (.t 59), .pick (.t 56) (.c (.bool true)) (.t 58), some (.t 53, true)⟩,
   ⟨some (.t 60), .pick (.t 53) (.t 59) (.c (.bool false)), none⟩,
   ⟨some (.t 61), .mv (.t 60), none⟩,
   ⟨some (.t 62), .mv (.v 5), some (.t 61, true)⟩,
   ⟨some (.t 63), .bin .neq (.t 62) (.c (.int .u8 45)), some (.t 61, true)⟩,
   ⟨some (.v 64), .pick (.t 61) (.t 63) (.c (.bool false)), none⟩])
   (.cond (.v 64) (.seq (.rg [⟨some (.v 2), .mv (.c (.bool false)), none⟩])
   (.ret))
   (.skip)))
   (.rg [⟨some (.t 65), .mv (.v 3), none⟩,
   ⟨some (.t 66), .bin .add (.t 65) (.c (.int .i64 1)), none⟩,
   ⟨some (.v 3), .mv (.t 66), none⟩])))))
   (.rg [⟨some (.t 10), .mv (.v 4), none⟩,
   ⟨some (.t 11), .bin .add (.t 10) (.c (.int .i64 1)), none⟩,
   ⟨some (.v 4), .mv (.t 11), none⟩]))
def m37 : MFunc := ⟨1, [.other], [(2, none, .other)],
 .seq (.rg [⟨some (.v 2), .mv (.c (.bool false)), none⟩])
  (.seq (.rg [⟨some (.v 3), .mv (.c (.int .i64 0)), none⟩])
   (.seq (.seq (.rg [⟨some (.v 4), .mv (.c (.int .i64 0)), none⟩])
   (.block 0 (.loop m37k0 m37b0)))
   (.seq (.rg [⟨some (.v 2), .mv (.c (.bool true)), none⟩])
   (.ret))))⟩
theorem m37o : okFn Tryz.prog 37 [6, 7, 8, 10, 11, 12, 13, 14, 15, 16, 17, 18, 19, 20, 22, 23, 24, 25, 26, 27, 28, 29, 30, 31, 32, 33, 34, 35, 36, 37, 38, 39, 40, 41, 43, 44, 45, 46, 47, 48, 49, 50, 51, 52, 53, 54, 55, 56, 57, 58, 59, 60, 61, 62, 63, 65, 66] [m37k0] [] m37.nargs m37.params m37.results = some m37.body := by kernel_rfl

def m38k0 : List (Nat × KMode) := [(0, .plain), (1, .plain), (5, .plain)]
def m38b0 : MCode :=
 .seq (.seq (.rg [⟨some (.t 11), .mv (.v 5), none⟩,
   ⟨some (.t 12), .mv (.v 0), none⟩,
   ⟨some (.t 13), .len true (.t 12), none⟩,
   ⟨some (.v 14), .bin .lss (.t 11) (.t 13), none⟩])
   (.cond (.v 14) (.skip)
   (.exit 0)))
  (.seq (.block 1 (.seq (.rgd [⟨some (.t 17), .mv (.v 0), none⟩,
   ⟨some (.t 18), .mv (.v 5), none⟩,
   ⟨some (.t 19), .idxS (.t 17) (.t 18), none⟩,
   ⟨some (.t 20), .call 76 [.t 19], none⟩,
   ⟨some (.t 21), .mv (.v 1), none⟩,
   ⟨some (.t 22), .mv (.v 5), none⟩,
   ⟨some (.t 23), .idxS (.t 21) (.t 22), none⟩,
   ⟨some (.t 24), .call 76 [.t 23], none⟩,
   ⟨some (.v 25), .bin .neq (.t 20) (.t 24), none⟩]
   [[], [], [0, 1], [0, 1, 2], [], [], [4, 5], [0, 1, 2, 3, 4, 5, 6], [0, 1, 2, 3, 4, 5, 6, 7]])
   (.cond (.v 25) (.seq (.rg [⟨some (.v 4), .mv (.c (.bool false)), none⟩])
   (.ret))
   (.skip))))
   (.rg [⟨some (.t 15), .mv (.v 5), none⟩,
   ⟨some (.t 16), .bin .add (.t 15) (.c (.int .i64 1)), none⟩,
   ⟨some (.v 5), .mv (.t 16), none⟩]))
def m38 : MFunc := ⟨2, [.other, .other], [(4, none, .other)],
 .seq (.rg [⟨some (.v 4), .mv (.c (.bool false)), none⟩])
  (.seq (.seq (.rg [⟨some (.t 6), .mv (.v 0), none⟩,
   ⟨some (.t 7), .len true (.t 6), none⟩,
   ⟨some (.t 8), .mv (.v 1), none⟩,
   ⟨some (.t 9), .len true (.t 8), none⟩,
   ⟨some (.v 10), .bin .neq (.t 7) (.t 9), none⟩])
   (.cond (.v 10) (.seq (.rg [⟨some (.v 4), .mv (.c (.bool false)), none⟩])
   (.ret))
   (.skip)))
   (.seq (.seq (.rg [⟨some (.v 5), .mv (.c (.int .i64 0)), none⟩])
   (.block 0 (.loop m38k0 m38b0)))
   (.seq (.rg [⟨some (.v 4), .mv (.c (.bool true)), none⟩])
   (.ret))))⟩
theorem m38o : okFn Tryz.prog 38 [6, 7, 8, 9, 11, 12, 13, 15, 16, 17, 18, 19, 20, 21, 22, 23, 24] [m38k0] [[[], [], [0, 1], [0, 1, 2], [], [], [4, 5], [0, 1, 2, 3, 4, 5, 6], [0, 1, 2, 3, 4, 5, 6, 7]]] m38.nargs m38.params m38.results = some m38.body := by kernel_rfl

def m39 : MFunc := ⟨2, [.other, .other], [(4, none, .other)],
 .seq (.rg [⟨some (.v 4), .mv (.c (.bool false)), none⟩])
  (.seq (.rg [⟨some (.t 5), .mv (.v 0), none⟩,
   ⟨some (.t 6), .len true (.t 5), none⟩,
   ⟨some (.t 7), .mv (.v 1), none⟩,
   ⟨some (.t 8), .len true (.t 7), none⟩,
   ⟨some (.t 9), .bin .gtr (.t 6) (.t 8), none⟩,
   ⟨some (.t 10), .mv (.t 9), none⟩,
   ⟨some (.t 11), .mv (.v 0), some (.t 10, true)⟩,
   ⟨some (.t 12), .mv (.v 0), some (.t 10, true)⟩,
   ⟨some (.t 13), .len true (.t 12), some (.t 10, true)⟩,
   ⟨some (.t 14), .mv (.v 1), some (.t 10, true)⟩,
   ⟨some (.t 15), .len true (.t 14), some (.t 10, true)⟩,
   ⟨some (.t 16), .bin .sub (.t 13) (.t 15), some (.t 10, true)⟩,
   ⟨some (.t 17), .slc true 1 (.t 11) (some (.t 16)) none, some (.t 10, true)⟩,
   ⟨some (.t 18), .mv (.v 1), some (.t 10, true)⟩,
   ⟨some (.t 19), .call 38 [.t 17, .t 18], some (.t 10, true)⟩,
   ⟨some (.t 20), .pick (.t 10) (.t 19) (.c (.bool false)), none⟩,
   ⟨some (.v 4), .mv (.t 20), none⟩])
   (.ret))⟩
theorem m39o : okFn Tryz.prog 39 [5, 6, 7, 8, 9, 10, 11, 12, 13, 14, 15, 16, 17, 18, 19, 20] [] [] m39.nargs m39.params m39.results = some m39.body := by kernel_rfl

def m40k1 : List (Nat × KMode) := [(0, .plain), (4, .plain), (5, .plain)]
def m40b1 : MCode :=
 .seq (.seq (.rg [⟨some (.t 21), .mv (.v 5), none⟩,
   ⟨some (.t 22), .mv (.v 0), none⟩,
   ⟨some (.t 23), .len true (.t 22), none⟩,
   ⟨some (.t 24), .bin .lss (.t 21) (.t 23), none⟩,
   ⟨some (.t 25), .mv (.t 24), none⟩,
   ⟨some (.t 26), .mv (.v 0), some (.t 25, true)⟩,
   ⟨some (.t 27), .mv (.v 5), some (.t 25, true)⟩,
   ⟨some (.t 28), .idxS (.t 26) (.t 27), some (.t 25, true)⟩,
   ⟨some (.t 29), .bin .neq (.t 28) (.c (.int .u8 47)), some (.t 25, true)⟩,
   ⟨some (.t 30), .pick (.t 25) (.t 29) (.c (.bool false)), none⟩,
   ⟨some (.t 31), .mv (.t 30), none⟩,
   ⟨some (.t 32), .mv (.v 0), some (.t 31, true)⟩,
   ⟨some (.t 33), .mv (.v 5), some (.t 31, true)⟩,
   ⟨some (.t 34), .idxS (.t 32) (.t 33), some (.t 31, true)⟩,
   ⟨some (.t 35), .bin .neq (.t 34) (.c (.int .u8 58)), some (.t 31, true)⟩,
   ⟨some (.t 36), .pick (.t 31) (.t 35) (.c (.bool false)), none⟩,
   ⟨some (.t 37), .mv (.t 36), none⟩,
   ⟨some (.t 38), .mv (.v 0), some (.t 37, true)⟩,
   ⟨some (.t 39), .mv (.v 5), some (.t 37, true)⟩,
   ⟨some (.t 40), .idxS (.t 38) (.t 39), some (.t 37, true)⟩,
   ⟨some (.t 41), .bin .neq (.t 40) (.c (.int .u8 63)), some (.t 37, true)⟩,
   ⟨some (.t 42), .pick (.t 37) (.t 41) (.c (.bool false)), none⟩,
   ⟨some (.t 43), .mv (.t 42), none⟩,
   ⟨some (.t 44), .mv (.v 0), some (.t 43, true)⟩,
   ⟨some (.t 45), .mv (.v 5), some (.t 43, true)⟩,
   ⟨some (.t 46), .idxS (.t 44) (.t 45), some (.t 43, true)⟩,
   ⟨some (.t 47), .bin .neq (.t 46) (.c (.int .u8 35)), some (.t 43, true)⟩,
   ⟨some (.v 48), .pick (.t 43) (.t 47) (.c (.bool false)), none⟩])
   (.cond (.v 48) (.skip)
   (.exit 2)))
  (.block 3 (.rg [⟨some (.t 49), .mv (.v 5), none⟩,
   ⟨some (.t 50), .bin .add (.t 49) (.c (.int .i64 1)), none⟩,
   ⟨some (.v 5), .mv (.t 50), none⟩]))
def m40k0 : List (Nat × KMode) := [(0, .plain), (4, .plain)]
def m40b0 : MCode :=
 .seq (.seq (.rg [⟨some (.t 6), .mv (.v 4), none⟩,
   ⟨some (.t 7), .bin .add (.t 6) (.c (.int .i64 3)), none⟩,
   ⟨some (.t 8), .mv (.v 0), none⟩,
   ⟨some (.t 9), .len true (.t 8), none⟩,
   ⟨some (.v 10), .bin .leq (.t 7) (.t 9), none⟩])
   (.cond (.v 10) (.skip)
   (.exit 0)))
  (.seq (.block 1 (.seq (.seq (.rg [⟨some (.t 13), .mv (.v 0), none⟩,
   ⟨some (.t 14), .mv (.v 4), none⟩,
   ⟨some (.t 15), .mv (.v 4), none⟩,
   ⟨some (.t 16), .bin .add (.t 15) (.c (.int .i64 3)), none⟩,
   ⟨some (.t 17), .slc true 1 (.t 13) (some (.t 14)) (some (.t 16)), none⟩,
   ⟨some (.v 18), .bin .neq (.t 17) (.c (.str [58, 47, 47])), none⟩])
   (.cond (.v 18) (.exit 1)
   (.skip)))
   (.seq (.rg [⟨some (.t 19), .mv (.v 4), none⟩,
   ⟨some (.t 20), .bin .add (.t 19) (.c (.int .i64 3)), none⟩,
   ⟨some (.v 5), .mv (.t 20), none⟩])
   (.seq (.block 2 (.loop m40k1 m40b1))
   (.seq (.rg [⟨some (.t 51), .mv (.v 0), none⟩,
   ⟨some (.t 52), .mv (.v 4), none⟩,
   ⟨some (.t 53), .bin .add (.t 52) (.c (.int .i64 3)), none⟩,
   ⟨some (.t 54), .mv (.v 5), none⟩,
   ⟨some (.t 55), .slc true 1 (.t 51) (some (.t 53)) (some (.t 54)), none⟩,
   ⟨some (.v 2), .mv (.t 55), none⟩,
   ⟨some (.v 3), .mv (.c (.bool true)), none⟩])
   (.ret))))))
   (.rg [⟨some (.t 11), .mv (.v 4), none⟩,
   ⟨some (.t 12), .bin .add (.t 11) (.c (.int .i64 1)), none⟩,
   ⟨some (.v 4), .mv (.t 12), none⟩]))
def m40 : MFunc := ⟨1, [.other], [(2, none, .other), (3, none, .other)],
 .seq (.rg [⟨some (.v 2), .mv (.c (.str [])), none⟩,
   ⟨some (.v 3), .mv (.c (.bool false)), none⟩])
  (.seq (.seq (.rg [⟨some (.v 4), .mv (.c (.int .i64 0)), none⟩])
   (.block 0 (.loop m40k0 m40b0)))
   (.seq (.rg [⟨some (.v 2), .mv (.c (.str [])), none⟩,
   ⟨some (.v 3), .mv (.c (.bool false)), none⟩])
   (.ret)))⟩
theorem m40o : okFn Tryz.prog 40 [6, 7, 8, 9, 11, 12, 13, 14, 15, 16, 17, 19, 20, 21, 22, 23, 24, 25, 26, 27, 28, 29, 30, 31, 32, 33, 34, 35, 36, 37, 38, 39, 40, 41, 42, 43, 44, 45, 46, 47, 49, 50, 51, 52, 53, 54, 55] [m40k0, m40k1] [] m40.nargs m40.params m40.results = some m40.body := by kernel_rfl

def m41 : MFunc := ⟨2, [.other, .other], [(4, none, .other)],
 .seq (.rg [⟨some (.v 4), .mv (.c (.bool false)), none⟩])
  (.seq (.seq (.rg [⟨some (.t 5), .mv (.v 0), none⟩,
   ⟨some (.t 6), .call 37 [.t 5], none⟩,
   ⟨some (.t 7), .un .not (.t 6), none⟩,
   ⟨some (.t 8), .mv (.t 7), none⟩,
   ⟨some (.t 9), .mv (.v 1), some (.t 8, false)⟩,
   ⟨some (.t 10), .bin .eql (.t 9) (.c (.str [])), some (.t 8, false)⟩,
   ⟨some (.v 11), .pick (.t 8) (.c (.bool true)) (.t 10), none⟩])
   (.cond (.v 11) (.seq (.rg [⟨some (.t 12), .mv (.v 0), none⟩,
   ⟨some (.t 13), .call 37 [.t 12], none⟩,
   ⟨some (.v 4), .mv (.t 13), none⟩])
   (.ret))
   (.skip)))
   (.seq (.seq (.rg [⟨some (.t 14), .mv (.v 1), none⟩,
   ⟨some (.t 15), .idxS (.t 14) (.c (.int .i64 0)), none⟩,
   ⟨some (.v 16), .bin .eql (.t 15) (.c (.int .u8 46)), none⟩])
   (.cond (.v 16) (.seq (.rg [⟨some (.t 17), .mv (.v 0), none⟩,
   ⟨some (.t 18), .mv (.v 1), none⟩,
   ⟨some (.t 19), .call 39 [.t 17, .t 18], none⟩,
   ⟨some (.v 4), .mv (.t 19), none⟩])
   (.ret))
   (.skip)))
   (.seq (.rg [⟨some (.t 20), .mv (.v 0), none⟩,
   ⟨some (.t 21), .mv (.v 1), none⟩,
   ⟨some (.t 22), .call 38 [.t 20, .t 21], none⟩,
   ⟨some (.v 4), .mv (.t 22), none⟩])
   (.ret))))⟩
theorem m41o : okFn Tryz.prog 41 [5, 6, 7, 8, 9, 10, 12, 13, 14, 15, 17, 18, 19, 20, 21, 22] [] [] m41.nargs m41.params m41.results = some m41.body := by kernel_rfl

def m42 : MFunc := ⟨1, [.other], [(2, none, .other)],
 .seq (.rg [⟨some (.v 2), .mv (.c (.bool false)), none⟩])
  (.seq (.rg [⟨some (.t 3), .mv (.v 0), none⟩,
   ⟨some (.t 4), .bin .eql (.t 3) (.c (.int .i64 1)), none⟩,
   ⟨some (.t 5), .mv (.t 4), none⟩,
   ⟨some (.t 6), .mv (.v 0), some (.t 5, false)⟩,
   ⟨some (.t 7), .bin .eql (.t 6) (.c (.int .i64 2)), some (.t 5, false)⟩,
   ⟨some (.t 8), .pick (.t 5) (.c (.bool true)) (.t 7), none⟩,
   ⟨some (.t 9), .mv (.t 8), none⟩,
   ⟨some (.t 10), .mv (.v 0), some (.t 9, false)⟩,
   ⟨some (.t 11), .bin .eql (.t 10) (.c (.int .i64 4)), some (.t 9, false)⟩,
   ⟨some (.t 12), .pick (.t 9) (.c (.bool true)) (.t 11), none⟩,
   ⟨some (.t 13), .mv (.t 12), none⟩,
   ⟨some (.t 14), .mv (.v 0), some (.t 13, false)⟩,
   ⟨some (.t 15), .bin .eql (.t 14) (.c (.int .i64 6)), some (.t 13, false)⟩,
   ⟨some (.t 16), .pick (.t 13) (.c (.bool true)) (.t 15), none⟩,
   ⟨some (.t 17), .mv (.t 16), none⟩,
   ⟨some (.t 18), .mv (.v 0), some (.t 17, false)⟩,
   ⟨some (.t 19), .bin .eql (.t 18) (.c (.int .i64 7)), some (.t 17, false)⟩,
   ⟨some (.t 20), .pick (.t 17) (.c (.bool true)) (.t 19), none⟩,
   ⟨some (.v 2), .mv (.t 20), none⟩])
   (.ret))⟩
theorem m42o : okFn Tryz.prog 42 [3, 4, 5, 6, 7, 8, 9, 10, 11, 12, 13, 14, 15, 16, 17, 18, 19, 20] [] [] m42.nargs m42.params m42.results = some m42.body := by kernel_rfl

def m43 : MFunc := ⟨2, [.other, .other], [(4, none, .other)],
 .seq (.rg [⟨some (.v 2), .box (.v 0), none⟩,
   ⟨some (.v 4), .mv (.c (.bool false)), none⟩])
  (.seq (.rg [⟨some (.t 6), .fad 1 (.v 2), none⟩,
   ⟨some (.t 7), .load false 1 (.t 6), none⟩,
   ⟨some (.t 8), .len true (.t 7), none⟩,
   ⟨some (.v 5), .mv (.t 8), none⟩])
   (.seq (.block 0 (.seq (.rg [⟨some (.t 10), .fad 0 (.v 2), none⟩,
   ⟨some (.t 11), .load false 1 (.t 10), none⟩,
   ⟨some (.t 12), .bin .eql (.t 11) (.c (.int .i64 4)), none⟩,
   ⟨some (.v 9), .mv (.t 12), none⟩])
   (.cond (.v 9) (.seq (.rg [⟨some (.t 13), .mv (.v 1), none⟩,
   ⟨some (.t 14), .mv (.t 13), none⟩,
   ⟨some (.t 15), .fad 2 (.v 2), some (.t 14, false)⟩,
   ⟨some (.t 16), .load false 1 (.t 15), some (.t 14, false)⟩,
   ⟨some (.t 17), .len false (.t 16), some (.t 14, false)⟩,
   ⟨some (.t 18), .bin .gtr (.t 17) (.c (.int .i64 0)), some (.t 14, false)⟩,
   ⟨some (.t 19), .pick (.t 14) (.c (.bool true)) (.t 18), none⟩,
   ⟨some (.v 4), .mv (.t 19), none⟩])
   (.ret))
   (.seq (.rg [⟨some (.t 21), .fad 0 (.v 2), none⟩,
   ⟨some (.t 22), .load false 1 (.t 21), none⟩,
   ⟨some (.t 23), .bin .eql (.t 22) (.c (.int .i64 7)), none⟩,
   ⟨some (.t 24), .mv (.t 23), none⟩,
   ⟨some (.t 25), .mv (.v 1), some (.t 24, true)⟩,
   ⟨some (.t 26), .pick (.t 24) (.t 25) (.c (.bool false)), none⟩,
   ⟨some (.v 20), .mv (.t 26), none⟩])
   (.cond (.v 20) (.seq (.rg [⟨some (.t 27), .mv (.v 5), none⟩,
   ⟨some (.t 28), .bin .eql (.t 27) (.c (.int .i64 8)), none⟩,
   ⟨some (.t 29), .mv (.t 28), none⟩,
   ⟨some (.t 30), .mv (.v 5), some (.t 29, false)⟩,
   ⟨some (.t 31), .bin .eql (.t 30) (.c (.int .i64 32)), some (.t 29, false)⟩,
   ⟨some (.t 32), .pick (.t 29) (.c (.bool true)) (.t 31), none⟩,
   ⟨some (.t 33), .mv (.t 32), none⟩,
   ⟨some (.t 34), .fad 1 (.v 2), some (.t 33, true)⟩,
   ⟨some (.t 35), .load false 1 (.t 34), some (.t 33, true)⟩,
   ⟨some (.t 36), .mv (.v 5), some (.t 33, true)⟩,
   ⟨some (.t 37), .bin .quo (.t 36) (.c (.int .i64 2)), some (.t 33, true)⟩,
   ⟨some (.t 38), .slc true 1 (.t 35) (some (.t 37)) none, some (.t 33, true)⟩,
   ⟨some (.t 39), .call 77 [.t 38], some (.t 33, true)⟩,
   ⟨some (.t 40), .pick (.t 33) (.t 39) (.c (.bool false)), none⟩,
   ⟨some (.v 4), .mv (.t 40), none⟩])
   (.ret))
   (.seq (.rg [⟨some (.t 42), .fad 0 (.v 2), none⟩,
   ⟨some (.t 43), .load false 1 (.t 42), none⟩,
   ⟨some (.t 44), .bin .eql (.t 43) (.c (.int .i64 7)), none⟩,
   ⟨some (.v 41), .mv (.t 44), none⟩])
   (.cond (.v 41) (.seq (.rg [⟨some (.t 45), .mv (.v 5), none⟩,
   ⟨some (.t 46), .bin .eql (.t 45) (.c (.int .i64 4)), none⟩,
   ⟨some (.t 47), .mv (.t 46), none⟩,
   ⟨some (.t 48), .mv (.v 5), some (.t 47, false)⟩,
   ⟨some (.t 49), .bin .eql (.t 48) (.c (.int .i64 16)), some (.t 47, false)⟩,
   ⟨some (.t 50), .pick (.t 47) (.c (.bool true)) (.t 49), none⟩,
   ⟨some (.v 4), .mv (.t 50), none⟩])
   (.ret))
   (.skip))))))))
   (.seq (.rg [⟨some (.t 51), .mv (.v 5), none⟩,
   ⟨some (.t 52), .bin .gtr (.t 51) (.c (.int .i64 0)), none⟩,
   ⟨some (.t 53), .mv (.t 52), none⟩,
   ⟨some (.t 54), .mv (.v 1), some (.t 53, false)⟩,
   ⟨some (.t 55), .pick (.t 53) (.c (.bool true)) (.t 54), none⟩,
   ⟨some (.t 56), .mv (.t 55), none⟩,
   ⟨some (.t 57), .mv (.v 5), some (.t 56, true)⟩,
   ⟨some (.t 58), .bin .leq (.t 57) (.c (.int .i64 64)), some (.t 56, true)⟩,
   ⟨some (.t 59), .pick (.t 56) (.t 58) (.c (.bool false)), none⟩,
   ⟨some (.t 60), .mv (.t 59), none⟩,
   ⟨some (.t 61), .fad 1 (.v 2), some (.t 60, true)⟩,
   ⟨some (.t 62), .load false 1 (.t 61), some (.t 60, true)⟩,
   ⟨some (.t 63), .call 65 [.t 62, .c (.fn 78 [])], some (.t 60, true)⟩,
   ⟨some (.t 64), .un .not (.t 63), some (.t 60, true)⟩,
   ⟨some (.t 65), .pick (.t 60) (.t 64) (.c (.bool false)), none⟩,
   ⟨some (.v 4), .mv (.t 65), none⟩])
   (.ret))))⟩
theorem m43o : okFn Tryz.prog 43 [6, 7, 8, 10, 11, 12, 13, 14, 15, 16, 17, 18, 19, 21, 22, 23, 24, 25, 26, 27, 28, 29, 30, 31, 32, 33, 34, 35, 36, 37, 38, 39, 40, 42, 43, 44, 45, 46, 47, 48, 49, 50, 51, 52, 53, 54, 55, 56, 57, 58, 59, 60, 61, 62, 63, 64, 65] [] [] m43.nargs m43.params m43.results = some m43.body := by kernel_rfl

def m44 : MFunc := ⟨1, [.other], [(2, none, .byt), (3, none, .other)],
 .seq (.rg [⟨some (.v 1), .box (.v 0), none⟩,
   ⟨some (.v 2), .mv (.c (.nilsl)), none⟩,
   ⟨some (.v 3), .mv (.c (.int .i64 0)), none⟩])
  (.seq (.rg [⟨some (.t 7), .load true 5 (.v 1), none⟩,
   ⟨some (.t 8), .call 79 [.t 7, .c (.int .i64 0)], none⟩,
   ⟨some (.t 6), .mv (.t 8), none⟩,
   ⟨some (.t 9), .ext 0 (.t 6), none⟩,
   ⟨some (.t 10), .ext 1 (.t 6), none⟩,
   ⟨some (.v 4), .mv (.t 9), none⟩,
   ⟨some (.v 5), .mv (.t 10), none⟩])
   (.seq (.block 0 (.seq (.rg [⟨some (.t 12), .mv (.v 5), none⟩,
   ⟨some (.t 13), .bin .neq (.t 12) (.c (.int .i64 0)), none⟩,
   ⟨some (.v 11), .mv (.t 13), none⟩])
   (.cond (.v 11) (.seq (.rg [⟨some (.t 14), .mv (.v 5), none⟩,
   ⟨some (.v 2), .mv (.c (.nilsl)), none⟩,
   ⟨some (.v 3), .mv (.t 14), none⟩])
   (.ret))
   (.seq (.rg [⟨some (.t 16), .mv (.v 4), none⟩,
   ⟨some (.t 17), .len false (.t 16), none⟩,
   ⟨some (.t 18), .bin .gtr (.t 17) (.c (.int .i64 65536)), none⟩,
   ⟨some (.v 15), .mv (.t 18), none⟩])
   (.cond (.v 15) (.seq (.rg [⟨some (.v 2), .mv (.c (.nilsl)), none⟩,
   ⟨some (.v 3), .mv (.c (.int .i64 54)), none⟩])
   (.ret))
   (.skip))))))
   (.seq (.rg [⟨some (.t 19), .mv (.v 4), none⟩,
   ⟨some (.v 2), .mv (.t 19), none⟩,
   ⟨some (.v 3), .mv (.c (.int .i64 0)), none⟩])
   (.ret))))⟩
theorem m44o : okFn Tryz.prog 44 [6, 7, 8, 9, 10, 12, 13, 14, 16, 17, 18, 19] [] [] m44.nargs m44.params m44.results = some m44.body := by kernel_rfl

def m45 : MFunc := ⟨3, [.other, .other, .other], [(6, none, .other)],
 .seq (.rg [⟨some (.v 3), .box (.v 0), none⟩,
   ⟨some (.v 6), .mv (.c (.bool false)), none⟩])
  (.seq (.rg [⟨some (.t 7), .fad 0 (.v 3), none⟩,
   ⟨some (.t 8), .load false 1 (.t 7), none⟩,
   ⟨some (.t 9), .bin .eql (.t 8) (.c (.int .i64 0)), none⟩,
   ⟨some (.t 10), .mv (.t 9), none⟩,
   ⟨some (.t 11), .fad 1 (.v 3), some (.t 10, true)⟩,
   ⟨some (.t 12), .load false 1 (.t 11), some (.t 10, true)⟩,
   ⟨some (.t 13), .mv (.v 1), some (.t 10, true)⟩,
   ⟨some (.t 14), .bin .eql (.t 12) (.t 13), some (.t 10, true)⟩,
   ⟨some (.t 15), .pick (.t 10) (.t 14) (.c (.bool false)), none⟩,
   ⟨some (.t 16), .mv (.t 15), none⟩,
   ⟨some (.t 17), .fad 4 (.v 3), some (.t 16, true)⟩,
   ⟨some (.t 18), .load false 1 (.t 17), some (.t 16, true)⟩,
   ⟨some (.t 19), .len false (.t 18), some (.t 16, true)⟩,
   ⟨some (.t 20), .mv (.v 2), some (.t 16, true)⟩,
   ⟨some (.t 21), .bin .eql (.t 19) (.t 20), some (.t 16, true)⟩,
   ⟨some (.t 22), .pick (.t 16) (.t 21) (.c (.bool false)), none⟩,
   ⟨some (.v 6), .mv (.t 22), none⟩])
   (.ret))⟩
theorem m45o : okFn Tryz.prog 45 [7, 8, 9, 10, 11, 12, 13, 14, 15, 16, 17, 18, 19, 20, 21, 22] [] [] m45.nargs m45.params m45.results = some m45.body := by kernel_rfl

def m46 : MFunc := ⟨1, [.other], [(2, none, .other)],
 .seq (.rg [⟨some (.v 2), .mv (.c (.bool false)), none⟩])
  (.seq (.rg [⟨some (.t 3), .mv (.v 0), none⟩,
   ⟨some (.t 4), .len true (.t 3), none⟩,
   ⟨some (.t 5), .bin .geq (.t 4) (.c (.int .i64 1)), none⟩,
   ⟨some (.t 6), .mv (.t 5), none⟩,
   ⟨some (.t 7), .mv (.v 0), some (.t 6, true)⟩,
   ⟨some (.t 8), .len true (.t 7), some (.t 6, true)⟩,
   ⟨some (.t 9), .bin .leq (.t 8) (.c (.int .i64 64)), some (.t 6, true)⟩,
   ⟨some (.t 10), .pick (.t 6) (.t 9) (.c (.bool false)), none⟩,
   ⟨some (.t 11), .mv (.t 10), none⟩,
   ⟨some (.t 12), .mv (.v 0), some (.t 11, true)⟩,
   ⟨some (.t 13), .call 80 [.t 12], some (.t 11, true)⟩,
   ⟨some (.t 14), .pick (.t 11) (.t 13) (.c (.bool false)), none⟩,
   ⟨some (.v 2), .mv (.t 14), none⟩])
   (.ret))⟩
theorem m46o : okFn Tryz.prog 46 [3, 4, 5, 6, 7, 8, 9, 10, 11, 12, 13, 14] [] [] m46.nargs m46.params m46.results = some m46.body := by kernel_rfl

def m47k0 : List (Nat × KMode) := [(0, .plain), (5, .plain), (6, .plain)]
def m47b0 : MCode :=
 .seq (.rg [⟨some (.v 7), .bin .lss (.v 6) (.v 5), none⟩])
  (.seq (.cond (.v 7) (.skip)
   (.exit 0))
   (.seq (.block 1 (.seq (.rg [⟨some (.t 8), .mv (.v 6), none⟩,
   ⟨some (.v 3), .mv (.t 8), none⟩])
   (.seq (.rg [⟨some (.t 9), .mv (.v 0), none⟩,
   ⟨some (.t 10), .mv (.v 3), none⟩,
   ⟨some (.t 11), .idxS (.t 9) (.t 10), none⟩,
   ⟨some (.t 12), .call 81 [.t 11], none⟩,
   ⟨some (.v 13), .un .not (.t 12), none⟩])
   (.cond (.v 13) (.seq (.rg [⟨some (.v 2), .mv (.c (.int .i64 12)), none⟩])
   (.ret))
   (.skip)))))
   (.rg [⟨some (.t 14), .bin .add (.v 6) (.c (.int .i64 1)), none⟩,
   ⟨some (.v 6), .mv (.t 14), none⟩])))
def m47 : MFunc := ⟨1, [.other], [(2, none, .other)],
 .seq (.rg [⟨some (.v 2), .mv (.c (.int .i64 0)), none⟩])
  (.seq (.seq (.rg [⟨some (.t 4), .mv (.v 0), none⟩,
   ⟨some (.v 5), .len true (.t 4), none⟩,
   ⟨some (.v 6), .mv (.c (.int .i64 0)), none⟩])
   (.block 0 (.loop m47k0 m47b0)))
   (.seq (.rg [⟨some (.v 2), .mv (.c (.int .i64 19)), none⟩])
   (.ret)))⟩
theorem m47o : okFn Tryz.prog 47 [4, 8, 9, 10, 11, 12, 14] [m47k0] [] m47.nargs m47.params m47.results = some m47.body := by kernel_rfl

def m48 : MFunc := ⟨1, [.other], [(2, none, .other)],
 .seq (.rg [⟨some (.v 1), .box (.v 0), none⟩,
   ⟨some (.v 2), .mv (.c (.bool false)), none⟩])
  (.seq (.rg [⟨some (.t 6), .load true 5 (.v 1), none⟩,
   ⟨some (.t 7), .call 82 [.t 6], none⟩,
   ⟨some (.t 5), .mv (.t 7), none⟩,
   ⟨some (.t 8), .ext 0 (.t 5), none⟩,
   ⟨some (.t 9), .ext 1 (.t 5), none⟩,
   ⟨some (.t 3), .mv (.t 8), none⟩,
   ⟨some (.v 4), .mv (.t 9), none⟩])
   (.seq (.rg [⟨some (.t 10), .mv (.v 4), none⟩,
   ⟨some (.t 11), .bin .eql (.t 10) (.c (.int .i64 0)), none⟩,
   ⟨some (.v 2), .mv (.t 11), none⟩])
   (.ret)))⟩
theorem m48o : okFn Tryz.prog 48 [3, 5, 6, 7, 8, 9, 10, 11] [] [] m48.nargs m48.params m48.results = some m48.body := by kernel_rfl

def m49 : MFunc := ⟨1, [.other], [(2, some (true, 5), .other), (3, some (true, 5), .other), (4, none, .other)],
 .seq (.rg [⟨some (.v 1), .box (.v 0), none⟩,
   ⟨some (.v 2), .alloc [.int .i64 0, .int .i64 0, .bool false, .nilsl, .nilsl], none⟩,
   ⟨some (.v 3), .alloc [.int .i64 0, .int .i64 0, .bool false, .nilsl, .nilsl], none⟩,
   ⟨some (.v 4), .mv (.c (.bool false)), none⟩])
  (.seq (.seq (.rg [⟨some (.t 7), .fad 0 (.v 1), none⟩,
   ⟨some (.t 8), .load false 1 (.t 7), none⟩,
   ⟨some (.t 9), .bin .neq (.t 8) (.c (.int .i64 0)), none⟩,
   ⟨some (.t 10), .mv (.t 9), none⟩,
   ⟨some (.t 11), .fad 1 (.v 1), some (.t 10, false)⟩,
   ⟨some (.t 12), .load false 1 (.t 11), some (.t 10, false)⟩,
   ⟨some (.t 13), .bin .neq (.t 12) (.c (.int .i64 17)), some (.t 10, false)⟩,
   ⟨some (.t 14), .pick (.t 10) (.c (.bool true)) (.t 13), none⟩,
   ⟨some (.t 15), .mv (.t 14), none⟩,
   ⟨some (.t 16), .fad 4 (.v 1), some (.t 15, false)⟩,
   ⟨some (.t 17), .load false 1 (.t 16), some (.t 15, false)⟩,
   ⟨some (.t 18), .len false (.t 17), some (.t 15, false)⟩,
   ⟨some (.t 19), .bin .neq (.t 18) (.c (.int .i64 1)), some (.t 15, false)⟩,
   ⟨some (.t 20), .pick (.t 15) (.c (.bool true)) (.t 19), none⟩,
   ⟨some (.t 21), .mv (.t 20), none⟩,
   ⟨some (.t 22), .fad 4 (.v 1), some (.t 21, false)⟩,
   ⟨some (.t 23), .load false 1 (.t 22), some (.t 21, false)⟩,
   ⟨some (.t 24), .iad 5 (.t 23) (.c (.int .i64 0)), some (.t 21, false)⟩,
   ⟨some (.t 25), .fad 0 (.t 24), some (.t 21, false)⟩,
   ⟨some (.t 26), .load false 1 (.t 25), some (.t 21, false)⟩,
   ⟨some (.t 27), .bin .neq (.t 26) (.c (.int .i64 0)), some (.t 21, false)⟩,
   ⟨some (.t 28), .pick (.t 21) (.c (.bool true)) (.t 27), none⟩,
   ⟨some (.t 29), .mv (.t 28), none⟩,
   ⟨some (.t 30), .fad 4 (.v 1), some (.t 29, false)⟩,
   ⟨some (.t 31), .load false 1 (.t 30), some (.t 29, false)⟩,
   ⟨some (.t 32), .iad 5 (.t 31) (.c (.int .i64 0)), some (.t 29, false)⟩,
   ⟨some (.t 33), .fad 1 (.t 32), some (.t 29, false)⟩,
   ⟨some (.t 34), .load false 1 (.t 33), some (.t 29, false)⟩,
   ⟨some (.t 35), .bin .neq (.t 34) (.c (.int .i64 16)), some (.t 29, false)⟩,
   ⟨some (.t 36), .pick (.t 29) (.c (.bool true)) (.t 35), none⟩,
   ⟨some (.t 37), .mv (.t 36), none⟩,
   ⟨some (.t 38), .fad 4 (.v 1), some (.t 37, false)⟩,
   ⟨some (.t 39), .load false 1 (.t 38), some (.t 37, false)⟩,
   ⟨some (.t 40), .iad 5 (.t 39) (.c (.int .i64 0)), some (.t 37, false)⟩,
   ⟨some (.t 41), .fad 4 (.t 40), some (.t 37, false)⟩,
   ⟨some (.t 42), .load false 1 (.t 41), some (.t 37, false)⟩,
   ⟨some (.t 43), .len false (.t 42), some (.t 37, false)⟩,
   ⟨some (.t 44), .bin .neq (.t 43) (.c (.int .i64 2)), some (.t 37, false)⟩,
   ⟨some (.v 45), .pick (.t 37) (.c (.bool true)) (.t 44), none⟩])
   (.cond (.v 45) (.seq (.rg [⟨some (.t 46), .build [.int .i64 0, .int .i64 0, .bool false, .nilsl, .nilsl] [], none⟩,
   ⟨some (.t 47), .build [.int .i64 0, .int .i64 0, .bool false, .nilsl, .nilsl] [], none⟩,
   ⟨none, .store 5 (.v 2) (.t 46), none⟩,
   ⟨none, .store 5 (.v 3) (.t 47), none⟩,
   ⟨some (.v 4), .mv (.c (.bool false)), none⟩])
   (.ret))
   (.skip)))
   (.seq (.rg [⟨some (.t 48), .fad 4 (.v 1), none⟩,
   ⟨some (.t 49), .load false 1 (.t 48), none⟩,
   ⟨some (.t 50), .iad 5 (.t 49) (.c (.int .i64 0)), none⟩,
   ⟨some (.t 51), .fad 4 (.t 50), none⟩,
   ⟨some (.t 52), .load false 1 (.t 51), none⟩,
   ⟨some (.t 53), .iad 5 (.t 52) (.c (.int .i64 0)), none⟩,
   ⟨some (.t 54), .load true 5 (.t 53), none⟩,
   ⟨some (.v 5), .alloc [.int .i64 0, .int .i64 0, .bool false, .nilsl, .nilsl], none⟩,
   ⟨none, .store 5 (.v 5) (.t 54), none⟩])
   (.seq (.rg [⟨some (.t 55), .fad 4 (.v 1), none⟩,
   ⟨some (.t 56), .load false 1 (.t 55), none⟩,
   ⟨some (.t 57), .iad 5 (.t 56) (.c (.int .i64 0)), none⟩,
   ⟨some (.t 58), .fad 4 (.t 57), none⟩,
   ⟨some (.t 59), .load false 1 (.t 58), none⟩,
   ⟨some (.t 60), .iad 5 (.t 59) (.c (.int .i64 1)), none⟩,
   ⟨some (.t 61), .load true 5 (.t 60), none⟩,
   ⟨some (.v 6), .alloc [.int .i64 0, .int .i64 0, .bool false, .nilsl, .nilsl], none⟩,
   ⟨none, .store 5 (.v 6) (.t 61), none⟩])
   (.seq (.rgd [⟨some (.t 62), .load true 5 (.v 5), none⟩,
   ⟨some (.t 63), .load true 5 (.v 6), none⟩,
   ⟨some (.t 64), .fad 0 (.v 6), none⟩,
   ⟨some (.t 65), .load false 1 (.t 64), none⟩,
   ⟨some (.t 66), .bin .eql (.t 65) (.c (.int .i64 0)), none⟩,
   ⟨some (.t 67), .mv (.t 66), none⟩,
   ⟨some (.t 68), .fad 1 (.v 6), some (.t 67, true)⟩,
   ⟨some (.t 69), .load false 1 (.t 68), some (.t 67, true)⟩,
   ⟨some (.t 70), .bin .eql (.t 69) (.c (.int .i64 12)), some (.t 67, true)⟩,
   ⟨some (.t 71), .mv (.t 70), some (.t 67, true)⟩,
   ⟨some (.t 72), .fad 1 (.v 6), some (.t 71, false)⟩,
   ⟨some (.t 73), .load false 1 (.t 72), some (.t 71, false)⟩,
   ⟨some (.t 74), .bin .eql (.t 73) (.c (.int .i64 19)), some (.t 71, false)⟩,
   ⟨some (.t 75), .pick (.t 71) (.c (.bool true)) (.t 74), some (.t 67, true)⟩,
   ⟨some (.t 76), .pick (.t 67) (.t 75) (.c (.bool false)), none⟩,
   ⟨none, .store 5 (.v 2) (.t 62), none⟩,
   ⟨none, .store 5 (.v 3) (.t 63), none⟩,
   ⟨some (.v 4), .mv (.t 76), none⟩]
   [[], [], [], [2], [2, 3], [2, 3, 4], [2, 3, 4, 5], [2, 3, 4, 5, 6], [2, 3, 4, 5, 6, 7], [2, 3, 4, 5, 6, 7, 8], [2, 3, 4, 5, 6, 7, 8, 9], [2, 3, 4, 5, 6, 7, 8, 9, 10], [2, 3, 4, 5, 6, 7, 8, 9, 10, 11], [2, 3, 4, 5, 6, 7, 8, 9, 10, 11, 12], [2, 3, 4, 5, 6, 7, 8, 9, 10, 11, 12, 13], [0, 2, 3, 4, 5, 6, 7, 8, 9], [0, 1, 2, 3, 4, 5, 6, 7, 8, 9, 15], [0, 1, 2, 3, 4, 5, 6, 7, 8, 9, 10, 11, 12, 13, 14, 15, 16]])
   (.ret)))))⟩
theorem m49o : okFn Tryz.prog 49 [7, 8, 9, 10, 11, 12, 13, 14, 15, 16, 17, 18, 19, 20, 21, 22, 23, 24, 25, 26, 27, 28, 29, 30, 31, 32, 33, 34, 35, 36, 37, 38, 39, 40, 41, 42, 43, 44, 46, 47, 48, 49, 50, 51, 52, 53, 54, 55, 56, 57, 58, 59, 60, 61, 62, 63, 64, 65, 66, 67, 68, 69, 70, 71, 72, 73, 74, 75, 76] [] [[[], [], [], [2], [2, 3], [2, 3, 4], [2, 3, 4, 5], [2, 3, 4, 5, 6], [2, 3, 4, 5, 6, 7], [2, 3, 4, 5, 6, 7, 8], [2, 3, 4, 5, 6, 7, 8, 9], [2, 3, 4, 5, 6, 7, 8, 9, 10], [2, 3, 4, 5, 6, 7, 8, 9, 10, 11], [2, 3, 4, 5, 6, 7, 8, 9, 10, 11, 12], [2, 3, 4, 5, 6, 7, 8, 9, 10, 11, 12, 13], [0, 2, 3, 4, 5, 6, 7, 8, 9], [0, 1, 2, 3, 4, 5, 6, 7, 8, 9, 15], [0, 1, 2, 3, 4, 5, 6, 7, 8, 9, 10, 11, 12, 13, 14, 15, 16]]] m49.nargs m49.params m49.results = some m49.body := by kernel_rfl

def m50k0 : List (Nat × KMode) := [(1, .plain), (4, .plain), (5, .plain), (6, .plain), (7, .plain)]
def m50b0 : MCode :=
 .seq (.seq (.rg [⟨some (.t 22), .mv (.v 7), none⟩,
   ⟨some (.t 23), .fad 3 (.v 1), none⟩,
   ⟨some (.t 24), .load false 1 (.t 23), none⟩,
   ⟨some (.t 25), .len false (.t 24), none⟩,
   ⟨some (.v 26), .bin .lss (.t 22) (.t 25), none⟩])
   (.cond (.v 26) (.skip)
   (.exit 0)))
  (.seq (.block 1 (.seq (.rg [⟨some (.t 29), .mv (.v 5), none⟩,
   ⟨some (.t 30), .bin .mul (.c (.int .i64 128)) (.t 29), none⟩,
   ⟨some (.t 31), .fad 3 (.v 1), none⟩,
   ⟨some (.t 32), .load false 1 (.t 31), none⟩,
   ⟨some (.t 33), .mv (.v 7), none⟩,
   ⟨some (.t 34), .iad 1 (.t 32) (.t 33), none⟩,
   ⟨some (.t 35), .load false 1 (.t 34), none⟩,
   ⟨some (.t 36), .conv .i64 (.t 35), none⟩,
   ⟨some (.t 37), .bin .rem (.t 36) (.c (.int .i64 128)), none⟩,
   ⟨some (.t 38), .bin .add (.t 30) (.t 37), none⟩,
   ⟨some (.v 5), .mv (.t 38), none⟩])
   (.seq (.seq (.rg [⟨some (.t 39), .mv (.v 5), none⟩,
   ⟨some (.v 40), .bin .geq (.t 39) (.c (.int .i64 1099511627776)), none⟩])
   (.cond (.v 40) (.seq (.rg [⟨some (.v 2), .mv (.c (.str [])), none⟩,
   ⟨some (.v 3), .mv (.c (.bool false)), none⟩])
   (.ret))
   (.skip)))
   (.seq (.seq (.rg [⟨some (.t 41), .fad 3 (.v 1), none⟩,
   ⟨some (.t 42), .load false 1 (.t 41), none⟩,
   ⟨some (.t 43), .mv (.v 7), none⟩,
   ⟨some (.t 44), .iad 1 (.t 42) (.t 43), none⟩,
   ⟨some (.t 45), .load false 1 (.t 44), none⟩,
   ⟨some (.v 46), .bin .geq (.t 45) (.c (.int .u8 128)), none⟩])
   (.cond (.v 46) (.exit 1)
   (.skip)))
   (.seq (.seq (.rg [⟨some (.t 47), .mv (.v 6), none⟩,
   ⟨some (.v 48), .bin .eql (.t 47) (.c (.int .i64 0)), none⟩])
   (.cond (.v 48) (.seq (.rg [⟨some (.t 49), .mv (.v 5), none⟩,
   ⟨some (.t 50), .bin .quo (.t 49) (.c (.int .i64 40)), none⟩,
   ⟨some (.v 8), .mv (.t 50), none⟩])
   (.seq (.seq (.rg [⟨some (.t 51), .mv (.v 8), none⟩,
   ⟨some (.v 52), .bin .gtr (.t 51) (.c (.int .i64 2)), none⟩])
   (.cond (.v 52) (.rg [⟨some (.v 8), .mv (.c (.int .i64 2)), none⟩])
   (.skip)))
   (.seq (.rg [⟨some (.t 53), .mv (.v 8), none⟩,
   ⟨some (.t 54), .call 83 [.t 53], none⟩,
   ⟨some (.v 4), .mv (.t 54), none⟩])
   (.seq (.rg [⟨some (.t 55), .mv (.v 5), none⟩,
   ⟨some (.t 56), .mv (.v 8), none⟩,
   ⟨some (.t 57), .bin .mul (.c (.int .i64 40)) (.t 56), none⟩,
   ⟨some (.t 58), .bin .sub (.t 55) (.t 57), none⟩,
   ⟨some (.v 5), .mv (.t 58), none⟩])
   (.rg [⟨some (.v 6), .mv (.c (.int .i64 1)), none⟩])))))
   (.skip)))
   (.seq (.rg [⟨some (.t 59), .mv (.v 4), none⟩,
   ⟨some (.t 60), .bin .add (.t 59) (.c (.str [46])), none⟩,
   ⟨some (.t 61), .mv (.v 5), none⟩,
   ⟨some (.t 62), .call 83 [.t 61], none⟩,
   ⟨some (.t 63), .bin .add (.t 60) (.t 62), none⟩,
   ⟨some (.v 4), .mv (.t 63), none⟩])
   (.seq (.rg [⟨some (.v 5), .mv (.c (.int .i64 0)), none⟩])
   (.rg [⟨some (.t 64), .mv (.v 6), none⟩,
   ⟨some (.t 65), .bin .add (.t 64) (.c (.int .i64 1)), none⟩,
   ⟨some (.v 6), .mv (.t 65), none⟩]))))))))
   (.rg [⟨some (.t 27), .mv (.v 7), none⟩,
   ⟨some (.t 28), .bin .add (.t 27) (.c (.int .i64 1)), none⟩,
   ⟨some (.v 7), .mv (.t 28), none⟩]))
def m50 : MFunc := ⟨1, [.other], [(2, none, .other), (3, none, .other)],
 .seq (.rg [⟨some (.v 1), .box (.v 0), none⟩,
   ⟨some (.v 2), .mv (.c (.str [])), none⟩,
   ⟨some (.v 3), .mv (.c (.bool false)), none⟩])
  (.seq (.seq (.rg [⟨some (.t 9), .load true 5 (.v 1), none⟩,
   ⟨some (.t 10), .call 48 [.t 9], none⟩,
   ⟨some (.t 11), .un .not (.t 10), none⟩,
   ⟨some (.t 12), .mv (.t 11), none⟩,
   ⟨some (.t 13), .fad 0 (.v 1), some (.t 12, false)⟩,
   ⟨some (.t 14), .load false 1 (.t 13), some (.t 12, false)⟩,
   ⟨some (.t 15), .bin .neq (.t 14) (.c (.int .i64 0)), some (.t 12, false)⟩,
   ⟨some (.t 16), .pick (.t 12) (.c (.bool true)) (.t 15), none⟩,
   ⟨some (.t 17), .mv (.t 16), none⟩,
   ⟨some (.t 18), .fad 1 (.v 1), some (.t 17, false)⟩,
   ⟨some (.t 19), .load false 1 (.t 18), some (.t 17, false)⟩,
   ⟨some (.t 20), .bin .neq (.t 19) (.c (.int .i64 6)), some (.t 17, false)⟩,
   ⟨some (.v 21), .pick (.t 17) (.c (.bool true)) (.t 20), none⟩])
   (.cond (.v 21) (.seq (.rg [⟨some (.v 2), .mv (.c (.str [])), none⟩,
   ⟨some (.v 3), .mv (.c (.bool false)), none⟩])
   (.ret))
   (.skip)))
   (.seq (.rg [⟨some (.v 4), .mv (.c (.str [])), none⟩])
   (.seq (.rg [⟨some (.v 5), .mv (.c (.int .i64 0)), none⟩])
   (.seq (.rg [⟨some (.v 6), .mv (.c (.int .i64 0)), none⟩])
   (.seq (.seq (.rg [⟨some (.v 7), .mv (.c (.int .i64 0)), none⟩])
   (.block 0 (.loop m50k0 m50b0)))
   (.seq (.rg [⟨some (.t 66), .mv (.v 4), none⟩,
   ⟨some (.t 67), .mv (.v 6), none⟩,
   ⟨some (.t 68), .bin .leq (.t 67) (.c (.int .i64 20)), none⟩,
   ⟨some (.v 2), .mv (.t 66), none⟩,
   ⟨some (.v 3), .mv (.t 68), none⟩])
   (.ret)))))))⟩
theorem m50o : okFn Tryz.prog 50 [9, 10, 11, 12, 13, 14, 15, 16, 17, 18, 19, 20, 22, 23, 24, 25, 27, 28, 29, 30, 31, 32, 33, 34, 35, 36, 37, 38, 39, 41, 42, 43, 44, 45, 47, 49, 50, 51, 53, 54, 55, 56, 57, 58, 59, 60, 61, 62, 63, 64, 65, 66, 67, 68] [m50k0] [] m50.nargs m50.params m50.results = some m50.body := by kernel_rfl

def m51 : MFunc := ⟨1, [.other], [(2, none, .other)],
 .seq (.rg [⟨some (.v 2), .mv (.c (.bool false)), none⟩])
  (.seq (.rg [⟨some (.t 3), .mv (.v 0), none⟩,
   ⟨some (.t 4), .len true (.t 3), none⟩,
   ⟨some (.t 5), .bin .geq (.t 4) (.c (.int .i64 1)), none⟩,
   ⟨some (.t 6), .mv (.t 5), none⟩,
   ⟨some (.t 7), .mv (.v 0), some (.t 6, true)⟩,
   ⟨some (.t 8), .len true (.t 7), some (.t 6, true)⟩,
   ⟨some (.t 9), .bin .leq (.t 8) (.c (.int .i64 64)), some (.t 6, true)⟩,
   ⟨some (.t 10), .pick (.t 6) (.t 9) (.c (.bool false)), none⟩,
   ⟨some (.t 11), .mv (.t 10), none⟩,
   ⟨some (.t 12), .mv (.v 0), some (.t 11, true)⟩,
   ⟨some (.t 13), .s2b (.t 12), some (.t 11, true)⟩,
   ⟨some (.t 14), .call 84 [.t 13], some (.t 11, true)⟩,
   ⟨some (.t 15), .pick (.t 11) (.t 14) (.c (.bool false)), none⟩,
   ⟨some (.v 2), .mv (.t 15), none⟩])
   (.ret))⟩
theorem m51o : okFn Tryz.prog 51 [3, 4, 5, 6, 7, 8, 9, 10, 11, 12, 13, 14, 15] [] [] m51.nargs m51.params m51.results = some m51.body := by kernel_rfl

def m52k0 : List (Nat × KMode) := [(0, .plain), (3, .plain)]
def m52b0 : MCode :=
 .seq (.seq (.rg [⟨some (.t 4), .mv (.v 3), none⟩,
   ⟨some (.t 5), .mv (.v 0), none⟩,
   ⟨some (.t 6), .len true (.t 5), none⟩,
   ⟨some (.v 7), .bin .lss (.t 4) (.t 6), none⟩])
   (.cond (.v 7) (.skip)
   (.exit 0)))
  (.seq (.block 1 (.seq (.rg [⟨some (.t 10), .mv (.v 0), none⟩,
   ⟨some (.t 11), .mv (.v 3), none⟩,
   ⟨some (.t 12), .idxS (.t 10) (.t 11), none⟩,
   ⟨some (.t 13), .call 85 [.t 12], none⟩,
   ⟨some (.v 14), .un .not (.t 13), none⟩])
   (.cond (.v 14) (.seq (.rg [⟨some (.v 2), .mv (.c (.int .i64 12)), none⟩])
   (.ret))
   (.skip))))
   (.rg [⟨some (.t 8), .mv (.v 3), none⟩,
   ⟨some (.t 9), .bin .add (.t 8) (.c (.int .i64 1)), none⟩,
   ⟨some (.v 3), .mv (.t 9), none⟩]))
def m52 : MFunc := ⟨1, [.other], [(2, none, .other)],
 .seq (.rg [⟨some (.v 2), .mv (.c (.int .i64 0)), none⟩])
  (.seq (.seq (.rg [⟨some (.v 3), .mv (.c (.int .i64 0)), none⟩])
   (.block 0 (.loop m52k0 m52b0)))
   (.seq (.rg [⟨some (.v 2), .mv (.c (.int .i64 19)), none⟩])
   (.ret)))⟩
theorem m52o : okFn Tryz.prog 52 [4, 5, 6, 8, 9, 10, 11, 12, 13] [m52k0] [] m52.nargs m52.params m52.results = some m52.body := by kernel_rfl

def m53k0 : List (Nat × KMode) := [(2, .plain), (5, (.ownE 1)), (26, .plain), (27, .plain), (28, .plain)]
def m53b0 : MCode :=
 .seq (.rg [⟨some (.v 29), .bin .lss (.v 28) (.v 27), none⟩])
  (.seq (.cond (.v 29) (.skip)
   (.exit 0))
   (.seq (.block 1 (.seq (.rg [⟨some (.t 30), .iad 1 (.v 26) (.v 28), none⟩,
   ⟨some (.t 31), .load false 1 (.t 30), none⟩,
   ⟨some (.v 7), .mv (.t 31), none⟩])
   (.seq (.rg [⟨some (.t 33), .mv (.v 7), none⟩,
   ⟨some (.t 34), .call 63 [.t 33], none⟩,
   ⟨some (.t 32), .mv (.t 34), none⟩,
   ⟨some (.t 35), .ext 0 (.t 32), none⟩,
   ⟨some (.t 36), .ext 1 (.t 32), none⟩,
   ⟨some (.v 8), .mv (.t 35), none⟩,
   ⟨some (.v 9), .mv (.t 36), none⟩])
   (.seq (.seq (.rg [⟨some (.t 37), .mv (.v 9), none⟩,
   ⟨some (.t 38), .eqs .iface true (.t 37) (.c (.nilif)), none⟩,
   ⟨some (.t 39), .mv (.t 38), none⟩,
   ⟨some (.t 40), .mv (.v 8), some (.t 39, false)⟩,
   ⟨some (.t 41), .bin .lss (.t 40) (.c (.int .i64 0)), some (.t 39, false)⟩,
   ⟨some (.t 42), .pick (.t 39) (.c (.bool true)) (.t 41), none⟩,
   ⟨some (.t 43), .mv (.t 42), none⟩,
   ⟨some (.t 44), .mv (.v 8), some (.t 43, false)⟩,
   ⟨some (.t 45), .bin .geq (.t 44) (.c (.int .i64 1099511627776)), some (.t 43, false)⟩,
   ⟨some (.t 46), .pick (.t 43) (.c (.bool true)) (.t 45), none⟩,
   ⟨some (.t 47), .mv (.t 46), none⟩,
   ⟨some (.t 48), .mv (.v 8), some (.t 47, false)⟩,
   ⟨some (.t 49), .call 61 [.t 48], some (.t 47, false)⟩,
   ⟨some (.t 50), .mv (.v 7), some (.t 47, false)⟩,
   ⟨some (.t 51), .bin .neq (.t 49) (.t 50), some (.t 47, false)⟩,
   ⟨some (.v 52), .pick (.t 47) (.c (.bool true)) (.t 51), none⟩])
   (.cond (.v 52) (.seq (.rg [⟨some (.t 53), .build [.int .i64 0, .int .i64 0, .bool false, .nilsl, .nilsl] [], none⟩,
   ⟨none, .store 5 (.v 2) (.t 53), none⟩,
   ⟨some (.v 3), .mv (.c (.bool false)), none⟩])
   (.ret))
   (.skip)))
   (.rg [⟨some (.t 54), .mv (.v 5), none⟩,
   ⟨some (.t 55), .mv (.v 8), none⟩,
   ⟨some (.t 56), .bslE 1 (.int .i64 0) 1 [(0, .t 55)], none⟩,
   ⟨some (.t 57), .app false 1 8 (.t 54) (.t 56), none⟩,
   ⟨some (.v 5), .mv (.t 57), none⟩])))))
   (.rg [⟨some (.t 58), .bin .add (.v 28) (.c (.int .i64 1)), none⟩,
   ⟨some (.v 28), .mv (.t 58), none⟩])))
def m53k2 : List (Nat × KMode) := [(2, .plain), (10, .ownB), (12, .plain), (13, .plain), (99, .plain), (100, .plain), (101, .plain)]
def m53b2 : MCode :=
 .seq (.seq (.rg [⟨some (.t 105), .mv (.v 13), none⟩,
   ⟨some (.v 106), .bin .geq (.t 105) (.c (.int .i64 0)), none⟩])
   (.cond (.v 106) (.skip)
   (.exit 4)))
  (.seq (.block 5 (.seq (.rg [⟨some (.t 109), .mv (.v 12), none⟩,
   ⟨some (.t 110), .mv (.v 13), none⟩,
   ⟨some (.t 111), .bin .shr (.t 109) (.t 110), none⟩,
   ⟨some (.t 112), .bin .and (.t 111) (.c (.int .i64 127)), none⟩,
   ⟨some (.t 113), .conv .u8 (.t 112), none⟩,
   ⟨some (.v 14), .mv (.t 113), none⟩])
   (.seq (.rg [⟨some (.t 114), .mv (.v 13), none⟩,
   ⟨some (.v 115), .bin .eql (.t 114) (.c (.int .i64 0)), none⟩])
   (.cond (.v 115) (.rg [⟨some (.t 116), .mv (.v 10), none⟩,
   ⟨some (.t 117), .mv (.v 14), none⟩,
   ⟨some (.t 118), .bslB 1 [(0, .t 117)], none⟩,
   ⟨some (.t 119), .app true 1 1 (.t 116) (.t 118), none⟩,
   ⟨some (.v 10), .mv (.t 119), none⟩])
   (.seq (.rg [⟨some (.t 120), .mv (.v 12), none⟩,
   ⟨some (.t 121), .mv (.v 13), none⟩,
   ⟨some (.t 122), .bin .shr (.t 120) (.t 121), none⟩,
   ⟨some (.v 123), .bin .gtr (.t 122) (.c (.int .i64 0)), none⟩])
   (.cond (.v 123) (.rg [⟨some (.t 124), .mv (.v 10), none⟩,
   ⟨some (.t 125), .mv (.v 14), none⟩,
   ⟨some (.t 126), .bin .or (.t 125) (.c (.int .u8 128)), none⟩,
   ⟨some (.t 127), .bslB 1 [(0, .t 126)], none⟩,
   ⟨some (.t 128), .app true 1 1 (.t 124) (.t 127), none⟩,
   ⟨some (.v 10), .mv (.t 128), none⟩])
   (.skip)))))))
   (.rg [⟨some (.t 107), .mv (.v 13), none⟩,
   ⟨some (.t 108), .bin .sub (.t 107) (.c (.int .i64 7)), none⟩,
   ⟨some (.v 13), .mv (.t 108), none⟩]))
def m53k1 : List (Nat × KMode) := [(2, .plain), (10, .ownB), (99, .plain), (100, .plain), (101, .plain)]
def m53b1 : MCode :=
 .seq (.rg [⟨some (.v 102), .bin .lss (.v 101) (.v 100), none⟩])
  (.seq (.cond (.v 102) (.skip)
   (.exit 2))
   (.seq (.block 3 (.seq (.rg [⟨some (.t 103), .iad 1 (.v 99) (.v 101), none⟩,
   ⟨some (.t 104), .load false 1 (.t 103), none⟩,
   ⟨some (.v 12), .mv (.t 104), none⟩])
   (.seq (.rg [⟨some (.v 13), .mv (.c (.int .i64 35)), none⟩])
   (.block 4 (.loop m53k2 m53b2)))))
   (.rg [⟨some (.t 129), .bin .add (.v 101) (.c (.int .i64 1)), none⟩,
   ⟨some (.v 101), .mv (.t 129), none⟩])))
def m53 : MFunc := ⟨1, [.other], [(2, some (true, 5), .other), (3, none, .other)],
 .seq (.rg [⟨some (.v 2), .alloc [.int .i64 0, .int .i64 0, .bool false, .nilsl, .nilsl], none⟩,
   ⟨some (.v 3), .mv (.c (.bool false)), none⟩])
  (.seq (.rg [⟨some (.t 15), .mv (.v 0), none⟩,
   ⟨some (.t 16), .call 64 [.t 15, .c (.str [46])], none⟩,
   ⟨some (.v 4), .mv (.t 16), none⟩])
   (.seq (.seq (.rg [⟨some (.t 17), .mv (.v 4), none⟩,
   ⟨some (.t 18), .len false (.t 17), none⟩,
   ⟨some (.t 19), .bin .lss (.t 18) (.c (.int .i64 2)), none⟩,
   ⟨some (.t 20), .mv (.t 19), none⟩,
   ⟨some (.t 21), .mv (.v 4), some (.t 20, false)⟩,
   ⟨some (.t 22), .len false (.t 21), some (.t 20, false)⟩,
   ⟨some (.t 23), .bin .gtr (.t 22) (.c (.int .i64 20)), some (.t 20, false)⟩,
   ⟨some (.v 24), .pick (.t 20) (.c (.bool true)) (.t 23), none⟩])
   (.cond (.v 24) (.seq (.rg [⟨some (.t 25), .build [.int .i64 0, .int .i64 0, .bool false, .nilsl, .nilsl] [], none⟩,
   ⟨none, .store 5 (.v 2) (.t 25), none⟩,
   ⟨some (.v 3), .mv (.c (.bool false)), none⟩])
   (.ret))
   (.skip)))
   (.seq (.rg [⟨some (.v 5), .mv (.c (.nilsl)), none⟩])
   (.seq (.seq (.rg [⟨some (.v 26), .mv (.v 4), none⟩,
   ⟨some (.v 27), .len false (.v 26), none⟩,
   ⟨some (.v 28), .mv (.c (.int .i64 0)), none⟩])
   (.block 0 (.loop m53k0 m53b0)))
   (.seq (.seq (.rg [⟨some (.t 59), .mv (.v 5), none⟩,
   ⟨some (.t 60), .iad 1 (.t 59) (.c (.int .i64 0)), none⟩,
   ⟨some (.t 61), .load false 1 (.t 60), none⟩,
   ⟨some (.t 62), .bin .gtr (.t 61) (.c (.int .i64 2)), none⟩,
   ⟨some (.t 63), .mv (.t 62), none⟩,
   ⟨some (.t 64), .mv (.v 5), some (.t 63, false)⟩,
   ⟨some (.t 65), .iad 1 (.t 64) (.c (.int .i64 0)), some (.t 63, false)⟩,
   ⟨some (.t 66), .load false 1 (.t 65), some (.t 63, false)⟩,
   ⟨some (.t 67), .bin .lss (.t 66) (.c (.int .i64 2)), some (.t 63, false)⟩,
   ⟨some (.t 68), .mv (.t 67), some (.t 63, false)⟩,
   ⟨some (.t 69), .mv (.v 5), some (.t 68, true)⟩,
   ⟨some (.t 70), .iad 1 (.t 69) (.c (.int .i64 1)), some (.t 68, true)⟩,
   ⟨some (.t 71), .load false 1 (.t 70), some (.t 68, true)⟩,
   ⟨some (.t 72), .bin .gtr (.t 71) (.c (.int .i64 39)), some (.t 68, true)⟩,
   ⟨some (.t 73), .pick (.t 68) (.t 72) (.c (.bool false)), some (.t 63, false)⟩,
   ⟨some (.t 74), .pick (.t 63) (.c (.bool true)) (.t 73), none⟩,
   ⟨some (.t 75), .mv (.t 74), none⟩,
   ⟨some (.t 76), .mv (.v 5), some (.t 75, false)⟩,
   ⟨some (.t 77), .iad 1 (.t 76) (.c (.int .i64 0)), some (.t 75, false)⟩,
   ⟨some (.t 78), .load false 1 (.t 77), some (.t 75, false)⟩,
   ⟨some (.t 79), .bin .eql (.t 78) (.c (.int .i64 2)), some (.t 75, false)⟩,
   ⟨some (.t 80), .mv (.t 79), some (.t 75, false)⟩,
   ⟨some (.t 81), .mv (.v 5), some (.t 80, true)⟩,
   ⟨some (.t 82), .iad 1 (.t 81) (.c (.int .i64 1)), some (.t 80, true)⟩,
   ⟨some (.t 83), .load false 1 (.t 82), some (.t 80, true)⟩,
   ⟨some (.t 84), .bin .add (.t 83) (.c (.int .i64 80)), some (.t 80, true)⟩,
   ⟨some (.t 85), .bin .geq (.t 84) (.c (.int .i64 1099511627776)), some (.t 80, true)⟩,
   ⟨some (.t 86), .pick (.t 80) (.t 85) (.c (.bool false)), some (.t 75, false)⟩,
   ⟨some (.v 87), .pick (.t 75) (.c (.bool true)) (.t 86), none⟩])
   (.cond (.v 87) (.seq (.rg [⟨some (.t 88), .build [.int .i64 0, .int .i64 0, .bool false, .nilsl, .nilsl] [], none⟩,
   ⟨none, .store 5 (.v 2) (.t 88), none⟩,
   ⟨some (.v 3), .mv (.c (.bool false)), none⟩])
   (.ret))
   (.skip)))
   (.seq (.rgd [⟨some (.t 89), .mv (.v 5), none⟩,
   ⟨some (.t 90), .iad 1 (.t 89) (.c (.int .i64 1)), none⟩,
   ⟨some (.t 91), .load false 1 (.t 90), none⟩,
   ⟨some (.t 92), .mv (.v 5), none⟩,
   ⟨some (.t 93), .iad 1 (.t 92) (.c (.int .i64 0)), none⟩,
   ⟨some (.t 94), .load false 1 (.t 93), none⟩,
   ⟨some (.t 95), .bin .mul (.c (.int .i64 40)) (.t 94), none⟩,
   ⟨some (.t 96), .bin .add (.t 91) (.t 95), none⟩,
   ⟨some (.t 97), .iad 1 (.t 89) (.c (.int .i64 1)), none⟩,
   ⟨none, .store 1 (.t 97) (.t 96), none⟩]
   [[], [0], [0, 1], [], [3], [3, 4], [3, 4, 5], [0, 1, 2, 3, 4, 5, 6], [0, 1, 2, 3, 4, 5, 6, 7], [0, 1, 2, 3, 4, 5, 6, 7, 8]])
   (.seq (.rg [⟨some (.v 10), .mv (.c (.nilsl)), none⟩])
   (.seq (.seq (.rg [⟨some (.t 98), .mv (.v 5), none⟩,
   ⟨some (.v 99), .slc false 1 (.t 98) (some (.c (.int .i64 1))) none, none⟩,
   ⟨some (.v 100), .len false (.v 99), none⟩,
   ⟨some (.v 101), .mv (.c (.int .i64 0)), none⟩])
   (.block 2 (.loop m53k1 m53b1)))
   (.seq (.rg [⟨some (.t 130), .mv (.v 10), none⟩,
   ⟨some (.t 131), .build [.int .i64 0, .int .i64 0, .bool false, .nilsl, .nilsl] [(1, 1, .c (.int .i64 6)), (3, 1, .t 130)], none⟩,
   ⟨none, .store 5 (.v 2) (.t 131), none⟩,
   ⟨some (.v 3), .mv (.c (.bool true)), none⟩])
   (.ret))))))))))⟩
theorem m53o : okFn Tryz.prog 53 [15, 16, 17, 18, 19, 20, 21, 22, 23, 25, 30, 31, 32, 33, 34, 35, 36, 37, 38, 39, 40, 41, 42, 43, 44, 45, 46, 47, 48, 49, 50, 51, 53, 54, 55, 56, 57, 58, 59, 60, 61, 62, 63, 64, 65, 66, 67, 68, 69, 70, 71, 72, 73, 74, 75, 76, 77, 78, 79, 80, 81, 82, 83, 84, 85, 86, 88, 89, 90, 91, 92, 93, 94, 95, 96, 97, 98, 103, 104, 105, 107, 108, 109, 110, 111, 112, 113, 114, 116, 117, 118, 119, 120, 121, 122, 124, 125, 126, 127, 128, 129, 130, 131] [m53k0, m53k1, m53k2] [[[], [0], [0, 1], [], [3], [3, 4], [3, 4, 5], [0, 1, 2, 3, 4, 5, 6], [0, 1, 2, 3, 4, 5, 6, 7], [0, 1, 2, 3, 4, 5, 6, 7, 8]]] m53.nargs m53.params m53.results = some m53.body := by kernel_rfl

def m54 : MFunc := ⟨2, [.el 2, .other], [(4, none, .other)],
 .seq (.rg [⟨some (.v 4), .mv (.c (.bool false)), none⟩])
  (.seq (.rg [⟨some (.t 5), .mv (.v 0), none⟩,
   ⟨some (.t 6), .mv (.v 1), none⟩,
   ⟨some (.t 7), .call 86 [.t 5, .t 6], none⟩,
   ⟨some (.t 8), .bin .geq (.t 7) (.c (.int .i64 0)), none⟩,
   ⟨some (.v 4), .mv (.t 8), none⟩])
   (.ret))⟩
theorem m54o : okFn Tryz.prog 54 [5, 6, 7, 8] [] [] m54.nargs m54.params m54.results = some m54.body := by kernel_rfl

def m55 : MFunc := ⟨1, [.other], [(2, none, .other)],
 .seq (.rg [⟨some (.v 1), .box (.v 0), none⟩,
   ⟨some (.v 2), .mv (.c (.bool false)), none⟩])
  (.seq (.rg [⟨some (.t 3), .fad 1 (.v 1), none⟩,
   ⟨some (.t 4), .load false 1 (.t 3), none⟩,
   ⟨some (.t 5), .call 46 [.t 4], none⟩,
   ⟨some (.t 6), .un .not (.t 5), none⟩,
   ⟨some (.v 2), .mv (.t 6), none⟩])
   (.ret))⟩
theorem m55o : okFn Tryz.prog 55 [3, 4, 5, 6] [] [] m55.nargs m55.params m55.results = some m55.body := by kernel_rfl

def m56k1 : List (Nat × KMode) := [(2, .plain), (4, .plain), (6, .ownB), (7, .plain), (8, .ownB), (9, .plain)]
def m56b1 : MCode :=
 .seq (.seq (.rg [⟨some (.t 74), .mv (.v 9), none⟩,
   ⟨some (.v 75), .bin .geq (.t 74) (.c (.int .i64 128)), none⟩])
   (.cond (.v 75) (.skip)
   (.exit 2)))
  (.block 3 (.seq (.rg [⟨some (.t 76), .mv (.v 9), none⟩,
   ⟨some (.t 77), .bin .quo (.t 76) (.c (.int .i64 128)), none⟩,
   ⟨some (.v 9), .mv (.t 77), none⟩])
   (.rg [⟨some (.t 78), .mv (.v 8), none⟩,
   ⟨some (.t 79), .mv (.v 9), none⟩,
   ⟨some (.t 80), .bin .rem (.t 79) (.c (.int .i64 128)), none⟩,
   ⟨some (.t 81), .bin .add (.c (.int .i64 128)) (.t 80), none⟩,
   ⟨some (.t 82), .conv .u8 (.t 81), none⟩,
   ⟨some (.t 83), .bslB 1 [(0, .t 82)], none⟩,
   ⟨some (.t 84), .app true 1 1 (.t 78) (.t 83), none⟩,
   ⟨some (.v 8), .mv (.t 84), none⟩])))
def m56k2 : List (Nat × KMode) := [(2, .plain), (4, .plain), (6, .ownB), (7, .plain), (8, .ownB), (10, .plain)]
def m56b2 : MCode :=
 .seq (.seq (.rg [⟨some (.t 88), .mv (.v 10), none⟩,
   ⟨some (.v 89), .bin .geq (.t 88) (.c (.int .i64 0)), none⟩])
   (.cond (.v 89) (.skip)
   (.exit 4)))
  (.seq (.block 5 (.rg [⟨some (.t 92), .mv (.v 6), none⟩,
   ⟨some (.t 93), .mv (.v 8), none⟩,
   ⟨some (.t 94), .mv (.v 10), none⟩,
   ⟨some (.t 95), .iad 1 (.t 93) (.t 94), none⟩,
   ⟨some (.t 96), .load false 1 (.t 95), none⟩,
   ⟨some (.t 97), .bslB 1 [(0, .t 96)], none⟩,
   ⟨some (.t 98), .app true 1 1 (.t 92) (.t 97), none⟩,
   ⟨some (.v 6), .mv (.t 98), none⟩]))
   (.rg [⟨some (.t 90), .mv (.v 10), none⟩,
   ⟨some (.t 91), .bin .sub (.t 90) (.c (.int .i64 1)), none⟩,
   ⟨some (.v 10), .mv (.t 91), none⟩]))
def m56k0 : List (Nat × KMode) := [(2, .plain), (4, .plain), (6, .ownB), (7, .plain)]
def m56b0 : MCode :=
 .seq (.seq (.rg [⟨some (.t 58), .mv (.v 7), none⟩,
   ⟨some (.t 59), .mv (.v 4), none⟩,
   ⟨some (.t 60), .len false (.t 59), none⟩,
   ⟨some (.v 61), .bin .lss (.t 58) (.t 60), none⟩])
   (.cond (.v 61) (.skip)
   (.exit 0)))
  (.seq (.block 1 (.seq (.rg [⟨some (.v 8), .mv (.c (.nilsl)), none⟩])
   (.seq (.rg [⟨some (.t 64), .mv (.v 4), none⟩,
   ⟨some (.t 65), .mv (.v 7), none⟩,
   ⟨some (.t 66), .iad 1 (.t 64) (.t 65), none⟩,
   ⟨some (.t 67), .load false 1 (.t 66), none⟩,
   ⟨some (.v 9), .mv (.t 67), none⟩])
   (.seq (.rg [⟨some (.t 68), .mv (.v 8), none⟩,
   ⟨some (.t 69), .mv (.v 9), none⟩,
   ⟨some (.t 70), .bin .rem (.t 69) (.c (.int .i64 128)), none⟩,
   ⟨some (.t 71), .conv .u8 (.t 70), none⟩,
   ⟨some (.t 72), .bslB 1 [(0, .t 71)], none⟩,
   ⟨some (.t 73), .app true 1 1 (.t 68) (.t 72), none⟩,
   ⟨some (.v 8), .mv (.t 73), none⟩])
   (.seq (.block 2 (.loop m56k1 m56b1))
   (.seq (.rg [⟨some (.t 85), .mv (.v 8), none⟩,
   ⟨some (.t 86), .len false (.t 85), none⟩,
   ⟨some (.t 87), .bin .sub (.t 86) (.c (.int .i64 1)), none⟩,
   ⟨some (.v 10), .mv (.t 87), none⟩])
   (.block 4 (.loop m56k2 m56b2))))))))
   (.rg [⟨some (.t 62), .mv (.v 7), none⟩,
   ⟨some (.t 63), .bin .add (.t 62) (.c (.int .i64 1)), none⟩,
   ⟨some (.v 7), .mv (.t 63), none⟩]))
def m56 : MFunc := ⟨1, [.other], [(2, some (true, 5), .other), (3, none, .other)],
 .seq (.rg [⟨some (.v 2), .alloc [.int .i64 0, .int .i64 0, .bool false, .nilsl, .nilsl], none⟩,
   ⟨some (.v 3), .mv (.c (.bool false)), none⟩])
  (.seq (.rg [⟨some (.t 12), .mv (.v 0), none⟩,
   ⟨some (.t 13), .call 87 [.t 12], none⟩,
   ⟨some (.t 11), .mv (.t 13), none⟩,
   ⟨some (.t 14), .ext 0 (.t 11), none⟩,
   ⟨some (.t 15), .ext 1 (.t 11), none⟩,
   ⟨some (.v 4), .mv (.t 14), none⟩,
   ⟨some (.v 5), .mv (.t 15), none⟩])
   (.seq (.seq (.rgd [⟨some (.t 16), .mv (.v 5), none⟩,
   ⟨some (.t 17), .un .not (.t 16), none⟩,
   ⟨some (.t 18), .mv (.t 17), none⟩,
   ⟨some (.t 19), .mv (.v 4), some (.t 18, false)⟩,
   ⟨some (.t 20), .iad 1 (.t 19) (.c (.int .i64 0)), some (.t 18, false)⟩,
   ⟨some (.t 21), .load false 1 (.t 20), some (.t 18, false)⟩,
   ⟨some (.t 22), .bin .gtr (.t 21) (.c (.int .i64 2)), some (.t 18, false)⟩,
   ⟨some (.t 23), .pick (.t 18) (.c (.bool true)) (.t 22), none⟩,
   ⟨some (.t 24), .mv (.t 23), none⟩,
   ⟨some (.t 25), .mv (.v 4), some (.t 24, false)⟩,
   ⟨some (.t 26), .iad 1 (.t 25) (.c (.int .i64 0)), some (.t 24, false)⟩,
   ⟨some (.t 27), .load false 1 (.t 26), some (.t 24, false)⟩,
   ⟨some (.t 28), .bin .lss (.t 27) (.c (.int .i64 2)), some (.t 24, false)⟩,
   ⟨some (.t 29), .mv (.t 28), some (.t 24, false)⟩,
   ⟨some (.t 30), .mv (.v 4), some (.t 29, true)⟩,
   ⟨some (.t 31), .iad 1 (.t 30) (.c (.int .i64 1)), some (.t 29, true)⟩,
   ⟨some (.t 32), .load false 1 (.t 31), some (.t 29, true)⟩,
   ⟨some (.t 33), .bin .gtr (.t 32) (.c (.int .i64 39)), some (.t 29, true)⟩,
   ⟨some (.t 34), .pick (.t 29) (.t 33) (.c (.bool false)), some (.t 24, false)⟩,
   ⟨some (.t 35), .pick (.t 24) (.c (.bool true)) (.t 34), none⟩,
   ⟨some (.t 36), .mv (.t 35), none⟩,
   ⟨some (.t 37), .mv (.v 4), some (.t 36, false)⟩,
   ⟨some (.t 38), .iad 1 (.t 37) (.c (.int .i64 1)), some (.t 36, false)⟩,
   ⟨some (.t 39), .load false 1 (.t 38), some (.t 36, false)⟩,
   ⟨some (.t 40), .mv (.v 4), some (.t 36, false)⟩,
   ⟨some (.t 41), .iad 1 (.t 40) (.c (.int .i64 0)), some (.t 36, false)⟩,
   ⟨some (.t 42), .load false 1 (.t 41), some (.t 36, false)⟩,
   ⟨some (.t 43), .bin .mul (.c (.int .i64 40)) (.t 42), some (.t 36, false)⟩,
   ⟨some (.t 44), .bin .add (.t 39) (.t 43), some (.t 36, false)⟩,
   ⟨some (.t 45), .bin .geq (.t 44) (.c (.int .i64 1099511627776)), some (.t 36, false)⟩,
   ⟨some (.v 46), .pick (.t 36) (.c (.bool true)) (.t 45), none⟩]
   [[], [0], [0, 1], [0, 1, 2], [0, 1, 2, 3], [0, 1, 2, 3, 4], [0, 1, 2, 3, 4, 5], [0, 1, 2, 3, 4, 5, 6], [0, 1, 2, 3, 4, 5, 6, 7], [0, 1, 2, 3, 4, 5, 6, 7, 8], [0, 1, 2, 3, 4, 5, 6, 7, 8, 9], [0, 1, 2, 3, 4, 5, 6, 7, 8, 9, 10], [0, 1, 2, 3, 4, 5, 6, 7, 8, 9, 10, 11], [0, 1, 2, 3, 4, 5, 6, 7, 8, 9, 10, 11, 12], [0, 1, 2, 3, 4, 5, 6, 7, 8, 9, 10, 11, 12, 13], [0, 1, 2, 3, 4, 5, 6, 7, 8, 9, 10, 11, 12, 13, 14], [0, 1, 2, 3, 4, 5, 6, 7, 8, 9, 10, 11, 12, 13, 14, 15], [0, 1, 2, 3, 4, 5, 6, 7, 8, 9, 10, 11, 12, 13, 14, 15, 16], [0, 1, 2, 3, 4, 5, 6, 7, 8, 9, 10, 11, 12, 13, 14, 15, 16, 17], [0, 1, 2, 3, 4, 5, 6, 7, 8, 9, 10, 11, 12, 13, 14, 15, 16, 17, 18], [0, 1, 2, 3, 4, 5, 6, 7, 8, 9, 10, 11, 12, 13, 14, 15, 16, 17, 18, 19], [0, 1, 2, 3, 4, 5, 6, 7, 8, 9, 10, 11, 12, 13, 14, 15, 16, 17, 18, 19, 20], [0, 1, 2, 3, 4, 5, 6, 7, 8, 9, 10, 11, 12, 13, 14, 15, 16, 17, 18, 19, 20, 21], [0, 1, 2, 3, 4, 5, 6, 7, 8, 9, 10, 11, 12, 13, 14, 15, 16, 17, 18, 19, 20, 21, 22], [0, 1, 2, 3, 4, 5, 6, 7, 8, 9, 10, 11, 12, 13, 14, 15, 16, 17, 18, 19, 20], [0, 1, 2, 3, 4, 5, 6, 7, 8, 9, 10, 11, 12, 13, 14, 15, 16, 17, 18, 19, 20, 24], [0, 1, 2, 3, 4, 5, 6, 7, 8, 9, 10, 11, 12, 13, 14, 15, 16, 17, 18, 19, 20, 24, 25], [0, 1, 2, 3, 4, 5, 6, 7, 8, 9, 10, 11, 12, 13, 14, 15, 16, 17, 18, 19, 20, 24, 25, 26], [0, 1, 2, 3, 4, 5, 6, 7, 8, 9, 10, 11, 12, 13, 14, 15, 16, 17, 18, 19, 20, 21, 22, 23, 24, 25, 26, 27], [0, 1, 2, 3, 4, 5, 6, 7, 8, 9, 10, 11, 12, 13, 14, 15, 16, 17, 18, 19, 20, 21, 22, 23, 24, 25, 26, 27, 28], [0, 1, 2, 3, 4, 5, 6, 7, 8, 9, 10, 11, 12, 13, 14, 15, 16, 17, 18, 19, 20, 21, 22, 23, 24, 25, 26, 27, 28, 29]])
   (.cond (.v 46) (.seq (.rg [⟨some (.t 47), .build [.int .i64 0, .int .i64 0, .bool false, .nilsl, .nilsl] [], none⟩,
   ⟨none, .store 5 (.v 2) (.t 47), none⟩,
   ⟨some (.v 3), .mv (.c (.bool false)), none⟩])
   (.ret))
   (.skip)))
   (.seq (.rgd [⟨some (.t 48), .mv (.v 4), none⟩,
   ⟨some (.t 49), .mv (.v 4), none⟩,
   ⟨some (.t 50), .iad 1 (.t 49) (.c (.int .i64 1)), none⟩,
   ⟨some (.t 51), .load false 1 (.t 50), none⟩,
   ⟨some (.t 52), .mv (.v 4), none⟩,
   ⟨some (.t 53), .iad 1 (.t 52) (.c (.int .i64 0)), none⟩,
   ⟨some (.t 54), .load false 1 (.t 53), none⟩,
   ⟨some (.t 55), .bin .mul (.c (.int .i64 40)) (.t 54), none⟩,
   ⟨some (.t 56), .bin .add (.t 51) (.t 55), none⟩,
   ⟨some (.t 57), .iad 1 (.t 48) (.c (.int .i64 1)), none⟩,
   ⟨none, .store 1 (.t 57) (.t 56), none⟩]
   [[], [], [1], [1, 2], [], [4], [4, 5], [4, 5, 6], [1, 2, 3, 4, 5, 6, 7], [0, 1, 2, 3, 4, 5, 6, 7, 8], [0, 1, 2, 3, 4, 5, 6, 7, 8, 9]])
   (.seq (.rg [⟨some (.v 6), .mv (.c (.nilsl)), none⟩])
   (.seq (.seq (.rg [⟨some (.v 7), .mv (.c (.int .i64 1)), none⟩])
   (.block 0 (.loop m56k0 m56b0)))
   (.seq (.rg [⟨some (.t 99), .mv (.v 6), none⟩,
   ⟨some (.t 100), .build [.int .i64 0, .int .i64 0, .bool false, .nilsl, .nilsl] [(1, 1, .c (.int .i64 6)), (3, 1, .t 99)], none⟩,
   ⟨none, .store 5 (.v 2) (.t 100), none⟩,
   ⟨some (.v 3), .mv (.c (.bool true)), none⟩])
   (.ret)))))))⟩
theorem m56o : okFn Tryz.prog 56 [11, 12, 13, 14, 15, 16, 17, 18, 19, 20, 21, 22, 23, 24, 25, 26, 27, 28, 29, 30, 31, 32, 33, 34, 35, 36, 37, 38, 39, 40, 41, 42, 43, 44, 45, 47, 48, 49, 50, 51, 52, 53, 54, 55, 56, 57, 58, 59, 60, 62, 63, 64, 65, 66, 67, 68, 69, 70, 71, 72, 73, 74, 76, 77, 78, 79, 80, 81, 82, 83, 84, 85, 86, 87, 88, 90, 91, 92, 93, 94, 95, 96, 97, 98, 99, 100] [m56k0, m56k1, m56k2] [[[], [0], [0, 1], [0, 1, 2], [0, 1, 2, 3], [0, 1, 2, 3, 4], [0, 1, 2, 3, 4, 5], [0, 1, 2, 3, 4, 5, 6], [0, 1, 2, 3, 4, 5, 6, 7], [0, 1, 2, 3, 4, 5, 6, 7, 8], [0, 1, 2, 3, 4, 5, 6, 7, 8, 9], [0, 1, 2, 3, 4, 5, 6, 7, 8, 9, 10], [0, 1, 2, 3, 4, 5, 6, 7, 8, 9, 10, 11], [0, 1, 2, 3, 4, 5, 6, 7, 8, 9, 10, 11, 12], [0, 1, 2, 3, 4, 5, 6, 7, 8, 9, 10, 11, 12, 13], [0, 1, 2, 3, 4, 5, 6, 7, 8, 9, 10, 11, 12, 13, 14], [0, 1, 2, 3, 4, 5, 6, 7, 8, 9, 10, 11, 12, 13, 14, 15], [0, 1, 2, 3, 4, 5, 6, 7, 8, 9, 10, 11, 12, 13, 14, 15, 16], [0, 1, 2, 3, 4, 5, 6, 7, 8, 9, 10, 11, 12, 13, 14, 15, 16, 17], [0, 1, 2, 3, 4, 5, 6, 7, 8, 9, 10, 11, 12, 13, 14, 15, 16, 17, 18], [0, 1, 2, 3, 4, 5, 6, 7, 8, 9, 10, 11, 12, 13, 14, 15, 16, 17, 18, 19], [0, 1, 2, 3, 4, 5, 6, 7, 8, 9, 10, 11, 12, 13, 14, 15, 16, 17, 18, 19, 20], [0, 1, 2, 3, 4, 5, 6, 7, 8, 9, 10, 11, 12, 13, 14, 15, 16, 17, 18, 19, 20, 21], [0, 1, 2, 3, 4, 5, 6, 7, 8, 9, 10, 11, 12, 13, 14, 15, 16, 17, 18, 19, 20, 21, 22], [0, 1, 2, 3, 4, 5, 6, 7, 8, 9, 10, 11, 12, 13, 14, 15, 16, 17, 18, 19, 20], [0, 1, 2, 3, 4, 5, 6, 7, 8, 9, 10, 11, 12, 13, 14, 15, 16, 17, 18, 19, 20, 24], [0, 1, 2, 3, 4, 5, 6, 7, 8, 9, 10, 11, 12, 13, 14, 15, 16, 17, 18, 19, 20, 24, 25], [0, 1, 2, 3, 4, 5, 6, 7, 8, 9, 10, 11, 12, 13, 14, 15, 16, 17, 18, 19, 20, 24, 25, 26], [0, 1, 2, 3, 4, 5, 6, 7, 8, 9, 10, 11, 12, 13, 14, 15, 16, 17, 18, 19, 20, 21, 22, 23, 24, 25, 26, 27], [0, 1, 2, 3, 4, 5, 6, 7, 8, 9, 10, 11, 12, 13, 14, 15, 16, 17, 18, 19, 20, 21, 22, 23, 24, 25, 26, 27, 28], [0, 1, 2, 3, 4, 5, 6, 7, 8, 9, 10, 11, 12, 13, 14, 15, 16, 17, 18, 19, 20, 21, 22, 23, 24, 25, 26, 27, 28, 29]], [[], [], [1], [1, 2], [], [4], [4, 5], [4, 5, 6], [1, 2, 3, 4, 5, 6, 7], [0, 1, 2, 3, 4, 5, 6, 7, 8], [0, 1, 2, 3, 4, 5, 6, 7, 8, 9]]] m56.nargs m56.params m56.results = some m56.body := by kernel_rfl

def m57k0 : List (Nat × KMode) := [(0, .plain), (1, .plain), (5, .plain)]
def m57b0 : MCode :=
 .seq (.seq (.rg [⟨some (.t 11), .mv (.v 5), none⟩,
   ⟨some (.t 12), .mv (.v 0), none⟩,
   ⟨some (.t 13), .len false (.t 12), none⟩,
   ⟨some (.v 14), .bin .lss (.t 11) (.t 13), none⟩])
   (.cond (.v 14) (.skip)
   (.exit 0)))
  (.seq (.block 1 (.seq (.rgd [⟨some (.t 17), .mv (.v 0), none⟩,
   ⟨some (.t 18), .mv (.v 5), none⟩,
   ⟨some (.t 19), .iad 1 (.t 17) (.t 18), none⟩,
   ⟨some (.t 20), .load false 1 (.t 19), none⟩,
   ⟨some (.t 21), .mv (.v 1), none⟩,
   ⟨some (.t 22), .mv (.v 5), none⟩,
   ⟨some (.t 23), .iad 1 (.t 21) (.t 22), none⟩,
   ⟨some (.t 24), .load false 1 (.t 23), none⟩,
   ⟨some (.v 25), .bin .neq (.t 20) (.t 24), none⟩]
   [[], [], [0, 1], [0, 1, 2], [], [], [4, 5], [4, 5, 6], [0, 1, 2, 3, 4, 5, 6, 7]])
   (.cond (.v 25) (.seq (.rg [⟨some (.v 4), .mv (.c (.bool false)), none⟩])
   (.ret))
   (.skip))))
   (.rg [⟨some (.t 15), .mv (.v 5), none⟩,
   ⟨some (.t 16), .bin .add (.t 15) (.c (.int .i64 1)), none⟩,
   ⟨some (.v 5), .mv (.t 16), none⟩]))
def m57 : MFunc := ⟨2, [.byt, .byt], [(4, none, .other)],
 .seq (.rg [⟨some (.v 4), .mv (.c (.bool false)), none⟩])
  (.seq (.seq (.rg [⟨some (.t 6), .mv (.v 0), none⟩,
   ⟨some (.t 7), .len false (.t 6), none⟩,
   ⟨some (.t 8), .mv (.v 1), none⟩,
   ⟨some (.t 9), .len false (.t 8), none⟩,
   ⟨some (.v 10), .bin .neq (.t 7) (.t 9), none⟩])
   (.cond (.v 10) (.seq (.rg [⟨some (.v 4), .mv (.c (.bool false)), none⟩])
   (.ret))
   (.skip)))
   (.seq (.seq (.rg [⟨some (.v 5), .mv (.c (.int .i64 0)), none⟩])
   (.block 0 (.loop m57k0 m57b0)))
   (.seq (.rg [⟨some (.v 4), .mv (.c (.bool true)), none⟩])
   (.ret))))⟩
theorem m57o : okFn Tryz.prog 57 [6, 7, 8, 9, 11, 12, 13, 15, 16, 17, 18, 19, 20, 21, 22, 23, 24] [m57k0] [[[], [], [0, 1], [0, 1, 2], [], [], [4, 5], [4, 5, 6], [0, 1, 2, 3, 4, 5, 6, 7]]] m57.nargs m57.params m57.results = some m57.body := by kernel_rfl

def m58k0 : List (Nat × KMode) := [(0, .plain), (1, .plain), (12, .plain), (13, .plain)]
def m58b0 : MCode :=
 .seq (.rg [⟨some (.v 14), .bin .lss (.v 13) (.v 12), none⟩])
  (.seq (.cond (.v 14) (.skip)
   (.exit 0))
   (.seq (.block 1 (.seq (.rg [⟨some (.t 15), .mv (.v 13), none⟩,
   ⟨some (.v 5), .mv (.t 15), none⟩])
   (.seq (.rgd [⟨some (.t 16), .mv (.v 0), none⟩,
   ⟨some (.t 17), .mv (.v 5), none⟩,
   ⟨some (.t 18), .iad 2 (.t 16) (.t 17), none⟩,
   ⟨some (.t 19), .load true 2 (.t 18), none⟩,
   ⟨some (.t 20), .mv (.v 1), none⟩,
   ⟨some (.t 21), .mv (.v 5), none⟩,
   ⟨some (.t 22), .iad 2 (.t 20) (.t 21), none⟩,
   ⟨some (.t 23), .load true 2 (.t 22), none⟩,
   ⟨some (.v 24), .eqs (.struct [.str, .str]) true (.t 19) (.t 23), none⟩]
   [[], [], [0, 1], [0, 1, 2], [], [], [4, 5], [4, 5, 6], [0, 1, 2, 3, 4, 5, 6, 7]])
   (.cond (.v 24) (.seq (.rg [⟨some (.v 4), .mv (.c (.bool false)), none⟩])
   (.ret))
   (.skip)))))
   (.rg [⟨some (.t 25), .bin .add (.v 13) (.c (.int .i64 1)), none⟩,
   ⟨some (.v 13), .mv (.t 25), none⟩])))
def m58 : MFunc := ⟨2, [.el 2, .el 2], [(4, none, .other)],
 .seq (.rg [⟨some (.v 4), .mv (.c (.bool false)), none⟩])
  (.seq (.seq (.rg [⟨some (.t 6), .mv (.v 0), none⟩,
   ⟨some (.t 7), .len false (.t 6), none⟩,
   ⟨some (.t 8), .mv (.v 1), none⟩,
   ⟨some (.t 9), .len false (.t 8), none⟩,
   ⟨some (.v 10), .bin .neq (.t 7) (.t 9), none⟩])
   (.cond (.v 10) (.seq (.rg [⟨some (.v 4), .mv (.c (.bool false)), none⟩])
   (.ret))
   (.skip)))
   (.seq (.seq (.rg [⟨some (.t 11), .mv (.v 0), none⟩,
   ⟨some (.v 12), .len false (.t 11), none⟩,
   ⟨some (.v 13), .mv (.c (.int .i64 0)), none⟩])
   (.block 0 (.loop m58k0 m58b0)))
   (.seq (.rg [⟨some (.v 4), .mv (.c (.bool true)), none⟩])
   (.ret))))⟩
theorem m58o : okFn Tryz.prog 58 [6, 7, 8, 9, 11, 15, 16, 17, 18, 19, 20, 21, 22, 23, 25] [m58k0] [[[], [], [0, 1], [0, 1, 2], [], [], [4, 5], [4, 5, 6], [0, 1, 2, 3, 4, 5, 6, 7]]] m58.nargs m58.params m58.results = some m58.body := by kernel_rfl

def m59 : MFunc := ⟨3, [.other, .other, .other], [(6, none, .other)],
 .seq (.rg [⟨some (.v 6), .mv (.c (.int .i64 0)), none⟩])
  (.seq (.seq (.rg [⟨some (.t 7), .mv (.v 1), none⟩,
   ⟨some (.v 8), .bin .leq (.t 7) (.c (.int .i64 2)), none⟩])
   (.cond (.v 8) (.seq (.rg [⟨some (.t 9), .mv (.v 0), none⟩,
   ⟨some (.t 10), .bin .sub (.t 9) (.c (.int .i64 1)), none⟩,
   ⟨some (.v 0), .mv (.t 10), none⟩])
   (.rg [⟨some (.t 11), .mv (.v 1), none⟩,
   ⟨some (.t 12), .bin .add (.t 11) (.c (.int .i64 12)), none⟩,
   ⟨some (.v 1), .mv (.t 12), none⟩]))
   (.skip)))
   (.seq (.rg [⟨some (.t 13), .mv (.v 0), none⟩,
   ⟨some (.t 14), .bin .mul (.c (.int .i64 365)) (.t 13), none⟩,
   ⟨some (.t 15), .mv (.v 0), none⟩,
   ⟨some (.t 16), .bin .quo (.t 15) (.c (.int .i64 4)), none⟩,
   ⟨some (.t 17), .bin .add (.t 14) (.t 16), none⟩,
   ⟨some (.t 18), .mv (.v 0), none⟩,
   ⟨some (.t 19), .bin .quo (.t 18) (.c (.int .i64 100)), none⟩,
   ⟨some (.t 20), .bin .sub (.t 17) (.t 19), none⟩,
   ⟨some (.t 21), .mv (.v 0), none⟩,
   ⟨some (.t 22), .bin .quo (.t 21) (.c (.int .i64 400)), none⟩,
   ⟨some (.t 23), .bin .add (.t 20) (.t 22), none⟩,
   ⟨some (.t 24), .mv (.v 1), none⟩,
   ⟨some (.t 25), .bin .sub (.t 24) (.c (.int .i64 3)), none⟩,
   ⟨some (.t 26), .bin .mul (.c (.int .i64 153)) (.t 25), none⟩,
   ⟨some (.t 27), .bin .add (.t 26) (.c (.int .i64 2)), none⟩,
   ⟨some (.t 28), .bin .quo (.t 27) (.c (.int .i64 5)), none⟩,
   ⟨some (.t 29), .bin .add (.t 23) (.t 28), none⟩,
   ⟨some (.t 30), .mv (.v 2), none⟩,
   ⟨some (.t 31), .bin .add (.t 29) (.t 30), none⟩,
   ⟨some (.t 32), .bin .sub (.t 31) (.c (.int .i64 719469)), none⟩,
   ⟨some (.v 6), .mv (.t 32), none⟩])
   (.ret)))⟩
theorem m59o : okFn Tryz.prog 59 [7, 9, 10, 11, 12, 13, 14, 15, 16, 17, 18, 19, 20, 21, 22, 23, 24, 25, 26, 27, 28, 29, 30, 31, 32] [] [] m59.nargs m59.params m59.results = some m59.body := by kernel_rfl

def m60 : MFunc := ⟨2, [.other, .other], [(4, none, .other)],
 .seq (.rg [⟨some (.v 4), .mv (.c (.str [])), none⟩])
  (.seq (.rg [⟨some (.t 6), .mv (.v 0), none⟩,
   ⟨some (.t 7), .call 61 [.t 6], none⟩,
   ⟨some (.v 5), .mv (.t 7), none⟩])
   (.seq (.rg [⟨some (.t 8), .mv (.v 1), none⟩,
   ⟨some (.t 9), .mv (.v 5), none⟩,
   ⟨some (.t 10), .len true (.t 9), none⟩,
   ⟨some (.t 11), .bin .sub (.t 8) (.t 10), none⟩,
   ⟨some (.t 12), .call 88 [.c (.str [48]), .t 11], none⟩,
   ⟨some (.t 13), .mv (.v 5), none⟩,
   ⟨some (.t 14), .bin .add (.t 12) (.t 13), none⟩,
   ⟨some (.v 4), .mv (.t 14), none⟩])
   (.ret)))⟩
theorem m60o : okFn Tryz.prog 60 [6, 7, 8, 9, 10, 11, 12, 13, 14] [] [] m60.nargs m60.params m60.results = some m60.body := by kernel_rfl

def m65 : MFunc := ⟨2, [.other, .other], [(4, none, .other)],
 .seq (.rg [⟨some (.v 4), .mv (.c (.bool false)), none⟩])
  (.seq (.rg [⟨some (.t 5), .mv (.v 0), none⟩,
   ⟨some (.t 6), .mv (.v 1), none⟩,
   ⟨some (.t 7), .call 96 [.t 5, .t 6], none⟩,
   ⟨some (.t 8), .bin .geq (.t 7) (.c (.int .i64 0)), none⟩,
   ⟨some (.v 4), .mv (.t 8), none⟩])
   (.ret))⟩
theorem m65o : okFn Tryz.prog 65 [5, 6, 7, 8] [] [] m65.nargs m65.params m65.results = some m65.body := by kernel_rfl

def m66 : MFunc := ⟨1, [.other], [(2, none, .other)],
 .seq (.rg [⟨some (.v 2), .mv (.c (.bool false)), none⟩])
  (.seq (.rg [⟨some (.t 3), .mv (.v 0), none⟩,
   ⟨some (.t 4), .bin .geq (.t 3) (.c (.int .i32 97)), none⟩,
   ⟨some (.t 5), .mv (.t 4), none⟩,
   ⟨some (.t 6), .mv (.v 0), some (.t 5, true)⟩,
   ⟨some (.t 7), .bin .leq (.t 6) (.c (.int .i32 122)), some (.t 5, true)⟩,
   ⟨some (.t 8), .pick (.t 5) (.t 7) (.c (.bool false)), none⟩,
   ⟨some (.t 9), .mv (.t 8), none⟩,
   ⟨some (.t 10), .mv (.v 0), some (.t 9, false)⟩,
   ⟨some (.t 11), .bin .geq (.t 10) (.c (.int .i32 65)), some (.t 9, false)⟩,
   ⟨some (.t 12), .mv (.t 11), some (.t 9, false)⟩,
   ⟨some (.t 13), .mv (.v 0), some (.t 12, true)⟩,
   ⟨some (.t 14), .bin .leq (.t 13) (.c (.int .i32 90)), some (.t 12, true)⟩,
   ⟨some (.t 15), .pick (.t 12) (.t 14) (.c (.bool false)), some (.t 9, false)⟩,
   ⟨some (.t 16), .pick (.t 9) (.c (.bool true)) (.t 15), none⟩,
   ⟨some (.t 17), .mv (.t 16), none⟩,
   ⟨some (.t 18), .mv (.v 0), some (.t 17, false)⟩,
   ⟨some (.t 19), .bin .geq (.t 18) (.c (.int .i32 48)), some (.t 17, false)⟩,
   ⟨some (.t 20), .mv (.t 19), some (.t 17, false)⟩,
   ⟨some (.t 21), .mv (.v 0), some (.t 20, true)⟩,
   ⟨some (.t 22), .bin .leq (.t 21) (.c (.int .i32 57)), some (.t 20, true)⟩,
   ⟨some (.t 23), .pick (.t 20) (.t 22) (.c (.bool false)), some (.t 17, false)⟩,
   ⟨some (.t 24), .pick (.t 17) (.c (.bool true)) (.t 23), none⟩,
   ⟨some (.t 25), .mv (.t 24), none⟩,
   ⟨some (.t 26), .mv (.v 0), some (.t 25, false)⟩,
   ⟨some (.t 27), .bin .eql (.t 26) (.c (.int .i32 45)), some (.t 25, false)⟩,
   ⟨some (.t 28), .pick (.t 25) (.c (.bool true)) (.t 27), none⟩,
   ⟨some (.t 29), .un .not (.t 28), none⟩,
   ⟨some (.v 2), .mv (.t 29), none⟩])
   (.ret))⟩
theorem m66o : okFn Tryz.prog 66 [3, 4, 5, 6, 7, 8, 9, 10, 11, 12, 13, 14, 15, 16, 17, 18, 19, 20, 21, 22, 23, 24, 25, 26, 27, 28, 29] [] [] m66.nargs m66.params m66.results = some m66.body := by kernel_rfl

def m67 : MFunc := ⟨2, [.other, .other], [(4, none, .other)],
 .seq (.rg [⟨some (.v 4), .mv (.c (.bool false)), none⟩])
  (.seq (.rg [⟨some (.t 5), .mv (.v 0), none⟩,
   ⟨some (.t 6), .mv (.v 1), none⟩,
   ⟨some (.t 7), .call 97 [.t 5, .t 6], none⟩,
   ⟨some (.v 4), .mv (.t 7), none⟩])
   (.ret))⟩
theorem m67o : okFn Tryz.prog 67 [5, 6, 7] [] [] m67.nargs m67.params m67.results = some m67.body := by kernel_rfl

def m73 : MFunc := ⟨1, [.other], [(2, none, .other)],
 .seq (.rg [⟨some (.v 2), .mv (.c (.bool false)), none⟩])
  (.seq (.rg [⟨some (.t 3), .mv (.v 0), none⟩,
   ⟨some (.t 4), .bin .eql (.t 3) (.c (.int .i64 1)), none⟩,
   ⟨some (.t 5), .mv (.t 4), none⟩,
   ⟨some (.t 6), .mv (.v 0), some (.t 5, false)⟩,
   ⟨some (.t 7), .bin .eql (.t 6) (.c (.int .i64 2)), some (.t 5, false)⟩,
   ⟨some (.t 8), .pick (.t 5) (.c (.bool true)) (.t 7), none⟩,
   ⟨some (.t 9), .mv (.t 8), none⟩,
   ⟨some (.t 10), .mv (.v 0), some (.t 9, false)⟩,
   ⟨some (.t 11), .bin .eql (.t 10) (.c (.int .i64 4)), some (.t 9, false)⟩,
   ⟨some (.t 12), .pick (.t 9) (.c (.bool true)) (.t 11), none⟩,
   ⟨some (.t 13), .mv (.t 12), none⟩,
   ⟨some (.t 14), .mv (.v 0), some (.t 13, false)⟩,
   ⟨some (.t 15), .bin .eql (.t 14) (.c (.int .i64 6)), some (.t 13, false)⟩,
   ⟨some (.t 16), .pick (.t 13) (.c (.bool true)) (.t 15), none⟩,
   ⟨some (.t 17), .mv (.t 16), none⟩,
   ⟨some (.t 18), .mv (.v 0), some (.t 17, false)⟩,
   ⟨some (.t 19), .bin .eql (.t 18) (.c (.int .i64 7)), some (.t 17, false)⟩,
   ⟨some (.t 20), .pick (.t 17) (.c (.bool true)) (.t 19), none⟩,
   ⟨some (.v 2), .mv (.t 20), none⟩])
   (.ret))⟩
theorem m73o : okFn Tryz.prog 73 [3, 4, 5, 6, 7, 8, 9, 10, 11, 12, 13, 14, 15, 16, 17, 18, 19, 20] [] [] m73.nargs m73.params m73.results = some m73.body := by kernel_rfl

def m74k0 : List (Nat × KMode) := [(2, .plain), (5, .plain), (6, .plain), (7, .plain)]
def m74b0 : MCode :=
 .seq (.seq (.rg [⟨some (.t 40), .mv (.v 7), none⟩,
   ⟨some (.t 41), .mv (.v 5), none⟩,
   ⟨some (.t 42), .bin .mul (.c (.int .i64 4)) (.t 41), none⟩,
   ⟨some (.v 43), .bin .lss (.t 40) (.t 42), none⟩])
   (.cond (.v 43) (.skip)
   (.exit 0)))
  (.seq (.block 1 (.seq (.rg [⟨some (.t 46), .fad 1 (.v 2), none⟩,
   ⟨some (.t 47), .load false 1 (.t 46), none⟩,
   ⟨some (.t 48), .mv (.v 5), none⟩,
   ⟨some (.t 49), .bin .quo (.t 48) (.c (.int .i64 2)), none⟩,
   ⟨some (.t 50), .mv (.v 7), none⟩,
   ⟨some (.t 51), .bin .quo (.t 50) (.c (.int .i64 8)), none⟩,
   ⟨some (.t 52), .bin .add (.t 49) (.t 51), none⟩,
   ⟨some (.t 53), .idxS (.t 47) (.t 52), none⟩,
   ⟨some (.t 54), .mv (.v 7), none⟩,
   ⟨some (.t 55), .bin .rem (.t 54) (.c (.int .i64 8)), none⟩,
   ⟨some (.t 56), .bin .sub (.c (.int .i64 7)) (.t 55), none⟩,
   ⟨some (.t 57), .bin .shr (.t 53) (.t 56), none⟩,
   ⟨some (.t 58), .conv .i64 (.t 57), none⟩,
   ⟨some (.t 59), .bin .rem (.t 58) (.c (.int .i64 2)), none⟩,
   ⟨some (.t 60), .bin .eql (.t 59) (.c (.int .i64 1)), none⟩,
   ⟨some (.v 8), .mv (.t 60), none⟩])
   (.seq (.seq (.rg [⟨some (.t 61), .mv (.v 8), none⟩,
   ⟨some (.t 62), .mv (.t 61), none⟩,
   ⟨some (.t 63), .mv (.v 6), some (.t 62, true)⟩,
   ⟨some (.v 64), .pick (.t 62) (.t 63) (.c (.bool false)), none⟩])
   (.cond (.v 64) (.seq (.rg [⟨some (.v 4), .mv (.c (.bool false)), none⟩])
   (.ret))
   (.skip)))
   (.rg [⟨some (.t 65), .mv (.v 6), none⟩,
   ⟨some (.t 66), .mv (.t 65), none⟩,
   ⟨some (.t 67), .mv (.v 8), some (.t 66, false)⟩,
   ⟨some (.t 68), .un .not (.t 67), some (.t 66, false)⟩,
   ⟨some (.t 69), .pick (.t 66) (.c (.bool true)) (.t 68), none⟩,
   ⟨some (.v 6), .mv (.t 69), none⟩]))))
   (.rg [⟨some (.t 44), .mv (.v 7), none⟩,
   ⟨some (.t 45), .bin .add (.t 44) (.c (.int .i64 1)), none⟩,
   ⟨some (.v 7), .mv (.t 45), none⟩]))
def m74k1 : List (Nat × KMode) := [(1, .plain), (2, .plain), (5, .plain), (9, .plain)]
def m74b1 : MCode :=
 .seq (.seq (.rg [⟨some (.t 70), .mv (.v 9), none⟩,
   ⟨some (.t 71), .mv (.v 5), none⟩,
   ⟨some (.v 72), .bin .lss (.t 70) (.t 71), none⟩])
   (.cond (.v 72) (.skip)
   (.exit 2)))
  (.seq (.block 3 (.seq (.rg [⟨some (.t 75), .fad 1 (.v 2), none⟩,
   ⟨some (.t 76), .load false 1 (.t 75), none⟩,
   ⟨some (.t 77), .mv (.v 9), none⟩,
   ⟨some (.t 78), .idxS (.t 76) (.t 77), none⟩,
   ⟨some (.v 79), .bin .geq (.t 78) (.c (.int .u8 128)), none⟩])
   (.cond (.v 79) (.seq (.rg [⟨some (.v 4), .mv (.c (.bool false)), none⟩])
   (.ret))
   (.skip))))
   (.rg [⟨some (.t 73), .mv (.v 9), none⟩,
   ⟨some (.t 74), .bin .add (.t 73) (.c (.int .i64 1)), none⟩,
   ⟨some (.v 9), .mv (.t 74), none⟩]))
def m74 : MFunc := ⟨2, [.other, .other], [(4, none, .other)],
 .seq (.rg [⟨some (.v 2), .box (.v 0), none⟩,
   ⟨some (.v 4), .mv (.c (.bool false)), none⟩])
  (.seq (.rg [⟨some (.t 10), .fad 1 (.v 2), none⟩,
   ⟨some (.t 11), .load false 1 (.t 10), none⟩,
   ⟨some (.t 12), .len true (.t 11), none⟩,
   ⟨some (.v 5), .mv (.t 12), none⟩])
   (.seq (.seq (.rg [⟨some (.t 13), .fad 0 (.v 2), none⟩,
   ⟨some (.t 14), .load false 1 (.t 13), none⟩,
   ⟨some (.v 15), .bin .eql (.t 14) (.c (.int .i64 4)), none⟩])
   (.cond (.v 15) (.seq (.rg [⟨some (.t 16), .mv (.v 1), none⟩,
   ⟨some (.t 17), .mv (.t 16), none⟩,
   ⟨some (.t 18), .fad 2 (.v 2), some (.t 17, false)⟩,
   ⟨some (.t 19), .load false 1 (.t 18), some (.t 17, false)⟩,
   ⟨some (.t 20), .len false (.t 19), some (.t 17, false)⟩,
   ⟨some (.t 21), .bin .gtr (.t 20) (.c (.int .i64 0)), some (.t 17, false)⟩,
   ⟨some (.t 22), .pick (.t 17) (.c (.bool true)) (.t 21), none⟩,
   ⟨some (.v 4), .mv (.t 22), none⟩])
   (.ret))
   (.skip)))
   (.seq (.seq (.rg [⟨some (.t 23), .fad 0 (.v 2), none⟩,
   ⟨some (.t 24), .load false 1 (.t 23), none⟩,
   ⟨some (.v 25), .bin .eql (.t 24) (.c (.int .i64 7)), none⟩])
   (.cond (.v 25) (.seq (.seq (.rg [⟨some (.t 26), .mv (.v 1), none⟩,
   ⟨some (.v 27), .un .not (.t 26), none⟩])
   (.cond (.v 27) (.seq (.rg [⟨some (.t 28), .mv (.v 5), none⟩,
   ⟨some (.t 29), .bin .eql (.t 28) (.c (.int .i64 4)), none⟩,
   ⟨some (.t 30), .mv (.t 29), none⟩,
   ⟨some (.t 31), .mv (.v 5), some (.t 30, false)⟩,
   ⟨some (.t 32), .bin .eql (.t 31) (.c (.int .i64 16)), some (.t 30, false)⟩,
   ⟨some (.t 33), .pick (.t 30) (.c (.bool true)) (.t 32), none⟩,
   ⟨some (.v 4), .mv (.t 33), none⟩])
   (.ret))
   (.skip)))
   (.seq (.seq (.rg [⟨some (.t 34), .mv (.v 5), none⟩,
   ⟨some (.t 35), .bin .neq (.t 34) (.c (.int .i64 8)), none⟩,
   ⟨some (.t 36), .mv (.t 35), none⟩,
   ⟨some (.t 37), .mv (.v 5), some (.t 36, true)⟩,
   ⟨some (.t 38), .bin .neq (.t 37) (.c (.int .i64 32)), some (.t 36, true)⟩,
   ⟨some (.v 39), .pick (.t 36) (.t 38) (.c (.bool false)), none⟩])
   (.cond (.v 39) (.seq (.rg [⟨some (.v 4), .mv (.c (.bool false)), none⟩])
   (.ret))
   (.skip)))
   (.seq (.rg [⟨some (.v 6), .mv (.c (.bool false)), none⟩])
   (.seq (.seq (.rg [⟨some (.v 7), .mv (.c (.int .i64 0)), none⟩])
   (.block 0 (.loop m74k0 m74b0)))
   (.seq (.rg [⟨some (.v 4), .mv (.c (.bool true)), none⟩])
   (.ret))))))
   (.skip)))
   (.seq (.seq (.rg [⟨some (.v 9), .mv (.c (.int .i64 0)), none⟩])
   (.block 2 (.loop m74k1 m74b1)))
   (.seq (.rg [⟨some (.t 80), .mv (.v 5), none⟩,
   ⟨some (.t 81), .bin .gtr (.t 80) (.c (.int .i64 0)), none⟩,
   ⟨some (.t 82), .mv (.t 81), none⟩,
   ⟨some (.t 83), .mv (.v 1), some (.t 82, false)⟩,
   ⟨some (.t 84), .pick (.t 82) (.c (.bool true)) (.t 83), none⟩,
   ⟨some (.t 85), .mv (.t 84), none⟩,
   ⟨some (.t 86), .mv (.v 5), some (.t 85, true)⟩,
   ⟨some (.t 87), .bin .leq (.t 86) (.c (.int .i64 64)), some (.t 85, true)⟩,
   ⟨some (.t 88), .pick (.t 85) (.t 87) (.c (.bool false)), none⟩,
   ⟨some (.v 4), .mv (.t 88), none⟩])
   (.ret))))))⟩
theorem m74o : okFn Tryz.prog 74 [10, 11, 12, 13, 14, 16, 17, 18, 19, 20, 21, 22, 23, 24, 26, 28, 29, 30, 31, 32, 33, 34, 35, 36, 37, 38, 40, 41, 42, 44, 45, 46, 47, 48, 49, 50, 51, 52, 53, 54, 55, 56, 57, 58, 59, 60, 61, 62, 63, 65, 66, 67, 68, 69, 70, 71, 73, 74, 75, 76, 77, 78, 80, 81, 82, 83, 84, 85, 86, 87, 88] [m74k0, m74k1] [] m74.nargs m74.params m74.results = some m74.body := by kernel_rfl

def m75k0 : List (Nat × KMode) := [(0, .plain), (1, .plain), (5, .plain)]
def m75b0 : MCode :=
 .seq (.seq (.rg [⟨some (.t 6), .mv (.v 5), none⟩,
   ⟨some (.t 7), .mv (.v 0), none⟩,
   ⟨some (.t 8), .len true (.t 7), none⟩,
   ⟨some (.v 9), .bin .lss (.t 6) (.t 8), none⟩])
   (.cond (.v 9) (.skip)
   (.exit 0)))
  (.seq (.block 1 (.seq (.rg [⟨some (.t 12), .mv (.v 0), none⟩,
   ⟨some (.t 13), .mv (.v 5), none⟩,
   ⟨some (.t 14), .idxS (.t 12) (.t 13), none⟩,
   ⟨some (.t 15), .mv (.v 1), none⟩,
   ⟨some (.v 16), .bin .eql (.t 14) (.t 15), none⟩])
   (.cond (.v 16) (.seq (.rg [⟨some (.t 17), .mv (.v 5), none⟩,
   ⟨some (.v 4), .mv (.t 17), none⟩])
   (.ret))
   (.skip))))
   (.rg [⟨some (.t 10), .mv (.v 5), none⟩,
   ⟨some (.t 11), .bin .add (.t 10) (.c (.int .i64 1)), none⟩,
   ⟨some (.v 5), .mv (.t 11), none⟩]))
def m75 : MFunc := ⟨2, [.other, .other], [(4, none, .other)],
 .seq (.rg [⟨some (.v 4), .mv (.c (.int .i64 0)), none⟩])
  (.seq (.seq (.rg [⟨some (.v 5), .mv (.c (.int .i64 0)), none⟩])
   (.block 0 (.loop m75k0 m75b0)))
   (.seq (.rg [⟨some (.v 4), .mv (.c (.int .i64 (-1))), none⟩])
   (.ret)))⟩
theorem m75o : okFn Tryz.prog 75 [6, 7, 8, 10, 11, 12, 13, 14, 15, 17] [m75k0] [] m75.nargs m75.params m75.results = some m75.body := by kernel_rfl

def m76 : MFunc := ⟨1, [.other], [(2, none, .other)],
 .seq (.rg [⟨some (.v 2), .mv (.c (.int .u8 0)), none⟩])
  (.seq (.seq (.rg [⟨some (.t 3), .mv (.v 0), none⟩,
   ⟨some (.t 4), .bin .geq (.t 3) (.c (.int .u8 65)), none⟩,
   ⟨some (.t 5), .mv (.t 4), none⟩,
   ⟨some (.t 6), .mv (.v 0), some (.t 5, true)⟩,
   ⟨some (.t 7), .bin .leq (.t 6) (.c (.int .u8 90)), some (.t 5, true)⟩,
   ⟨some (.v 8), .pick (.t 5) (.t 7) (.c (.bool false)), none⟩])
   (.cond (.v 8) (.seq (.rg [⟨some (.t 9), .mv (.v 0), none⟩,
   ⟨some (.t 10), .bin .add (.t 9) (.c (.int .u8 32)), none⟩,
   ⟨some (.v 2), .mv (.t 10), none⟩])
   (.ret))
   (.skip)))
   (.seq (.rg [⟨some (.t 11), .mv (.v 0), none⟩,
   ⟨some (.v 2), .mv (.t 11), none⟩])
   (.ret)))⟩
theorem m76o : okFn Tryz.prog 76 [3, 4, 5, 6, 7, 9, 10, 11] [] [] m76.nargs m76.params m76.results = some m76.body := by kernel_rfl

def m77k0 : List (Nat × KMode) := [(0, .plain), (3, .plain), (8, .plain), (9, .plain)]
def m77b0 : MCode :=
 .seq (.rg [⟨some (.v 10), .bin .lss (.v 9) (.v 8), none⟩])
  (.seq (.cond (.v 10) (.skip)
   (.exit 0))
   (.seq (.block 1 (.seq (.rg [⟨some (.t 11), .mv (.v 9), none⟩,
   ⟨some (.v 4), .mv (.t 11), none⟩])
   (.seq (.rg [⟨some (.t 12), .mv (.v 0), none⟩,
   ⟨some (.t 13), .mv (.v 4), none⟩,
   ⟨some (.t 14), .bin .quo (.t 13) (.c (.int .i64 8)), none⟩,
   ⟨some (.t 15), .idxS (.t 12) (.t 14), none⟩,
   ⟨some (.t 16), .mv (.v 4), none⟩,
   ⟨some (.t 17), .bin .rem (.t 16) (.c (.int .i64 8)), none⟩,
   ⟨some (.t 18), .bin .sub (.c (.int .i64 7)) (.t 17), none⟩,
   ⟨some (.t 19), .bin .shr (.t 15) (.t 18), none⟩,
   ⟨some (.t 20), .bin .and (.t 19) (.c (.int .u8 1)), none⟩,
   ⟨some (.t 21), .bin .eql (.t 20) (.c (.int .u8 1)), none⟩,
   ⟨some (.v 5), .mv (.t 21), none⟩])
   (.seq (.seq (.rg [⟨some (.t 22), .mv (.v 5), none⟩,
   ⟨some (.t 23), .mv (.t 22), none⟩,
   ⟨some (.t 24), .mv (.v 3), some (.t 23, true)⟩,
   ⟨some (.v 25), .pick (.t 23) (.t 24) (.c (.bool false)), none⟩])
   (.cond (.v 25) (.seq (.rg [⟨some (.v 2), .mv (.c (.bool false)), none⟩])
   (.ret))
   (.skip)))
   (.rg [⟨some (.t 26), .mv (.v 3), none⟩,
   ⟨some (.t 27), .mv (.t 26), none⟩,
   ⟨some (.t 28), .mv (.v 5), some (.t 27, false)⟩,
   ⟨some (.t 29), .un .not (.t 28), some (.t 27, false)⟩,
   ⟨some (.t 30), .pick (.t 27) (.c (.bool true)) (.t 29), none⟩,
   ⟨some (.v 3), .mv (.t 30), none⟩])))))
   (.rg [⟨some (.t 31), .bin .add (.v 9) (.c (.int .i64 1)), none⟩,
   ⟨some (.v 9), .mv (.t 31), none⟩])))
def m77 : MFunc := ⟨1, [.other], [(2, none, .other)],
 .seq (.rg [⟨some (.v 2), .mv (.c (.bool false)), none⟩])
  (.seq (.rg [⟨some (.v 3), .mv (.c (.bool false)), none⟩])
   (.seq (.seq (.rg [⟨some (.t 6), .mv (.v 0), none⟩,
   ⟨some (.t 7), .len true (.t 6), none⟩,
   ⟨some (.v 8), .bin .mul (.c (.int .i64 8)) (.t 7), none⟩,
   ⟨some (.v 9), .mv (.c (.int .i64 0)), none⟩])
   (.block 0 (.loop m77k0 m77b0)))
   (.seq (.rg [⟨some (.v 2), .mv (.c (.bool true)), none⟩])
   (.ret))))⟩
theorem m77o : okFn Tryz.prog 77 [6, 7, 11, 12, 13, 14, 15, 16, 17, 18, 19, 20, 21, 22, 23, 24, 26, 27, 28, 29, 30, 31] [m77k0] [] m77.nargs m77.params m77.results = some m77.body := by kernel_rfl

def m78 : MFunc := ⟨1, [.other], [(2, none, .other)],
 .seq (.rg [⟨some (.v 2), .mv (.c (.bool false)), none⟩])
  (.seq (.rg [⟨some (.t 3), .mv (.v 0), none⟩,
   ⟨some (.t 4), .bin .geq (.t 3) (.c (.int .i32 128)), none⟩,
   ⟨some (.v 2), .mv (.t 4), none⟩])
   (.ret))⟩
theorem m78o : okFn Tryz.prog 78 [3, 4] [] [] m78.nargs m78.params m78.results = some m78.body := by kernel_rfl

def m79k0 : List (Nat × KMode) := [(1, .plain), (2, .plain), (7, .plain), (8, (.ownE 1)), (69, .plain), (70, .plain), (71, .plain)]
def m79b0 : MCode :=
 .seq (.rg [⟨some (.v 72), .bin .lss (.v 71) (.v 70), none⟩])
  (.seq (.cond (.v 72) (.skip)
   (.exit 2))
   (.seq (.block 3 (.seq (.rg [⟨some (.t 73), .iad 5 (.v 69) (.v 71), none⟩,
   ⟨some (.t 74), .load true 5 (.t 73), none⟩,
   ⟨some (.v 10), .alloc [.int .i64 0, .int .i64 0, .bool false, .nilsl, .nilsl], none⟩,
   ⟨none, .store 5 (.v 10) (.t 74), none⟩])
   (.seq (.rg [⟨some (.t 76), .load true 5 (.v 10), none⟩,
   ⟨some (.t 77), .mv (.v 1), none⟩,
   ⟨some (.t 78), .bin .add (.t 77) (.c (.int .i64 1)), none⟩,
   ⟨some (.t 79), .call 79 [.t 76, .t 78], none⟩,
   ⟨some (.t 75), .mv (.t 79), none⟩,
   ⟨some (.t 80), .ext 0 (.t 75), none⟩,
   ⟨some (.t 81), .ext 1 (.t 75), none⟩,
   ⟨some (.v 11), .mv (.t 80), none⟩,
   ⟨some (.v 12), .mv (.t 81), none⟩])
   (.seq (.seq (.rg [⟨some (.t 82), .mv (.v 12), none⟩,
   ⟨some (.v 83), .bin .neq (.t 82) (.c (.int .i64 0)), none⟩])
   (.cond (.v 83) (.seq (.rg [⟨some (.t 84), .mv (.v 12), none⟩,
   ⟨some (.v 4), .mv (.c (.nilsl)), none⟩,
   ⟨some (.v 5), .mv (.t 84), none⟩])
   (.ret))
   (.skip)))
   (.rg [⟨some (.t 85), .mv (.v 8), none⟩,
   ⟨some (.t 86), .mv (.v 11), none⟩,
   ⟨some (.t 87), .bslE 1 (.nilsl) 1 [(0, .t 86)], none⟩,
   ⟨some (.t 88), .app false 1 24 (.t 85) (.t 87), none⟩,
   ⟨some (.v 8), .mv (.t 88), none⟩])))))
   (.rg [⟨some (.t 89), .bin .add (.v 71) (.c (.int .i64 1)), none⟩,
   ⟨some (.v 71), .mv (.t 89), none⟩])))
def m79k1 : List (Nat × KMode) := [(2, .plain), (7, .plain), (14, .ownB), (15, .plain)]
def m79b1 : MCode :=
 .seq (.seq (.rg [⟨some (.t 127), .mv (.v 15), none⟩,
   ⟨some (.v 128), .bin .geq (.t 127) (.c (.int .i64 0)), none⟩])
   (.cond (.v 128) (.skip)
   (.exit 4)))
  (.seq (.block 5 (.seq (.rg [⟨some (.t 131), .fad 1 (.v 2), none⟩,
   ⟨some (.t 132), .load false 1 (.t 131), none⟩,
   ⟨some (.t 133), .mv (.v 15), none⟩,
   ⟨some (.t 134), .bin .shr (.t 132) (.t 133), none⟩,
   ⟨some (.t 135), .bin .gtr (.t 134) (.c (.int .i64 0)), none⟩,
   ⟨some (.t 136), .mv (.t 135), none⟩,
   ⟨some (.t 137), .mv (.v 15), some (.t 136, false)⟩,
   ⟨some (.t 138), .bin .eql (.t 137) (.c (.int .i64 0)), some (.t 136, false)⟩,
   ⟨some (.v 139), .pick (.t 136) (.c (.bool true)) (.t 138), none⟩])
   (.cond (.v 139) (.seq (.rg [⟨some (.t 140), .fad 1 (.v 2), none⟩,
   ⟨some (.t 141), .load false 1 (.t 140), none⟩,
   ⟨some (.t 142), .mv (.v 15), none⟩,
   ⟨some (.t 143), .bin .shr (.t 141) (.t 142), none⟩,
   ⟨some (.t 144), .bin .and (.t 143) (.c (.int .i64 127)), none⟩,
   ⟨some (.t 145), .conv .u8 (.t 144), none⟩,
   ⟨some (.v 16), .mv (.t 145), none⟩])
   (.seq (.seq (.rg [⟨some (.t 146), .mv (.v 15), none⟩,
   ⟨some (.v 147), .bin .gtr (.t 146) (.c (.int .i64 0)), none⟩])
   (.cond (.v 147) (.rg [⟨some (.t 148), .mv (.v 16), none⟩,
   ⟨some (.t 149), .bin .or (.t 148) (.c (.int .u8 128)), none⟩,
   ⟨some (.v 16), .mv (.t 149), none⟩])
   (.skip)))
   (.rg [⟨some (.t 150), .mv (.v 14), none⟩,
   ⟨some (.t 151), .mv (.v 16), none⟩,
   ⟨some (.t 152), .bslB 1 [(0, .t 151)], none⟩,
   ⟨some (.t 153), .app true 1 1 (.t 150) (.t 152), none⟩,
   ⟨some (.v 14), .mv (.t 153), none⟩])))
   (.skip))))
   (.rg [⟨some (.t 129), .mv (.v 15), none⟩,
   ⟨some (.t 130), .bin .sub (.t 129) (.c (.int .i64 7)), none⟩,
   ⟨some (.v 15), .mv (.t 130), none⟩]))
def m79 : MFunc := ⟨2, [.other, .other], [(4, none, .byt), (5, none, .other)],
 .seq (.rg [⟨some (.v 2), .box (.v 0), none⟩,
   ⟨some (.v 4), .mv (.c (.nilsl)), none⟩,
   ⟨some (.v 5), .mv (.c (.int .i64 0)), none⟩])
  (.seq (.block 0 (.seq (.rg [⟨some (.t 19), .mv (.v 1), none⟩,
   ⟨some (.t 20), .bin .gtr (.t 19) (.c (.int .i64 16)), none⟩,
   ⟨some (.v 18), .mv (.t 20), none⟩])
   (.cond (.v 18) (.seq (.rg [⟨some (.v 4), .mv (.c (.nilsl)), none⟩,
   ⟨some (.v 5), .mv (.c (.int .i64 23)), none⟩])
   (.ret))
   (.seq (.rg [⟨some (.t 22), .fad 0 (.v 2), none⟩,
   ⟨some (.t 23), .load false 1 (.t 22), none⟩,
   ⟨some (.t 24), .bin .lss (.t 23) (.c (.int .i64 0)), none⟩,
   ⟨some (.t 25), .mv (.t 24), none⟩,
   ⟨some (.t 26), .fad 0 (.v 2), some (.t 25, false)⟩,
   ⟨some (.t 27), .load false 1 (.t 26), some (.t 25, false)⟩,
   ⟨some (.t 28), .bin .gtr (.t 27) (.c (.int .i64 3)), some (.t 25, false)⟩,
   ⟨some (.t 29), .pick (.t 25) (.c (.bool true)) (.t 28), none⟩,
   ⟨some (.t 30), .mv (.t 29), none⟩,
   ⟨some (.t 31), .fad 1 (.v 2), some (.t 30, false)⟩,
   ⟨some (.t 32), .load false 1 (.t 31), some (.t 30, false)⟩,
   ⟨some (.t 33), .bin .lss (.t 32) (.c (.int .i64 0)), some (.t 30, false)⟩,
   ⟨some (.t 34), .pick (.t 30) (.c (.bool true)) (.t 33), none⟩,
   ⟨some (.t 35), .mv (.t 34), none⟩,
   ⟨some (.t 36), .fad 1 (.v 2), some (.t 35, false)⟩,
   ⟨some (.t 37), .load false 1 (.t 36), some (.t 35, false)⟩,
   ⟨some (.t 38), .bin .geq (.t 37) (.c (.int .i64 2097152)), some (.t 35, false)⟩,
   ⟨some (.t 39), .pick (.t 35) (.c (.bool true)) (.t 38), none⟩,
   ⟨some (.v 21), .mv (.t 39), none⟩])
   (.cond (.v 21) (.seq (.rg [⟨some (.v 4), .mv (.c (.nilsl)), none⟩,
   ⟨some (.v 5), .mv (.c (.int .i64 21)), none⟩])
   (.ret))
   (.skip))))))
   (.seq (.rg [⟨some (.t 40), .load true 5 (.v 2), none⟩,
   ⟨some (.t 41), .call 103 [.t 40], none⟩,
   ⟨some (.v 6), .mv (.t 41), none⟩])
   (.seq (.block 1 (.seq (.rg [⟨some (.t 43), .mv (.v 6), none⟩,
   ⟨some (.t 44), .bin .eql (.t 43) (.c (.int .i64 21)), none⟩,
   ⟨some (.v 42), .mv (.t 44), none⟩])
   (.cond (.v 42) (.seq (.rg [⟨some (.t 45), .mv (.v 6), none⟩,
   ⟨some (.v 4), .mv (.c (.nilsl)), none⟩,
   ⟨some (.v 5), .mv (.t 45), none⟩])
   (.ret))
   (.seq (.seq (.rg [⟨some (.t 47), .mv (.v 6), none⟩,
   ⟨some (.t 48), .bin .neq (.t 47) (.c (.int .i64 0)), none⟩,
   ⟨some (.v 46), .mv (.t 48), none⟩])
   (.cond (.v 46) (.skip)
   (.seq (.rg [⟨some (.t 49), .fad 2 (.v 2), none⟩,
   ⟨some (.t 50), .load false 1 (.t 49), none⟩,
   ⟨some (.t 51), .mv (.t 50), none⟩,
   ⟨some (.t 52), .fad 3 (.v 2), some (.t 51, true)⟩,
   ⟨some (.t 53), .load false 1 (.t 52), some (.t 51, true)⟩,
   ⟨some (.t 54), .len false (.t 53), some (.t 51, true)⟩,
   ⟨some (.t 55), .bin .gtr (.t 54) (.c (.int .i64 0)), some (.t 51, true)⟩,
   ⟨some (.t 56), .pick (.t 51) (.t 55) (.c (.bool false)), none⟩,
   ⟨some (.v 46), .mv (.t 56), none⟩])
   (.cond (.v 46) (.skip)
   (.rg [⟨some (.t 57), .fad 2 (.v 2), none⟩,
   ⟨some (.t 58), .load false 1 (.t 57), none⟩,
   ⟨some (.t 59), .un .not (.t 58), none⟩,
   ⟨some (.t 60), .mv (.t 59), none⟩,
   ⟨some (.t 61), .fad 4 (.v 2), some (.t 60, true)⟩,
   ⟨some (.t 62), .load false 1 (.t 61), some (.t 60, true)⟩,
   ⟨some (.t 63), .len false (.t 62), some (.t 60, true)⟩,
   ⟨some (.t 64), .bin .gtr (.t 63) (.c (.int .i64 0)), some (.t 60, true)⟩,
   ⟨some (.t 65), .pick (.t 60) (.t 64) (.c (.bool false)), none⟩,
   ⟨some (.v 46), .mv (.t 65), none⟩])))))
   (.cond (.v 46) (.seq (.rg [⟨some (.v 4), .mv (.c (.nilsl)), none⟩,
   ⟨some (.v 5), .mv (.c (.int .i64 24)), none⟩])
   (.ret))
   (.skip))))))
   (.seq (.rg [⟨some (.t 66), .fad 3 (.v 2), none⟩,
   ⟨some (.t 67), .load false 1 (.t 66), none⟩,
   ⟨some (.v 7), .mv (.t 67), none⟩])
   (.seq (.rg [⟨some (.v 8), .mv (.c (.nilsl)), none⟩])
   (.seq (.seq (.rg [⟨some (.t 68), .fad 4 (.v 2), none⟩,
   ⟨some (.v 69), .load false 1 (.t 68), none⟩,
   ⟨some (.v 70), .len false (.v 69), none⟩,
   ⟨some (.v 71), .mv (.c (.int .i64 0)), none⟩])
   (.block 2 (.loop m79k0 m79b0)))
   (.seq (.seq (.rg [⟨some (.t 90), .fad 0 (.v 2), none⟩,
   ⟨some (.t 91), .load false 1 (.t 90), none⟩,
   ⟨some (.t 92), .bin .eql (.t 91) (.c (.int .i64 0)), none⟩,
   ⟨some (.t 93), .mv (.t 92), none⟩,
   ⟨some (.t 94), .fad 1 (.v 2), some (.t 93, true)⟩,
   ⟨some (.t 95), .load false 1 (.t 94), some (.t 93, true)⟩,
   ⟨some (.t 96), .bin .eql (.t 95) (.c (.int .i64 17)), some (.t 93, true)⟩,
   ⟨some (.t 97), .pick (.t 93) (.t 96) (.c (.bool false)), none⟩,
   ⟨some (.t 98), .mv (.t 97), none⟩,
   ⟨some (.t 99), .mv (.v 8), some (.t 98, true)⟩,
   ⟨some (.t 100), .call 104 [.t 99], some (.t 98, true)⟩,
   ⟨some (.t 101), .un .not (.t 100), some (.t 98, true)⟩,
   ⟨some (.v 102), .pick (.t 98) (.t 101) (.c (.bool false)), none⟩])
   (.cond (.v 102) (.seq (.rg [⟨some (.v 4), .mv (.c (.nilsl)), none⟩,
   ⟨some (.v 5), .mv (.c (.int .i64 25)), none⟩])
   (.ret))
   (.skip)))
   (.seq (.seq (.rg [⟨some (.t 103), .fad 2 (.v 2), none⟩,
   ⟨some (.v 104), .load false 1 (.t 103), none⟩])
   (.cond (.v 104) (.rg [⟨some (.t 105), .mv (.v 8), none⟩,
   ⟨some (.t 106), .call 105 [.t 105, .c (.nilsl)], none⟩,
   ⟨some (.v 7), .mv (.t 106), none⟩])
   (.skip)))
   (.seq (.rg [⟨some (.t 107), .fad 0 (.v 2), none⟩,
   ⟨some (.t 108), .load false 1 (.t 107), none⟩,
   ⟨some (.t 109), .bin .shl (.t 108) (.c (.int .u64 6)), none⟩,
   ⟨some (.t 110), .conv .u8 (.t 109), none⟩,
   ⟨some (.v 13), .mv (.t 110), none⟩])
   (.seq (.seq (.rg [⟨some (.t 111), .fad 2 (.v 2), none⟩,
   ⟨some (.v 112), .load false 1 (.t 111), none⟩])
   (.cond (.v 112) (.rg [⟨some (.t 113), .mv (.v 13), none⟩,
   ⟨some (.t 114), .bin .or (.t 113) (.c (.int .u8 32)), none⟩,
   ⟨some (.v 13), .mv (.t 114), none⟩])
   (.skip)))
   (.seq (.rg [⟨some (.v 14), .mv (.c (.nilsl)), none⟩])
   (.seq (.seq (.rg [⟨some (.t 115), .fad 1 (.v 2), none⟩,
   ⟨some (.t 116), .load false 1 (.t 115), none⟩,
   ⟨some (.v 117), .bin .lss (.t 116) (.c (.int .i64 31)), none⟩])
   (.cond (.v 117) (.rg [⟨some (.t 118), .mv (.v 13), none⟩,
   ⟨some (.t 119), .fad 1 (.v 2), none⟩,
   ⟨some (.t 120), .load false 1 (.t 119), none⟩,
   ⟨some (.t 121), .conv .u8 (.t 120), none⟩,
   ⟨some (.t 122), .bin .or (.t 118) (.t 121), none⟩,
   ⟨some (.t 123), .bslB 1 [(0, .t 122)], none⟩,
   ⟨some (.v 14), .mv (.t 123), none⟩])
   (.seq (.rg [⟨some (.t 124), .mv (.v 13), none⟩,
   ⟨some (.t 125), .bin .or (.t 124) (.c (.int .u8 31)), none⟩,
   ⟨some (.t 126), .bslB 1 [(0, .t 125)], none⟩,
   ⟨some (.v 14), .mv (.t 126), none⟩])
   (.seq (.rg [⟨some (.v 15), .mv (.c (.int .i64 14)), none⟩])
   (.block 4 (.loop m79k1 m79b1))))))
   (.seq (.rg [⟨some (.t 154), .mv (.v 7), none⟩,
   ⟨some (.t 155), .len false (.t 154), none⟩,
   ⟨some (.v 17), .mv (.t 155), none⟩])
   (.seq (.block 6 (.seq (.rg [⟨some (.t 168), .mv (.v 17), none⟩,
   ⟨some (.t 169), .bin .lss (.t 168) (.c (.int .i64 128)), none⟩,
   ⟨some (.v 167), .mv (.t 169), none⟩])
   (.cond (.v 167) (.rg [⟨some (.t 170), .mv (.v 14), none⟩,
   ⟨some (.t 171), .mv (.v 17), none⟩,
   ⟨some (.t 172), .conv .u8 (.t 171), none⟩,
   ⟨some (.t 173), .bslB 1 [(0, .t 172)], none⟩,
   ⟨some (.t 174), .app true 1 1 (.t 170) (.t 173), none⟩,
   ⟨some (.v 14), .mv (.t 174), none⟩])
   (.seq (.rg [⟨some (.t 176), .mv (.v 17), none⟩,
   ⟨some (.t 177), .bin .lss (.t 176) (.c (.int .i64 256)), none⟩,
   ⟨some (.v 175), .mv (.t 177), none⟩])
   (.cond (.v 175) (.rg [⟨some (.t 178), .mv (.v 14), none⟩,
   ⟨some (.t 179), .mv (.v 17), none⟩,
   ⟨some (.t 180), .conv .u8 (.t 179), none⟩,
   ⟨some (.t 181), .bslB 2 [(0, .c (.int .u8 129)), (1, .t 180)], none⟩,
   ⟨some (.t 182), .app true 1 1 (.t 178) (.t 181), none⟩,
   ⟨some (.v 14), .mv (.t 182), none⟩])
   (.seq (.rg [⟨some (.t 184), .mv (.v 17), none⟩,
   ⟨some (.t 185), .bin .lss (.t 184) (.c (.int .i64 65536)), none⟩,
   ⟨some (.v 183), .mv (.t 185), none⟩])
   (.cond (.v 183) (.rg [⟨some (.t 186), .mv (.v 14), none⟩,
   ⟨some (.t 187), .mv (.v 17), none⟩,
   ⟨some (.t 188), .bin .shr (.t 187) (.c (.int .u64 8)), none⟩,
   ⟨some (.t 189), .conv .u8 (.t 188), none⟩,
   ⟨some (.t 190), .mv (.v 17), none⟩,
   ⟨some (.t 191), .conv .u8 (.t 190), none⟩,
   ⟨some (.t 192), .bslB 3 [(0, .c (.int .u8 130)), (1, .t 189), (2, .t 191)], none⟩,
   ⟨some (.t 193), .app true 1 1 (.t 186) (.t 192), none⟩,
   ⟨some (.v 14), .mv (.t 193), none⟩])
   (.rg [⟨some (.t 156), .mv (.v 14), none⟩,
   ⟨some (.t 157), .mv (.v 17), none⟩,
   ⟨some (.t 158), .bin .shr (.t 157) (.c (.int .u64 16)), none⟩,
   ⟨some (.t 159), .conv .u8 (.t 158), none⟩,
   ⟨some (.t 160), .mv (.v 17), none⟩,
   ⟨some (.t 161), .bin .shr (.t 160) (.c (.int .u64 8)), none⟩,
   ⟨some (.t 162), .conv .u8 (.t 161), none⟩,
   ⟨some (.t 163), .mv (.v 17), none⟩,
   ⟨some (.t 164), .conv .u8 (.t 163), none⟩,
   ⟨some (.t 165), .bslB 4 [(0, .c (.int .u8 131)), (1, .t 159), (2, .t 162), (3, .t 164)], none⟩,
   ⟨some (.t 166), .app true 1 1 (.t 156) (.t 165), none⟩,
   ⟨some (.v 14), .mv (.t 166), none⟩]))))))))
   (.seq (.rg [⟨some (.t 194), .mv (.v 14), none⟩,
   ⟨some (.t 195), .mv (.v 7), none⟩,
   ⟨some (.t 196), .app true 1 1 (.t 194) (.t 195), none⟩,
   ⟨some (.v 4), .mv (.t 196), none⟩,
   ⟨some (.v 5), .mv (.c (.int .i64 0)), none⟩])
   (.ret))))))))))))))))⟩
theorem m79o : okFn Tryz.prog 79 [19, 20, 22, 23, 24, 25, 26, 27, 28, 29, 30, 31, 32, 33, 34, 35, 36, 37, 38, 39, 40, 41, 43, 44, 45, 47, 48, 49, 50, 51, 52, 53, 54, 55, 56, 57, 58, 59, 60, 61, 62, 63, 64, 65, 66, 67, 68, 73, 74, 75, 76, 77, 78, 79, 80, 81, 82, 84, 85, 86, 87, 88, 89, 90, 91, 92, 93, 94, 95, 96, 97, 98, 99, 100, 101, 103, 105, 106, 107, 108, 109, 110, 111, 113, 114, 115, 116, 118, 119, 120, 121, 122, 123, 124, 125, 126, 127, 129, 130, 131, 132, 133, 134, 135, 136, 137, 138, 140, 141, 142, 143, 144, 145, 146, 148, 149, 150, 151, 152, 153, 154, 155, 156, 157, 158, 159, 160, 161, 162, 163, 164, 165, 166, 168, 169, 170, 171, 172, 173, 174, 176, 177, 178, 179, 180, 181, 182, 184, 185, 186, 187, 188, 189, 190, 191, 192, 193, 194, 195, 196] [m79k0, m79k1] [] m79.nargs m79.params m79.results = some m79.body := by kernel_rfl

def m81 : MFunc := ⟨1, [.other], [(2, none, .other)],
 .seq (.rg [⟨some (.v 2), .mv (.c (.bool false)), none⟩])
  (.seq (.rg [⟨some (.t 3), .mv (.v 0), none⟩,
   ⟨some (.t 4), .bin .geq (.t 3) (.c (.int .u8 97)), none⟩,
   ⟨some (.t 5), .mv (.t 4), none⟩,
   ⟨some (.t 6), .mv (.v 0), some (.t 5, true)⟩,
   ⟨some (.t 7), .bin .leq (.t 6) (.c (.int .u8 122)), some (.t 5, true)⟩,
   ⟨some (.t 8), .pick (.t 5) (.t 7) (.c (.bool false)), none⟩,
   ⟨some (.t 9), .mv (.t 8), none⟩,
   ⟨some (.t 10), .mv (.v 0), some (.t 9, false)⟩,
   ⟨some (.t 11), .bin .geq (.t 10) (.c (.int .u8 65)), some (.t 9, false)⟩,
   ⟨some (.t 12), .mv (.t 11), some (.t 9, false)⟩,
   ⟨some (.t 13), .mv (.v 0), some (.t 12, true)⟩,
   ⟨some (.t 14), .bin .leq (.t 13) (.c (.int .u8 90)), some (.t 12, true)⟩,
   ⟨some (.t 15), .pick (.t 12) (.t 14) (.c (.bool false)), some (.t 9, false)⟩,
   ⟨some (.t 16), .pick (.t 9) (.c (.bool true)) (.t 15), none⟩,
   ⟨some (.t 17), .mv (.t 16), none⟩,
   ⟨some (.t 18), .mv (.v 0), some (.t 17, false)⟩,
   ⟨some (.t 19), .bin .geq (.t 18) (.c (.int .u8 48)), some (.t 17, false)⟩,
   ⟨some (.t 20), .mv (.t 19), some (.t 17, false)⟩,
   ⟨some (.t 21), .mv (.v 0), some (.t 20, true)⟩,
   ⟨some (.t 22), .bin .leq (.t 21) (.c (.int .u8 57)), some (.t 20, true)⟩,
   ⟨some (.t 23), .pick (.t 20) (.t 22) (.c (.bool false)), some (.t 17, false)⟩,
   ⟨some (.t 24), .pick (.t 17) (.c (.bool true)) (.t 23), none⟩,
   ⟨some (.t 25), .mv (.t 24), none⟩,
   ⟨some (.t 26), .bslB 12 [(0, .c (.int .u8 32)), (1, .c (.int .u8 39)), (2, .c (.int .u8 40)), (3, .c (.int .u8 41)), (4, .c (.int .u8 43)), (5, .c (.int .u8 44)), (6, .c (.int .u8 45)), (7, .c (.int .u8 46)), (8, .c (.int .u8 47)), (9, .c (.int .u8 58)), (10, .c (.int .u8 61)), (11, .c (.int .u8 63))], some (.t 25, false)⟩,
   ⟨some (.t 27), .mark (.t 26), some (.t 25, false)⟩,
   ⟨some (.t 28), .mv (.v 0), some (.t 25, false)⟩,
   ⟨some (.t 29), .call 107 [.t 27, .t 28], some (.t 25, false)⟩,
   ⟨some (.t 30), .bin .geq (.t 29) (.c (.int .i64 0)), some (.t 25, false)⟩,
   ⟨some (.t 31), .pick (.t 25) (.c (.bool true)) (.t 30), none⟩,
   ⟨some (.v 2), .mv (.t 31), none⟩])
   (.ret))⟩
theorem m81o : okFn Tryz.prog 81 [3, 4, 5, 6, 7, 8, 9, 10, 11, 12, 13, 14, 15, 16, 17, 18, 19, 20, 21, 22, 23, 24, 25, 26, 27, 28, 29, 30, 31] [] [] m81.nargs m81.params m81.results = some m81.body := by kernel_rfl

def m82 : MFunc := ⟨1, [.other], [(2, none, .byt), (3, none, .other)],
 .seq (.rg [⟨some (.v 1), .box (.v 0), none⟩,
   ⟨some (.v 2), .mv (.c (.nilsl)), none⟩,
   ⟨some (.v 3), .mv (.c (.int .i64 0)), none⟩])
  (.seq (.rg [⟨some (.t 7), .load true 5 (.v 1), none⟩,
   ⟨some (.t 8), .call 108 [.t 7, .c (.int .i64 0)], none⟩,
   ⟨some (.t 6), .mv (.t 8), none⟩,
   ⟨some (.t 9), .ext 0 (.t 6), none⟩,
   ⟨some (.t 10), .ext 1 (.t 6), none⟩,
   ⟨some (.v 4), .mv (.t 9), none⟩,
   ⟨some (.v 5), .mv (.t 10), none⟩])
   (.seq (.seq (.rg [⟨some (.t 11), .mv (.v 5), none⟩,
   ⟨some (.t 12), .bin .eql (.t 11) (.c (.int .i64 0)), none⟩,
   ⟨some (.t 13), .mv (.t 12), none⟩,
   ⟨some (.t 14), .mv (.v 4), some (.t 13, true)⟩,
   ⟨some (.t 15), .len false (.t 14), some (.t 13, true)⟩,
   ⟨some (.t 16), .bin .gtr (.t 15) (.c (.int .i64 65536)), some (.t 13, true)⟩,
   ⟨some (.v 17), .pick (.t 13) (.t 16) (.c (.bool false)), none⟩])
   (.cond (.v 17) (.seq (.rg [⟨some (.v 2), .mv (.c (.nilsl)), none⟩,
   ⟨some (.v 3), .mv (.c (.int .i64 54)), none⟩])
   (.ret))
   (.skip)))
   (.seq (.rg [⟨some (.t 18), .mv (.v 4), none⟩,
   ⟨some (.t 19), .mv (.v 5), none⟩,
   ⟨some (.v 2), .mv (.t 18), none⟩,
   ⟨some (.v 3), .mv (.t 19), none⟩])
   (.ret))))⟩
theorem m82o : okFn Tryz.prog 82 [6, 7, 8, 9, 10, 11, 12, 13, 14, 15, 16, 18, 19] [] [] m82.nargs m82.params m82.results = some m82.body := by kernel_rfl
end Go.Proofs.YtncpjcojnjbhlaaGreatDoor

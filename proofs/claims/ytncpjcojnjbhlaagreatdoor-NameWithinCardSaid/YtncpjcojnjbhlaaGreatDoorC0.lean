/- Mini's code of functions of the program, and that it is theirs. -/
import Derived.Test.YtncpjcojnjbhlaaGreatDoorM2
import Derived.Test.YtncpjcojnjbhlaaGreatDoorProg
namespace Go.Proofs.YtncpjcojnjbhlaaGreatDoor
open Go Go.Mini Go.Proofs
set_option maxRecDepth 100000
def m3 : MFunc := ⟨2, [.other, .other], [(4, none, .other)],
 .seq (.rg [⟨some (.v 2), .box (.v 0), none⟩,
   ⟨some (.v 3), .box (.v 1), none⟩,
   ⟨some (.v 4), .mv (.c (.bool false)), none⟩])
  (.seq (.seq (.rg [⟨some (.t 5), .call 8 [], none⟩,
   ⟨some (.v 6), .un .not (.t 5), none⟩])
   (.cond (.v 6) (.seq (.rg [⟨some (.v 4), .mv (.c (.bool false)), none⟩])
   (.ret))
   (.skip)))
   (.seq (.seq (.rg [⟨some (.t 7), .load true 3 (.v 2), none⟩,
   ⟨some (.t 8), .call 9 [.t 7], none⟩,
   ⟨some (.t 9), .un .not (.t 8), none⟩,
   ⟨some (.t 10), .mv (.t 9), none⟩,
   ⟨some (.t 11), .load true 3 (.v 3), some (.t 10, false)⟩,
   ⟨some (.t 12), .call 9 [.t 11], some (.t 10, false)⟩,
   ⟨some (.t 13), .un .not (.t 12), some (.t 10, false)⟩,
   ⟨some (.v 14), .pick (.t 10) (.c (.bool true)) (.t 13), none⟩])
   (.cond (.v 14) (.seq (.rg [⟨some (.v 4), .mv (.c (.bool true)), none⟩])
   (.ret))
   (.skip)))
   (.seq (.rgd [⟨some (.t 15), .load true 3 (.v 2), none⟩,
   ⟨some (.t 16), .load true 3 (.v 3), none⟩,
   ⟨some (.t 17), .call 10 [.t 15, .t 16], none⟩,
   ⟨some (.t 18), .load true 3 (.v 2), none⟩,
   ⟨some (.t 19), .call 12 [.t 18], none⟩,
   ⟨some (.t 20), .load true 3 (.v 3), none⟩,
   ⟨some (.t 21), .call 12 [.t 20], none⟩,
   ⟨some (.t 22), .call 11 [.t 19, .t 21], none⟩,
   ⟨some (.t 23), .eqs .bool false (.t 17) (.t 22), none⟩,
   ⟨some (.v 4), .mv (.t 23), none⟩]
   [[], [], [0, 1], [], [0, 1, 2, 3], [], [0, 1, 2, 3, 4, 5], [0, 1, 2, 3, 4, 5, 6], [0, 1, 2, 3, 4, 5, 6, 7], [0, 1, 2, 3, 4, 5, 6, 7, 8]])
   (.ret))))⟩
theorem m3o : okE Tryz.prog 3 m3 = some m3.body := by kernel_rfl

def m8 : MFunc := ⟨0, [], [(0, none, .other)],
 .seq (.rg [⟨some (.v 0), .mv (.c (.bool false)), none⟩])
  (.seq (.rg [⟨some (.t 6), .bslB 3 [(0, .c (.int .u8 42)), (1, .c (.int .u8 134)), (2, .c (.int .u8 72))], none⟩,
   ⟨some (.t 7), .build [.int .i64 0, .int .i64 0, .bool false, .nilsl, .nilsl] [(1, 1, .c (.int .i64 6)), (3, 1, .t 6)], none⟩,
   ⟨some (.t 8), .call 26 [.t 7], none⟩,
   ⟨some (.t 5), .mv (.t 8), none⟩,
   ⟨some (.t 9), .ext 0 (.t 5), none⟩,
   ⟨some (.t 10), .ext 1 (.t 5), none⟩,
   ⟨some (.v 1), .mv (.t 9), none⟩,
   ⟨some (.v 2), .mv (.t 10), none⟩])
   (.seq (.rg [⟨some (.t 12), .bslB 13 [(0, .c (.int .u8 52)), (1, .c (.int .u8 57)), (2, .c (.int .u8 49)), (3, .c (.int .u8 50)), (4, .c (.int .u8 51)), (5, .c (.int .u8 49)), (6, .c (.int .u8 50)), (7, .c (.int .u8 51)), (8, .c (.int .u8 53)), (9, .c (.int .u8 57)), (10, .c (.int .u8 53)), (11, .c (.int .u8 57)), (12, .c (.int .u8 90))], none⟩,
   ⟨some (.t 13), .mark (.t 12), none⟩,
   ⟨some (.t 14), .build [.int .i64 0, .int .i64 0, .bool false, .nilsl, .nilsl] [(1, 1, .c (.int .i64 23)), (3, 1, .t 13)], none⟩,
   ⟨some (.t 15), .call 27 [.t 14], none⟩,
   ⟨some (.t 11), .mv (.t 15), none⟩,
   ⟨some (.t 16), .ext 0 (.t 11), none⟩,
   ⟨some (.t 17), .ext 1 (.t 11), none⟩,
   ⟨some (.v 3), .mv (.t 16), none⟩,
   ⟨some (.v 4), .mv (.t 17), none⟩])
   (.seq (.rg [⟨some (.t 18), .mv (.v 2), none⟩,
   ⟨some (.t 19), .mv (.t 18), none⟩,
   ⟨some (.t 20), .mv (.v 1), some (.t 19, true)⟩,
   ⟨some (.t 21), .bin .eql (.t 20) (.c (.str [49, 46, 50, 46, 56, 52, 48])), some (.t 19, true)⟩,
   ⟨some (.t 22), .pick (.t 19) (.t 21) (.c (.bool false)), none⟩,
   ⟨some (.t 23), .mv (.t 22), none⟩,
   ⟨some (.t 24), .mv (.v 4), some (.t 23, true)⟩,
   ⟨some (.t 25), .bin .eql (.t 24) (.c (.int .i64 0)), some (.t 23, true)⟩,
   ⟨some (.t 26), .pick (.t 23) (.t 25) (.c (.bool false)), none⟩,
   ⟨some (.t 27), .mv (.t 26), none⟩,
   ⟨some (.t 28), .mv (.v 3), some (.t 27, true)⟩,
   ⟨some (.t 29), .bin .eql (.t 28) (.c (.int .i64 2524607999)), some (.t 27, true)⟩,
   ⟨some (.t 30), .pick (.t 27) (.t 29) (.c (.bool false)), none⟩,
   ⟨some (.t 31), .mv (.t 30), none⟩,
   ⟨some (.t 32), .build [.int .i64 0, .str [], .nilsl] [(0, 1, .c (.int .i64 2)), (1, 1, .c (.str [97, 46, 66, 46, 101, 120, 97, 109, 112, 108, 101]))], some (.t 31, true)⟩,
   ⟨some (.t 33), .build [.int .i64 0, .str [], .nilsl] [(0, 1, .c (.int .i64 2)), (1, 1, .c (.str [98, 46, 101, 120, 97, 109, 112, 108, 101]))], some (.t 31, true)⟩,
   ⟨some (.t 34), .call 10 [.t 32, .t 33], some (.t 31, true)⟩,
   ⟨some (.t 35), .pick (.t 31) (.t 34) (.c (.bool false)), none⟩,
   ⟨some (.v 0), .mv (.t 35), none⟩])
   (.ret))))⟩
theorem m8o : okE Tryz.prog 8 m8 = some m8.body := by kernel_rfl

def m9k0 : List (Nat × KMode) := [(3, .plain), (14, .plain), (15, .plain), (16, .plain)]
def m9b0 : MCode :=
 .seq (.rg [⟨some (.v 17), .bin .lss (.v 16) (.v 15), none⟩])
  (.seq (.cond (.v 17) (.skip)
   (.exit 0))
   (.seq (.block 1 (.seq (.rg [⟨some (.t 18), .iad 2 (.v 14) (.v 16), none⟩,
   ⟨some (.t 19), .load true 2 (.t 18), none⟩,
   ⟨some (.v 5), .alloc [.str [], .str []], none⟩,
   ⟨none, .store 2 (.v 5) (.t 19), none⟩])
   (.seq (.rg [⟨some (.t 20), .mv (.v 3), none⟩,
   ⟨some (.t 21), .fad 0 (.v 5), none⟩,
   ⟨some (.t 22), .load false 1 (.t 21), none⟩,
   ⟨some (.t 23), .len true (.t 22), none⟩,
   ⟨some (.t 24), .fad 1 (.v 5), none⟩,
   ⟨some (.t 25), .load false 1 (.t 24), none⟩,
   ⟨some (.t 26), .len true (.t 25), none⟩,
   ⟨some (.t 27), .bin .add (.t 23) (.t 26), none⟩,
   ⟨some (.t 28), .bin .add (.t 20) (.t 27), none⟩,
   ⟨some (.v 3), .mv (.t 28), none⟩])
   (.seq (.rg [⟨some (.t 29), .mv (.v 3), none⟩,
   ⟨some (.v 30), .bin .gtr (.t 29) (.c (.int .i64 3000)), none⟩])
   (.cond (.v 30) (.seq (.rg [⟨some (.v 2), .mv (.c (.bool false)), none⟩])
   (.ret))
   (.skip))))))
   (.rg [⟨some (.t 31), .bin .add (.v 16) (.c (.int .i64 1)), none⟩,
   ⟨some (.v 16), .mv (.t 31), none⟩])))
def m9 : MFunc := ⟨1, [.other], [(2, none, .other)],
 .seq (.rg [⟨some (.v 1), .box (.v 0), none⟩,
   ⟨some (.v 2), .mv (.c (.bool false)), none⟩])
  (.seq (.rg [⟨some (.t 6), .fad 1 (.v 1), none⟩,
   ⟨some (.t 7), .load false 1 (.t 6), none⟩,
   ⟨some (.t 8), .len true (.t 7), none⟩,
   ⟨some (.t 9), .fad 2 (.v 1), none⟩,
   ⟨some (.t 10), .load false 1 (.t 9), none⟩,
   ⟨some (.t 11), .len false (.t 10), none⟩,
   ⟨some (.t 12), .bin .add (.t 8) (.t 11), none⟩,
   ⟨some (.v 3), .mv (.t 12), none⟩])
   (.seq (.seq (.rg [⟨some (.t 13), .fad 2 (.v 1), none⟩,
   ⟨some (.v 14), .load false 1 (.t 13), none⟩,
   ⟨some (.v 15), .len false (.v 14), none⟩,
   ⟨some (.v 16), .mv (.c (.int .i64 0)), none⟩])
   (.block 0 (.loop m9k0 m9b0)))
   (.seq (.rg [⟨some (.t 32), .mv (.v 3), none⟩,
   ⟨some (.t 33), .bin .leq (.t 32) (.c (.int .i64 3000)), none⟩,
   ⟨some (.v 2), .mv (.t 33), none⟩])
   (.ret))))⟩
theorem m9o : okE Tryz.prog 9 m9 = some m9.body := by kernel_rfl

def m10k0 : List (Nat × KMode) := [(21, .plain), (22, .plain), (23, .plain), (156, .plain), (157, .plain)]
def m10b0 : MCode :=
 .seq (.rg [⟨some (.v 158), .bin .lss (.v 157) (.v 156), none⟩])
  (.seq (.cond (.v 158) (.skip)
   (.exit 1))
   (.seq (.block 2 (.seq (.rg [⟨some (.t 159), .mv (.v 157), none⟩,
   ⟨some (.v 24), .mv (.t 159), none⟩])
   (.seq (.rgd [⟨some (.t 160), .mv (.v 21), none⟩,
   ⟨some (.t 161), .mv (.v 24), none⟩,
   ⟨some (.t 162), .iad 1 (.t 160) (.t 161), none⟩,
   ⟨some (.t 163), .load false 1 (.t 162), none⟩,
   ⟨some (.t 164), .mv (.v 23), none⟩,
   ⟨some (.t 165), .mv (.v 24), none⟩,
   ⟨some (.t 166), .iad 1 (.t 164) (.t 165), none⟩,
   ⟨some (.t 167), .load false 1 (.t 166), none⟩,
   ⟨some (.t 168), .bin .and (.t 163) (.t 167), none⟩,
   ⟨some (.t 169), .iad 1 (.t 160) (.t 161), none⟩,
   ⟨none, .store 1 (.t 169) (.t 168), none⟩]
   [[], [], [0, 1], [0, 1, 2], [], [], [4, 5], [4, 5, 6], [0, 1, 2, 3, 4, 5, 6, 7], [0, 1, 2, 3, 4, 5, 6, 7, 8], [0, 1, 2, 3, 4, 5, 6, 7, 8, 9]])
   (.rgd [⟨some (.t 170), .mv (.v 22), none⟩,
   ⟨some (.t 171), .mv (.v 24), none⟩,
   ⟨some (.t 172), .iad 1 (.t 170) (.t 171), none⟩,
   ⟨some (.t 173), .load false 1 (.t 172), none⟩,
   ⟨some (.t 174), .mv (.v 23), none⟩,
   ⟨some (.t 175), .mv (.v 24), none⟩,
   ⟨some (.t 176), .iad 1 (.t 174) (.t 175), none⟩,
   ⟨some (.t 177), .load false 1 (.t 176), none⟩,
   ⟨some (.t 178), .bin .and (.t 173) (.t 177), none⟩,
   ⟨some (.t 179), .iad 1 (.t 170) (.t 171), none⟩,
   ⟨none, .store 1 (.t 179) (.t 178), none⟩]
   [[], [], [0, 1], [0, 1, 2], [], [], [4, 5], [4, 5, 6], [0, 1, 2, 3, 4, 5, 6, 7], [0, 1, 2, 3, 4, 5, 6, 7, 8], [0, 1, 2, 3, 4, 5, 6, 7, 8, 9]]))))
   (.rg [⟨some (.t 180), .bin .add (.v 157) (.c (.int .i64 1)), none⟩,
   ⟨some (.v 157), .mv (.t 180), none⟩])))
def m10 : MFunc := ⟨2, [.other, .other], [(4, none, .other)],
 .seq (.rg [⟨some (.v 2), .box (.v 0), none⟩,
   ⟨some (.v 3), .box (.v 1), none⟩,
   ⟨some (.v 4), .mv (.c (.bool false)), none⟩])
  (.seq (.rg [⟨some (.t 26), .load true 3 (.v 2), none⟩,
   ⟨some (.t 27), .call 14 [.t 26, .c (.bool false)], none⟩,
   ⟨some (.t 25), .mv (.t 27), none⟩,
   ⟨some (.t 28), .ext 0 (.t 25), none⟩,
   ⟨some (.t 29), .ext 1 (.t 25), none⟩,
   ⟨some (.t 5), .alloc [.int .i64 0, .int .i64 0, .bool false, .nilsl, .nilsl], none⟩,
   ⟨none, .store 5 (.t 5) (.t 28), none⟩,
   ⟨some (.v 6), .mv (.t 29), none⟩])
   (.seq (.rg [⟨some (.t 31), .load true 3 (.v 3), none⟩,
   ⟨some (.t 32), .call 14 [.t 31, .c (.bool true)], none⟩,
   ⟨some (.t 30), .mv (.t 32), none⟩,
   ⟨some (.t 33), .ext 0 (.t 30), none⟩,
   ⟨some (.t 34), .ext 1 (.t 30), none⟩,
   ⟨some (.t 7), .alloc [.int .i64 0, .int .i64 0, .bool false, .nilsl, .nilsl], none⟩,
   ⟨none, .store 5 (.t 7) (.t 33), none⟩,
   ⟨some (.v 8), .mv (.t 34), none⟩])
   (.seq (.seq (.rg [⟨some (.t 35), .mv (.v 6), none⟩,
   ⟨some (.t 36), .bin .neq (.t 35) (.c (.int .i64 0)), none⟩,
   ⟨some (.t 37), .mv (.t 36), none⟩,
   ⟨some (.t 38), .mv (.v 8), some (.t 37, false)⟩,
   ⟨some (.t 39), .bin .neq (.t 38) (.c (.int .i64 0)), some (.t 37, false)⟩,
   ⟨some (.t 40), .pick (.t 37) (.c (.bool true)) (.t 39), none⟩,
   ⟨some (.t 41), .mv (.t 40), none⟩,
   ⟨some (.t 42), .fad 0 (.v 2), some (.t 41, false)⟩,
   ⟨some (.t 43), .load false 1 (.t 42), some (.t 41, false)⟩,
   ⟨some (.t 44), .fad 0 (.v 3), some (.t 41, false)⟩,
   ⟨some (.t 45), .load false 1 (.t 44), some (.t 41, false)⟩,
   ⟨some (.t 46), .bin .neq (.t 43) (.t 45), some (.t 41, false)⟩,
   ⟨some (.v 47), .pick (.t 41) (.c (.bool true)) (.t 46), none⟩])
   (.cond (.v 47) (.seq (.rg [⟨some (.v 4), .mv (.c (.bool false)), none⟩])
   (.ret))
   (.skip)))
   (.seq (.rgd [⟨some (.t 48), .fad 1 (.v 2), none⟩,
   ⟨some (.t 49), .load false 1 (.t 48), none⟩,
   ⟨some (.t 50), .fad 1 (.v 3), none⟩,
   ⟨some (.t 51), .load false 1 (.t 50), none⟩,
   ⟨some (.v 9), .mv (.t 49), none⟩,
   ⟨some (.v 10), .mv (.t 51), none⟩]
   [[], [0], [], [2], [0, 1], [0, 1, 2, 3, 4]])
   (.seq (.seq (.rg [⟨some (.t 52), .fad 0 (.v 2), none⟩,
   ⟨some (.v 53), .load false 1 (.t 52), none⟩])
   (.block 0 (.seq (.rg [⟨some (.t 55), .bin .eql (.v 53) (.c (.int .i64 2)), none⟩,
   ⟨some (.v 54), .mv (.t 55), none⟩])
   (.cond (.v 54) (.seq (.rg [⟨some (.t 56), .mv (.v 9), none⟩,
   ⟨some (.t 57), .call 28 [.t 56], none⟩,
   ⟨some (.t 58), .mv (.t 57), none⟩,
   ⟨some (.t 59), .mv (.v 10), some (.t 58, true)⟩,
   ⟨some (.t 60), .bin .eql (.t 59) (.c (.str [])), some (.t 58, true)⟩,
   ⟨some (.t 61), .mv (.t 60), some (.t 58, true)⟩,
   ⟨some (.t 62), .mv (.v 9), some (.t 61, false)⟩,
   ⟨some (.t 63), .call 29 [.t 62], some (.t 61, false)⟩,
   ⟨some (.t 64), .mv (.v 10), some (.t 61, false)⟩,
   ⟨some (.t 65), .call 29 [.t 64], some (.t 61, false)⟩,
   ⟨some (.t 66), .bin .eql (.t 63) (.t 65), some (.t 61, false)⟩,
   ⟨some (.t 67), .pick (.t 61) (.c (.bool true)) (.t 66), some (.t 58, true)⟩,
   ⟨some (.t 68), .mv (.t 67), some (.t 58, true)⟩,
   ⟨some (.t 69), .mv (.v 9), some (.t 68, false)⟩,
   ⟨some (.t 70), .mv (.v 10), some (.t 68, false)⟩,
   ⟨some (.t 71), .bin .add (.c (.str [46])) (.t 70), some (.t 68, false)⟩,
   ⟨some (.t 72), .call 30 [.t 69, .t 71], some (.t 68, false)⟩,
   ⟨some (.t 73), .pick (.t 68) (.c (.bool true)) (.t 72), some (.t 58, true)⟩,
   ⟨some (.t 74), .pick (.t 58) (.t 73) (.c (.bool false)), none⟩,
   ⟨some (.v 4), .mv (.t 74), none⟩])
   (.ret))
   (.seq (.rg [⟨some (.t 76), .bin .eql (.v 53) (.c (.int .i64 1)), none⟩,
   ⟨some (.v 75), .mv (.t 76), none⟩])
   (.cond (.v 75) (.seq (.rg [⟨some (.t 78), .mv (.v 9), none⟩,
   ⟨some (.t 79), .call 31 [.t 78, .c (.str [64])], none⟩,
   ⟨some (.t 77), .mv (.t 79), none⟩,
   ⟨some (.t 80), .ext 0 (.t 77), none⟩,
   ⟨some (.t 81), .ext 1 (.t 77), none⟩,
   ⟨some (.t 82), .ext 2 (.t 77), none⟩,
   ⟨some (.v 11), .mv (.t 80), none⟩,
   ⟨some (.v 12), .mv (.t 81), none⟩,
   ⟨some (.v 13), .mv (.t 82), none⟩])
   (.seq (.seq (.rg [⟨some (.t 83), .mv (.v 13), none⟩,
   ⟨some (.t 84), .un .not (.t 83), none⟩,
   ⟨some (.t 85), .mv (.t 84), none⟩,
   ⟨some (.t 86), .mv (.v 11), some (.t 85, false)⟩,
   ⟨some (.t 87), .bin .eql (.t 86) (.c (.str [])), some (.t 85, false)⟩,
   ⟨some (.t 88), .pick (.t 85) (.c (.bool true)) (.t 87), none⟩,
   ⟨some (.t 89), .mv (.t 88), none⟩,
   ⟨some (.t 90), .mv (.v 12), some (.t 89, false)⟩,
   ⟨some (.t 91), .call 28 [.t 90], some (.t 89, false)⟩,
   ⟨some (.t 92), .un .not (.t 91), some (.t 89, false)⟩,
   ⟨some (.v 93), .pick (.t 89) (.c (.bool true)) (.t 92), none⟩])
   (.cond (.v 93) (.seq (.rg [⟨some (.v 4), .mv (.c (.bool false)), none⟩])
   (.ret))
   (.skip)))
   (.seq (.seq (.rg [⟨some (.t 95), .mv (.v 10), none⟩,
   ⟨some (.t 96), .call 31 [.t 95, .c (.str [64])], none⟩,
   ⟨some (.t 94), .mv (.t 96), none⟩,
   ⟨some (.t 97), .ext 0 (.t 94), none⟩,
   ⟨some (.t 98), .ext 1 (.t 94), none⟩,
   ⟨some (.t 99), .ext 2 (.t 94), none⟩,
   ⟨some (.v 14), .mv (.t 97), none⟩,
   ⟨some (.v 15), .mv (.t 98), none⟩,
   ⟨some (.v 16), .mv (.t 99), none⟩])
   (.seq (.rg [⟨some (.v 100), .mv (.v 16), none⟩])
   (.cond (.v 100) (.seq (.rg [⟨some (.t 101), .mv (.v 14), none⟩,
   ⟨some (.t 102), .mv (.v 11), none⟩,
   ⟨some (.t 103), .bin .eql (.t 101) (.t 102), none⟩,
   ⟨some (.t 104), .mv (.t 103), none⟩,
   ⟨some (.t 105), .mv (.v 15), some (.t 104, true)⟩,
   ⟨some (.t 106), .call 29 [.t 105], some (.t 104, true)⟩,
   ⟨some (.t 107), .mv (.v 12), some (.t 104, true)⟩,
   ⟨some (.t 108), .call 29 [.t 107], some (.t 104, true)⟩,
   ⟨some (.t 109), .bin .eql (.t 106) (.t 108), some (.t 104, true)⟩,
   ⟨some (.t 110), .pick (.t 104) (.t 109) (.c (.bool false)), none⟩,
   ⟨some (.v 4), .mv (.t 110), none⟩])
   (.ret))
   (.skip))))
   (.seq (.rg [⟨some (.t 111), .mv (.v 12), none⟩,
   ⟨some (.t 112), .mv (.v 10), none⟩,
   ⟨some (.t 113), .call 32 [.t 111, .t 112], none⟩,
   ⟨some (.v 4), .mv (.t 113), none⟩])
   (.ret)))))
   (.seq (.rg [⟨some (.t 115), .bin .eql (.v 53) (.c (.int .i64 6)), none⟩,
   ⟨some (.v 114), .mv (.t 115), none⟩])
   (.cond (.v 114) (.seq (.rg [⟨some (.t 117), .mv (.v 9), none⟩,
   ⟨some (.t 118), .call 31 [.t 117, .c (.str [58, 47, 47])], none⟩,
   ⟨some (.t 116), .mv (.t 118), none⟩,
   ⟨some (.t 119), .ext 0 (.t 116), none⟩,
   ⟨some (.t 120), .ext 1 (.t 116), none⟩,
   ⟨some (.t 121), .ext 2 (.t 116), none⟩,
   ⟨some (.t 17), .mv (.t 119), none⟩,
   ⟨some (.v 18), .mv (.t 120), none⟩,
   ⟨some (.v 19), .mv (.t 121), none⟩])
   (.seq (.seq (.rg [⟨some (.t 122), .mv (.v 18), none⟩,
   ⟨some (.t 123), .call 33 [.t 122, .c (.str [47, 58, 63, 35])], none⟩,
   ⟨some (.v 20), .mv (.t 123), none⟩])
   (.seq (.rg [⟨some (.t 124), .mv (.v 20), none⟩,
   ⟨some (.v 125), .bin .geq (.t 124) (.c (.int .i64 0)), none⟩])
   (.cond (.v 125) (.rg [⟨some (.t 126), .mv (.v 18), none⟩,
   ⟨some (.t 127), .mv (.v 20), none⟩,
   ⟨some (.t 128), .slc true 1 (.t 126) none (some (.t 127)), none⟩,
   ⟨some (.v 18), .mv (.t 128), none⟩])
   (.skip))))
   (.seq (.rg [⟨some (.t 129), .mv (.v 19), none⟩,
   ⟨some (.t 130), .mv (.t 129), none⟩,
   ⟨some (.t 131), .mv (.v 18), some (.t 130, true)⟩,
   ⟨some (.t 132), .mv (.v 10), some (.t 130, true)⟩,
   ⟨some (.t 133), .call 32 [.t 131, .t 132], some (.t 130, true)⟩,
   ⟨some (.t 134), .pick (.t 130) (.t 133) (.c (.bool false)), none⟩,
   ⟨some (.v 4), .mv (.t 134), none⟩])
   (.ret))))
   (.seq (.rg [⟨some (.t 136), .bin .eql (.v 53) (.c (.int .i64 7)), none⟩,
   ⟨some (.v 135), .mv (.t 136), none⟩])
   (.cond (.v 135) (.seq (.seq (.rg [⟨some (.t 137), .mv (.v 9), none⟩,
   ⟨some (.t 138), .len true (.t 137), none⟩,
   ⟨some (.t 139), .bin .mul (.c (.int .i64 2)) (.t 138), none⟩,
   ⟨some (.t 140), .mv (.v 10), none⟩,
   ⟨some (.t 141), .len true (.t 140), none⟩,
   ⟨some (.v 142), .bin .neq (.t 139) (.t 141), none⟩])
   (.cond (.v 142) (.seq (.rg [⟨some (.v 4), .mv (.c (.bool false)), none⟩])
   (.ret))
   (.skip)))
   (.seq (.rgd [⟨some (.t 143), .mv (.v 9), none⟩,
   ⟨some (.t 144), .s2b (.t 143), none⟩,
   ⟨some (.t 145), .mv (.v 10), none⟩,
   ⟨some (.t 146), .mv (.v 9), none⟩,
   ⟨some (.t 147), .len true (.t 146), none⟩,
   ⟨some (.t 148), .slc true 1 (.t 145) none (some (.t 147)), none⟩,
   ⟨some (.t 149), .s2b (.t 148), none⟩,
   ⟨some (.t 150), .mv (.v 10), none⟩,
   ⟨some (.t 151), .mv (.v 9), none⟩,
   ⟨some (.t 152), .len true (.t 151), none⟩,
   ⟨some (.t 153), .slc true 1 (.t 150) (some (.t 152)) none, none⟩,
   ⟨some (.t 154), .s2b (.t 153), none⟩,
   ⟨some (.v 21), .mv (.t 144), none⟩,
   ⟨some (.v 22), .mv (.t 149), none⟩,
   ⟨some (.v 23), .mv (.t 154), none⟩]
   [[], [0], [], [], [3], [2, 3, 4], [2, 3, 4, 5], [], [], [8], [7, 8, 9], [7, 8, 9, 10], [0, 1], [0, 1, 2, 3, 4, 5, 6, 12], [0, 1, 2, 3, 4, 5, 6, 7, 8, 9, 10, 11, 12, 13]])
   (.seq (.seq (.rg [⟨some (.t 155), .mv (.v 23), none⟩,
   ⟨some (.v 156), .len false (.t 155), none⟩,
   ⟨some (.v 157), .mv (.c (.int .i64 0)), none⟩])
   (.block 1 (.loop m10k0 m10b0)))
   (.seq (.rg [⟨some (.t 181), .mv (.v 21), none⟩,
   ⟨some (.t 182), .mv (.v 22), none⟩,
   ⟨some (.t 183), .call 34 [.t 181, .t 182], none⟩,
   ⟨some (.v 4), .mv (.t 183), none⟩])
   (.ret)))))
   (.skip)))))))))))
   (.seq (.rgd [⟨some (.t 184), .fad 2 (.v 3), none⟩,
   ⟨some (.t 185), .load false 1 (.t 184), none⟩,
   ⟨some (.t 186), .len false (.t 185), none⟩,
   ⟨some (.t 187), .fad 2 (.v 2), none⟩,
   ⟨some (.t 188), .load false 1 (.t 187), none⟩,
   ⟨some (.t 189), .len false (.t 188), none⟩,
   ⟨some (.t 190), .bin .leq (.t 186) (.t 189), none⟩,
   ⟨some (.t 191), .mv (.t 190), none⟩,
   ⟨some (.t 192), .fad 2 (.v 2), some (.t 191, true)⟩,
   ⟨some (.t 193), .load false 1 (.t 192), some (.t 191, true)⟩,
   ⟨some (.t 194), .fad 2 (.v 3), some (.t 191, true)⟩,
   ⟨some (.t 195), .load false 1 (.t 194), some (.t 191, true)⟩,
   ⟨some (.t 196), .len false (.t 195), some (.t 191, true)⟩,
   ⟨some (.t 197), .slc false 2 (.t 193) none (some (.t 196)), some (.t 191, true)⟩,
   ⟨some (.t 198), .fad 2 (.v 3), some (.t 191, true)⟩,
   ⟨some (.t 199), .load false 1 (.t 198), some (.t 191, true)⟩,
   ⟨some (.t 200), .call 24 [.t 197, .t 199], some (.t 191, true)⟩,
   ⟨some (.t 201), .pick (.t 191) (.t 200) (.c (.bool false)), none⟩,
   ⟨some (.v 4), .mv (.t 201), none⟩]
   [[], [0], [0, 1], [], [3], [3, 4], [0, 1, 2, 3, 4, 5], [0, 1, 2, 3, 4, 5, 6], [0, 1, 2, 3, 4, 5, 6, 7], [0, 1, 2, 3, 4, 5, 6, 7, 8], [0, 1, 2, 3, 4, 5, 6, 7], [0, 1, 2, 3, 4, 5, 6, 7, 10], [0, 1, 2, 3, 4, 5, 6, 7, 10, 11], [0, 1, 2, 3, 4, 5, 6, 7, 8, 9, 10, 11, 12], [0, 1, 2, 3, 4, 5, 6, 7], [0, 1, 2, 3, 4, 5, 6, 7, 14], [0, 1, 2, 3, 4, 5, 6, 7, 8, 9, 10, 11, 12, 13, 14, 15], [0, 1, 2, 3, 4, 5, 6, 7, 8, 9, 10, 11, 12, 13, 14, 15, 16], [0, 1, 2, 3, 4, 5, 6, 7, 8, 9, 10, 11, 12, 13, 14, 15, 16, 17]])
   (.ret)))))))⟩
theorem m10o : okE Tryz.prog 10 m10 = some m10.body := by kernel_rfl

def m11k0 : List (Nat × KMode) := [(2, .plain), (3, .plain), (11, .plain), (12, .plain)]
def m11b0 : MCode :=
 .seq (.seq (.rg [⟨some (.t 96), .mv (.v 12), none⟩,
   ⟨some (.t 97), .mv (.v 11), none⟩,
   ⟨some (.v 98), .bin .lss (.t 96) (.t 97), none⟩])
   (.cond (.v 98) (.skip)
   (.exit 1)))
  (.seq (.block 2 (.seq (.rgd [⟨some (.t 101), .fad 1 (.v 2), none⟩,
   ⟨some (.t 102), .load false 1 (.t 101), none⟩,
   ⟨some (.t 103), .mv (.v 12), none⟩,
   ⟨some (.t 104), .idxS (.t 102) (.t 103), none⟩,
   ⟨some (.t 105), .fad 1 (.v 3), none⟩,
   ⟨some (.t 106), .load false 1 (.t 105), none⟩,
   ⟨some (.t 107), .mv (.v 12), none⟩,
   ⟨some (.t 108), .idxS (.t 106) (.t 107), none⟩,
   ⟨some (.t 109), .bin .xor (.t 104) (.t 108), none⟩,
   ⟨some (.t 110), .fad 1 (.v 3), none⟩,
   ⟨some (.t 111), .load false 1 (.t 110), none⟩,
   ⟨some (.t 112), .mv (.v 11), none⟩,
   ⟨some (.t 113), .mv (.v 12), none⟩,
   ⟨some (.t 114), .bin .add (.t 112) (.t 113), none⟩,
   ⟨some (.t 115), .idxS (.t 111) (.t 114), none⟩,
   ⟨some (.t 116), .bin .and (.t 109) (.t 115), none⟩,
   ⟨some (.v 117), .bin .neq (.t 116) (.c (.int .u8 0)), none⟩]
   [[], [0], [], [0, 1, 2], [], [4], [], [4, 5, 6], [0, 1, 2, 3, 4, 5, 6, 7], [], [9], [], [], [11, 12], [9, 10, 11, 12, 13], [0, 1, 2, 3, 4, 5, 6, 7, 8, 9, 10, 11, 12, 13, 14], [0, 1, 2, 3, 4, 5, 6, 7, 8, 9, 10, 11, 12, 13, 14, 15]])
   (.cond (.v 117) (.seq (.rg [⟨some (.v 4), .mv (.c (.bool false)), none⟩])
   (.ret))
   (.skip))))
   (.rg [⟨some (.t 99), .mv (.v 12), none⟩,
   ⟨some (.t 100), .bin .add (.t 99) (.c (.int .i64 1)), none⟩,
   ⟨some (.v 12), .mv (.t 100), none⟩]))
def m11 : MFunc := ⟨2, [.other, .other], [(4, none, .other)],
 .seq (.rg [⟨some (.v 2), .box (.v 0), none⟩,
   ⟨some (.v 3), .box (.v 1), none⟩,
   ⟨some (.v 4), .mv (.c (.bool false)), none⟩])
  (.seq (.rg [⟨some (.t 14), .load true 3 (.v 2), none⟩,
   ⟨some (.t 15), .call 35 [.t 14, .c (.bool false)], none⟩,
   ⟨some (.t 13), .mv (.t 15), none⟩,
   ⟨some (.t 16), .ext 0 (.t 13), none⟩,
   ⟨some (.t 17), .ext 1 (.t 13), none⟩,
   ⟨some (.t 5), .alloc [.int .i64 0, .int .i64 0, .bool false, .nilsl, .nilsl], none⟩,
   ⟨none, .store 5 (.t 5) (.t 16), none⟩,
   ⟨some (.v 6), .mv (.t 17), none⟩])
   (.seq (.rg [⟨some (.t 19), .load true 3 (.v 3), none⟩,
   ⟨some (.t 20), .call 35 [.t 19, .c (.bool true)], none⟩,
   ⟨some (.t 18), .mv (.t 20), none⟩,
   ⟨some (.t 21), .ext 0 (.t 18), none⟩,
   ⟨some (.t 22), .ext 1 (.t 18), none⟩,
   ⟨some (.t 7), .alloc [.int .i64 0, .int .i64 0, .bool false, .nilsl, .nilsl], none⟩,
   ⟨none, .store 5 (.t 7) (.t 21), none⟩,
   ⟨some (.v 8), .mv (.t 22), none⟩])
   (.seq (.seq (.rg [⟨some (.t 23), .mv (.v 6), none⟩,
   ⟨some (.t 24), .bin .neq (.t 23) (.c (.int .i64 0)), none⟩,
   ⟨some (.t 25), .mv (.t 24), none⟩,
   ⟨some (.t 26), .mv (.v 8), some (.t 25, false)⟩,
   ⟨some (.t 27), .bin .neq (.t 26) (.c (.int .i64 0)), some (.t 25, false)⟩,
   ⟨some (.t 28), .pick (.t 25) (.c (.bool true)) (.t 27), none⟩,
   ⟨some (.t 29), .mv (.t 28), none⟩,
   ⟨some (.t 30), .fad 0 (.v 2), some (.t 29, false)⟩,
   ⟨some (.t 31), .load false 1 (.t 30), some (.t 29, false)⟩,
   ⟨some (.t 32), .fad 0 (.v 3), some (.t 29, false)⟩,
   ⟨some (.t 33), .load false 1 (.t 32), some (.t 29, false)⟩,
   ⟨some (.t 34), .bin .neq (.t 31) (.t 33), some (.t 29, false)⟩,
   ⟨some (.v 35), .pick (.t 29) (.c (.bool true)) (.t 34), none⟩])
   (.cond (.v 35) (.seq (.rg [⟨some (.v 4), .mv (.c (.bool false)), none⟩])
   (.ret))
   (.skip)))
   (.seq (.seq (.rg [⟨some (.t 36), .fad 0 (.v 2), none⟩,
   ⟨some (.v 37), .load false 1 (.t 36), none⟩])
   (.block 0 (.seq (.rg [⟨some (.t 39), .bin .eql (.v 37) (.c (.int .i64 1)), none⟩,
   ⟨some (.v 38), .mv (.t 39), none⟩])
   (.cond (.v 38) (.seq (.rg [⟨some (.t 40), .fad 1 (.v 2), none⟩,
   ⟨some (.t 41), .load false 1 (.t 40), none⟩,
   ⟨some (.t 42), .fad 1 (.v 3), none⟩,
   ⟨some (.t 43), .load false 1 (.t 42), none⟩,
   ⟨some (.t 44), .call 36 [.t 41, .t 43], none⟩,
   ⟨some (.v 4), .mv (.t 44), none⟩])
   (.ret))
   (.seq (.rg [⟨some (.t 46), .bin .eql (.v 37) (.c (.int .i64 2)), none⟩,
   ⟨some (.v 45), .mv (.t 46), none⟩])
   (.cond (.v 45) (.seq (.rg [⟨some (.t 47), .fad 1 (.v 2), none⟩,
   ⟨some (.t 48), .load false 1 (.t 47), none⟩,
   ⟨some (.t 49), .call 37 [.t 48], none⟩,
   ⟨some (.t 50), .mv (.t 49), none⟩,
   ⟨some (.t 51), .fad 1 (.v 3), some (.t 50, true)⟩,
   ⟨some (.t 52), .load false 1 (.t 51), some (.t 50, true)⟩,
   ⟨some (.t 53), .bin .eql (.t 52) (.c (.str [])), some (.t 50, true)⟩,
   ⟨some (.t 54), .mv (.t 53), some (.t 50, true)⟩,
   ⟨some (.t 55), .fad 1 (.v 2), some (.t 54, false)⟩,
   ⟨some (.t 56), .load false 1 (.t 55), some (.t 54, false)⟩,
   ⟨some (.t 57), .fad 1 (.v 3), some (.t 54, false)⟩,
   ⟨some (.t 58), .load false 1 (.t 57), some (.t 54, false)⟩,
   ⟨some (.t 59), .call 38 [.t 56, .t 58], some (.t 54, false)⟩,
   ⟨some (.t 60), .pick (.t 54) (.c (.bool true)) (.t 59), some (.t 50, true)⟩,
   ⟨some (.t 61), .mv (.t 60), some (.t 50, true)⟩,
   ⟨some (.t 62), .fad 1 (.v 2), some (.t 61, false)⟩,
   ⟨some (.t 63), .load false 1 (.t 62), some (.t 61, false)⟩,
   ⟨some (.t 64), .fad 1 (.v 3), some (.t 61, false)⟩,
   ⟨some (.t 65), .load false 1 (.t 64), some (.t 61, false)⟩,
   ⟨some (.t 66), .bin .add (.c (.str [46])) (.t 65), some (.t 61, false)⟩,
   ⟨some (.t 67), .call 39 [.t 63, .t 66], some (.t 61, false)⟩,
   ⟨some (.t 68), .pick (.t 61) (.c (.bool true)) (.t 67), some (.t 50, true)⟩,
   ⟨some (.t 69), .pick (.t 50) (.t 68) (.c (.bool false)), none⟩,
   ⟨some (.v 4), .mv (.t 69), none⟩])
   (.ret))
   (.seq (.rg [⟨some (.t 71), .bin .eql (.v 37) (.c (.int .i64 6)), none⟩,
   ⟨some (.v 70), .mv (.t 71), none⟩])
   (.cond (.v 70) (.seq (.rg [⟨some (.t 73), .fad 1 (.v 2), none⟩,
   ⟨some (.t 74), .load false 1 (.t 73), none⟩,
   ⟨some (.t 75), .call 40 [.t 74], none⟩,
   ⟨some (.t 72), .mv (.t 75), none⟩,
   ⟨some (.t 76), .ext 0 (.t 72), none⟩,
   ⟨some (.t 77), .ext 1 (.t 72), none⟩,
   ⟨some (.v 9), .mv (.t 76), none⟩,
   ⟨some (.v 10), .mv (.t 77), none⟩])
   (.seq (.rg [⟨some (.t 78), .mv (.v 10), none⟩,
   ⟨some (.t 79), .mv (.t 78), none⟩,
   ⟨some (.t 80), .mv (.v 9), some (.t 79, true)⟩,
   ⟨some (.t 81), .fad 1 (.v 3), some (.t 79, true)⟩,
   ⟨some (.t 82), .load false 1 (.t 81), some (.t 79, true)⟩,
   ⟨some (.t 83), .call 41 [.t 80, .t 82], some (.t 79, true)⟩,
   ⟨some (.t 84), .pick (.t 79) (.t 83) (.c (.bool false)), none⟩,
   ⟨some (.v 4), .mv (.t 84), none⟩])
   (.ret)))
   (.seq (.rg [⟨some (.t 86), .bin .eql (.v 37) (.c (.int .i64 7)), none⟩,
   ⟨some (.v 85), .mv (.t 86), none⟩])
   (.cond (.v 85) (.seq (.rg [⟨some (.t 87), .fad 1 (.v 2), none⟩,
   ⟨some (.t 88), .load false 1 (.t 87), none⟩,
   ⟨some (.t 89), .len true (.t 88), none⟩,
   ⟨some (.v 11), .mv (.t 89), none⟩])
   (.seq (.seq (.rg [⟨some (.t 90), .mv (.v 11), none⟩,
   ⟨some (.t 91), .bin .mul (.c (.int .i64 2)) (.t 90), none⟩,
   ⟨some (.t 92), .fad 1 (.v 3), none⟩,
   ⟨some (.t 93), .load false 1 (.t 92), none⟩,
   ⟨some (.t 94), .len true (.t 93), none⟩,
   ⟨some (.v 95), .bin .neq (.t 91) (.t 94), none⟩])
   (.cond (.v 95) (.seq (.rg [⟨some (.v 4), .mv (.c (.bool false)), none⟩])
   (.ret))
   (.skip)))
   (.seq (.seq (.rg [⟨some (.v 12), .mv (.c (.int .i64 0)), none⟩])
   (.block 1 (.loop m11k0 m11b0)))
   (.seq (.rg [⟨some (.v 4), .mv (.c (.bool true)), none⟩])
   (.ret)))))
   (.skip)))))))))))
   (.seq (.rgd [⟨some (.t 118), .fad 2 (.v 3), none⟩,
   ⟨some (.t 119), .load false 1 (.t 118), none⟩,
   ⟨some (.t 120), .len false (.t 119), none⟩,
   ⟨some (.t 121), .fad 2 (.v 2), none⟩,
   ⟨some (.t 122), .load false 1 (.t 121), none⟩,
   ⟨some (.t 123), .len false (.t 122), none⟩,
   ⟨some (.t 124), .bin .leq (.t 120) (.t 123), none⟩,
   ⟨some (.t 125), .mv (.t 124), none⟩,
   ⟨some (.t 126), .fad 2 (.v 2), some (.t 125, true)⟩,
   ⟨some (.t 127), .load false 1 (.t 126), some (.t 125, true)⟩,
   ⟨some (.t 128), .fad 2 (.v 3), some (.t 125, true)⟩,
   ⟨some (.t 129), .load false 1 (.t 128), some (.t 125, true)⟩,
   ⟨some (.t 130), .len false (.t 129), some (.t 125, true)⟩,
   ⟨some (.t 131), .slc false 2 (.t 127) none (some (.t 130)), some (.t 125, true)⟩,
   ⟨some (.t 132), .fad 2 (.v 3), some (.t 125, true)⟩,
   ⟨some (.t 133), .load false 1 (.t 132), some (.t 125, true)⟩,
   ⟨some (.t 134), .call 22 [.t 131, .t 133], some (.t 125, true)⟩,
   ⟨some (.t 135), .pick (.t 125) (.t 134) (.c (.bool false)), none⟩,
   ⟨some (.v 4), .mv (.t 135), none⟩]
   [[], [0], [0, 1], [], [3], [3, 4], [0, 1, 2, 3, 4, 5], [0, 1, 2, 3, 4, 5, 6], [0, 1, 2, 3, 4, 5, 6, 7], [0, 1, 2, 3, 4, 5, 6, 7, 8], [0, 1, 2, 3, 4, 5, 6, 7], [0, 1, 2, 3, 4, 5, 6, 7, 10], [0, 1, 2, 3, 4, 5, 6, 7, 10, 11], [0, 1, 2, 3, 4, 5, 6, 7, 8, 9, 10, 11, 12], [0, 1, 2, 3, 4, 5, 6, 7], [0, 1, 2, 3, 4, 5, 6, 7, 14], [0, 1, 2, 3, 4, 5, 6, 7, 8, 9, 10, 11, 12, 13, 14, 15], [0, 1, 2, 3, 4, 5, 6, 7, 8, 9, 10, 11, 12, 13, 14, 15, 16], [0, 1, 2, 3, 4, 5, 6, 7, 8, 9, 10, 11, 12, 13, 14, 15, 16, 17]])
   (.ret))))))⟩
theorem m11o : okE Tryz.prog 11 m11 = some m11.body := by kernel_rfl

def m12 : MFunc := ⟨1, [.other], [(2, some (true, 3), .other)],
 .seq (.rg [⟨some (.v 1), .box (.v 0), none⟩,
   ⟨some (.v 2), .alloc [.int .i64 0, .str [], .nilsl], none⟩])
  (.seq (.rgd [⟨some (.t 3), .fad 0 (.v 1), none⟩,
   ⟨some (.t 4), .load false 1 (.t 3), none⟩,
   ⟨some (.t 5), .fad 1 (.v 1), none⟩,
   ⟨some (.t 6), .load false 1 (.t 5), none⟩,
   ⟨some (.t 7), .fad 2 (.v 1), none⟩,
   ⟨some (.t 8), .load false 1 (.t 7), none⟩,
   ⟨some (.t 9), .call 21 [.t 8], none⟩,
   ⟨some (.t 10), .build [.int .i64 0, .str [], .nilsl] [(0, 1, .t 4), (1, 1, .t 6), (2, 1, .t 9)], none⟩,
   ⟨none, .store 3 (.v 2) (.t 10), none⟩]
   [[], [0], [], [2], [], [4], [4, 5], [0, 1, 2, 3, 4, 5, 6], [0, 1, 2, 3, 4, 5, 6, 7]])
   (.ret))⟩
theorem m12o : okE Tryz.prog 12 m12 = some m12.body := by kernel_rfl

def m14 : MFunc := ⟨2, [.other, .other], [(4, some (true, 5), .other), (5, none, .other)],
 .seq (.rg [⟨some (.v 2), .box (.v 0), none⟩,
   ⟨some (.v 4), .alloc [.int .i64 0, .int .i64 0, .bool false, .nilsl, .nilsl], none⟩,
   ⟨some (.v 5), .mv (.c (.int .i64 0)), none⟩])
  (.seq (.seq (.rg [⟨some (.t 9), .fad 0 (.v 2), none⟩,
   ⟨some (.t 10), .load false 1 (.t 9), none⟩,
   ⟨some (.t 11), .call 42 [.t 10], none⟩,
   ⟨some (.t 12), .un .not (.t 11), none⟩,
   ⟨some (.t 13), .mv (.t 12), none⟩,
   ⟨some (.t 14), .fad 0 (.v 2), some (.t 13, false)⟩,
   ⟨some (.t 15), .load false 1 (.t 14), some (.t 13, false)⟩,
   ⟨some (.t 16), .bin .neq (.t 15) (.c (.int .i64 4)), some (.t 13, false)⟩,
   ⟨some (.t 17), .mv (.t 16), some (.t 13, false)⟩,
   ⟨some (.t 18), .fad 2 (.v 2), some (.t 17, true)⟩,
   ⟨some (.t 19), .load false 1 (.t 18), some (.t 17, true)⟩,
   ⟨some (.t 20), .len false (.t 19), some (.t 17, true)⟩,
   ⟨some (.t 21), .bin .gtr (.t 20) (.c (.int .i64 0)), some (.t 17, true)⟩,
   ⟨some (.t 22), .pick (.t 17) (.t 21) (.c (.bool false)), some (.t 13, false)⟩,
   ⟨some (.t 23), .pick (.t 13) (.c (.bool true)) (.t 22), none⟩,
   ⟨some (.t 24), .mv (.t 23), none⟩,
   ⟨some (.t 25), .fad 0 (.v 2), some (.t 24, false)⟩,
   ⟨some (.t 26), .load false 1 (.t 25), some (.t 24, false)⟩,
   ⟨some (.t 27), .bin .eql (.t 26) (.c (.int .i64 4)), some (.t 24, false)⟩,
   ⟨some (.t 28), .mv (.t 27), some (.t 24, false)⟩,
   ⟨some (.t 29), .fad 1 (.v 2), some (.t 28, true)⟩,
   ⟨some (.t 30), .load false 1 (.t 29), some (.t 28, true)⟩,
   ⟨some (.t 31), .bin .neq (.t 30) (.c (.str [])), some (.t 28, true)⟩,
   ⟨some (.t 32), .pick (.t 28) (.t 31) (.c (.bool false)), some (.t 24, false)⟩,
   ⟨some (.v 33), .pick (.t 24) (.c (.bool true)) (.t 32), none⟩])
   (.cond (.v 33) (.seq (.rg [⟨some (.t 34), .build [.int .i64 0, .int .i64 0, .bool false, .nilsl, .nilsl] [], none⟩,
   ⟨none, .store 5 (.v 4) (.t 34), none⟩,
   ⟨some (.v 5), .mv (.c (.int .i64 30)), none⟩])
   (.ret))
   (.skip)))
   (.seq (.rg [⟨some (.t 35), .fad 0 (.v 2), none⟩,
   ⟨some (.t 36), .load false 1 (.t 35), none⟩,
   ⟨some (.t 37), .fad 1 (.v 2), none⟩,
   ⟨some (.t 38), .load false 1 (.t 37), none⟩,
   ⟨some (.t 39), .s2b (.t 38), none⟩,
   ⟨some (.t 40), .build [.int .i64 0, .int .i64 0, .bool false, .nilsl, .nilsl] [(0, 1, .c (.int .i64 2)), (1, 1, .t 36), (3, 1, .t 39)], none⟩,
   ⟨some (.v 6), .alloc [.int .i64 0, .int .i64 0, .bool false, .nilsl, .nilsl], none⟩,
   ⟨none, .store 5 (.v 6) (.t 40), none⟩])
   (.seq (.seq (.rg [⟨some (.t 41), .fad 0 (.v 2), none⟩,
   ⟨some (.t 42), .load false 1 (.t 41), none⟩,
   ⟨some (.v 43), .bin .eql (.t 42) (.c (.int .i64 4)), none⟩])
   (.cond (.v 43) (.seq (.rg [⟨some (.t 45), .fad 2 (.v 2), none⟩,
   ⟨some (.t 46), .load false 1 (.t 45), none⟩,
   ⟨some (.t 47), .call 19 [.t 46], none⟩,
   ⟨some (.t 44), .mv (.t 47), none⟩,
   ⟨some (.t 48), .ext 0 (.t 44), none⟩,
   ⟨some (.t 49), .ext 1 (.t 44), none⟩,
   ⟨some (.v 7), .alloc [.int .i64 0, .int .i64 0, .bool false, .nilsl, .nilsl], none⟩,
   ⟨none, .store 5 (.v 7) (.t 48), none⟩,
   ⟨some (.v 8), .mv (.t 49), none⟩])
   (.seq (.seq (.rg [⟨some (.t 50), .mv (.v 8), none⟩,
   ⟨some (.v 51), .bin .neq (.t 50) (.c (.int .i64 0)), none⟩])
   (.cond (.v 51) (.seq (.rg [⟨some (.t 52), .build [.int .i64 0, .int .i64 0, .bool false, .nilsl, .nilsl] [], none⟩,
   ⟨none, .store 5 (.v 4) (.t 52), none⟩,
   ⟨some (.v 5), .mv (.c (.int .i64 31)), none⟩])
   (.ret))
   (.skip)))
   (.rgd [⟨some (.t 53), .load true 5 (.v 7), none⟩,
   ⟨some (.t 54), .bslE 5 (.agg [.int .i64 0, .int .i64 0, .bool false, .nilsl, .nilsl]) 1 [(0, .t 53)], none⟩,
   ⟨some (.t 55), .fad 2 (.v 6), none⟩,
   ⟨none, .store 1 (.t 55) (.c (.bool true)), none⟩,
   ⟨some (.t 56), .fad 3 (.v 6), none⟩,
   ⟨none, .store 1 (.t 56) (.c (.nilsl)), none⟩,
   ⟨some (.t 57), .fad 4 (.v 6), none⟩,
   ⟨none, .store 1 (.t 57) (.t 54), none⟩]
   [[], [0], [], [2], [2, 3], [2, 3, 4], [0, 1, 2, 3, 4, 5], [0, 1, 2, 3, 4, 5, 6]])))
   (.skip)))
   (.seq (.seq (.rg [⟨some (.t 58), .load true 3 (.v 2), none⟩,
   ⟨some (.t 59), .mv (.v 1), none⟩,
   ⟨some (.t 60), .call 43 [.t 58, .t 59], none⟩,
   ⟨some (.v 61), .un .not (.t 60), none⟩])
   (.cond (.v 61) (.seq (.rg [⟨some (.t 62), .build [.int .i64 0, .int .i64 0, .bool false, .nilsl, .nilsl] [], none⟩,
   ⟨none, .store 5 (.v 4) (.t 62), none⟩,
   ⟨some (.v 5), .mv (.c (.int .i64 31)), none⟩])
   (.ret))
   (.skip)))
   (.seq (.rg [⟨some (.t 63), .load true 5 (.v 6), none⟩,
   ⟨none, .store 5 (.v 4) (.t 63), none⟩,
   ⟨some (.v 5), .mv (.c (.int .i64 0)), none⟩])
   (.ret))))))⟩
theorem m14o : okE Tryz.prog 14 m14 = some m14.body := by kernel_rfl

def m19k0 : List (Nat × KMode) := [(0, .plain), (2, .plain), (4, .plain), (15, .plain), (16, .plain), (17, .plain)]
def m19b0 : MCode :=
 .seq (.rg [⟨some (.v 18), .bin .lss (.v 17) (.v 16), none⟩])
  (.seq (.cond (.v 18) (.skip)
   (.exit 0))
   (.seq (.block 1 (.seq (.rg [⟨some (.t 19), .iad 2 (.v 15) (.v 17), none⟩,
   ⟨some (.t 20), .load true 2 (.t 19), none⟩,
   ⟨some (.v 6), .alloc [.str [], .str []], none⟩,
   ⟨none, .store 2 (.v 6) (.t 20), none⟩])
   (.seq (.rg [⟨some (.t 22), .fad 0 (.v 6), none⟩,
   ⟨some (.t 23), .load false 1 (.t 22), none⟩,
   ⟨some (.t 24), .call 53 [.t 23], none⟩,
   ⟨some (.t 21), .mv (.t 24), none⟩,
   ⟨some (.t 25), .ext 0 (.t 21), none⟩,
   ⟨some (.t 26), .ext 1 (.t 21), none⟩,
   ⟨some (.v 7), .alloc [.int .i64 0, .int .i64 0, .bool false, .nilsl, .nilsl], none⟩,
   ⟨none, .store 5 (.v 7) (.t 25), none⟩,
   ⟨some (.v 8), .mv (.t 26), none⟩])
   (.seq (.seq (.rg [⟨some (.t 27), .mv (.v 8), none⟩,
   ⟨some (.v 28), .un .not (.t 27), none⟩])
   (.cond (.v 28) (.seq (.rg [⟨some (.t 29), .build [.int .i64 0, .int .i64 0, .bool false, .nilsl, .nilsl] [], none⟩,
   ⟨none, .store 5 (.v 2) (.t 29), none⟩,
   ⟨some (.v 3), .mv (.c (.int .i64 30)), none⟩])
   (.ret))
   (.skip)))
   (.seq (.rgd [⟨some (.t 30), .load true 5 (.v 7), none⟩,
   ⟨some (.t 31), .fad 1 (.v 6), none⟩,
   ⟨some (.t 32), .load false 1 (.t 31), none⟩,
   ⟨some (.t 33), .call 47 [.t 32], none⟩,
   ⟨some (.t 34), .fad 1 (.v 6), none⟩,
   ⟨some (.t 35), .load false 1 (.t 34), none⟩,
   ⟨some (.t 36), .s2b (.t 35), none⟩,
   ⟨some (.t 37), .build [.int .i64 0, .int .i64 0, .bool false, .nilsl, .nilsl] [(1, 1, .t 33), (3, 1, .t 36)], none⟩,
   ⟨some (.t 38), .bslE 5 (.agg [.int .i64 0, .int .i64 0, .bool false, .nilsl, .nilsl]) 2 [(0, .t 30), (1, .t 37)], none⟩,
   ⟨some (.t 39), .build [.int .i64 0, .int .i64 0, .bool false, .nilsl, .nilsl] [(1, 1, .c (.int .i64 16)), (2, 1, .c (.bool true)), (4, 1, .t 38)], none⟩,
   ⟨some (.v 9), .alloc [.int .i64 0, .int .i64 0, .bool false, .nilsl, .nilsl], none⟩,
   ⟨none, .store 5 (.v 9) (.t 39), none⟩]
   [[], [], [1], [1, 2], [], [4], [4, 5], [1, 2, 3, 4, 5, 6], [0, 1, 2, 3, 4, 5, 6, 7], [0, 1, 2, 3, 4, 5, 6, 7, 8], [], [0, 1, 2, 3, 4, 5, 6, 7, 8, 9, 10]])
   (.rg [⟨some (.t 40), .fad 4 (.v 4), none⟩,
   ⟨some (.t 41), .load false 1 (.t 40), none⟩,
   ⟨some (.t 42), .load true 5 (.v 9), none⟩,
   ⟨some (.t 43), .bslE 5 (.agg [.int .i64 0, .int .i64 0, .bool false, .nilsl, .nilsl]) 1 [(0, .t 42)], none⟩,
   ⟨some (.t 44), .build [.int .i64 0, .int .i64 0, .bool false, .nilsl, .nilsl] [(1, 1, .c (.int .i64 17)), (2, 1, .c (.bool true)), (4, 1, .t 43)], none⟩,
   ⟨some (.t 45), .bslE 5 (.agg [.int .i64 0, .int .i64 0, .bool false, .nilsl, .nilsl]) 1 [(0, .t 44)], none⟩,
   ⟨some (.t 46), .app false 5 72 (.t 41) (.t 45), none⟩,
   ⟨some (.t 47), .fad 4 (.v 4), none⟩,
   ⟨none, .store 1 (.t 47) (.t 46), none⟩]))))))
   (.rg [⟨some (.t 48), .bin .add (.v 17) (.c (.int .i64 1)), none⟩,
   ⟨some (.v 17), .mv (.t 48), none⟩])))
def m19 : MFunc := ⟨1, [.el 2], [(2, some (true, 5), .other), (3, none, .other)],
 .seq (.rg [⟨some (.v 2), .alloc [.int .i64 0, .int .i64 0, .bool false, .nilsl, .nilsl], none⟩,
   ⟨some (.v 3), .mv (.c (.int .i64 0)), none⟩])
  (.seq (.rg [⟨some (.t 10), .build [.int .i64 0, .int .i64 0, .bool false, .nilsl, .nilsl] [(1, 1, .c (.int .i64 16)), (2, 1, .c (.bool true))], none⟩,
   ⟨some (.v 4), .alloc [.int .i64 0, .int .i64 0, .bool false, .nilsl, .nilsl], none⟩,
   ⟨none, .store 5 (.v 4) (.t 10), none⟩])
   (.seq (.seq (.rg [⟨some (.t 11), .mv (.v 0), none⟩,
   ⟨some (.t 12), .len false (.t 11), none⟩,
   ⟨some (.v 13), .bin .gtr (.t 12) (.c (.int .i64 16)), none⟩])
   (.cond (.v 13) (.seq (.rg [⟨some (.t 14), .build [.int .i64 0, .int .i64 0, .bool false, .nilsl, .nilsl] [], none⟩,
   ⟨none, .store 5 (.v 2) (.t 14), none⟩,
   ⟨some (.v 3), .mv (.c (.int .i64 30)), none⟩])
   (.ret))
   (.skip)))
   (.seq (.seq (.rg [⟨some (.v 15), .mv (.v 0), none⟩,
   ⟨some (.v 16), .len false (.v 15), none⟩,
   ⟨some (.v 17), .mv (.c (.int .i64 0)), none⟩])
   (.block 0 (.loop m19k0 m19b0)))
   (.seq (.seq (.rg [⟨some (.t 49), .mv (.v 0), none⟩,
   ⟨some (.v 50), .call 54 [.t 49, .c (.fn 55 [])], none⟩])
   (.cond (.v 50) (.seq (.rg [⟨some (.t 51), .build [.int .i64 0, .int .i64 0, .bool false, .nilsl, .nilsl] [], none⟩,
   ⟨none, .store 5 (.v 2) (.t 51), none⟩,
   ⟨some (.v 3), .mv (.c (.int .i64 31)), none⟩])
   (.ret))
   (.skip)))
   (.seq (.rg [⟨some (.t 52), .load true 5 (.v 4), none⟩,
   ⟨none, .store 5 (.v 2) (.t 52), none⟩,
   ⟨some (.v 3), .mv (.c (.int .i64 0)), none⟩])
   (.ret))))))⟩
theorem m19o : okE Tryz.prog 19 m19 = some m19.body := by kernel_rfl

def m20k0 : List (Nat × KMode) := [(0, .plain), (2, .plain), (4, .plain), (5, .plain), (6, .plain)]
def m20b0 : MCode :=
 .seq (.seq (.rg [⟨some (.t 16), .mv (.v 6), none⟩,
   ⟨some (.t 17), .mv (.v 0), none⟩,
   ⟨some (.t 18), .len false (.t 17), none⟩,
   ⟨some (.v 19), .bin .lss (.t 16) (.t 18), none⟩])
   (.cond (.v 19) (.skip)
   (.exit 0)))
  (.seq (.block 1 (.seq (.rg [⟨some (.t 23), .mv (.v 0), none⟩,
   ⟨some (.t 24), .mv (.v 6), none⟩,
   ⟨some (.t 25), .iad 2 (.t 23) (.t 24), none⟩,
   ⟨some (.t 26), .fad 0 (.t 25), none⟩,
   ⟨some (.t 27), .load false 1 (.t 26), none⟩,
   ⟨some (.t 28), .call 56 [.t 27], none⟩,
   ⟨some (.t 22), .mv (.t 28), none⟩,
   ⟨some (.t 29), .ext 0 (.t 22), none⟩,
   ⟨some (.t 30), .ext 1 (.t 22), none⟩,
   ⟨some (.v 7), .alloc [.int .i64 0, .int .i64 0, .bool false, .nilsl, .nilsl], none⟩,
   ⟨none, .store 5 (.v 7) (.t 29), none⟩,
   ⟨some (.v 8), .mv (.t 30), none⟩])
   (.seq (.seq (.rg [⟨some (.t 31), .mv (.v 8), none⟩,
   ⟨some (.v 32), .un .not (.t 31), none⟩])
   (.cond (.v 32) (.seq (.rg [⟨some (.t 33), .build [.int .i64 0, .int .i64 0, .bool false, .nilsl, .nilsl] [], none⟩,
   ⟨none, .store 5 (.v 2) (.t 33), none⟩,
   ⟨some (.v 3), .mv (.c (.int .i64 30)), none⟩])
   (.ret))
   (.skip)))
   (.seq (.seq (.rg [⟨some (.t 34), .mv (.v 0), none⟩,
   ⟨some (.t 35), .mv (.v 6), none⟩,
   ⟨some (.t 36), .iad 2 (.t 34) (.t 35), none⟩,
   ⟨some (.t 37), .fad 1 (.t 36), none⟩,
   ⟨some (.t 38), .load false 1 (.t 37), none⟩,
   ⟨some (.t 39), .call 51 [.t 38], none⟩,
   ⟨some (.v 40), .un .not (.t 39), none⟩])
   (.cond (.v 40) (.rg [⟨some (.v 5), .mv (.c (.int .i64 31)), none⟩])
   (.skip)))
   (.seq (.rgd [⟨some (.t 41), .mv (.v 0), none⟩,
   ⟨some (.t 42), .mv (.v 6), none⟩,
   ⟨some (.t 43), .iad 2 (.t 41) (.t 42), none⟩,
   ⟨some (.t 44), .fad 1 (.t 43), none⟩,
   ⟨some (.t 45), .load false 1 (.t 44), none⟩,
   ⟨some (.t 46), .call 52 [.t 45], none⟩,
   ⟨some (.t 47), .mv (.v 0), none⟩,
   ⟨some (.t 48), .mv (.v 6), none⟩,
   ⟨some (.t 49), .iad 2 (.t 47) (.t 48), none⟩,
   ⟨some (.t 50), .fad 1 (.t 49), none⟩,
   ⟨some (.t 51), .load false 1 (.t 50), none⟩,
   ⟨some (.t 52), .s2b (.t 51), none⟩,
   ⟨some (.t 53), .build [.int .i64 0, .int .i64 0, .bool false, .nilsl, .nilsl] [(1, 1, .t 46), (3, 1, .t 52)], none⟩,
   ⟨some (.v 9), .alloc [.int .i64 0, .int .i64 0, .bool false, .nilsl, .nilsl], none⟩,
   ⟨none, .store 5 (.v 9) (.t 53), none⟩]
   [[], [], [0, 1], [0, 1, 2], [0, 1, 2, 3], [0, 1, 2, 3, 4], [], [], [6, 7], [6, 7, 8], [6, 7, 8, 9], [6, 7, 8, 9, 10], [0, 1, 2, 3, 4, 5, 6, 7, 8, 9, 10, 11], [], [0, 1, 2, 3, 4, 5, 6, 7, 8, 9, 10, 11, 12, 13]])
   (.seq (.rg [⟨some (.t 54), .load true 5 (.v 7), none⟩,
   ⟨some (.t 55), .load true 5 (.v 9), none⟩,
   ⟨some (.t 56), .bslE 5 (.agg [.int .i64 0, .int .i64 0, .bool false, .nilsl, .nilsl]) 2 [(0, .t 54), (1, .t 55)], none⟩,
   ⟨some (.t 57), .build [.int .i64 0, .int .i64 0, .bool false, .nilsl, .nilsl] [(1, 1, .c (.int .i64 16)), (2, 1, .c (.bool true)), (4, 1, .t 56)], none⟩,
   ⟨some (.v 10), .alloc [.int .i64 0, .int .i64 0, .bool false, .nilsl, .nilsl], none⟩,
   ⟨none, .store 5 (.v 10) (.t 57), none⟩])
   (.rg [⟨some (.t 58), .fad 4 (.v 4), none⟩,
   ⟨some (.t 59), .load false 1 (.t 58), none⟩,
   ⟨some (.t 60), .load true 5 (.v 10), none⟩,
   ⟨some (.t 61), .bslE 5 (.agg [.int .i64 0, .int .i64 0, .bool false, .nilsl, .nilsl]) 1 [(0, .t 60)], none⟩,
   ⟨some (.t 62), .build [.int .i64 0, .int .i64 0, .bool false, .nilsl, .nilsl] [(1, 1, .c (.int .i64 17)), (2, 1, .c (.bool true)), (4, 1, .t 61)], none⟩,
   ⟨some (.t 63), .bslE 5 (.agg [.int .i64 0, .int .i64 0, .bool false, .nilsl, .nilsl]) 1 [(0, .t 62)], none⟩,
   ⟨some (.t 64), .app false 5 72 (.t 59) (.t 63), none⟩,
   ⟨some (.t 65), .fad 4 (.v 4), none⟩,
   ⟨none, .store 1 (.t 65) (.t 64), none⟩])))))))
   (.rg [⟨some (.t 20), .mv (.v 6), none⟩,
   ⟨some (.t 21), .bin .add (.t 20) (.c (.int .i64 1)), none⟩,
   ⟨some (.v 6), .mv (.t 21), none⟩]))
def m20 : MFunc := ⟨1, [.el 2], [(2, some (true, 5), .other), (3, none, .other)],
 .seq (.rg [⟨some (.v 2), .alloc [.int .i64 0, .int .i64 0, .bool false, .nilsl, .nilsl], none⟩,
   ⟨some (.v 3), .mv (.c (.int .i64 0)), none⟩])
  (.seq (.seq (.rg [⟨some (.t 11), .mv (.v 0), none⟩,
   ⟨some (.t 12), .len false (.t 11), none⟩,
   ⟨some (.v 13), .bin .gtr (.t 12) (.c (.int .i64 16)), none⟩])
   (.cond (.v 13) (.seq (.rg [⟨some (.t 14), .build [.int .i64 0, .int .i64 0, .bool false, .nilsl, .nilsl] [], none⟩,
   ⟨none, .store 5 (.v 2) (.t 14), none⟩,
   ⟨some (.v 3), .mv (.c (.int .i64 30)), none⟩])
   (.ret))
   (.skip)))
   (.seq (.rg [⟨some (.t 15), .build [.int .i64 0, .int .i64 0, .bool false, .nilsl, .nilsl] [(1, 1, .c (.int .i64 16)), (2, 1, .c (.bool true))], none⟩,
   ⟨some (.v 4), .alloc [.int .i64 0, .int .i64 0, .bool false, .nilsl, .nilsl], none⟩,
   ⟨none, .store 5 (.v 4) (.t 15), none⟩])
   (.seq (.rg [⟨some (.v 5), .mv (.c (.int .i64 0)), none⟩])
   (.seq (.seq (.rg [⟨some (.v 6), .mv (.c (.int .i64 0)), none⟩])
   (.block 0 (.loop m20k0 m20b0)))
   (.seq (.seq (.rg [⟨some (.t 66), .mv (.v 5), none⟩,
   ⟨some (.v 67), .bin .neq (.t 66) (.c (.int .i64 0)), none⟩])
   (.cond (.v 67) (.seq (.rg [⟨some (.t 68), .build [.int .i64 0, .int .i64 0, .bool false, .nilsl, .nilsl] [], none⟩,
   ⟨some (.t 69), .mv (.v 5), none⟩,
   ⟨none, .store 5 (.v 2) (.t 68), none⟩,
   ⟨some (.v 3), .mv (.t 69), none⟩])
   (.ret))
   (.skip)))
   (.seq (.rg [⟨some (.t 70), .load true 5 (.v 4), none⟩,
   ⟨none, .store 5 (.v 2) (.t 70), none⟩,
   ⟨some (.v 3), .mv (.c (.int .i64 0)), none⟩])
   (.ret)))))))⟩
theorem m20o : okE Tryz.prog 20 m20 = some m20.body := by kernel_rfl

def m21k0 : List (Nat × KMode) := [(3, (.ownE 2)), (6, .plain), (7, .plain), (8, .plain)]
def m21b0 : MCode :=
 .seq (.rg [⟨some (.v 9), .bin .lss (.v 8) (.v 7), none⟩])
  (.seq (.cond (.v 9) (.skip)
   (.exit 0))
   (.seq (.block 1 (.seq (.rg [⟨some (.t 10), .iad 2 (.v 6) (.v 8), none⟩,
   ⟨some (.t 11), .load true 2 (.t 10), none⟩,
   ⟨some (.v 5), .alloc [.str [], .str []], none⟩,
   ⟨none, .store 2 (.v 5) (.t 11), none⟩])
   (.rg [⟨some (.t 12), .mv (.v 3), none⟩,
   ⟨some (.t 13), .fad 0 (.v 5), none⟩,
   ⟨some (.t 14), .load false 1 (.t 13), none⟩,
   ⟨some (.t 15), .fad 1 (.v 5), none⟩,
   ⟨some (.t 16), .load false 1 (.t 15), none⟩,
   ⟨some (.t 17), .build [.str [], .str []] [(0, 1, .t 14), (1, 1, .t 16)], none⟩,
   ⟨some (.t 18), .bslE 2 (.agg [.str [], .str []]) 1 [(0, .t 17)], none⟩,
   ⟨some (.t 19), .app false 2 32 (.t 12) (.t 18), none⟩,
   ⟨some (.v 3), .mv (.t 19), none⟩])))
   (.rg [⟨some (.t 20), .bin .add (.v 8) (.c (.int .i64 1)), none⟩,
   ⟨some (.v 8), .mv (.t 20), none⟩])))
def m21 : MFunc := ⟨1, [.el 2], [(2, none, .el 2)],
 .seq (.rg [⟨some (.v 2), .mv (.c (.nilsl)), none⟩])
  (.seq (.rg [⟨some (.v 3), .mv (.c (.nilsl)), none⟩])
   (.seq (.seq (.rg [⟨some (.v 6), .mv (.v 0), none⟩,
   ⟨some (.v 7), .len false (.v 6), none⟩,
   ⟨some (.v 8), .mv (.c (.int .i64 0)), none⟩])
   (.block 0 (.loop m21k0 m21b0)))
   (.seq (.rg [⟨some (.t 21), .mv (.v 3), none⟩,
   ⟨some (.v 2), .mv (.t 21), none⟩])
   (.ret))))⟩
theorem m21o : okE Tryz.prog 21 m21 = some m21.body := by kernel_rfl

def m22k0 : List (Nat × KMode) := [(0, .plain), (1, .plain), (5, .plain)]
def m22b0 : MCode :=
 .seq (.seq (.rg [⟨some (.t 11), .mv (.v 5), none⟩,
   ⟨some (.t 12), .mv (.v 0), none⟩,
   ⟨some (.t 13), .len false (.t 12), none⟩,
   ⟨some (.v 14), .bin .lss (.t 11) (.t 13), none⟩])
   (.cond (.v 14) (.skip)
   (.exit 0)))
  (.seq (.block 1 (.seq (.rgd [⟨some (.t 17), .mv (.v 0), none⟩,
   ⟨some (.t 18), .mv (.v 5), none⟩,
   ⟨some (.t 19), .iad 2 (.t 17) (.t 18), none⟩,
   ⟨some (.t 20), .load true 2 (.t 19), none⟩,
   ⟨some (.t 21), .mv (.v 1), none⟩,
   ⟨some (.t 22), .mv (.v 5), none⟩,
   ⟨some (.t 23), .iad 2 (.t 21) (.t 22), none⟩,
   ⟨some (.t 24), .load true 2 (.t 23), none⟩,
   ⟨some (.v 25), .eqs (.struct [.str, .str]) true (.t 20) (.t 24), none⟩]
   [[], [], [0, 1], [0, 1, 2], [], [], [4, 5], [4, 5, 6], [0, 1, 2, 3, 4, 5, 6, 7]])
   (.cond (.v 25) (.seq (.rg [⟨some (.v 4), .mv (.c (.bool false)), none⟩])
   (.ret))
   (.skip))))
   (.rg [⟨some (.t 15), .mv (.v 5), none⟩,
   ⟨some (.t 16), .bin .add (.t 15) (.c (.int .i64 1)), none⟩,
   ⟨some (.v 5), .mv (.t 16), none⟩]))
def m22 : MFunc := ⟨2, [.el 2, .el 2], [(4, none, .other)],
 .seq (.rg [⟨some (.v 4), .mv (.c (.bool false)), none⟩])
  (.seq (.seq (.rg [⟨some (.t 6), .mv (.v 0), none⟩,
   ⟨some (.t 7), .len false (.t 6), none⟩,
   ⟨some (.t 8), .mv (.v 1), none⟩,
   ⟨some (.t 9), .len false (.t 8), none⟩,
   ⟨some (.v 10), .bin .neq (.t 7) (.t 9), none⟩])
   (.cond (.v 10) (.seq (.rg [⟨some (.v 4), .mv (.c (.bool false)), none⟩])
   (.ret))
   (.skip)))
   (.seq (.seq (.rg [⟨some (.v 5), .mv (.c (.int .i64 0)), none⟩])
   (.block 0 (.loop m22k0 m22b0)))
   (.seq (.rg [⟨some (.v 4), .mv (.c (.bool true)), none⟩])
   (.ret))))⟩
theorem m22o : okE Tryz.prog 22 m22 = some m22.body := by kernel_rfl

def m24 : MFunc := ⟨2, [.el 2, .el 2], [(4, none, .other)],
 .seq (.rg [⟨some (.v 4), .mv (.c (.bool false)), none⟩])
  (.seq (.rg [⟨some (.t 5), .mv (.v 0), none⟩,
   ⟨some (.t 6), .mv (.v 1), none⟩,
   ⟨some (.t 7), .call 58 [.t 5, .t 6], none⟩,
   ⟨some (.v 4), .mv (.t 7), none⟩])
   (.ret))⟩
theorem m24o : okE Tryz.prog 24 m24 = some m24.body := by kernel_rfl

def m26k0 : List (Nat × KMode) := [(6, (.ownE 1)), (7, .plain), (29, .plain), (30, .plain), (31, .plain)]
def m26b0 : MCode :=
 .seq (.rg [⟨some (.v 32), .bin .lss (.v 31) (.v 30), none⟩])
  (.seq (.cond (.v 32) (.skip)
   (.exit 0))
   (.seq (.block 1 (.seq (.rg [⟨some (.t 33), .iad 1 (.v 29) (.v 31), none⟩,
   ⟨some (.t 34), .load false 1 (.t 33), none⟩,
   ⟨some (.v 9), .mv (.t 34), none⟩])
   (.seq (.seq (.rg [⟨some (.t 35), .mv (.v 7), none⟩,
   ⟨some (.t 36), .bin .shl (.t 35) (.c (.int .u64 7)), none⟩,
   ⟨some (.t 37), .mv (.v 9), none⟩,
   ⟨some (.t 38), .bin .and (.t 37) (.c (.int .u8 127)), none⟩,
   ⟨some (.t 39), .conv .i64 (.t 38), none⟩,
   ⟨some (.t 40), .bin .or (.t 36) (.t 39), none⟩,
   ⟨some (.v 7), .mv (.t 40), none⟩])
   (.seq (.rg [⟨some (.t 41), .mv (.v 7), none⟩,
   ⟨some (.v 42), .bin .geq (.t 41) (.c (.int .i64 1099511627776)), none⟩])
   (.cond (.v 42) (.seq (.rg [⟨some (.v 2), .mv (.c (.str [])), none⟩,
   ⟨some (.v 3), .mv (.c (.bool false)), none⟩])
   (.ret))
   (.skip))))
   (.seq (.seq (.rg [⟨some (.t 43), .mv (.v 9), none⟩,
   ⟨some (.v 44), .bin .geq (.t 43) (.c (.int .u8 128)), none⟩])
   (.cond (.v 44) (.exit 1)
   (.skip)))
   (.seq (.seq (.rg [⟨some (.t 45), .mv (.v 6), none⟩,
   ⟨some (.t 46), .len false (.t 45), none⟩,
   ⟨some (.v 47), .bin .eql (.t 46) (.c (.int .i64 0)), none⟩])
   (.cond (.v 47) (.seq (.rg [⟨some (.t 48), .mv (.v 7), none⟩,
   ⟨some (.t 49), .bin .quo (.t 48) (.c (.int .i64 40)), none⟩,
   ⟨some (.t 50), .minmax false [.t 49, .c (.int .i64 2)], none⟩,
   ⟨some (.v 10), .mv (.t 50), none⟩])
   (.rg [⟨some (.t 51), .mv (.v 6), none⟩,
   ⟨some (.t 52), .mv (.v 10), none⟩,
   ⟨some (.t 53), .call 61 [.t 52], none⟩,
   ⟨some (.t 54), .bslE 1 (.str []) 1 [(0, .t 53)], none⟩,
   ⟨some (.t 55), .app false 1 16 (.t 51) (.t 54), none⟩,
   ⟨some (.t 56), .mv (.v 7), none⟩,
   ⟨some (.t 57), .mv (.v 10), none⟩,
   ⟨some (.t 58), .bin .mul (.c (.int .i64 40)) (.t 57), none⟩,
   ⟨some (.t 59), .bin .sub (.t 56) (.t 58), none⟩,
   ⟨some (.v 6), .mv (.t 55), none⟩,
   ⟨some (.v 7), .mv (.t 59), none⟩]))
   (.skip)))
   (.rg [⟨some (.t 60), .mv (.v 6), none⟩,
   ⟨some (.t 61), .mv (.v 7), none⟩,
   ⟨some (.t 62), .call 61 [.t 61], none⟩,
   ⟨some (.t 63), .bslE 1 (.str []) 1 [(0, .t 62)], none⟩,
   ⟨some (.t 64), .app false 1 16 (.t 60) (.t 63), none⟩,
   ⟨some (.v 6), .mv (.t 64), none⟩,
   ⟨some (.v 7), .mv (.c (.int .i64 0)), none⟩]))))))
   (.rg [⟨some (.t 65), .bin .add (.v 31) (.c (.int .i64 1)), none⟩,
   ⟨some (.v 31), .mv (.t 65), none⟩])))
def m26 : MFunc := ⟨1, [.other], [(2, none, .other), (3, none, .other)],
 .seq (.rg [⟨some (.v 1), .box (.v 0), none⟩,
   ⟨some (.v 2), .mv (.c (.str [])), none⟩,
   ⟨some (.v 3), .mv (.c (.bool false)), none⟩])
  (.seq (.seq (.rg [⟨some (.t 12), .load true 5 (.v 1), none⟩,
   ⟨some (.t 13), .call 44 [.t 12], none⟩,
   ⟨some (.t 11), .mv (.t 13), none⟩,
   ⟨some (.t 14), .ext 0 (.t 11), none⟩,
   ⟨some (.t 15), .ext 1 (.t 11), none⟩,
   ⟨some (.t 4), .mv (.t 14), none⟩,
   ⟨some (.v 5), .mv (.t 15), none⟩])
   (.seq (.rg [⟨some (.t 16), .mv (.v 5), none⟩,
   ⟨some (.t 17), .bin .neq (.t 16) (.c (.int .i64 0)), none⟩,
   ⟨some (.t 18), .mv (.t 17), none⟩,
   ⟨some (.t 19), .fad 0 (.v 1), some (.t 18, false)⟩,
   ⟨some (.t 20), .load false 1 (.t 19), some (.t 18, false)⟩,
   ⟨some (.t 21), .bin .neq (.t 20) (.c (.int .i64 0)), some (.t 18, false)⟩,
   ⟨some (.t 22), .pick (.t 18) (.c (.bool true)) (.t 21), none⟩,
   ⟨some (.t 23), .mv (.t 22), none⟩,
   ⟨some (.t 24), .fad 1 (.v 1), some (.t 23, false)⟩,
   ⟨some (.t 25), .load false 1 (.t 24), some (.t 23, false)⟩,
   ⟨some (.t 26), .bin .neq (.t 25) (.c (.int .i64 6)), some (.t 23, false)⟩,
   ⟨some (.v 27), .pick (.t 23) (.c (.bool true)) (.t 26), none⟩])
   (.cond (.v 27) (.seq (.rg [⟨some (.v 2), .mv (.c (.str [])), none⟩,
   ⟨some (.v 3), .mv (.c (.bool false)), none⟩])
   (.ret))
   (.skip))))
   (.seq (.rg [⟨some (.v 6), .mv (.c (.nilsl)), none⟩])
   (.seq (.rg [⟨some (.v 7), .mv (.c (.int .i64 0)), none⟩])
   (.seq (.seq (.rg [⟨some (.t 28), .fad 3 (.v 1), none⟩,
   ⟨some (.v 29), .load false 1 (.t 28), none⟩,
   ⟨some (.v 30), .len false (.v 29), none⟩,
   ⟨some (.v 31), .mv (.c (.int .i64 0)), none⟩])
   (.block 0 (.loop m26k0 m26b0)))
   (.seq (.seq (.rg [⟨some (.t 66), .mv (.v 6), none⟩,
   ⟨some (.t 67), .len false (.t 66), none⟩,
   ⟨some (.v 68), .bin .gtr (.t 67) (.c (.int .i64 20)), none⟩])
   (.cond (.v 68) (.seq (.rg [⟨some (.v 2), .mv (.c (.str [])), none⟩,
   ⟨some (.v 3), .mv (.c (.bool false)), none⟩])
   (.ret))
   (.skip)))
   (.seq (.rg [⟨some (.t 69), .mv (.v 6), none⟩,
   ⟨some (.t 70), .call 62 [.t 69, .c (.str [46])], none⟩,
   ⟨some (.v 2), .mv (.t 70), none⟩,
   ⟨some (.v 3), .mv (.c (.bool true)), none⟩])
   (.ret)))))))⟩
theorem m26o : okE Tryz.prog 26 m26 = some m26.body := by kernel_rfl

def m27k0 : List (Nat × KMode) := [(1, .plain), (7, (.ownE 1)), (59, .plain), (60, .plain)]
def m27b0 : MCode :=
 .seq (.rg [⟨some (.v 61), .bin .lss (.v 60) (.c (.int .i64 6)), none⟩])
  (.seq (.cond (.v 61) (.skip)
   (.exit 0))
   (.seq (.block 1 (.seq (.rg [⟨some (.t 62), .idxA false 1 6 (.v 59) (.v 60), none⟩,
   ⟨some (.v 9), .mv (.t 62), none⟩])
   (.seq (.rg [⟨some (.t 64), .mv (.v 9), none⟩,
   ⟨some (.t 65), .call 63 [.t 64], none⟩,
   ⟨some (.t 63), .mv (.t 65), none⟩,
   ⟨some (.t 66), .ext 0 (.t 63), none⟩,
   ⟨some (.t 67), .ext 1 (.t 63), none⟩,
   ⟨some (.v 10), .mv (.t 66), none⟩,
   ⟨some (.t 11), .mv (.t 67), none⟩])
   (.rg [⟨some (.t 68), .mv (.v 7), none⟩,
   ⟨some (.t 69), .mv (.v 10), none⟩,
   ⟨some (.t 70), .bslE 1 (.int .i64 0) 1 [(0, .t 69)], none⟩,
   ⟨some (.t 71), .app false 1 8 (.t 68) (.t 70), none⟩,
   ⟨some (.v 7), .mv (.t 71), none⟩]))))
   (.rg [⟨some (.t 72), .bin .add (.v 60) (.c (.int .i64 1)), none⟩,
   ⟨some (.v 60), .mv (.t 72), none⟩])))
def m27 : MFunc := ⟨1, [.other], [(2, none, .other), (3, none, .other)],
 .seq (.rg [⟨some (.v 1), .box (.v 0), none⟩,
   ⟨some (.v 2), .mv (.c (.int .i64 0)), none⟩,
   ⟨some (.v 3), .mv (.c (.int .i64 0)), none⟩])
  (.seq (.seq (.rg [⟨some (.t 13), .load true 5 (.v 1), none⟩,
   ⟨some (.t 14), .call 44 [.t 13], none⟩,
   ⟨some (.t 12), .mv (.t 14), none⟩,
   ⟨some (.t 15), .ext 0 (.t 12), none⟩,
   ⟨some (.t 16), .ext 1 (.t 12), none⟩,
   ⟨some (.t 4), .mv (.t 15), none⟩,
   ⟨some (.v 5), .mv (.t 16), none⟩])
   (.seq (.rg [⟨some (.t 17), .mv (.v 5), none⟩,
   ⟨some (.t 18), .bin .neq (.t 17) (.c (.int .i64 0)), none⟩,
   ⟨some (.t 19), .mv (.t 18), none⟩,
   ⟨some (.t 20), .fad 0 (.v 1), some (.t 19, false)⟩,
   ⟨some (.t 21), .load false 1 (.t 20), some (.t 19, false)⟩,
   ⟨some (.t 22), .bin .neq (.t 21) (.c (.int .i64 0)), some (.t 19, false)⟩,
   ⟨some (.t 23), .pick (.t 19) (.c (.bool true)) (.t 22), none⟩,
   ⟨some (.t 24), .mv (.t 23), none⟩,
   ⟨some (.t 25), .fad 1 (.v 1), some (.t 24, false)⟩,
   ⟨some (.t 26), .load false 1 (.t 25), some (.t 24, false)⟩,
   ⟨some (.t 27), .bin .neq (.t 26) (.c (.int .i64 23)), some (.t 24, false)⟩,
   ⟨some (.t 28), .mv (.t 27), some (.t 24, false)⟩,
   ⟨some (.t 29), .fad 1 (.v 1), some (.t 28, true)⟩,
   ⟨some (.t 30), .load false 1 (.t 29), some (.t 28, true)⟩,
   ⟨some (.t 31), .bin .neq (.t 30) (.c (.int .i64 24)), some (.t 28, true)⟩,
   ⟨some (.t 32), .pick (.t 28) (.t 31) (.c (.bool false)), some (.t 24, false)⟩,
   ⟨some (.v 33), .pick (.t 24) (.c (.bool true)) (.t 32), none⟩])
   (.cond (.v 33) (.seq (.rg [⟨some (.v 2), .mv (.c (.int .i64 0)), none⟩,
   ⟨some (.v 3), .mv (.c (.int .i64 30)), none⟩])
   (.ret))
   (.skip))))
   (.seq (.rg [⟨some (.t 34), .fad 3 (.v 1), none⟩,
   ⟨some (.t 35), .load false 1 (.t 34), none⟩,
   ⟨some (.t 36), .b2s (.t 35), none⟩,
   ⟨some (.v 6), .mv (.t 36), none⟩])
   (.seq (.seq (.rg [⟨some (.t 37), .fad 1 (.v 1), none⟩,
   ⟨some (.t 38), .load false 1 (.t 37), none⟩,
   ⟨some (.v 39), .bin .eql (.t 38) (.c (.int .i64 23)), none⟩])
   (.cond (.v 39) (.seq (.rg [⟨some (.t 40), .mv (.v 6), none⟩,
   ⟨some (.t 41), .idxS (.t 40) (.c (.int .i64 0)), none⟩,
   ⟨some (.v 42), .bin .geq (.t 41) (.c (.int .u8 53)), none⟩])
   (.cond (.v 42) (.rg [⟨some (.t 43), .mv (.v 6), none⟩,
   ⟨some (.t 44), .bin .add (.c (.str [49, 57])) (.t 43), none⟩,
   ⟨some (.v 6), .mv (.t 44), none⟩])
   (.rg [⟨some (.t 45), .mv (.v 6), none⟩,
   ⟨some (.t 46), .bin .add (.c (.str [50, 48])) (.t 45), none⟩,
   ⟨some (.v 6), .mv (.t 46), none⟩])))
   (.skip)))
   (.seq (.rg [⟨some (.v 7), .mv (.c (.nilsl)), none⟩])
   (.seq (.seq (.rgd [⟨some (.t 47), .mv (.v 6), none⟩,
   ⟨some (.t 48), .slc true 1 (.t 47) none (some (.c (.int .i64 4))), none⟩,
   ⟨some (.t 49), .mv (.v 6), none⟩,
   ⟨some (.t 50), .slc true 1 (.t 49) (some (.c (.int .i64 4))) (some (.c (.int .i64 6))), none⟩,
   ⟨some (.t 51), .mv (.v 6), none⟩,
   ⟨some (.t 52), .slc true 1 (.t 51) (some (.c (.int .i64 6))) (some (.c (.int .i64 8))), none⟩,
   ⟨some (.t 53), .mv (.v 6), none⟩,
   ⟨some (.t 54), .slc true 1 (.t 53) (some (.c (.int .i64 8))) (some (.c (.int .i64 10))), none⟩,
   ⟨some (.t 55), .mv (.v 6), none⟩,
   ⟨some (.t 56), .slc true 1 (.t 55) (some (.c (.int .i64 10))) (some (.c (.int .i64 12))), none⟩,
   ⟨some (.t 57), .mv (.v 6), none⟩,
   ⟨some (.t 58), .slc true 1 (.t 57) (some (.c (.int .i64 12))) (some (.c (.int .i64 14))), none⟩,
   ⟨some (.v 59), .build [.str [], .str [], .str [], .str [], .str [], .str []] [(0, 1, .t 48), (1, 1, .t 50), (2, 1, .t 52), (3, 1, .t 54), (4, 1, .t 56), (5, 1, .t 58)], none⟩,
   ⟨some (.v 60), .mv (.c (.int .i64 0)), none⟩]
   [[], [0], [], [2], [], [4], [], [6], [], [8], [], [10], [0, 1, 2, 3, 4, 5, 6, 7, 8, 9, 10, 11], []])
   (.block 0 (.loop m27k0 m27b0)))
   (.seq (.seq (.rg [⟨some (.t 73), .mv (.v 7), none⟩,
   ⟨some (.t 74), .iad 1 (.t 73) (.c (.int .i64 0)), none⟩,
   ⟨some (.t 75), .load false 1 (.t 74), none⟩,
   ⟨some (.t 76), .bin .lss (.t 75) (.c (.int .i64 1970)), none⟩,
   ⟨some (.t 77), .mv (.t 76), none⟩,
   ⟨some (.t 78), .fad 1 (.v 1), some (.t 77, false)⟩,
   ⟨some (.t 79), .load false 1 (.t 78), some (.t 77, false)⟩,
   ⟨some (.t 80), .bin .eql (.t 79) (.c (.int .i64 24)), some (.t 77, false)⟩,
   ⟨some (.t 81), .mv (.t 80), some (.t 77, false)⟩,
   ⟨some (.t 82), .mv (.v 7), some (.t 81, true)⟩,
   ⟨some (.t 83), .iad 1 (.t 82) (.c (.int .i64 0)), some (.t 81, true)⟩,
   ⟨some (.t 84), .load false 1 (.t 83), some (.t 81, true)⟩,
   ⟨some (.t 85), .bin .lss (.t 84) (.c (.int .i64 2050)), some (.t 81, true)⟩,
   ⟨some (.t 86), .pick (.t 81) (.t 85) (.c (.bool false)), some (.t 77, false)⟩,
   ⟨some (.v 87), .pick (.t 77) (.c (.bool true)) (.t 86), none⟩])
   (.cond (.v 87) (.seq (.rg [⟨some (.v 2), .mv (.c (.int .i64 0)), none⟩,
   ⟨some (.v 3), .mv (.c (.int .i64 32)), none⟩])
   (.ret))
   (.skip)))
   (.seq (.rgd [⟨some (.t 88), .mv (.v 7), none⟩,
   ⟨some (.t 89), .iad 1 (.t 88) (.c (.int .i64 0)), none⟩,
   ⟨some (.t 90), .load false 1 (.t 89), none⟩,
   ⟨some (.t 91), .mv (.v 7), none⟩,
   ⟨some (.t 92), .iad 1 (.t 91) (.c (.int .i64 1)), none⟩,
   ⟨some (.t 93), .load false 1 (.t 92), none⟩,
   ⟨some (.t 94), .mv (.v 7), none⟩,
   ⟨some (.t 95), .iad 1 (.t 94) (.c (.int .i64 2)), none⟩,
   ⟨some (.t 96), .load false 1 (.t 95), none⟩,
   ⟨some (.t 97), .call 59 [.t 90, .t 93, .t 96], none⟩,
   ⟨some (.t 98), .bin .mul (.c (.int .i64 86400)) (.t 97), none⟩,
   ⟨some (.t 99), .mv (.v 7), none⟩,
   ⟨some (.t 100), .iad 1 (.t 99) (.c (.int .i64 3)), none⟩,
   ⟨some (.t 101), .load false 1 (.t 100), none⟩,
   ⟨some (.t 102), .bin .mul (.c (.int .i64 3600)) (.t 101), none⟩,
   ⟨some (.t 103), .bin .add (.t 98) (.t 102), none⟩,
   ⟨some (.t 104), .mv (.v 7), none⟩,
   ⟨some (.t 105), .iad 1 (.t 104) (.c (.int .i64 4)), none⟩,
   ⟨some (.t 106), .load false 1 (.t 105), none⟩,
   ⟨some (.t 107), .bin .mul (.c (.int .i64 60)) (.t 106), none⟩,
   ⟨some (.t 108), .bin .add (.t 103) (.t 107), none⟩,
   ⟨some (.t 109), .mv (.v 7), none⟩,
   ⟨some (.t 110), .iad 1 (.t 109) (.c (.int .i64 5)), none⟩,
   ⟨some (.t 111), .load false 1 (.t 110), none⟩,
   ⟨some (.t 112), .bin .add (.t 108) (.t 111), none⟩,
   ⟨some (.v 2), .mv (.t 112), none⟩,
   ⟨some (.v 3), .mv (.c (.int .i64 0)), none⟩]
   [[], [0], [0, 1], [], [3], [3, 4], [], [6], [6, 7], [0, 1, 2, 3, 4, 5, 6, 7, 8], [0, 1, 2, 3, 4, 5, 6, 7, 8, 9], [], [11], [11, 12], [11, 12, 13], [0, 1, 2, 3, 4, 5, 6, 7, 8, 9, 10, 11, 12, 13, 14], [], [16], [16, 17], [16, 17, 18], [0, 1, 2, 3, 4, 5, 6, 7, 8, 9, 10, 11, 12, 13, 14, 15, 16, 17, 18, 19], [], [21], [21, 22], [0, 1, 2, 3, 4, 5, 6, 7, 8, 9, 10, 11, 12, 13, 14, 15, 16, 17, 18, 19, 20, 21, 22, 23], [0, 1, 2, 3, 4, 5, 6, 7, 8, 9, 10, 11, 12, 13, 14, 15, 16, 17, 18, 19, 20, 21, 22, 23, 24], [0, 1, 2, 3, 4, 5, 6, 7, 8, 9, 10, 11, 12, 13, 14, 15, 16, 17, 18, 19, 20, 21, 22, 23, 24, 25]])
   (.ret))))))))⟩
theorem m27o : okE Tryz.prog 27 m27 = some m27.body := by kernel_rfl

def m28k0 : List (Nat × KMode) := [(7, .plain), (8, .plain), (9, .plain)]
def m28b0 : MCode :=
 .seq (.rg [⟨some (.v 10), .bin .lss (.v 9) (.v 8), none⟩])
  (.seq (.cond (.v 10) (.skip)
   (.exit 0))
   (.seq (.block 1 (.seq (.rg [⟨some (.t 11), .iad 1 (.v 7) (.v 9), none⟩,
   ⟨some (.t 12), .load false 1 (.t 11), none⟩,
   ⟨some (.v 4), .mv (.t 12), none⟩])
   (.seq (.rg [⟨some (.t 13), .mv (.v 4), none⟩,
   ⟨some (.t 14), .len true (.t 13), none⟩,
   ⟨some (.v 5), .mv (.t 14), none⟩])
   (.seq (.rg [⟨some (.t 15), .mv (.v 5), none⟩,
   ⟨some (.t 16), .bin .lss (.t 15) (.c (.int .i64 1)), none⟩,
   ⟨some (.t 17), .mv (.t 16), none⟩,
   ⟨some (.t 18), .mv (.v 5), some (.t 17, false)⟩,
   ⟨some (.t 19), .bin .gtr (.t 18) (.c (.int .i64 63)), some (.t 17, false)⟩,
   ⟨some (.t 20), .pick (.t 17) (.c (.bool true)) (.t 19), none⟩,
   ⟨some (.t 21), .mv (.t 20), none⟩,
   ⟨some (.t 22), .mv (.v 4), some (.t 21, false)⟩,
   ⟨some (.t 23), .idxS (.t 22) (.c (.int .i64 0)), some (.t 21, false)⟩,
   ⟨some (.t 24), .bin .eql (.t 23) (.c (.int .u8 45)), some (.t 21, false)⟩,
   ⟨some (.t 25), .pick (.t 21) (.c (.bool true)) (.t 24), none⟩,
   ⟨some (.t 26), .mv (.t 25), none⟩,
   ⟨some (.t 27), .mv (.v 4), some (.t 26, false)⟩,
   ⟨some (.t 28), .mv (.v 5), some (.t 26, false)⟩,
   ⟨some (.t 29), .bin .sub (.t 28) (.c (.int .i64 1)), some (.t 26, false)⟩,
   ⟨some (.t 30), .idxS (.t 27) (.t 29), some (.t 26, false)⟩,
   ⟨some (.t 31), .bin .eql (.t 30) (.c (.int .u8 45)), some (.t 26, false)⟩,
   ⟨some (.t 32), .pick (.t 26) (.c (.bool true)) (.t 31), none⟩,
   ⟨some (.t 33), .mv (.t 32), none⟩,
   ⟨some (.t 34), .mv (.v 4), some (.t 33, false)⟩,
   ⟨some (.t 35), .call 65 [.t 34, .c (.fn 66 [])], some (.t 33, false)⟩,
   ⟨some (.v 36), .pick (.t 33) (.c (.bool true)) (.t 35), none⟩])
   (.cond (.v 36) (.seq (.rg [⟨some (.v 2), .mv (.c (.bool false)), none⟩])
   (.ret))
   (.skip))))))
   (.rg [⟨some (.t 37), .bin .add (.v 9) (.c (.int .i64 1)), none⟩,
   ⟨some (.v 9), .mv (.t 37), none⟩])))
def m28 : MFunc := ⟨1, [.other], [(2, none, .other)],
 .seq (.rg [⟨some (.v 2), .mv (.c (.bool false)), none⟩])
  (.seq (.seq (.rg [⟨some (.t 6), .mv (.v 0), none⟩,
   ⟨some (.v 7), .call 64 [.t 6, .c (.str [46])], none⟩,
   ⟨some (.v 8), .len false (.v 7), none⟩,
   ⟨some (.v 9), .mv (.c (.int .i64 0)), none⟩])
   (.block 0 (.loop m28k0 m28b0)))
   (.seq (.rg [⟨some (.v 2), .mv (.c (.bool true)), none⟩])
   (.ret)))⟩
theorem m28o : okE Tryz.prog 28 m28 = some m28.body := by kernel_rfl

def m29k0 : List (Nat × KMode) := [(3, .plain), (8, .plain), (9, .plain), (10, .plain)]
def m29b0 : MCode :=
 .seq (.rg [⟨some (.v 11), .bin .lss (.v 10) (.v 9), none⟩])
  (.seq (.cond (.v 11) (.skip)
   (.exit 0))
   (.seq (.block 1 (.seq (.rg [⟨some (.t 12), .mv (.v 10), none⟩,
   ⟨some (.t 13), .iad 1 (.v 8) (.v 10), none⟩,
   ⟨some (.t 14), .load false 1 (.t 13), none⟩,
   ⟨some (.v 4), .mv (.t 12), none⟩,
   ⟨some (.v 5), .mv (.t 14), none⟩])
   (.seq (.rg [⟨some (.t 15), .mv (.v 5), none⟩,
   ⟨some (.t 16), .bin .geq (.t 15) (.c (.int .u8 65)), none⟩,
   ⟨some (.t 17), .mv (.t 16), none⟩,
   ⟨some (.t 18), .mv (.v 5), some (.t 17, true)⟩,
   ⟨some (.t 19), .bin .leq (.t 18) (.c (.int .u8 90)), some (.t 17, true)⟩,
   ⟨some (.v 20), .pick (.t 17) (.t 19) (.c (.bool false)), none⟩])
   (.cond (.v 20) (.rg [⟨some (.t 21), .mv (.v 3), none⟩,
   ⟨some (.t 22), .mv (.v 4), none⟩,
   ⟨some (.t 23), .iad 1 (.t 21) (.t 22), none⟩,
   ⟨some (.t 24), .load false 1 (.t 23), none⟩,
   ⟨some (.t 25), .bin .add (.t 24) (.c (.int .u8 32)), none⟩,
   ⟨some (.t 26), .iad 1 (.t 21) (.t 22), none⟩,
   ⟨none, .store 1 (.t 26) (.t 25), none⟩])
   (.skip)))))
   (.rg [⟨some (.t 27), .bin .add (.v 10) (.c (.int .i64 1)), none⟩,
   ⟨some (.v 10), .mv (.t 27), none⟩])))
def m29 : MFunc := ⟨1, [.other], [(2, none, .other)],
 .seq (.rg [⟨some (.v 2), .mv (.c (.str [])), none⟩])
  (.seq (.rg [⟨some (.t 6), .mv (.v 0), none⟩,
   ⟨some (.t 7), .s2b (.t 6), none⟩,
   ⟨some (.v 3), .mv (.t 7), none⟩])
   (.seq (.seq (.rg [⟨some (.v 8), .mv (.v 3), none⟩,
   ⟨some (.v 9), .len false (.v 8), none⟩,
   ⟨some (.v 10), .mv (.c (.int .i64 0)), none⟩])
   (.block 0 (.loop m29k0 m29b0)))
   (.seq (.rg [⟨some (.t 28), .mv (.v 3), none⟩,
   ⟨some (.t 29), .b2s (.t 28), none⟩,
   ⟨some (.v 2), .mv (.t 29), none⟩])
   (.ret))))⟩
theorem m29o : okE Tryz.prog 29 m29 = some m29.body := by kernel_rfl

def m30 : MFunc := ⟨2, [.other, .other], [(4, none, .other)],
 .seq (.rg [⟨some (.v 4), .mv (.c (.bool false)), none⟩])
  (.seq (.rg [⟨some (.t 5), .mv (.v 0), none⟩,
   ⟨some (.t 6), .len true (.t 5), none⟩,
   ⟨some (.t 7), .mv (.v 1), none⟩,
   ⟨some (.t 8), .len true (.t 7), none⟩,
   ⟨some (.t 9), .bin .gtr (.t 6) (.t 8), none⟩,
   ⟨some (.t 10), .mv (.t 9), none⟩,
   ⟨some (.t 11), .mv (.v 0), some (.t 10, true)⟩,
   ⟨some (.t 12), .call 29 [.t 11], some (.t 10, true)⟩,
   ⟨some (.t 13), .mv (.v 1), some (.t 10, true)⟩,
   ⟨some (.t 14), .call 29 [.t 13], some (.t 10, true)⟩,
   ⟨some (.t 15), .call 67 [.t 12, .t 14], some (.t 10, true)⟩,
   ⟨some (.t 16), .pick (.t 10) (.t 15) (.c (.bool false)), none⟩,
   ⟨some (.v 4), .mv (.t 16), none⟩])
   (.ret))⟩
theorem m30o : okE Tryz.prog 30 m30 = some m30.body := by kernel_rfl

def m32 : MFunc := ⟨2, [.other, .other], [(4, none, .other)],
 .seq (.rg [⟨some (.v 4), .mv (.c (.bool false)), none⟩])
  (.seq (.block 0 (.seq (.rg [⟨some (.t 6), .mv (.v 0), none⟩,
   ⟨some (.t 7), .call 28 [.t 6], none⟩,
   ⟨some (.t 8), .un .not (.t 7), none⟩,
   ⟨some (.v 5), .mv (.t 8), none⟩])
   (.cond (.v 5) (.seq (.rg [⟨some (.v 4), .mv (.c (.bool false)), none⟩])
   (.ret))
   (.seq (.rg [⟨some (.t 10), .mv (.v 1), none⟩,
   ⟨some (.t 11), .bin .eql (.t 10) (.c (.str [])), none⟩,
   ⟨some (.v 9), .mv (.t 11), none⟩])
   (.cond (.v 9) (.seq (.rg [⟨some (.v 4), .mv (.c (.bool true)), none⟩])
   (.ret))
   (.seq (.rg [⟨some (.t 13), .mv (.v 1), none⟩,
   ⟨some (.t 14), .idxS (.t 13) (.c (.int .i64 0)), none⟩,
   ⟨some (.t 15), .bin .eql (.t 14) (.c (.int .u8 46)), none⟩,
   ⟨some (.v 12), .mv (.t 15), none⟩])
   (.cond (.v 12) (.seq (.rg [⟨some (.t 16), .mv (.v 0), none⟩,
   ⟨some (.t 17), .mv (.v 1), none⟩,
   ⟨some (.t 18), .call 30 [.t 16, .t 17], none⟩,
   ⟨some (.v 4), .mv (.t 18), none⟩])
   (.ret))
   (.skip))))))))
   (.seq (.rg [⟨some (.t 19), .mv (.v 0), none⟩,
   ⟨some (.t 20), .call 29 [.t 19], none⟩,
   ⟨some (.t 21), .mv (.v 1), none⟩,
   ⟨some (.t 22), .call 29 [.t 21], none⟩,
   ⟨some (.t 23), .bin .eql (.t 20) (.t 22), none⟩,
   ⟨some (.v 4), .mv (.t 23), none⟩])
   (.ret)))⟩
theorem m32o : okE Tryz.prog 32 m32 = some m32.body := by kernel_rfl

def m34 : MFunc := ⟨2, [.byt, .byt], [(4, none, .other)],
 .seq (.rg [⟨some (.v 4), .mv (.c (.bool false)), none⟩])
  (.seq (.rg [⟨some (.t 5), .mv (.v 0), none⟩,
   ⟨some (.t 6), .b2s (.t 5), none⟩,
   ⟨some (.t 7), .mv (.v 1), none⟩,
   ⟨some (.t 8), .b2s (.t 7), none⟩,
   ⟨some (.t 9), .bin .eql (.t 6) (.t 8), none⟩,
   ⟨some (.v 4), .mv (.t 9), none⟩])
   (.ret))⟩
theorem m34o : okE Tryz.prog 34 m34 = some m34.body := by kernel_rfl

def m35 : MFunc := ⟨2, [.other, .other], [(4, some (true, 5), .other), (5, none, .other)],
 .seq (.rg [⟨some (.v 2), .box (.v 0), none⟩,
   ⟨some (.v 4), .alloc [.int .i64 0, .int .i64 0, .bool false, .nilsl, .nilsl], none⟩,
   ⟨some (.v 5), .mv (.c (.int .i64 0)), none⟩])
  (.seq (.seq (.rg [⟨some (.t 8), .fad 0 (.v 2), none⟩,
   ⟨some (.t 9), .load false 1 (.t 8), none⟩,
   ⟨some (.t 10), .call 73 [.t 9], none⟩,
   ⟨some (.t 11), .un .not (.t 10), none⟩,
   ⟨some (.t 12), .mv (.t 11), none⟩,
   ⟨some (.t 13), .fad 0 (.v 2), some (.t 12, false)⟩,
   ⟨some (.t 14), .load false 1 (.t 13), some (.t 12, false)⟩,
   ⟨some (.t 15), .bin .neq (.t 14) (.c (.int .i64 4)), some (.t 12, false)⟩,
   ⟨some (.t 16), .mv (.t 15), some (.t 12, false)⟩,
   ⟨some (.t 17), .fad 2 (.v 2), some (.t 16, true)⟩,
   ⟨some (.t 18), .load false 1 (.t 17), some (.t 16, true)⟩,
   ⟨some (.t 19), .len false (.t 18), some (.t 16, true)⟩,
   ⟨some (.t 20), .bin .gtr (.t 19) (.c (.int .i64 0)), some (.t 16, true)⟩,
   ⟨some (.t 21), .pick (.t 16) (.t 20) (.c (.bool false)), some (.t 12, false)⟩,
   ⟨some (.t 22), .pick (.t 12) (.c (.bool true)) (.t 21), none⟩,
   ⟨some (.t 23), .mv (.t 22), none⟩,
   ⟨some (.t 24), .fad 0 (.v 2), some (.t 23, false)⟩,
   ⟨some (.t 25), .load false 1 (.t 24), some (.t 23, false)⟩,
   ⟨some (.t 26), .bin .eql (.t 25) (.c (.int .i64 4)), some (.t 23, false)⟩,
   ⟨some (.t 27), .mv (.t 26), some (.t 23, false)⟩,
   ⟨some (.t 28), .fad 1 (.v 2), some (.t 27, true)⟩,
   ⟨some (.t 29), .load false 1 (.t 28), some (.t 27, true)⟩,
   ⟨some (.t 30), .bin .neq (.t 29) (.c (.str [])), some (.t 27, true)⟩,
   ⟨some (.t 31), .pick (.t 27) (.t 30) (.c (.bool false)), some (.t 23, false)⟩,
   ⟨some (.v 32), .pick (.t 23) (.c (.bool true)) (.t 31), none⟩])
   (.cond (.v 32) (.seq (.rg [⟨some (.t 33), .build [.int .i64 0, .int .i64 0, .bool false, .nilsl, .nilsl] [], none⟩,
   ⟨none, .store 5 (.v 4) (.t 33), none⟩,
   ⟨some (.v 5), .mv (.c (.int .i64 30)), none⟩])
   (.ret))
   (.skip)))
   (.seq (.seq (.rg [⟨some (.t 34), .fad 0 (.v 2), none⟩,
   ⟨some (.t 35), .load false 1 (.t 34), none⟩,
   ⟨some (.v 36), .bin .eql (.t 35) (.c (.int .i64 4)), none⟩])
   (.cond (.v 36) (.seq (.rg [⟨some (.t 38), .fad 2 (.v 2), none⟩,
   ⟨some (.t 39), .load false 1 (.t 38), none⟩,
   ⟨some (.t 40), .call 20 [.t 39], none⟩,
   ⟨some (.t 37), .mv (.t 40), none⟩,
   ⟨some (.t 41), .ext 0 (.t 37), none⟩,
   ⟨some (.t 42), .ext 1 (.t 37), none⟩,
   ⟨some (.v 6), .alloc [.int .i64 0, .int .i64 0, .bool false, .nilsl, .nilsl], none⟩,
   ⟨none, .store 5 (.v 6) (.t 41), none⟩,
   ⟨some (.v 7), .mv (.t 42), none⟩])
   (.seq (.seq (.rg [⟨some (.t 43), .mv (.v 7), none⟩,
   ⟨some (.t 44), .bin .neq (.t 43) (.c (.int .i64 0)), none⟩,
   ⟨some (.t 45), .mv (.t 44), none⟩,
   ⟨some (.t 46), .load true 3 (.v 2), some (.t 45, false)⟩,
   ⟨some (.t 47), .mv (.v 1), some (.t 45, false)⟩,
   ⟨some (.t 48), .call 74 [.t 46, .t 47], some (.t 45, false)⟩,
   ⟨some (.t 49), .un .not (.t 48), some (.t 45, false)⟩,
   ⟨some (.v 50), .pick (.t 45) (.c (.bool true)) (.t 49), none⟩])
   (.cond (.v 50) (.seq (.rg [⟨some (.t 51), .build [.int .i64 0, .int .i64 0, .bool false, .nilsl, .nilsl] [], none⟩,
   ⟨none, .store 5 (.v 4) (.t 51), none⟩,
   ⟨some (.v 5), .mv (.c (.int .i64 31)), none⟩])
   (.ret))
   (.skip)))
   (.seq (.rg [⟨some (.t 52), .load true 5 (.v 6), none⟩,
   ⟨some (.t 53), .bslE 5 (.agg [.int .i64 0, .int .i64 0, .bool false, .nilsl, .nilsl]) 1 [(0, .t 52)], none⟩,
   ⟨some (.t 54), .build [.int .i64 0, .int .i64 0, .bool false, .nilsl, .nilsl] [(0, 1, .c (.int .i64 2)), (1, 1, .c (.int .i64 4)), (2, 1, .c (.bool true)), (4, 1, .t 53)], none⟩,
   ⟨none, .store 5 (.v 4) (.t 54), none⟩,
   ⟨some (.v 5), .mv (.c (.int .i64 0)), none⟩])
   (.ret))))
   (.skip)))
   (.seq (.seq (.rg [⟨some (.t 55), .load true 3 (.v 2), none⟩,
   ⟨some (.t 56), .mv (.v 1), none⟩,
   ⟨some (.t 57), .call 74 [.t 55, .t 56], none⟩,
   ⟨some (.v 58), .un .not (.t 57), none⟩])
   (.cond (.v 58) (.seq (.rg [⟨some (.t 59), .build [.int .i64 0, .int .i64 0, .bool false, .nilsl, .nilsl] [], none⟩,
   ⟨none, .store 5 (.v 4) (.t 59), none⟩,
   ⟨some (.v 5), .mv (.c (.int .i64 31)), none⟩])
   (.ret))
   (.skip)))
   (.seq (.rg [⟨some (.t 60), .fad 0 (.v 2), none⟩,
   ⟨some (.t 61), .load false 1 (.t 60), none⟩,
   ⟨some (.t 62), .fad 1 (.v 2), none⟩,
   ⟨some (.t 63), .load false 1 (.t 62), none⟩,
   ⟨some (.t 64), .s2b (.t 63), none⟩,
   ⟨some (.t 65), .build [.int .i64 0, .int .i64 0, .bool false, .nilsl, .nilsl] [(0, 1, .c (.int .i64 2)), (1, 1, .t 61), (3, 1, .t 64)], none⟩,
   ⟨none, .store 5 (.v 4) (.t 65), none⟩,
   ⟨some (.v 5), .mv (.c (.int .i64 0)), none⟩])
   (.ret)))))⟩
theorem m35o : okE Tryz.prog 35 m35 = some m35.body := by kernel_rfl

def m36 : MFunc := ⟨2, [.other, .other], [(4, none, .other)],
 .seq (.rg [⟨some (.v 4), .mv (.c (.bool false)), none⟩])
  (.seq (.rg [⟨some (.t 7), .mv (.v 0), none⟩,
   ⟨some (.t 8), .call 75 [.t 7, .c (.int .u8 64)], none⟩,
   ⟨some (.v 5), .mv (.t 8), none⟩])
   (.seq (.seq (.rg [⟨some (.t 9), .mv (.v 5), none⟩,
   ⟨some (.t 10), .bin .lss (.t 9) (.c (.int .i64 1)), none⟩,
   ⟨some (.t 11), .mv (.t 10), none⟩,
   ⟨some (.t 12), .mv (.v 0), some (.t 11, false)⟩,
   ⟨some (.t 13), .mv (.v 5), some (.t 11, false)⟩,
   ⟨some (.t 14), .bin .add (.t 13) (.c (.int .i64 1)), some (.t 11, false)⟩,
   ⟨some (.t 15), .slc true 1 (.t 12) (some (.t 14)) none, some (.t 11, false)⟩,
   ⟨some (.t 16), .call 37 [.t 15], some (.t 11, false)⟩,
   ⟨some (.t 17), .un .not (.t 16), some (.t 11, false)⟩,
   ⟨some (.v 18), .pick (.t 11) (.c (.bool true)) (.t 17), none⟩])
   (.cond (.v 18) (.seq (.rg [⟨some (.v 4), .mv (.c (.bool false)), none⟩])
   (.ret))
   (.skip)))
   (.seq (.rg [⟨some (.t 19), .mv (.v 1), none⟩,
   ⟨some (.t 20), .call 75 [.t 19, .c (.int .u8 64)], none⟩,
   ⟨some (.v 6), .mv (.t 20), none⟩])
   (.seq (.seq (.rg [⟨some (.t 21), .mv (.v 6), none⟩,
   ⟨some (.v 22), .bin .geq (.t 21) (.c (.int .i64 0)), none⟩])
   (.cond (.v 22) (.seq (.rgd [⟨some (.t 23), .mv (.v 1), none⟩,
   ⟨some (.t 24), .mv (.v 6), none⟩,
   ⟨some (.t 25), .slc true 1 (.t 23) none (some (.t 24)), none⟩,
   ⟨some (.t 26), .mv (.v 0), none⟩,
   ⟨some (.t 27), .mv (.v 5), none⟩,
   ⟨some (.t 28), .slc true 1 (.t 26) none (some (.t 27)), none⟩,
   ⟨some (.t 29), .bin .eql (.t 25) (.t 28), none⟩,
   ⟨some (.t 30), .mv (.t 29), none⟩,
   ⟨some (.t 31), .mv (.v 1), some (.t 30, true)⟩,
   ⟨some (.t 32), .mv (.v 6), some (.t 30, true)⟩,
   ⟨some (.t 33), .bin .add (.t 32) (.c (.int .i64 1)), some (.t 30, true)⟩,
   ⟨some (.t 34), .slc true 1 (.t 31) (some (.t 33)) none, some (.t 30, true)⟩,
   ⟨some (.t 35), .mv (.v 0), some (.t 30, true)⟩,
   ⟨some (.t 36), .mv (.v 5), some (.t 30, true)⟩,
   ⟨some (.t 37), .bin .add (.t 36) (.c (.int .i64 1)), some (.t 30, true)⟩,
   ⟨some (.t 38), .slc true 1 (.t 35) (some (.t 37)) none, some (.t 30, true)⟩,
   ⟨some (.t 39), .call 38 [.t 34, .t 38], some (.t 30, true)⟩,
   ⟨some (.t 40), .pick (.t 30) (.t 39) (.c (.bool false)), none⟩,
   ⟨some (.v 4), .mv (.t 40), none⟩]
   [[], [], [0, 1], [], [], [3, 4], [0, 1, 2, 3, 4, 5], [0, 1, 2, 3, 4, 5, 6], [0, 1, 2, 3, 4, 5, 6, 7], [0, 1, 2, 3, 4, 5, 6, 7], [0, 1, 2, 3, 4, 5, 6, 7, 9], [0, 1, 2, 3, 4, 5, 6, 7, 8, 9, 10], [0, 1, 2, 3, 4, 5, 6, 7], [0, 1, 2, 3, 4, 5, 6, 7], [0, 1, 2, 3, 4, 5, 6, 7, 13], [0, 1, 2, 3, 4, 5, 6, 7, 12, 13, 14], [0, 1, 2, 3, 4, 5, 6, 7, 8, 9, 10, 11, 12, 13, 14, 15], [0, 1, 2, 3, 4, 5, 6, 7, 8, 9, 10, 11, 12, 13, 14, 15, 16], [0, 1, 2, 3, 4, 5, 6, 7, 8, 9, 10, 11, 12, 13, 14, 15, 16, 17]])
   (.ret))
   (.skip)))
   (.seq (.rg [⟨some (.t 41), .mv (.v 0), none⟩,
   ⟨some (.t 42), .mv (.v 5), none⟩,
   ⟨some (.t 43), .bin .add (.t 42) (.c (.int .i64 1)), none⟩,
   ⟨some (.t 44), .slc true 1 (.t 41) (some (.t 43)) none, none⟩,
   ⟨some (.t 45), .mv (.v 1), none⟩,
   ⟨some (.t 46), .call 41 [.t 44, .t 45], none⟩,
   ⟨some (.v 4), .mv (.t 46), none⟩])
   (.ret))))))⟩
theorem m36o : okE Tryz.prog 36 m36 = some m36.body := by kernel_rfl

def m37k0 : List (Nat × KMode) := [(0, .plain), (3, .plain), (4, .plain)]
def m37b0 : MCode :=
 .seq (.seq (.rg [⟨some (.t 6), .mv (.v 4), none⟩,
   ⟨some (.t 7), .mv (.v 0), none⟩,
   ⟨some (.t 8), .len true (.t 7), none⟩,
   ⟨some (.v 9), .bin .leq (.t 6) (.t 8), none⟩])
   (.cond (.v 9) (.skip)
   (.exit 0)))
  (.seq (.block 1 (.seq (.seq (.rg [⟨some (.t 12), .mv (.v 4), none⟩,
   ⟨some (.t 13), .mv (.v 0), none⟩,
   ⟨some (.t 14), .len true (.t 13), none⟩,
   ⟨some (.t 15), .bin .eql (.t 12) (.t 14), none⟩,
   ⟨some (.t 16), .mv (.t 15), none⟩,
   ⟨some (.t 17), .mv (.v 0), some (.t 16, false)⟩,
   ⟨some (.t 18), .mv (.v 4), some (.t 16, false)⟩,
   ⟨some (.t 19), .idxS (.t 17) (.t 18), some (.t 16, false)⟩,
   ⟨some (.t 20), .bin .eql (.t 19) (.c (.int .u8 46)), some (.t 16, false)⟩,
   ⟨some (.v 21), .pick (.t 16) (.c (.bool true)) (.t 20), none⟩])
   (.cond (.v 21) (.seq (.seq (.rg [⟨some (.t 22), .mv (.v 3), none⟩,
   ⟨some (.t 23), .bin .lss (.t 22) (.c (.int .i64 1)), none⟩,
   ⟨some (.t 24), .mv (.t 23), none⟩,
   ⟨some (.t 25), .mv (.v 3), some (.t 24, false)⟩,
   ⟨some (.t 26), .bin .gtr (.t 25) (.c (.int .i64 63)), some (.t 24, false)⟩,
   ⟨some (.t 27), .pick (.t 24) (.c (.bool true)) (.t 26), none⟩,
   ⟨some (.t 28), .mv (.t 27), none⟩,
   ⟨some (.t 29), .mv (.v 0), some (.t 28, false)⟩,
   ⟨some (.t 30), .mv (.v 4), some (.t 28, false)⟩,
   ⟨some (.t 31), .bin .sub (.t 30) (.c (.int .i64 1)), some (.t 28, false)⟩,
   ⟨some (.t 32), .idxS (.t 29) (.t 31), some (.t 28, false)⟩,
   ⟨some (.t 33), .bin .eql (.t 32) (.c (.int .u8 45)), some (.t 28, false)⟩,
   ⟨some (.t 34), .pick (.t 28) (.c (.bool true)) (.t 33), none⟩,
   ⟨some (.t 35), .mv (.t 34), none⟩,
   ⟨some (.t 36), .mv (.v 0), some (.t 35, false)⟩,
   ⟨some (.t 37), .mv (.v 4), some (.t 35, false)⟩,
   ⟨some (.t 38), .mv (.v 3), some (.t 35, false)⟩,
   ⟨some (.t 39), .bin .sub (.t 37) (.t 38), some (.t 35, false)⟩,
   ⟨some (.t 40), .idxS (.t 36) (.t 39), some (.t 35, false)⟩,
   ⟨some (.t 41), .bin .eql (.t 40) (.c (.int .u8 45)), some (.t 35, false)⟩,
   ⟨some (.v 42), .pick (.t 35) (.c (.bool true)) (.t 41), none⟩])
   (.cond (.v 42) (.seq (.rg [⟨some (.v 2), .mv (.c (.bool false)), none⟩])
   (.ret))
   (.skip)))
   (.seq (.rg [⟨some (.v 3), .mv (.c (.int .i64 0)), none⟩])
   (.exit 1)))
   (.skip)))
   (.seq (.rg [⟨some (.t 43), .mv (.v 0), none⟩,
   ⟨some (.t 44), .mv (.v 4), none⟩,
   ⟨some (.t 45), .idxS (.t 43) (.t 44), none⟩,
   ⟨some (.t 46), .call 76 [.t 45], none⟩,
   ⟨some (.v 5), .mv (.t 46), none⟩])
   (.seq (.seq (.rg [⟨some (.t 47), .mv (.v 5), none⟩,
   ⟨some (.t 48), .bin .lss (.t 47) (.c (.int .u8 97)), none⟩,
   ⟨some (.t 49), .mv (.t 48), none⟩,
   ⟨some (.t 50), .mv (.v 5), some (.t 49, false)⟩,
   ⟨some (.t 51), .bin .gtr (.t 50) (.c (.int .u8 122)), some (.t 49, false)⟩,
   ⟨some (.t 52), .pick (.t 49) (.c (.bool true)) (.t 51), none⟩,
   ⟨some (.t 53), .mv (.t 52), none⟩,
   ⟨some (.t 54), .mv (.v 5), some (.t 53, true)⟩,
   ⟨some (.t 55), .bin .lss (.t 54) (.c (.int .u8 48)), some (.t 53, true)⟩,
   ⟨some (.t 56), .mv (.t 55), some (.t 53, true)⟩,
   ⟨some (.t 57), .mv (.v 5), some (.t 56, false)⟩,
   ⟨some (.t 58), .bin .gtr (.t 57) (.c (.int .u8 57)), some (.t 56, false)⟩,
   ⟨some (.t 59), .pick (.t 56) (.c (.bool true)) (.t 58), some (.t 53, true)⟩,
   ⟨some (.t 60), .pick (.t 53) (.t 59) (.c (.bool false)), none⟩,
   ⟨some (.t 61), .mv (.t 60), none⟩,
   ⟨some (.t 62), .mv (.v 5), some (.t 61, true)⟩,
   ⟨some (.t 63), .bin .neq (.t 62) (.c (.int .u8 45)), some (.t 61, true)⟩,
   ⟨some (.v 64), .pick (.t 61) (.t 63) (.c (.bool false)), none⟩])
   (.cond (.v 64) (.seq (.rg [⟨some (.v 2), .mv (.c (.bool false)), none⟩])
   (.ret))
   (.skip)))
   (.rg [⟨some (.t 65), .mv (.v 3), none⟩,
   ⟨some (.t 66), .bin .add (.t 65) (.c (.int .i64 1)), none⟩,
   ⟨some (.v 3), .mv (.t 66), none⟩])))))
   (.rg [⟨some (.t 10), .mv (.v 4), none⟩,
   ⟨some (.t 11), .bin .add (.t 10) (.c (.int .i64 1)), none⟩,
   ⟨some (.v 4), .mv (.t 11), none⟩]))
def m37 : MFunc := ⟨1, [.other], [(2, none, .other)],
 .seq (.rg [⟨some (.v 2), .mv (.c (.bool false)), none⟩])
  (.seq (.rg [⟨some (.v 3), .mv (.c (.int .i64 0)), none⟩])
   (.seq (.seq (.rg [⟨some (.v 4), .mv (.c (.int .i64 0)), none⟩])
   (.block 0 (.loop m37k0 m37b0)))
   (.seq (.rg [⟨some (.v 2), .mv (.c (.bool true)), none⟩])
   (.ret))))⟩
theorem m37o : okE Tryz.prog 37 m37 = some m37.body := by kernel_rfl

def m38k0 : List (Nat × KMode) := [(0, .plain), (1, .plain), (5, .plain)]
def m38b0 : MCode :=
 .seq (.seq (.rg [⟨some (.t 11), .mv (.v 5), none⟩,
   ⟨some (.t 12), .mv (.v 0), none⟩,
   ⟨some (.t 13), .len true (.t 12), none⟩,
   ⟨some (.v 14), .bin .lss (.t 11) (.t 13), none⟩])
   (.cond (.v 14) (.skip)
   (.exit 0)))
  (.seq (.block 1 (.seq (.rgd [⟨some (.t 17), .mv (.v 0), none⟩,
   ⟨some (.t 18), .mv (.v 5), none⟩,
   ⟨some (.t 19), .idxS (.t 17) (.t 18), none⟩,
   ⟨some (.t 20), .call 76 [.t 19], none⟩,
   ⟨some (.t 21), .mv (.v 1), none⟩,
   ⟨some (.t 22), .mv (.v 5), none⟩,
   ⟨some (.t 23), .idxS (.t 21) (.t 22), none⟩,
   ⟨some (.t 24), .call 76 [.t 23], none⟩,
   ⟨some (.v 25), .bin .neq (.t 20) (.t 24), none⟩]
   [[], [], [0, 1], [0, 1, 2], [], [], [4, 5], [0, 1, 2, 3, 4, 5, 6], [0, 1, 2, 3, 4, 5, 6, 7]])
   (.cond (.v 25) (.seq (.rg [⟨some (.v 4), .mv (.c (.bool false)), none⟩])
   (.ret))
   (.skip))))
   (.rg [⟨some (.t 15), .mv (.v 5), none⟩,
   ⟨some (.t 16), .bin .add (.t 15) (.c (.int .i64 1)), none⟩,
   ⟨some (.v 5), .mv (.t 16), none⟩]))
def m38 : MFunc := ⟨2, [.other, .other], [(4, none, .other)],
 .seq (.rg [⟨some (.v 4), .mv (.c (.bool false)), none⟩])
  (.seq (.seq (.rg [⟨some (.t 6), .mv (.v 0), none⟩,
   ⟨some (.t 7), .len true (.t 6), none⟩,
   ⟨some (.t 8), .mv (.v 1), none⟩,
   ⟨some (.t 9), .len true (.t 8), none⟩,
   ⟨some (.v 10), .bin .neq (.t 7) (.t 9), none⟩])
   (.cond (.v 10) (.seq (.rg [⟨some (.v 4), .mv (.c (.bool false)), none⟩])
   (.ret))
   (.skip)))
   (.seq (.seq (.rg [⟨some (.v 5), .mv (.c (.int .i64 0)), none⟩])
   (.block 0 (.loop m38k0 m38b0)))
   (.seq (.rg [⟨some (.v 4), .mv (.c (.bool true)), none⟩])
   (.ret))))⟩
theorem m38o : okE Tryz.prog 38 m38 = some m38.body := by kernel_rfl

def m39 : MFunc := ⟨2, [.other, .other], [(4, none, .other)],
 .seq (.rg [⟨some (.v 4), .mv (.c (.bool false)), none⟩])
  (.seq (.rg [⟨some (.t 5), .mv (.v 0), none⟩,
   ⟨some (.t 6), .len true (.t 5), none⟩,
   ⟨some (.t 7), .mv (.v 1), none⟩,
   ⟨some (.t 8), .len true (.t 7), none⟩,
   ⟨some (.t 9), .bin .gtr (.t 6) (.t 8), none⟩,
   ⟨some (.t 10), .mv (.t 9), none⟩,
   ⟨some (.t 11), .mv (.v 0), some (.t 10, true)⟩,
   ⟨some (.t 12), .mv (.v 0), some (.t 10, true)⟩,
   ⟨some (.t 13), .len true (.t 12), some (.t 10, true)⟩,
   ⟨some (.t 14), .mv (.v 1), some (.t 10, true)⟩,
   ⟨some (.t 15), .len true (.t 14), some (.t 10, true)⟩,
   ⟨some (.t 16), .bin .sub (.t 13) (.t 15), some (.t 10, true)⟩,
   ⟨some (.t 17), .slc true 1 (.t 11) (some (.t 16)) none, some (.t 10, true)⟩,
   ⟨some (.t 18), .mv (.v 1), some (.t 10, true)⟩,
   ⟨some (.t 19), .call 38 [.t 17, .t 18], some (.t 10, true)⟩,
   ⟨some (.t 20), .pick (.t 10) (.t 19) (.c (.bool false)), none⟩,
   ⟨some (.v 4), .mv (.t 20), none⟩])
   (.ret))⟩
theorem m39o : okE Tryz.prog 39 m39 = some m39.body := by kernel_rfl

def m40k1 : List (Nat × KMode) := [(0, .plain), (4, .plain), (5, .plain)]
def m40b1 : MCode :=
 .seq (.seq (.rg [⟨some (.t 21), .mv (.v 5), none⟩,
   ⟨some (.t 22), .mv (.v 0), none⟩,
   ⟨some (.t 23), .len true (.t 22), none⟩,
   ⟨some (.t 24), .bin .lss (.t 21) (.t 23), none⟩,
   ⟨some (.t 25), .mv (.t 24), none⟩,
   ⟨some (.t 26), .mv (.v 0), some (.t 25, true)⟩,
   ⟨some (.t 27), .mv (.v 5), some (.t 25, true)⟩,
   ⟨some (.t 28), .idxS (.t 26) (.t 27), some (.t 25, true)⟩,
   ⟨some (.t 29), .bin .neq (.t 28) (.c (.int .u8 47)), some (.t 25, true)⟩,
   ⟨some (.t 30), .pick (.t 25) (.t 29) (.c (.bool false)), none⟩,
   ⟨some (.t 31), .mv (.t 30), none⟩,
   ⟨some (.t 32), .mv (.v 0), some (.t 31, true)⟩,
   ⟨some (.t 33), .mv (.v 5), some (.t 31, true)⟩,
   ⟨some (.t 34), .idxS (.t 32) (.t 33), some (.t 31, true)⟩,
   ⟨some (.t 35), .bin .neq (.t 34) (.c (.int .u8 58)), some (.t 31, true)⟩,
   ⟨some (.t 36), .pick (.t 31) (.t 35) (.c (.bool false)), none⟩,
   ⟨some (.t 37), .mv (.t 36), none⟩,
   ⟨some (.t 38), .mv (.v 0), some (.t 37, true)⟩,
   ⟨some (.t 39), .mv (.v 5), some (.t 37, true)⟩,
   ⟨some (.t 40), .idxS (.t 38) (.t 39), some (.t 37, true)⟩,
   ⟨some (.t 41), .bin .neq (.t 40) (.c (.int .u8 63)), some (.t 37, true)⟩,
   ⟨some (.t 42), .pick (.t 37) (.t 41) (.c (.bool false)), none⟩,
   ⟨some (.t 43), .mv (.t 42), none⟩,
   ⟨some (.t 44), .mv (.v 0), some (.t 43, true)⟩,
   ⟨some (.t 45), .mv (.v 5), some (.t 43, true)⟩,
   ⟨some (.t 46), .idxS (.t 44) (.t 45), some (.t 43, true)⟩,
   ⟨some (.t 47), .bin .neq (.t 46) (.c (.int .u8 35)), some (.t 43, true)⟩,
   ⟨some (.v 48), .pick (.t 43) (.t 47) (.c (.bool false)), none⟩])
   (.cond (.v 48) (.skip)
   (.exit 2)))
  (.block 3 (.rg [⟨some (.t 49), .mv (.v 5), none⟩,
   ⟨some (.t 50), .bin .add (.t 49) (.c (.int .i64 1)), none⟩,
   ⟨some (.v 5), .mv (.t 50), none⟩]))
def m40k0 : List (Nat × KMode) := [(0, .plain), (4, .plain)]
def m40b0 : MCode :=
 .seq (.seq (.rg [⟨some (.t 6), .mv (.v 4), none⟩,
   ⟨some (.t 7), .bin .add (.t 6) (.c (.int .i64 3)), none⟩,
   ⟨some (.t 8), .mv (.v 0), none⟩,
   ⟨some (.t 9), .len true (.t 8), none⟩,
   ⟨some (.v 10), .bin .leq (.t 7) (.t 9), none⟩])
   (.cond (.v 10) (.skip)
   (.exit 0)))
  (.seq (.block 1 (.seq (.seq (.rg [⟨some (.t 13), .mv (.v 0), none⟩,
   ⟨some (.t 14), .mv (.v 4), none⟩,
   ⟨some (.t 15), .mv (.v 4), none⟩,
   ⟨some (.t 16), .bin .add (.t 15) (.c (.int .i64 3)), none⟩,
   ⟨some (.t 17), .slc true 1 (.t 13) (some (.t 14)) (some (.t 16)), none⟩,
   ⟨some (.v 18), .bin .neq (.t 17) (.c (.str [58, 47, 47])), none⟩])
   (.cond (.v 18) (.exit 1)
   (.skip)))
   (.seq (.rg [⟨some (.t 19), .mv (.v 4), none⟩,
   ⟨some (.t 20), .bin .add (.t 19) (.c (.int .i64 3)), none⟩,
   ⟨some (.v 5), .mv (.t 20), none⟩])
   (.seq (.block 2 (.loop m40k1 m40b1))
   (.seq (.rg [⟨some (.t 51), .mv (.v 0), none⟩,
   ⟨some (.t 52), .mv (.v 4), none⟩,
   ⟨some (.t 53), .bin .add (.t 52) (.c (.int .i64 3)), none⟩,
   ⟨some (.t 54), .mv (.v 5), none⟩,
   ⟨some (.t 55), .slc true 1 (.t 51) (some (.t 53)) (some (.t 54)), none⟩,
   ⟨some (.v 2), .mv (.t 55), none⟩,
   ⟨some (.v 3), .mv (.c (.bool true)), none⟩])
   (.ret))))))
   (.rg [⟨some (.t 11), .mv (.v 4), none⟩,
   ⟨some (.t 12), .bin .add (.t 11) (.c (.int .i64 1)), none⟩,
   ⟨some (.v 4), .mv (.t 12), none⟩]))
def m40 : MFunc := ⟨1, [.other], [(2, none, .other), (3, none, .other)],
 .seq (.rg [⟨some (.v 2), .mv (.c (.str [])), none⟩,
   ⟨some (.v 3), .mv (.c (.bool false)), none⟩])
  (.seq (.seq (.rg [⟨some (.v 4), .mv (.c (.int .i64 0)), none⟩])
   (.block 0 (.loop m40k0 m40b0)))
   (.seq (.rg [⟨some (.v 2), .mv (.c (.str [])), none⟩,
   ⟨some (.v 3), .mv (.c (.bool false)), none⟩])
   (.ret)))⟩
theorem m40o : okE Tryz.prog 40 m40 = some m40.body := by kernel_rfl

def m41 : MFunc := ⟨2, [.other, .other], [(4, none, .other)],
 .seq (.rg [⟨some (.v 4), .mv (.c (.bool false)), none⟩])
  (.seq (.seq (.rg [⟨some (.t 5), .mv (.v 0), none⟩,
   ⟨some (.t 6), .call 37 [.t 5], none⟩,
   ⟨some (.t 7), .un .not (.t 6), none⟩,
   ⟨some (.t 8), .mv (.t 7), none⟩,
   ⟨some (.t 9), .mv (.v 1), some (.t 8, false)⟩,
   ⟨some (.t 10), .bin .eql (.t 9) (.c (.str [])), some (.t 8, false)⟩,
   ⟨some (.v 11), .pick (.t 8) (.c (.bool true)) (.t 10), none⟩])
   (.cond (.v 11) (.seq (.rg [⟨some (.t 12), .mv (.v 0), none⟩,
   ⟨some (.t 13), .call 37 [.t 12], none⟩,
   ⟨some (.v 4), .mv (.t 13), none⟩])
   (.ret))
   (.skip)))
   (.seq (.seq (.rg [⟨some (.t 14), .mv (.v 1), none⟩,
   ⟨some (.t 15), .idxS (.t 14) (.c (.int .i64 0)), none⟩,
   ⟨some (.v 16), .bin .eql (.t 15) (.c (.int .u8 46)), none⟩])
   (.cond (.v 16) (.seq (.rg [⟨some (.t 17), .mv (.v 0), none⟩,
   ⟨some (.t 18), .mv (.v 1), none⟩,
   ⟨some (.t 19), .call 39 [.t 17, .t 18], none⟩,
   ⟨some (.v 4), .mv (.t 19), none⟩])
   (.ret))
   (.skip)))
   (.seq (.rg [⟨some (.t 20), .mv (.v 0), none⟩,
   ⟨some (.t 21), .mv (.v 1), none⟩,
   ⟨some (.t 22), .call 38 [.t 20, .t 21], none⟩,
   ⟨some (.v 4), .mv (.t 22), none⟩])
   (.ret))))⟩
theorem m41o : okE Tryz.prog 41 m41 = some m41.body := by kernel_rfl

def m42 : MFunc := ⟨1, [.other], [(2, none, .other)],
 .seq (.rg [⟨some (.v 2), .mv (.c (.bool false)), none⟩])
  (.seq (.rg [⟨some (.t 3), .mv (.v 0), none⟩,
   ⟨some (.t 4), .bin .eql (.t 3) (.c (.int .i64 1)), none⟩,
   ⟨some (.t 5), .mv (.t 4), none⟩,
   ⟨some (.t 6), .mv (.v 0), some (.t 5, false)⟩,
   ⟨some (.t 7), .bin .eql (.t 6) (.c (.int .i64 2)), some (.t 5, false)⟩,
   ⟨some (.t 8), .pick (.t 5) (.c (.bool true)) (.t 7), none⟩,
   ⟨some (.t 9), .mv (.t 8), none⟩,
   ⟨some (.t 10), .mv (.v 0), some (.t 9, false)⟩,
   ⟨some (.t 11), .bin .eql (.t 10) (.c (.int .i64 4)), some (.t 9, false)⟩,
   ⟨some (.t 12), .pick (.t 9) (.c (.bool true)) (.t 11), none⟩,
   ⟨some (.t 13), .mv (.t 12), none⟩,
   ⟨some (.t 14), .mv (.v 0), some (.t 13, false)⟩,
   ⟨some (.t 15), .bin .eql (.t 14) (.c (.int .i64 6)), some (.t 13, false)⟩,
   ⟨some (.t 16), .pick (.t 13) (.c (.bool true)) (.t 15), none⟩,
   ⟨some (.t 17), .mv (.t 16), none⟩,
   ⟨some (.t 18), .mv (.v 0), some (.t 17, false)⟩,
   ⟨some (.t 19), .bin .eql (.t 18) (.c (.int .i64 7)), some (.t 17, false)⟩,
   ⟨some (.t 20), .pick (.t 17) (.c (.bool true)) (.t 19), none⟩,
   ⟨some (.v 2), .mv (.t 20), none⟩])
   (.ret))⟩
theorem m42o : okE Tryz.prog 42 m42 = some m42.body := by kernel_rfl

def m43 : MFunc := ⟨2, [.other, .other], [(4, none, .other)],
 .seq (.rg [⟨some (.v 2), .box (.v 0), none⟩,
   ⟨some (.v 4), .mv (.c (.bool false)), none⟩])
  (.seq (.rg [⟨some (.t 6), .fad 1 (.v 2), none⟩,
   ⟨some (.t 7), .load false 1 (.t 6), none⟩,
   ⟨some (.t 8), .len true (.t 7), none⟩,
   ⟨some (.v 5), .mv (.t 8), none⟩])
   (.seq (.block 0 (.seq (.rg [⟨some (.t 10), .fad 0 (.v 2), none⟩,
   ⟨some (.t 11), .load false 1 (.t 10), none⟩,
   ⟨some (.t 12), .bin .eql (.t 11) (.c (.int .i64 4)), none⟩,
   ⟨some (.v 9), .mv (.t 12), none⟩])
   (.cond (.v 9) (.seq (.rg [⟨some (.t 13), .mv (.v 1), none⟩,
   ⟨some (.t 14), .mv (.t 13), none⟩,
   ⟨some (.t 15), .fad 2 (.v 2), some (.t 14, false)⟩,
   ⟨some (.t 16), .load false 1 (.t 15), some (.t 14, false)⟩,
   ⟨some (.t 17), .len false (.t 16), some (.t 14, false)⟩,
   ⟨some (.t 18), .bin .gtr (.t 17) (.c (.int .i64 0)), some (.t 14, false)⟩,
   ⟨some (.t 19), .pick (.t 14) (.c (.bool true)) (.t 18), none⟩,
   ⟨some (.v 4), .mv (.t 19), none⟩])
   (.ret))
   (.seq (.rg [⟨some (.t 21), .fad 0 (.v 2), none⟩,
   ⟨some (.t 22), .load false 1 (.t 21), none⟩,
   ⟨some (.t 23), .bin .eql (.t 22) (.c (.int .i64 7)), none⟩,
   ⟨some (.t 24), .mv (.t 23), none⟩,
   ⟨some (.t 25), .mv (.v 1), some (.t 24, true)⟩,
   ⟨some (.t 26), .pick (.t 24) (.t 25) (.c (.bool false)), none⟩,
   ⟨some (.v 20), .mv (.t 26), none⟩])
   (.cond (.v 20) (.seq (.rg [⟨some (.t 27), .mv (.v 5), none⟩,
   ⟨some (.t 28), .bin .eql (.t 27) (.c (.int .i64 8)), none⟩,
   ⟨some (.t 29), .mv (.t 28), none⟩,
   ⟨some (.t 30), .mv (.v 5), some (.t 29, false)⟩,
   ⟨some (.t 31), .bin .eql (.t 30) (.c (.int .i64 32)), some (.t 29, false)⟩,
   ⟨some (.t 32), .pick (.t 29) (.c (.bool true)) (.t 31), none⟩,
   ⟨some (.t 33), .mv (.t 32), none⟩,
   ⟨some (.t 34), .fad 1 (.v 2), some (.t 33, true)⟩,
   ⟨some (.t 35), .load false 1 (.t 34), some (.t 33, true)⟩,
   ⟨some (.t 36), .mv (.v 5), some (.t 33, true)⟩,
   ⟨some (.t 37), .bin .quo (.t 36) (.c (.int .i64 2)), some (.t 33, true)⟩,
   ⟨some (.t 38), .slc true 1 (.t 35) (some (.t 37)) none, some (.t 33, true)⟩,
   ⟨some (.t 39), .call 77 [.t 38], some (.t 33, true)⟩,
   ⟨some (.t 40), .pick (.t 33) (.t 39) (.c (.bool false)), none⟩,
   ⟨some (.v 4), .mv (.t 40), none⟩])
   (.ret))
   (.seq (.rg [⟨some (.t 42), .fad 0 (.v 2), none⟩,
   ⟨some (.t 43), .load false 1 (.t 42), none⟩,
   ⟨some (.t 44), .bin .eql (.t 43) (.c (.int .i64 7)), none⟩,
   ⟨some (.v 41), .mv (.t 44), none⟩])
   (.cond (.v 41) (.seq (.rg [⟨some (.t 45), .mv (.v 5), none⟩,
   ⟨some (.t 46), .bin .eql (.t 45) (.c (.int .i64 4)), none⟩,
   ⟨some (.t 47), .mv (.t 46), none⟩,
   ⟨some (.t 48), .mv (.v 5), some (.t 47, false)⟩,
   ⟨some (.t 49), .bin .eql (.t 48) (.c (.int .i64 16)), some (.t 47, false)⟩,
   ⟨some (.t 50), .pick (.t 47) (.c (.bool true)) (.t 49), none⟩,
   ⟨some (.v 4), .mv (.t 50), none⟩])
   (.ret))
   (.skip))))))))
   (.seq (.rg [⟨some (.t 51), .mv (.v 5), none⟩,
   ⟨some (.t 52), .bin .gtr (.t 51) (.c (.int .i64 0)), none⟩,
   ⟨some (.t 53), .mv (.t 52), none⟩,
   ⟨some (.t 54), .mv (.v 1), some (.t 53, false)⟩,
   ⟨some (.t 55), .pick (.t 53) (.c (.bool true)) (.t 54), none⟩,
   ⟨some (.t 56), .mv (.t 55), none⟩,
   ⟨some (.t 57), .mv (.v 5), some (.t 56, true)⟩,
   ⟨some (.t 58), .bin .leq (.t 57) (.c (.int .i64 64)), some (.t 56, true)⟩,
   ⟨some (.t 59), .pick (.t 56) (.t 58) (.c (.bool false)), none⟩,
   ⟨some (.t 60), .mv (.t 59), none⟩,
   ⟨some (.t 61), .fad 1 (.v 2), some (.t 60, true)⟩,
   ⟨some (.t 62), .load false 1 (.t 61), some (.t 60, true)⟩,
   ⟨some (.t 63), .call 65 [.t 62, .c (.fn 78 [])], some (.t 60, true)⟩,
   ⟨some (.t 64), .un .not (.t 63), some (.t 60, true)⟩,
   ⟨some (.t 65), .pick (.t 60) (.t 64) (.c (.bool false)), none⟩,
   ⟨some (.v 4), .mv (.t 65), none⟩])
   (.ret))))⟩
theorem m43o : okE Tryz.prog 43 m43 = some m43.body := by kernel_rfl

def m44 : MFunc := ⟨1, [.other], [(2, none, .byt), (3, none, .other)],
 .seq (.rg [⟨some (.v 1), .box (.v 0), none⟩,
   ⟨some (.v 2), .mv (.c (.nilsl)), none⟩,
   ⟨some (.v 3), .mv (.c (.int .i64 0)), none⟩])
  (.seq (.rg [⟨some (.t 7), .load true 5 (.v 1), none⟩,
   ⟨some (.t 8), .call 79 [.t 7, .c (.int .i64 0)], none⟩,
   ⟨some (.t 6), .mv (.t 8), none⟩,
   ⟨some (.t 9), .ext 0 (.t 6), none⟩,
   ⟨some (.t 10), .ext 1 (.t 6), none⟩,
   ⟨some (.v 4), .mv (.t 9), none⟩,
   ⟨some (.v 5), .mv (.t 10), none⟩])
   (.seq (.block 0 (.seq (.rg [⟨some (.t 12), .mv (.v 5), none⟩,
   ⟨some (.t 13), .bin .neq (.t 12) (.c (.int .i64 0)), none⟩,
   ⟨some (.v 11), .mv (.t 13), none⟩])
   (.cond (.v 11) (.seq (.rg [⟨some (.t 14), .mv (.v 5), none⟩,
   ⟨some (.v 2), .mv (.c (.nilsl)), none⟩,
   ⟨some (.v 3), .mv (.t 14), none⟩])
   (.ret))
   (.seq (.rg [⟨some (.t 16), .mv (.v 4), none⟩,
   ⟨some (.t 17), .len false (.t 16), none⟩,
   ⟨some (.t 18), .bin .gtr (.t 17) (.c (.int .i64 65536)), none⟩,
   ⟨some (.v 15), .mv (.t 18), none⟩])
   (.cond (.v 15) (.seq (.rg [⟨some (.v 2), .mv (.c (.nilsl)), none⟩,
   ⟨some (.v 3), .mv (.c (.int .i64 54)), none⟩])
   (.ret))
   (.skip))))))
   (.seq (.rg [⟨some (.t 19), .mv (.v 4), none⟩,
   ⟨some (.v 2), .mv (.t 19), none⟩,
   ⟨some (.v 3), .mv (.c (.int .i64 0)), none⟩])
   (.ret))))⟩
theorem m44o : okE Tryz.prog 44 m44 = some m44.body := by kernel_rfl

def m46 : MFunc := ⟨1, [.other], [(2, none, .other)],
 .seq (.rg [⟨some (.v 2), .mv (.c (.bool false)), none⟩])
  (.seq (.rg [⟨some (.t 3), .mv (.v 0), none⟩,
   ⟨some (.t 4), .len true (.t 3), none⟩,
   ⟨some (.t 5), .bin .geq (.t 4) (.c (.int .i64 1)), none⟩,
   ⟨some (.t 6), .mv (.t 5), none⟩,
   ⟨some (.t 7), .mv (.v 0), some (.t 6, true)⟩,
   ⟨some (.t 8), .len true (.t 7), some (.t 6, true)⟩,
   ⟨some (.t 9), .bin .leq (.t 8) (.c (.int .i64 64)), some (.t 6, true)⟩,
   ⟨some (.t 10), .pick (.t 6) (.t 9) (.c (.bool false)), none⟩,
   ⟨some (.t 11), .mv (.t 10), none⟩,
   ⟨some (.t 12), .mv (.v 0), some (.t 11, true)⟩,
   ⟨some (.t 13), .call 80 [.t 12], some (.t 11, true)⟩,
   ⟨some (.t 14), .pick (.t 11) (.t 13) (.c (.bool false)), none⟩,
   ⟨some (.v 2), .mv (.t 14), none⟩])
   (.ret))⟩
theorem m46o : okE Tryz.prog 46 m46 = some m46.body := by kernel_rfl

def m47k0 : List (Nat × KMode) := [(0, .plain), (5, .plain), (6, .plain)]
def m47b0 : MCode :=
 .seq (.rg [⟨some (.v 7), .bin .lss (.v 6) (.v 5), none⟩])
  (.seq (.cond (.v 7) (.skip)
   (.exit 0))
   (.seq (.block 1 (.seq (.rg [⟨some (.t 8), .mv (.v 6), none⟩,
   ⟨some (.v 3), .mv (.t 8), none⟩])
   (.seq (.rg [⟨some (.t 9), .mv (.v 0), none⟩,
   ⟨some (.t 10), .mv (.v 3), none⟩,
   ⟨some (.t 11), .idxS (.t 9) (.t 10), none⟩,
   ⟨some (.t 12), .call 81 [.t 11], none⟩,
   ⟨some (.v 13), .un .not (.t 12), none⟩])
   (.cond (.v 13) (.seq (.rg [⟨some (.v 2), .mv (.c (.int .i64 12)), none⟩])
   (.ret))
   (.skip)))))
   (.rg [⟨some (.t 14), .bin .add (.v 6) (.c (.int .i64 1)), none⟩,
   ⟨some (.v 6), .mv (.t 14), none⟩])))
def m47 : MFunc := ⟨1, [.other], [(2, none, .other)],
 .seq (.rg [⟨some (.v 2), .mv (.c (.int .i64 0)), none⟩])
  (.seq (.seq (.rg [⟨some (.t 4), .mv (.v 0), none⟩,
   ⟨some (.v 5), .len true (.t 4), none⟩,
   ⟨some (.v 6), .mv (.c (.int .i64 0)), none⟩])
   (.block 0 (.loop m47k0 m47b0)))
   (.seq (.rg [⟨some (.v 2), .mv (.c (.int .i64 19)), none⟩])
   (.ret)))⟩
theorem m47o : okE Tryz.prog 47 m47 = some m47.body := by kernel_rfl

def m51 : MFunc := ⟨1, [.other], [(2, none, .other)],
 .seq (.rg [⟨some (.v 2), .mv (.c (.bool false)), none⟩])
  (.seq (.rg [⟨some (.t 3), .mv (.v 0), none⟩,
   ⟨some (.t 4), .len true (.t 3), none⟩,
   ⟨some (.t 5), .bin .geq (.t 4) (.c (.int .i64 1)), none⟩,
   ⟨some (.t 6), .mv (.t 5), none⟩,
   ⟨some (.t 7), .mv (.v 0), some (.t 6, true)⟩,
   ⟨some (.t 8), .len true (.t 7), some (.t 6, true)⟩,
   ⟨some (.t 9), .bin .leq (.t 8) (.c (.int .i64 64)), some (.t 6, true)⟩,
   ⟨some (.t 10), .pick (.t 6) (.t 9) (.c (.bool false)), none⟩,
   ⟨some (.t 11), .mv (.t 10), none⟩,
   ⟨some (.t 12), .mv (.v 0), some (.t 11, true)⟩,
   ⟨some (.t 13), .s2b (.t 12), some (.t 11, true)⟩,
   ⟨some (.t 14), .call 84 [.t 13], some (.t 11, true)⟩,
   ⟨some (.t 15), .pick (.t 11) (.t 14) (.c (.bool false)), none⟩,
   ⟨some (.v 2), .mv (.t 15), none⟩])
   (.ret))⟩
theorem m51o : okE Tryz.prog 51 m51 = some m51.body := by kernel_rfl

def m52k0 : List (Nat × KMode) := [(0, .plain), (3, .plain)]
def m52b0 : MCode :=
 .seq (.seq (.rg [⟨some (.t 4), .mv (.v 3), none⟩,
   ⟨some (.t 5), .mv (.v 0), none⟩,
   ⟨some (.t 6), .len true (.t 5), none⟩,
   ⟨some (.v 7), .bin .lss (.t 4) (.t 6), none⟩])
   (.cond (.v 7) (.skip)
   (.exit 0)))
  (.seq (.block 1 (.seq (.rg [⟨some (.t 10), .mv (.v 0), none⟩,
   ⟨some (.t 11), .mv (.v 3), none⟩,
   ⟨some (.t 12), .idxS (.t 10) (.t 11), none⟩,
   ⟨some (.t 13), .call 85 [.t 12], none⟩,
   ⟨some (.v 14), .un .not (.t 13), none⟩])
   (.cond (.v 14) (.seq (.rg [⟨some (.v 2), .mv (.c (.int .i64 12)), none⟩])
   (.ret))
   (.skip))))
   (.rg [⟨some (.t 8), .mv (.v 3), none⟩,
   ⟨some (.t 9), .bin .add (.t 8) (.c (.int .i64 1)), none⟩,
   ⟨some (.v 3), .mv (.t 9), none⟩]))
def m52 : MFunc := ⟨1, [.other], [(2, none, .other)],
 .seq (.rg [⟨some (.v 2), .mv (.c (.int .i64 0)), none⟩])
  (.seq (.seq (.rg [⟨some (.v 3), .mv (.c (.int .i64 0)), none⟩])
   (.block 0 (.loop m52k0 m52b0)))
   (.seq (.rg [⟨some (.v 2), .mv (.c (.int .i64 19)), none⟩])
   (.ret)))⟩
theorem m52o : okE Tryz.prog 52 m52 = some m52.body := by kernel_rfl

def m53k0 : List (Nat × KMode) := [(2, .plain), (5, (.ownE 1)), (26, .plain), (27, .plain), (28, .plain)]
def m53b0 : MCode :=
 .seq (.rg [⟨some (.v 29), .bin .lss (.v 28) (.v 27), none⟩])
  (.seq (.cond (.v 29) (.skip)
   (.exit 0))
   (.seq (.block 1 (.seq (.rg [⟨some (.t 30), .iad 1 (.v 26) (.v 28), none⟩,
   ⟨some (.t 31), .load false 1 (.t 30), none⟩,
   ⟨some (.v 7), .mv (.t 31), none⟩])
   (.seq (.rg [⟨some (.t 33), .mv (.v 7), none⟩,
   ⟨some (.t 34), .call 63 [.t 33], none⟩,
   ⟨some (.t 32), .mv (.t 34), none⟩,
   ⟨some (.t 35), .ext 0 (.t 32), none⟩,
   ⟨some (.t 36), .ext 1 (.t 32), none⟩,
   ⟨some (.v 8), .mv (.t 35), none⟩,
   ⟨some (.v 9), .mv (.t 36), none⟩])
   (.seq (.seq (.rg [⟨some (.t 37), .mv (.v 9), none⟩,
   ⟨some (.t 38), .eqs .iface true (.t 37) (.c (.nilif)), none⟩,
   ⟨some (.t 39), .mv (.t 38), none⟩,
   ⟨some (.t 40), .mv (.v 8), some (.t 39, false)⟩,
   ⟨some (.t 41), .bin .lss (.t 40) (.c (.int .i64 0)), some (.t 39, false)⟩,
   ⟨some (.t 42), .pick (.t 39) (.c (.bool true)) (.t 41), none⟩,
   ⟨some (.t 43), .mv (.t 42), none⟩,
   ⟨some (.t 44), .mv (.v 8), some (.t 43, false)⟩,
   ⟨some (.t 45), .bin .geq (.t 44) (.c (.int .i64 1099511627776)), some (.t 43, false)⟩,
   ⟨some (.t 46), .pick (.t 43) (.c (.bool true)) (.t 45), none⟩,
   ⟨some (.t 47), .mv (.t 46), none⟩,
   ⟨some (.t 48), .mv (.v 8), some (.t 47, false)⟩,
   ⟨some (.t 49), .call 61 [.t 48], some (.t 47, false)⟩,
   ⟨some (.t 50), .mv (.v 7), some (.t 47, false)⟩,
   ⟨some (.t 51), .bin .neq (.t 49) (.t 50), some (.t 47, false)⟩,
   ⟨some (.v 52), .pick (.t 47) (.c (.bool true)) (.t 51), none⟩])
   (.cond (.v 52) (.seq (.rg [⟨some (.t 53), .build [.int .i64 0, .int .i64 0, .bool false, .nilsl, .nilsl] [], none⟩,
   ⟨none, .store 5 (.v 2) (.t 53), none⟩,
   ⟨some (.v 3), .mv (.c (.bool false)), none⟩])
   (.ret))
   (.skip)))
   (.rg [⟨some (.t 54), .mv (.v 5), none⟩,
   ⟨some (.t 55), .mv (.v 8), none⟩,
   ⟨some (.t 56), .bslE 1 (.int .i64 0) 1 [(0, .t 55)], none⟩,
   ⟨some (.t 57), .app false 1 8 (.t 54) (.t 56), none⟩,
   ⟨some (.v 5), .mv (.t 57), none⟩])))))
   (.rg [⟨some (.t 58), .bin .add (.v 28) (.c (.int .i64 1)), none⟩,
   ⟨some (.v 28), .mv (.t 58), none⟩])))
def m53k2 : List (Nat × KMode) := [(2, .plain), (10, .ownB), (12, .plain), (13, .plain), (99, .plain), (100, .plain), (101, .plain)]
def m53b2 : MCode :=
 .seq (.seq (.rg [⟨some (.t 105), .mv (.v 13), none⟩,
   ⟨some (.v 106), .bin .geq (.t 105) (.c (.int .i64 0)), none⟩])
   (.cond (.v 106) (.skip)
   (.exit 4)))
  (.seq (.block 5 (.seq (.rg [⟨some (.t 109), .mv (.v 12), none⟩,
   ⟨some (.t 110), .mv (.v 13), none⟩,
   ⟨some (.t 111), .bin .shr (.t 109) (.t 110), none⟩,
   ⟨some (.t 112), .bin .and (.t 111) (.c (.int .i64 127)), none⟩,
   ⟨some (.t 113), .conv .u8 (.t 112), none⟩,
   ⟨some (.v 14), .mv (.t 113), none⟩])
   (.seq (.rg [⟨some (.t 114), .mv (.v 13), none⟩,
   ⟨some (.v 115), .bin .eql (.t 114) (.c (.int .i64 0)), none⟩])
   (.cond (.v 115) (.rg [⟨some (.t 116), .mv (.v 10), none⟩,
   ⟨some (.t 117), .mv (.v 14), none⟩,
   ⟨some (.t 118), .bslB 1 [(0, .t 117)], none⟩,
   ⟨some (.t 119), .app true 1 1 (.t 116) (.t 118), none⟩,
   ⟨some (.v 10), .mv (.t 119), none⟩])
   (.seq (.rg [⟨some (.t 120), .mv (.v 12), none⟩,
   ⟨some (.t 121), .mv (.v 13), none⟩,
   ⟨some (.t 122), .bin .shr (.t 120) (.t 121), none⟩,
   ⟨some (.v 123), .bin .gtr (.t 122) (.c (.int .i64 0)), none⟩])
   (.cond (.v 123) (.rg [⟨some (.t 124), .mv (.v 10), none⟩,
   ⟨some (.t 125), .mv (.v 14), none⟩,
   ⟨some (.t 126), .bin .or (.t 125) (.c (.int .u8 128)), none⟩,
   ⟨some (.t 127), .bslB 1 [(0, .t 126)], none⟩,
   ⟨some (.t 128), .app true 1 1 (.t 124) (.t 127), none⟩,
   ⟨some (.v 10), .mv (.t 128), none⟩])
   (.skip)))))))
   (.rg [⟨some (.t 107), .mv (.v 13), none⟩,
   ⟨some (.t 108), .bin .sub (.t 107) (.c (.int .i64 7)), none⟩,
   ⟨some (.v 13), .mv (.t 108), none⟩]))
def m53k1 : List (Nat × KMode) := [(2, .plain), (10, .ownB), (99, .plain), (100, .plain), (101, .plain)]
def m53b1 : MCode :=
 .seq (.rg [⟨some (.v 102), .bin .lss (.v 101) (.v 100), none⟩])
  (.seq (.cond (.v 102) (.skip)
   (.exit 2))
   (.seq (.block 3 (.seq (.rg [⟨some (.t 103), .iad 1 (.v 99) (.v 101), none⟩,
   ⟨some (.t 104), .load false 1 (.t 103), none⟩,
   ⟨some (.v 12), .mv (.t 104), none⟩])
   (.seq (.rg [⟨some (.v 13), .mv (.c (.int .i64 35)), none⟩])
   (.block 4 (.loop m53k2 m53b2)))))
   (.rg [⟨some (.t 129), .bin .add (.v 101) (.c (.int .i64 1)), none⟩,
   ⟨some (.v 101), .mv (.t 129), none⟩])))
def m53 : MFunc := ⟨1, [.other], [(2, some (true, 5), .other), (3, none, .other)],
 .seq (.rg [⟨some (.v 2), .alloc [.int .i64 0, .int .i64 0, .bool false, .nilsl, .nilsl], none⟩,
   ⟨some (.v 3), .mv (.c (.bool false)), none⟩])
  (.seq (.rg [⟨some (.t 15), .mv (.v 0), none⟩,
   ⟨some (.t 16), .call 64 [.t 15, .c (.str [46])], none⟩,
   ⟨some (.v 4), .mv (.t 16), none⟩])
   (.seq (.seq (.rg [⟨some (.t 17), .mv (.v 4), none⟩,
   ⟨some (.t 18), .len false (.t 17), none⟩,
   ⟨some (.t 19), .bin .lss (.t 18) (.c (.int .i64 2)), none⟩,
   ⟨some (.t 20), .mv (.t 19), none⟩,
   ⟨some (.t 21), .mv (.v 4), some (.t 20, false)⟩,
   ⟨some (.t 22), .len false (.t 21), some (.t 20, false)⟩,
   ⟨some (.t 23), .bin .gtr (.t 22) (.c (.int .i64 20)), some (.t 20, false)⟩,
   ⟨some (.v 24), .pick (.t 20) (.c (.bool true)) (.t 23), none⟩])
   (.cond (.v 24) (.seq (.rg [⟨some (.t 25), .build [.int .i64 0, .int .i64 0, .bool false, .nilsl, .nilsl] [], none⟩,
   ⟨none, .store 5 (.v 2) (.t 25), none⟩,
   ⟨some (.v 3), .mv (.c (.bool false)), none⟩])
   (.ret))
   (.skip)))
   (.seq (.rg [⟨some (.v 5), .mv (.c (.nilsl)), none⟩])
   (.seq (.seq (.rg [⟨some (.v 26), .mv (.v 4), none⟩,
   ⟨some (.v 27), .len false (.v 26), none⟩,
   ⟨some (.v 28), .mv (.c (.int .i64 0)), none⟩])
   (.block 0 (.loop m53k0 m53b0)))
   (.seq (.seq (.rg [⟨some (.t 59), .mv (.v 5), none⟩,
   ⟨some (.t 60), .iad 1 (.t 59) (.c (.int .i64 0)), none⟩,
   ⟨some (.t 61), .load false 1 (.t 60), none⟩,
   ⟨some (.t 62), .bin .gtr (.t 61) (.c (.int .i64 2)), none⟩,
   ⟨some (.t 63), .mv (.t 62), none⟩,
   ⟨some (.t 64), .mv (.v 5), some (.t 63, false)⟩,
   ⟨some (.t 65), .iad 1 (.t 64) (.c (.int .i64 0)), some (.t 63, false)⟩,
   ⟨some (.t 66), .load false 1 (.t 65), some (.t 63, false)⟩,
   ⟨some (.t 67), .bin .lss (.t 66) (.c (.int .i64 2)), some (.t 63, false)⟩,
   ⟨some (.t 68), .mv (.t 67), some (.t 63, false)⟩,
   ⟨some (.t 69), .mv (.v 5), some (.t 68, true)⟩,
   ⟨some (.t 70), .iad 1 (.t 69) (.c (.int .i64 1)), some (.t 68, true)⟩,
   ⟨some (.t 71), .load false 1 (.t 70), some (.t 68, true)⟩,
   ⟨some (.t 72), .bin .gtr (.t 71) (.c (.int .i64 39)), some (.t 68, true)⟩,
   ⟨some (.t 73), .pick (.t 68) (.t 72) (.c (.bool false)), some (.t 63, false)⟩,
   ⟨some (.t 74), .pick (.t 63) (.c (.bool true)) (.t 73), none⟩,
   ⟨some (.t 75), .mv (.t 74), none⟩,
   ⟨some (.t 76), .mv (.v 5), some (.t 75, false)⟩,
   ⟨some (.t 77), .iad 1 (.t 76) (.c (.int .i64 0)), some (.t 75, false)⟩,
   ⟨some (.t 78), .load false 1 (.t 77), some (.t 75, false)⟩,
   ⟨some (.t 79), .bin .eql (.t 78) (.c (.int .i64 2)), some (.t 75, false)⟩,
   ⟨some (.t 80), .mv (.t 79), some (.t 75, false)⟩,
   ⟨some (.t 81), .mv (.v 5), some (.t 80, true)⟩,
   ⟨some (.t 82), .iad 1 (.t 81) (.c (.int .i64 1)), some (.t 80, true)⟩,
   ⟨some (.t 83), .load false 1 (.t 82), some (.t 80, true)⟩,
   ⟨some (.t 84), .bin .add (.t 83) (.c (.int .i64 80)), some (.t 80, true)⟩,
   ⟨some (.t 85), .bin .geq (.t 84) (.c (.int .i64 1099511627776)), some (.t 80, true)⟩,
   ⟨some (.t 86), .pick (.t 80) (.t 85) (.c (.bool false)), some (.t 75, false)⟩,
   ⟨some (.v 87), .pick (.t 75) (.c (.bool true)) (.t 86), none⟩])
   (.cond (.v 87) (.seq (.rg [⟨some (.t 88), .build [.int .i64 0, .int .i64 0, .bool false, .nilsl, .nilsl] [], none⟩,
   ⟨none, .store 5 (.v 2) (.t 88), none⟩,
   ⟨some (.v 3), .mv (.c (.bool false)), none⟩])
   (.ret))
   (.skip)))
   (.seq (.rgd [⟨some (.t 89), .mv (.v 5), none⟩,
   ⟨some (.t 90), .iad 1 (.t 89) (.c (.int .i64 1)), none⟩,
   ⟨some (.t 91), .load false 1 (.t 90), none⟩,
   ⟨some (.t 92), .mv (.v 5), none⟩,
   ⟨some (.t 93), .iad 1 (.t 92) (.c (.int .i64 0)), none⟩,
   ⟨some (.t 94), .load false 1 (.t 93), none⟩,
   ⟨some (.t 95), .bin .mul (.c (.int .i64 40)) (.t 94), none⟩,
   ⟨some (.t 96), .bin .add (.t 91) (.t 95), none⟩,
   ⟨some (.t 97), .iad 1 (.t 89) (.c (.int .i64 1)), none⟩,
   ⟨none, .store 1 (.t 97) (.t 96), none⟩]
   [[], [0], [0, 1], [], [3], [3, 4], [3, 4, 5], [0, 1, 2, 3, 4, 5, 6], [0, 1, 2, 3, 4, 5, 6, 7], [0, 1, 2, 3, 4, 5, 6, 7, 8]])
   (.seq (.rg [⟨some (.v 10), .mv (.c (.nilsl)), none⟩])
   (.seq (.seq (.rg [⟨some (.t 98), .mv (.v 5), none⟩,
   ⟨some (.v 99), .slc false 1 (.t 98) (some (.c (.int .i64 1))) none, none⟩,
   ⟨some (.v 100), .len false (.v 99), none⟩,
   ⟨some (.v 101), .mv (.c (.int .i64 0)), none⟩])
   (.block 2 (.loop m53k1 m53b1)))
   (.seq (.rg [⟨some (.t 130), .mv (.v 10), none⟩,
   ⟨some (.t 131), .build [.int .i64 0, .int .i64 0, .bool false, .nilsl, .nilsl] [(1, 1, .c (.int .i64 6)), (3, 1, .t 130)], none⟩,
   ⟨none, .store 5 (.v 2) (.t 131), none⟩,
   ⟨some (.v 3), .mv (.c (.bool true)), none⟩])
   (.ret))))))))))⟩
theorem m53o : okE Tryz.prog 53 m53 = some m53.body := by kernel_rfl

def m54 : MFunc := ⟨2, [.el 2, .other], [(4, none, .other)],
 .seq (.rg [⟨some (.v 4), .mv (.c (.bool false)), none⟩])
  (.seq (.rg [⟨some (.t 5), .mv (.v 0), none⟩,
   ⟨some (.t 6), .mv (.v 1), none⟩,
   ⟨some (.t 7), .call 86 [.t 5, .t 6], none⟩,
   ⟨some (.t 8), .bin .geq (.t 7) (.c (.int .i64 0)), none⟩,
   ⟨some (.v 4), .mv (.t 8), none⟩])
   (.ret))⟩
theorem m54o : okE Tryz.prog 54 m54 = some m54.body := by kernel_rfl

def m55 : MFunc := ⟨1, [.other], [(2, none, .other)],
 .seq (.rg [⟨some (.v 1), .box (.v 0), none⟩,
   ⟨some (.v 2), .mv (.c (.bool false)), none⟩])
  (.seq (.rg [⟨some (.t 3), .fad 1 (.v 1), none⟩,
   ⟨some (.t 4), .load false 1 (.t 3), none⟩,
   ⟨some (.t 5), .call 46 [.t 4], none⟩,
   ⟨some (.t 6), .un .not (.t 5), none⟩,
   ⟨some (.v 2), .mv (.t 6), none⟩])
   (.ret))⟩
theorem m55o : okE Tryz.prog 55 m55 = some m55.body := by kernel_rfl

def m56k1 : List (Nat × KMode) := [(2, .plain), (4, .plain), (6, .ownB), (7, .plain), (8, .ownB), (9, .plain)]
def m56b1 : MCode :=
 .seq (.seq (.rg [⟨some (.t 74), .mv (.v 9), none⟩,
   ⟨some (.v 75), .bin .geq (.t 74) (.c (.int .i64 128)), none⟩])
   (.cond (.v 75) (.skip)
   (.exit 2)))
  (.block 3 (.seq (.rg [⟨some (.t 76), .mv (.v 9), none⟩,
   ⟨some (.t 77), .bin .quo (.t 76) (.c (.int .i64 128)), none⟩,
   ⟨some (.v 9), .mv (.t 77), none⟩])
   (.rg [⟨some (.t 78), .mv (.v 8), none⟩,
   ⟨some (.t 79), .mv (.v 9), none⟩,
   ⟨some (.t 80), .bin .rem (.t 79) (.c (.int .i64 128)), none⟩,
   ⟨some (.t 81), .bin .add (.c (.int .i64 128)) (.t 80), none⟩,
   ⟨some (.t 82), .conv .u8 (.t 81), none⟩,
   ⟨some (.t 83), .bslB 1 [(0, .t 82)], none⟩,
   ⟨some (.t 84), .app true 1 1 (.t 78) (.t 83), none⟩,
   ⟨some (.v 8), .mv (.t 84), none⟩])))
def m56k2 : List (Nat × KMode) := [(2, .plain), (4, .plain), (6, .ownB), (7, .plain), (8, .ownB), (10, .plain)]
def m56b2 : MCode :=
 .seq (.seq (.rg [⟨some (.t 88), .mv (.v 10), none⟩,
   ⟨some (.v 89), .bin .geq (.t 88) (.c (.int .i64 0)), none⟩])
   (.cond (.v 89) (.skip)
   (.exit 4)))
  (.seq (.block 5 (.rg [⟨some (.t 92), .mv (.v 6), none⟩,
   ⟨some (.t 93), .mv (.v 8), none⟩,
   ⟨some (.t 94), .mv (.v 10), none⟩,
   ⟨some (.t 95), .iad 1 (.t 93) (.t 94), none⟩,
   ⟨some (.t 96), .load false 1 (.t 95), none⟩,
   ⟨some (.t 97), .bslB 1 [(0, .t 96)], none⟩,
   ⟨some (.t 98), .app true 1 1 (.t 92) (.t 97), none⟩,
   ⟨some (.v 6), .mv (.t 98), none⟩]))
   (.rg [⟨some (.t 90), .mv (.v 10), none⟩,
   ⟨some (.t 91), .bin .sub (.t 90) (.c (.int .i64 1)), none⟩,
   ⟨some (.v 10), .mv (.t 91), none⟩]))
def m56k0 : List (Nat × KMode) := [(2, .plain), (4, .plain), (6, .ownB), (7, .plain)]
def m56b0 : MCode :=
 .seq (.seq (.rg [⟨some (.t 58), .mv (.v 7), none⟩,
   ⟨some (.t 59), .mv (.v 4), none⟩,
   ⟨some (.t 60), .len false (.t 59), none⟩,
   ⟨some (.v 61), .bin .lss (.t 58) (.t 60), none⟩])
   (.cond (.v 61) (.skip)
   (.exit 0)))
  (.seq (.block 1 (.seq (.rg [⟨some (.v 8), .mv (.c (.nilsl)), none⟩])
   (.seq (.rg [⟨some (.t 64), .mv (.v 4), none⟩,
   ⟨some (.t 65), .mv (.v 7), none⟩,
   ⟨some (.t 66), .iad 1 (.t 64) (.t 65), none⟩,
   ⟨some (.t 67), .load false 1 (.t 66), none⟩,
   ⟨some (.v 9), .mv (.t 67), none⟩])
   (.seq (.rg [⟨some (.t 68), .mv (.v 8), none⟩,
   ⟨some (.t 69), .mv (.v 9), none⟩,
   ⟨some (.t 70), .bin .rem (.t 69) (.c (.int .i64 128)), none⟩,
   ⟨some (.t 71), .conv .u8 (.t 70), none⟩,
   ⟨some (.t 72), .bslB 1 [(0, .t 71)], none⟩,
   ⟨some (.t 73), .app true 1 1 (.t 68) (.t 72), none⟩,
   ⟨some (.v 8), .mv (.t 73), none⟩])
   (.seq (.block 2 (.loop m56k1 m56b1))
   (.seq (.rg [⟨some (.t 85), .mv (.v 8), none⟩,
   ⟨some (.t 86), .len false (.t 85), none⟩,
   ⟨some (.t 87), .bin .sub (.t 86) (.c (.int .i64 1)), none⟩,
   ⟨some (.v 10), .mv (.t 87), none⟩])
   (.block 4 (.loop m56k2 m56b2))))))))
   (.rg [⟨some (.t 62), .mv (.v 7), none⟩,
   ⟨some (.t 63), .bin .add (.t 62) (.c (.int .i64 1)), none⟩,
   ⟨some (.v 7), .mv (.t 63), none⟩]))
def m56 : MFunc := ⟨1, [.other], [(2, some (true, 5), .other), (3, none, .other)],
 .seq (.rg [⟨some (.v 2), .alloc [.int .i64 0, .int .i64 0, .bool false, .nilsl, .nilsl], none⟩,
   ⟨some (.v 3), .mv (.c (.bool false)), none⟩])
  (.seq (.rg [⟨some (.t 12), .mv (.v 0), none⟩,
   ⟨some (.t 13), .call 87 [.t 12], none⟩,
   ⟨some (.t 11), .mv (.t 13), none⟩,
   ⟨some (.t 14), .ext 0 (.t 11), none⟩,
   ⟨some (.t 15), .ext 1 (.t 11), none⟩,
   ⟨some (.v 4), .mv (.t 14), none⟩,
   ⟨some (.v 5), .mv (.t 15), none⟩])
   (.seq (.seq (.rgd [⟨some (.t 16), .mv (.v 5), none⟩,
   ⟨some (.t 17), .un .not (.t 16), none⟩,
   ⟨some (.t 18), .mv (.t 17), none⟩,
   ⟨some (.t 19), .mv (.v 4), some (.t 18, false)⟩,
   ⟨some (.t 20), .iad 1 (.t 19) (.c (.int .i64 0)), some (.t 18, false)⟩,
   ⟨some (.t 21), .load false 1 (.t 20), some (.t 18, false)⟩,
   ⟨some (.t 22), .bin .gtr (.t 21) (.c (.int .i64 2)), some (.t 18, false)⟩,
   ⟨some (.t 23), .pick (.t 18) (.c (.bool true)) (.t 22), none⟩,
   ⟨some (.t 24), .mv (.t 23), none⟩,
   ⟨some (.t 25), .mv (.v 4), some (.t 24, false)⟩,
   ⟨some (.t 26), .iad 1 (.t 25) (.c (.int .i64 0)), some (.t 24, false)⟩,
   ⟨some (.t 27), .load false 1 (.t 26), some (.t 24, false)⟩,
   ⟨some (.t 28), .bin .lss (.t 27) (.c (.int .i64 2)), some (.t 24, false)⟩,
   ⟨some (.t 29), .mv (.t 28), some (.t 24, false)⟩,
   ⟨some (.t 30), .mv (.v 4), some (.t 29, true)⟩,
   ⟨some (.t 31), .iad 1 (.t 30) (.c (.int .i64 1)), some (.t 29, true)⟩,
   ⟨some (.t 32), .load false 1 (.t 31), some (.t 29, true)⟩,
   ⟨some (.t 33), .bin .gtr (.t 32) (.c (.int .i64 39)), some (.t 29, true)⟩,
   ⟨some (.t 34), .pick (.t 29) (.t 33) (.c (.bool false)), some (.t 24, false)⟩,
   ⟨some (.t 35), .pick (.t 24) (.c (.bool true)) (.t 34), none⟩,
   ⟨some (.t 36), .mv (.t 35), none⟩,
   ⟨some (.t 37), .mv (.v 4), some (.t 36, false)⟩,
   ⟨some (.t 38), .iad 1 (.t 37) (.c (.int .i64 1)), some (.t 36, false)⟩,
   ⟨some (.t 39), .load false 1 (.t 38), some (.t 36, false)⟩,
   ⟨some (.t 40), .mv (.v 4), some (.t 36, false)⟩,
   ⟨some (.t 41), .iad 1 (.t 40) (.c (.int .i64 0)), some (.t 36, false)⟩,
   ⟨some (.t 42), .load false 1 (.t 41), some (.t 36, false)⟩,
   ⟨some (.t 43), .bin .mul (.c (.int .i64 40)) (.t 42), some (.t 36, false)⟩,
   ⟨some (.t 44), .bin .add (.t 39) (.t 43), some (.t 36, false)⟩,
   ⟨some (.t 45), .bin .geq (.t 44) (.c (.int .i64 1099511627776)), some (.t 36, false)⟩,
   ⟨some (.v 46), .pick (.t 36) (.c (.bool true)) (.t 45), none⟩]
   [[], [0], [0, 1], [0, 1, 2], [0, 1, 2, 3], [0, 1, 2, 3, 4], [0, 1, 2, 3, 4, 5], [0, 1, 2, 3, 4, 5, 6], [0, 1, 2, 3, 4, 5, 6, 7], [0, 1, 2, 3, 4, 5, 6, 7, 8], [0, 1, 2, 3, 4, 5, 6, 7, 8, 9], [0, 1, 2, 3, 4, 5, 6, 7, 8, 9, 10], [0, 1, 2, 3, 4, 5, 6, 7, 8, 9, 10, 11], [0, 1, 2, 3, 4, 5, 6, 7, 8, 9, 10, 11, 12], [0, 1, 2, 3, 4, 5, 6, 7, 8, 9, 10, 11, 12, 13], [0, 1, 2, 3, 4, 5, 6, 7, 8, 9, 10, 11, 12, 13, 14], [0, 1, 2, 3, 4, 5, 6, 7, 8, 9, 10, 11, 12, 13, 14, 15], [0, 1, 2, 3, 4, 5, 6, 7, 8, 9, 10, 11, 12, 13, 14, 15, 16], [0, 1, 2, 3, 4, 5, 6, 7, 8, 9, 10, 11, 12, 13, 14, 15, 16, 17], [0, 1, 2, 3, 4, 5, 6, 7, 8, 9, 10, 11, 12, 13, 14, 15, 16, 17, 18], [0, 1, 2, 3, 4, 5, 6, 7, 8, 9, 10, 11, 12, 13, 14, 15, 16, 17, 18, 19], [0, 1, 2, 3, 4, 5, 6, 7, 8, 9, 10, 11, 12, 13, 14, 15, 16, 17, 18, 19, 20], [0, 1, 2, 3, 4, 5, 6, 7, 8, 9, 10, 11, 12, 13, 14, 15, 16, 17, 18, 19, 20, 21], [0, 1, 2, 3, 4, 5, 6, 7, 8, 9, 10, 11, 12, 13, 14, 15, 16, 17, 18, 19, 20, 21, 22], [0, 1, 2, 3, 4, 5, 6, 7, 8, 9, 10, 11, 12, 13, 14, 15, 16, 17, 18, 19, 20], [0, 1, 2, 3, 4, 5, 6, 7, 8, 9, 10, 11, 12, 13, 14, 15, 16, 17, 18, 19, 20, 24], [0, 1, 2, 3, 4, 5, 6, 7, 8, 9, 10, 11, 12, 13, 14, 15, 16, 17, 18, 19, 20, 24, 25], [0, 1, 2, 3, 4, 5, 6, 7, 8, 9, 10, 11, 12, 13, 14, 15, 16, 17, 18, 19, 20, 24, 25, 26], [0, 1, 2, 3, 4, 5, 6, 7, 8, 9, 10, 11, 12, 13, 14, 15, 16, 17, 18, 19, 20, 21, 22, 23, 24, 25, 26, 27], [0, 1, 2, 3, 4, 5, 6, 7, 8, 9, 10, 11, 12, 13, 14, 15, 16, 17, 18, 19, 20, 21, 22, 23, 24, 25, 26, 27, 28], [0, 1, 2, 3, 4, 5, 6, 7, 8, 9, 10, 11, 12, 13, 14, 15, 16, 17, 18, 19, 20, 21, 22, 23, 24, 25, 26, 27, 28, 29]])
   (.cond (.v 46) (.seq (.rg [⟨some (.t 47), .build [.int .i64 0, .int .i64 0, .bool false, .nilsl, .nilsl] [], none⟩,
   ⟨none, .store 5 (.v 2) (.t 47), none⟩,
   ⟨some (.v 3), .mv (.c (.bool false)), none⟩])
   (.ret))
   (.skip)))
   (.seq (.rgd [⟨some (.t 48), .mv (.v 4), none⟩,
   ⟨some (.t 49), .mv (.v 4), none⟩,
   ⟨some (.t 50), .iad 1 (.t 49) (.c (.int .i64 1)), none⟩,
   ⟨some (.t 51), .load false 1 (.t 50), none⟩,
   ⟨some (.t 52), .mv (.v 4), none⟩,
   ⟨some (.t 53), .iad 1 (.t 52) (.c (.int .i64 0)), none⟩,
   ⟨some (.t 54), .load false 1 (.t 53), none⟩,
   ⟨some (.t 55), .bin .mul (.c (.int .i64 40)) (.t 54), none⟩,
   ⟨some (.t 56), .bin .add (.t 51) (.t 55), none⟩,
   ⟨some (.t 57), .iad 1 (.t 48) (.c (.int .i64 1)), none⟩,
   ⟨none, .store 1 (.t 57) (.t 56), none⟩]
   [[], [], [1], [1, 2], [], [4], [4, 5], [4, 5, 6], [1, 2, 3, 4, 5, 6, 7], [0, 1, 2, 3, 4, 5, 6, 7, 8], [0, 1, 2, 3, 4, 5, 6, 7, 8, 9]])
   (.seq (.rg [⟨some (.v 6), .mv (.c (.nilsl)), none⟩])
   (.seq (.seq (.rg [⟨some (.v 7), .mv (.c (.int .i64 1)), none⟩])
   (.block 0 (.loop m56k0 m56b0)))
   (.seq (.rg [⟨some (.t 99), .mv (.v 6), none⟩,
   ⟨some (.t 100), .build [.int .i64 0, .int .i64 0, .bool false, .nilsl, .nilsl] [(1, 1, .c (.int .i64 6)), (3, 1, .t 99)], none⟩,
   ⟨none, .store 5 (.v 2) (.t 100), none⟩,
   ⟨some (.v 3), .mv (.c (.bool true)), none⟩])
   (.ret)))))))⟩
theorem m56o : okE Tryz.prog 56 m56 = some m56.body := by kernel_rfl

def m58k0 : List (Nat × KMode) := [(0, .plain), (1, .plain), (12, .plain), (13, .plain)]
def m58b0 : MCode :=
 .seq (.rg [⟨some (.v 14), .bin .lss (.v 13) (.v 12), none⟩])
  (.seq (.cond (.v 14) (.skip)
   (.exit 0))
   (.seq (.block 1 (.seq (.rg [⟨some (.t 15), .mv (.v 13), none⟩,
   ⟨some (.v 5), .mv (.t 15), none⟩])
   (.seq (.rgd [⟨some (.t 16), .mv (.v 0), none⟩,
   ⟨some (.t 17), .mv (.v 5), none⟩,
   ⟨some (.t 18), .iad 2 (.t 16) (.t 17), none⟩,
   ⟨some (.t 19), .load true 2 (.t 18), none⟩,
   ⟨some (.t 20), .mv (.v 1), none⟩,
   ⟨some (.t 21), .mv (.v 5), none⟩,
   ⟨some (.t 22), .iad 2 (.t 20) (.t 21), none⟩,
   ⟨some (.t 23), .load true 2 (.t 22), none⟩,
   ⟨some (.v 24), .eqs (.struct [.str, .str]) true (.t 19) (.t 23), none⟩]
   [[], [], [0, 1], [0, 1, 2], [], [], [4, 5], [4, 5, 6], [0, 1, 2, 3, 4, 5, 6, 7]])
   (.cond (.v 24) (.seq (.rg [⟨some (.v 4), .mv (.c (.bool false)), none⟩])
   (.ret))
   (.skip)))))
   (.rg [⟨some (.t 25), .bin .add (.v 13) (.c (.int .i64 1)), none⟩,
   ⟨some (.v 13), .mv (.t 25), none⟩])))
def m58 : MFunc := ⟨2, [.el 2, .el 2], [(4, none, .other)],
 .seq (.rg [⟨some (.v 4), .mv (.c (.bool false)), none⟩])
  (.seq (.seq (.rg [⟨some (.t 6), .mv (.v 0), none⟩,
   ⟨some (.t 7), .len false (.t 6), none⟩,
   ⟨some (.t 8), .mv (.v 1), none⟩,
   ⟨some (.t 9), .len false (.t 8), none⟩,
   ⟨some (.v 10), .bin .neq (.t 7) (.t 9), none⟩])
   (.cond (.v 10) (.seq (.rg [⟨some (.v 4), .mv (.c (.bool false)), none⟩])
   (.ret))
   (.skip)))
   (.seq (.seq (.rg [⟨some (.t 11), .mv (.v 0), none⟩,
   ⟨some (.v 12), .len false (.t 11), none⟩,
   ⟨some (.v 13), .mv (.c (.int .i64 0)), none⟩])
   (.block 0 (.loop m58k0 m58b0)))
   (.seq (.rg [⟨some (.v 4), .mv (.c (.bool true)), none⟩])
   (.ret))))⟩
theorem m58o : okE Tryz.prog 58 m58 = some m58.body := by kernel_rfl

def m59 : MFunc := ⟨3, [.other, .other, .other], [(6, none, .other)],
 .seq (.rg [⟨some (.v 6), .mv (.c (.int .i64 0)), none⟩])
  (.seq (.seq (.rg [⟨some (.t 7), .mv (.v 1), none⟩,
   ⟨some (.v 8), .bin .leq (.t 7) (.c (.int .i64 2)), none⟩])
   (.cond (.v 8) (.seq (.rg [⟨some (.t 9), .mv (.v 0), none⟩,
   ⟨some (.t 10), .bin .sub (.t 9) (.c (.int .i64 1)), none⟩,
   ⟨some (.v 0), .mv (.t 10), none⟩])
   (.rg [⟨some (.t 11), .mv (.v 1), none⟩,
   ⟨some (.t 12), .bin .add (.t 11) (.c (.int .i64 12)), none⟩,
   ⟨some (.v 1), .mv (.t 12), none⟩]))
   (.skip)))
   (.seq (.rg [⟨some (.t 13), .mv (.v 0), none⟩,
   ⟨some (.t 14), .bin .mul (.c (.int .i64 365)) (.t 13), none⟩,
   ⟨some (.t 15), .mv (.v 0), none⟩,
   ⟨some (.t 16), .bin .quo (.t 15) (.c (.int .i64 4)), none⟩,
   ⟨some (.t 17), .bin .add (.t 14) (.t 16), none⟩,
   ⟨some (.t 18), .mv (.v 0), none⟩,
   ⟨some (.t 19), .bin .quo (.t 18) (.c (.int .i64 100)), none⟩,
   ⟨some (.t 20), .bin .sub (.t 17) (.t 19), none⟩,
   ⟨some (.t 21), .mv (.v 0), none⟩,
   ⟨some (.t 22), .bin .quo (.t 21) (.c (.int .i64 400)), none⟩,
   ⟨some (.t 23), .bin .add (.t 20) (.t 22), none⟩,
   ⟨some (.t 24), .mv (.v 1), none⟩,
   ⟨some (.t 25), .bin .sub (.t 24) (.c (.int .i64 3)), none⟩,
   ⟨some (.t 26), .bin .mul (.c (.int .i64 153)) (.t 25), none⟩,
   ⟨some (.t 27), .bin .add (.t 26) (.c (.int .i64 2)), none⟩,
   ⟨some (.t 28), .bin .quo (.t 27) (.c (.int .i64 5)), none⟩,
   ⟨some (.t 29), .bin .add (.t 23) (.t 28), none⟩,
   ⟨some (.t 30), .mv (.v 2), none⟩,
   ⟨some (.t 31), .bin .add (.t 29) (.t 30), none⟩,
   ⟨some (.t 32), .bin .sub (.t 31) (.c (.int .i64 719469)), none⟩,
   ⟨some (.v 6), .mv (.t 32), none⟩])
   (.ret)))⟩
theorem m59o : okE Tryz.prog 59 m59 = some m59.body := by kernel_rfl

def m65 : MFunc := ⟨2, [.other, .other], [(4, none, .other)],
 .seq (.rg [⟨some (.v 4), .mv (.c (.bool false)), none⟩])
  (.seq (.rg [⟨some (.t 5), .mv (.v 0), none⟩,
   ⟨some (.t 6), .mv (.v 1), none⟩,
   ⟨some (.t 7), .call 96 [.t 5, .t 6], none⟩,
   ⟨some (.t 8), .bin .geq (.t 7) (.c (.int .i64 0)), none⟩,
   ⟨some (.v 4), .mv (.t 8), none⟩])
   (.ret))⟩
theorem m65o : okE Tryz.prog 65 m65 = some m65.body := by kernel_rfl

def m66 : MFunc := ⟨1, [.other], [(2, none, .other)],
 .seq (.rg [⟨some (.v 2), .mv (.c (.bool false)), none⟩])
  (.seq (.rg [⟨some (.t 3), .mv (.v 0), none⟩,
   ⟨some (.t 4), .bin .geq (.t 3) (.c (.int .i32 97)), none⟩,
   ⟨some (.t 5), .mv (.t 4), none⟩,
   ⟨some (.t 6), .mv (.v 0), some (.t 5, true)⟩,
   ⟨some (.t 7), .bin .leq (.t 6) (.c (.int .i32 122)), some (.t 5, true)⟩,
   ⟨some (.t 8), .pick (.t 5) (.t 7) (.c (.bool false)), none⟩,
   ⟨some (.t 9), .mv (.t 8), none⟩,
   ⟨some (.t 10), .mv (.v 0), some (.t 9, false)⟩,
   ⟨some (.t 11), .bin .geq (.t 10) (.c (.int .i32 65)), some (.t 9, false)⟩,
   ⟨some (.t 12), .mv (.t 11), some (.t 9, false)⟩,
   ⟨some (.t 13), .mv (.v 0), some (.t 12, true)⟩,
   ⟨some (.t 14), .bin .leq (.t 13) (.c (.int .i32 90)), some (.t 12, true)⟩,
   ⟨some (.t 15), .pick (.t 12) (.t 14) (.c (.bool false)), some (.t 9, false)⟩,
   ⟨some (.t 16), .pick (.t 9) (.c (.bool true)) (.t 15), none⟩,
   ⟨some (.t 17), .mv (.t 16), none⟩,
   ⟨some (.t 18), .mv (.v 0), some (.t 17, false)⟩,
   ⟨some (.t 19), .bin .geq (.t 18) (.c (.int .i32 48)), some (.t 17, false)⟩,
   ⟨some (.t 20), .mv (.t 19), some (.t 17, false)⟩,
   ⟨some (.t 21), .mv (.v 0), some (.t 20, true)⟩,
   ⟨some (.t 22), .bin .leq (.t 21) (.c (.int .i32 57)), some (.t 20, true)⟩,
   ⟨some (.t 23), .pick (.t 20) (.t 22) (.c (.bool false)), some (.t 17, false)⟩,
   ⟨some (.t 24), .pick (.t 17) (.c (.bool true)) (.t 23), none⟩,
   ⟨some (.t 25), .mv (.t 24), none⟩,
   ⟨some (.t 26), .mv (.v 0), some (.t 25, false)⟩,
   ⟨some (.t 27), .bin .eql (.t 26) (.c (.int .i32 45)), some (.t 25, false)⟩,
   ⟨some (.t 28), .pick (.t 25) (.c (.bool true)) (.t 27), none⟩,
   ⟨some (.t 29), .un .not (.t 28), none⟩,
   ⟨some (.v 2), .mv (.t 29), none⟩])
   (.ret))⟩
theorem m66o : okE Tryz.prog 66 m66 = some m66.body := by kernel_rfl

def m67 : MFunc := ⟨2, [.other, .other], [(4, none, .other)],
 .seq (.rg [⟨some (.v 4), .mv (.c (.bool false)), none⟩])
  (.seq (.rg [⟨some (.t 5), .mv (.v 0), none⟩,
   ⟨some (.t 6), .mv (.v 1), none⟩,
   ⟨some (.t 7), .call 97 [.t 5, .t 6], none⟩,
   ⟨some (.v 4), .mv (.t 7), none⟩])
   (.ret))⟩
theorem m67o : okE Tryz.prog 67 m67 = some m67.body := by kernel_rfl

def m73 : MFunc := ⟨1, [.other], [(2, none, .other)],
 .seq (.rg [⟨some (.v 2), .mv (.c (.bool false)), none⟩])
  (.seq (.rg [⟨some (.t 3), .mv (.v 0), none⟩,
   ⟨some (.t 4), .bin .eql (.t 3) (.c (.int .i64 1)), none⟩,
   ⟨some (.t 5), .mv (.t 4), none⟩,
   ⟨some (.t 6), .mv (.v 0), some (.t 5, false)⟩,
   ⟨some (.t 7), .bin .eql (.t 6) (.c (.int .i64 2)), some (.t 5, false)⟩,
   ⟨some (.t 8), .pick (.t 5) (.c (.bool true)) (.t 7), none⟩,
   ⟨some (.t 9), .mv (.t 8), none⟩,
   ⟨some (.t 10), .mv (.v 0), some (.t 9, false)⟩,
   ⟨some (.t 11), .bin .eql (.t 10) (.c (.int .i64 4)), some (.t 9, false)⟩,
   ⟨some (.t 12), .pick (.t 9) (.c (.bool true)) (.t 11), none⟩,
   ⟨some (.t 13), .mv (.t 12), none⟩,
   ⟨some (.t 14), .mv (.v 0), some (.t 13, false)⟩,
   ⟨some (.t 15), .bin .eql (.t 14) (.c (.int .i64 6)), some (.t 13, false)⟩,
   ⟨some (.t 16), .pick (.t 13) (.c (.bool true)) (.t 15), none⟩,
   ⟨some (.t 17), .mv (.t 16), none⟩,
   ⟨some (.t 18), .mv (.v 0), some (.t 17, false)⟩,
   ⟨some (.t 19), .bin .eql (.t 18) (.c (.int .i64 7)), some (.t 17, false)⟩,
   ⟨some (.t 20), .pick (.t 17) (.c (.bool true)) (.t 19), none⟩,
   ⟨some (.v 2), .mv (.t 20), none⟩])
   (.ret))⟩
theorem m73o : okE Tryz.prog 73 m73 = some m73.body := by kernel_rfl

def m74k0 : List (Nat × KMode) := [(2, .plain), (5, .plain), (6, .plain), (7, .plain)]
def m74b0 : MCode :=
 .seq (.seq (.rg [⟨some (.t 40), .mv (.v 7), none⟩,
   ⟨some (.t 41), .mv (.v 5), none⟩,
   ⟨some (.t 42), .bin .mul (.c (.int .i64 4)) (.t 41), none⟩,
   ⟨some (.v 43), .bin .lss (.t 40) (.t 42), none⟩])
   (.cond (.v 43) (.skip)
   (.exit 0)))
  (.seq (.block 1 (.seq (.rg [⟨some (.t 46), .fad 1 (.v 2), none⟩,
   ⟨some (.t 47), .load false 1 (.t 46), none⟩,
   ⟨some (.t 48), .mv (.v 5), none⟩,
   ⟨some (.t 49), .bin .quo (.t 48) (.c (.int .i64 2)), none⟩,
   ⟨some (.t 50), .mv (.v 7), none⟩,
   ⟨some (.t 51), .bin .quo (.t 50) (.c (.int .i64 8)), none⟩,
   ⟨some (.t 52), .bin .add (.t 49) (.t 51), none⟩,
   ⟨some (.t 53), .idxS (.t 47) (.t 52), none⟩,
   ⟨some (.t 54), .mv (.v 7), none⟩,
   ⟨some (.t 55), .bin .rem (.t 54) (.c (.int .i64 8)), none⟩,
   ⟨some (.t 56), .bin .sub (.c (.int .i64 7)) (.t 55), none⟩,
   ⟨some (.t 57), .bin .shr (.t 53) (.t 56), none⟩,
   ⟨some (.t 58), .conv .i64 (.t 57), none⟩,
   ⟨some (.t 59), .bin .rem (.t 58) (.c (.int .i64 2)), none⟩,
   ⟨some (.t 60), .bin .eql (.t 59) (.c (.int .i64 1)), none⟩,
   ⟨some (.v 8), .mv (.t 60), none⟩])
   (.seq (.seq (.rg [⟨some (.t 61), .mv (.v 8), none⟩,
   ⟨some (.t 62), .mv (.t 61), none⟩,
   ⟨some (.t 63), .mv (.v 6), some (.t 62, true)⟩,
   ⟨some (.v 64), .pick (.t 62) (.t 63) (.c (.bool false)), none⟩])
   (.cond (.v 64) (.seq (.rg [⟨some (.v 4), .mv (.c (.bool false)), none⟩])
   (.ret))
   (.skip)))
   (.rg [⟨some (.t 65), .mv (.v 6), none⟩,
   ⟨some (.t 66), .mv (.t 65), none⟩,
   ⟨some (.t 67), .mv (.v 8), some (.t 66, false)⟩,
   ⟨some (.t 68), .un .not (.t 67), some (.t 66, false)⟩,
   ⟨some (.t 69), .pick (.t 66) (.c (.bool true)) (.t 68), none⟩,
   ⟨some (.v 6), .mv (.t 69), none⟩]))))
   (.rg [⟨some (.t 44), .mv (.v 7), none⟩,
   ⟨some (.t 45), .bin .add (.t 44) (.c (.int .i64 1)), none⟩,
   ⟨some (.v 7), .mv (.t 45), none⟩]))
def m74k1 : List (Nat × KMode) := [(1, .plain), (2, .plain), (5, .plain), (9, .plain)]
def m74b1 : MCode :=
 .seq (.seq (.rg [⟨some (.t 70), .mv (.v 9), none⟩,
   ⟨some (.t 71), .mv (.v 5), none⟩,
   ⟨some (.v 72), .bin .lss (.t 70) (.t 71), none⟩])
   (.cond (.v 72) (.skip)
   (.exit 2)))
  (.seq (.block 3 (.seq (.rg [⟨some (.t 75), .fad 1 (.v 2), none⟩,
   ⟨some (.t 76), .load false 1 (.t 75), none⟩,
   ⟨some (.t 77), .mv (.v 9), none⟩,
   ⟨some (.t 78), .idxS (.t 76) (.t 77), none⟩,
   ⟨some (.v 79), .bin .geq (.t 78) (.c (.int .u8 128)), none⟩])
   (.cond (.v 79) (.seq (.rg [⟨some (.v 4), .mv (.c (.bool false)), none⟩])
   (.ret))
   (.skip))))
   (.rg [⟨some (.t 73), .mv (.v 9), none⟩,
   ⟨some (.t 74), .bin .add (.t 73) (.c (.int .i64 1)), none⟩,
   ⟨some (.v 9), .mv (.t 74), none⟩]))
def m74 : MFunc := ⟨2, [.other, .other], [(4, none, .other)],
 .seq (.rg [⟨some (.v 2), .box (.v 0), none⟩,
   ⟨some (.v 4), .mv (.c (.bool false)), none⟩])
  (.seq (.rg [⟨some (.t 10), .fad 1 (.v 2), none⟩,
   ⟨some (.t 11), .load false 1 (.t 10), none⟩,
   ⟨some (.t 12), .len true (.t 11), none⟩,
   ⟨some (.v 5), .mv (.t 12), none⟩])
   (.seq (.seq (.rg [⟨some (.t 13), .fad 0 (.v 2), none⟩,
   ⟨some (.t 14), .load false 1 (.t 13), none⟩,
   ⟨some (.v 15), .bin .eql (.t 14) (.c (.int .i64 4)), none⟩])
   (.cond (.v 15) (.seq (.rg [⟨some (.t 16), .mv (.v 1), none⟩,
   ⟨some (.t 17), .mv (.t 16), none⟩,
   ⟨some (.t 18), .fad 2 (.v 2), some (.t 17, false)⟩,
   ⟨some (.t 19), .load false 1 (.t 18), some (.t 17, false)⟩,
   ⟨some (.t 20), .len false (.t 19), some (.t 17, false)⟩,
   ⟨some (.t 21), .bin .gtr (.t 20) (.c (.int .i64 0)), some (.t 17, false)⟩,
   ⟨some (.t 22), .pick (.t 17) (.c (.bool true)) (.t 21), none⟩,
   ⟨some (.v 4), .mv (.t 22), none⟩])
   (.ret))
   (.skip)))
   (.seq (.seq (.rg [⟨some (.t 23), .fad 0 (.v 2), none⟩,
   ⟨some (.t 24), .load false 1 (.t 23), none⟩,
   ⟨some (.v 25), .bin .eql (.t 24) (.c (.int .i64 7)), none⟩])
   (.cond (.v 25) (.seq (.seq (.rg [⟨some (.t 26), .mv (.v 1), none⟩,
   ⟨some (.v 27), .un .not (.t 26), none⟩])
   (.cond (.v 27) (.seq (.rg [⟨some (.t 28), .mv (.v 5), none⟩,
   ⟨some (.t 29), .bin .eql (.t 28) (.c (.int .i64 4)), none⟩,
   ⟨some (.t 30), .mv (.t 29), none⟩,
   ⟨some (.t 31), .mv (.v 5), some (.t 30, false)⟩,
   ⟨some (.t 32), .bin .eql (.t 31) (.c (.int .i64 16)), some (.t 30, false)⟩,
   ⟨some (.t 33), .pick (.t 30) (.c (.bool true)) (.t 32), none⟩,
   ⟨some (.v 4), .mv (.t 33), none⟩])
   (.ret))
   (.skip)))
   (.seq (.seq (.rg [⟨some (.t 34), .mv (.v 5), none⟩,
   ⟨some (.t 35), .bin .neq (.t 34) (.c (.int .i64 8)), none⟩,
   ⟨some (.t 36), .mv (.t 35), none⟩,
   ⟨some (.t 37), .mv (.v 5), some (.t 36, true)⟩,
   ⟨some (.t 38), .bin .neq (.t 37) (.c (.int .i64 32)), some (.t 36, true)⟩,
   ⟨some (.v 39), .pick (.t 36) (.t 38) (.c (.bool false)), none⟩])
   (.cond (.v 39) (.seq (.rg [⟨some (.v 4), .mv (.c (.bool false)), none⟩])
   (.ret))
   (.skip)))
   (.seq (.rg [⟨some (.v 6), .mv (.c (.bool false)), none⟩])
   (.seq (.seq (.rg [⟨some (.v 7), .mv (.c (.int .i64 0)), none⟩])
   (.block 0 (.loop m74k0 m74b0)))
   (.seq (.rg [⟨some (.v 4), .mv (.c (.bool true)), none⟩])
   (.ret))))))
   (.skip)))
   (.seq (.seq (.rg [⟨some (.v 9), .mv (.c (.int .i64 0)), none⟩])
   (.block 2 (.loop m74k1 m74b1)))
   (.seq (.rg [⟨some (.t 80), .mv (.v 5), none⟩,
   ⟨some (.t 81), .bin .gtr (.t 80) (.c (.int .i64 0)), none⟩,
   ⟨some (.t 82), .mv (.t 81), none⟩,
   ⟨some (.t 83), .mv (.v 1), some (.t 82, false)⟩,
   ⟨some (.t 84), .pick (.t 82) (.c (.bool true)) (.t 83), none⟩,
   ⟨some (.t 85), .mv (.t 84), none⟩,
   ⟨some (.t 86), .mv (.v 5), some (.t 85, true)⟩,
   ⟨some (.t 87), .bin .leq (.t 86) (.c (.int .i64 64)), some (.t 85, true)⟩,
   ⟨some (.t 88), .pick (.t 85) (.t 87) (.c (.bool false)), none⟩,
   ⟨some (.v 4), .mv (.t 88), none⟩])
   (.ret))))))⟩
theorem m74o : okE Tryz.prog 74 m74 = some m74.body := by kernel_rfl

def m75k0 : List (Nat × KMode) := [(0, .plain), (1, .plain), (5, .plain)]
def m75b0 : MCode :=
 .seq (.seq (.rg [⟨some (.t 6), .mv (.v 5), none⟩,
   ⟨some (.t 7), .mv (.v 0), none⟩,
   ⟨some (.t 8), .len true (.t 7), none⟩,
   ⟨some (.v 9), .bin .lss (.t 6) (.t 8), none⟩])
   (.cond (.v 9) (.skip)
   (.exit 0)))
  (.seq (.block 1 (.seq (.rg [⟨some (.t 12), .mv (.v 0), none⟩,
   ⟨some (.t 13), .mv (.v 5), none⟩,
   ⟨some (.t 14), .idxS (.t 12) (.t 13), none⟩,
   ⟨some (.t 15), .mv (.v 1), none⟩,
   ⟨some (.v 16), .bin .eql (.t 14) (.t 15), none⟩])
   (.cond (.v 16) (.seq (.rg [⟨some (.t 17), .mv (.v 5), none⟩,
   ⟨some (.v 4), .mv (.t 17), none⟩])
   (.ret))
   (.skip))))
   (.rg [⟨some (.t 10), .mv (.v 5), none⟩,
   ⟨some (.t 11), .bin .add (.t 10) (.c (.int .i64 1)), none⟩,
   ⟨some (.v 5), .mv (.t 11), none⟩]))
def m75 : MFunc := ⟨2, [.other, .other], [(4, none, .other)],
 .seq (.rg [⟨some (.v 4), .mv (.c (.int .i64 0)), none⟩])
  (.seq (.seq (.rg [⟨some (.v 5), .mv (.c (.int .i64 0)), none⟩])
   (.block 0 (.loop m75k0 m75b0)))
   (.seq (.rg [⟨some (.v 4), .mv (.c (.int .i64 (-1))), none⟩])
   (.ret)))⟩
theorem m75o : okE Tryz.prog 75 m75 = some m75.body := by kernel_rfl

def m76 : MFunc := ⟨1, [.other], [(2, none, .other)],
 .seq (.rg [⟨some (.v 2), .mv (.c (.int .u8 0)), none⟩])
  (.seq (.seq (.rg [⟨some (.t 3), .mv (.v 0), none⟩,
   ⟨some (.t 4), .bin .geq (.t 3) (.c (.int .u8 65)), none⟩,
   ⟨some (.t 5), .mv (.t 4), none⟩,
   ⟨some (.t 6), .mv (.v 0), some (.t 5, true)⟩,
   ⟨some (.t 7), .bin .leq (.t 6) (.c (.int .u8 90)), some (.t 5, true)⟩,
   ⟨some (.v 8), .pick (.t 5) (.t 7) (.c (.bool false)), none⟩])
   (.cond (.v 8) (.seq (.rg [⟨some (.t 9), .mv (.v 0), none⟩,
   ⟨some (.t 10), .bin .add (.t 9) (.c (.int .u8 32)), none⟩,
   ⟨some (.v 2), .mv (.t 10), none⟩])
   (.ret))
   (.skip)))
   (.seq (.rg [⟨some (.t 11), .mv (.v 0), none⟩,
   ⟨some (.v 2), .mv (.t 11), none⟩])
   (.ret)))⟩
theorem m76o : okE Tryz.prog 76 m76 = some m76.body := by kernel_rfl

def m77k0 : List (Nat × KMode) := [(0, .plain), (3, .plain), (8, .plain), (9, .plain)]
def m77b0 : MCode :=
 .seq (.rg [⟨some (.v 10), .bin .lss (.v 9) (.v 8), none⟩])
  (.seq (.cond (.v 10) (.skip)
   (.exit 0))
   (.seq (.block 1 (.seq (.rg [⟨some (.t 11), .mv (.v 9), none⟩,
   ⟨some (.v 4), .mv (.t 11), none⟩])
   (.seq (.rg [⟨some (.t 12), .mv (.v 0), none⟩,
   ⟨some (.t 13), .mv (.v 4), none⟩,
   ⟨some (.t 14), .bin .quo (.t 13) (.c (.int .i64 8)), none⟩,
   ⟨some (.t 15), .idxS (.t 12) (.t 14), none⟩,
   ⟨some (.t 16), .mv (.v 4), none⟩,
   ⟨some (.t 17), .bin .rem (.t 16) (.c (.int .i64 8)), none⟩,
   ⟨some (.t 18), .bin .sub (.c (.int .i64 7)) (.t 17), none⟩,
   ⟨some (.t 19), .bin .shr (.t 15) (.t 18), none⟩,
   ⟨some (.t 20), .bin .and (.t 19) (.c (.int .u8 1)), none⟩,
   ⟨some (.t 21), .bin .eql (.t 20) (.c (.int .u8 1)), none⟩,
   ⟨some (.v 5), .mv (.t 21), none⟩])
   (.seq (.seq (.rg [⟨some (.t 22), .mv (.v 5), none⟩,
   ⟨some (.t 23), .mv (.t 22), none⟩,
   ⟨some (.t 24), .mv (.v 3), some (.t 23, true)⟩,
   ⟨some (.v 25), .pick (.t 23) (.t 24) (.c (.bool false)), none⟩])
   (.cond (.v 25) (.seq (.rg [⟨some (.v 2), .mv (.c (.bool false)), none⟩])
   (.ret))
   (.skip)))
   (.rg [⟨some (.t 26), .mv (.v 3), none⟩,
   ⟨some (.t 27), .mv (.t 26), none⟩,
   ⟨some (.t 28), .mv (.v 5), some (.t 27, false)⟩,
   ⟨some (.t 29), .un .not (.t 28), some (.t 27, false)⟩,
   ⟨some (.t 30), .pick (.t 27) (.c (.bool true)) (.t 29), none⟩,
   ⟨some (.v 3), .mv (.t 30), none⟩])))))
   (.rg [⟨some (.t 31), .bin .add (.v 9) (.c (.int .i64 1)), none⟩,
   ⟨some (.v 9), .mv (.t 31), none⟩])))
def m77 : MFunc := ⟨1, [.other], [(2, none, .other)],
 .seq (.rg [⟨some (.v 2), .mv (.c (.bool false)), none⟩])
  (.seq (.rg [⟨some (.v 3), .mv (.c (.bool false)), none⟩])
   (.seq (.seq (.rg [⟨some (.t 6), .mv (.v 0), none⟩,
   ⟨some (.t 7), .len true (.t 6), none⟩,
   ⟨some (.v 8), .bin .mul (.c (.int .i64 8)) (.t 7), none⟩,
   ⟨some (.v 9), .mv (.c (.int .i64 0)), none⟩])
   (.block 0 (.loop m77k0 m77b0)))
   (.seq (.rg [⟨some (.v 2), .mv (.c (.bool true)), none⟩])
   (.ret))))⟩
theorem m77o : okE Tryz.prog 77 m77 = some m77.body := by kernel_rfl

def m78 : MFunc := ⟨1, [.other], [(2, none, .other)],
 .seq (.rg [⟨some (.v 2), .mv (.c (.bool false)), none⟩])
  (.seq (.rg [⟨some (.t 3), .mv (.v 0), none⟩,
   ⟨some (.t 4), .bin .geq (.t 3) (.c (.int .i32 128)), none⟩,
   ⟨some (.v 2), .mv (.t 4), none⟩])
   (.ret))⟩
theorem m78o : okE Tryz.prog 78 m78 = some m78.body := by kernel_rfl

def m79k0 : List (Nat × KMode) := [(1, .plain), (2, .plain), (7, .plain), (8, (.ownE 1)), (69, .plain), (70, .plain), (71, .plain)]
def m79b0 : MCode :=
 .seq (.rg [⟨some (.v 72), .bin .lss (.v 71) (.v 70), none⟩])
  (.seq (.cond (.v 72) (.skip)
   (.exit 2))
   (.seq (.block 3 (.seq (.rg [⟨some (.t 73), .iad 5 (.v 69) (.v 71), none⟩,
   ⟨some (.t 74), .load true 5 (.t 73), none⟩,
   ⟨some (.v 10), .alloc [.int .i64 0, .int .i64 0, .bool false, .nilsl, .nilsl], none⟩,
   ⟨none, .store 5 (.v 10) (.t 74), none⟩])
   (.seq (.rg [⟨some (.t 76), .load true 5 (.v 10), none⟩,
   ⟨some (.t 77), .mv (.v 1), none⟩,
   ⟨some (.t 78), .bin .add (.t 77) (.c (.int .i64 1)), none⟩,
   ⟨some (.t 79), .call 79 [.t 76, .t 78], none⟩,
   ⟨some (.t 75), .mv (.t 79), none⟩,
   ⟨some (.t 80), .ext 0 (.t 75), none⟩,
   ⟨some (.t 81), .ext 1 (.t 75), none⟩,
   ⟨some (.v 11), .mv (.t 80), none⟩,
   ⟨some (.v 12), .mv (.t 81), none⟩])
   (.seq (.seq (.rg [⟨some (.t 82), .mv (.v 12), none⟩,
   ⟨some (.v 83), .bin .neq (.t 82) (.c (.int .i64 0)), none⟩])
   (.cond (.v 83) (.seq (.rg [⟨some (.t 84), .mv (.v 12), none⟩,
   ⟨some (.v 4), .mv (.c (.nilsl)), none⟩,
   ⟨some (.v 5), .mv (.t 84), none⟩])
   (.ret))
   (.skip)))
   (.rg [⟨some (.t 85), .mv (.v 8), none⟩,
   ⟨some (.t 86), .mv (.v 11), none⟩,
   ⟨some (.t 87), .bslE 1 (.nilsl) 1 [(0, .t 86)], none⟩,
   ⟨some (.t 88), .app false 1 24 (.t 85) (.t 87), none⟩,
   ⟨some (.v 8), .mv (.t 88), none⟩])))))
   (.rg [⟨some (.t 89), .bin .add (.v 71) (.c (.int .i64 1)), none⟩,
   ⟨some (.v 71), .mv (.t 89), none⟩])))
def m79k1 : List (Nat × KMode) := [(2, .plain), (7, .plain), (14, .ownB), (15, .plain)]
def m79b1 : MCode :=
 .seq (.seq (.rg [⟨some (.t 127), .mv (.v 15), none⟩,
   ⟨some (.v 128), .bin .geq (.t 127) (.c (.int .i64 0)), none⟩])
   (.cond (.v 128) (.skip)
   (.exit 4)))
  (.seq (.block 5 (.seq (.rg [⟨some (.t 131), .fad 1 (.v 2), none⟩,
   ⟨some (.t 132), .load false 1 (.t 131), none⟩,
   ⟨some (.t 133), .mv (.v 15), none⟩,
   ⟨some (.t 134), .bin .shr (.t 132) (.t 133), none⟩,
   ⟨some (.t 135), .bin .gtr (.t 134) (.c (.int .i64 0)), none⟩,
   ⟨some (.t 136), .mv (.t 135), none⟩,
   ⟨some (.t 137), .mv (.v 15), some (.t 136, false)⟩,
   ⟨some (.t 138), .bin .eql (.t 137) (.c (.int .i64 0)), some (.t 136, false)⟩,
   ⟨some (.v 139), .pick (.t 136) (.c (.bool true)) (.t 138), none⟩])
   (.cond (.v 139) (.seq (.rg [⟨some (.t 140), .fad 1 (.v 2), none⟩,
   ⟨some (.t 141), .load false 1 (.t 140), none⟩,
   ⟨some (.t 142), .mv (.v 15), none⟩,
   ⟨some (.t 143), .bin .shr (.t 141) (.t 142), none⟩,
   ⟨some (.t 144), .bin .and (.t 143) (.c (.int .i64 127)), none⟩,
   ⟨some (.t 145), .conv .u8 (.t 144), none⟩,
   ⟨some (.v 16), .mv (.t 145), none⟩])
   (.seq (.seq (.rg [⟨some (.t 146), .mv (.v 15), none⟩,
   ⟨some (.v 147), .bin .gtr (.t 146) (.c (.int .i64 0)), none⟩])
   (.cond (.v 147) (.rg [⟨some (.t 148), .mv (.v 16), none⟩,
   ⟨some (.t 149), .bin .or (.t 148) (.c (.int .u8 128)), none⟩,
   ⟨some (.v 16), .mv (.t 149), none⟩])
   (.skip)))
   (.rg [⟨some (.t 150), .mv (.v 14), none⟩,
   ⟨some (.t 151), .mv (.v 16), none⟩,
   ⟨some (.t 152), .bslB 1 [(0, .t 151)], none⟩,
   ⟨some (.t 153), .app true 1 1 (.t 150) (.t 152), none⟩,
   ⟨some (.v 14), .mv (.t 153), none⟩])))
   (.skip))))
   (.rg [⟨some (.t 129), .mv (.v 15), none⟩,
   ⟨some (.t 130), .bin .sub (.t 129) (.c (.int .i64 7)), none⟩,
   ⟨some (.v 15), .mv (.t 130), none⟩]))
def m79 : MFunc := ⟨2, [.other, .other], [(4, none, .byt), (5, none, .other)],
 .seq (.rg [⟨some (.v 2), .box (.v 0), none⟩,
   ⟨some (.v 4), .mv (.c (.nilsl)), none⟩,
   ⟨some (.v 5), .mv (.c (.int .i64 0)), none⟩])
  (.seq (.block 0 (.seq (.rg [⟨some (.t 19), .mv (.v 1), none⟩,
   ⟨some (.t 20), .bin .gtr (.t 19) (.c (.int .i64 16)), none⟩,
   ⟨some (.v 18), .mv (.t 20), none⟩])
   (.cond (.v 18) (.seq (.rg [⟨some (.v 4), .mv (.c (.nilsl)), none⟩,
   ⟨some (.v 5), .mv (.c (.int .i64 23)), none⟩])
   (.ret))
   (.seq (.rg [⟨some (.t 22), .fad 0 (.v 2), none⟩,
   ⟨some (.t 23), .load false 1 (.t 22), none⟩,
   ⟨some (.t 24), .bin .lss (.t 23) (.c (.int .i64 0)), none⟩,
   ⟨some (.t 25), .mv (.t 24), none⟩,
   ⟨some (.t 26), .fad 0 (.v 2), some (.t 25, false)⟩,
   ⟨some (.t 27), .load false 1 (.t 26), some (.t 25, false)⟩,
   ⟨some (.t 28), .bin .gtr (.t 27) (.c (.int .i64 3)), some (.t 25, false)⟩,
   ⟨some (.t 29), .pick (.t 25) (.c (.bool true)) (.t 28), none⟩,
   ⟨some (.t 30), .mv (.t 29), none⟩,
   ⟨some (.t 31), .fad 1 (.v 2), some (.t 30, false)⟩,
   ⟨some (.t 32), .load false 1 (.t 31), some (.t 30, false)⟩,
   ⟨some (.t 33), .bin .lss (.t 32) (.c (.int .i64 0)), some (.t 30, false)⟩,
   ⟨some (.t 34), .pick (.t 30) (.c (.bool true)) (.t 33), none⟩,
   ⟨some (.t 35), .mv (.t 34), none⟩,
   ⟨some (.t 36), .fad 1 (.v 2), some (.t 35, false)⟩,
   ⟨some (.t 37), .load false 1 (.t 36), some (.t 35, false)⟩,
   ⟨some (.t 38), .bin .geq (.t 37) (.c (.int .i64 2097152)), some (.t 35, false)⟩,
   ⟨some (.t 39), .pick (.t 35) (.c (.bool true)) (.t 38), none⟩,
   ⟨some (.v 21), .mv (.t 39), none⟩])
   (.cond (.v 21) (.seq (.rg [⟨some (.v 4), .mv (.c (.nilsl)), none⟩,
   ⟨some (.v 5), .mv (.c (.int .i64 21)), none⟩])
   (.ret))
   (.skip))))))
   (.seq (.rg [⟨some (.t 40), .load true 5 (.v 2), none⟩,
   ⟨some (.t 41), .call 103 [.t 40], none⟩,
   ⟨some (.v 6), .mv (.t 41), none⟩])
   (.seq (.block 1 (.seq (.rg [⟨some (.t 43), .mv (.v 6), none⟩,
   ⟨some (.t 44), .bin .eql (.t 43) (.c (.int .i64 21)), none⟩,
   ⟨some (.v 42), .mv (.t 44), none⟩])
   (.cond (.v 42) (.seq (.rg [⟨some (.t 45), .mv (.v 6), none⟩,
   ⟨some (.v 4), .mv (.c (.nilsl)), none⟩,
   ⟨some (.v 5), .mv (.t 45), none⟩])
   (.ret))
   (.seq (.seq (.rg [⟨some (.t 47), .mv (.v 6), none⟩,
   ⟨some (.t 48), .bin .neq (.t 47) (.c (.int .i64 0)), none⟩,
   ⟨some (.v 46), .mv (.t 48), none⟩])
   (.cond (.v 46) (.skip)
   (.seq (.rg [⟨some (.t 49), .fad 2 (.v 2), none⟩,
   ⟨some (.t 50), .load false 1 (.t 49), none⟩,
   ⟨some (.t 51), .mv (.t 50), none⟩,
   ⟨some (.t 52), .fad 3 (.v 2), some (.t 51, true)⟩,
   ⟨some (.t 53), .load false 1 (.t 52), some (.t 51, true)⟩,
   ⟨some (.t 54), .len false (.t 53), some (.t 51, true)⟩,
   ⟨some (.t 55), .bin .gtr (.t 54) (.c (.int .i64 0)), some (.t 51, true)⟩,
   ⟨some (.t 56), .pick (.t 51) (.t 55) (.c (.bool false)), none⟩,
   ⟨some (.v 46), .mv (.t 56), none⟩])
   (.cond (.v 46) (.skip)
   (.rg [⟨some (.t 57), .fad 2 (.v 2), none⟩,
   ⟨some (.t 58), .load false 1 (.t 57), none⟩,
   ⟨some (.t 59), .un .not (.t 58), none⟩,
   ⟨some (.t 60), .mv (.t 59), none⟩,
   ⟨some (.t 61), .fad 4 (.v 2), some (.t 60, true)⟩,
   ⟨some (.t 62), .load false 1 (.t 61), some (.t 60, true)⟩,
   ⟨some (.t 63), .len false (.t 62), some (.t 60, true)⟩,
   ⟨some (.t 64), .bin .gtr (.t 63) (.c (.int .i64 0)), some (.t 60, true)⟩,
   ⟨some (.t 65), .pick (.t 60) (.t 64) (.c (.bool false)), none⟩,
   ⟨some (.v 46), .mv (.t 65), none⟩])))))
   (.cond (.v 46) (.seq (.rg [⟨some (.v 4), .mv (.c (.nilsl)), none⟩,
   ⟨some (.v 5), .mv (.c (.int .i64 24)), none⟩])
   (.ret))
   (.skip))))))
   (.seq (.rg [⟨some (.t 66), .fad 3 (.v 2), none⟩,
   ⟨some (.t 67), .load false 1 (.t 66), none⟩,
   ⟨some (.v 7), .mv (.t 67), none⟩])
   (.seq (.rg [⟨some (.v 8), .mv (.c (.nilsl)), none⟩])
   (.seq (.seq (.rg [⟨some (.t 68), .fad 4 (.v 2), none⟩,
   ⟨some (.v 69), .load false 1 (.t 68), none⟩,
   ⟨some (.v 70), .len false (.v 69), none⟩,
   ⟨some (.v 71), .mv (.c (.int .i64 0)), none⟩])
   (.block 2 (.loop m79k0 m79b0)))
   (.seq (.seq (.rg [⟨some (.t 90), .fad 0 (.v 2), none⟩,
   ⟨some (.t 91), .load false 1 (.t 90), none⟩,
   ⟨some (.t 92), .bin .eql (.t 91) (.c (.int .i64 0)), none⟩,
   ⟨some (.t 93), .mv (.t 92), none⟩,
   ⟨some (.t 94), .fad 1 (.v 2), some (.t 93, true)⟩,
   ⟨some (.t 95), .load false 1 (.t 94), some (.t 93, true)⟩,
   ⟨some (.t 96), .bin .eql (.t 95) (.c (.int .i64 17)), some (.t 93, true)⟩,
   ⟨some (.t 97), .pick (.t 93) (.t 96) (.c (.bool false)), none⟩,
   ⟨some (.t 98), .mv (.t 97), none⟩,
   ⟨some (.t 99), .mv (.v 8), some (.t 98, true)⟩,
   ⟨some (.t 100), .call 104 [.t 99], some (.t 98, true)⟩,
   ⟨some (.t 101), .un .not (.t 100), some (.t 98, true)⟩,
   ⟨some (.v 102), .pick (.t 98) (.t 101) (.c (.bool false)), none⟩])
   (.cond (.v 102) (.seq (.rg [⟨some (.v 4), .mv (.c (.nilsl)), none⟩,
   ⟨some (.v 5), .mv (.c (.int .i64 25)), none⟩])
   (.ret))
   (.skip)))
   (.seq (.seq (.rg [⟨some (.t 103), .fad 2 (.v 2), none⟩,
   ⟨some (.v 104), .load false 1 (.t 103), none⟩])
   (.cond (.v 104) (.rg [⟨some (.t 105), .mv (.v 8), none⟩,
   ⟨some (.t 106), .call 105 [.t 105, .c (.nilsl)], none⟩,
   ⟨some (.v 7), .mv (.t 106), none⟩])
   (.skip)))
   (.seq (.rg [⟨some (.t 107), .fad 0 (.v 2), none⟩,
   ⟨some (.t 108), .load false 1 (.t 107), none⟩,
   ⟨some (.t 109), .bin .shl (.t 108) (.c (.int .u64 6)), none⟩,
   ⟨some (.t 110), .conv .u8 (.t 109), none⟩,
   ⟨some (.v 13), .mv (.t 110), none⟩])
   (.seq (.seq (.rg [⟨some (.t 111), .fad 2 (.v 2), none⟩,
   ⟨some (.v 112), .load false 1 (.t 111), none⟩])
   (.cond (.v 112) (.rg [⟨some (.t 113), .mv (.v 13), none⟩,
   ⟨some (.t 114), .bin .or (.t 113) (.c (.int .u8 32)), none⟩,
   ⟨some (.v 13), .mv (.t 114), none⟩])
   (.skip)))
   (.seq (.rg [⟨some (.v 14), .mv (.c (.nilsl)), none⟩])
   (.seq (.seq (.rg [⟨some (.t 115), .fad 1 (.v 2), none⟩,
   ⟨some (.t 116), .load false 1 (.t 115), none⟩,
   ⟨some (.v 117), .bin .lss (.t 116) (.c (.int .i64 31)), none⟩])
   (.cond (.v 117) (.rg [⟨some (.t 118), .mv (.v 13), none⟩,
   ⟨some (.t 119), .fad 1 (.v 2), none⟩,
   ⟨some (.t 120), .load false 1 (.t 119), none⟩,
   ⟨some (.t 121), .conv .u8 (.t 120), none⟩,
   ⟨some (.t 122), .bin .or (.t 118) (.t 121), none⟩,
   ⟨some (.t 123), .bslB 1 [(0, .t 122)], none⟩,
   ⟨some (.v 14), .mv (.t 123), none⟩])
   (.seq (.rg [⟨some (.t 124), .mv (.v 13), none⟩,
   ⟨some (.t 125), .bin .or (.t 124) (.c (.int .u8 31)), none⟩,
   ⟨some (.t 126), .bslB 1 [(0, .t 125)], none⟩,
   ⟨some (.v 14), .mv (.t 126), none⟩])
   (.seq (.rg [⟨some (.v 15), .mv (.c (.int .i64 14)), none⟩])
   (.block 4 (.loop m79k1 m79b1))))))
   (.seq (.rg [⟨some (.t 154), .mv (.v 7), none⟩,
   ⟨some (.t 155), .len false (.t 154), none⟩,
   ⟨some (.v 17), .mv (.t 155), none⟩])
   (.seq (.block 6 (.seq (.rg [⟨some (.t 168), .mv (.v 17), none⟩,
   ⟨some (.t 169), .bin .lss (.t 168) (.c (.int .i64 128)), none⟩,
   ⟨some (.v 167), .mv (.t 169), none⟩])
   (.cond (.v 167) (.rg [⟨some (.t 170), .mv (.v 14), none⟩,
   ⟨some (.t 171), .mv (.v 17), none⟩,
   ⟨some (.t 172), .conv .u8 (.t 171), none⟩,
   ⟨some (.t 173), .bslB 1 [(0, .t 172)], none⟩,
   ⟨some (.t 174), .app true 1 1 (.t 170) (.t 173), none⟩,
   ⟨some (.v 14), .mv (.t 174), none⟩])
   (.seq (.rg [⟨some (.t 176), .mv (.v 17), none⟩,
   ⟨some (.t 177), .bin .lss (.t 176) (.c (.int .i64 256)), none⟩,
   ⟨some (.v 175), .mv (.t 177), none⟩])
   (.cond (.v 175) (.rg [⟨some (.t 178), .mv (.v 14), none⟩,
   ⟨some (.t 179), .mv (.v 17), none⟩,
   ⟨some (.t 180), .conv .u8 (.t 179), none⟩,
   ⟨some (.t 181), .bslB 2 [(0, .c (.int .u8 129)), (1, .t 180)], none⟩,
   ⟨some (.t 182), .app true 1 1 (.t 178) (.t 181), none⟩,
   ⟨some (.v 14), .mv (.t 182), none⟩])
   (.seq (.rg [⟨some (.t 184), .mv (.v 17), none⟩,
   ⟨some (.t 185), .bin .lss (.t 184) (.c (.int .i64 65536)), none⟩,
   ⟨some (.v 183), .mv (.t 185), none⟩])
   (.cond (.v 183) (.rg [⟨some (.t 186), .mv (.v 14), none⟩,
   ⟨some (.t 187), .mv (.v 17), none⟩,
   ⟨some (.t 188), .bin .shr (.t 187) (.c (.int .u64 8)), none⟩,
   ⟨some (.t 189), .conv .u8 (.t 188), none⟩,
   ⟨some (.t 190), .mv (.v 17), none⟩,
   ⟨some (.t 191), .conv .u8 (.t 190), none⟩,
   ⟨some (.t 192), .bslB 3 [(0, .c (.int .u8 130)), (1, .t 189), (2, .t 191)], none⟩,
   ⟨some (.t 193), .app true 1 1 (.t 186) (.t 192), none⟩,
   ⟨some (.v 14), .mv (.t 193), none⟩])
   (.rg [⟨some (.t 156), .mv (.v 14), none⟩,
   ⟨some (.t 157), .mv (.v 17), none⟩,
   ⟨some (.t 158), .bin .shr (.t 157) (.c (.int .u64 16)), none⟩,
   ⟨some (.t 159), .conv .u8 (.t 158), none⟩,
   ⟨some (.t 160), .mv (.v 17), none⟩,
   ⟨some (.t 161), .bin .shr (.t 160) (.c (.int .u64 8)), none⟩,
   ⟨some (.t 162), .conv .u8 (.t 161), none⟩,
   ⟨some (.t 163), .mv (.v 17), none⟩,
   ⟨some (.t 164), .conv .u8 (.t 163), none⟩,
   ⟨some (.t 165), .bslB 4 [(0, .c (.int .u8 131)), (1, .t 159), (2, .t 162), (3, .t 164)], none⟩,
   ⟨some (.t 166), .app true 1 1 (.t 156) (.t 165), none⟩,
   ⟨some (.v 14), .mv (.t 166), none⟩]))))))))
   (.seq (.rg [⟨some (.t 194), .mv (.v 14), none⟩,
   ⟨some (.t 195), .mv (.v 7), none⟩,
   ⟨some (.t 196), .app true 1 1 (.t 194) (.t 195), none⟩,
   ⟨some (.v 4), .mv (.t 196), none⟩,
   ⟨some (.v 5), .mv (.c (.int .i64 0)), none⟩])
   (.ret))))))))))))))))⟩
theorem m79o : okE Tryz.prog 79 m79 = some m79.body := by kernel_rfl

def m81 : MFunc := ⟨1, [.other], [(2, none, .other)],
 .seq (.rg [⟨some (.v 2), .mv (.c (.bool false)), none⟩])
  (.seq (.rg [⟨some (.t 3), .mv (.v 0), none⟩,
   ⟨some (.t 4), .bin .geq (.t 3) (.c (.int .u8 97)), none⟩,
   ⟨some (.t 5), .mv (.t 4), none⟩,
   ⟨some (.t 6), .mv (.v 0), some (.t 5, true)⟩,
   ⟨some (.t 7), .bin .leq (.t 6) (.c (.int .u8 122)), some (.t 5, true)⟩,
   ⟨some (.t 8), .pick (.t 5) (.t 7) (.c (.bool false)), none⟩,
   ⟨some (.t 9), .mv (.t 8), none⟩,
   ⟨some (.t 10), .mv (.v 0), some (.t 9, false)⟩,
   ⟨some (.t 11), .bin .geq (.t 10) (.c (.int .u8 65)), some (.t 9, false)⟩,
   ⟨some (.t 12), .mv (.t 11), some (.t 9, false)⟩,
   ⟨some (.t 13), .mv (.v 0), some (.t 12, true)⟩,
   ⟨some (.t 14), .bin .leq (.t 13) (.c (.int .u8 90)), some (.t 12, true)⟩,
   ⟨some (.t 15), .pick (.t 12) (.t 14) (.c (.bool false)), some (.t 9, false)⟩,
   ⟨some (.t 16), .pick (.t 9) (.c (.bool true)) (.t 15), none⟩,
   ⟨some (.t 17), .mv (.t 16), none⟩,
   ⟨some (.t 18), .mv (.v 0), some (.t 17, false)⟩,
   ⟨some (.t 19), .bin .geq (.t 18) (.c (.int .u8 48)), some (.t 17, false)⟩,
   ⟨some (.t 20), .mv (.t 19), some (.t 17, false)⟩,
   ⟨some (.t 21), .mv (.v 0), some (.t 20, true)⟩,
   ⟨some (.t 22), .bin .leq (.t 21) (.c (.int .u8 57)), some (.t 20, true)⟩,
   ⟨some (.t 23), .pick (.t 20) (.t 22) (.c (.bool false)), some (.t 17, false)⟩,
   ⟨some (.t 24), .pick (.t 17) (.c (.bool true)) (.t 23), none⟩,
   ⟨some (.t 25), .mv (.t 24), none⟩,
   ⟨some (.t 26), .bslB 12 [(0, .c (.int .u8 32)), (1, .c (.int .u8 39)), (2, .c (.int .u8 40)), (3, .c (.int .u8 41)), (4, .c (.int .u8 43)), (5, .c (.int .u8 44)), (6, .c (.int .u8 45)), (7, .c (.int .u8 46)), (8, .c (.int .u8 47)), (9, .c (.int .u8 58)), (10, .c (.int .u8 61)), (11, .c (.int .u8 63))], some (.t 25, false)⟩,
   ⟨some (.t 27), .mark (.t 26), some (.t 25, false)⟩,
   ⟨some (.t 28), .mv (.v 0), some (.t 25, false)⟩,
   ⟨some (.t 29), .call 107 [.t 27, .t 28], some (.t 25, false)⟩,
   ⟨some (.t 30), .bin .geq (.t 29) (.c (.int .i64 0)), some (.t 25, false)⟩,
   ⟨some (.t 31), .pick (.t 25) (.c (.bool true)) (.t 30), none⟩,
   ⟨some (.v 2), .mv (.t 31), none⟩])
   (.ret))⟩
theorem m81o : okE Tryz.prog 81 m81 = some m81.body := by kernel_rfl

def m84k0 : List (Nat × KMode) := [(0, .plain), (3, .plain)]
def m84b0 : MCode :=
 .seq (.seq (.rg [⟨some (.t 5), .mv (.v 3), none⟩,
   ⟨some (.t 6), .mv (.v 0), none⟩,
   ⟨some (.t 7), .len false (.t 6), none⟩,
   ⟨some (.v 8), .bin .lss (.t 5) (.t 7), none⟩])
   (.cond (.v 8) (.skip)
   (.exit 0)))
  (.block 1 (.seq (.rg [⟨some (.t 9), .mv (.v 0), none⟩,
   ⟨some (.t 10), .mv (.v 3), none⟩,
   ⟨some (.t 11), .call 109 [.t 9, .t 10], none⟩,
   ⟨some (.v 4), .mv (.t 11), none⟩])
   (.seq (.seq (.rg [⟨some (.t 12), .mv (.v 4), none⟩,
   ⟨some (.v 13), .bin .eql (.t 12) (.c (.int .i64 0)), none⟩])
   (.cond (.v 13) (.seq (.rg [⟨some (.v 2), .mv (.c (.bool false)), none⟩])
   (.ret))
   (.skip)))
   (.rg [⟨some (.t 14), .mv (.v 3), none⟩,
   ⟨some (.t 15), .mv (.v 4), none⟩,
   ⟨some (.t 16), .bin .add (.t 14) (.t 15), none⟩,
   ⟨some (.v 3), .mv (.t 16), none⟩]))))
def m84 : MFunc := ⟨1, [.byt], [(2, none, .other)],
 .seq (.rg [⟨some (.v 2), .mv (.c (.bool false)), none⟩])
  (.seq (.rg [⟨some (.v 3), .mv (.c (.int .i64 0)), none⟩])
   (.seq (.block 0 (.loop m84k0 m84b0))
   (.seq (.rg [⟨some (.v 2), .mv (.c (.bool true)), none⟩])
   (.ret))))⟩
theorem m84o : okE Tryz.prog 84 m84 = some m84.body := by kernel_rfl

def m85k0 : List (Nat × KMode) := [(0, .plain), (3, .plain), (4, .plain)]
def m85b0 : MCode :=
 .seq (.seq (.rg [⟨some (.t 27), .mv (.v 4), none⟩,
   ⟨some (.t 28), .mv (.v 3), none⟩,
   ⟨some (.t 29), .len true (.t 28), none⟩,
   ⟨some (.v 30), .bin .lss (.t 27) (.t 29), none⟩])
   (.cond (.v 30) (.skip)
   (.exit 0)))
  (.seq (.block 1 (.seq (.rg [⟨some (.t 33), .mv (.v 3), none⟩,
   ⟨some (.t 34), .mv (.v 4), none⟩,
   ⟨some (.t 35), .idxS (.t 33) (.t 34), none⟩,
   ⟨some (.t 36), .mv (.v 0), none⟩,
   ⟨some (.v 37), .bin .eql (.t 35) (.t 36), none⟩])
   (.cond (.v 37) (.seq (.rg [⟨some (.v 2), .mv (.c (.bool true)), none⟩])
   (.ret))
   (.skip))))
   (.rg [⟨some (.t 31), .mv (.v 4), none⟩,
   ⟨some (.t 32), .bin .add (.t 31) (.c (.int .i64 1)), none⟩,
   ⟨some (.v 4), .mv (.t 32), none⟩]))
def m85 : MFunc := ⟨1, [.other], [(2, none, .other)],
 .seq (.rg [⟨some (.v 2), .mv (.c (.bool false)), none⟩])
  (.seq (.seq (.rg [⟨some (.t 5), .mv (.v 0), none⟩,
   ⟨some (.t 6), .bin .geq (.t 5) (.c (.int .u8 97)), none⟩,
   ⟨some (.t 7), .mv (.t 6), none⟩,
   ⟨some (.t 8), .mv (.v 0), some (.t 7, true)⟩,
   ⟨some (.t 9), .bin .leq (.t 8) (.c (.int .u8 122)), some (.t 7, true)⟩,
   ⟨some (.t 10), .pick (.t 7) (.t 9) (.c (.bool false)), none⟩,
   ⟨some (.t 11), .mv (.t 10), none⟩,
   ⟨some (.t 12), .mv (.v 0), some (.t 11, false)⟩,
   ⟨some (.t 13), .bin .geq (.t 12) (.c (.int .u8 65)), some (.t 11, false)⟩,
   ⟨some (.t 14), .mv (.t 13), some (.t 11, false)⟩,
   ⟨some (.t 15), .mv (.v 0), some (.t 14, true)⟩,
   ⟨some (.t 16), .bin .leq (.t 15) (.c (.int .u8 90)), some (.t 14, true)⟩,
   ⟨some (.t 17), .pick (.t 14) (.t 16) (.c (.bool false)), some (.t 11, false)⟩,
   ⟨some (.t 18), .pick (.t 11) (.c (.bool true)) (.t 17), none⟩,
   ⟨some (.t 19), .mv (.t 18), none⟩,
   ⟨some (.t 20), .mv (.v 0), some (.t 19, false)⟩,
   ⟨some (.t 21), .bin .geq (.t 20) (.c (.int .u8 48)), some (.t 19, false)⟩,
   ⟨some (.t 22), .mv (.t 21), some (.t 19, false)⟩,
   ⟨some (.t 23), .mv (.v 0), some (.t 22, true)⟩,
   ⟨some (.t 24), .bin .leq (.t 23) (.c (.int .u8 57)), some (.t 22, true)⟩,
   ⟨some (.t 25), .pick (.t 22) (.t 24) (.c (.bool false)), some (.t 19, false)⟩,
   ⟨some (.v 26), .pick (.t 19) (.c (.bool true)) (.t 25), none⟩])
   (.cond (.v 26) (.seq (.rg [⟨some (.v 2), .mv (.c (.bool true)), none⟩])
   (.ret))
   (.skip)))
   (.seq (.rg [⟨some (.v 3), .mv (.c (.str [32, 39, 40, 41, 43, 44, 45, 46, 47, 58, 61, 63])), none⟩])
   (.seq (.seq (.rg [⟨some (.v 4), .mv (.c (.int .i64 0)), none⟩])
   (.block 0 (.loop m85k0 m85b0)))
   (.seq (.rg [⟨some (.v 2), .mv (.c (.bool false)), none⟩])
   (.ret)))))⟩
theorem m85o : okE Tryz.prog 85 m85 = some m85.body := by kernel_rfl

def m86k0 : List (Nat × KMode) := [(0, .plain), (1, .plain), (7, .plain), (8, .plain)]
def m86b0 : MCode :=
 .seq (.rg [⟨some (.v 9), .bin .lss (.v 8) (.v 7), none⟩])
  (.seq (.cond (.v 9) (.skip)
   (.exit 0))
   (.seq (.block 1 (.seq (.rg [⟨some (.t 10), .mv (.v 8), none⟩,
   ⟨some (.v 5), .mv (.t 10), none⟩])
   (.seq (.rg [⟨some (.t 11), .mv (.v 1), none⟩,
   ⟨some (.t 12), .mv (.v 0), none⟩,
   ⟨some (.t 13), .mv (.v 5), none⟩,
   ⟨some (.t 14), .iad 2 (.t 12) (.t 13), none⟩,
   ⟨some (.t 15), .load true 2 (.t 14), none⟩,
   ⟨some (.v 16), .callv (.t 11) [.t 15], none⟩])
   (.cond (.v 16) (.seq (.rg [⟨some (.t 17), .mv (.v 5), none⟩,
   ⟨some (.v 4), .mv (.t 17), none⟩])
   (.ret))
   (.skip)))))
   (.rg [⟨some (.t 18), .bin .add (.v 8) (.c (.int .i64 1)), none⟩,
   ⟨some (.v 8), .mv (.t 18), none⟩])))
def m86 : MFunc := ⟨2, [.el 2, .other], [(4, none, .other)],
 .seq (.rg [⟨some (.v 4), .mv (.c (.int .i64 0)), none⟩])
  (.seq (.seq (.rg [⟨some (.t 6), .mv (.v 0), none⟩,
   ⟨some (.v 7), .len false (.t 6), none⟩,
   ⟨some (.v 8), .mv (.c (.int .i64 0)), none⟩])
   (.block 0 (.loop m86k0 m86b0)))
   (.seq (.rg [⟨some (.v 4), .mv (.c (.int .i64 (-1))), none⟩])
   (.ret)))⟩
theorem m86o : okE Tryz.prog 86 m86 = some m86.body := by kernel_rfl

def m87k1 : List (Nat × KMode) := [(0, .plain), (4, (.ownE 1)), (6, .plain), (7, .plain), (8, .plain), (9, .plain)]
def m87b1 : MCode :=
 .seq (.seq (.rg [⟨some (.t 58), .mv (.v 9), none⟩,
   ⟨some (.t 59), .mv (.v 7), none⟩,
   ⟨some (.t 60), .len true (.t 59), none⟩,
   ⟨some (.v 61), .bin .lss (.t 58) (.t 60), none⟩])
   (.cond (.v 61) (.skip)
   (.exit 2)))
  (.seq (.block 3 (.rg [⟨some (.t 64), .mv (.v 8), none⟩,
   ⟨some (.t 65), .bin .mul (.c (.int .i64 10)) (.t 64), none⟩,
   ⟨some (.t 66), .mv (.v 7), none⟩,
   ⟨some (.t 67), .mv (.v 9), none⟩,
   ⟨some (.t 68), .idxS (.t 66) (.t 67), none⟩,
   ⟨some (.t 69), .conv .i64 (.t 68), none⟩,
   ⟨some (.t 70), .bin .add (.t 65) (.t 69), none⟩,
   ⟨some (.t 71), .bin .sub (.t 70) (.c (.int .i64 48)), none⟩,
   ⟨some (.v 8), .mv (.t 71), none⟩]))
   (.rg [⟨some (.t 62), .mv (.v 9), none⟩,
   ⟨some (.t 63), .bin .add (.t 62) (.c (.int .i64 1)), none⟩,
   ⟨some (.v 9), .mv (.t 63), none⟩]))
def m87k0 : List (Nat × KMode) := [(0, .plain), (4, (.ownE 1)), (5, .plain), (6, .plain)]
def m87b0 : MCode :=
 .seq (.seq (.rg [⟨some (.t 10), .mv (.v 6), none⟩,
   ⟨some (.t 11), .mv (.v 0), none⟩,
   ⟨some (.t 12), .len true (.t 11), none⟩,
   ⟨some (.v 13), .bin .leq (.t 10) (.t 12), none⟩])
   (.cond (.v 13) (.skip)
   (.exit 0)))
  (.seq (.block 1 (.seq (.seq (.rg [⟨some (.t 16), .mv (.v 6), none⟩,
   ⟨some (.t 17), .mv (.v 0), none⟩,
   ⟨some (.t 18), .len true (.t 17), none⟩,
   ⟨some (.t 19), .bin .lss (.t 16) (.t 18), none⟩,
   ⟨some (.t 20), .mv (.t 19), none⟩,
   ⟨some (.t 21), .mv (.v 0), some (.t 20, true)⟩,
   ⟨some (.t 22), .mv (.v 6), some (.t 20, true)⟩,
   ⟨some (.t 23), .idxS (.t 21) (.t 22), some (.t 20, true)⟩,
   ⟨some (.t 24), .bin .neq (.t 23) (.c (.int .u8 46)), some (.t 20, true)⟩,
   ⟨some (.v 25), .pick (.t 20) (.t 24) (.c (.bool false)), none⟩])
   (.cond (.v 25) (.seq (.seq (.rg [⟨some (.t 26), .mv (.v 0), none⟩,
   ⟨some (.t 27), .mv (.v 6), none⟩,
   ⟨some (.t 28), .idxS (.t 26) (.t 27), none⟩,
   ⟨some (.t 29), .bin .lss (.t 28) (.c (.int .u8 48)), none⟩,
   ⟨some (.t 30), .mv (.t 29), none⟩,
   ⟨some (.t 31), .mv (.v 0), some (.t 30, false)⟩,
   ⟨some (.t 32), .mv (.v 6), some (.t 30, false)⟩,
   ⟨some (.t 33), .idxS (.t 31) (.t 32), some (.t 30, false)⟩,
   ⟨some (.t 34), .bin .gtr (.t 33) (.c (.int .u8 57)), some (.t 30, false)⟩,
   ⟨some (.v 35), .pick (.t 30) (.c (.bool true)) (.t 34), none⟩])
   (.cond (.v 35) (.seq (.rg [⟨some (.v 2), .mv (.c (.nilsl)), none⟩,
   ⟨some (.v 3), .mv (.c (.bool false)), none⟩])
   (.ret))
   (.skip)))
   (.exit 1))
   (.skip)))
   (.seq (.rg [⟨some (.t 36), .mv (.v 0), none⟩,
   ⟨some (.t 37), .mv (.v 5), none⟩,
   ⟨some (.t 38), .mv (.v 6), none⟩,
   ⟨some (.t 39), .slc true 1 (.t 36) (some (.t 37)) (some (.t 38)), none⟩,
   ⟨some (.v 7), .mv (.t 39), none⟩])
   (.seq (.seq (.rg [⟨some (.t 40), .mv (.v 7), none⟩,
   ⟨some (.t 41), .len true (.t 40), none⟩,
   ⟨some (.t 42), .bin .eql (.t 41) (.c (.int .i64 0)), none⟩,
   ⟨some (.t 43), .mv (.t 42), none⟩,
   ⟨some (.t 44), .mv (.v 7), some (.t 43, false)⟩,
   ⟨some (.t 45), .len true (.t 44), some (.t 43, false)⟩,
   ⟨some (.t 46), .bin .gtr (.t 45) (.c (.int .i64 13)), some (.t 43, false)⟩,
   ⟨some (.t 47), .pick (.t 43) (.c (.bool true)) (.t 46), none⟩,
   ⟨some (.t 48), .mv (.t 47), none⟩,
   ⟨some (.t 49), .mv (.v 7), some (.t 48, false)⟩,
   ⟨some (.t 50), .len true (.t 49), some (.t 48, false)⟩,
   ⟨some (.t 51), .bin .gtr (.t 50) (.c (.int .i64 1)), some (.t 48, false)⟩,
   ⟨some (.t 52), .mv (.t 51), some (.t 48, false)⟩,
   ⟨some (.t 53), .mv (.v 7), some (.t 52, true)⟩,
   ⟨some (.t 54), .idxS (.t 53) (.c (.int .i64 0)), some (.t 52, true)⟩,
   ⟨some (.t 55), .bin .eql (.t 54) (.c (.int .u8 48)), some (.t 52, true)⟩,
   ⟨some (.t 56), .pick (.t 52) (.t 55) (.c (.bool false)), some (.t 48, false)⟩,
   ⟨some (.v 57), .pick (.t 48) (.c (.bool true)) (.t 56), none⟩])
   (.cond (.v 57) (.seq (.rg [⟨some (.v 2), .mv (.c (.nilsl)), none⟩,
   ⟨some (.v 3), .mv (.c (.bool false)), none⟩])
   (.ret))
   (.skip)))
   (.seq (.rg [⟨some (.v 8), .mv (.c (.int .i64 0)), none⟩])
   (.seq (.seq (.rg [⟨some (.v 9), .mv (.c (.int .i64 0)), none⟩])
   (.block 2 (.loop m87k1 m87b1)))
   (.seq (.seq (.rg [⟨some (.t 72), .mv (.v 8), none⟩,
   ⟨some (.v 73), .bin .geq (.t 72) (.c (.int .i64 1099511627776)), none⟩])
   (.cond (.v 73) (.seq (.rg [⟨some (.v 2), .mv (.c (.nilsl)), none⟩,
   ⟨some (.v 3), .mv (.c (.bool false)), none⟩])
   (.ret))
   (.skip)))
   (.seq (.rg [⟨some (.t 74), .mv (.v 4), none⟩,
   ⟨some (.t 75), .mv (.v 8), none⟩,
   ⟨some (.t 76), .bslE 1 (.int .i64 0) 1 [(0, .t 75)], none⟩,
   ⟨some (.t 77), .app false 1 8 (.t 74) (.t 76), none⟩,
   ⟨some (.v 4), .mv (.t 77), none⟩])
   (.rg [⟨some (.t 78), .mv (.v 6), none⟩,
   ⟨some (.t 79), .bin .add (.t 78) (.c (.int .i64 1)), none⟩,
   ⟨some (.v 5), .mv (.t 79), none⟩])))))))))
   (.rg [⟨some (.t 14), .mv (.v 6), none⟩,
   ⟨some (.t 15), .bin .add (.t 14) (.c (.int .i64 1)), none⟩,
   ⟨some (.v 6), .mv (.t 15), none⟩]))
def m87 : MFunc := ⟨1, [.other], [(2, none, .ownE 1), (3, none, .other)],
 .seq (.rg [⟨some (.v 2), .mv (.c (.nilsl)), none⟩,
   ⟨some (.v 3), .mv (.c (.bool false)), none⟩])
  (.seq (.rg [⟨some (.v 4), .mv (.c (.nilsl)), none⟩])
   (.seq (.rg [⟨some (.v 5), .mv (.c (.int .i64 0)), none⟩])
   (.seq (.seq (.rg [⟨some (.v 6), .mv (.c (.int .i64 0)), none⟩])
   (.block 0 (.loop m87k0 m87b0)))
   (.seq (.rg [⟨some (.t 80), .mv (.v 4), none⟩,
   ⟨some (.t 81), .mv (.v 4), none⟩,
   ⟨some (.t 82), .len false (.t 81), none⟩,
   ⟨some (.t 83), .bin .geq (.t 82) (.c (.int .i64 2)), none⟩,
   ⟨some (.t 84), .mv (.t 83), none⟩,
   ⟨some (.t 85), .mv (.v 4), some (.t 84, true)⟩,
   ⟨some (.t 86), .len false (.t 85), some (.t 84, true)⟩,
   ⟨some (.t 87), .bin .leq (.t 86) (.c (.int .i64 20)), some (.t 84, true)⟩,
   ⟨some (.t 88), .pick (.t 84) (.t 87) (.c (.bool false)), none⟩,
   ⟨some (.v 2), .mv (.t 80), none⟩,
   ⟨some (.v 3), .mv (.t 88), none⟩])
   (.ret)))))⟩
theorem m87o : okE Tryz.prog 87 m87 = some m87.body := by kernel_rfl

def m96 : MFunc := ⟨2, [.other, .other], [(4, none, .other)],
 .seq (.rg [⟨some (.v 4), .mv (.c (.int .i64 0)), none⟩])
  (.seq (.rg [⟨some (.t 5), .mv (.v 0), none⟩,
   ⟨some (.t 6), .mv (.v 1), none⟩,
   ⟨some (.t 7), .call 124 [.t 5, .t 6, .c (.bool true)], none⟩,
   ⟨some (.v 4), .mv (.t 7), none⟩])
   (.ret))⟩
theorem m96o : okE Tryz.prog 96 m96 = some m96.body := by kernel_rfl

def m97 : MFunc := ⟨2, [.other, .other], [(4, none, .other)],
 .seq (.rg [⟨some (.v 4), .mv (.c (.bool false)), none⟩])
  (.seq (.rg [⟨some (.t 5), .mv (.v 0), none⟩,
   ⟨some (.t 6), .len true (.t 5), none⟩,
   ⟨some (.t 7), .mv (.v 1), none⟩,
   ⟨some (.t 8), .len true (.t 7), none⟩,
   ⟨some (.t 9), .bin .geq (.t 6) (.t 8), none⟩,
   ⟨some (.t 10), .mv (.t 9), none⟩,
   ⟨some (.t 11), .mv (.v 0), some (.t 10, true)⟩,
   ⟨some (.t 12), .mv (.v 0), some (.t 10, true)⟩,
   ⟨some (.t 13), .len true (.t 12), some (.t 10, true)⟩,
   ⟨some (.t 14), .mv (.v 1), some (.t 10, true)⟩,
   ⟨some (.t 15), .len true (.t 14), some (.t 10, true)⟩,
   ⟨some (.t 16), .bin .sub (.t 13) (.t 15), some (.t 10, true)⟩,
   ⟨some (.t 17), .slc true 1 (.t 11) (some (.t 16)) none, some (.t 10, true)⟩,
   ⟨some (.t 18), .mv (.v 1), some (.t 10, true)⟩,
   ⟨some (.t 19), .bin .eql (.t 17) (.t 18), some (.t 10, true)⟩,
   ⟨some (.t 20), .pick (.t 10) (.t 19) (.c (.bool false)), none⟩,
   ⟨some (.v 4), .mv (.t 20), none⟩])
   (.ret))⟩
theorem m97o : okE Tryz.prog 97 m97 = some m97.body := by kernel_rfl

def m103 : MFunc := ⟨1, [.other], [(2, none, .other)],
 .seq (.rg [⟨some (.v 1), .box (.v 0), none⟩,
   ⟨some (.v 2), .mv (.c (.int .i64 0)), none⟩])
  (.seq (.seq (.rg [⟨some (.t 5), .fad 0 (.v 1), none⟩,
   ⟨some (.t 6), .load false 1 (.t 5), none⟩,
   ⟨some (.v 7), .bin .neq (.t 6) (.c (.int .i64 0)), none⟩])
   (.cond (.v 7) (.seq (.rg [⟨some (.v 2), .mv (.c (.int .i64 0)), none⟩])
   (.ret))
   (.skip)))
   (.seq (.rg [⟨some (.t 9), .fad 1 (.v 1), none⟩,
   ⟨some (.t 10), .load false 1 (.t 9), none⟩,
   ⟨some (.t 11), .call 127 [.t 10], none⟩,
   ⟨some (.t 8), .mv (.t 11), none⟩,
   ⟨some (.t 12), .ext 0 (.t 8), none⟩,
   ⟨some (.t 13), .ext 1 (.t 8), none⟩,
   ⟨some (.v 3), .alloc [.bool false, .nilfn], none⟩,
   ⟨none, .store 2 (.v 3) (.t 12), none⟩,
   ⟨some (.v 4), .mv (.t 13), none⟩])
   (.seq (.block 0 (.seq (.rg [⟨some (.t 15), .mv (.v 4), none⟩,
   ⟨some (.t 16), .un .not (.t 15), none⟩,
   ⟨some (.t 17), .mv (.t 16), none⟩,
   ⟨some (.t 18), .fad 0 (.v 3), some (.t 17, false)⟩,
   ⟨some (.t 19), .load false 1 (.t 18), some (.t 17, false)⟩,
   ⟨some (.t 20), .fad 2 (.v 1), some (.t 17, false)⟩,
   ⟨some (.t 21), .load false 1 (.t 20), some (.t 17, false)⟩,
   ⟨some (.t 22), .eqs .bool true (.t 19) (.t 21), some (.t 17, false)⟩,
   ⟨some (.t 23), .pick (.t 17) (.c (.bool true)) (.t 22), none⟩,
   ⟨some (.v 14), .mv (.t 23), none⟩])
   (.cond (.v 14) (.seq (.rg [⟨some (.v 2), .mv (.c (.int .i64 21)), none⟩])
   (.ret))
   (.seq (.rg [⟨some (.t 25), .fad 2 (.v 1), none⟩,
   ⟨some (.t 26), .load false 1 (.t 25), none⟩,
   ⟨some (.t 27), .un .not (.t 26), none⟩,
   ⟨some (.t 28), .mv (.t 27), none⟩,
   ⟨some (.t 29), .fad 1 (.v 3), some (.t 28, true)⟩,
   ⟨some (.t 30), .load false 1 (.t 29), some (.t 28, true)⟩,
   ⟨some (.t 31), .fad 3 (.v 1), some (.t 28, true)⟩,
   ⟨some (.t 32), .load false 1 (.t 31), some (.t 28, true)⟩,
   ⟨some (.t 33), .callv (.t 30) [.t 32], some (.t 28, true)⟩,
   ⟨some (.t 34), .un .not (.t 33), some (.t 28, true)⟩,
   ⟨some (.t 35), .pick (.t 28) (.t 34) (.c (.bool false)), none⟩,
   ⟨some (.v 24), .mv (.t 35), none⟩])
   (.cond (.v 24) (.seq (.rg [⟨some (.v 2), .mv (.c (.int .i64 24)), none⟩])
   (.ret))
   (.skip))))))
   (.seq (.rg [⟨some (.v 2), .mv (.c (.int .i64 0)), none⟩])
   (.ret)))))⟩
theorem m103o : okE Tryz.prog 103 m103 = some m103.body := by kernel_rfl

def m104k0 : List (Nat × KMode) := [(0, .plain), (3, .plain)]
def m104b0 : MCode :=
 .seq (.seq (.rg [⟨some (.t 4), .mv (.v 3), none⟩,
   ⟨some (.t 5), .mv (.v 0), none⟩,
   ⟨some (.t 6), .len false (.t 5), none⟩,
   ⟨some (.v 7), .bin .lss (.t 4) (.t 6), none⟩])
   (.cond (.v 7) (.skip)
   (.exit 0)))
  (.seq (.block 1 (.seq (.rgd [⟨some (.t 10), .mv (.v 0), none⟩,
   ⟨some (.t 11), .mv (.v 3), none⟩,
   ⟨some (.t 12), .bin .sub (.t 11) (.c (.int .i64 1)), none⟩,
   ⟨some (.t 13), .iad 1 (.t 10) (.t 12), none⟩,
   ⟨some (.t 14), .load false 1 (.t 13), none⟩,
   ⟨some (.t 15), .mv (.v 0), none⟩,
   ⟨some (.t 16), .mv (.v 3), none⟩,
   ⟨some (.t 17), .iad 1 (.t 15) (.t 16), none⟩,
   ⟨some (.t 18), .load false 1 (.t 17), none⟩,
   ⟨some (.t 19), .call 128 [.t 14, .t 18], none⟩,
   ⟨some (.v 20), .bin .gtr (.t 19) (.c (.int .i64 0)), none⟩]
   [[], [], [1], [0, 1, 2], [0, 1, 2, 3], [], [], [5, 6], [5, 6, 7], [0, 1, 2, 3, 4, 5, 6, 7, 8], [0, 1, 2, 3, 4, 5, 6, 7, 8, 9]])
   (.cond (.v 20) (.seq (.rg [⟨some (.v 2), .mv (.c (.bool false)), none⟩])
   (.ret))
   (.skip))))
   (.rg [⟨some (.t 8), .mv (.v 3), none⟩,
   ⟨some (.t 9), .bin .add (.t 8) (.c (.int .i64 1)), none⟩,
   ⟨some (.v 3), .mv (.t 9), none⟩]))
def m104 : MFunc := ⟨1, [.el 1], [(2, none, .other)],
 .seq (.rg [⟨some (.v 2), .mv (.c (.bool false)), none⟩])
  (.seq (.seq (.rg [⟨some (.v 3), .mv (.c (.int .i64 1)), none⟩])
   (.block 0 (.loop m104k0 m104b0)))
   (.seq (.rg [⟨some (.v 2), .mv (.c (.bool true)), none⟩])
   (.ret)))⟩
theorem m104o : okE Tryz.prog 104 m104 = some m104.body := by kernel_rfl

def m109k0 : List (Nat × KMode) := [(0, .plain), (1, .plain), (6, .plain), (7, .plain), (8, .plain), (9, .plain)]
def m109b0 : MCode :=
 .seq (.seq (.rg [⟨some (.t 48), .mv (.v 9), none⟩,
   ⟨some (.t 49), .mv (.v 6), none⟩,
   ⟨some (.v 50), .bin .lss (.t 48) (.t 49), none⟩])
   (.cond (.v 50) (.skip)
   (.exit 0)))
  (.seq (.block 1 (.seq (.seq (.rg [⟨some (.t 53), .mv (.v 0), none⟩,
   ⟨some (.t 54), .mv (.v 1), none⟩,
   ⟨some (.t 55), .mv (.v 9), none⟩,
   ⟨some (.t 56), .bin .add (.t 54) (.t 55), none⟩,
   ⟨some (.t 57), .iad 1 (.t 53) (.t 56), none⟩,
   ⟨some (.t 58), .load false 1 (.t 57), none⟩,
   ⟨some (.t 59), .bin .lss (.t 58) (.c (.int .u8 128)), none⟩,
   ⟨some (.t 60), .mv (.t 59), none⟩,
   ⟨some (.t 61), .mv (.v 0), some (.t 60, false)⟩,
   ⟨some (.t 62), .mv (.v 1), some (.t 60, false)⟩,
   ⟨some (.t 63), .mv (.v 9), some (.t 60, false)⟩,
   ⟨some (.t 64), .bin .add (.t 62) (.t 63), some (.t 60, false)⟩,
   ⟨some (.t 65), .iad 1 (.t 61) (.t 64), some (.t 60, false)⟩,
   ⟨some (.t 66), .load false 1 (.t 65), some (.t 60, false)⟩,
   ⟨some (.t 67), .bin .geq (.t 66) (.c (.int .u8 192)), some (.t 60, false)⟩,
   ⟨some (.v 68), .pick (.t 60) (.c (.bool true)) (.t 67), none⟩])
   (.cond (.v 68) (.seq (.rg [⟨some (.v 4), .mv (.c (.int .i64 0)), none⟩])
   (.ret))
   (.skip)))
   (.rg [⟨some (.t 69), .mv (.v 8), none⟩,
   ⟨some (.t 70), .bin .mul (.c (.int .i64 64)) (.t 69), none⟩,
   ⟨some (.t 71), .mv (.v 0), none⟩,
   ⟨some (.t 72), .mv (.v 1), none⟩,
   ⟨some (.t 73), .mv (.v 9), none⟩,
   ⟨some (.t 74), .bin .add (.t 72) (.t 73), none⟩,
   ⟨some (.t 75), .iad 1 (.t 71) (.t 74), none⟩,
   ⟨some (.t 76), .load false 1 (.t 75), none⟩,
   ⟨some (.t 77), .conv .i64 (.t 76), none⟩,
   ⟨some (.t 78), .bin .rem (.t 77) (.c (.int .i64 64)), none⟩,
   ⟨some (.t 79), .bin .add (.t 70) (.t 78), none⟩,
   ⟨some (.v 8), .mv (.t 79), none⟩])))
   (.rg [⟨some (.t 51), .mv (.v 9), none⟩,
   ⟨some (.t 52), .bin .add (.t 51) (.c (.int .i64 1)), none⟩,
   ⟨some (.v 9), .mv (.t 52), none⟩]))
def m109 : MFunc := ⟨2, [.byt, .other], [(4, none, .other)],
 .seq (.rg [⟨some (.v 4), .mv (.c (.int .i64 0)), none⟩])
  (.seq (.rg [⟨some (.t 10), .mv (.v 0), none⟩,
   ⟨some (.t 11), .mv (.v 1), none⟩,
   ⟨some (.t 12), .iad 1 (.t 10) (.t 11), none⟩,
   ⟨some (.t 13), .load false 1 (.t 12), none⟩,
   ⟨some (.t 14), .conv .i64 (.t 13), none⟩,
   ⟨some (.v 5), .mv (.t 14), none⟩])
   (.seq (.rg [⟨some (.v 6), .mv (.c (.int .i64 1)), none⟩])
   (.seq (.rg [⟨some (.v 7), .mv (.c (.int .i64 0)), none⟩])
   (.seq (.rg [⟨some (.t 15), .mv (.v 5), none⟩,
   ⟨some (.v 8), .mv (.t 15), none⟩])
   (.seq (.seq (.rg [⟨some (.t 16), .mv (.v 5), none⟩,
   ⟨some (.t 17), .bin .geq (.t 16) (.c (.int .i64 240)), none⟩,
   ⟨some (.t 18), .mv (.t 17), none⟩,
   ⟨some (.t 19), .mv (.v 5), some (.t 18, true)⟩,
   ⟨some (.t 20), .bin .lss (.t 19) (.c (.int .i64 248)), some (.t 18, true)⟩,
   ⟨some (.v 21), .pick (.t 18) (.t 20) (.c (.bool false)), none⟩])
   (.cond (.v 21) (.seq (.rg [⟨some (.v 6), .mv (.c (.int .i64 4)), none⟩])
   (.seq (.rg [⟨some (.v 7), .mv (.c (.int .i64 65536)), none⟩])
   (.rg [⟨some (.t 22), .mv (.v 5), none⟩,
   ⟨some (.t 23), .bin .rem (.t 22) (.c (.int .i64 8)), none⟩,
   ⟨some (.v 8), .mv (.t 23), none⟩])))
   (.seq (.rg [⟨some (.t 24), .mv (.v 5), none⟩,
   ⟨some (.t 25), .bin .geq (.t 24) (.c (.int .i64 224)), none⟩,
   ⟨some (.t 26), .mv (.t 25), none⟩,
   ⟨some (.t 27), .mv (.v 5), some (.t 26, true)⟩,
   ⟨some (.t 28), .bin .lss (.t 27) (.c (.int .i64 240)), some (.t 26, true)⟩,
   ⟨some (.v 29), .pick (.t 26) (.t 28) (.c (.bool false)), none⟩])
   (.cond (.v 29) (.seq (.rg [⟨some (.v 6), .mv (.c (.int .i64 3)), none⟩])
   (.seq (.rg [⟨some (.v 7), .mv (.c (.int .i64 2048)), none⟩])
   (.rg [⟨some (.t 30), .mv (.v 5), none⟩,
   ⟨some (.t 31), .bin .rem (.t 30) (.c (.int .i64 16)), none⟩,
   ⟨some (.v 8), .mv (.t 31), none⟩])))
   (.seq (.rg [⟨some (.t 32), .mv (.v 5), none⟩,
   ⟨some (.t 33), .bin .geq (.t 32) (.c (.int .i64 192)), none⟩,
   ⟨some (.t 34), .mv (.t 33), none⟩,
   ⟨some (.t 35), .mv (.v 5), some (.t 34, true)⟩,
   ⟨some (.t 36), .bin .lss (.t 35) (.c (.int .i64 224)), some (.t 34, true)⟩,
   ⟨some (.v 37), .pick (.t 34) (.t 36) (.c (.bool false)), none⟩])
   (.cond (.v 37) (.seq (.rg [⟨some (.v 6), .mv (.c (.int .i64 2)), none⟩])
   (.seq (.rg [⟨some (.v 7), .mv (.c (.int .i64 128)), none⟩])
   (.rg [⟨some (.t 38), .mv (.v 5), none⟩,
   ⟨some (.t 39), .bin .rem (.t 38) (.c (.int .i64 32)), none⟩,
   ⟨some (.v 8), .mv (.t 39), none⟩])))
   (.seq (.rg [⟨some (.t 40), .mv (.v 5), none⟩,
   ⟨some (.v 41), .bin .geq (.t 40) (.c (.int .i64 128)), none⟩])
   (.cond (.v 41) (.seq (.rg [⟨some (.v 4), .mv (.c (.int .i64 0)), none⟩])
   (.ret))
   (.skip)))))))))
   (.seq (.seq (.rg [⟨some (.t 42), .mv (.v 1), none⟩,
   ⟨some (.t 43), .mv (.v 6), none⟩,
   ⟨some (.t 44), .bin .add (.t 42) (.t 43), none⟩,
   ⟨some (.t 45), .mv (.v 0), none⟩,
   ⟨some (.t 46), .len false (.t 45), none⟩,
   ⟨some (.v 47), .bin .gtr (.t 44) (.t 46), none⟩])
   (.cond (.v 47) (.seq (.rg [⟨some (.v 4), .mv (.c (.int .i64 0)), none⟩])
   (.ret))
   (.skip)))
   (.seq (.seq (.rg [⟨some (.v 9), .mv (.c (.int .i64 1)), none⟩])
   (.block 0 (.loop m109k0 m109b0)))
   (.seq (.seq (.rg [⟨some (.t 80), .mv (.v 8), none⟩,
   ⟨some (.t 81), .mv (.v 7), none⟩,
   ⟨some (.t 82), .bin .lss (.t 80) (.t 81), none⟩,
   ⟨some (.t 83), .mv (.t 82), none⟩,
   ⟨some (.t 84), .mv (.v 8), some (.t 83, false)⟩,
   ⟨some (.t 85), .bin .gtr (.t 84) (.c (.int .i64 1114111)), some (.t 83, false)⟩,
   ⟨some (.t 86), .pick (.t 83) (.c (.bool true)) (.t 85), none⟩,
   ⟨some (.t 87), .mv (.t 86), none⟩,
   ⟨some (.t 88), .mv (.v 8), some (.t 87, false)⟩,
   ⟨some (.t 89), .bin .geq (.t 88) (.c (.int .i64 55296)), some (.t 87, false)⟩,
   ⟨some (.t 90), .mv (.t 89), some (.t 87, false)⟩,
   ⟨some (.t 91), .mv (.v 8), some (.t 90, true)⟩,
   ⟨some (.t 92), .bin .lss (.t 91) (.c (.int .i64 57344)), some (.t 90, true)⟩,
   ⟨some (.t 93), .pick (.t 90) (.t 92) (.c (.bool false)), some (.t 87, false)⟩,
   ⟨some (.v 94), .pick (.t 87) (.c (.bool true)) (.t 93), none⟩])
   (.cond (.v 94) (.seq (.rg [⟨some (.v 4), .mv (.c (.int .i64 0)), none⟩])
   (.ret))
   (.skip)))
   (.seq (.rg [⟨some (.t 95), .mv (.v 6), none⟩,
   ⟨some (.v 4), .mv (.t 95), none⟩])
   (.ret))))))))))⟩
theorem m109o : okE Tryz.prog 109 m109 = some m109.body := by kernel_rfl

def m124k0 : List (Nat × KMode) := [(1, .plain), (2, .plain), (10, .plain)]
def m124b0 : MCode :=
 .seq (.rg [⟨some (.v 11), .nxt (.v 10), none⟩,
   ⟨some (.v 12), .ext 0 (.v 11), none⟩])
  (.seq (.cond (.v 12) (.skip)
   (.exit 0))
   (.block 1 (.seq (.rg [⟨some (.t 13), .ext 1 (.v 11), none⟩,
   ⟨some (.t 14), .ext 2 (.v 11), none⟩,
   ⟨some (.v 7), .mv (.t 13), none⟩,
   ⟨some (.v 8), .mv (.t 14), none⟩])
   (.seq (.rg [⟨some (.t 15), .mv (.v 1), none⟩,
   ⟨some (.t 16), .mv (.v 8), none⟩,
   ⟨some (.t 17), .callv (.t 15) [.t 16], none⟩,
   ⟨some (.t 18), .mv (.v 2), none⟩,
   ⟨some (.v 19), .eqs .bool false (.t 17) (.t 18), none⟩])
   (.cond (.v 19) (.seq (.rg [⟨some (.t 20), .mv (.v 7), none⟩,
   ⟨some (.v 6), .mv (.t 20), none⟩])
   (.ret))
   (.skip))))))
def m124 : MFunc := ⟨3, [.other, .other, .other], [(6, none, .other)],
 .seq (.rg [⟨some (.v 6), .mv (.c (.int .i64 0)), none⟩])
  (.seq (.seq (.rg [⟨some (.t 9), .mv (.v 0), none⟩,
   ⟨some (.v 10), .rng (.t 9), none⟩])
   (.block 0 (.loop m124k0 m124b0)))
   (.seq (.rg [⟨some (.v 6), .mv (.c (.int .i64 (-1))), none⟩])
   (.ret)))⟩
theorem m124o : okE Tryz.prog 124 m124 = some m124.body := by kernel_rfl

def m127 : MFunc := ⟨1, [.other], [(2, some (true, 2), .other), (3, none, .other)],
 .seq (.rg [⟨some (.v 2), .alloc [.bool false, .nilfn], none⟩,
   ⟨some (.v 3), .mv (.c (.bool false)), none⟩])
  (.seq (.rg [⟨some (.v 4), .mv (.c (.fn 150 [])), none⟩])
   (.seq (.seq (.rg [⟨some (.v 5), .mv (.v 0), none⟩])
   (.block 0 (.seq (.rg [⟨some (.t 7), .bin .eql (.v 5) (.c (.int .i64 1)), none⟩,
   ⟨some (.v 6), .mv (.t 7), none⟩])
   (.cond (.v 6) (.seq (.rg [⟨some (.t 8), .build [.bool false, .nilfn] [(1, 1, .c (.fn 151 []))], none⟩,
   ⟨none, .store 2 (.v 2) (.t 8), none⟩,
   ⟨some (.v 3), .mv (.c (.bool true)), none⟩])
   (.ret))
   (.seq (.seq (.rg [⟨some (.t 10), .bin .eql (.v 5) (.c (.int .i64 2)), none⟩,
   ⟨some (.v 9), .mv (.t 10), none⟩])
   (.cond (.v 9) (.skip)
   (.rg [⟨some (.t 11), .bin .eql (.v 5) (.c (.int .i64 10)), none⟩,
   ⟨some (.v 9), .mv (.t 11), none⟩])))
   (.cond (.v 9) (.seq (.rg [⟨some (.t 12), .build [.bool false, .nilfn] [(1, 1, .c (.fn 152 []))], none⟩,
   ⟨none, .store 2 (.v 2) (.t 12), none⟩,
   ⟨some (.v 3), .mv (.c (.bool true)), none⟩])
   (.ret))
   (.seq (.rg [⟨some (.t 14), .bin .eql (.v 5) (.c (.int .i64 3)), none⟩,
   ⟨some (.v 13), .mv (.t 14), none⟩])
   (.cond (.v 13) (.seq (.rg [⟨some (.t 15), .build [.bool false, .nilfn] [(1, 1, .c (.fn 153 []))], none⟩,
   ⟨none, .store 2 (.v 2) (.t 15), none⟩,
   ⟨some (.v 3), .mv (.c (.bool true)), none⟩])
   (.ret))
   (.seq (.rg [⟨some (.t 17), .bin .eql (.v 5) (.c (.int .i64 4)), none⟩,
   ⟨some (.v 16), .mv (.t 17), none⟩])
   (.cond (.v 16) (.seq (.rg [⟨some (.t 18), .mv (.v 4), none⟩,
   ⟨some (.t 19), .build [.bool false, .nilfn] [(1, 1, .t 18)], none⟩,
   ⟨none, .store 2 (.v 2) (.t 19), none⟩,
   ⟨some (.v 3), .mv (.c (.bool true)), none⟩])
   (.ret))
   (.seq (.rg [⟨some (.t 21), .bin .eql (.v 5) (.c (.int .i64 5)), none⟩,
   ⟨some (.v 20), .mv (.t 21), none⟩])
   (.cond (.v 20) (.seq (.rg [⟨some (.t 22), .build [.bool false, .nilfn] [(1, 1, .c (.fn 154 []))], none⟩,
   ⟨none, .store 2 (.v 2) (.t 22), none⟩,
   ⟨some (.v 3), .mv (.c (.bool true)), none⟩])
   (.ret))
   (.seq (.rg [⟨some (.t 24), .bin .eql (.v 5) (.c (.int .i64 6)), none⟩,
   ⟨some (.v 23), .mv (.t 24), none⟩])
   (.cond (.v 23) (.seq (.rg [⟨some (.t 25), .build [.bool false, .nilfn] [(1, 1, .c (.fn 155 []))], none⟩,
   ⟨none, .store 2 (.v 2) (.t 25), none⟩,
   ⟨some (.v 3), .mv (.c (.bool true)), none⟩])
   (.ret))
   (.seq (.rg [⟨some (.t 27), .bin .eql (.v 5) (.c (.int .i64 12)), none⟩,
   ⟨some (.v 26), .mv (.t 27), none⟩])
   (.cond (.v 26) (.seq (.rg [⟨some (.t 28), .build [.bool false, .nilfn] [(1, 1, .c (.fn 156 []))], none⟩,
   ⟨none, .store 2 (.v 2) (.t 28), none⟩,
   ⟨some (.v 3), .mv (.c (.bool true)), none⟩])
   (.ret))
   (.seq (.rg [⟨some (.t 30), .bin .eql (.v 5) (.c (.int .i64 19)), none⟩,
   ⟨some (.v 29), .mv (.t 30), none⟩])
   (.cond (.v 29) (.seq (.rg [⟨some (.t 31), .build [.bool false, .nilfn] [(1, 1, .c (.fn 157 []))], none⟩,
   ⟨none, .store 2 (.v 2) (.t 31), none⟩,
   ⟨some (.v 3), .mv (.c (.bool true)), none⟩])
   (.ret))
   (.seq (.rg [⟨some (.t 33), .bin .eql (.v 5) (.c (.int .i64 22)), none⟩,
   ⟨some (.v 32), .mv (.t 33), none⟩])
   (.cond (.v 32) (.seq (.rg [⟨some (.t 34), .build [.bool false, .nilfn] [(1, 1, .c (.fn 159 []))], none⟩,
   ⟨none, .store 2 (.v 2) (.t 34), none⟩,
   ⟨some (.v 3), .mv (.c (.bool true)), none⟩])
   (.ret))
   (.seq (.rg [⟨some (.t 36), .bin .eql (.v 5) (.c (.int .i64 23)), none⟩,
   ⟨some (.v 35), .mv (.t 36), none⟩])
   (.cond (.v 35) (.seq (.rg [⟨some (.t 37), .build [.bool false, .nilfn] [(1, 1, .c (.fn 161 []))], none⟩,
   ⟨none, .store 2 (.v 2) (.t 37), none⟩,
   ⟨some (.v 3), .mv (.c (.bool true)), none⟩])
   (.ret))
   (.seq (.rg [⟨some (.t 39), .bin .eql (.v 5) (.c (.int .i64 24)), none⟩,
   ⟨some (.v 38), .mv (.t 39), none⟩])
   (.cond (.v 38) (.seq (.rg [⟨some (.t 40), .build [.bool false, .nilfn] [(1, 1, .c (.fn 163 []))], none⟩,
   ⟨none, .store 2 (.v 2) (.t 40), none⟩,
   ⟨some (.v 3), .mv (.c (.bool true)), none⟩])
   (.ret))
   (.seq (.seq (.rg [⟨some (.t 42), .bin .eql (.v 5) (.c (.int .i64 16)), none⟩,
   ⟨some (.v 41), .mv (.t 42), none⟩])
   (.cond (.v 41) (.skip)
   (.rg [⟨some (.t 43), .bin .eql (.v 5) (.c (.int .i64 17)), none⟩,
   ⟨some (.v 41), .mv (.t 43), none⟩])))
   (.cond (.v 41) (.seq (.rg [⟨some (.t 44), .mv (.v 4), none⟩,
   ⟨some (.t 45), .build [.bool false, .nilfn] [(0, 1, .c (.bool true)), (1, 1, .t 44)], none⟩,
   ⟨none, .store 2 (.v 2) (.t 45), none⟩,
   ⟨some (.v 3), .mv (.c (.bool true)), none⟩])
   (.ret))
   (.skip)))))))))))))))))))))))))))
   (.seq (.rg [⟨some (.t 46), .build [.bool false, .nilfn] [], none⟩,
   ⟨none, .store 2 (.v 2) (.t 46), none⟩,
   ⟨some (.v 3), .mv (.c (.bool false)), none⟩])
   (.ret))))⟩
theorem m127o : okE Tryz.prog 127 m127 = some m127.body := by kernel_rfl

def m150 : MFunc := ⟨1, [.byt], [(2, none, .other)],
 .seq (.rg [⟨some (.v 2), .mv (.c (.bool false)), none⟩])
  (.seq (.rg [⟨some (.v 2), .mv (.c (.bool true)), none⟩])
   (.ret))⟩
theorem m150o : okE Tryz.prog 150 m150 = some m150.body := by kernel_rfl

def m151 : MFunc := ⟨1, [.byt], [(2, none, .other)],
 .seq (.rg [⟨some (.v 2), .mv (.c (.bool false)), none⟩])
  (.seq (.rg [⟨some (.t 3), .mv (.v 0), none⟩,
   ⟨some (.t 4), .len false (.t 3), none⟩,
   ⟨some (.t 5), .bin .eql (.t 4) (.c (.int .i64 1)), none⟩,
   ⟨some (.t 6), .mv (.t 5), none⟩,
   ⟨some (.t 7), .mv (.v 0), some (.t 6, true)⟩,
   ⟨some (.t 8), .iad 1 (.t 7) (.c (.int .i64 0)), some (.t 6, true)⟩,
   ⟨some (.t 9), .load false 1 (.t 8), some (.t 6, true)⟩,
   ⟨some (.t 10), .bin .eql (.t 9) (.c (.int .u8 0)), some (.t 6, true)⟩,
   ⟨some (.t 11), .mv (.t 10), some (.t 6, true)⟩,
   ⟨some (.t 12), .mv (.v 0), some (.t 11, false)⟩,
   ⟨some (.t 13), .iad 1 (.t 12) (.c (.int .i64 0)), some (.t 11, false)⟩,
   ⟨some (.t 14), .load false 1 (.t 13), some (.t 11, false)⟩,
   ⟨some (.t 15), .bin .eql (.t 14) (.c (.int .u8 255)), some (.t 11, false)⟩,
   ⟨some (.t 16), .pick (.t 11) (.c (.bool true)) (.t 15), some (.t 6, true)⟩,
   ⟨some (.t 17), .pick (.t 6) (.t 16) (.c (.bool false)), none⟩,
   ⟨some (.v 2), .mv (.t 17), none⟩])
   (.ret))⟩
theorem m151o : okE Tryz.prog 151 m151 = some m151.body := by kernel_rfl

def m152 : MFunc := ⟨1, [.byt], [(2, none, .other)],
 .seq (.rg [⟨some (.v 2), .mv (.c (.bool false)), none⟩])
  (.seq (.rg [⟨some (.t 3), .mv (.v 0), none⟩,
   ⟨some (.t 4), .len false (.t 3), none⟩,
   ⟨some (.t 5), .bin .eql (.t 4) (.c (.int .i64 1)), none⟩,
   ⟨some (.t 6), .mv (.t 5), none⟩,
   ⟨some (.t 7), .mv (.v 0), some (.t 6, false)⟩,
   ⟨some (.t 8), .len false (.t 7), some (.t 6, false)⟩,
   ⟨some (.t 9), .bin .gtr (.t 8) (.c (.int .i64 1)), some (.t 6, false)⟩,
   ⟨some (.t 10), .mv (.t 9), some (.t 6, false)⟩,
   ⟨some (.t 11), .mv (.v 0), some (.t 10, true)⟩,
   ⟨some (.t 12), .iad 1 (.t 11) (.c (.int .i64 0)), some (.t 10, true)⟩,
   ⟨some (.t 13), .load false 1 (.t 12), some (.t 10, true)⟩,
   ⟨some (.t 14), .bin .eql (.t 13) (.c (.int .u8 0)), some (.t 10, true)⟩,
   ⟨some (.t 15), .mv (.t 14), some (.t 10, true)⟩,
   ⟨some (.t 16), .mv (.v 0), some (.t 15, true)⟩,
   ⟨some (.t 17), .iad 1 (.t 16) (.c (.int .i64 1)), some (.t 15, true)⟩,
   ⟨some (.t 18), .load false 1 (.t 17), some (.t 15, true)⟩,
   ⟨some (.t 19), .bin .lss (.t 18) (.c (.int .u8 128)), some (.t 15, true)⟩,
   ⟨some (.t 20), .pick (.t 15) (.t 19) (.c (.bool false)), some (.t 10, true)⟩,
   ⟨some (.t 21), .un .not (.t 20), some (.t 10, true)⟩,
   ⟨some (.t 22), .pick (.t 10) (.t 21) (.c (.bool false)), some (.t 6, false)⟩,
   ⟨some (.t 23), .mv (.t 22), some (.t 6, false)⟩,
   ⟨some (.t 24), .mv (.v 0), some (.t 23, true)⟩,
   ⟨some (.t 25), .iad 1 (.t 24) (.c (.int .i64 0)), some (.t 23, true)⟩,
   ⟨some (.t 26), .load false 1 (.t 25), some (.t 23, true)⟩,
   ⟨some (.t 27), .bin .eql (.t 26) (.c (.int .u8 255)), some (.t 23, true)⟩,
   ⟨some (.t 28), .mv (.t 27), some (.t 23, true)⟩,
   ⟨some (.t 29), .mv (.v 0), some (.t 28, true)⟩,
   ⟨some (.t 30), .iad 1 (.t 29) (.c (.int .i64 1)), some (.t 28, true)⟩,
   ⟨some (.t 31), .load false 1 (.t 30), some (.t 28, true)⟩,
   ⟨some (.t 32), .bin .geq (.t 31) (.c (.int .u8 128)), some (.t 28, true)⟩,
   ⟨some (.t 33), .pick (.t 28) (.t 32) (.c (.bool false)), some (.t 23, true)⟩,
   ⟨some (.t 34), .un .not (.t 33), some (.t 23, true)⟩,
   ⟨some (.t 35), .pick (.t 23) (.t 34) (.c (.bool false)), some (.t 6, false)⟩,
   ⟨some (.t 36), .pick (.t 6) (.c (.bool true)) (.t 35), none⟩,
   ⟨some (.v 2), .mv (.t 36), none⟩])
   (.ret))⟩
theorem m152o : okE Tryz.prog 152 m152 = some m152.body := by kernel_rfl

def m153 : MFunc := ⟨1, [.byt], [(2, none, .other)],
 .seq (.rg [⟨some (.v 2), .mv (.c (.bool false)), none⟩])
  (.seq (.rgd [⟨some (.t 3), .mv (.v 0), none⟩,
   ⟨some (.t 4), .len false (.t 3), none⟩,
   ⟨some (.t 5), .bin .gtr (.t 4) (.c (.int .i64 0)), none⟩,
   ⟨some (.t 6), .mv (.t 5), none⟩,
   ⟨some (.t 7), .mv (.v 0), some (.t 6, true)⟩,
   ⟨some (.t 8), .iad 1 (.t 7) (.c (.int .i64 0)), some (.t 6, true)⟩,
   ⟨some (.t 9), .load false 1 (.t 8), some (.t 6, true)⟩,
   ⟨some (.t 10), .bin .leq (.t 9) (.c (.int .u8 7)), some (.t 6, true)⟩,
   ⟨some (.t 11), .pick (.t 6) (.t 10) (.c (.bool false)), none⟩,
   ⟨some (.t 12), .mv (.t 11), none⟩,
   ⟨some (.t 13), .mv (.v 0), some (.t 12, true)⟩,
   ⟨some (.t 14), .len false (.t 13), some (.t 12, true)⟩,
   ⟨some (.t 15), .bin .gtr (.t 14) (.c (.int .i64 1)), some (.t 12, true)⟩,
   ⟨some (.t 16), .mv (.t 15), some (.t 12, true)⟩,
   ⟨some (.t 17), .mv (.v 0), some (.t 16, false)⟩,
   ⟨some (.t 18), .iad 1 (.t 17) (.c (.int .i64 0)), some (.t 16, false)⟩,
   ⟨some (.t 19), .load false 1 (.t 18), some (.t 16, false)⟩,
   ⟨some (.t 20), .bin .eql (.t 19) (.c (.int .u8 0)), some (.t 16, false)⟩,
   ⟨some (.t 21), .pick (.t 16) (.c (.bool true)) (.t 20), some (.t 12, true)⟩,
   ⟨some (.t 22), .pick (.t 12) (.t 21) (.c (.bool false)), none⟩,
   ⟨some (.t 23), .mv (.t 22), none⟩,
   ⟨some (.t 24), .mv (.v 0), some (.t 23, true)⟩,
   ⟨some (.t 25), .len false (.t 24), some (.t 23, true)⟩,
   ⟨some (.t 26), .bin .eql (.t 25) (.c (.int .i64 1)), some (.t 23, true)⟩,
   ⟨some (.t 27), .mv (.t 26), some (.t 23, true)⟩,
   ⟨some (.t 28), .mv (.v 0), some (.t 27, false)⟩,
   ⟨some (.t 29), .mv (.v 0), some (.t 27, false)⟩,
   ⟨some (.t 30), .len false (.t 29), some (.t 27, false)⟩,
   ⟨some (.t 31), .bin .sub (.t 30) (.c (.int .i64 1)), some (.t 27, false)⟩,
   ⟨some (.t 32), .iad 1 (.t 28) (.t 31), some (.t 27, false)⟩,
   ⟨some (.t 33), .load false 1 (.t 32), some (.t 27, false)⟩,
   ⟨some (.t 34), .mv (.v 0), some (.t 27, false)⟩,
   ⟨some (.t 35), .iad 1 (.t 34) (.c (.int .i64 0)), some (.t 27, false)⟩,
   ⟨some (.t 36), .load false 1 (.t 35), some (.t 27, false)⟩,
   ⟨some (.t 37), .bin .shl (.c (.int .u8 1)) (.t 36), some (.t 27, false)⟩,
   ⟨some (.t 38), .bin .sub (.t 37) (.c (.int .u8 1)), some (.t 27, false)⟩,
   ⟨some (.t 39), .bin .and (.t 33) (.t 38), some (.t 27, false)⟩,
   ⟨some (.t 40), .bin .eql (.t 39) (.c (.int .u8 0)), some (.t 27, false)⟩,
   ⟨some (.t 41), .pick (.t 27) (.c (.bool true)) (.t 40), some (.t 23, true)⟩,
   ⟨some (.t 42), .pick (.t 23) (.t 41) (.c (.bool false)), none⟩,
   ⟨some (.v 2), .mv (.t 42), none⟩]
   [[], [0], [0, 1], [0, 1, 2], [0, 1, 2, 3], [0, 1, 2, 3, 4], [0, 1, 2, 3, 4, 5], [0, 1, 2, 3, 4, 5, 6], [0, 1, 2, 3, 4, 5, 6, 7], [0, 1, 2, 3, 4, 5, 6, 7, 8], [0, 1, 2, 3, 4, 5, 6, 7, 8, 9], [0, 1, 2, 3, 4, 5, 6, 7, 8, 9, 10], [0, 1, 2, 3, 4, 5, 6, 7, 8, 9, 10, 11], [0, 1, 2, 3, 4, 5, 6, 7, 8, 9, 10, 11, 12], [0, 1, 2, 3, 4, 5, 6, 7, 8, 9, 10, 11, 12, 13], [0, 1, 2, 3, 4, 5, 6, 7, 8, 9, 10, 11, 12, 13, 14], [0, 1, 2, 3, 4, 5, 6, 7, 8, 9, 10, 11, 12, 13, 14, 15], [0, 1, 2, 3, 4, 5, 6, 7, 8, 9, 10, 11, 12, 13, 14, 15, 16], [0, 1, 2, 3, 4, 5, 6, 7, 8, 9, 10, 11, 12, 13, 14, 15, 16, 17], [0, 1, 2, 3, 4, 5, 6, 7, 8, 9, 10, 11, 12, 13, 14, 15, 16, 17, 18], [0, 1, 2, 3, 4, 5, 6, 7, 8, 9, 10, 11, 12, 13, 14, 15, 16, 17, 18, 19], [0, 1, 2, 3, 4, 5, 6, 7, 8, 9, 10, 11, 12, 13, 14, 15, 16, 17, 18, 19, 20], [0, 1, 2, 3, 4, 5, 6, 7, 8, 9, 10, 11, 12, 13, 14, 15, 16, 17, 18, 19, 20, 21], [0, 1, 2, 3, 4, 5, 6, 7, 8, 9, 10, 11, 12, 13, 14, 15, 16, 17, 18, 19, 20, 21, 22], [0, 1, 2, 3, 4, 5, 6, 7, 8, 9, 10, 11, 12, 13, 14, 15, 16, 17, 18, 19, 20, 21, 22, 23], [0, 1, 2, 3, 4, 5, 6, 7, 8, 9, 10, 11, 12, 13, 14, 15, 16, 17, 18, 19, 20, 21, 22, 23, 24], [0, 1, 2, 3, 4, 5, 6, 7, 8, 9, 10, 11, 12, 13, 14, 15, 16, 17, 18, 19, 20, 21, 22, 23, 24], [0, 1, 2, 3, 4, 5, 6, 7, 8, 9, 10, 11, 12, 13, 14, 15, 16, 17, 18, 19, 20, 21, 22, 23, 24, 26], [0, 1, 2, 3, 4, 5, 6, 7, 8, 9, 10, 11, 12, 13, 14, 15, 16, 17, 18, 19, 20, 21, 22, 23, 24, 26, 27], [0, 1, 2, 3, 4, 5, 6, 7, 8, 9, 10, 11, 12, 13, 14, 15, 16, 17, 18, 19, 20, 21, 22, 23, 24, 25, 26, 27, 28], [0, 1, 2, 3, 4, 5, 6, 7, 8, 9, 10, 11, 12, 13, 14, 15, 16, 17, 18, 19, 20, 21, 22, 23, 24, 25, 26, 27, 28, 29], [0, 1, 2, 3, 4, 5, 6, 7, 8, 9, 10, 11, 12, 13, 14, 15, 16, 17, 18, 19, 20, 21, 22, 23, 24], [0, 1, 2, 3, 4, 5, 6, 7, 8, 9, 10, 11, 12, 13, 14, 15, 16, 17, 18, 19, 20, 21, 22, 23, 24, 31], [0, 1, 2, 3, 4, 5, 6, 7, 8, 9, 10, 11, 12, 13, 14, 15, 16, 17, 18, 19, 20, 21, 22, 23, 24, 31, 32], [0, 1, 2, 3, 4, 5, 6, 7, 8, 9, 10, 11, 12, 13, 14, 15, 16, 17, 18, 19, 20, 21, 22, 23, 24, 31, 32, 33], [0, 1, 2, 3, 4, 5, 6, 7, 8, 9, 10, 11, 12, 13, 14, 15, 16, 17, 18, 19, 20, 21, 22, 23, 24, 31, 32, 33, 34], [0, 1, 2, 3, 4, 5, 6, 7, 8, 9, 10, 11, 12, 13, 14, 15, 16, 17, 18, 19, 20, 21, 22, 23, 24, 25, 26, 27, 28, 29, 30, 31, 32, 33, 34, 35], [0, 1, 2, 3, 4, 5, 6, 7, 8, 9, 10, 11, 12, 13, 14, 15, 16, 17, 18, 19, 20, 21, 22, 23, 24, 25, 26, 27, 28, 29, 30, 31, 32, 33, 34, 35, 36], [0, 1, 2, 3, 4, 5, 6, 7, 8, 9, 10, 11, 12, 13, 14, 15, 16, 17, 18, 19, 20, 21, 22, 23, 24, 25, 26, 27, 28, 29, 30, 31, 32, 33, 34, 35, 36, 37], [0, 1, 2, 3, 4, 5, 6, 7, 8, 9, 10, 11, 12, 13, 14, 15, 16, 17, 18, 19, 20, 21, 22, 23, 24, 25, 26, 27, 28, 29, 30, 31, 32, 33, 34, 35, 36, 37, 38], [0, 1, 2, 3, 4, 5, 6, 7, 8, 9, 10, 11, 12, 13, 14, 15, 16, 17, 18, 19, 20, 21, 22, 23, 24, 25, 26, 27, 28, 29, 30, 31, 32, 33, 34, 35, 36, 37, 38, 39]])
   (.ret))⟩
theorem m153o : okE Tryz.prog 153 m153 = some m153.body := by kernel_rfl

def m154 : MFunc := ⟨1, [.byt], [(2, none, .other)],
 .seq (.rg [⟨some (.v 2), .mv (.c (.bool false)), none⟩])
  (.seq (.rg [⟨some (.t 3), .mv (.v 0), none⟩,
   ⟨some (.t 4), .len false (.t 3), none⟩,
   ⟨some (.t 5), .bin .eql (.t 4) (.c (.int .i64 0)), none⟩,
   ⟨some (.v 2), .mv (.t 5), none⟩])
   (.ret))⟩
theorem m154o : okE Tryz.prog 154 m154 = some m154.body := by kernel_rfl

def m155k0 : List (Nat × KMode) := [(0, .plain), (5, .plain), (6, .plain), (7, .plain)]
def m155b0 : MCode :=
 .seq (.rg [⟨some (.v 8), .bin .lss (.v 7) (.v 6), none⟩])
  (.seq (.cond (.v 8) (.skip)
   (.exit 0))
   (.seq (.block 1 (.seq (.rg [⟨some (.t 9), .mv (.v 7), none⟩,
   ⟨some (.t 10), .iad 1 (.v 5) (.v 7), none⟩,
   ⟨some (.t 11), .load false 1 (.t 10), none⟩,
   ⟨some (.v 3), .mv (.t 9), none⟩,
   ⟨some (.v 4), .mv (.t 11), none⟩])
   (.seq (.rg [⟨some (.t 12), .mv (.v 4), none⟩,
   ⟨some (.t 13), .bin .eql (.t 12) (.c (.int .u8 128)), none⟩,
   ⟨some (.t 14), .mv (.t 13), none⟩,
   ⟨some (.t 15), .mv (.v 3), some (.t 14, true)⟩,
   ⟨some (.t 16), .bin .eql (.t 15) (.c (.int .i64 0)), some (.t 14, true)⟩,
   ⟨some (.t 17), .mv (.t 16), some (.t 14, true)⟩,
   ⟨some (.t 18), .mv (.v 0), some (.t 17, false)⟩,
   ⟨some (.t 19), .mv (.v 3), some (.t 17, false)⟩,
   ⟨some (.t 20), .bin .sub (.t 19) (.c (.int .i64 1)), some (.t 17, false)⟩,
   ⟨some (.t 21), .iad 1 (.t 18) (.t 20), some (.t 17, false)⟩,
   ⟨some (.t 22), .load false 1 (.t 21), some (.t 17, false)⟩,
   ⟨some (.t 23), .bin .lss (.t 22) (.c (.int .u8 128)), some (.t 17, false)⟩,
   ⟨some (.t 24), .pick (.t 17) (.c (.bool true)) (.t 23), some (.t 14, true)⟩,
   ⟨some (.v 25), .pick (.t 14) (.t 24) (.c (.bool false)), none⟩])
   (.cond (.v 25) (.seq (.rg [⟨some (.v 2), .mv (.c (.bool false)), none⟩])
   (.ret))
   (.skip)))))
   (.rg [⟨some (.t 26), .bin .add (.v 7) (.c (.int .i64 1)), none⟩,
   ⟨some (.v 7), .mv (.t 26), none⟩])))
def m155 : MFunc := ⟨1, [.byt], [(2, none, .other)],
 .seq (.rg [⟨some (.v 2), .mv (.c (.bool false)), none⟩])
  (.seq (.seq (.rg [⟨some (.v 5), .mv (.v 0), none⟩,
   ⟨some (.v 6), .len false (.v 5), none⟩,
   ⟨some (.v 7), .mv (.c (.int .i64 0)), none⟩])
   (.block 0 (.loop m155k0 m155b0)))
   (.seq (.rg [⟨some (.t 27), .mv (.v 0), none⟩,
   ⟨some (.t 28), .len false (.t 27), none⟩,
   ⟨some (.t 29), .bin .gtr (.t 28) (.c (.int .i64 0)), none⟩,
   ⟨some (.t 30), .mv (.t 29), none⟩,
   ⟨some (.t 31), .mv (.v 0), some (.t 30, true)⟩,
   ⟨some (.t 32), .mv (.v 0), some (.t 30, true)⟩,
   ⟨some (.t 33), .len false (.t 32), some (.t 30, true)⟩,
   ⟨some (.t 34), .bin .sub (.t 33) (.c (.int .i64 1)), some (.t 30, true)⟩,
   ⟨some (.t 35), .iad 1 (.t 31) (.t 34), some (.t 30, true)⟩,
   ⟨some (.t 36), .load false 1 (.t 35), some (.t 30, true)⟩,
   ⟨some (.t 37), .bin .lss (.t 36) (.c (.int .u8 128)), some (.t 30, true)⟩,
   ⟨some (.t 38), .pick (.t 30) (.t 37) (.c (.bool false)), none⟩,
   ⟨some (.v 2), .mv (.t 38), none⟩])
   (.ret)))⟩
theorem m155o : okE Tryz.prog 155 m155 = some m155.body := by kernel_rfl

def m157 : MFunc := ⟨1, [.byt], [(2, none, .other)],
 .seq (.rg [⟨some (.v 2), .mv (.c (.bool false)), none⟩])
  (.seq (.rg [⟨some (.t 3), .mv (.v 0), none⟩,
   ⟨some (.t 4), .call 158 [.t 3, .c (.fn 81 [])], none⟩,
   ⟨some (.v 2), .mv (.t 4), none⟩])
   (.ret))⟩
theorem m157o : okE Tryz.prog 157 m157 = some m157.body := by kernel_rfl

def m158k0 : List (Nat × KMode) := [(1, .plain), (7, .plain), (8, .plain), (9, .plain)]
def m158b0 : MCode :=
 .seq (.rg [⟨some (.v 10), .bin .lss (.v 9) (.v 8), none⟩])
  (.seq (.cond (.v 10) (.skip)
   (.exit 0))
   (.seq (.block 1 (.seq (.rg [⟨some (.t 11), .iad 1 (.v 7) (.v 9), none⟩,
   ⟨some (.t 12), .load false 1 (.t 11), none⟩,
   ⟨some (.v 6), .mv (.t 12), none⟩])
   (.seq (.rg [⟨some (.t 13), .mv (.v 1), none⟩,
   ⟨some (.t 14), .mv (.v 6), none⟩,
   ⟨some (.t 15), .callv (.t 13) [.t 14], none⟩,
   ⟨some (.v 16), .un .not (.t 15), none⟩])
   (.cond (.v 16) (.seq (.rg [⟨some (.v 4), .mv (.c (.bool false)), none⟩])
   (.ret))
   (.skip)))))
   (.rg [⟨some (.t 17), .bin .add (.v 9) (.c (.int .i64 1)), none⟩,
   ⟨some (.v 9), .mv (.t 17), none⟩])))
def m158 : MFunc := ⟨2, [.byt, .other], [(4, none, .other)],
 .seq (.rg [⟨some (.v 4), .mv (.c (.bool false)), none⟩])
  (.seq (.seq (.rg [⟨some (.v 7), .mv (.v 0), none⟩,
   ⟨some (.v 8), .len false (.v 7), none⟩,
   ⟨some (.v 9), .mv (.c (.int .i64 0)), none⟩])
   (.block 0 (.loop m158k0 m158b0)))
   (.seq (.rg [⟨some (.v 4), .mv (.c (.bool true)), none⟩])
   (.ret)))⟩
theorem m158o : okE Tryz.prog 158 m158 = some m158.body := by kernel_rfl

def m159 : MFunc := ⟨1, [.byt], [(2, none, .other)],
 .seq (.rg [⟨some (.v 2), .mv (.c (.bool false)), none⟩])
  (.seq (.rg [⟨some (.t 3), .mv (.v 0), none⟩,
   ⟨some (.t 4), .call 158 [.t 3, .c (.fn 160 [])], none⟩,
   ⟨some (.v 2), .mv (.t 4), none⟩])
   (.ret))⟩
theorem m159o : okE Tryz.prog 159 m159 = some m159.body := by kernel_rfl

def m160 : MFunc := ⟨1, [.other], [(2, none, .other)],
 .seq (.rg [⟨some (.v 2), .mv (.c (.bool false)), none⟩])
  (.seq (.rg [⟨some (.t 3), .mv (.v 0), none⟩,
   ⟨some (.t 4), .bin .lss (.t 3) (.c (.int .u8 128)), none⟩,
   ⟨some (.v 2), .mv (.t 4), none⟩])
   (.ret))⟩
theorem m160o : okE Tryz.prog 160 m160 = some m160.body := by kernel_rfl

def m161 : MFunc := ⟨1, [.byt], [(2, none, .other)],
 .seq (.rg [⟨some (.v 2), .mv (.c (.bool false)), none⟩])
  (.seq (.rg [⟨some (.t 3), .mv (.v 0), none⟩,
   ⟨some (.t 4), .call 162 [.t 3, .c (.int .i64 2)], none⟩,
   ⟨some (.v 2), .mv (.t 4), none⟩])
   (.ret))⟩
theorem m161o : okE Tryz.prog 161 m161 = some m161.body := by kernel_rfl

def m162k0 : List (Nat × KMode) := [(0, .plain), (1, .plain), (5, (.ownE 1)), (6, .plain)]
def m162b0 : MCode :=
 .seq (.seq (.rg [⟨some (.t 24), .mv (.v 6), none⟩,
   ⟨some (.t 25), .mv (.v 0), none⟩,
   ⟨some (.t 26), .len false (.t 25), none⟩,
   ⟨some (.t 27), .bin .sub (.t 26) (.c (.int .i64 1)), none⟩,
   ⟨some (.v 28), .bin .lss (.t 24) (.t 27), none⟩])
   (.cond (.v 28) (.skip)
   (.exit 0)))
  (.seq (.block 1 (.seq (.rg [⟨some (.t 32), .mv (.v 0), none⟩,
   ⟨some (.t 33), .mv (.v 6), none⟩,
   ⟨some (.t 34), .slc false 1 (.t 32) (some (.t 33)) none, none⟩,
   ⟨some (.t 35), .call 175 [.t 34], none⟩,
   ⟨some (.t 31), .mv (.t 35), none⟩,
   ⟨some (.t 36), .ext 0 (.t 31), none⟩,
   ⟨some (.t 37), .ext 1 (.t 31), none⟩,
   ⟨some (.v 7), .mv (.t 36), none⟩,
   ⟨some (.v 8), .mv (.t 37), none⟩])
   (.seq (.seq (.rg [⟨some (.t 38), .mv (.v 8), none⟩,
   ⟨some (.v 39), .un .not (.t 38), none⟩])
   (.cond (.v 39) (.seq (.rg [⟨some (.v 4), .mv (.c (.bool false)), none⟩])
   (.ret))
   (.skip)))
   (.rg [⟨some (.t 40), .mv (.v 5), none⟩,
   ⟨some (.t 41), .mv (.v 7), none⟩,
   ⟨some (.t 42), .bslE 1 (.int .i64 0) 1 [(0, .t 41)], none⟩,
   ⟨some (.t 43), .app false 1 8 (.t 40) (.t 42), none⟩,
   ⟨some (.v 5), .mv (.t 43), none⟩]))))
   (.rg [⟨some (.t 29), .mv (.v 6), none⟩,
   ⟨some (.t 30), .bin .add (.t 29) (.c (.int .i64 2)), none⟩,
   ⟨some (.v 6), .mv (.t 30), none⟩]))
def m162 : MFunc := ⟨2, [.byt, .other], [(4, none, .other)],
 .seq (.rg [⟨some (.v 4), .mv (.c (.bool false)), none⟩])
  (.seq (.seq (.rg [⟨some (.t 10), .mv (.v 0), none⟩,
   ⟨some (.t 11), .len false (.t 10), none⟩,
   ⟨some (.t 12), .mv (.v 1), none⟩,
   ⟨some (.t 13), .bin .add (.t 12) (.c (.int .i64 11)), none⟩,
   ⟨some (.t 14), .bin .neq (.t 11) (.t 13), none⟩,
   ⟨some (.t 15), .mv (.t 14), none⟩,
   ⟨some (.t 16), .mv (.v 0), some (.t 15, false)⟩,
   ⟨some (.t 17), .mv (.v 0), some (.t 15, false)⟩,
   ⟨some (.t 18), .len false (.t 17), some (.t 15, false)⟩,
   ⟨some (.t 19), .bin .sub (.t 18) (.c (.int .i64 1)), some (.t 15, false)⟩,
   ⟨some (.t 20), .iad 1 (.t 16) (.t 19), some (.t 15, false)⟩,
   ⟨some (.t 21), .load false 1 (.t 20), some (.t 15, false)⟩,
   ⟨some (.t 22), .bin .neq (.t 21) (.c (.int .u8 90)), some (.t 15, false)⟩,
   ⟨some (.v 23), .pick (.t 15) (.c (.bool true)) (.t 22), none⟩])
   (.cond (.v 23) (.seq (.rg [⟨some (.v 4), .mv (.c (.bool false)), none⟩])
   (.ret))
   (.skip)))
   (.seq (.rg [⟨some (.v 5), .mv (.c (.nilsl)), none⟩])
   (.seq (.seq (.rg [⟨some (.v 6), .mv (.c (.int .i64 0)), none⟩])
   (.block 0 (.loop m162k0 m162b0)))
   (.seq (.rg [⟨some (.t 44), .mv (.v 5), none⟩,
   ⟨some (.t 45), .iad 1 (.t 44) (.c (.int .i64 0)), none⟩,
   ⟨some (.t 46), .load false 1 (.t 45), none⟩,
   ⟨some (.v 9), .mv (.t 46), none⟩])
   (.seq (.seq (.rg [⟨some (.t 47), .mv (.v 1), none⟩,
   ⟨some (.v 48), .bin .eql (.t 47) (.c (.int .i64 4)), none⟩])
   (.cond (.v 48) (.rgd [⟨some (.t 49), .mv (.v 5), none⟩,
   ⟨some (.t 50), .iad 1 (.t 49) (.c (.int .i64 0)), none⟩,
   ⟨some (.t 51), .load false 1 (.t 50), none⟩,
   ⟨some (.t 52), .bin .mul (.c (.int .i64 100)) (.t 51), none⟩,
   ⟨some (.t 53), .mv (.v 5), none⟩,
   ⟨some (.t 54), .iad 1 (.t 53) (.c (.int .i64 1)), none⟩,
   ⟨some (.t 55), .load false 1 (.t 54), none⟩,
   ⟨some (.t 56), .bin .add (.t 52) (.t 55), none⟩,
   ⟨some (.t 57), .mv (.v 5), none⟩,
   ⟨some (.t 58), .slc false 1 (.t 57) (some (.c (.int .i64 1))) none, none⟩,
   ⟨some (.v 9), .mv (.t 56), none⟩,
   ⟨some (.v 5), .mv (.t 58), none⟩]
   [[], [0], [0, 1], [0, 1, 2], [], [4], [4, 5], [0, 1, 2, 3, 4, 5, 6], [], [8], [0, 1, 2, 3, 4, 5, 6, 7], [0, 1, 2, 3, 4, 5, 6, 7, 8, 9, 10]])
   (.seq (.rg [⟨some (.t 59), .mv (.v 9), none⟩,
   ⟨some (.t 60), .bin .add (.t 59) (.c (.int .i64 1900)), none⟩,
   ⟨some (.v 9), .mv (.t 60), none⟩])
   (.seq (.rg [⟨some (.t 61), .mv (.v 9), none⟩,
   ⟨some (.v 62), .bin .lss (.t 61) (.c (.int .i64 1950)), none⟩])
   (.cond (.v 62) (.rg [⟨some (.t 63), .mv (.v 9), none⟩,
   ⟨some (.t 64), .bin .add (.t 63) (.c (.int .i64 100)), none⟩,
   ⟨some (.v 9), .mv (.t 64), none⟩])
   (.skip))))))
   (.seq (.rgd [⟨some (.t 65), .mv (.v 5), none⟩,
   ⟨some (.t 66), .iad 1 (.t 65) (.c (.int .i64 1)), none⟩,
   ⟨some (.t 67), .load false 1 (.t 66), none⟩,
   ⟨some (.t 68), .bin .geq (.t 67) (.c (.int .i64 1)), none⟩,
   ⟨some (.t 69), .mv (.t 68), none⟩,
   ⟨some (.t 70), .mv (.v 5), some (.t 69, true)⟩,
   ⟨some (.t 71), .iad 1 (.t 70) (.c (.int .i64 1)), some (.t 69, true)⟩,
   ⟨some (.t 72), .load false 1 (.t 71), some (.t 69, true)⟩,
   ⟨some (.t 73), .bin .leq (.t 72) (.c (.int .i64 12)), some (.t 69, true)⟩,
   ⟨some (.t 74), .pick (.t 69) (.t 73) (.c (.bool false)), none⟩,
   ⟨some (.t 75), .mv (.t 74), none⟩,
   ⟨some (.t 76), .mv (.v 5), some (.t 75, true)⟩,
   ⟨some (.t 77), .iad 1 (.t 76) (.c (.int .i64 2)), some (.t 75, true)⟩,
   ⟨some (.t 78), .load false 1 (.t 77), some (.t 75, true)⟩,
   ⟨some (.t 79), .bin .geq (.t 78) (.c (.int .i64 1)), some (.t 75, true)⟩,
   ⟨some (.t 80), .pick (.t 75) (.t 79) (.c (.bool false)), none⟩,
   ⟨some (.t 81), .mv (.t 80), none⟩,
   ⟨some (.t 82), .mv (.v 5), some (.t 81, true)⟩,
   ⟨some (.t 83), .iad 1 (.t 82) (.c (.int .i64 2)), some (.t 81, true)⟩,
   ⟨some (.t 84), .load false 1 (.t 83), some (.t 81, true)⟩,
   ⟨some (.t 85), .mv (.v 9), some (.t 81, true)⟩,
   ⟨some (.t 86), .mv (.v 5), some (.t 81, true)⟩,
   ⟨some (.t 87), .iad 1 (.t 86) (.c (.int .i64 1)), some (.t 81, true)⟩,
   ⟨some (.t 88), .load false 1 (.t 87), some (.t 81, true)⟩,
   ⟨some (.t 89), .call 176 [.t 85, .t 88], some (.t 81, true)⟩,
   ⟨some (.t 90), .bin .leq (.t 84) (.t 89), some (.t 81, true)⟩,
   ⟨some (.t 91), .pick (.t 81) (.t 90) (.c (.bool false)), none⟩,
   ⟨some (.t 92), .mv (.t 91), none⟩,
   ⟨some (.t 93), .mv (.v 5), some (.t 92, true)⟩,
   ⟨some (.t 94), .iad 1 (.t 93) (.c (.int .i64 3)), some (.t 92, true)⟩,
   ⟨some (.t 95), .load false 1 (.t 94), some (.t 92, true)⟩,
   ⟨some (.t 96), .bin .lss (.t 95) (.c (.int .i64 24)), some (.t 92, true)⟩,
   ⟨some (.t 97), .pick (.t 92) (.t 96) (.c (.bool false)), none⟩,
   ⟨some (.t 98), .mv (.t 97), none⟩,
   ⟨some (.t 99), .mv (.v 5), some (.t 98, true)⟩,
   ⟨some (.t 100), .iad 1 (.t 99) (.c (.int .i64 4)), some (.t 98, true)⟩,
   ⟨some (.t 101), .load false 1 (.t 100), some (.t 98, true)⟩,
   ⟨some (.t 102), .bin .lss (.t 101) (.c (.int .i64 60)), some (.t 98, true)⟩,
   ⟨some (.t 103), .pick (.t 98) (.t 102) (.c (.bool false)), none⟩,
   ⟨some (.t 104), .mv (.t 103), none⟩,
   ⟨some (.t 105), .mv (.v 5), some (.t 104, true)⟩,
   ⟨some (.t 106), .iad 1 (.t 105) (.c (.int .i64 5)), some (.t 104, true)⟩,
   ⟨some (.t 107), .load false 1 (.t 106), some (.t 104, true)⟩,
   ⟨some (.t 108), .bin .lss (.t 107) (.c (.int .i64 60)), some (.t 104, true)⟩,
   ⟨some (.t 109), .pick (.t 104) (.t 108) (.c (.bool false)), none⟩,
   ⟨some (.v 4), .mv (.t 109), none⟩]
   [[], [0], [0, 1], [0, 1, 2], [0, 1, 2, 3], [0, 1, 2, 3, 4], [0, 1, 2, 3, 4, 5], [0, 1, 2, 3, 4, 5, 6], [0, 1, 2, 3, 4, 5, 6, 7], [0, 1, 2, 3, 4, 5, 6, 7, 8], [0, 1, 2, 3, 4, 5, 6, 7, 8, 9], [0, 1, 2, 3, 4, 5, 6, 7, 8, 9, 10], [0, 1, 2, 3, 4, 5, 6, 7, 8, 9, 10, 11], [0, 1, 2, 3, 4, 5, 6, 7, 8, 9, 10, 11, 12], [0, 1, 2, 3, 4, 5, 6, 7, 8, 9, 10, 11, 12, 13], [0, 1, 2, 3, 4, 5, 6, 7, 8, 9, 10, 11, 12, 13, 14], [0, 1, 2, 3, 4, 5, 6, 7, 8, 9, 10, 11, 12, 13, 14, 15], [0, 1, 2, 3, 4, 5, 6, 7, 8, 9, 10, 11, 12, 13, 14, 15, 16], [0, 1, 2, 3, 4, 5, 6, 7, 8, 9, 10, 11, 12, 13, 14, 15, 16, 17], [0, 1, 2, 3, 4, 5, 6, 7, 8, 9, 10, 11, 12, 13, 14, 15, 16, 17, 18], [0, 1, 2, 3, 4, 5, 6, 7, 8, 9, 10, 11, 12, 13, 14, 15, 16], [0, 1, 2, 3, 4, 5, 6, 7, 8, 9, 10, 11, 12, 13, 14, 15, 16], [0, 1, 2, 3, 4, 5, 6, 7, 8, 9, 10, 11, 12, 13, 14, 15, 16, 21], [0, 1, 2, 3, 4, 5, 6, 7, 8, 9, 10, 11, 12, 13, 14, 15, 16, 21, 22], [0, 1, 2, 3, 4, 5, 6, 7, 8, 9, 10, 11, 12, 13, 14, 15, 16, 20, 21, 22, 23], [0, 1, 2, 3, 4, 5, 6, 7, 8, 9, 10, 11, 12, 13, 14, 15, 16, 17, 18, 19, 20, 21, 22, 23, 24], [0, 1, 2, 3, 4, 5, 6, 7, 8, 9, 10, 11, 12, 13, 14, 15, 16, 17, 18, 19, 20, 21, 22, 23, 24, 25], [0, 1, 2, 3, 4, 5, 6, 7, 8, 9, 10, 11, 12, 13, 14, 15, 16, 17, 18, 19, 20, 21, 22, 23, 24, 25, 26], [0, 1, 2, 3, 4, 5, 6, 7, 8, 9, 10, 11, 12, 13, 14, 15, 16, 17, 18, 19, 20, 21, 22, 23, 24, 25, 26, 27], [0, 1, 2, 3, 4, 5, 6, 7, 8, 9, 10, 11, 12, 13, 14, 15, 16, 17, 18, 19, 20, 21, 22, 23, 24, 25, 26, 27, 28], [0, 1, 2, 3, 4, 5, 6, 7, 8, 9, 10, 11, 12, 13, 14, 15, 16, 17, 18, 19, 20, 21, 22, 23, 24, 25, 26, 27, 28, 29], [0, 1, 2, 3, 4, 5, 6, 7, 8, 9, 10, 11, 12, 13, 14, 15, 16, 17, 18, 19, 20, 21, 22, 23, 24, 25, 26, 27, 28, 29, 30], [0, 1, 2, 3, 4, 5, 6, 7, 8, 9, 10, 11, 12, 13, 14, 15, 16, 17, 18, 19, 20, 21, 22, 23, 24, 25, 26, 27, 28, 29, 30, 31], [0, 1, 2, 3, 4, 5, 6, 7, 8, 9, 10, 11, 12, 13, 14, 15, 16, 17, 18, 19, 20, 21, 22, 23, 24, 25, 26, 27, 28, 29, 30, 31, 32], [0, 1, 2, 3, 4, 5, 6, 7, 8, 9, 10, 11, 12, 13, 14, 15, 16, 17, 18, 19, 20, 21, 22, 23, 24, 25, 26, 27, 28, 29, 30, 31, 32, 33], [0, 1, 2, 3, 4, 5, 6, 7, 8, 9, 10, 11, 12, 13, 14, 15, 16, 17, 18, 19, 20, 21, 22, 23, 24, 25, 26, 27, 28, 29, 30, 31, 32, 33, 34], [0, 1, 2, 3, 4, 5, 6, 7, 8, 9, 10, 11, 12, 13, 14, 15, 16, 17, 18, 19, 20, 21, 22, 23, 24, 25, 26, 27, 28, 29, 30, 31, 32, 33, 34, 35], [0, 1, 2, 3, 4, 5, 6, 7, 8, 9, 10, 11, 12, 13, 14, 15, 16, 17, 18, 19, 20, 21, 22, 23, 24, 25, 26, 27, 28, 29, 30, 31, 32, 33, 34, 35, 36], [0, 1, 2, 3, 4, 5, 6, 7, 8, 9, 10, 11, 12, 13, 14, 15, 16, 17, 18, 19, 20, 21, 22, 23, 24, 25, 26, 27, 28, 29, 30, 31, 32, 33, 34, 35, 36, 37], [0, 1, 2, 3, 4, 5, 6, 7, 8, 9, 10, 11, 12, 13, 14, 15, 16, 17, 18, 19, 20, 21, 22, 23, 24, 25, 26, 27, 28, 29, 30, 31, 32, 33, 34, 35, 36, 37, 38], [0, 1, 2, 3, 4, 5, 6, 7, 8, 9, 10, 11, 12, 13, 14, 15, 16, 17, 18, 19, 20, 21, 22, 23, 24, 25, 26, 27, 28, 29, 30, 31, 32, 33, 34, 35, 36, 37, 38, 39], [0, 1, 2, 3, 4, 5, 6, 7, 8, 9, 10, 11, 12, 13, 14, 15, 16, 17, 18, 19, 20, 21, 22, 23, 24, 25, 26, 27, 28, 29, 30, 31, 32, 33, 34, 35, 36, 37, 38, 39, 40], [0, 1, 2, 3, 4, 5, 6, 7, 8, 9, 10, 11, 12, 13, 14, 15, 16, 17, 18, 19, 20, 21, 22, 23, 24, 25, 26, 27, 28, 29, 30, 31, 32, 33, 34, 35, 36, 37, 38, 39, 40, 41], [0, 1, 2, 3, 4, 5, 6, 7, 8, 9, 10, 11, 12, 13, 14, 15, 16, 17, 18, 19, 20, 21, 22, 23, 24, 25, 26, 27, 28, 29, 30, 31, 32, 33, 34, 35, 36, 37, 38, 39, 40, 41, 42], [0, 1, 2, 3, 4, 5, 6, 7, 8, 9, 10, 11, 12, 13, 14, 15, 16, 17, 18, 19, 20, 21, 22, 23, 24, 25, 26, 27, 28, 29, 30, 31, 32, 33, 34, 35, 36, 37, 38, 39, 40, 41, 42, 43], [0, 1, 2, 3, 4, 5, 6, 7, 8, 9, 10, 11, 12, 13, 14, 15, 16, 17, 18, 19, 20, 21, 22, 23, 24, 25, 26, 27, 28, 29, 30, 31, 32, 33, 34, 35, 36, 37, 38, 39, 40, 41, 42, 43, 44]])
   (.ret)))))))⟩
theorem m162o : okE Tryz.prog 162 m162 = some m162.body := by kernel_rfl

def m163 : MFunc := ⟨1, [.byt], [(2, none, .other)],
 .seq (.rg [⟨some (.v 2), .mv (.c (.bool false)), none⟩])
  (.seq (.rg [⟨some (.t 3), .mv (.v 0), none⟩,
   ⟨some (.t 4), .call 162 [.t 3, .c (.int .i64 4)], none⟩,
   ⟨some (.v 2), .mv (.t 4), none⟩])
   (.ret))⟩
theorem m163o : okE Tryz.prog 163 m163 = some m163.body := by kernel_rfl

def m175 : MFunc := ⟨1, [.byt], [(2, none, .other), (3, none, .other)],
 .seq (.rg [⟨some (.v 2), .mv (.c (.int .i64 0)), none⟩,
   ⟨some (.v 3), .mv (.c (.bool false)), none⟩])
  (.seq (.rg [⟨some (.t 5), .mv (.v 0), none⟩,
   ⟨some (.t 6), .iad 1 (.t 5) (.c (.int .i64 0)), none⟩,
   ⟨some (.t 7), .load false 1 (.t 6), none⟩,
   ⟨some (.t 8), .bin .geq (.t 7) (.c (.int .u8 48)), none⟩,
   ⟨some (.t 9), .mv (.t 8), none⟩,
   ⟨some (.t 10), .mv (.v 0), some (.t 9, true)⟩,
   ⟨some (.t 11), .iad 1 (.t 10) (.c (.int .i64 0)), some (.t 9, true)⟩,
   ⟨some (.t 12), .load false 1 (.t 11), some (.t 9, true)⟩,
   ⟨some (.t 13), .bin .leq (.t 12) (.c (.int .u8 57)), some (.t 9, true)⟩,
   ⟨some (.t 14), .pick (.t 9) (.t 13) (.c (.bool false)), none⟩,
   ⟨some (.t 15), .mv (.t 14), none⟩,
   ⟨some (.t 16), .mv (.v 0), some (.t 15, true)⟩,
   ⟨some (.t 17), .iad 1 (.t 16) (.c (.int .i64 1)), some (.t 15, true)⟩,
   ⟨some (.t 18), .load false 1 (.t 17), some (.t 15, true)⟩,
   ⟨some (.t 19), .bin .geq (.t 18) (.c (.int .u8 48)), some (.t 15, true)⟩,
   ⟨some (.t 20), .pick (.t 15) (.t 19) (.c (.bool false)), none⟩,
   ⟨some (.t 21), .mv (.t 20), none⟩,
   ⟨some (.t 22), .mv (.v 0), some (.t 21, true)⟩,
   ⟨some (.t 23), .iad 1 (.t 22) (.c (.int .i64 1)), some (.t 21, true)⟩,
   ⟨some (.t 24), .load false 1 (.t 23), some (.t 21, true)⟩,
   ⟨some (.t 25), .bin .leq (.t 24) (.c (.int .u8 57)), some (.t 21, true)⟩,
   ⟨some (.t 26), .pick (.t 21) (.t 25) (.c (.bool false)), none⟩,
   ⟨some (.v 4), .mv (.t 26), none⟩])
   (.seq (.rgd [⟨some (.t 27), .mv (.v 0), none⟩,
   ⟨some (.t 28), .iad 1 (.t 27) (.c (.int .i64 0)), none⟩,
   ⟨some (.t 29), .load false 1 (.t 28), none⟩,
   ⟨some (.t 30), .bin .sub (.t 29) (.c (.int .u8 48)), none⟩,
   ⟨some (.t 31), .conv .i64 (.t 30), none⟩,
   ⟨some (.t 32), .bin .mul (.t 31) (.c (.int .i64 10)), none⟩,
   ⟨some (.t 33), .mv (.v 0), none⟩,
   ⟨some (.t 34), .iad 1 (.t 33) (.c (.int .i64 1)), none⟩,
   ⟨some (.t 35), .load false 1 (.t 34), none⟩,
   ⟨some (.t 36), .bin .sub (.t 35) (.c (.int .u8 48)), none⟩,
   ⟨some (.t 37), .conv .i64 (.t 36), none⟩,
   ⟨some (.t 38), .bin .add (.t 32) (.t 37), none⟩,
   ⟨some (.t 39), .mv (.v 4), none⟩,
   ⟨some (.v 2), .mv (.t 38), none⟩,
   ⟨some (.v 3), .mv (.t 39), none⟩]
   [[], [0], [0, 1], [0, 1, 2], [0, 1, 2, 3], [0, 1, 2, 3, 4], [], [6], [6, 7], [6, 7, 8], [6, 7, 8, 9], [0, 1, 2, 3, 4, 5, 6, 7, 8, 9, 10], [], [0, 1, 2, 3, 4, 5, 6, 7, 8, 9, 10, 11], [0, 1, 2, 3, 4, 5, 6, 7, 8, 9, 10, 11, 12, 13]])
   (.ret)))⟩
theorem m175o : okE Tryz.prog 175 m175 = some m175.body := by kernel_rfl

def m176 : MFunc := ⟨2, [.other, .other], [(4, none, .other)],
 .seq (.rg [⟨some (.v 4), .mv (.c (.int .i64 0)), none⟩])
  (.seq (.seq (.rg [⟨some (.v 5), .mv (.v 1), none⟩])
   (.block 0 (.seq (.seq (.rg [⟨some (.t 7), .bin .eql (.v 5) (.c (.int .i64 4)), none⟩,
   ⟨some (.v 6), .mv (.t 7), none⟩])
   (.cond (.v 6) (.skip)
   (.seq (.rg [⟨some (.t 8), .bin .eql (.v 5) (.c (.int .i64 6)), none⟩,
   ⟨some (.v 6), .mv (.t 8), none⟩])
   (.cond (.v 6) (.skip)
   (.seq (.rg [⟨some (.t 9), .bin .eql (.v 5) (.c (.int .i64 9)), none⟩,
   ⟨some (.v 6), .mv (.t 9), none⟩])
   (.cond (.v 6) (.skip)
   (.rg [⟨some (.t 10), .bin .eql (.v 5) (.c (.int .i64 11)), none⟩,
   ⟨some (.v 6), .mv (.t 10), none⟩])))))))
   (.cond (.v 6) (.seq (.rg [⟨some (.v 4), .mv (.c (.int .i64 30)), none⟩])
   (.ret))
   (.seq (.rg [⟨some (.t 12), .bin .eql (.v 5) (.c (.int .i64 2)), none⟩,
   ⟨some (.v 11), .mv (.t 12), none⟩])
   (.cond (.v 11) (.seq (.seq (.rg [⟨some (.t 13), .mv (.v 0), none⟩,
   ⟨some (.t 14), .bin .rem (.t 13) (.c (.int .i64 4)), none⟩,
   ⟨some (.t 15), .bin .eql (.t 14) (.c (.int .i64 0)), none⟩,
   ⟨some (.t 16), .mv (.t 15), none⟩,
   ⟨some (.t 17), .mv (.v 0), some (.t 16, true)⟩,
   ⟨some (.t 18), .bin .rem (.t 17) (.c (.int .i64 100)), some (.t 16, true)⟩,
   ⟨some (.t 19), .bin .neq (.t 18) (.c (.int .i64 0)), some (.t 16, true)⟩,
   ⟨some (.t 20), .mv (.t 19), some (.t 16, true)⟩,
   ⟨some (.t 21), .mv (.v 0), some (.t 20, false)⟩,
   ⟨some (.t 22), .bin .rem (.t 21) (.c (.int .i64 400)), some (.t 20, false)⟩,
   ⟨some (.t 23), .bin .eql (.t 22) (.c (.int .i64 0)), some (.t 20, false)⟩,
   ⟨some (.t 24), .pick (.t 20) (.c (.bool true)) (.t 23), some (.t 16, true)⟩,
   ⟨some (.v 25), .pick (.t 16) (.t 24) (.c (.bool false)), none⟩])
   (.cond (.v 25) (.seq (.rg [⟨some (.v 4), .mv (.c (.int .i64 29)), none⟩])
   (.ret))
   (.skip)))
   (.seq (.rg [⟨some (.v 4), .mv (.c (.int .i64 28)), none⟩])
   (.ret)))
   (.skip)))))))
   (.seq (.rg [⟨some (.v 4), .mv (.c (.int .i64 31)), none⟩])
   (.ret)))⟩
theorem m176o : okE Tryz.prog 176 m176 = some m176.body := by kernel_rfl
end Go.Proofs.YtncpjcojnjbhlaaGreatDoor

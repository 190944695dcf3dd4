/- The short form of each function, and that it is one. -/
import Derived.Test.YtnkmpelakhhoiaaProg
import Derived.Test.YtnkmpelakhhoiaaVI
import Derived.KernelRfl
namespace Go.Proofs.Ytnkmpelakhhoiaa
open Go.V
set_option maxRecDepth 100000

/-- loop.example/g01230/spec.l10Convolve -/
def ir46 : Cd :=
(.seq
(.reg [⟨(some 3), none, .box 36 (.t 0)⟩, ⟨(some 4), none, .box 32 (.t 1)⟩, ⟨(some 5), none, .box 32 (.t 2)⟩, ⟨(some 6), none, .new 32 [(64, (.int .u8 0))]⟩])
(.seq
(.mix [⟨(some 17), none, .build 64 [(64, (.int .u8 0))] []⟩, ⟨(some 18), none, .fa 1 (.t 3)⟩, ⟨(some 19), none, .ld none (.t 18)⟩] [⟨(some 7), none, .new 32 [(64, (.int .u8 0))]⟩, ⟨none, none, .st 64 (.t 7) (.t 17)⟩, ⟨(some 8), none, .mov (.t 19)⟩])
(.seq
(.seq
(.reg [⟨(some 9), none, .mov (.c (.int .i64 0))⟩])
(.block 0
(.loop
(.seq
(.seq
(.reg [⟨(some 20), none, .mov (.t 9)⟩, ⟨(some 21), none, .mov (.t 8)⟩, ⟨(some 22), none, .bin .lss (.t 20) (.t 21)⟩])
(.cond (.t 22)
.skip
(.exit 0)))
(.seq
(.block 1
(.seq
(.reg [⟨(some 10), none, .mov (.c (.int .i64 0))⟩])
(.block 2
(.loop
(.seq
(.seq
(.reg [⟨(some 25), none, .mov (.t 10)⟩, ⟨(some 26), none, .mov (.t 8)⟩, ⟨(some 27), none, .bin .lss (.t 25) (.t 26)⟩])
(.cond (.t 27)
.skip
(.exit 2)))
(.seq
(.block 3
(.seq
(.reg [⟨(some 11), none, .mov (.c (.int .i64 0))⟩])
(.seq
(.seq
(.reg [⟨(some 12), none, .mov (.c (.int .i64 0))⟩])
(.block 4
(.loop
(.seq
(.seq
(.reg [⟨(some 30), none, .mov (.t 12)⟩, ⟨(some 31), none, .mov (.t 8)⟩, ⟨(some 32), none, .bin .lss (.t 30) (.t 31)⟩])
(.cond (.t 32)
.skip
(.exit 4)))
(.seq
(.block 5
(.seq
(.reg [⟨(some 13), none, .mov (.c (.int .i64 0))⟩])
(.block 6
(.loop
(.seq
(.seq
(.reg [⟨(some 35), none, .mov (.t 13)⟩, ⟨(some 36), none, .mov (.t 8)⟩, ⟨(some 37), none, .bin .lss (.t 35) (.t 36)⟩])
(.cond (.t 37)
.skip
(.exit 6)))
(.seq
(.block 7
(.seq
(.seq
(.reg [⟨(some 40), none, .mov (.t 9)⟩, ⟨(some 41), none, .mov (.t 12)⟩, ⟨(some 42), none, .mov (.t 13)⟩, ⟨(some 43), none, .fa 530 (.t 3)⟩, ⟨(some 44), none, .ia 8 64 (.t 43) (.t 40)⟩, ⟨(some 45), none, .ia 8 8 (.t 44) (.t 41)⟩, ⟨(some 46), none, .ia 8 1 (.t 45) (.t 42)⟩, ⟨(some 47), none, .ld none (.t 46)⟩, ⟨(some 48), none, .bin .eql (.t 47) (.c (.int .u8 0))⟩])
(.cond (.t 48)
(.exit 7)
.skip))
(.seq
(.reg [⟨(some 14), none, .mov (.c (.int .i64 0))⟩])
(.block 8
(.loop
(.seq
(.seq
(.reg [⟨(some 49), none, .mov (.t 14)⟩, ⟨(some 50), none, .mov (.t 8)⟩, ⟨(some 51), none, .bin .lss (.t 49) (.t 50)⟩])
(.cond (.t 51)
.skip
(.exit 8)))
(.seq
(.block 9
(.seq
(.reg [⟨(some 15), none, .mov (.c (.int .i64 0))⟩])
(.block 10
(.loop
(.seq
(.seq
(.reg [⟨(some 54), none, .mov (.t 15)⟩, ⟨(some 55), none, .mov (.t 8)⟩, ⟨(some 56), none, .bin .lss (.t 54) (.t 55)⟩])
(.cond (.t 56)
.skip
(.exit 10)))
(.seq
(.block 11
(.seq
(.drw true [] [⟨(some 59), none, .mov (.t 9)⟩, ⟨(some 60), none, .mov (.t 12)⟩, ⟨(some 61), none, .mov (.t 13)⟩, ⟨(some 62), none, .fa 530 (.t 3)⟩, ⟨(some 63), none, .ia 8 64 (.t 62) (.t 59)⟩, ⟨(some 64), none, .ia 8 8 (.t 63) (.t 60)⟩, ⟨(some 65), none, .ia 8 1 (.t 64) (.t 61)⟩, ⟨(some 66), none, .ld none (.t 65)⟩, ⟨(some 67), none, .cv .i64 (.t 66)⟩, ⟨(some 68), none, .mov (.t 10)⟩, ⟨(some 69), none, .mov (.t 14)⟩, ⟨(some 70), none, .mov (.t 15)⟩, ⟨(some 71), none, .fa 530 (.t 3)⟩, ⟨(some 72), none, .ia 8 64 (.t 71) (.t 68)⟩, ⟨(some 73), none, .ia 8 8 (.t 72) (.t 69)⟩, ⟨(some 74), none, .ia 8 1 (.t 73) (.t 70)⟩, ⟨(some 75), none, .ld none (.t 74)⟩, ⟨(some 76), none, .cv .i64 (.t 75)⟩, ⟨(some 77), none, .bin .mul (.t 67) (.t 76)⟩, ⟨(some 78), none, .fa 0 (.t 3)⟩, ⟨(some 79), none, .ld none (.t 78)⟩, ⟨(some 80), none, .bin .rem (.t 77) (.t 79)⟩, ⟨(some 16), none, .mov (.t 80)⟩])
(.drw true [] [⟨(some 81), none, .mov (.t 11)⟩, ⟨(some 82), none, .mov (.t 16)⟩, ⟨(some 83), none, .mov (.t 12)⟩, ⟨(some 84), none, .mov (.t 14)⟩, ⟨(some 85), none, .ia 8 8 (.t 4) (.t 83)⟩, ⟨(some 86), none, .ia 8 1 (.t 85) (.t 84)⟩, ⟨(some 87), none, .ld none (.t 86)⟩, ⟨(some 88), none, .cv .i64 (.t 87)⟩, ⟨(some 89), none, .bin .mul (.t 82) (.t 88)⟩, ⟨(some 90), none, .mov (.t 13)⟩, ⟨(some 91), none, .mov (.t 15)⟩, ⟨(some 92), none, .ia 8 8 (.t 5) (.t 90)⟩, ⟨(some 93), none, .ia 8 1 (.t 92) (.t 91)⟩, ⟨(some 94), none, .ld none (.t 93)⟩, ⟨(some 95), none, .cv .i64 (.t 94)⟩, ⟨(some 96), none, .bin .mul (.t 89) (.t 95)⟩, ⟨(some 97), none, .bin .add (.t 81) (.t 96)⟩, ⟨(some 98), none, .fa 0 (.t 3)⟩, ⟨(some 99), none, .ld none (.t 98)⟩, ⟨(some 100), none, .bin .rem (.t 97) (.t 99)⟩, ⟨(some 11), none, .mov (.t 100)⟩])))
(.reg [⟨(some 57), none, .mov (.t 15)⟩, ⟨(some 58), none, .bin .add (.t 57) (.c (.int .i64 1))⟩, ⟨(some 15), none, .mov (.t 58)⟩])))))))
(.reg [⟨(some 52), none, .mov (.t 14)⟩, ⟨(some 53), none, .bin .add (.t 52) (.c (.int .i64 1))⟩, ⟨(some 14), none, .mov (.t 53)⟩]))))))))
(.reg [⟨(some 38), none, .mov (.t 13)⟩, ⟨(some 39), none, .bin .add (.t 38) (.c (.int .i64 1))⟩, ⟨(some 13), none, .mov (.t 39)⟩])))))))
(.reg [⟨(some 33), none, .mov (.t 12)⟩, ⟨(some 34), none, .bin .add (.t 33) (.c (.int .i64 1))⟩, ⟨(some 12), none, .mov (.t 34)⟩]))))))
(.reg [⟨(some 101), none, .mov (.t 9)⟩, ⟨(some 102), none, .mov (.t 10)⟩, ⟨(some 103), none, .mov (.t 11)⟩, ⟨(some 104), none, .cv .u8 (.t 103)⟩, ⟨(some 105), none, .ia 8 8 (.t 7) (.t 101)⟩, ⟨(some 106), none, .ia 8 1 (.t 105) (.t 102)⟩, ⟨none, none, .st 1 (.t 106) (.t 104)⟩]))))
(.reg [⟨(some 28), none, .mov (.t 10)⟩, ⟨(some 29), none, .bin .add (.t 28) (.c (.int .i64 1))⟩, ⟨(some 10), none, .mov (.t 29)⟩])))))))
(.reg [⟨(some 23), none, .mov (.t 9)⟩, ⟨(some 24), none, .bin .add (.t 23) (.c (.int .i64 1))⟩, ⟨(some 9), none, .mov (.t 24)⟩]))))))
(.seq
(.reg [⟨(some 107), none, .ld (some 64) (.t 7)⟩, ⟨none, none, .st 64 (.t 6) (.t 107)⟩])
.ret))))
theorem tr46 : trFn Try.prog Try.f46 = some (108, ir46, [.cell (some 64) 6]) := by kernel_rfl

/-- (*loop.example/g01230/impl.Hopf).convolved -/
def ir47 : Cd :=
(.seq
(.reg [⟨(some 4), none, .box 69 (.t 1)⟩, ⟨(some 5), none, .box 69 (.t 2)⟩, ⟨(some 6), none, .new 32 [(64, (.int .u8 0))]⟩])
(.seq
(.reg [⟨(some 12), none, .mov (.t 0)⟩, ⟨(some 13), none, .call 44 [(.t 12)]⟩, ⟨(some 14), none, .build 64 [(64, (.int .u8 0))] []⟩, ⟨(some 7), none, .new 75 [(2, (.int .i64 0))]⟩, ⟨(some 8), none, .new 32 [(64, (.int .u8 0))]⟩, ⟨none, none, .st 2 (.t 7) (.t 13)⟩, ⟨none, none, .st 64 (.t 8) (.t 14)⟩])
(.seq
(.seq
(.reg [⟨(some 15), none, .fa 1 (.t 7)⟩, ⟨(some 16), none, .ld none (.t 15)⟩, ⟨(some 17), none, .mov (.c (.int .i64 0))⟩])
(.block 0
(.loop
(.seq
(.reg [⟨(some 18), none, .bin .lss (.t 17) (.t 16)⟩])
(.seq
(.cond (.t 18)
.skip
(.exit 0))
(.seq
(.block 1
(.seq
(.reg [⟨(some 19), none, .mov (.t 17)⟩, ⟨(some 9), none, .mov (.t 19)⟩])
(.seq
(.reg [⟨(some 20), none, .fa 1 (.t 7)⟩, ⟨(some 21), none, .ld none (.t 20)⟩, ⟨(some 22), none, .mov (.c (.int .i64 0))⟩])
(.block 2
(.loop
(.seq
(.reg [⟨(some 23), none, .bin .lss (.t 22) (.t 21)⟩])
(.seq
(.cond (.t 23)
.skip
(.exit 2))
(.seq
(.block 3
(.seq
(.reg [⟨(some 24), none, .mov (.t 22)⟩, ⟨(some 10), none, .mov (.t 24)⟩])
(.seq
(.reg [⟨(some 11), none, .new 3 [(1, (.int .i64 0))]⟩, ⟨none, none, .st 1 (.t 11) (.c (.int .i64 0))⟩])
(.seq
(.reg [⟨(some 25), none, .mov (.t 0)⟩, ⟨(some 26), none, .mov (.t 9)⟩, ⟨(some 27), none, .mov (.t 10)⟩, ⟨(some 28), none, .mkf 65 [] [(.t 11), (.t 4), (.t 7), (.t 5)]⟩, ⟨(some 29), none, .call 64 [(.t 25), (.t 26), (.t 27), (.t 28)]⟩])
(.drw true [7] [⟨(some 30), none, .mov (.t 9)⟩, ⟨(some 31), none, .mov (.t 10)⟩, ⟨(some 32), none, .ld (some 2) (.t 7)⟩, ⟨(some 33), none, .ld none (.t 11)⟩, ⟨(some 34), none, .call 66 [(.t 32), (.t 33)]⟩, ⟨(some 35), none, .ia 8 8 (.t 8) (.t 30)⟩, ⟨(some 36), none, .ia 8 1 (.t 35) (.t 31)⟩, ⟨none, none, .st 1 (.t 36) (.t 34)⟩])))))
(.reg [⟨(some 37), none, .bin .add (.t 22) (.c (.int .i64 1))⟩, ⟨(some 22), none, .mov (.t 37)⟩])))))))))
(.reg [⟨(some 38), none, .bin .add (.t 17) (.c (.int .i64 1))⟩, ⟨(some 17), none, .mov (.t 38)⟩])))))))
(.seq
(.reg [⟨(some 39), none, .ld (some 64) (.t 8)⟩, ⟨none, none, .st 64 (.t 6) (.t 39)⟩])
.ret))))
theorem tr47 : trFn Try.prog Try.f47 = some (40, ir47, [.cell (some 64) 6]) := by kernel_rfl

/-- loop.example/g01230/spec.l03Shape -/
def ir48 : Cd :=
(.seq
(.reg [⟨(some 1), none, .box 36 (.t 0)⟩, ⟨(some 2), none, .mov (.c (.bool false))⟩])
(.seq
(.drw true [] [⟨(some 5), none, .fa 0 (.t 1)⟩, ⟨(some 6), none, .ld none (.t 5)⟩, ⟨(some 7), none, .fa 1 (.t 1)⟩, ⟨(some 8), none, .ld none (.t 7)⟩, ⟨(some 3), none, .mov (.t 6)⟩, ⟨(some 4), none, .mov (.t 8)⟩])
(.seq
(.reg [⟨(some 9), none, .ld (some 1106) (.t 1)⟩, ⟨(some 10), none, .call 68 [(.t 9)]⟩, ⟨(some 11), none, .call 67 [(.t 10)]⟩, ⟨(some 12), none, .mov (.t 11)⟩, ⟨(some 13), (some (12, true)), .mov (.t 3)⟩, ⟨(some 14), (some (12, true)), .mov (.t 4)⟩, ⟨(some 15), (some (12, true)), .fa 522 (.t 1)⟩, ⟨(some 16), (some (12, true)), .ld (some 8) (.t 15)⟩, ⟨(some 17), (some (12, true)), .call 27 [(.t 13), (.t 14), (.t 16)]⟩, ⟨(some 18), none, .pick (.t 12) (.t 17) (.c (.bool false))⟩, ⟨(some 19), none, .mov (.t 18)⟩, ⟨(some 20), (some (19, true)), .mov (.t 3)⟩, ⟨(some 21), (some (19, true)), .mov (.t 4)⟩, ⟨(some 22), (some (19, true)), .fa 530 (.t 1)⟩, ⟨(some 23), (some (19, true)), .ld (some 512) (.t 22)⟩, ⟨(some 24), (some (19, true)), .call 69 [(.t 20), (.t 21), (.t 23)]⟩, ⟨(some 25), none, .pick (.t 19) (.t 24) (.c (.bool false))⟩, ⟨(some 26), none, .mov (.t 25)⟩, ⟨(some 27), (some (26, true)), .mov (.t 3)⟩, ⟨(some 28), (some (26, true)), .mov (.t 4)⟩, ⟨(some 29), (some (26, true)), .fa 1042 (.t 1)⟩, ⟨(some 30), (some (26, true)), .ld (some 64) (.t 29)⟩, ⟨(some 31), (some (26, true)), .call 57 [(.t 27), (.t 28), (.t 30)]⟩, ⟨(some 32), none, .pick (.t 26) (.t 31) (.c (.bool false))⟩, ⟨(some 2), none, .mov (.t 32)⟩])
.ret)))
theorem tr48 : trFn Try.prog Try.f48 = some (33, ir48, [.tmp 2]) := by kernel_rfl

/-- loop.example/g01230/spec.l03Fails -/
def ir49 : Cd :=
(.seq
(.reg [⟨(some 1), none, .box 36 (.t 0)⟩, ⟨(some 2), none, .mov (.c (.int .i64 0))⟩])
(.seq
(.reg [⟨(some 4), none, .ld (some 1106) (.t 1)⟩, ⟨(some 5), none, .call 70 [(.t 4)]⟩, ⟨(some 3), none, .mov (.t 5)⟩])
(.seq
(.block 0
(.seq
(.reg [⟨(some 7), none, .mov (.t 3)⟩, ⟨(some 8), none, .bin .neq (.t 7) (.c (.int .i64 0))⟩, ⟨(some 6), none, .mov (.t 8)⟩])
(.cond (.t 6)
(.seq
(.reg [⟨(some 9), none, .mov (.t 3)⟩, ⟨(some 2), none, .mov (.t 9)⟩])
.ret)
(.seq
(.reg [⟨(some 11), none, .ld (some 1106) (.t 1)⟩, ⟨(some 12), none, .fa 1042 (.t 1)⟩, ⟨(some 13), none, .ld (some 64) (.t 12)⟩, ⟨(some 14), none, .call 71 [(.t 11), (.t 13), (.c (.bool false))]⟩, ⟨(some 15), none, .un .not (.t 14)⟩, ⟨(some 10), none, .mov (.t 15)⟩])
(.cond (.t 10)
(.seq
(.reg [⟨(some 2), none, .mov (.c (.int .i64 6))⟩])
.ret)
(.seq
(.reg [⟨(some 17), none, .ld (some 1106) (.t 1)⟩, ⟨(some 18), none, .fa 1042 (.t 1)⟩, ⟨(some 19), none, .ld (some 64) (.t 18)⟩, ⟨(some 20), none, .call 71 [(.t 17), (.t 19), (.c (.bool true))]⟩, ⟨(some 21), none, .un .not (.t 20)⟩, ⟨(some 16), none, .mov (.t 21)⟩])
(.cond (.t 16)
(.seq
(.reg [⟨(some 2), none, .mov (.c (.int .i64 7))⟩])
.ret)
.skip)))))))
(.seq
(.reg [⟨(some 2), none, .mov (.c (.int .i64 0))⟩])
.ret))))
theorem tr49 : trFn Try.prog Try.f49 = some (22, ir49, [.tmp 2]) := by kernel_rfl

/-- (*loop.example/g01230/impl.Hopf).isShaped -/
def ir50 : Cd :=
(.seq
(.reg [⟨(some 2), none, .mov (.c (.bool false))⟩])
(.seq
(.drwo true [24] [0, 1, 2, 3, 4, 5, 6, 7, 8, 9, 10, 11, 12, 13, 14, 15, 16, 17, 18, 19, 20, 21, 22, 23, 24, 25, 26] [⟨(some 3), none, .mov (.t 0)⟩, ⟨(some 4), none, .call 72 [(.t 3)]⟩, ⟨(some 5), none, .call 73 [(.t 4)]⟩, ⟨(some 6), none, .mov (.t 5)⟩, ⟨(some 7), (some (6, true)), .mov (.t 0)⟩, ⟨(some 8), (some (6, true)), .call 74 [(.t 7)]⟩, ⟨(some 9), (some (6, true)), .call 75 [(.t 8)]⟩, ⟨(some 10), none, .pick (.t 6) (.t 9) (.c (.bool false))⟩, ⟨(some 11), none, .mov (.t 10)⟩, ⟨(some 12), (some (11, true)), .mov (.t 0)⟩, ⟨(some 13), (some (11, true)), .ck (.t 12)⟩, ⟨(some 14), (some (11, true)), .fa 0 (.t 13)⟩, ⟨(some 15), (some (11, true)), .ld none (.t 14)⟩, ⟨(some 16), (some (11, true)), .mov (.t 0)⟩, ⟨(some 17), (some (11, true)), .ck (.t 16)⟩, ⟨(some 18), (some (11, true)), .fa 1 (.t 17)⟩, ⟨(some 19), (some (11, true)), .ld none (.t 18)⟩, ⟨(some 20), (some (11, true)), .mov (.t 0)⟩, ⟨(some 21), (some (11, true)), .ck (.t 20)⟩, ⟨(some 22), (some (11, true)), .fa 1 (.t 21)⟩, ⟨(some 23), (some (11, true)), .ld none (.t 22)⟩, ⟨(some 24), (some (11, true)), .mov (.t 0)⟩, ⟨(some 25), (some (11, true)), .ck (.t 24)⟩, ⟨(some 26), (some (11, true)), .fa 1042 (.t 25)⟩, ⟨(some 27), (some (11, true)), .call 60 [(.t 15), (.t 19), (.t 23), (.t 26)]⟩, ⟨(some 28), none, .pick (.t 11) (.t 27) (.c (.bool false))⟩, ⟨(some 2), none, .mov (.t 28)⟩])
.ret))
theorem tr50 : trFn Try.prog Try.f50 = some (29, ir50, [.tmp 2]) := by kernel_rfl

/-- (*loop.example/g01230/impl.Hopf).fails -/
def ir51 : Cd :=
(.seq
(.reg [⟨(some 2), none, .box 68 (.t 0)⟩, ⟨(some 4), none, .mov (.c (.int .i64 0))⟩])
(.seq
(.reg [⟨(some 8), none, .mkf 76 [] [(.t 2)]⟩, ⟨(some 9), none, .mkf 78 [] [(.t 2)]⟩, ⟨(some 10), none, .ld none (.t 2)⟩, ⟨(some 11), none, .mkf 80 [(.t 10)] []⟩, ⟨(some 12), none, .ld none (.t 2)⟩, ⟨(some 13), none, .mkf 81 [(.t 12)] []⟩, ⟨(some 14), none, .ld none (.t 2)⟩, ⟨(some 15), none, .mkf 82 [(.t 14)] []⟩, ⟨(some 16), none, .mkf 83 [] [(.t 2)]⟩, ⟨(some 17), none, .mkf 85 [] [(.t 2)]⟩, ⟨(some 18), none, .bsl 81 7 1 [(1, .nilfn)] [(0, 1, (.t 8)), (1, 1, (.t 9)), (2, 1, (.t 11)), (3, 1, (.t 13)), (4, 1, (.t 15)), (5, 1, (.t 16)), (6, 1, (.t 17))]⟩, ⟨(some 5), none, .mov (.t 18)⟩])
(.seq
(.seq
(.reg [⟨(some 19), none, .mov (.t 5)⟩, ⟨(some 20), none, .mov (.t 1)⟩, ⟨(some 21), none, .sls 1 (.t 19) none (some (.t 20)) none⟩, ⟨(some 22), none, .len (.t 21)⟩, ⟨(some 23), none, .mov (.c (.int .i64 0))⟩])
(.block 0
(.loop
(.seq
(.reg [⟨(some 24), none, .bin .lss (.t 23) (.t 22)⟩])
(.seq
(.cond (.t 24)
.skip
(.exit 0))
(.seq
(.block 1
(.seq
(.reg [⟨(some 25), none, .mov (.t 23)⟩, ⟨(some 26), none, .isl 1 (.t 21) (.t 23)⟩, ⟨(some 27), none, .ld none (.t 26)⟩, ⟨(some 6), none, .mov (.t 25)⟩, ⟨(some 7), none, .mov (.t 27)⟩])
(.seq
(.reg [⟨(some 28), none, .mov (.t 7)⟩, ⟨(some 29), none, .callv (.t 28) []⟩, ⟨(some 30), none, .un .not (.t 29)⟩])
(.cond (.t 30)
(.seq
(.reg [⟨(some 31), none, .mov (.t 6)⟩, ⟨(some 32), none, .bin .add (.t 31) (.c (.int .i64 1))⟩, ⟨(some 4), none, .mov (.t 32)⟩])
.ret)
.skip))))
(.reg [⟨(some 33), none, .bin .add (.t 23) (.c (.int .i64 1))⟩, ⟨(some 23), none, .mov (.t 33)⟩])))))))
(.seq
(.reg [⟨(some 4), none, .mov (.c (.int .i64 0))⟩])
.ret))))
theorem tr51 : trFn Try.prog Try.f51 = some (34, ir51, [.tmp 4]) := by kernel_rfl

/-- slices.ContainsFunc[[]loop.example/g01230/impl.Vector,loop.example/g01230/impl.Vector] -/
def ir52 : Cd :=
(.seq
(.reg [⟨(some 4), none, .mov (.c (.bool false))⟩])
(.seq
(.reg [⟨(some 5), none, .mov (.t 0)⟩, ⟨(some 6), none, .mov (.t 1)⟩, ⟨(some 7), none, .call 86 [(.t 5), (.t 6)]⟩, ⟨(some 8), none, .bin .geq (.t 7) (.c (.int .i64 0))⟩, ⟨(some 4), none, .mov (.t 8)⟩])
.ret))
theorem tr52 : trFn Try.prog Try.f52 = some (9, ir52, [.tmp 4]) := by kernel_rfl

/-- (*loop.example/g01230/impl.Hopf).has$1 -/
def ir53 : Cd :=
(.seq
(.reg [⟨(some 2), none, .box 30 (.t 0)⟩, ⟨(some 3), none, .mov (.c (.bool false))⟩])
(.seq
(.drw true [9] [⟨(some 4), none, .ld none (.t 1)⟩, ⟨(some 5), none, .ck (.t 4)⟩, ⟨(some 6), none, .fa 0 (.t 5)⟩, ⟨(some 7), none, .ld none (.t 6)⟩, ⟨(some 8), none, .ld none (.t 1)⟩, ⟨(some 9), none, .ck (.t 8)⟩, ⟨(some 10), none, .fa 1 (.t 9)⟩, ⟨(some 11), none, .ld none (.t 10)⟩, ⟨(some 12), none, .ld (some 8) (.t 2)⟩, ⟨(some 13), none, .call 54 [(.t 7), (.t 11), (.t 12)]⟩, ⟨(some 14), none, .un .not (.t 13)⟩, ⟨(some 3), none, .mov (.t 14)⟩])
.ret))
theorem tr53 : trFn Try.prog Try.f53 = some (15, ir53, [.tmp 3]) := by kernel_rfl

/-- loop.example/g01230/impl.IsVector -/
def ir54 : Cd :=
(.seq
(.reg [⟨(some 5), none, .box 30 (.t 2)⟩, ⟨(some 6), none, .mov (.c (.bool false))⟩])
(.seq
(.seq
(.reg [⟨(some 9), none, .mov (.t 0)⟩, ⟨(some 10), none, .call 87 [(.t 9)]⟩, ⟨(some 11), none, .un .not (.t 10)⟩, ⟨(some 12), none, .mov (.t 11)⟩, ⟨(some 13), (some (12, false)), .mov (.t 1)⟩, ⟨(some 14), (some (12, false)), .call 88 [(.t 13), (.c (.int .i64 1)), (.c (.int .i64 8))]⟩, ⟨(some 15), (some (12, false)), .un .not (.t 14)⟩, ⟨(some 16), none, .pick (.t 12) (.c (.bool true)) (.t 15)⟩])
(.cond (.t 16)
(.seq
(.reg [⟨(some 6), none, .mov (.c (.bool false))⟩])
.ret)
.skip))
(.seq
(.seq
(.reg [⟨(some 17), none, .ld (some 8) (.t 5)⟩, ⟨(some 18), none, .mov (.c (.int .i64 0))⟩])
(.block 0
(.loop
(.seq
(.reg [⟨(some 19), none, .bin .lss (.t 18) (.c (.int .i64 8))⟩])
(.seq
(.cond (.t 19)
.skip
(.exit 0))
(.seq
(.block 1
(.seq
(.reg [⟨(some 20), none, .mov (.t 18)⟩, ⟨(some 21), none, .ix 8 1 none (.t 17) (.t 18)⟩, ⟨(some 7), none, .mov (.t 20)⟩, ⟨(some 8), none, .mov (.t 21)⟩])
(.seq
(.reg [⟨(some 22), none, .mov (.t 8)⟩, ⟨(some 23), none, .cv .i64 (.t 22)⟩, ⟨(some 24), none, .mov (.t 0)⟩, ⟨(some 25), none, .bin .geq (.t 23) (.t 24)⟩, ⟨(some 26), none, .mov (.t 25)⟩, ⟨(some 27), (some (26, false)), .mov (.t 7)⟩, ⟨(some 28), (some (26, false)), .mov (.t 1)⟩, ⟨(some 29), (some (26, false)), .bin .geq (.t 27) (.t 28)⟩, ⟨(some 30), (some (26, false)), .mov (.t 29)⟩, ⟨(some 31), (some (30, true)), .mov (.t 8)⟩, ⟨(some 32), (some (30, true)), .bin .neq (.t 31) (.c (.int .u8 0))⟩, ⟨(some 33), (some (26, false)), .pick (.t 30) (.t 32) (.c (.bool false))⟩, ⟨(some 34), none, .pick (.t 26) (.c (.bool true)) (.t 33)⟩])
(.cond (.t 34)
(.seq
(.reg [⟨(some 6), none, .mov (.c (.bool false))⟩])
.ret)
.skip))))
(.reg [⟨(some 35), none, .bin .add (.t 18) (.c (.int .i64 1))⟩, ⟨(some 18), none, .mov (.t 35)⟩])))))))
(.seq
(.reg [⟨(some 6), none, .mov (.c (.bool true))⟩])
.ret))))
theorem tr54 : trFn Try.prog Try.f54 = some (36, ir54, [.tmp 6]) := by kernel_rfl

/-- loop.example/g01230/spec.l01Add -/
def ir55 : Cd :=
(.seq
(.reg [⟨(some 5), none, .box 30 (.t 1)⟩, ⟨(some 6), none, .box 30 (.t 2)⟩, ⟨(some 8), none, .new 30 [(8, (.int .u8 0))]⟩])
(.seq
(.seq
(.reg [⟨(some 9), none, .mov (.c (.int .i64 0))⟩])
(.block 0
(.loop
(.seq
(.seq
(.reg [⟨(some 10), none, .mov (.t 9)⟩, ⟨(some 11), none, .bin .lss (.t 10) (.c (.int .i64 8))⟩])
(.cond (.t 11)
.skip
(.exit 0)))
(.seq
(.block 1
(.drw true [15] [⟨(some 14), none, .mov (.t 9)⟩, ⟨(some 15), none, .mov (.t 0)⟩, ⟨(some 16), none, .mov (.t 9)⟩, ⟨(some 17), none, .ia 8 1 (.t 5) (.t 16)⟩, ⟨(some 18), none, .ld none (.t 17)⟩, ⟨(some 19), none, .cv .i64 (.t 18)⟩, ⟨(some 20), none, .mov (.t 3)⟩, ⟨(some 21), none, .mov (.t 9)⟩, ⟨(some 22), none, .ia 8 1 (.t 6) (.t 21)⟩, ⟨(some 23), none, .ld none (.t 22)⟩, ⟨(some 24), none, .cv .i64 (.t 23)⟩, ⟨(some 25), none, .bin .mul (.t 20) (.t 24)⟩, ⟨(some 26), none, .bin .add (.t 19) (.t 25)⟩, ⟨(some 27), none, .call 89 [(.t 15), (.t 26)]⟩, ⟨(some 28), none, .ia 8 1 (.t 5) (.t 14)⟩, ⟨none, none, .st 1 (.t 28) (.t 27)⟩]))
(.reg [⟨(some 12), none, .mov (.t 9)⟩, ⟨(some 13), none, .bin .add (.t 12) (.c (.int .i64 1))⟩, ⟨(some 9), none, .mov (.t 13)⟩]))))))
(.seq
(.reg [⟨(some 29), none, .ld (some 8) (.t 5)⟩, ⟨none, none, .st 8 (.t 8) (.t 29)⟩])
.ret)))
theorem tr55 : trFn Try.prog Try.f55 = some (30, ir55, [.cell (some 8) 8]) := by kernel_rfl

/-- (loop.example/g01230/impl.field).pair -/
def ir56 : Cd :=
(.seq
(.reg [⟨(some 3), none, .box 75 (.t 0)⟩, ⟨(some 4), none, .box 30 (.t 1)⟩, ⟨(some 5), none, .box 30 (.t 2)⟩, ⟨(some 6), none, .new 32 [(64, (.int .u8 0))]⟩])
(.seq
(.reg [⟨(some 10), none, .build 64 [(64, (.int .u8 0))] []⟩, ⟨(some 7), none, .new 32 [(64, (.int .u8 0))]⟩, ⟨none, none, .st 64 (.t 7) (.t 10)⟩])
(.seq
(.seq
(.reg [⟨(some 11), none, .ld (some 8) (.t 4)⟩, ⟨(some 12), none, .mov (.c (.int .i64 0))⟩])
(.block 0
(.loop
(.seq
(.reg [⟨(some 13), none, .bin .lss (.t 12) (.c (.int .i64 8))⟩])
(.seq
(.cond (.t 13)
.skip
(.exit 0))
(.seq
(.block 1
(.seq
(.reg [⟨(some 14), none, .mov (.t 12)⟩, ⟨(some 15), none, .ix 8 1 none (.t 11) (.t 12)⟩, ⟨(some 8), none, .mov (.t 14)⟩, ⟨(some 9), none, .mov (.t 15)⟩])
(.reg [⟨(some 16), none, .mov (.t 8)⟩, ⟨(some 17), none, .ld (some 2) (.t 3)⟩, ⟨(some 18), none, .mov (.t 9)⟩, ⟨(some 19), none, .cv .i64 (.t 18)⟩, ⟨(some 20), none, .ld (some 8) (.t 5)⟩, ⟨(some 21), none, .call 90 [(.t 17), (.t 19), (.t 20)]⟩, ⟨(some 22), none, .ia 8 8 (.t 7) (.t 16)⟩, ⟨none, none, .st 8 (.t 22) (.t 21)⟩])))
(.reg [⟨(some 23), none, .bin .add (.t 12) (.c (.int .i64 1))⟩, ⟨(some 12), none, .mov (.t 23)⟩])))))))
(.seq
(.reg [⟨(some 24), none, .ld (some 64) (.t 7)⟩, ⟨none, none, .st 64 (.t 6) (.t 24)⟩])
.ret))))
theorem tr56 : trFn Try.prog Try.f56 = some (25, ir56, [.cell (some 64) 6]) := by kernel_rfl

/-- loop.example/g01230/spec.l01Linear -/
def ir57 : Cd :=
(.seq
(.reg [⟨(some 5), none, .box 32 (.t 2)⟩, ⟨(some 6), none, .mov (.c (.bool false))⟩])
(.seq
(.seq
(.reg [⟨(some 7), none, .mov (.c (.int .i64 0))⟩])
(.block 0
(.loop
(.seq
(.seq
(.reg [⟨(some 8), none, .mov (.t 7)⟩, ⟨(some 9), none, .bin .lss (.t 8) (.c (.int .i64 8))⟩])
(.cond (.t 9)
.skip
(.exit 0)))
(.seq
(.block 1
(.seq
(.reg [⟨(some 12), none, .mov (.t 0)⟩, ⟨(some 13), none, .mov (.t 1)⟩, ⟨(some 14), none, .mov (.t 7)⟩, ⟨(some 15), none, .ia 8 8 (.t 5) (.t 14)⟩, ⟨(some 16), none, .ld (some 8) (.t 15)⟩, ⟨(some 17), none, .call 27 [(.t 12), (.t 13), (.t 16)]⟩, ⟨(some 18), none, .un .not (.t 17)⟩, ⟨(some 19), none, .mov (.t 18)⟩, ⟨(some 20), (some (19, false)), .mov (.t 7)⟩, ⟨(some 21), (some (19, false)), .mov (.t 1)⟩, ⟨(some 22), (some (19, false)), .bin .geq (.t 20) (.t 21)⟩, ⟨(some 23), (some (19, false)), .mov (.t 22)⟩, ⟨(some 24), (some (23, true)), .mov (.t 7)⟩, ⟨(some 25), (some (23, true)), .ia 8 8 (.t 5) (.t 24)⟩, ⟨(some 26), (some (23, true)), .ld (some 8) (.t 25)⟩, ⟨(some 27), (some (23, true)), .build 8 [(8, (.int .u8 0))] []⟩, ⟨(some 28), (some (23, true)), .eqa true 8 (.t 26) (.t 27)⟩, ⟨(some 29), (some (19, false)), .pick (.t 23) (.t 28) (.c (.bool false))⟩, ⟨(some 30), none, .pick (.t 19) (.c (.bool true)) (.t 29)⟩])
(.cond (.t 30)
(.seq
(.reg [⟨(some 6), none, .mov (.c (.bool false))⟩])
.ret)
.skip)))
(.reg [⟨(some 10), none, .mov (.t 7)⟩, ⟨(some 11), none, .bin .add (.t 10) (.c (.int .i64 1))⟩, ⟨(some 7), none, .mov (.t 11)⟩]))))))
(.seq
(.reg [⟨(some 6), none, .mov (.c (.bool true))⟩])
.ret)))
theorem tr57 : trFn Try.prog Try.f57 = some (31, ir57, [.tmp 6]) := by kernel_rfl

/-- loop.example/g01230/spec.l01Zero -/
def ir58 : Cd :=
(.seq
(.reg [⟨(some 1), none, .box 30 (.t 0)⟩, ⟨(some 2), none, .mov (.c (.bool false))⟩])
(.seq
(.reg [⟨(some 3), none, .ld (some 8) (.t 1)⟩, ⟨(some 4), none, .build 8 [(8, (.int .u8 0))] []⟩, ⟨(some 5), none, .eqa false 8 (.t 3) (.t 4)⟩, ⟨(some 2), none, .mov (.t 5)⟩])
.ret))
theorem tr58 : trFn Try.prog Try.f58 = some (6, ir58, [.tmp 2]) := by kernel_rfl

/-- loop.example/g01230/spec.l01Basis -/
def ir59 : Cd :=
(.seq
(.reg [⟨(some 2), none, .new 30 [(8, (.int .u8 0))]⟩])
(.seq
(.reg [⟨(some 4), none, .build 8 [(8, (.int .u8 0))] []⟩, ⟨(some 3), none, .new 30 [(8, (.int .u8 0))]⟩, ⟨none, none, .st 8 (.t 3) (.t 4)⟩])
(.seq
(.reg [⟨(some 5), none, .mov (.t 0)⟩, ⟨(some 6), none, .ia 8 1 (.t 3) (.t 5)⟩, ⟨none, none, .st 1 (.t 6) (.c (.int .u8 1))⟩])
(.seq
(.reg [⟨(some 7), none, .ld (some 8) (.t 3)⟩, ⟨none, none, .st 8 (.t 2) (.t 7)⟩])
.ret))))
theorem tr59 : trFn Try.prog Try.f59 = some (8, ir59, [.cell (some 8) 2]) := by kernel_rfl

/-- loop.example/g01230/impl.isLinear -/
def ir60 : Cd :=
(.seq
(.reg [⟨(some 8), none, .mov (.c (.bool false))⟩])
(.seq
(.seq
(.reg [⟨(some 11), none, .mov (.t 3)⟩, ⟨(some 12), none, .mov (.c (.int .i64 0))⟩])
(.block 0
(.loop
(.seq
(.reg [⟨(some 13), none, .bin .lss (.t 12) (.c (.int .i64 8))⟩])
(.seq
(.cond (.t 13)
.skip
(.exit 0))
(.seq
(.block 1
(.seq
(.mix [⟨(some 14), none, .mov (.t 12)⟩, ⟨(some 15), none, .ck (.t 11)⟩, ⟨(some 16), none, .ia 8 8 (.t 15) (.t 12)⟩, ⟨(some 17), none, .ld (some 8) (.t 16)⟩] [⟨(some 10), none, .new 30 [(8, (.int .u8 0))]⟩, ⟨(some 9), none, .mov (.t 14)⟩, ⟨none, none, .st 8 (.t 10) (.t 17)⟩])
(.seq
(.reg [⟨(some 18), none, .mov (.t 0)⟩, ⟨(some 19), none, .mov (.t 2)⟩, ⟨(some 20), none, .ld (some 8) (.t 10)⟩, ⟨(some 21), none, .call 54 [(.t 18), (.t 19), (.t 20)]⟩, ⟨(some 22), none, .un .not (.t 21)⟩, ⟨(some 23), none, .mov (.t 22)⟩, ⟨(some 24), (some (23, false)), .mov (.t 9)⟩, ⟨(some 25), (some (23, false)), .mov (.t 1)⟩, ⟨(some 26), (some (23, false)), .bin .geq (.t 24) (.t 25)⟩, ⟨(some 27), (some (23, false)), .mov (.t 26)⟩, ⟨(some 28), (some (27, true)), .ld (some 8) (.t 10)⟩, ⟨(some 29), (some (27, true)), .build 8 [(8, (.int .u8 0))] []⟩, ⟨(some 30), (some (27, true)), .eqa true 8 (.t 28) (.t 29)⟩, ⟨(some 31), (some (23, false)), .pick (.t 27) (.t 30) (.c (.bool false))⟩, ⟨(some 32), none, .pick (.t 23) (.c (.bool true)) (.t 31)⟩])
(.cond (.t 32)
(.seq
(.reg [⟨(some 8), none, .mov (.c (.bool false))⟩])
.ret)
.skip))))
(.reg [⟨(some 33), none, .bin .add (.t 12) (.c (.int .i64 1))⟩, ⟨(some 12), none, .mov (.t 33)⟩])))))))
(.seq
(.reg [⟨(some 8), none, .mov (.c (.bool true))⟩])
.ret)))
theorem tr60 : trFn Try.prog Try.f60 = some (34, ir60, [.tmp 8]) := by kernel_rfl

/-- loop.example/g01230/impl.basis -/
def ir61 : Cd :=
(.seq
(.reg [⟨(some 2), none, .new 30 [(8, (.int .u8 0))]⟩])
(.seq
(.reg [⟨(some 4), none, .build 8 [(8, (.int .u8 0))] []⟩, ⟨(some 3), none, .new 30 [(8, (.int .u8 0))]⟩, ⟨none, none, .st 8 (.t 3) (.t 4)⟩])
(.seq
(.reg [⟨(some 5), none, .mov (.t 0)⟩, ⟨(some 6), none, .ia 8 1 (.t 3) (.t 5)⟩, ⟨none, none, .st 1 (.t 6) (.c (.int .u8 1))⟩])
(.seq
(.reg [⟨(some 7), none, .ld (some 8) (.t 3)⟩, ⟨none, none, .st 8 (.t 2) (.t 7)⟩])
.ret))))
theorem tr61 : trFn Try.prog Try.f61 = some (8, ir61, [.cell (some 8) 2]) := by kernel_rfl

/-- (loop.example/g01230/impl.field).dot -/
def ir62 : Cd :=
(.seq
(.reg [⟨(some 3), none, .box 75 (.t 0)⟩, ⟨(some 4), none, .box 30 (.t 1)⟩, ⟨(some 5), none, .box 30 (.t 2)⟩, ⟨(some 6), none, .mov (.c (.int .i64 0))⟩])
(.seq
(.reg [⟨(some 7), none, .mov (.c (.int .i64 0))⟩])
(.seq
(.seq
(.reg [⟨(some 10), none, .ld (some 8) (.t 4)⟩, ⟨(some 11), none, .mov (.c (.int .i64 0))⟩])
(.block 0
(.loop
(.seq
(.reg [⟨(some 12), none, .bin .lss (.t 11) (.c (.int .i64 8))⟩])
(.seq
(.cond (.t 12)
.skip
(.exit 0))
(.seq
(.block 1
(.seq
(.reg [⟨(some 13), none, .mov (.t 11)⟩, ⟨(some 14), none, .ix 8 1 none (.t 10) (.t 11)⟩, ⟨(some 8), none, .mov (.t 13)⟩, ⟨(some 9), none, .mov (.t 14)⟩])
(.reg [⟨(some 15), none, .mov (.t 7)⟩, ⟨(some 16), none, .mov (.t 9)⟩, ⟨(some 17), none, .cv .i64 (.t 16)⟩, ⟨(some 18), none, .mov (.t 8)⟩, ⟨(some 19), none, .ia 8 1 (.t 5) (.t 18)⟩, ⟨(some 20), none, .ld none (.t 19)⟩, ⟨(some 21), none, .cv .i64 (.t 20)⟩, ⟨(some 22), none, .bin .mul (.t 17) (.t 21)⟩, ⟨(some 23), none, .bin .add (.t 15) (.t 22)⟩, ⟨(some 7), none, .mov (.t 23)⟩])))
(.reg [⟨(some 24), none, .bin .add (.t 11) (.c (.int .i64 1))⟩, ⟨(some 11), none, .mov (.t 24)⟩])))))))
(.seq
(.reg [⟨(some 25), none, .mov (.t 7)⟩, ⟨(some 26), none, .fa 0 (.t 3)⟩, ⟨(some 27), none, .ld none (.t 26)⟩, ⟨(some 28), none, .bin .rem (.t 25) (.t 27)⟩, ⟨(some 6), none, .mov (.t 28)⟩])
.ret))))
theorem tr62 : trFn Try.prog Try.f62 = some (29, ir62, [.tmp 6]) := by kernel_rfl

/-- (loop.example/g01230/impl.field).apply -/
def ir63 : Cd :=
(.seq
(.reg [⟨(some 3), none, .box 75 (.t 0)⟩, ⟨(some 5), none, .box 30 (.t 2)⟩, ⟨(some 6), none, .new 30 [(8, (.int .u8 0))]⟩])
(.seq
(.reg [⟨(some 10), none, .build 8 [(8, (.int .u8 0))] []⟩, ⟨(some 7), none, .new 30 [(8, (.int .u8 0))]⟩, ⟨none, none, .st 8 (.t 7) (.t 10)⟩])
(.seq
(.seq
(.reg [⟨(some 11), none, .ld (some 8) (.t 5)⟩, ⟨(some 12), none, .mov (.c (.int .i64 0))⟩])
(.block 0
(.loop
(.seq
(.reg [⟨(some 13), none, .bin .lss (.t 12) (.c (.int .i64 8))⟩])
(.seq
(.cond (.t 13)
.skip
(.exit 0))
(.seq
(.block 1
(.seq
(.reg [⟨(some 14), none, .mov (.t 12)⟩, ⟨(some 15), none, .ix 8 1 none (.t 11) (.t 12)⟩, ⟨(some 8), none, .mov (.t 14)⟩, ⟨(some 9), none, .mov (.t 15)⟩])
(.drw true [8] [⟨(some 16), none, .ld (some 2) (.t 3)⟩, ⟨(some 17), none, .mov (.t 9)⟩, ⟨(some 18), none, .cv .i64 (.t 17)⟩, ⟨(some 19), none, .mov (.t 1)⟩, ⟨(some 20), none, .mov (.t 8)⟩, ⟨(some 21), none, .ck (.t 19)⟩, ⟨(some 22), none, .ia 8 8 (.t 21) (.t 20)⟩, ⟨(some 23), none, .ld (some 8) (.t 22)⟩, ⟨(some 24), none, .call 91 [(.t 16), (.t 7), (.t 18), (.t 23)]⟩])))
(.reg [⟨(some 25), none, .bin .add (.t 12) (.c (.int .i64 1))⟩, ⟨(some 12), none, .mov (.t 25)⟩])))))))
(.seq
(.reg [⟨(some 26), none, .ld (some 8) (.t 7)⟩, ⟨none, none, .st 8 (.t 6) (.t 26)⟩])
.ret))))
theorem tr63 : trFn Try.prog Try.f63 = some (27, ir63, [.cell (some 8) 6]) := by kernel_rfl

/-- (*loop.example/g01230/impl.Hopf).split -/
def ir64 : Cd :=
(.seq
(.reg [⟨(some 4), none, .box 68 (.t 0)⟩, ⟨(some 6), none, .box 3 (.t 2)⟩, ⟨(some 7), none, .box 98 (.t 3)⟩])
(.seq
(.reg [⟨(some 9), none, .ld none (.t 4)⟩, ⟨(some 10), none, .ck (.t 9)⟩, ⟨(some 11), none, .fa 0 (.t 10)⟩, ⟨(some 12), none, .ld none (.t 11)⟩, ⟨(some 8), none, .new 3 [(1, (.int .i64 0))]⟩, ⟨none, none, .st 1 (.t 8) (.t 12)⟩])
(.reg [⟨(some 13), none, .ld none (.t 4)⟩, ⟨(some 14), none, .mov (.t 1)⟩, ⟨(some 15), none, .ck (.t 13)⟩, ⟨(some 16), none, .fa 530 (.t 15)⟩, ⟨(some 17), none, .ia 8 64 (.t 16) (.t 14)⟩, ⟨(some 18), none, .mkf 93 [] [(.t 4), (.t 6), (.t 7), (.t 8)]⟩, ⟨(some 19), none, .call 92 [(.t 17), (.t 18)]⟩])))
theorem tr64 : trFn Try.prog Try.f64 = some (20, ir64, []) := by kernel_rfl

/-- (*loop.example/g01230/impl.Hopf).convolved$1 -/
def ir65 : Cd :=
(.drw true [24] [⟨(some 14), none, .ld none (.t 5)⟩, ⟨(some 15), none, .mov (.t 4)⟩, ⟨(some 16), none, .ld none (.t 6)⟩, ⟨(some 17), none, .mov (.t 0)⟩, ⟨(some 18), none, .mov (.t 2)⟩, ⟨(some 19), none, .ck (.t 16)⟩, ⟨(some 20), none, .ia 8 8 (.t 19) (.t 17)⟩, ⟨(some 21), none, .ia 8 1 (.t 20) (.t 18)⟩, ⟨(some 22), none, .ld none (.t 21)⟩, ⟨(some 23), none, .cv .i64 (.t 22)⟩, ⟨(some 24), none, .bin .mul (.t 15) (.t 23)⟩, ⟨(some 25), none, .fa 0 (.t 7)⟩, ⟨(some 26), none, .ld none (.t 25)⟩, ⟨(some 27), none, .bin .rem (.t 24) (.t 26)⟩, ⟨(some 28), none, .ld none (.t 8)⟩, ⟨(some 29), none, .mov (.t 1)⟩, ⟨(some 30), none, .mov (.t 3)⟩, ⟨(some 31), none, .ck (.t 28)⟩, ⟨(some 32), none, .ia 8 8 (.t 31) (.t 29)⟩, ⟨(some 33), none, .ia 8 1 (.t 32) (.t 30)⟩, ⟨(some 34), none, .ld none (.t 33)⟩, ⟨(some 35), none, .cv .i64 (.t 34)⟩, ⟨(some 36), none, .bin .mul (.t 27) (.t 35)⟩, ⟨(some 37), none, .bin .add (.t 14) (.t 36)⟩, ⟨none, none, .st 1 (.t 5) (.t 37)⟩])
theorem tr65 : trFn Try.prog Try.f65 = some (38, ir65, []) := by kernel_rfl

/-- (loop.example/g01230/impl.field).mod -/
def ir66 : Cd :=
(.seq
(.reg [⟨(some 2), none, .box 75 (.t 0)⟩, ⟨(some 4), none, .mov (.c (.int .u8 0))⟩])
(.seq
(.reg [⟨(some 5), none, .mov (.t 1)⟩, ⟨(some 6), none, .fa 0 (.t 2)⟩, ⟨(some 7), none, .ld none (.t 6)⟩, ⟨(some 8), none, .bin .rem (.t 5) (.t 7)⟩, ⟨(some 1), none, .mov (.t 8)⟩])
(.seq
(.seq
(.reg [⟨(some 9), none, .mov (.t 1)⟩, ⟨(some 10), none, .bin .lss (.t 9) (.c (.int .i64 0))⟩])
(.cond (.t 10)
(.reg [⟨(some 11), none, .mov (.t 1)⟩, ⟨(some 12), none, .fa 0 (.t 2)⟩, ⟨(some 13), none, .ld none (.t 12)⟩, ⟨(some 14), none, .bin .add (.t 11) (.t 13)⟩, ⟨(some 1), none, .mov (.t 14)⟩])
.skip))
(.seq
(.reg [⟨(some 15), none, .mov (.t 1)⟩, ⟨(some 16), none, .cv .u8 (.t 15)⟩, ⟨(some 4), none, .mov (.t 16)⟩])
.ret))))
theorem tr66 : trFn Try.prog Try.f66 = some (17, ir66, [.tmp 4]) := by kernel_rfl

/-- loop.example/g01230/spec.l01Shape -/
def ir67 : Cd :=
(.seq
(.reg [⟨(some 1), none, .box 102 (.t 0)⟩, ⟨(some 2), none, .mov (.c (.bool false))⟩])
(.seq
(.reg [⟨(some 3), none, .fa 0 (.t 1)⟩, ⟨(some 4), none, .ld none (.t 3)⟩, ⟨(some 5), none, .fa 1 (.t 1)⟩, ⟨(some 6), none, .ld none (.t 5)⟩, ⟨(some 7), none, .call 95 [(.t 4), (.t 6)]⟩, ⟨(some 8), none, .mov (.t 7)⟩, ⟨(some 9), (some (8, true)), .fa 0 (.t 1)⟩, ⟨(some 10), (some (8, true)), .ld none (.t 9)⟩, ⟨(some 11), (some (8, true)), .fa 1 (.t 1)⟩, ⟨(some 12), (some (8, true)), .ld none (.t 11)⟩, ⟨(some 13), (some (8, true)), .fa 2 (.t 1)⟩, ⟨(some 14), (some (8, true)), .ld (some 8) (.t 13)⟩, ⟨(some 15), (some (8, true)), .call 27 [(.t 10), (.t 12), (.t 14)]⟩, ⟨(some 16), none, .pick (.t 8) (.t 15) (.c (.bool false))⟩, ⟨(some 17), none, .mov (.t 16)⟩, ⟨(some 18), (some (17, true)), .fa 0 (.t 1)⟩, ⟨(some 19), (some (17, true)), .ld none (.t 18)⟩, ⟨(some 20), (some (17, true)), .fa 1 (.t 1)⟩, ⟨(some 21), (some (17, true)), .ld none (.t 20)⟩, ⟨(some 22), (some (17, true)), .fa 10 (.t 1)⟩, ⟨(some 23), (some (17, true)), .ld (some 512) (.t 22)⟩, ⟨(some 24), (some (17, true)), .call 69 [(.t 19), (.t 21), (.t 23)]⟩, ⟨(some 25), none, .pick (.t 17) (.t 24) (.c (.bool false))⟩, ⟨(some 2), none, .mov (.t 25)⟩])
.ret))
theorem tr67 : trFn Try.prog Try.f67 = some (26, ir67, [.tmp 2]) := by kernel_rfl

/-- loop.example/g01230/spec.l03Algebra -/
def ir68 : Cd :=
(.seq
(.reg [⟨(some 1), none, .box 36 (.t 0)⟩, ⟨(some 2), none, .new 102 [(2, (.int .i64 0)), (520, (.int .u8 0))]⟩])
(.seq
(.reg [⟨(some 3), none, .fa 0 (.t 1)⟩, ⟨(some 4), none, .ld none (.t 3)⟩, ⟨(some 5), none, .fa 1 (.t 1)⟩, ⟨(some 6), none, .ld none (.t 5)⟩, ⟨(some 7), none, .fa 2 (.t 1)⟩, ⟨(some 8), none, .ld (some 8) (.t 7)⟩, ⟨(some 9), none, .fa 10 (.t 1)⟩, ⟨(some 10), none, .ld (some 512) (.t 9)⟩, ⟨(some 11), none, .build 522 [(2, (.int .i64 0)), (520, (.int .u8 0))] [(0, 1, (.t 4)), (1, 1, (.t 6)), (2, 8, (.t 8)), (10, 512, (.t 10))]⟩, ⟨none, none, .st 522 (.t 2) (.t 11)⟩])
.ret))
theorem tr68 : trFn Try.prog Try.f68 = some (12, ir68, [.cell (some 522) 2]) := by kernel_rfl

/-- loop.example/g01230/spec.l01Table -/
def ir69 : Cd :=
(.seq
(.reg [⟨(some 5), none, .box 34 (.t 2)⟩, ⟨(some 6), none, .mov (.c (.bool false))⟩])
(.seq
(.seq
(.reg [⟨(some 7), none, .mov (.c (.int .i64 0))⟩])
(.block 0
(.loop
(.seq
(.seq
(.reg [⟨(some 8), none, .mov (.t 7)⟩, ⟨(some 9), none, .bin .lss (.t 8) (.c (.int .i64 8))⟩])
(.cond (.t 9)
.skip
(.exit 0)))
(.seq
(.block 1
(.seq
(.reg [⟨(some 12), none, .mov (.t 0)⟩, ⟨(some 13), none, .mov (.t 1)⟩, ⟨(some 14), none, .mov (.t 7)⟩, ⟨(some 15), none, .ia 8 64 (.t 5) (.t 14)⟩, ⟨(some 16), none, .ld (some 64) (.t 15)⟩, ⟨(some 17), none, .call 57 [(.t 12), (.t 13), (.t 16)]⟩, ⟨(some 18), none, .un .not (.t 17)⟩, ⟨(some 19), none, .mov (.t 18)⟩, ⟨(some 20), (some (19, false)), .mov (.t 7)⟩, ⟨(some 21), (some (19, false)), .mov (.t 1)⟩, ⟨(some 22), (some (19, false)), .bin .geq (.t 20) (.t 21)⟩, ⟨(some 23), (some (19, false)), .mov (.t 22)⟩, ⟨(some 24), (some (23, true)), .mov (.t 7)⟩, ⟨(some 25), (some (23, true)), .ia 8 64 (.t 5) (.t 24)⟩, ⟨(some 26), (some (23, true)), .ld (some 64) (.t 25)⟩, ⟨(some 27), (some (23, true)), .build 64 [(64, (.int .u8 0))] []⟩, ⟨(some 28), (some (23, true)), .eqa true 64 (.t 26) (.t 27)⟩, ⟨(some 29), (some (19, false)), .pick (.t 23) (.t 28) (.c (.bool false))⟩, ⟨(some 30), none, .pick (.t 19) (.c (.bool true)) (.t 29)⟩])
(.cond (.t 30)
(.seq
(.reg [⟨(some 6), none, .mov (.c (.bool false))⟩])
.ret)
.skip)))
(.reg [⟨(some 10), none, .mov (.t 7)⟩, ⟨(some 11), none, .bin .add (.t 10) (.c (.int .i64 1))⟩, ⟨(some 7), none, .mov (.t 11)⟩]))))))
(.seq
(.reg [⟨(some 6), none, .mov (.c (.bool true))⟩])
.ret)))
theorem tr69 : trFn Try.prog Try.f69 = some (31, ir69, [.tmp 6]) := by kernel_rfl

/-- loop.example/g01230/spec.l03Bialgebra -/
def ir70 : Cd :=
(.seq
(.reg [⟨(some 1), none, .box 36 (.t 0)⟩, ⟨(some 2), none, .mov (.c (.int .i64 0))⟩])
(.seq
(.mix [⟨(some 11), none, .fa 1 (.t 1)⟩, ⟨(some 12), none, .ld none (.t 11)⟩, ⟨(some 13), none, .ld (some 1106) (.t 1)⟩, ⟨(some 14), none, .call 68 [(.t 13)]⟩] [⟨(some 4), none, .new 102 [(2, (.int .i64 0)), (520, (.int .u8 0))]⟩, ⟨(some 3), none, .mov (.t 12)⟩, ⟨none, none, .st 522 (.t 4) (.t 14)⟩])
(.seq
(.block 0
(.seq
(.reg [⟨(some 16), none, .ld (some 522) (.t 4)⟩, ⟨(some 17), none, .call 96 [(.t 16)]⟩, ⟨(some 18), none, .un .not (.t 17)⟩, ⟨(some 15), none, .mov (.t 18)⟩])
(.cond (.t 15)
(.seq
(.reg [⟨(some 2), none, .mov (.c (.int .i64 1))⟩])
.ret)
(.seq
(.reg [⟨(some 20), none, .ld (some 1106) (.t 1)⟩, ⟨(some 21), none, .call 98 [(.t 20)]⟩, ⟨(some 22), none, .call 97 [(.t 21)]⟩, ⟨(some 23), none, .un .not (.t 22)⟩, ⟨(some 19), none, .mov (.t 23)⟩])
(.cond (.t 19)
(.seq
(.reg [⟨(some 2), none, .mov (.c (.int .i64 2))⟩])
.ret)
.skip)))))
(.seq
(.seq
(.reg [⟨(some 5), none, .mov (.c (.int .i64 0))⟩])
(.block 1
(.loop
(.seq
(.seq
(.reg [⟨(some 24), none, .mov (.t 5)⟩, ⟨(some 25), none, .mov (.t 3)⟩, ⟨(some 26), none, .bin .lss (.t 24) (.t 25)⟩])
(.cond (.t 26)
.skip
(.exit 1)))
(.seq
(.block 2
(.seq
(.reg [⟨(some 6), none, .mov (.c (.int .i64 0))⟩])
(.block 3
(.loop
(.seq
(.seq
(.reg [⟨(some 29), none, .mov (.t 6)⟩, ⟨(some 30), none, .mov (.t 3)⟩, ⟨(some 31), none, .bin .lss (.t 29) (.t 30)⟩])
(.cond (.t 31)
.skip
(.exit 3)))
(.seq
(.block 4
(.seq
(.drw true [17] [⟨(some 34), none, .ld (some 1106) (.t 1)⟩, ⟨(some 35), none, .mov (.t 5)⟩, ⟨(some 36), none, .mov (.t 6)⟩, ⟨(some 37), none, .fa 10 (.t 1)⟩, ⟨(some 38), none, .ia 8 64 (.t 37) (.t 35)⟩, ⟨(some 39), none, .ia 8 8 (.t 38) (.t 36)⟩, ⟨(some 40), none, .ld (some 8) (.t 39)⟩, ⟨(some 41), none, .call 99 [(.t 34), (.t 40)]⟩, ⟨(some 42), none, .ld (some 1106) (.t 1)⟩, ⟨(some 43), none, .mov (.t 5)⟩, ⟨(some 44), none, .fa 530 (.t 1)⟩, ⟨(some 45), none, .ia 8 64 (.t 44) (.t 43)⟩, ⟨(some 46), none, .ld (some 64) (.t 45)⟩, ⟨(some 47), none, .mov (.t 6)⟩, ⟨(some 48), none, .fa 530 (.t 1)⟩, ⟨(some 49), none, .ia 8 64 (.t 48) (.t 47)⟩, ⟨(some 50), none, .ld (some 64) (.t 49)⟩, ⟨(some 51), none, .call 100 [(.t 42), (.t 46), (.t 50)]⟩, ⟨(some 52), none, .eqa true 64 (.t 41) (.t 51)⟩])
(.cond (.t 52)
(.seq
(.reg [⟨(some 2), none, .mov (.c (.int .i64 3))⟩])
.ret)
.skip)))
(.reg [⟨(some 32), none, .mov (.t 6)⟩, ⟨(some 33), none, .bin .add (.t 32) (.c (.int .i64 1))⟩, ⟨(some 6), none, .mov (.t 33)⟩])))))))
(.reg [⟨(some 27), none, .mov (.t 5)⟩, ⟨(some 28), none, .bin .add (.t 27) (.c (.int .i64 1))⟩, ⟨(some 5), none, .mov (.t 28)⟩]))))))
(.seq
(.reg [⟨(some 53), none, .ld (some 1106) (.t 1)⟩, ⟨(some 54), none, .fa 2 (.t 1)⟩, ⟨(some 55), none, .ld (some 8) (.t 54)⟩, ⟨(some 56), none, .call 99 [(.t 53), (.t 55)]⟩, ⟨(some 7), none, .new 32 [(64, (.int .u8 0))]⟩, ⟨none, none, .st 64 (.t 7) (.t 56)⟩])
(.seq
(.seq
(.reg [⟨(some 8), none, .mov (.c (.int .i64 0))⟩])
(.block 5
(.loop
(.seq
(.seq
(.reg [⟨(some 57), none, .mov (.t 8)⟩, ⟨(some 58), none, .mov (.t 3)⟩, ⟨(some 59), none, .bin .lss (.t 57) (.t 58)⟩])
(.cond (.t 59)
.skip
(.exit 5)))
(.seq
(.block 6
(.seq
(.drw true [] [⟨(some 62), none, .mov (.t 8)⟩, ⟨(some 63), none, .ia 8 8 (.t 7) (.t 62)⟩, ⟨(some 64), none, .ld (some 8) (.t 63)⟩, ⟨(some 65), none, .fa 0 (.t 1)⟩, ⟨(some 66), none, .ld none (.t 65)⟩, ⟨(some 67), none, .build 8 [(8, (.int .u8 0))] []⟩, ⟨(some 68), none, .fa 2 (.t 1)⟩, ⟨(some 69), none, .ld (some 8) (.t 68)⟩, ⟨(some 70), none, .mov (.t 8)⟩, ⟨(some 71), none, .fa 2 (.t 1)⟩, ⟨(some 72), none, .ia 8 1 (.t 71) (.t 70)⟩, ⟨(some 73), none, .ld none (.t 72)⟩, ⟨(some 74), none, .cv .i64 (.t 73)⟩, ⟨(some 75), none, .call 55 [(.t 66), (.t 67), (.t 69), (.t 74)]⟩, ⟨(some 76), none, .eqa true 8 (.t 64) (.t 75)⟩])
(.cond (.t 76)
(.seq
(.reg [⟨(some 2), none, .mov (.c (.int .i64 4))⟩])
.ret)
.skip)))
(.reg [⟨(some 60), none, .mov (.t 8)⟩, ⟨(some 61), none, .bin .add (.t 60) (.c (.int .i64 1))⟩, ⟨(some 8), none, .mov (.t 61)⟩]))))))
(.seq
(.seq
(.reg [⟨(some 9), none, .mov (.c (.int .i64 0))⟩])
(.block 7
(.loop
(.seq
(.seq
(.reg [⟨(some 77), none, .mov (.t 9)⟩, ⟨(some 78), none, .mov (.t 3)⟩, ⟨(some 79), none, .bin .lss (.t 77) (.t 78)⟩])
(.cond (.t 79)
.skip
(.exit 7)))
(.seq
(.block 8
(.seq
(.reg [⟨(some 10), none, .mov (.c (.int .i64 0))⟩])
(.block 9
(.loop
(.seq
(.seq
(.reg [⟨(some 82), none, .mov (.t 10)⟩, ⟨(some 83), none, .mov (.t 3)⟩, ⟨(some 84), none, .bin .lss (.t 82) (.t 83)⟩])
(.cond (.t 84)
.skip
(.exit 9)))
(.seq
(.block 10
(.seq
(.drw true [] [⟨(some 87), none, .ld (some 1106) (.t 1)⟩, ⟨(some 88), none, .mov (.t 9)⟩, ⟨(some 89), none, .mov (.t 10)⟩, ⟨(some 90), none, .fa 10 (.t 1)⟩, ⟨(some 91), none, .ia 8 64 (.t 90) (.t 88)⟩, ⟨(some 92), none, .ia 8 8 (.t 91) (.t 89)⟩, ⟨(some 93), none, .ld (some 8) (.t 92)⟩, ⟨(some 94), none, .call 101 [(.t 87), (.t 93)]⟩, ⟨(some 95), none, .mov (.t 9)⟩, ⟨(some 96), none, .fa 522 (.t 1)⟩, ⟨(some 97), none, .ia 8 1 (.t 96) (.t 95)⟩, ⟨(some 98), none, .ld none (.t 97)⟩, ⟨(some 99), none, .cv .i64 (.t 98)⟩, ⟨(some 100), none, .mov (.t 10)⟩, ⟨(some 101), none, .fa 522 (.t 1)⟩, ⟨(some 102), none, .ia 8 1 (.t 101) (.t 100)⟩, ⟨(some 103), none, .ld none (.t 102)⟩, ⟨(some 104), none, .cv .i64 (.t 103)⟩, ⟨(some 105), none, .bin .mul (.t 99) (.t 104)⟩, ⟨(some 106), none, .fa 0 (.t 1)⟩, ⟨(some 107), none, .ld none (.t 106)⟩, ⟨(some 108), none, .bin .rem (.t 105) (.t 107)⟩, ⟨(some 109), none, .bin .neq (.t 94) (.t 108)⟩])
(.cond (.t 109)
(.seq
(.reg [⟨(some 2), none, .mov (.c (.int .i64 5))⟩])
.ret)
.skip)))
(.reg [⟨(some 85), none, .mov (.t 10)⟩, ⟨(some 86), none, .bin .add (.t 85) (.c (.int .i64 1))⟩, ⟨(some 10), none, .mov (.t 86)⟩])))))))
(.reg [⟨(some 80), none, .mov (.t 9)⟩, ⟨(some 81), none, .bin .add (.t 80) (.c (.int .i64 1))⟩, ⟨(some 9), none, .mov (.t 81)⟩]))))))
(.seq
(.seq
(.reg [⟨(some 110), none, .ld (some 1106) (.t 1)⟩, ⟨(some 111), none, .fa 2 (.t 1)⟩, ⟨(some 112), none, .ld (some 8) (.t 111)⟩, ⟨(some 113), none, .call 101 [(.t 110), (.t 112)]⟩, ⟨(some 114), none, .bin .neq (.t 113) (.c (.int .i64 1))⟩])
(.cond (.t 114)
(.seq
(.reg [⟨(some 2), none, .mov (.c (.int .i64 5))⟩])
.ret)
.skip))
(.seq
(.reg [⟨(some 2), none, .mov (.c (.int .i64 0))⟩])
.ret)))))))))
theorem tr70 : trFn Try.prog Try.f70 = some (115, ir70, [.tmp 2]) := by kernel_rfl

/-- loop.example/g01230/spec.l03Antipode -/
def ir71 : Cd :=
(.seq
(.reg [⟨(some 3), none, .box 36 (.t 0)⟩, ⟨(some 4), none, .box 32 (.t 1)⟩, ⟨(some 6), none, .mov (.c (.bool false))⟩])
(.seq
(.seq
(.reg [⟨(some 7), none, .mov (.c (.int .i64 0))⟩])
(.block 0
(.loop
(.seq
(.seq
(.reg [⟨(some 8), none, .mov (.t 7)⟩, ⟨(some 9), none, .fa 1 (.t 3)⟩, ⟨(some 10), none, .ld none (.t 9)⟩, ⟨(some 11), none, .bin .lss (.t 8) (.t 10)⟩])
(.cond (.t 11)
.skip
(.exit 0)))
(.seq
(.block 1
(.seq
(.drw true [15] [⟨(some 14), none, .ld (some 1106) (.t 3)⟩, ⟨(some 15), none, .mov (.t 7)⟩, ⟨(some 16), none, .ld (some 64) (.t 4)⟩, ⟨(some 17), none, .mov (.t 2)⟩, ⟨(some 18), none, .call 102 [(.t 14), (.t 15), (.t 16), (.t 17)]⟩, ⟨(some 19), none, .fa 0 (.t 3)⟩, ⟨(some 20), none, .ld none (.t 19)⟩, ⟨(some 21), none, .build 8 [(8, (.int .u8 0))] []⟩, ⟨(some 22), none, .fa 2 (.t 3)⟩, ⟨(some 23), none, .ld (some 8) (.t 22)⟩, ⟨(some 24), none, .mov (.t 7)⟩, ⟨(some 25), none, .fa 522 (.t 3)⟩, ⟨(some 26), none, .ia 8 1 (.t 25) (.t 24)⟩, ⟨(some 27), none, .ld none (.t 26)⟩, ⟨(some 28), none, .cv .i64 (.t 27)⟩, ⟨(some 29), none, .call 55 [(.t 20), (.t 21), (.t 23), (.t 28)]⟩, ⟨(some 30), none, .eqa true 8 (.t 18) (.t 29)⟩])
(.cond (.t 30)
(.seq
(.reg [⟨(some 6), none, .mov (.c (.bool false))⟩])
.ret)
.skip)))
(.reg [⟨(some 12), none, .mov (.t 7)⟩, ⟨(some 13), none, .bin .add (.t 12) (.c (.int .i64 1))⟩, ⟨(some 7), none, .mov (.t 13)⟩]))))))
(.seq
(.reg [⟨(some 6), none, .mov (.c (.bool true))⟩])
.ret)))
theorem tr71 : trFn Try.prog Try.f71 = some (31, ir71, [.tmp 6]) := by kernel_rfl

/-- (*loop.example/g01230/impl.Hopf).algebra -/
def ir72 : Cd :=
(.seq
(.reg [⟨(some 2), none, .mov (.c .nil)⟩])
(.seq
(.drw true [17] [⟨(some 3), none, .mov (.t 0)⟩, ⟨(some 4), none, .ck (.t 3)⟩, ⟨(some 5), none, .fa 0 (.t 4)⟩, ⟨(some 6), none, .ld none (.t 5)⟩, ⟨(some 7), none, .mov (.t 0)⟩, ⟨(some 8), none, .ck (.t 7)⟩, ⟨(some 9), none, .fa 1 (.t 8)⟩, ⟨(some 10), none, .ld none (.t 9)⟩, ⟨(some 11), none, .mov (.t 0)⟩, ⟨(some 12), none, .ck (.t 11)⟩, ⟨(some 13), none, .fa 2 (.t 12)⟩, ⟨(some 14), none, .ld (some 8) (.t 13)⟩, ⟨(some 15), none, .mov (.t 0)⟩, ⟨(some 16), none, .ck (.t 15)⟩, ⟨(some 17), none, .fa 10 (.t 16)⟩, ⟨(some 18), none, .ld (some 512) (.t 17)⟩, ⟨(some 19), none, .build 522 [(2, (.int .i64 0)), (520, (.int .u8 0))] [(0, 1, (.t 6)), (1, 1, (.t 10)), (2, 8, (.t 14)), (10, 512, (.t 18))]⟩, ⟨(some 20), none, .box 102 (.t 19)⟩, ⟨(some 2), none, .mov (.t 20)⟩])
.ret))
theorem tr72 : trFn Try.prog Try.f72 = some (21, ir72, [.tmp 2]) := by kernel_rfl

/-- (*loop.example/g01230/impl.Algebra).isShaped -/
def ir73 : Cd :=
(.seq
(.reg [⟨(some 2), none, .mov (.c (.bool false))⟩])
(.seq
(.drw true [25] [⟨(some 3), none, .mov (.t 0)⟩, ⟨(some 4), none, .ck (.t 3)⟩, ⟨(some 5), none, .fa 0 (.t 4)⟩, ⟨(some 6), none, .ld none (.t 5)⟩, ⟨(some 7), none, .mov (.t 0)⟩, ⟨(some 8), none, .ck (.t 7)⟩, ⟨(some 9), none, .fa 1 (.t 8)⟩, ⟨(some 10), none, .ld none (.t 9)⟩, ⟨(some 11), none, .mov (.t 0)⟩, ⟨(some 12), none, .ck (.t 11)⟩, ⟨(some 13), none, .fa 2 (.t 12)⟩, ⟨(some 14), none, .ld (some 8) (.t 13)⟩, ⟨(some 15), none, .call 54 [(.t 6), (.t 10), (.t 14)]⟩, ⟨(some 16), none, .mov (.t 15)⟩, ⟨(some 17), (some (16, true)), .mov (.t 0)⟩, ⟨(some 18), (some (16, true)), .ck (.t 17)⟩, ⟨(some 19), (some (16, true)), .fa 0 (.t 18)⟩, ⟨(some 20), (some (16, true)), .ld none (.t 19)⟩, ⟨(some 21), (some (16, true)), .mov (.t 0)⟩, ⟨(some 22), (some (16, true)), .ck (.t 21)⟩, ⟨(some 23), (some (16, true)), .fa 1 (.t 22)⟩, ⟨(some 24), (some (16, true)), .ld none (.t 23)⟩, ⟨(some 25), (some (16, true)), .mov (.t 0)⟩, ⟨(some 26), (some (16, true)), .ck (.t 25)⟩, ⟨(some 27), (some (16, true)), .fa 10 (.t 26)⟩, ⟨(some 28), (some (16, true)), .call 103 [(.t 20), (.t 24), (.t 27)]⟩, ⟨(some 29), none, .pick (.t 16) (.t 28) (.c (.bool false))⟩, ⟨(some 2), none, .mov (.t 29)⟩])
.ret))
theorem tr73 : trFn Try.prog Try.f73 = some (30, ir73, [.tmp 2]) := by kernel_rfl

/-- (*loop.example/g01230/impl.Hopf).coalgebra -/
def ir74 : Cd :=
(.seq
(.reg [⟨(some 2), none, .mov (.c .nil)⟩])
(.seq
(.drw true [17] [⟨(some 3), none, .mov (.t 0)⟩, ⟨(some 4), none, .ck (.t 3)⟩, ⟨(some 5), none, .fa 0 (.t 4)⟩, ⟨(some 6), none, .ld none (.t 5)⟩, ⟨(some 7), none, .mov (.t 0)⟩, ⟨(some 8), none, .ck (.t 7)⟩, ⟨(some 9), none, .fa 1 (.t 8)⟩, ⟨(some 10), none, .ld none (.t 9)⟩, ⟨(some 11), none, .mov (.t 0)⟩, ⟨(some 12), none, .ck (.t 11)⟩, ⟨(some 13), none, .fa 522 (.t 12)⟩, ⟨(some 14), none, .ld (some 8) (.t 13)⟩, ⟨(some 15), none, .mov (.t 0)⟩, ⟨(some 16), none, .ck (.t 15)⟩, ⟨(some 17), none, .fa 530 (.t 16)⟩, ⟨(some 18), none, .ld (some 512) (.t 17)⟩, ⟨(some 19), none, .build 522 [(2, (.int .i64 0)), (520, (.int .u8 0))] [(0, 1, (.t 6)), (1, 1, (.t 10)), (2, 8, (.t 14)), (10, 512, (.t 18))]⟩, ⟨(some 20), none, .box 112 (.t 19)⟩, ⟨(some 2), none, .mov (.t 20)⟩])
.ret))
theorem tr74 : trFn Try.prog Try.f74 = some (21, ir74, [.tmp 2]) := by kernel_rfl

/-- (*loop.example/g01230/impl.Coalgebra).isShaped -/
def ir75 : Cd :=
(.seq
(.reg [⟨(some 2), none, .mov (.c (.bool false))⟩])
(.seq
(.drw true [25] [⟨(some 3), none, .mov (.t 0)⟩, ⟨(some 4), none, .ck (.t 3)⟩, ⟨(some 5), none, .fa 0 (.t 4)⟩, ⟨(some 6), none, .ld none (.t 5)⟩, ⟨(some 7), none, .mov (.t 0)⟩, ⟨(some 8), none, .ck (.t 7)⟩, ⟨(some 9), none, .fa 1 (.t 8)⟩, ⟨(some 10), none, .ld none (.t 9)⟩, ⟨(some 11), none, .mov (.t 0)⟩, ⟨(some 12), none, .ck (.t 11)⟩, ⟨(some 13), none, .fa 2 (.t 12)⟩, ⟨(some 14), none, .ld (some 8) (.t 13)⟩, ⟨(some 15), none, .call 54 [(.t 6), (.t 10), (.t 14)]⟩, ⟨(some 16), none, .mov (.t 15)⟩, ⟨(some 17), (some (16, true)), .mov (.t 0)⟩, ⟨(some 18), (some (16, true)), .ck (.t 17)⟩, ⟨(some 19), (some (16, true)), .fa 0 (.t 18)⟩, ⟨(some 20), (some (16, true)), .ld none (.t 19)⟩, ⟨(some 21), (some (16, true)), .mov (.t 0)⟩, ⟨(some 22), (some (16, true)), .ck (.t 21)⟩, ⟨(some 23), (some (16, true)), .fa 1 (.t 22)⟩, ⟨(some 24), (some (16, true)), .ld none (.t 23)⟩, ⟨(some 25), (some (16, true)), .mov (.t 0)⟩, ⟨(some 26), (some (16, true)), .ck (.t 25)⟩, ⟨(some 27), (some (16, true)), .fa 10 (.t 26)⟩, ⟨(some 28), (some (16, true)), .call 103 [(.t 20), (.t 24), (.t 27)]⟩, ⟨(some 29), none, .pick (.t 16) (.t 28) (.c (.bool false))⟩, ⟨(some 2), none, .mov (.t 29)⟩])
.ret))
theorem tr75 : trFn Try.prog Try.f75 = some (30, ir75, [.tmp 2]) := by kernel_rfl

/-- (*loop.example/g01230/impl.Hopf).fails$1 -/
def ir76 : Cd :=
(.seq
(.reg [⟨(some 1), none, .mov (.c (.bool false))⟩])
(.seq
(.reg [⟨(some 2), none, .ld none (.t 0)⟩, ⟨(some 3), none, .call 72 [(.t 2)]⟩, ⟨(some 4), none, .ck (.t 3)⟩, ⟨(some 5), none, .ld (some 522) (.t 4)⟩, ⟨(some 6), none, .call 77 [(.t 5)]⟩, ⟨(some 1), none, .mov (.t 6)⟩])
.ret))
theorem tr76 : trFn Try.prog Try.f76 = some (7, ir76, [.tmp 1]) := by kernel_rfl

/-- loop.example/g01230/impl.IsAlgebra -/
def ir77 : Cd :=
(.seq
(.reg [⟨(some 1), none, .box 102 (.t 0)⟩, ⟨(some 2), none, .mov (.c (.bool false))⟩])
(.seq
(.seq
(.reg [⟨(some 5), none, .call 73 [(.t 1)]⟩, ⟨(some 6), none, .un .not (.t 5)⟩])
(.cond (.t 6)
(.seq
(.reg [⟨(some 2), none, .mov (.c (.bool false))⟩])
.ret)
.skip))
(.seq
(.seq
(.reg [⟨(some 7), none, .fa 1 (.t 1)⟩, ⟨(some 8), none, .ld none (.t 7)⟩, ⟨(some 9), none, .mov (.c (.int .i64 0))⟩])
(.block 0
(.loop
(.seq
(.reg [⟨(some 10), none, .bin .lss (.t 9) (.t 8)⟩])
(.seq
(.cond (.t 10)
.skip
(.exit 0))
(.seq
(.block 1
(.seq
(.reg [⟨(some 11), none, .mov (.t 9)⟩, ⟨(some 3), none, .mov (.t 11)⟩])
(.seq
(.reg [⟨(some 12), none, .mov (.t 3)⟩, ⟨(some 13), none, .call 61 [(.t 12)]⟩, ⟨(some 4), none, .new 30 [(8, (.int .u8 0))]⟩, ⟨none, none, .st 8 (.t 4) (.t 13)⟩])
(.seq
(.drw true [] [⟨(some 14), none, .fa 2 (.t 1)⟩, ⟨(some 15), none, .ld (some 8) (.t 14)⟩, ⟨(some 16), none, .ld (some 8) (.t 4)⟩, ⟨(some 17), none, .call 104 [(.t 1), (.t 15), (.t 16)]⟩, ⟨(some 18), none, .ld (some 8) (.t 4)⟩, ⟨(some 19), none, .eqa true 8 (.t 17) (.t 18)⟩, ⟨(some 20), none, .mov (.t 19)⟩, ⟨(some 21), (some (20, false)), .ld (some 8) (.t 4)⟩, ⟨(some 22), (some (20, false)), .fa 2 (.t 1)⟩, ⟨(some 23), (some (20, false)), .ld (some 8) (.t 22)⟩, ⟨(some 24), (some (20, false)), .call 104 [(.t 1), (.t 21), (.t 23)]⟩, ⟨(some 25), (some (20, false)), .ld (some 8) (.t 4)⟩, ⟨(some 26), (some (20, false)), .eqa true 8 (.t 24) (.t 25)⟩, ⟨(some 27), none, .pick (.t 20) (.c (.bool true)) (.t 26)⟩])
(.cond (.t 27)
(.seq
(.reg [⟨(some 2), none, .mov (.c (.bool false))⟩])
.ret)
.skip)))))
(.reg [⟨(some 28), none, .bin .add (.t 9) (.c (.int .i64 1))⟩, ⟨(some 9), none, .mov (.t 28)⟩])))))))
(.seq
(.reg [⟨(some 29), none, .call 105 [(.t 1)]⟩, ⟨(some 30), none, .snil false (.t 29)⟩, ⟨(some 2), none, .mov (.t 30)⟩])
.ret))))
theorem tr77 : trFn Try.prog Try.f77 = some (31, ir77, [.tmp 2]) := by kernel_rfl

/-- (*loop.example/g01230/impl.Hopf).fails$2 -/
def ir78 : Cd :=
(.seq
(.reg [⟨(some 1), none, .mov (.c (.bool false))⟩])
(.seq
(.reg [⟨(some 2), none, .ld none (.t 0)⟩, ⟨(some 3), none, .call 74 [(.t 2)]⟩, ⟨(some 4), none, .ck (.t 3)⟩, ⟨(some 5), none, .ld (some 522) (.t 4)⟩, ⟨(some 6), none, .call 79 [(.t 5)]⟩, ⟨(some 1), none, .mov (.t 6)⟩])
.ret))
theorem tr78 : trFn Try.prog Try.f78 = some (7, ir78, [.tmp 1]) := by kernel_rfl

/-- loop.example/g01230/impl.IsCoalgebra -/
def ir79 : Cd :=
(.seq
(.reg [⟨(some 1), none, .box 112 (.t 0)⟩, ⟨(some 2), none, .mov (.c (.bool false))⟩])
(.seq
(.reg [⟨(some 3), none, .call 75 [(.t 1)]⟩, ⟨(some 4), none, .mov (.t 3)⟩, ⟨(some 5), (some (4, true)), .call 106 [(.t 1)]⟩, ⟨(some 6), none, .pick (.t 4) (.t 5) (.c (.bool false))⟩, ⟨(some 7), none, .mov (.t 6)⟩, ⟨(some 8), (some (7, true)), .call 107 [(.t 1)]⟩, ⟨(some 9), (some (7, true)), .snil false (.t 8)⟩, ⟨(some 10), none, .pick (.t 7) (.t 9) (.c (.bool false))⟩, ⟨(some 2), none, .mov (.t 10)⟩])
.ret))
theorem tr79 : trFn Try.prog Try.f79 = some (11, ir79, [.tmp 2]) := by kernel_rfl

/-- (*loop.example/g01230/impl.Hopf).axiom3 -/
def ir80 : Cd :=
(.seq
(.reg [⟨(some 2), none, .mov (.c (.bool false))⟩])
(.seq
(.reg [⟨(some 6), none, .mov (.t 0)⟩, ⟨(some 7), none, .ck (.t 6)⟩, ⟨(some 8), none, .fa 1 (.t 7)⟩, ⟨(some 9), none, .ld none (.t 8)⟩, ⟨(some 3), none, .mov (.t 9)⟩])
(.seq
(.seq
(.reg [⟨(some 10), none, .mov (.t 3)⟩, ⟨(some 11), none, .mov (.c (.int .i64 0))⟩])
(.block 0
(.loop
(.seq
(.reg [⟨(some 12), none, .bin .lss (.t 11) (.t 10)⟩])
(.seq
(.cond (.t 12)
.skip
(.exit 0))
(.seq
(.block 1
(.seq
(.reg [⟨(some 13), none, .mov (.t 11)⟩, ⟨(some 4), none, .mov (.t 13)⟩])
(.seq
(.reg [⟨(some 14), none, .mov (.t 3)⟩, ⟨(some 15), none, .mov (.c (.int .i64 0))⟩])
(.block 2
(.loop
(.seq
(.reg [⟨(some 16), none, .bin .lss (.t 15) (.t 14)⟩])
(.seq
(.cond (.t 16)
.skip
(.exit 2))
(.seq
(.block 3
(.seq
(.reg [⟨(some 17), none, .mov (.t 15)⟩, ⟨(some 5), none, .mov (.t 17)⟩])
(.seq
(.drw true [21] [⟨(some 18), none, .mov (.t 0)⟩, ⟨(some 19), none, .mov (.t 0)⟩, ⟨(some 20), none, .mov (.t 4)⟩, ⟨(some 21), none, .mov (.t 5)⟩, ⟨(some 22), none, .ck (.t 19)⟩, ⟨(some 23), none, .fa 10 (.t 22)⟩, ⟨(some 24), none, .ia 8 64 (.t 23) (.t 20)⟩, ⟨(some 25), none, .ia 8 8 (.t 24) (.t 21)⟩, ⟨(some 26), none, .ld (some 8) (.t 25)⟩, ⟨(some 27), none, .call 108 [(.t 18), (.t 26)]⟩, ⟨(some 28), none, .mov (.t 0)⟩, ⟨(some 29), none, .mov (.t 0)⟩, ⟨(some 30), none, .mov (.t 4)⟩, ⟨(some 31), none, .ck (.t 29)⟩, ⟨(some 32), none, .fa 530 (.t 31)⟩, ⟨(some 33), none, .ia 8 64 (.t 32) (.t 30)⟩, ⟨(some 34), none, .mov (.t 0)⟩, ⟨(some 35), none, .mov (.t 5)⟩, ⟨(some 36), none, .ck (.t 34)⟩, ⟨(some 37), none, .fa 530 (.t 36)⟩, ⟨(some 38), none, .ia 8 64 (.t 37) (.t 35)⟩, ⟨(some 39), none, .call 109 [(.t 28), (.t 33), (.t 38)]⟩, ⟨(some 40), none, .eqa true 64 (.t 27) (.t 39)⟩])
(.cond (.t 40)
(.seq
(.reg [⟨(some 2), none, .mov (.c (.bool false))⟩])
.ret)
.skip))))
(.reg [⟨(some 41), none, .bin .add (.t 15) (.c (.int .i64 1))⟩, ⟨(some 15), none, .mov (.t 41)⟩])))))))))
(.reg [⟨(some 42), none, .bin .add (.t 11) (.c (.int .i64 1))⟩, ⟨(some 11), none, .mov (.t 42)⟩])))))))
(.seq
(.reg [⟨(some 2), none, .mov (.c (.bool true))⟩])
.ret))))
theorem tr80 : trFn Try.prog Try.f80 = some (43, ir80, [.tmp 2]) := by kernel_rfl

/-- (*loop.example/g01230/impl.Hopf).axiom4 -/
def ir81 : Cd :=
(.seq
(.reg [⟨(some 2), none, .mov (.c (.bool false))⟩])
(.seq
(.drwo true [16] [0, 1, 2, 3, 4, 6, 8, 9, 10, 11, 12, 13, 14, 15, 5, 7, 16, 17, 18] [⟨(some 3), none, .mov (.t 0)⟩, ⟨(some 4), none, .mov (.t 0)⟩, ⟨(some 5), none, .ck (.t 4)⟩, ⟨(some 6), none, .fa 2 (.t 5)⟩, ⟨(some 7), none, .ld (some 8) (.t 6)⟩, ⟨(some 8), none, .call 108 [(.t 3), (.t 7)]⟩, ⟨(some 9), none, .mov (.t 0)⟩, ⟨(some 10), none, .call 44 [(.t 9)]⟩, ⟨(some 11), none, .mov (.t 0)⟩, ⟨(some 12), none, .ck (.t 11)⟩, ⟨(some 13), none, .fa 2 (.t 12)⟩, ⟨(some 14), none, .ld (some 8) (.t 13)⟩, ⟨(some 15), none, .mov (.t 0)⟩, ⟨(some 16), none, .ck (.t 15)⟩, ⟨(some 17), none, .fa 2 (.t 16)⟩, ⟨(some 18), none, .ld (some 8) (.t 17)⟩, ⟨(some 19), none, .call 56 [(.t 10), (.t 14), (.t 18)]⟩, ⟨(some 20), none, .eqa false 64 (.t 8) (.t 19)⟩, ⟨(some 2), none, .mov (.t 20)⟩])
.ret))
theorem tr81 : trFn Try.prog Try.f81 = some (21, ir81, [.tmp 2]) := by kernel_rfl

end Go.Proofs.Ytnkmpelakhhoiaa

/- The short form of each function, and that it is one. -/
import Derived.Test.YtnkmpelakhhoiabProg
import Derived.Test.YtnkmpelakhhoiabVI
import Derived.KernelRfl
namespace Go.Proofs.Ytnkmpelakhhoiab
open Go.V
set_option maxRecDepth 100000

/-- loop.example/g01230/spec.l09Fails -/
def ir65 : Cd :=
(.seq
(.reg [⟨(some 2), none, .box 35 (.t 0)⟩, ⟨(some 3), none, .box 29 (.t 1)⟩, ⟨(some 4), none, .mov (.c (.int .i64 0))⟩])
(.seq
(.seq
(.reg [⟨(some 5), none, .mov (.c (.int .i64 0))⟩])
(.block 0
(.loop
(.seq
(.seq
(.reg [⟨(some 8), none, .mov (.t 5)⟩, ⟨(some 9), none, .fa 1 (.t 2)⟩, ⟨(some 10), none, .ld none (.t 9)⟩, ⟨(some 11), none, .bin .lss (.t 8) (.t 10)⟩])
(.cond (.t 11)
.skip
(.exit 0)))
(.seq
(.block 1
(.seq
(.drwo true [16] [0, 1, 2, 3, 4, 5, 7, 8, 9, 10, 11, 12, 13, 15, 6, 14, 16, 17] [⟨(some 14), none, .ld (some 1106) (.t 2)⟩, ⟨(some 15), none, .ld (some 64) (.t 3)⟩, ⟨(some 16), none, .mov (.t 5)⟩, ⟨(some 17), none, .fa 530 (.t 2)⟩, ⟨(some 18), none, .ia 8 64 (.t 17) (.t 16)⟩, ⟨(some 19), none, .ld (some 64) (.t 18)⟩, ⟨(some 20), none, .call 45 [(.t 14), (.t 15), (.t 19)]⟩, ⟨(some 21), none, .ld (some 1106) (.t 2)⟩, ⟨(some 22), none, .fa 1 (.t 2)⟩, ⟨(some 23), none, .ld none (.t 22)⟩, ⟨(some 24), none, .mov (.t 5)⟩, ⟨(some 25), none, .fa 530 (.t 2)⟩, ⟨(some 26), none, .ia 8 64 (.t 25) (.t 24)⟩, ⟨(some 27), none, .ld (some 64) (.t 26)⟩, ⟨(some 28), none, .call 47 [(.t 23), (.t 27)]⟩, ⟨(some 29), none, .ld (some 64) (.t 3)⟩, ⟨(some 30), none, .call 45 [(.t 21), (.t 28), (.t 29)]⟩, ⟨(some 31), none, .eqa true 64 (.t 20) (.t 30)⟩])
(.cond (.t 31)
(.seq
(.reg [⟨(some 4), none, .mov (.c (.int .i64 1))⟩])
.ret)
.skip)))
(.reg [⟨(some 12), none, .mov (.t 5)⟩, ⟨(some 13), none, .bin .add (.t 12) (.c (.int .i64 1))⟩, ⟨(some 5), none, .mov (.t 13)⟩]))))))
(.seq
(.reg [⟨(some 32), none, .ld (some 1106) (.t 2)⟩, ⟨(some 33), none, .ld (some 64) (.t 3)⟩, ⟨(some 34), none, .call 81 [(.t 32), (.t 33), (.c (.int .i64 0)), (.c (.int .i64 2))]⟩, ⟨(some 6), none, .new 33 [(512, (.int .u8 0))]⟩, ⟨none, none, .st 512 (.t 6) (.t 34)⟩])
(.seq
(.block 2
(.seq
(.drwo true [8] [0, 1, 3, 4, 5, 6, 2, 7, 8, 9, 10] [⟨(some 36), none, .ld (some 1106) (.t 2)⟩, ⟨(some 37), none, .ld (some 64) (.t 3)⟩, ⟨(some 38), none, .call 49 [(.t 36), (.t 37)]⟩, ⟨(some 39), none, .ld (some 1106) (.t 2)⟩, ⟨(some 40), none, .ld (some 512) (.t 6)⟩, ⟨(some 41), none, .ld (some 1106) (.t 2)⟩, ⟨(some 42), none, .ld (some 64) (.t 3)⟩, ⟨(some 43), none, .call 81 [(.t 41), (.t 42), (.c (.int .i64 1)), (.c (.int .i64 2))]⟩, ⟨(some 44), none, .call 82 [(.t 39), (.t 40), (.t 43)]⟩, ⟨(some 45), none, .eqa true 512 (.t 38) (.t 44)⟩, ⟨(some 35), none, .mov (.t 45)⟩])
(.cond (.t 35)
(.seq
(.reg [⟨(some 4), none, .mov (.c (.int .i64 2))⟩])
.ret)
(.seq
(.drwo true [8] [0, 1, 3, 4, 5, 6, 2, 7, 8, 9, 10] [⟨(some 47), none, .ld (some 1106) (.t 2)⟩, ⟨(some 48), none, .ld (some 64) (.t 3)⟩, ⟨(some 49), none, .call 83 [(.t 47), (.t 48)]⟩, ⟨(some 50), none, .ld (some 1106) (.t 2)⟩, ⟨(some 51), none, .ld (some 512) (.t 6)⟩, ⟨(some 52), none, .ld (some 1106) (.t 2)⟩, ⟨(some 53), none, .ld (some 64) (.t 3)⟩, ⟨(some 54), none, .call 81 [(.t 52), (.t 53), (.c (.int .i64 0)), (.c (.int .i64 1))]⟩, ⟨(some 55), none, .call 82 [(.t 50), (.t 51), (.t 54)]⟩, ⟨(some 56), none, .eqa true 512 (.t 49) (.t 55)⟩, ⟨(some 46), none, .mov (.t 56)⟩])
(.cond (.t 46)
(.seq
(.reg [⟨(some 4), none, .mov (.c (.int .i64 3))⟩])
.ret)
.skip)))))
(.seq
(.reg [⟨(some 57), none, .ld (some 1106) (.t 2)⟩, ⟨(some 58), none, .ld (some 64) (.t 3)⟩, ⟨(some 59), none, .call 84 [(.t 57), (.t 58)]⟩, ⟨(some 7), none, .new 29 [(64, (.int .u8 0))]⟩, ⟨none, none, .st 64 (.t 7) (.t 59)⟩])
(.seq
(.seq
(.drw true [13] [⟨(some 60), none, .ld (some 1106) (.t 2)⟩, ⟨(some 61), none, .ld (some 64) (.t 3)⟩, ⟨(some 62), none, .ld (some 64) (.t 7)⟩, ⟨(some 63), none, .call 45 [(.t 60), (.t 61), (.t 62)]⟩, ⟨(some 64), none, .ld (some 1106) (.t 2)⟩, ⟨(some 65), none, .call 85 [(.t 64)]⟩, ⟨(some 66), none, .eqa true 64 (.t 63) (.t 65)⟩, ⟨(some 67), none, .mov (.t 66)⟩, ⟨(some 68), (some (67, false)), .ld (some 1106) (.t 2)⟩, ⟨(some 69), (some (67, false)), .ld (some 64) (.t 7)⟩, ⟨(some 70), (some (67, false)), .ld (some 64) (.t 3)⟩, ⟨(some 71), (some (67, false)), .call 45 [(.t 68), (.t 69), (.t 70)]⟩, ⟨(some 72), (some (67, false)), .ld (some 1106) (.t 2)⟩, ⟨(some 73), (some (67, false)), .call 85 [(.t 72)]⟩, ⟨(some 74), (some (67, false)), .eqa true 64 (.t 71) (.t 73)⟩, ⟨(some 75), none, .pick (.t 67) (.c (.bool true)) (.t 74)⟩])
(.cond (.t 75)
(.seq
(.reg [⟨(some 4), none, .mov (.c (.int .i64 4))⟩])
.ret)
.skip))
(.seq
(.reg [⟨(some 4), none, .mov (.c (.int .i64 0))⟩])
.ret)))))))
theorem tr65 : trFn Try.prog Try.f65 = some (76, ir65, [.tmp 4]) := by kernel_rfl

/-- loop.example/g01230/spec.l01Times -/
def ir66 : Cd :=
(.seq
(.reg [⟨(some 3), none, .box 90 (.t 0)⟩, ⟨(some 4), none, .box 27 (.t 1)⟩, ⟨(some 5), none, .box 27 (.t 2)⟩, ⟨(some 6), none, .new 27 [(8, (.int .u8 0))]⟩])
(.seq
(.reg [⟨(some 9), none, .build 8 [(8, (.int .u8 0))] []⟩, ⟨(some 7), none, .new 27 [(8, (.int .u8 0))]⟩, ⟨none, none, .st 8 (.t 7) (.t 9)⟩])
(.seq
(.seq
(.reg [⟨(some 8), none, .mov (.c (.int .i64 0))⟩])
(.block 0
(.loop
(.seq
(.seq
(.reg [⟨(some 10), none, .mov (.t 8)⟩, ⟨(some 11), none, .fa 1 (.t 3)⟩, ⟨(some 12), none, .ld none (.t 11)⟩, ⟨(some 13), none, .bin .lss (.t 10) (.t 12)⟩])
(.cond (.t 13)
.skip
(.exit 0)))
(.seq
(.block 1
(.seq
(.reg [⟨(some 16), none, .mov (.t 8)⟩, ⟨(some 17), none, .ia 8 1 (.t 4) (.t 16)⟩, ⟨(some 18), none, .ld none (.t 17)⟩, ⟨(some 19), none, .bin .neq (.t 18) (.c (.int .u8 0))⟩])
(.cond (.t 19)
(.drwo true [17, 18] [0, 1, 2, 3, 4, 5, 6, 7, 8, 9, 10, 11, 13, 14, 15, 16, 12, 17, 18] [⟨(some 20), none, .fa 0 (.t 3)⟩, ⟨(some 21), none, .ld none (.t 20)⟩, ⟨(some 22), none, .ld (some 8) (.t 7)⟩, ⟨(some 23), none, .fa 0 (.t 3)⟩, ⟨(some 24), none, .ld none (.t 23)⟩, ⟨(some 25), none, .fa 1 (.t 3)⟩, ⟨(some 26), none, .ld none (.t 25)⟩, ⟨(some 27), none, .mov (.t 8)⟩, ⟨(some 28), none, .fa 10 (.t 3)⟩, ⟨(some 29), none, .ia 8 64 (.t 28) (.t 27)⟩, ⟨(some 30), none, .ld (some 64) (.t 29)⟩, ⟨(some 31), none, .ld (some 8) (.t 5)⟩, ⟨(some 32), none, .call 86 [(.t 24), (.t 26), (.t 30), (.t 31)]⟩, ⟨(some 33), none, .mov (.t 8)⟩, ⟨(some 34), none, .ia 8 1 (.t 4) (.t 33)⟩, ⟨(some 35), none, .ld none (.t 34)⟩, ⟨(some 36), none, .cv .i64 (.t 35)⟩, ⟨(some 37), none, .call 68 [(.t 21), (.t 22), (.t 32), (.t 36)]⟩, ⟨none, none, .st 8 (.t 7) (.t 37)⟩])
.skip)))
(.reg [⟨(some 14), none, .mov (.t 8)⟩, ⟨(some 15), none, .bin .add (.t 14) (.c (.int .i64 1))⟩, ⟨(some 8), none, .mov (.t 15)⟩]))))))
(.seq
(.reg [⟨(some 38), none, .ld (some 8) (.t 7)⟩, ⟨none, none, .st 8 (.t 6) (.t 38)⟩])
.ret))))
theorem tr66 : trFn Try.prog Try.f66 = some (39, ir66, [.cell (some 8) 6]) := by kernel_rfl

/-- loop.example/g01230/spec.l03Algebra -/
def ir67 : Cd :=
(.seq
(.reg [⟨(some 1), none, .box 35 (.t 0)⟩, ⟨(some 2), none, .new 90 [(2, (.int .i64 0)), (520, (.int .u8 0))]⟩])
(.seq
(.reg [⟨(some 3), none, .fa 0 (.t 1)⟩, ⟨(some 4), none, .ld none (.t 3)⟩, ⟨(some 5), none, .fa 1 (.t 1)⟩, ⟨(some 6), none, .ld none (.t 5)⟩, ⟨(some 7), none, .fa 2 (.t 1)⟩, ⟨(some 8), none, .ld (some 8) (.t 7)⟩, ⟨(some 9), none, .fa 10 (.t 1)⟩, ⟨(some 10), none, .ld (some 512) (.t 9)⟩, ⟨(some 11), none, .build 522 [(2, (.int .i64 0)), (520, (.int .u8 0))] [(0, 1, (.t 4)), (1, 1, (.t 6)), (2, 8, (.t 8)), (10, 512, (.t 10))]⟩, ⟨none, none, .st 522 (.t 2) (.t 11)⟩])
.ret))
theorem tr67 : trFn Try.prog Try.f67 = some (12, ir67, [.cell (some 522) 2]) := by kernel_rfl

/-- loop.example/g01230/spec.l01Add -/
def ir68 : Cd :=
(.seq
(.reg [⟨(some 5), none, .box 27 (.t 1)⟩, ⟨(some 6), none, .box 27 (.t 2)⟩, ⟨(some 8), none, .new 27 [(8, (.int .u8 0))]⟩])
(.seq
(.seq
(.reg [⟨(some 9), none, .mov (.c (.int .i64 0))⟩])
(.block 0
(.loop
(.seq
(.seq
(.reg [⟨(some 10), none, .mov (.t 9)⟩, ⟨(some 11), none, .bin .lss (.t 10) (.c (.int .i64 8))⟩])
(.cond (.t 11)
.skip
(.exit 0)))
(.seq
(.block 1
(.drw true [15] [⟨(some 14), none, .mov (.t 9)⟩, ⟨(some 15), none, .mov (.t 0)⟩, ⟨(some 16), none, .mov (.t 9)⟩, ⟨(some 17), none, .ia 8 1 (.t 5) (.t 16)⟩, ⟨(some 18), none, .ld none (.t 17)⟩, ⟨(some 19), none, .cv .i64 (.t 18)⟩, ⟨(some 20), none, .mov (.t 3)⟩, ⟨(some 21), none, .mov (.t 9)⟩, ⟨(some 22), none, .ia 8 1 (.t 6) (.t 21)⟩, ⟨(some 23), none, .ld none (.t 22)⟩, ⟨(some 24), none, .cv .i64 (.t 23)⟩, ⟨(some 25), none, .bin .mul (.t 20) (.t 24)⟩, ⟨(some 26), none, .bin .add (.t 19) (.t 25)⟩, ⟨(some 27), none, .call 87 [(.t 15), (.t 26)]⟩, ⟨(some 28), none, .ia 8 1 (.t 5) (.t 14)⟩, ⟨none, none, .st 1 (.t 28) (.t 27)⟩]))
(.reg [⟨(some 12), none, .mov (.t 9)⟩, ⟨(some 13), none, .bin .add (.t 12) (.c (.int .i64 1))⟩, ⟨(some 9), none, .mov (.t 13)⟩]))))))
(.seq
(.reg [⟨(some 29), none, .ld (some 8) (.t 5)⟩, ⟨none, none, .st 8 (.t 8) (.t 29)⟩])
.ret)))
theorem tr68 : trFn Try.prog Try.f68 = some (30, ir68, [.cell (some 8) 8]) := by kernel_rfl

/-- (*loop.example/g01230/impl.Hopf).tensor$1 -/
def ir69 : Cd :=
(.seq
(.reg [⟨(some 7), none, .box 3 (.t 0)⟩, ⟨(some 8), none, .box 3 (.t 1)⟩, ⟨(some 9), none, .box 3 (.t 2)⟩])
(.reg [⟨(some 10), none, .ld none (.t 3)⟩, ⟨(some 11), none, .mkf 70 [] [(.t 4), (.t 7), (.t 5), (.t 6), (.t 9), (.t 8)]⟩, ⟨(some 12), none, .call 36 [(.t 10), (.t 11)]⟩]))
theorem tr69 : trFn Try.prog Try.f69 = some (13, ir69, []) := by kernel_rfl

/-- (*loop.example/g01230/impl.Hopf).tensor$1$1 -/
def ir70 : Cd :=
(.seq
(.drw true [] [⟨(some 14), none, .ld none (.t 3)⟩, ⟨(some 15), none, .ld none (.t 4)⟩, ⟨(some 16), none, .mov (.t 0)⟩, ⟨(some 17), none, .ck (.t 14)⟩, ⟨(some 18), none, .fa 10 (.t 17)⟩, ⟨(some 19), none, .ia 8 64 (.t 18) (.t 15)⟩, ⟨(some 20), none, .ia 8 8 (.t 19) (.t 16)⟩, ⟨(some 21), none, .ld (some 8) (.t 20)⟩, ⟨(some 22), none, .mov (.c (.int .i64 0))⟩])
(.block 0
(.loop
(.seq
(.reg [⟨(some 23), none, .bin .lss (.t 22) (.c (.int .i64 8))⟩])
(.seq
(.cond (.t 23)
.skip
(.exit 0))
(.seq
(.block 1
(.seq
(.reg [⟨(some 24), none, .mov (.t 22)⟩, ⟨(some 25), none, .ix 8 1 none (.t 21) (.t 22)⟩, ⟨(some 12), none, .mov (.t 24)⟩, ⟨(some 13), none, .mov (.t 25)⟩])
(.drw true [20] [⟨(some 26), none, .ld (some 2) (.t 5)⟩, ⟨(some 27), none, .mov (.t 12)⟩, ⟨(some 28), none, .ia 8 8 (.t 6) (.t 27)⟩, ⟨(some 29), none, .ld none (.t 7)⟩, ⟨(some 30), none, .mov (.t 2)⟩, ⟨(some 31), none, .bin .mul (.t 29) (.t 30)⟩, ⟨(some 32), none, .fa 0 (.t 5)⟩, ⟨(some 33), none, .ld none (.t 32)⟩, ⟨(some 34), none, .bin .rem (.t 31) (.t 33)⟩, ⟨(some 35), none, .mov (.t 13)⟩, ⟨(some 36), none, .cv .i64 (.t 35)⟩, ⟨(some 37), none, .bin .mul (.t 34) (.t 36)⟩, ⟨(some 38), none, .ld none (.t 3)⟩, ⟨(some 39), none, .ld none (.t 8)⟩, ⟨(some 40), none, .mov (.t 1)⟩, ⟨(some 41), none, .ck (.t 38)⟩, ⟨(some 42), none, .fa 10 (.t 41)⟩, ⟨(some 43), none, .ia 8 64 (.t 42) (.t 39)⟩, ⟨(some 44), none, .ia 8 8 (.t 43) (.t 40)⟩, ⟨(some 45), none, .ld (some 8) (.t 44)⟩, ⟨(some 46), none, .call 71 [(.t 26), (.t 28), (.t 37), (.t 45)]⟩])))
(.reg [⟨(some 47), none, .bin .add (.t 22) (.c (.int .i64 1))⟩, ⟨(some 22), none, .mov (.t 47)⟩])))))))
theorem tr70 : trFn Try.prog Try.f70 = some (48, ir70, []) := by kernel_rfl

/-- (loop.example/g01230/impl.field).plus -/
def ir71 : Cd :=
(.seq
(.reg [⟨(some 4), none, .box 60 (.t 0)⟩, ⟨(some 7), none, .box 27 (.t 3)⟩])
(.seq
(.seq
(.reg [⟨(some 10), none, .mov (.t 2)⟩, ⟨(some 11), none, .bin .eql (.t 10) (.c (.int .i64 0))⟩])
(.cond (.t 11)
.ret
.skip))
(.seq
(.reg [⟨(some 12), none, .ld (some 8) (.t 7)⟩, ⟨(some 13), none, .mov (.c (.int .i64 0))⟩])
(.block 0
(.loop
(.seq
(.reg [⟨(some 14), none, .bin .lss (.t 13) (.c (.int .i64 8))⟩])
(.seq
(.cond (.t 14)
.skip
(.exit 0))
(.seq
(.block 1
(.seq
(.reg [⟨(some 15), none, .mov (.t 13)⟩, ⟨(some 16), none, .ix 8 1 none (.t 12) (.t 13)⟩, ⟨(some 8), none, .mov (.t 15)⟩, ⟨(some 9), none, .mov (.t 16)⟩])
(.drw true [17] [⟨(some 17), none, .mov (.t 1)⟩, ⟨(some 18), none, .mov (.t 8)⟩, ⟨(some 19), none, .ld (some 2) (.t 4)⟩, ⟨(some 20), none, .mov (.t 1)⟩, ⟨(some 21), none, .mov (.t 8)⟩, ⟨(some 22), none, .ck (.t 20)⟩, ⟨(some 23), none, .ia 8 1 (.t 22) (.t 21)⟩, ⟨(some 24), none, .ld none (.t 23)⟩, ⟨(some 25), none, .cv .i64 (.t 24)⟩, ⟨(some 26), none, .mov (.t 2)⟩, ⟨(some 27), none, .mov (.t 9)⟩, ⟨(some 28), none, .cv .i64 (.t 27)⟩, ⟨(some 29), none, .bin .mul (.t 26) (.t 28)⟩, ⟨(some 30), none, .bin .add (.t 25) (.t 29)⟩, ⟨(some 31), none, .call 59 [(.t 19), (.t 30)]⟩, ⟨(some 32), none, .ck (.t 17)⟩, ⟨(some 33), none, .ia 8 1 (.t 32) (.t 18)⟩, ⟨none, none, .st 1 (.t 33) (.t 31)⟩])))
(.reg [⟨(some 34), none, .bin .add (.t 13) (.c (.int .i64 1))⟩, ⟨(some 13), none, .mov (.t 34)⟩])))))))))
theorem tr71 : trFn Try.prog Try.f71 = some (35, ir71, []) := by kernel_rfl

/-- loop.example/g01230/spec.l03Shape -/
def ir72 : Cd :=
(.seq
(.reg [⟨(some 1), none, .box 35 (.t 0)⟩, ⟨(some 2), none, .mov (.c (.bool false))⟩])
(.seq
(.drw true [] [⟨(some 5), none, .fa 0 (.t 1)⟩, ⟨(some 6), none, .ld none (.t 5)⟩, ⟨(some 7), none, .fa 1 (.t 1)⟩, ⟨(some 8), none, .ld none (.t 7)⟩, ⟨(some 3), none, .mov (.t 6)⟩, ⟨(some 4), none, .mov (.t 8)⟩])
(.seq
(.reg [⟨(some 9), none, .ld (some 1106) (.t 1)⟩, ⟨(some 10), none, .call 67 [(.t 9)]⟩, ⟨(some 11), none, .call 88 [(.t 10)]⟩, ⟨(some 12), none, .mov (.t 11)⟩, ⟨(some 13), (some (12, true)), .mov (.t 3)⟩, ⟨(some 14), (some (12, true)), .mov (.t 4)⟩, ⟨(some 15), (some (12, true)), .fa 522 (.t 1)⟩, ⟨(some 16), (some (12, true)), .ld (some 8) (.t 15)⟩, ⟨(some 17), (some (12, true)), .call 74 [(.t 13), (.t 14), (.t 16)]⟩, ⟨(some 18), none, .pick (.t 12) (.t 17) (.c (.bool false))⟩, ⟨(some 19), none, .mov (.t 18)⟩, ⟨(some 20), (some (19, true)), .mov (.t 3)⟩, ⟨(some 21), (some (19, true)), .mov (.t 4)⟩, ⟨(some 22), (some (19, true)), .fa 530 (.t 1)⟩, ⟨(some 23), (some (19, true)), .ld (some 512) (.t 22)⟩, ⟨(some 24), (some (19, true)), .call 89 [(.t 20), (.t 21), (.t 23)]⟩, ⟨(some 25), none, .pick (.t 19) (.t 24) (.c (.bool false))⟩, ⟨(some 26), none, .mov (.t 25)⟩, ⟨(some 27), (some (26, true)), .mov (.t 3)⟩, ⟨(some 28), (some (26, true)), .mov (.t 4)⟩, ⟨(some 29), (some (26, true)), .fa 1042 (.t 1)⟩, ⟨(some 30), (some (26, true)), .ld (some 64) (.t 29)⟩, ⟨(some 31), (some (26, true)), .call 52 [(.t 27), (.t 28), (.t 30)]⟩, ⟨(some 32), none, .pick (.t 26) (.t 31) (.c (.bool false))⟩, ⟨(some 2), none, .mov (.t 32)⟩])
.ret)))
theorem tr72 : trFn Try.prog Try.f72 = some (33, ir72, [.tmp 2]) := by kernel_rfl

/-- loop.example/g01230/spec.l03Fails -/
def ir73 : Cd :=
(.seq
(.reg [⟨(some 1), none, .box 35 (.t 0)⟩, ⟨(some 2), none, .mov (.c (.int .i64 0))⟩])
(.seq
(.reg [⟨(some 4), none, .ld (some 1106) (.t 1)⟩, ⟨(some 5), none, .call 90 [(.t 4)]⟩, ⟨(some 3), none, .mov (.t 5)⟩])
(.seq
(.block 0
(.seq
(.reg [⟨(some 7), none, .mov (.t 3)⟩, ⟨(some 8), none, .bin .neq (.t 7) (.c (.int .i64 0))⟩, ⟨(some 6), none, .mov (.t 8)⟩])
(.cond (.t 6)
(.seq
(.reg [⟨(some 9), none, .mov (.t 3)⟩, ⟨(some 2), none, .mov (.t 9)⟩])
.ret)
(.seq
(.reg [⟨(some 11), none, .ld (some 1106) (.t 1)⟩, ⟨(some 12), none, .fa 1042 (.t 1)⟩, ⟨(some 13), none, .ld (some 64) (.t 12)⟩, ⟨(some 14), none, .call 91 [(.t 11), (.t 13), (.c (.bool false))]⟩, ⟨(some 15), none, .un .not (.t 14)⟩, ⟨(some 10), none, .mov (.t 15)⟩])
(.cond (.t 10)
(.seq
(.reg [⟨(some 2), none, .mov (.c (.int .i64 6))⟩])
.ret)
(.seq
(.reg [⟨(some 17), none, .ld (some 1106) (.t 1)⟩, ⟨(some 18), none, .fa 1042 (.t 1)⟩, ⟨(some 19), none, .ld (some 64) (.t 18)⟩, ⟨(some 20), none, .call 91 [(.t 17), (.t 19), (.c (.bool true))]⟩, ⟨(some 21), none, .un .not (.t 20)⟩, ⟨(some 16), none, .mov (.t 21)⟩])
(.cond (.t 16)
(.seq
(.reg [⟨(some 2), none, .mov (.c (.int .i64 7))⟩])
.ret)
.skip)))))))
(.seq
(.reg [⟨(some 2), none, .mov (.c (.int .i64 0))⟩])
.ret))))
theorem tr73 : trFn Try.prog Try.f73 = some (22, ir73, [.tmp 2]) := by kernel_rfl

/-- loop.example/g01230/spec.l01Vector -/
def ir74 : Cd :=
(.seq
(.reg [⟨(some 5), none, .box 27 (.t 2)⟩, ⟨(some 6), none, .mov (.c (.bool false))⟩])
(.seq
(.seq
(.reg [⟨(some 7), none, .mov (.c (.int .i64 0))⟩])
(.block 0
(.loop
(.seq
(.seq
(.reg [⟨(some 8), none, .mov (.t 7)⟩, ⟨(some 9), none, .bin .lss (.t 8) (.c (.int .i64 8))⟩])
(.cond (.t 9)
.skip
(.exit 0)))
(.seq
(.block 1
(.seq
(.reg [⟨(some 12), none, .mov (.t 7)⟩, ⟨(some 13), none, .ia 8 1 (.t 5) (.t 12)⟩, ⟨(some 14), none, .ld none (.t 13)⟩, ⟨(some 15), none, .cv .i64 (.t 14)⟩, ⟨(some 16), none, .mov (.t 0)⟩, ⟨(some 17), none, .bin .geq (.t 15) (.t 16)⟩, ⟨(some 18), none, .mov (.t 17)⟩, ⟨(some 19), (some (18, false)), .mov (.t 7)⟩, ⟨(some 20), (some (18, false)), .mov (.t 1)⟩, ⟨(some 21), (some (18, false)), .bin .geq (.t 19) (.t 20)⟩, ⟨(some 22), (some (18, false)), .mov (.t 21)⟩, ⟨(some 23), (some (22, true)), .mov (.t 7)⟩, ⟨(some 24), (some (22, true)), .ia 8 1 (.t 5) (.t 23)⟩, ⟨(some 25), (some (22, true)), .ld none (.t 24)⟩, ⟨(some 26), (some (22, true)), .bin .neq (.t 25) (.c (.int .u8 0))⟩, ⟨(some 27), (some (18, false)), .pick (.t 22) (.t 26) (.c (.bool false))⟩, ⟨(some 28), none, .pick (.t 18) (.c (.bool true)) (.t 27)⟩])
(.cond (.t 28)
(.seq
(.reg [⟨(some 6), none, .mov (.c (.bool false))⟩])
.ret)
.skip)))
(.reg [⟨(some 10), none, .mov (.t 7)⟩, ⟨(some 11), none, .bin .add (.t 10) (.c (.int .i64 1))⟩, ⟨(some 7), none, .mov (.t 11)⟩]))))))
(.seq
(.reg [⟨(some 6), none, .mov (.c (.bool true))⟩])
.ret)))
theorem tr74 : trFn Try.prog Try.f74 = some (29, ir74, [.tmp 6]) := by kernel_rfl

/-- (*loop.example/g01230/impl.Hopf).isShaped -/
def ir75 : Cd :=
(.seq
(.reg [⟨(some 2), none, .mov (.c (.bool false))⟩])
(.seq
(.drwo true [24] [0, 1, 2, 3, 4, 5, 6, 7, 8, 9, 10, 11, 12, 13, 14, 15, 16, 17, 18, 19, 20, 21, 22, 23, 24, 25, 26] [⟨(some 3), none, .mov (.t 0)⟩, ⟨(some 4), none, .call 92 [(.t 3)]⟩, ⟨(some 5), none, .call 93 [(.t 4)]⟩, ⟨(some 6), none, .mov (.t 5)⟩, ⟨(some 7), (some (6, true)), .mov (.t 0)⟩, ⟨(some 8), (some (6, true)), .call 94 [(.t 7)]⟩, ⟨(some 9), (some (6, true)), .call 95 [(.t 8)]⟩, ⟨(some 10), none, .pick (.t 6) (.t 9) (.c (.bool false))⟩, ⟨(some 11), none, .mov (.t 10)⟩, ⟨(some 12), (some (11, true)), .mov (.t 0)⟩, ⟨(some 13), (some (11, true)), .ck (.t 12)⟩, ⟨(some 14), (some (11, true)), .fa 0 (.t 13)⟩, ⟨(some 15), (some (11, true)), .ld none (.t 14)⟩, ⟨(some 16), (some (11, true)), .mov (.t 0)⟩, ⟨(some 17), (some (11, true)), .ck (.t 16)⟩, ⟨(some 18), (some (11, true)), .fa 1 (.t 17)⟩, ⟨(some 19), (some (11, true)), .ld none (.t 18)⟩, ⟨(some 20), (some (11, true)), .mov (.t 0)⟩, ⟨(some 21), (some (11, true)), .ck (.t 20)⟩, ⟨(some 22), (some (11, true)), .fa 1 (.t 21)⟩, ⟨(some 23), (some (11, true)), .ld none (.t 22)⟩, ⟨(some 24), (some (11, true)), .mov (.t 0)⟩, ⟨(some 25), (some (11, true)), .ck (.t 24)⟩, ⟨(some 26), (some (11, true)), .fa 1042 (.t 25)⟩, ⟨(some 27), (some (11, true)), .call 55 [(.t 15), (.t 19), (.t 23), (.t 26)]⟩, ⟨(some 28), none, .pick (.t 11) (.t 27) (.c (.bool false))⟩, ⟨(some 2), none, .mov (.t 28)⟩])
.ret))
theorem tr75 : trFn Try.prog Try.f75 = some (29, ir75, [.tmp 2]) := by kernel_rfl

/-- (*loop.example/g01230/impl.Hopf).fails -/
def ir76 : Cd :=
(.seq
(.reg [⟨(some 2), none, .box 52 (.t 0)⟩, ⟨(some 4), none, .mov (.c (.int .i64 0))⟩])
(.seq
(.reg [⟨(some 8), none, .mkf 96 [] [(.t 2)]⟩, ⟨(some 9), none, .mkf 98 [] [(.t 2)]⟩, ⟨(some 10), none, .ld none (.t 2)⟩, ⟨(some 11), none, .mkf 100 [(.t 10)] []⟩, ⟨(some 12), none, .ld none (.t 2)⟩, ⟨(some 13), none, .mkf 101 [(.t 12)] []⟩, ⟨(some 14), none, .ld none (.t 2)⟩, ⟨(some 15), none, .mkf 102 [(.t 14)] []⟩, ⟨(some 16), none, .mkf 103 [] [(.t 2)]⟩, ⟨(some 17), none, .mkf 105 [] [(.t 2)]⟩, ⟨(some 18), none, .bsl 97 7 1 [(1, .nilfn)] [(0, 1, (.t 8)), (1, 1, (.t 9)), (2, 1, (.t 11)), (3, 1, (.t 13)), (4, 1, (.t 15)), (5, 1, (.t 16)), (6, 1, (.t 17))]⟩, ⟨(some 5), none, .mov (.t 18)⟩])
(.seq
(.seq
(.reg [⟨(some 19), none, .mov (.t 5)⟩, ⟨(some 20), none, .mov (.t 1)⟩, ⟨(some 21), none, .sls 1 (.t 19) none (some (.t 20)) none⟩, ⟨(some 22), none, .len (.t 21)⟩, ⟨(some 23), none, .mov (.c (.int .i64 0))⟩])
(.block 0
(.loop
(.seq
(.reg [⟨(some 24), none, .bin .lss (.t 23) (.t 22)⟩])
(.seq
(.cond (.t 24)
.skip
(.exit 0))
(.seq
(.block 1
(.seq
(.reg [⟨(some 25), none, .mov (.t 23)⟩, ⟨(some 26), none, .isl 1 (.t 21) (.t 23)⟩, ⟨(some 27), none, .ld none (.t 26)⟩, ⟨(some 6), none, .mov (.t 25)⟩, ⟨(some 7), none, .mov (.t 27)⟩])
(.seq
(.reg [⟨(some 28), none, .mov (.t 7)⟩, ⟨(some 29), none, .callv (.t 28) []⟩, ⟨(some 30), none, .un .not (.t 29)⟩])
(.cond (.t 30)
(.seq
(.reg [⟨(some 31), none, .mov (.t 6)⟩, ⟨(some 32), none, .bin .add (.t 31) (.c (.int .i64 1))⟩, ⟨(some 4), none, .mov (.t 32)⟩])
.ret)
.skip))))
(.reg [⟨(some 33), none, .bin .add (.t 23) (.c (.int .i64 1))⟩, ⟨(some 23), none, .mov (.t 33)⟩])))))))
(.seq
(.reg [⟨(some 4), none, .mov (.c (.int .i64 0))⟩])
.ret))))
theorem tr76 : trFn Try.prog Try.f76 = some (34, ir76, [.tmp 4]) := by kernel_rfl

/-- loop.example/g01230/impl.IsVector -/
def ir77 : Cd :=
(.seq
(.reg [⟨(some 5), none, .box 27 (.t 2)⟩, ⟨(some 6), none, .mov (.c (.bool false))⟩])
(.seq
(.seq
(.reg [⟨(some 9), none, .mov (.t 0)⟩, ⟨(some 10), none, .call 106 [(.t 9)]⟩, ⟨(some 11), none, .un .not (.t 10)⟩, ⟨(some 12), none, .mov (.t 11)⟩, ⟨(some 13), (some (12, false)), .mov (.t 1)⟩, ⟨(some 14), (some (12, false)), .call 107 [(.t 13), (.c (.int .i64 1)), (.c (.int .i64 8))]⟩, ⟨(some 15), (some (12, false)), .un .not (.t 14)⟩, ⟨(some 16), none, .pick (.t 12) (.c (.bool true)) (.t 15)⟩])
(.cond (.t 16)
(.seq
(.reg [⟨(some 6), none, .mov (.c (.bool false))⟩])
.ret)
.skip))
(.seq
(.seq
(.reg [⟨(some 17), none, .ld (some 8) (.t 5)⟩, ⟨(some 18), none, .mov (.c (.int .i64 0))⟩])
(.block 0
(.loop
(.seq
(.reg [⟨(some 19), none, .bin .lss (.t 18) (.c (.int .i64 8))⟩])
(.seq
(.cond (.t 19)
.skip
(.exit 0))
(.seq
(.block 1
(.seq
(.reg [⟨(some 20), none, .mov (.t 18)⟩, ⟨(some 21), none, .ix 8 1 none (.t 17) (.t 18)⟩, ⟨(some 7), none, .mov (.t 20)⟩, ⟨(some 8), none, .mov (.t 21)⟩])
(.seq
(.reg [⟨(some 22), none, .mov (.t 8)⟩, ⟨(some 23), none, .cv .i64 (.t 22)⟩, ⟨(some 24), none, .mov (.t 0)⟩, ⟨(some 25), none, .bin .geq (.t 23) (.t 24)⟩, ⟨(some 26), none, .mov (.t 25)⟩, ⟨(some 27), (some (26, false)), .mov (.t 7)⟩, ⟨(some 28), (some (26, false)), .mov (.t 1)⟩, ⟨(some 29), (some (26, false)), .bin .geq (.t 27) (.t 28)⟩, ⟨(some 30), (some (26, false)), .mov (.t 29)⟩, ⟨(some 31), (some (30, true)), .mov (.t 8)⟩, ⟨(some 32), (some (30, true)), .bin .neq (.t 31) (.c (.int .u8 0))⟩, ⟨(some 33), (some (26, false)), .pick (.t 30) (.t 32) (.c (.bool false))⟩, ⟨(some 34), none, .pick (.t 26) (.c (.bool true)) (.t 33)⟩])
(.cond (.t 34)
(.seq
(.reg [⟨(some 6), none, .mov (.c (.bool false))⟩])
.ret)
.skip))))
(.reg [⟨(some 35), none, .bin .add (.t 18) (.c (.int .i64 1))⟩, ⟨(some 18), none, .mov (.t 35)⟩])))))))
(.seq
(.reg [⟨(some 6), none, .mov (.c (.bool true))⟩])
.ret))))
theorem tr77 : trFn Try.prog Try.f77 = some (36, ir77, [.tmp 6]) := by kernel_rfl

/-- (*loop.example/g01230/impl.Hopf).split$1 -/
def ir78 : Cd :=
(.seq
(.reg [⟨(some 7), none, .box 3 (.t 0)⟩, ⟨(some 8), none, .box 3 (.t 1)⟩, ⟨(some 9), none, .box 3 (.t 2)⟩])
(.drw true [6] [⟨(some 10), none, .ld none (.t 3)⟩, ⟨(some 11), none, .ld none (.t 4)⟩, ⟨(some 12), none, .ck (.t 10)⟩, ⟨(some 13), none, .fa 530 (.t 12)⟩, ⟨(some 14), none, .ia 8 64 (.t 13) (.t 11)⟩, ⟨(some 15), none, .mkf 79 [] [(.t 5), (.t 7), (.t 8), (.t 9), (.t 6)]⟩, ⟨(some 16), none, .call 36 [(.t 14), (.t 15)]⟩]))
theorem tr78 : trFn Try.prog Try.f78 = some (17, ir78, []) := by kernel_rfl

/-- (*loop.example/g01230/impl.Hopf).split$1$1 -/
def ir79 : Cd :=
(.drw true [10] [⟨(some 11), none, .ld none (.t 3)⟩, ⟨(some 12), none, .ld none (.t 4)⟩, ⟨(some 13), none, .ld none (.t 5)⟩, ⟨(some 14), none, .mov (.t 0)⟩, ⟨(some 15), none, .mov (.t 1)⟩, ⟨(some 16), none, .ld none (.t 6)⟩, ⟨(some 17), none, .mov (.t 2)⟩, ⟨(some 18), none, .bin .mul (.t 16) (.t 17)⟩, ⟨(some 19), none, .ld none (.t 7)⟩, ⟨(some 20), none, .bin .rem (.t 18) (.t 19)⟩, ⟨(some 21), none, .callv (.t 11) [(.t 12), (.t 13), (.t 14), (.t 15), (.t 20)]⟩])
theorem tr79 : trFn Try.prog Try.f79 = some (22, ir79, []) := by kernel_rfl

/-- (*loop.example/g01230/impl.Hopf).legProduct$1 -/
def ir80 : Cd :=
(.drw true [19] [⟨(some 14), none, .ld (some 2) (.t 5)⟩, ⟨(some 15), none, .mov (.t 4)⟩, ⟨(some 16), none, .ld none (.t 7)⟩, ⟨(some 17), none, .mov (.t 0)⟩, ⟨(some 18), none, .mov (.t 2)⟩, ⟨(some 19), none, .ck (.t 16)⟩, ⟨(some 20), none, .ia 8 8 (.t 19) (.t 17)⟩, ⟨(some 21), none, .ia 8 1 (.t 20) (.t 18)⟩, ⟨(some 22), none, .ld none (.t 21)⟩, ⟨(some 23), none, .cv .i64 (.t 22)⟩, ⟨(some 24), none, .bin .mul (.t 15) (.t 23)⟩, ⟨(some 25), none, .ld none (.t 8)⟩, ⟨(some 26), none, .mov (.t 1)⟩, ⟨(some 27), none, .mov (.t 3)⟩, ⟨(some 28), none, .ck (.t 25)⟩, ⟨(some 29), none, .fa 10 (.t 28)⟩, ⟨(some 30), none, .ia 8 64 (.t 29) (.t 26)⟩, ⟨(some 31), none, .ia 8 8 (.t 30) (.t 27)⟩, ⟨(some 32), none, .ld (some 8) (.t 31)⟩, ⟨(some 33), none, .call 71 [(.t 14), (.t 6), (.t 24), (.t 32)]⟩])
theorem tr80 : trFn Try.prog Try.f80 = some (34, ir80, []) := by kernel_rfl

/-- loop.example/g01230/spec.l09Parts -/
def ir81 : Cd :=
(.seq
(.reg [⟨(some 4), none, .box 35 (.t 0)⟩, ⟨(some 5), none, .box 29 (.t 1)⟩, ⟨(some 8), none, .new 33 [(512, (.int .u8 0))]⟩])
(.seq
(.reg [⟨(some 16), none, .fa 1 (.t 4)⟩, ⟨(some 17), none, .ld none (.t 16)⟩, ⟨(some 18), none, .build 512 [(512, (.int .u8 0))] []⟩, ⟨(some 10), none, .new 33 [(512, (.int .u8 0))]⟩, ⟨(some 9), none, .mov (.t 17)⟩, ⟨none, none, .st 512 (.t 10) (.t 18)⟩])
(.seq
(.seq
(.reg [⟨(some 11), none, .mov (.c (.int .i64 0))⟩])
(.block 0
(.loop
(.seq
(.seq
(.reg [⟨(some 19), none, .mov (.t 11)⟩, ⟨(some 20), none, .mov (.t 9)⟩, ⟨(some 21), none, .bin .lss (.t 19) (.t 20)⟩])
(.cond (.t 21)
.skip
(.exit 0)))
(.seq
(.block 1
(.seq
(.reg [⟨(some 12), none, .mov (.c (.int .i64 0))⟩])
(.block 2
(.loop
(.seq
(.seq
(.reg [⟨(some 24), none, .mov (.t 12)⟩, ⟨(some 25), none, .mov (.t 9)⟩, ⟨(some 26), none, .bin .lss (.t 24) (.t 25)⟩])
(.cond (.t 26)
.skip
(.exit 2)))
(.seq
(.block 3
(.seq
(.reg [⟨(some 13), none, .mov (.c (.int .i64 0))⟩])
(.block 4
(.loop
(.seq
(.seq
(.reg [⟨(some 29), none, .mov (.t 13)⟩, ⟨(some 30), none, .mov (.t 9)⟩, ⟨(some 31), none, .bin .lss (.t 29) (.t 30)⟩])
(.cond (.t 31)
.skip
(.exit 4)))
(.seq
(.block 5
(.seq
(.reg [⟨(some 34), none, .mov (.t 13)⟩, ⟨(some 35), none, .mov (.t 13)⟩, ⟨(some 36), none, .mov (.t 13)⟩, ⟨(some 37), none, .build 3 [(3, (.int .i64 0))] [(0, 1, (.t 34)), (1, 1, (.t 35)), (2, 1, (.t 36))]⟩, ⟨(some 14), none, .new 119 [(3, (.int .i64 0))]⟩, ⟨none, none, .st 3 (.t 14) (.t 37)⟩])
(.seq
(.reg [⟨(some 38), none, .mov (.t 2)⟩, ⟨(some 39), none, .mov (.t 11)⟩, ⟨(some 40), none, .ia 3 1 (.t 14) (.t 38)⟩, ⟨none, none, .st 1 (.t 40) (.t 39)⟩])
(.seq
(.reg [⟨(some 41), none, .mov (.t 3)⟩, ⟨(some 42), none, .mov (.t 12)⟩, ⟨(some 43), none, .ia 3 1 (.t 14) (.t 41)⟩, ⟨none, none, .st 1 (.t 43) (.t 42)⟩])
(.seq
(.drw true [14] [⟨(some 44), none, .fa 0 (.t 4)⟩, ⟨(some 45), none, .ld none (.t 44)⟩, ⟨(some 46), none, .mov (.t 11)⟩, ⟨(some 47), none, .mov (.t 12)⟩, ⟨(some 48), none, .ia 8 8 (.t 5) (.t 46)⟩, ⟨(some 49), none, .ia 8 1 (.t 48) (.t 47)⟩, ⟨(some 50), none, .ld none (.t 49)⟩, ⟨(some 51), none, .cv .i64 (.t 50)⟩, ⟨(some 52), none, .mov (.t 13)⟩, ⟨(some 53), none, .fa 2 (.t 4)⟩, ⟨(some 54), none, .ia 8 1 (.t 53) (.t 52)⟩, ⟨(some 55), none, .ld none (.t 54)⟩, ⟨(some 56), none, .cv .i64 (.t 55)⟩, ⟨(some 57), none, .bin .mul (.t 51) (.t 56)⟩, ⟨(some 58), none, .call 87 [(.t 45), (.t 57)]⟩, ⟨(some 15), none, .mov (.t 58)⟩])
(.seq
(.reg [⟨(some 59), none, .mov (.t 15)⟩, ⟨(some 60), none, .bin .neq (.t 59) (.c (.int .u8 0))⟩])
(.cond (.t 60)
(.drw true [10] [⟨(some 61), none, .ia 3 1 (.t 14) (.c (.int .i64 0))⟩, ⟨(some 62), none, .ld none (.t 61)⟩, ⟨(some 63), none, .ia 3 1 (.t 14) (.c (.int .i64 1))⟩, ⟨(some 64), none, .ld none (.t 63)⟩, ⟨(some 65), none, .ia 3 1 (.t 14) (.c (.int .i64 2))⟩, ⟨(some 66), none, .ld none (.t 65)⟩, ⟨(some 67), none, .mov (.t 15)⟩, ⟨(some 68), none, .ia 8 64 (.t 10) (.t 62)⟩, ⟨(some 69), none, .ia 8 8 (.t 68) (.t 64)⟩, ⟨(some 70), none, .ia 8 1 (.t 69) (.t 66)⟩, ⟨none, none, .st 1 (.t 70) (.t 67)⟩])
.skip)))))))
(.reg [⟨(some 32), none, .mov (.t 13)⟩, ⟨(some 33), none, .bin .add (.t 32) (.c (.int .i64 1))⟩, ⟨(some 13), none, .mov (.t 33)⟩])))))))
(.reg [⟨(some 27), none, .mov (.t 12)⟩, ⟨(some 28), none, .bin .add (.t 27) (.c (.int .i64 1))⟩, ⟨(some 12), none, .mov (.t 28)⟩])))))))
(.reg [⟨(some 22), none, .mov (.t 11)⟩, ⟨(some 23), none, .bin .add (.t 22) (.c (.int .i64 1))⟩, ⟨(some 11), none, .mov (.t 23)⟩]))))))
(.seq
(.reg [⟨(some 71), none, .ld (some 512) (.t 10)⟩, ⟨none, none, .st 512 (.t 8) (.t 71)⟩])
.ret))))
theorem tr81 : trFn Try.prog Try.f81 = some (72, ir81, [.cell (some 512) 8]) := by kernel_rfl

/-- loop.example/g01230/spec.l09Product -/
def ir82 : Cd :=
(.seq
(.reg [⟨(some 3), none, .box 35 (.t 0)⟩, ⟨(some 4), none, .box 33 (.t 1)⟩, ⟨(some 5), none, .box 33 (.t 2)⟩, ⟨(some 6), none, .new 33 [(512, (.int .u8 0))]⟩])
(.seq
(.reg [⟨(some 15), none, .fa 1 (.t 3)⟩, ⟨(some 16), none, .ld none (.t 15)⟩, ⟨(some 17), none, .build 512 [(512, (.int .u8 0))] []⟩, ⟨(some 8), none, .new 33 [(512, (.int .u8 0))]⟩, ⟨(some 7), none, .mov (.t 16)⟩, ⟨none, none, .st 512 (.t 8) (.t 17)⟩])
(.seq
(.seq
(.reg [⟨(some 9), none, .mov (.c (.int .i64 0))⟩])
(.block 0
(.loop
(.seq
(.seq
(.reg [⟨(some 18), none, .mov (.t 9)⟩, ⟨(some 19), none, .mov (.t 7)⟩, ⟨(some 20), none, .bin .lss (.t 18) (.t 19)⟩])
(.cond (.t 20)
.skip
(.exit 0)))
(.seq
(.block 1
(.seq
(.reg [⟨(some 10), none, .mov (.c (.int .i64 0))⟩])
(.block 2
(.loop
(.seq
(.seq
(.reg [⟨(some 23), none, .mov (.t 10)⟩, ⟨(some 24), none, .mov (.t 7)⟩, ⟨(some 25), none, .bin .lss (.t 23) (.t 24)⟩])
(.cond (.t 25)
.skip
(.exit 2)))
(.seq
(.block 3
(.seq
(.seq
(.reg [⟨(some 28), none, .mov (.t 9)⟩, ⟨(some 29), none, .ia 8 64 (.t 4) (.t 28)⟩, ⟨(some 30), none, .ld (some 64) (.t 29)⟩, ⟨(some 31), none, .build 64 [(64, (.int .u8 0))] []⟩, ⟨(some 32), none, .eqa false 64 (.t 30) (.t 31)⟩, ⟨(some 33), none, .mov (.t 32)⟩, ⟨(some 34), (some (33, false)), .mov (.t 10)⟩, ⟨(some 35), (some (33, false)), .ia 8 64 (.t 5) (.t 34)⟩, ⟨(some 36), (some (33, false)), .ld (some 64) (.t 35)⟩, ⟨(some 37), (some (33, false)), .build 64 [(64, (.int .u8 0))] []⟩, ⟨(some 38), (some (33, false)), .eqa false 64 (.t 36) (.t 37)⟩, ⟨(some 39), none, .pick (.t 33) (.c (.bool true)) (.t 38)⟩])
(.cond (.t 39)
(.exit 3)
.skip))
(.seq
(.mix [⟨(some 40), none, .ld (some 1106) (.t 3)⟩, ⟨(some 41), none, .mov (.t 9)⟩, ⟨(some 42), none, .ia 8 64 (.t 4) (.t 41)⟩, ⟨(some 43), none, .ld (some 64) (.t 42)⟩, ⟨(some 44), none, .mov (.t 10)⟩, ⟨(some 45), none, .ia 8 64 (.t 5) (.t 44)⟩, ⟨(some 46), none, .ld (some 64) (.t 45)⟩, ⟨(some 47), none, .call 45 [(.t 40), (.t 43), (.t 46)]⟩] [⟨(some 11), none, .new 29 [(64, (.int .u8 0))]⟩, ⟨none, none, .st 64 (.t 11) (.t 47)⟩])
(.seq
(.reg [⟨(some 12), none, .mov (.c (.int .i64 0))⟩])
(.block 4
(.loop
(.seq
(.seq
(.reg [⟨(some 48), none, .mov (.t 12)⟩, ⟨(some 49), none, .mov (.t 7)⟩, ⟨(some 50), none, .bin .lss (.t 48) (.t 49)⟩])
(.cond (.t 50)
.skip
(.exit 4)))
(.seq
(.block 5
(.seq
(.reg [⟨(some 53), none, .mov (.t 9)⟩, ⟨(some 54), none, .mov (.t 10)⟩, ⟨(some 55), none, .mov (.t 12)⟩, ⟨(some 56), none, .fa 10 (.t 3)⟩, ⟨(some 57), none, .ia 8 64 (.t 56) (.t 53)⟩, ⟨(some 58), none, .ia 8 8 (.t 57) (.t 54)⟩, ⟨(some 59), none, .ia 8 1 (.t 58) (.t 55)⟩, ⟨(some 60), none, .ld none (.t 59)⟩, ⟨(some 61), none, .cv .i64 (.t 60)⟩, ⟨(some 13), none, .mov (.t 61)⟩])
(.seq
(.reg [⟨(some 14), none, .mov (.c (.int .i64 0))⟩])
(.block 6
(.loop
(.seq
(.seq
(.reg [⟨(some 62), none, .mov (.t 14)⟩, ⟨(some 63), none, .mov (.t 7)⟩, ⟨(some 64), none, .bin .lss (.t 62) (.t 63)⟩, ⟨(some 65), none, .mov (.t 64)⟩, ⟨(some 66), (some (65, true)), .mov (.t 13)⟩, ⟨(some 67), (some (65, true)), .bin .neq (.t 66) (.c (.int .i64 0))⟩, ⟨(some 68), none, .pick (.t 65) (.t 67) (.c (.bool false))⟩])
(.cond (.t 68)
.skip
(.exit 6)))
(.seq
(.block 7
(.drw true [16] [⟨(some 71), none, .mov (.t 12)⟩, ⟨(some 72), none, .mov (.t 14)⟩, ⟨(some 73), none, .fa 0 (.t 3)⟩, ⟨(some 74), none, .ld none (.t 73)⟩, ⟨(some 75), none, .mov (.t 12)⟩, ⟨(some 76), none, .mov (.t 14)⟩, ⟨(some 77), none, .ia 8 64 (.t 8) (.t 75)⟩, ⟨(some 78), none, .ia 8 8 (.t 77) (.t 76)⟩, ⟨(some 79), none, .ld (some 8) (.t 78)⟩, ⟨(some 80), none, .mov (.t 14)⟩, ⟨(some 81), none, .ia 8 8 (.t 11) (.t 80)⟩, ⟨(some 82), none, .ld (some 8) (.t 81)⟩, ⟨(some 83), none, .mov (.t 13)⟩, ⟨(some 84), none, .call 68 [(.t 74), (.t 79), (.t 82), (.t 83)]⟩, ⟨(some 85), none, .ia 8 64 (.t 8) (.t 71)⟩, ⟨(some 86), none, .ia 8 8 (.t 85) (.t 72)⟩, ⟨none, none, .st 8 (.t 86) (.t 84)⟩]))
(.reg [⟨(some 69), none, .mov (.t 14)⟩, ⟨(some 70), none, .bin .add (.t 69) (.c (.int .i64 1))⟩, ⟨(some 14), none, .mov (.t 70)⟩]))))))))
(.reg [⟨(some 51), none, .mov (.t 12)⟩, ⟨(some 52), none, .bin .add (.t 51) (.c (.int .i64 1))⟩, ⟨(some 12), none, .mov (.t 52)⟩])))))))))
(.reg [⟨(some 26), none, .mov (.t 10)⟩, ⟨(some 27), none, .bin .add (.t 26) (.c (.int .i64 1))⟩, ⟨(some 10), none, .mov (.t 27)⟩])))))))
(.reg [⟨(some 21), none, .mov (.t 9)⟩, ⟨(some 22), none, .bin .add (.t 21) (.c (.int .i64 1))⟩, ⟨(some 9), none, .mov (.t 22)⟩]))))))
(.seq
(.reg [⟨(some 87), none, .ld (some 512) (.t 8)⟩, ⟨none, none, .st 512 (.t 6) (.t 87)⟩])
.ret))))
theorem tr82 : trFn Try.prog Try.f82 = some (88, ir82, [.cell (some 512) 6]) := by kernel_rfl

/-- loop.example/g01230/spec.l09Second -/
def ir83 : Cd :=
(.seq
(.reg [⟨(some 2), none, .box 35 (.t 0)⟩, ⟨(some 3), none, .box 29 (.t 1)⟩, ⟨(some 4), none, .new 33 [(512, (.int .u8 0))]⟩])
(.seq
(.reg [⟨(some 8), none, .fa 1 (.t 2)⟩, ⟨(some 9), none, .ld none (.t 8)⟩, ⟨(some 10), none, .build 512 [(512, (.int .u8 0))] []⟩, ⟨(some 6), none, .new 33 [(512, (.int .u8 0))]⟩, ⟨(some 5), none, .mov (.t 9)⟩, ⟨none, none, .st 512 (.t 6) (.t 10)⟩])
(.seq
(.seq
(.reg [⟨(some 7), none, .mov (.c (.int .i64 0))⟩])
(.block 0
(.loop
(.seq
(.seq
(.reg [⟨(some 11), none, .mov (.t 7)⟩, ⟨(some 12), none, .mov (.t 5)⟩, ⟨(some 13), none, .bin .lss (.t 11) (.t 12)⟩])
(.cond (.t 13)
.skip
(.exit 0)))
(.seq
(.block 1
(.drw true [7] [⟨(some 16), none, .mov (.t 7)⟩, ⟨(some 17), none, .ld (some 1106) (.t 2)⟩, ⟨(some 18), none, .mov (.t 7)⟩, ⟨(some 19), none, .ia 8 8 (.t 3) (.t 18)⟩, ⟨(some 20), none, .ld (some 8) (.t 19)⟩, ⟨(some 21), none, .call 108 [(.t 17), (.t 20)]⟩, ⟨(some 22), none, .ia 8 64 (.t 6) (.t 16)⟩, ⟨none, none, .st 64 (.t 22) (.t 21)⟩]))
(.reg [⟨(some 14), none, .mov (.t 7)⟩, ⟨(some 15), none, .bin .add (.t 14) (.c (.int .i64 1))⟩, ⟨(some 7), none, .mov (.t 15)⟩]))))))
(.seq
(.reg [⟨(some 23), none, .ld (some 512) (.t 6)⟩, ⟨none, none, .st 512 (.t 4) (.t 23)⟩])
.ret))))
theorem tr83 : trFn Try.prog Try.f83 = some (24, ir83, [.cell (some 512) 4]) := by kernel_rfl

/-- loop.example/g01230/spec.l09Back -/
def ir84 : Cd :=
(.seq
(.reg [⟨(some 2), none, .box 35 (.t 0)⟩, ⟨(some 3), none, .box 29 (.t 1)⟩, ⟨(some 4), none, .new 29 [(64, (.int .u8 0))]⟩])
(.seq
(.reg [⟨(some 8), none, .build 64 [(64, (.int .u8 0))] []⟩, ⟨(some 5), none, .new 29 [(64, (.int .u8 0))]⟩, ⟨none, none, .st 64 (.t 5) (.t 8)⟩])
(.seq
(.seq
(.reg [⟨(some 6), none, .mov (.c (.int .i64 0))⟩])
(.block 0
(.loop
(.seq
(.seq
(.reg [⟨(some 9), none, .mov (.t 6)⟩, ⟨(some 10), none, .fa 1 (.t 2)⟩, ⟨(some 11), none, .ld none (.t 10)⟩, ⟨(some 12), none, .bin .lss (.t 9) (.t 11)⟩])
(.cond (.t 12)
.skip
(.exit 0)))
(.seq
(.block 1
(.seq
(.reg [⟨(some 7), none, .mov (.c (.int .i64 0))⟩])
(.block 2
(.loop
(.seq
(.seq
(.reg [⟨(some 15), none, .mov (.t 7)⟩, ⟨(some 16), none, .fa 1 (.t 2)⟩, ⟨(some 17), none, .ld none (.t 16)⟩, ⟨(some 18), none, .bin .lss (.t 15) (.t 17)⟩])
(.cond (.t 18)
.skip
(.exit 2)))
(.seq
(.block 3
(.drw true [18] [⟨(some 21), none, .mov (.t 7)⟩, ⟨(some 22), none, .fa 0 (.t 2)⟩, ⟨(some 23), none, .ld none (.t 22)⟩, ⟨(some 24), none, .mov (.t 7)⟩, ⟨(some 25), none, .ia 8 8 (.t 5) (.t 24)⟩, ⟨(some 26), none, .ld (some 8) (.t 25)⟩, ⟨(some 27), none, .mov (.t 6)⟩, ⟨(some 28), none, .ia 8 8 (.t 3) (.t 27)⟩, ⟨(some 29), none, .ld (some 8) (.t 28)⟩, ⟨(some 30), none, .mov (.t 6)⟩, ⟨(some 31), none, .mov (.t 7)⟩, ⟨(some 32), none, .fa 1042 (.t 2)⟩, ⟨(some 33), none, .ia 8 8 (.t 32) (.t 30)⟩, ⟨(some 34), none, .ia 8 1 (.t 33) (.t 31)⟩, ⟨(some 35), none, .ld none (.t 34)⟩, ⟨(some 36), none, .cv .i64 (.t 35)⟩, ⟨(some 37), none, .call 68 [(.t 23), (.t 26), (.t 29), (.t 36)]⟩, ⟨(some 38), none, .ia 8 8 (.t 5) (.t 21)⟩, ⟨none, none, .st 8 (.t 38) (.t 37)⟩]))
(.reg [⟨(some 19), none, .mov (.t 7)⟩, ⟨(some 20), none, .bin .add (.t 19) (.c (.int .i64 1))⟩, ⟨(some 7), none, .mov (.t 20)⟩])))))))
(.reg [⟨(some 13), none, .mov (.t 6)⟩, ⟨(some 14), none, .bin .add (.t 13) (.c (.int .i64 1))⟩, ⟨(some 6), none, .mov (.t 14)⟩]))))))
(.seq
(.reg [⟨(some 39), none, .ld (some 64) (.t 5)⟩, ⟨none, none, .st 64 (.t 4) (.t 39)⟩])
.ret))))
theorem tr84 : trFn Try.prog Try.f84 = some (40, ir84, [.cell (some 64) 4]) := by kernel_rfl

/-- loop.example/g01230/spec.l09One -/
def ir85 : Cd :=
(.seq
(.reg [⟨(some 1), none, .box 35 (.t 0)⟩, ⟨(some 2), none, .new 29 [(64, (.int .u8 0))]⟩])
(.seq
(.reg [⟨(some 5), none, .build 64 [(64, (.int .u8 0))] []⟩, ⟨(some 3), none, .new 29 [(64, (.int .u8 0))]⟩, ⟨none, none, .st 64 (.t 3) (.t 5)⟩])
(.seq
(.seq
(.reg [⟨(some 4), none, .mov (.c (.int .i64 0))⟩])
(.block 0
(.loop
(.seq
(.seq
(.reg [⟨(some 6), none, .mov (.t 4)⟩, ⟨(some 7), none, .fa 1 (.t 1)⟩, ⟨(some 8), none, .ld none (.t 7)⟩, ⟨(some 9), none, .bin .lss (.t 6) (.t 8)⟩])
(.cond (.t 9)
.skip
(.exit 0)))
(.seq
(.block 1
(.drw true [13] [⟨(some 12), none, .mov (.t 4)⟩, ⟨(some 13), none, .fa 0 (.t 1)⟩, ⟨(some 14), none, .ld none (.t 13)⟩, ⟨(some 15), none, .build 8 [(8, (.int .u8 0))] []⟩, ⟨(some 16), none, .fa 2 (.t 1)⟩, ⟨(some 17), none, .ld (some 8) (.t 16)⟩, ⟨(some 18), none, .mov (.t 4)⟩, ⟨(some 19), none, .fa 2 (.t 1)⟩, ⟨(some 20), none, .ia 8 1 (.t 19) (.t 18)⟩, ⟨(some 21), none, .ld none (.t 20)⟩, ⟨(some 22), none, .cv .i64 (.t 21)⟩, ⟨(some 23), none, .call 68 [(.t 14), (.t 15), (.t 17), (.t 22)]⟩, ⟨(some 24), none, .ia 8 8 (.t 3) (.t 12)⟩, ⟨none, none, .st 8 (.t 24) (.t 23)⟩]))
(.reg [⟨(some 10), none, .mov (.t 4)⟩, ⟨(some 11), none, .bin .add (.t 10) (.c (.int .i64 1))⟩, ⟨(some 4), none, .mov (.t 11)⟩]))))))
(.seq
(.reg [⟨(some 25), none, .ld (some 64) (.t 3)⟩, ⟨none, none, .st 64 (.t 2) (.t 25)⟩])
.ret))))
theorem tr85 : trFn Try.prog Try.f85 = some (26, ir85, [.cell (some 64) 2]) := by kernel_rfl

/-- loop.example/g01230/spec.l01Apply -/
def ir86 : Cd :=
(.seq
(.reg [⟨(some 6), none, .box 29 (.t 2)⟩, ⟨(some 7), none, .box 27 (.t 3)⟩, ⟨(some 8), none, .new 27 [(8, (.int .u8 0))]⟩])
(.seq
(.reg [⟨(some 11), none, .build 8 [(8, (.int .u8 0))] []⟩, ⟨(some 9), none, .new 27 [(8, (.int .u8 0))]⟩, ⟨none, none, .st 8 (.t 9) (.t 11)⟩])
(.seq
(.seq
(.reg [⟨(some 10), none, .mov (.c (.int .i64 0))⟩])
(.block 0
(.loop
(.seq
(.seq
(.reg [⟨(some 12), none, .mov (.t 10)⟩, ⟨(some 13), none, .mov (.t 1)⟩, ⟨(some 14), none, .bin .lss (.t 12) (.t 13)⟩])
(.cond (.t 14)
.skip
(.exit 0)))
(.seq
(.block 1
(.seq
(.reg [⟨(some 17), none, .mov (.t 10)⟩, ⟨(some 18), none, .ia 8 1 (.t 7) (.t 17)⟩, ⟨(some 19), none, .ld none (.t 18)⟩, ⟨(some 20), none, .bin .neq (.t 19) (.c (.int .u8 0))⟩])
(.cond (.t 20)
(.drw true [9, 10] [⟨(some 21), none, .mov (.t 0)⟩, ⟨(some 22), none, .ld (some 8) (.t 9)⟩, ⟨(some 23), none, .mov (.t 10)⟩, ⟨(some 24), none, .ia 8 8 (.t 6) (.t 23)⟩, ⟨(some 25), none, .ld (some 8) (.t 24)⟩, ⟨(some 26), none, .mov (.t 10)⟩, ⟨(some 27), none, .ia 8 1 (.t 7) (.t 26)⟩, ⟨(some 28), none, .ld none (.t 27)⟩, ⟨(some 29), none, .cv .i64 (.t 28)⟩, ⟨(some 30), none, .call 68 [(.t 21), (.t 22), (.t 25), (.t 29)]⟩, ⟨none, none, .st 8 (.t 9) (.t 30)⟩])
.skip)))
(.reg [⟨(some 15), none, .mov (.t 10)⟩, ⟨(some 16), none, .bin .add (.t 15) (.c (.int .i64 1))⟩, ⟨(some 10), none, .mov (.t 16)⟩]))))))
(.seq
(.reg [⟨(some 31), none, .ld (some 8) (.t 9)⟩, ⟨none, none, .st 8 (.t 8) (.t 31)⟩])
.ret))))
theorem tr86 : trFn Try.prog Try.f86 = some (32, ir86, [.cell (some 8) 8]) := by kernel_rfl

/-- loop.example/g01230/spec.l01Mod -/
def ir87 : Cd :=
(.seq
(.reg [⟨(some 4), none, .mov (.c (.int .u8 0))⟩])
(.seq
(.reg [⟨(some 5), none, .mov (.t 1)⟩, ⟨(some 6), none, .mov (.t 0)⟩, ⟨(some 7), none, .bin .rem (.t 5) (.t 6)⟩, ⟨(some 8), none, .mov (.t 0)⟩, ⟨(some 9), none, .bin .add (.t 7) (.t 8)⟩, ⟨(some 10), none, .mov (.t 0)⟩, ⟨(some 11), none, .bin .rem (.t 9) (.t 10)⟩, ⟨(some 12), none, .cv .u8 (.t 11)⟩, ⟨(some 4), none, .mov (.t 12)⟩])
.ret))
theorem tr87 : trFn Try.prog Try.f87 = some (13, ir87, [.tmp 4]) := by kernel_rfl

/-- loop.example/g01230/spec.l01Shape -/
def ir88 : Cd :=
(.seq
(.reg [⟨(some 1), none, .box 90 (.t 0)⟩, ⟨(some 2), none, .mov (.c (.bool false))⟩])
(.seq
(.reg [⟨(some 3), none, .fa 0 (.t 1)⟩, ⟨(some 4), none, .ld none (.t 3)⟩, ⟨(some 5), none, .fa 1 (.t 1)⟩, ⟨(some 6), none, .ld none (.t 5)⟩, ⟨(some 7), none, .call 109 [(.t 4), (.t 6)]⟩, ⟨(some 8), none, .mov (.t 7)⟩, ⟨(some 9), (some (8, true)), .fa 0 (.t 1)⟩, ⟨(some 10), (some (8, true)), .ld none (.t 9)⟩, ⟨(some 11), (some (8, true)), .fa 1 (.t 1)⟩, ⟨(some 12), (some (8, true)), .ld none (.t 11)⟩, ⟨(some 13), (some (8, true)), .fa 2 (.t 1)⟩, ⟨(some 14), (some (8, true)), .ld (some 8) (.t 13)⟩, ⟨(some 15), (some (8, true)), .call 74 [(.t 10), (.t 12), (.t 14)]⟩, ⟨(some 16), none, .pick (.t 8) (.t 15) (.c (.bool false))⟩, ⟨(some 17), none, .mov (.t 16)⟩, ⟨(some 18), (some (17, true)), .fa 0 (.t 1)⟩, ⟨(some 19), (some (17, true)), .ld none (.t 18)⟩, ⟨(some 20), (some (17, true)), .fa 1 (.t 1)⟩, ⟨(some 21), (some (17, true)), .ld none (.t 20)⟩, ⟨(some 22), (some (17, true)), .fa 10 (.t 1)⟩, ⟨(some 23), (some (17, true)), .ld (some 512) (.t 22)⟩, ⟨(some 24), (some (17, true)), .call 89 [(.t 19), (.t 21), (.t 23)]⟩, ⟨(some 25), none, .pick (.t 17) (.t 24) (.c (.bool false))⟩, ⟨(some 2), none, .mov (.t 25)⟩])
.ret))
theorem tr88 : trFn Try.prog Try.f88 = some (26, ir88, [.tmp 2]) := by kernel_rfl

/-- loop.example/g01230/spec.l01Table -/
def ir89 : Cd :=
(.seq
(.reg [⟨(some 5), none, .box 33 (.t 2)⟩, ⟨(some 6), none, .mov (.c (.bool false))⟩])
(.seq
(.seq
(.reg [⟨(some 7), none, .mov (.c (.int .i64 0))⟩])
(.block 0
(.loop
(.seq
(.seq
(.reg [⟨(some 8), none, .mov (.t 7)⟩, ⟨(some 9), none, .bin .lss (.t 8) (.c (.int .i64 8))⟩])
(.cond (.t 9)
.skip
(.exit 0)))
(.seq
(.block 1
(.seq
(.reg [⟨(some 12), none, .mov (.t 0)⟩, ⟨(some 13), none, .mov (.t 1)⟩, ⟨(some 14), none, .mov (.t 7)⟩, ⟨(some 15), none, .ia 8 64 (.t 5) (.t 14)⟩, ⟨(some 16), none, .ld (some 64) (.t 15)⟩, ⟨(some 17), none, .call 52 [(.t 12), (.t 13), (.t 16)]⟩, ⟨(some 18), none, .un .not (.t 17)⟩, ⟨(some 19), none, .mov (.t 18)⟩, ⟨(some 20), (some (19, false)), .mov (.t 7)⟩, ⟨(some 21), (some (19, false)), .mov (.t 1)⟩, ⟨(some 22), (some (19, false)), .bin .geq (.t 20) (.t 21)⟩, ⟨(some 23), (some (19, false)), .mov (.t 22)⟩, ⟨(some 24), (some (23, true)), .mov (.t 7)⟩, ⟨(some 25), (some (23, true)), .ia 8 64 (.t 5) (.t 24)⟩, ⟨(some 26), (some (23, true)), .ld (some 64) (.t 25)⟩, ⟨(some 27), (some (23, true)), .build 64 [(64, (.int .u8 0))] []⟩, ⟨(some 28), (some (23, true)), .eqa true 64 (.t 26) (.t 27)⟩, ⟨(some 29), (some (19, false)), .pick (.t 23) (.t 28) (.c (.bool false))⟩, ⟨(some 30), none, .pick (.t 19) (.c (.bool true)) (.t 29)⟩])
(.cond (.t 30)
(.seq
(.reg [⟨(some 6), none, .mov (.c (.bool false))⟩])
.ret)
.skip)))
(.reg [⟨(some 10), none, .mov (.t 7)⟩, ⟨(some 11), none, .bin .add (.t 10) (.c (.int .i64 1))⟩, ⟨(some 7), none, .mov (.t 11)⟩]))))))
(.seq
(.reg [⟨(some 6), none, .mov (.c (.bool true))⟩])
.ret)))
theorem tr89 : trFn Try.prog Try.f89 = some (31, ir89, [.tmp 6]) := by kernel_rfl

/-- loop.example/g01230/spec.l03Bialgebra -/
def ir90 : Cd :=
(.seq
(.reg [⟨(some 1), none, .box 35 (.t 0)⟩, ⟨(some 2), none, .mov (.c (.int .i64 0))⟩])
(.seq
(.mix [⟨(some 11), none, .fa 1 (.t 1)⟩, ⟨(some 12), none, .ld none (.t 11)⟩, ⟨(some 13), none, .ld (some 1106) (.t 1)⟩, ⟨(some 14), none, .call 67 [(.t 13)]⟩] [⟨(some 4), none, .new 90 [(2, (.int .i64 0)), (520, (.int .u8 0))]⟩, ⟨(some 3), none, .mov (.t 12)⟩, ⟨none, none, .st 522 (.t 4) (.t 14)⟩])
(.seq
(.block 0
(.seq
(.reg [⟨(some 16), none, .ld (some 522) (.t 4)⟩, ⟨(some 17), none, .call 110 [(.t 16)]⟩, ⟨(some 18), none, .un .not (.t 17)⟩, ⟨(some 15), none, .mov (.t 18)⟩])
(.cond (.t 15)
(.seq
(.reg [⟨(some 2), none, .mov (.c (.int .i64 1))⟩])
.ret)
(.seq
(.reg [⟨(some 20), none, .ld (some 1106) (.t 1)⟩, ⟨(some 21), none, .call 112 [(.t 20)]⟩, ⟨(some 22), none, .call 111 [(.t 21)]⟩, ⟨(some 23), none, .un .not (.t 22)⟩, ⟨(some 19), none, .mov (.t 23)⟩])
(.cond (.t 19)
(.seq
(.reg [⟨(some 2), none, .mov (.c (.int .i64 2))⟩])
.ret)
.skip)))))
(.seq
(.seq
(.reg [⟨(some 5), none, .mov (.c (.int .i64 0))⟩])
(.block 1
(.loop
(.seq
(.seq
(.reg [⟨(some 24), none, .mov (.t 5)⟩, ⟨(some 25), none, .mov (.t 3)⟩, ⟨(some 26), none, .bin .lss (.t 24) (.t 25)⟩])
(.cond (.t 26)
.skip
(.exit 1)))
(.seq
(.block 2
(.seq
(.reg [⟨(some 6), none, .mov (.c (.int .i64 0))⟩])
(.block 3
(.loop
(.seq
(.seq
(.reg [⟨(some 29), none, .mov (.t 6)⟩, ⟨(some 30), none, .mov (.t 3)⟩, ⟨(some 31), none, .bin .lss (.t 29) (.t 30)⟩])
(.cond (.t 31)
.skip
(.exit 3)))
(.seq
(.block 4
(.seq
(.drw true [17] [⟨(some 34), none, .ld (some 1106) (.t 1)⟩, ⟨(some 35), none, .mov (.t 5)⟩, ⟨(some 36), none, .mov (.t 6)⟩, ⟨(some 37), none, .fa 10 (.t 1)⟩, ⟨(some 38), none, .ia 8 64 (.t 37) (.t 35)⟩, ⟨(some 39), none, .ia 8 8 (.t 38) (.t 36)⟩, ⟨(some 40), none, .ld (some 8) (.t 39)⟩, ⟨(some 41), none, .call 108 [(.t 34), (.t 40)]⟩, ⟨(some 42), none, .ld (some 1106) (.t 1)⟩, ⟨(some 43), none, .mov (.t 5)⟩, ⟨(some 44), none, .fa 530 (.t 1)⟩, ⟨(some 45), none, .ia 8 64 (.t 44) (.t 43)⟩, ⟨(some 46), none, .ld (some 64) (.t 45)⟩, ⟨(some 47), none, .mov (.t 6)⟩, ⟨(some 48), none, .fa 530 (.t 1)⟩, ⟨(some 49), none, .ia 8 64 (.t 48) (.t 47)⟩, ⟨(some 50), none, .ld (some 64) (.t 49)⟩, ⟨(some 51), none, .call 45 [(.t 42), (.t 46), (.t 50)]⟩, ⟨(some 52), none, .eqa true 64 (.t 41) (.t 51)⟩])
(.cond (.t 52)
(.seq
(.reg [⟨(some 2), none, .mov (.c (.int .i64 3))⟩])
.ret)
.skip)))
(.reg [⟨(some 32), none, .mov (.t 6)⟩, ⟨(some 33), none, .bin .add (.t 32) (.c (.int .i64 1))⟩, ⟨(some 6), none, .mov (.t 33)⟩])))))))
(.reg [⟨(some 27), none, .mov (.t 5)⟩, ⟨(some 28), none, .bin .add (.t 27) (.c (.int .i64 1))⟩, ⟨(some 5), none, .mov (.t 28)⟩]))))))
(.seq
(.reg [⟨(some 53), none, .ld (some 1106) (.t 1)⟩, ⟨(some 54), none, .fa 2 (.t 1)⟩, ⟨(some 55), none, .ld (some 8) (.t 54)⟩, ⟨(some 56), none, .call 108 [(.t 53), (.t 55)]⟩, ⟨(some 7), none, .new 29 [(64, (.int .u8 0))]⟩, ⟨none, none, .st 64 (.t 7) (.t 56)⟩])
(.seq
(.seq
(.reg [⟨(some 8), none, .mov (.c (.int .i64 0))⟩])
(.block 5
(.loop
(.seq
(.seq
(.reg [⟨(some 57), none, .mov (.t 8)⟩, ⟨(some 58), none, .mov (.t 3)⟩, ⟨(some 59), none, .bin .lss (.t 57) (.t 58)⟩])
(.cond (.t 59)
.skip
(.exit 5)))
(.seq
(.block 6
(.seq
(.drw true [] [⟨(some 62), none, .mov (.t 8)⟩, ⟨(some 63), none, .ia 8 8 (.t 7) (.t 62)⟩, ⟨(some 64), none, .ld (some 8) (.t 63)⟩, ⟨(some 65), none, .fa 0 (.t 1)⟩, ⟨(some 66), none, .ld none (.t 65)⟩, ⟨(some 67), none, .build 8 [(8, (.int .u8 0))] []⟩, ⟨(some 68), none, .fa 2 (.t 1)⟩, ⟨(some 69), none, .ld (some 8) (.t 68)⟩, ⟨(some 70), none, .mov (.t 8)⟩, ⟨(some 71), none, .fa 2 (.t 1)⟩, ⟨(some 72), none, .ia 8 1 (.t 71) (.t 70)⟩, ⟨(some 73), none, .ld none (.t 72)⟩, ⟨(some 74), none, .cv .i64 (.t 73)⟩, ⟨(some 75), none, .call 68 [(.t 66), (.t 67), (.t 69), (.t 74)]⟩, ⟨(some 76), none, .eqa true 8 (.t 64) (.t 75)⟩])
(.cond (.t 76)
(.seq
(.reg [⟨(some 2), none, .mov (.c (.int .i64 4))⟩])
.ret)
.skip)))
(.reg [⟨(some 60), none, .mov (.t 8)⟩, ⟨(some 61), none, .bin .add (.t 60) (.c (.int .i64 1))⟩, ⟨(some 8), none, .mov (.t 61)⟩]))))))
(.seq
(.seq
(.reg [⟨(some 9), none, .mov (.c (.int .i64 0))⟩])
(.block 7
(.loop
(.seq
(.seq
(.reg [⟨(some 77), none, .mov (.t 9)⟩, ⟨(some 78), none, .mov (.t 3)⟩, ⟨(some 79), none, .bin .lss (.t 77) (.t 78)⟩])
(.cond (.t 79)
.skip
(.exit 7)))
(.seq
(.block 8
(.seq
(.reg [⟨(some 10), none, .mov (.c (.int .i64 0))⟩])
(.block 9
(.loop
(.seq
(.seq
(.reg [⟨(some 82), none, .mov (.t 10)⟩, ⟨(some 83), none, .mov (.t 3)⟩, ⟨(some 84), none, .bin .lss (.t 82) (.t 83)⟩])
(.cond (.t 84)
.skip
(.exit 9)))
(.seq
(.block 10
(.seq
(.drw true [] [⟨(some 87), none, .ld (some 1106) (.t 1)⟩, ⟨(some 88), none, .mov (.t 9)⟩, ⟨(some 89), none, .mov (.t 10)⟩, ⟨(some 90), none, .fa 10 (.t 1)⟩, ⟨(some 91), none, .ia 8 64 (.t 90) (.t 88)⟩, ⟨(some 92), none, .ia 8 8 (.t 91) (.t 89)⟩, ⟨(some 93), none, .ld (some 8) (.t 92)⟩, ⟨(some 94), none, .call 113 [(.t 87), (.t 93)]⟩, ⟨(some 95), none, .mov (.t 9)⟩, ⟨(some 96), none, .fa 522 (.t 1)⟩, ⟨(some 97), none, .ia 8 1 (.t 96) (.t 95)⟩, ⟨(some 98), none, .ld none (.t 97)⟩, ⟨(some 99), none, .cv .i64 (.t 98)⟩, ⟨(some 100), none, .mov (.t 10)⟩, ⟨(some 101), none, .fa 522 (.t 1)⟩, ⟨(some 102), none, .ia 8 1 (.t 101) (.t 100)⟩, ⟨(some 103), none, .ld none (.t 102)⟩, ⟨(some 104), none, .cv .i64 (.t 103)⟩, ⟨(some 105), none, .bin .mul (.t 99) (.t 104)⟩, ⟨(some 106), none, .fa 0 (.t 1)⟩, ⟨(some 107), none, .ld none (.t 106)⟩, ⟨(some 108), none, .bin .rem (.t 105) (.t 107)⟩, ⟨(some 109), none, .bin .neq (.t 94) (.t 108)⟩])
(.cond (.t 109)
(.seq
(.reg [⟨(some 2), none, .mov (.c (.int .i64 5))⟩])
.ret)
.skip)))
(.reg [⟨(some 85), none, .mov (.t 10)⟩, ⟨(some 86), none, .bin .add (.t 85) (.c (.int .i64 1))⟩, ⟨(some 10), none, .mov (.t 86)⟩])))))))
(.reg [⟨(some 80), none, .mov (.t 9)⟩, ⟨(some 81), none, .bin .add (.t 80) (.c (.int .i64 1))⟩, ⟨(some 9), none, .mov (.t 81)⟩]))))))
(.seq
(.seq
(.reg [⟨(some 110), none, .ld (some 1106) (.t 1)⟩, ⟨(some 111), none, .fa 2 (.t 1)⟩, ⟨(some 112), none, .ld (some 8) (.t 111)⟩, ⟨(some 113), none, .call 113 [(.t 110), (.t 112)]⟩, ⟨(some 114), none, .bin .neq (.t 113) (.c (.int .i64 1))⟩])
(.cond (.t 114)
(.seq
(.reg [⟨(some 2), none, .mov (.c (.int .i64 5))⟩])
.ret)
.skip))
(.seq
(.reg [⟨(some 2), none, .mov (.c (.int .i64 0))⟩])
.ret)))))))))
theorem tr90 : trFn Try.prog Try.f90 = some (115, ir90, [.tmp 2]) := by kernel_rfl

/-- loop.example/g01230/spec.l03Antipode -/
def ir91 : Cd :=
(.seq
(.reg [⟨(some 3), none, .box 35 (.t 0)⟩, ⟨(some 4), none, .box 29 (.t 1)⟩, ⟨(some 6), none, .mov (.c (.bool false))⟩])
(.seq
(.seq
(.reg [⟨(some 7), none, .mov (.c (.int .i64 0))⟩])
(.block 0
(.loop
(.seq
(.seq
(.reg [⟨(some 8), none, .mov (.t 7)⟩, ⟨(some 9), none, .fa 1 (.t 3)⟩, ⟨(some 10), none, .ld none (.t 9)⟩, ⟨(some 11), none, .bin .lss (.t 8) (.t 10)⟩])
(.cond (.t 11)
.skip
(.exit 0)))
(.seq
(.block 1
(.seq
(.drw true [15] [⟨(some 14), none, .ld (some 1106) (.t 3)⟩, ⟨(some 15), none, .mov (.t 7)⟩, ⟨(some 16), none, .ld (some 64) (.t 4)⟩, ⟨(some 17), none, .mov (.t 2)⟩, ⟨(some 18), none, .call 114 [(.t 14), (.t 15), (.t 16), (.t 17)]⟩, ⟨(some 19), none, .fa 0 (.t 3)⟩, ⟨(some 20), none, .ld none (.t 19)⟩, ⟨(some 21), none, .build 8 [(8, (.int .u8 0))] []⟩, ⟨(some 22), none, .fa 2 (.t 3)⟩, ⟨(some 23), none, .ld (some 8) (.t 22)⟩, ⟨(some 24), none, .mov (.t 7)⟩, ⟨(some 25), none, .fa 522 (.t 3)⟩, ⟨(some 26), none, .ia 8 1 (.t 25) (.t 24)⟩, ⟨(some 27), none, .ld none (.t 26)⟩, ⟨(some 28), none, .cv .i64 (.t 27)⟩, ⟨(some 29), none, .call 68 [(.t 20), (.t 21), (.t 23), (.t 28)]⟩, ⟨(some 30), none, .eqa true 8 (.t 18) (.t 29)⟩])
(.cond (.t 30)
(.seq
(.reg [⟨(some 6), none, .mov (.c (.bool false))⟩])
.ret)
.skip)))
(.reg [⟨(some 12), none, .mov (.t 7)⟩, ⟨(some 13), none, .bin .add (.t 12) (.c (.int .i64 1))⟩, ⟨(some 7), none, .mov (.t 13)⟩]))))))
(.seq
(.reg [⟨(some 6), none, .mov (.c (.bool true))⟩])
.ret)))
theorem tr91 : trFn Try.prog Try.f91 = some (31, ir91, [.tmp 6]) := by kernel_rfl

/-- (*loop.example/g01230/impl.Hopf).algebra -/
def ir92 : Cd :=
(.seq
(.reg [⟨(some 2), none, .mov (.c .nil)⟩])
(.seq
(.drw true [17] [⟨(some 3), none, .mov (.t 0)⟩, ⟨(some 4), none, .ck (.t 3)⟩, ⟨(some 5), none, .fa 0 (.t 4)⟩, ⟨(some 6), none, .ld none (.t 5)⟩, ⟨(some 7), none, .mov (.t 0)⟩, ⟨(some 8), none, .ck (.t 7)⟩, ⟨(some 9), none, .fa 1 (.t 8)⟩, ⟨(some 10), none, .ld none (.t 9)⟩, ⟨(some 11), none, .mov (.t 0)⟩, ⟨(some 12), none, .ck (.t 11)⟩, ⟨(some 13), none, .fa 2 (.t 12)⟩, ⟨(some 14), none, .ld (some 8) (.t 13)⟩, ⟨(some 15), none, .mov (.t 0)⟩, ⟨(some 16), none, .ck (.t 15)⟩, ⟨(some 17), none, .fa 10 (.t 16)⟩, ⟨(some 18), none, .ld (some 512) (.t 17)⟩, ⟨(some 19), none, .build 522 [(2, (.int .i64 0)), (520, (.int .u8 0))] [(0, 1, (.t 6)), (1, 1, (.t 10)), (2, 8, (.t 14)), (10, 512, (.t 18))]⟩, ⟨(some 20), none, .box 90 (.t 19)⟩, ⟨(some 2), none, .mov (.t 20)⟩])
.ret))
theorem tr92 : trFn Try.prog Try.f92 = some (21, ir92, [.tmp 2]) := by kernel_rfl

/-- (*loop.example/g01230/impl.Algebra).isShaped -/
def ir93 : Cd :=
(.seq
(.reg [⟨(some 2), none, .mov (.c (.bool false))⟩])
(.seq
(.drw true [25] [⟨(some 3), none, .mov (.t 0)⟩, ⟨(some 4), none, .ck (.t 3)⟩, ⟨(some 5), none, .fa 0 (.t 4)⟩, ⟨(some 6), none, .ld none (.t 5)⟩, ⟨(some 7), none, .mov (.t 0)⟩, ⟨(some 8), none, .ck (.t 7)⟩, ⟨(some 9), none, .fa 1 (.t 8)⟩, ⟨(some 10), none, .ld none (.t 9)⟩, ⟨(some 11), none, .mov (.t 0)⟩, ⟨(some 12), none, .ck (.t 11)⟩, ⟨(some 13), none, .fa 2 (.t 12)⟩, ⟨(some 14), none, .ld (some 8) (.t 13)⟩, ⟨(some 15), none, .call 77 [(.t 6), (.t 10), (.t 14)]⟩, ⟨(some 16), none, .mov (.t 15)⟩, ⟨(some 17), (some (16, true)), .mov (.t 0)⟩, ⟨(some 18), (some (16, true)), .ck (.t 17)⟩, ⟨(some 19), (some (16, true)), .fa 0 (.t 18)⟩, ⟨(some 20), (some (16, true)), .ld none (.t 19)⟩, ⟨(some 21), (some (16, true)), .mov (.t 0)⟩, ⟨(some 22), (some (16, true)), .ck (.t 21)⟩, ⟨(some 23), (some (16, true)), .fa 1 (.t 22)⟩, ⟨(some 24), (some (16, true)), .ld none (.t 23)⟩, ⟨(some 25), (some (16, true)), .mov (.t 0)⟩, ⟨(some 26), (some (16, true)), .ck (.t 25)⟩, ⟨(some 27), (some (16, true)), .fa 10 (.t 26)⟩, ⟨(some 28), (some (16, true)), .call 115 [(.t 20), (.t 24), (.t 27)]⟩, ⟨(some 29), none, .pick (.t 16) (.t 28) (.c (.bool false))⟩, ⟨(some 2), none, .mov (.t 29)⟩])
.ret))
theorem tr93 : trFn Try.prog Try.f93 = some (30, ir93, [.tmp 2]) := by kernel_rfl

/-- (*loop.example/g01230/impl.Hopf).coalgebra -/
def ir94 : Cd :=
(.seq
(.reg [⟨(some 2), none, .mov (.c .nil)⟩])
(.seq
(.drw true [17] [⟨(some 3), none, .mov (.t 0)⟩, ⟨(some 4), none, .ck (.t 3)⟩, ⟨(some 5), none, .fa 0 (.t 4)⟩, ⟨(some 6), none, .ld none (.t 5)⟩, ⟨(some 7), none, .mov (.t 0)⟩, ⟨(some 8), none, .ck (.t 7)⟩, ⟨(some 9), none, .fa 1 (.t 8)⟩, ⟨(some 10), none, .ld none (.t 9)⟩, ⟨(some 11), none, .mov (.t 0)⟩, ⟨(some 12), none, .ck (.t 11)⟩, ⟨(some 13), none, .fa 522 (.t 12)⟩, ⟨(some 14), none, .ld (some 8) (.t 13)⟩, ⟨(some 15), none, .mov (.t 0)⟩, ⟨(some 16), none, .ck (.t 15)⟩, ⟨(some 17), none, .fa 530 (.t 16)⟩, ⟨(some 18), none, .ld (some 512) (.t 17)⟩, ⟨(some 19), none, .build 522 [(2, (.int .i64 0)), (520, (.int .u8 0))] [(0, 1, (.t 6)), (1, 1, (.t 10)), (2, 8, (.t 14)), (10, 512, (.t 18))]⟩, ⟨(some 20), none, .box 114 (.t 19)⟩, ⟨(some 2), none, .mov (.t 20)⟩])
.ret))
theorem tr94 : trFn Try.prog Try.f94 = some (21, ir94, [.tmp 2]) := by kernel_rfl

end Go.Proofs.Ytnkmpelakhhoiab

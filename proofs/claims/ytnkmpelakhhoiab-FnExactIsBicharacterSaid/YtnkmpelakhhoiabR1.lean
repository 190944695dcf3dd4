/- The short form of each function, and that it is one. -/
import Derived.Test.YtnkmpelakhhoiabProg
import Derived.Test.YtnkmpelakhhoiabVI
import Derived.KernelRfl
namespace Go.Proofs.Ytnkmpelakhhoiab
open Go.V
set_option maxRecDepth 100000

/-- loop.example/g01230/spec.l10Value -/
def ir32 : Cd :=
(.seq
(.reg [⟨(some 4), none, .box 35 (.t 0)⟩, ⟨(some 5), none, .box 29 (.t 1)⟩, ⟨(some 6), none, .box 27 (.t 2)⟩, ⟨(some 7), none, .box 27 (.t 3)⟩, ⟨(some 8), none, .mov (.c (.int .i64 0))⟩])
(.seq
(.reg [⟨(some 9), none, .mov (.c (.int .i64 0))⟩])
(.seq
(.seq
(.reg [⟨(some 10), none, .mov (.c (.int .i64 0))⟩])
(.block 0
(.loop
(.seq
(.seq
(.reg [⟨(some 12), none, .mov (.t 10)⟩, ⟨(some 13), none, .fa 1 (.t 4)⟩, ⟨(some 14), none, .ld none (.t 13)⟩, ⟨(some 15), none, .bin .lss (.t 12) (.t 14)⟩])
(.cond (.t 15)
.skip
(.exit 0)))
(.seq
(.block 1
(.seq
(.reg [⟨(some 11), none, .mov (.c (.int .i64 0))⟩])
(.block 2
(.loop
(.seq
(.seq
(.reg [⟨(some 18), none, .mov (.t 11)⟩, ⟨(some 19), none, .fa 1 (.t 4)⟩, ⟨(some 20), none, .ld none (.t 19)⟩, ⟨(some 21), none, .bin .lss (.t 18) (.t 20)⟩, ⟨(some 22), none, .mov (.t 21)⟩, ⟨(some 23), (some (22, true)), .mov (.t 10)⟩, ⟨(some 24), (some (22, true)), .ia 8 1 (.t 6) (.t 23)⟩, ⟨(some 25), (some (22, true)), .ld none (.t 24)⟩, ⟨(some 26), (some (22, true)), .bin .neq (.t 25) (.c (.int .u8 0))⟩, ⟨(some 27), none, .pick (.t 22) (.t 26) (.c (.bool false))⟩])
(.cond (.t 27)
.skip
(.exit 2)))
(.seq
(.block 3
(.drw true [] [⟨(some 30), none, .mov (.t 9)⟩, ⟨(some 31), none, .mov (.t 10)⟩, ⟨(some 32), none, .ia 8 1 (.t 6) (.t 31)⟩, ⟨(some 33), none, .ld none (.t 32)⟩, ⟨(some 34), none, .cv .i64 (.t 33)⟩, ⟨(some 35), none, .mov (.t 11)⟩, ⟨(some 36), none, .ia 8 1 (.t 7) (.t 35)⟩, ⟨(some 37), none, .ld none (.t 36)⟩, ⟨(some 38), none, .cv .i64 (.t 37)⟩, ⟨(some 39), none, .bin .mul (.t 34) (.t 38)⟩, ⟨(some 40), none, .mov (.t 10)⟩, ⟨(some 41), none, .mov (.t 11)⟩, ⟨(some 42), none, .ia 8 8 (.t 5) (.t 40)⟩, ⟨(some 43), none, .ia 8 1 (.t 42) (.t 41)⟩, ⟨(some 44), none, .ld none (.t 43)⟩, ⟨(some 45), none, .cv .i64 (.t 44)⟩, ⟨(some 46), none, .bin .mul (.t 39) (.t 45)⟩, ⟨(some 47), none, .bin .add (.t 30) (.t 46)⟩, ⟨(some 48), none, .fa 0 (.t 4)⟩, ⟨(some 49), none, .ld none (.t 48)⟩, ⟨(some 50), none, .bin .rem (.t 47) (.t 49)⟩, ⟨(some 9), none, .mov (.t 50)⟩]))
(.reg [⟨(some 28), none, .mov (.t 11)⟩, ⟨(some 29), none, .bin .add (.t 28) (.c (.int .i64 1))⟩, ⟨(some 11), none, .mov (.t 29)⟩])))))))
(.reg [⟨(some 16), none, .mov (.t 10)⟩, ⟨(some 17), none, .bin .add (.t 16) (.c (.int .i64 1))⟩, ⟨(some 10), none, .mov (.t 17)⟩]))))))
(.seq
(.reg [⟨(some 51), none, .mov (.t 9)⟩, ⟨(some 8), none, .mov (.t 51)⟩])
.ret))))
theorem tr32 : trFn Try.prog Try.f32 = some (52, ir32, [.tmp 8]) := by kernel_rfl

/-- loop.example/g01230/spec.l01Basis -/
def ir33 : Cd :=
(.seq
(.reg [⟨(some 2), none, .new 27 [(8, (.int .u8 0))]⟩])
(.seq
(.reg [⟨(some 4), none, .build 8 [(8, (.int .u8 0))] []⟩, ⟨(some 3), none, .new 27 [(8, (.int .u8 0))]⟩, ⟨none, none, .st 8 (.t 3) (.t 4)⟩])
(.seq
(.reg [⟨(some 5), none, .mov (.t 0)⟩, ⟨(some 6), none, .ia 8 1 (.t 3) (.t 5)⟩, ⟨none, none, .st 1 (.t 6) (.c (.int .u8 1))⟩])
(.seq
(.reg [⟨(some 7), none, .ld (some 8) (.t 3)⟩, ⟨none, none, .st 8 (.t 2) (.t 7)⟩])
.ret))))
theorem tr33 : trFn Try.prog Try.f33 = some (8, ir33, [.cell (some 8) 2]) := by kernel_rfl

/-- loop.example/g01230/spec.l10Normed -/
def ir34 : Cd :=
(.seq
(.reg [⟨(some 2), none, .box 35 (.t 0)⟩, ⟨(some 3), none, .box 29 (.t 1)⟩, ⟨(some 4), none, .mov (.c (.bool false))⟩])
(.seq
(.seq
(.reg [⟨(some 5), none, .mov (.c (.int .i64 0))⟩])
(.block 0
(.loop
(.seq
(.seq
(.reg [⟨(some 6), none, .mov (.t 5)⟩, ⟨(some 7), none, .fa 1 (.t 2)⟩, ⟨(some 8), none, .ld none (.t 7)⟩, ⟨(some 9), none, .bin .lss (.t 6) (.t 8)⟩])
(.cond (.t 9)
.skip
(.exit 0)))
(.seq
(.block 1
(.seq
(.drwo true [] [0, 1, 2, 3, 4, 7, 8, 9, 10, 11, 5, 6, 12, 13, 14, 15, 16, 18, 19, 21, 22, 23, 24, 25, 17, 20, 26, 27] [⟨(some 12), none, .ld (some 1106) (.t 2)⟩, ⟨(some 13), none, .ld (some 64) (.t 3)⟩, ⟨(some 14), none, .fa 2 (.t 2)⟩, ⟨(some 15), none, .ld (some 8) (.t 14)⟩, ⟨(some 16), none, .mov (.t 5)⟩, ⟨(some 17), none, .call 33 [(.t 16)]⟩, ⟨(some 18), none, .call 32 [(.t 12), (.t 13), (.t 15), (.t 17)]⟩, ⟨(some 19), none, .mov (.t 5)⟩, ⟨(some 20), none, .fa 522 (.t 2)⟩, ⟨(some 21), none, .ia 8 1 (.t 20) (.t 19)⟩, ⟨(some 22), none, .ld none (.t 21)⟩, ⟨(some 23), none, .cv .i64 (.t 22)⟩, ⟨(some 24), none, .bin .neq (.t 18) (.t 23)⟩, ⟨(some 25), none, .mov (.t 24)⟩, ⟨(some 26), (some (25, false)), .ld (some 1106) (.t 2)⟩, ⟨(some 27), (some (25, false)), .ld (some 64) (.t 3)⟩, ⟨(some 28), (some (25, false)), .mov (.t 5)⟩, ⟨(some 29), (some (25, false)), .call 33 [(.t 28)]⟩, ⟨(some 30), (some (25, false)), .fa 2 (.t 2)⟩, ⟨(some 31), (some (25, false)), .ld (some 8) (.t 30)⟩, ⟨(some 32), (some (25, false)), .call 32 [(.t 26), (.t 27), (.t 29), (.t 31)]⟩, ⟨(some 33), (some (25, false)), .mov (.t 5)⟩, ⟨(some 34), (some (25, false)), .fa 522 (.t 2)⟩, ⟨(some 35), (some (25, false)), .ia 8 1 (.t 34) (.t 33)⟩, ⟨(some 36), (some (25, false)), .ld none (.t 35)⟩, ⟨(some 37), (some (25, false)), .cv .i64 (.t 36)⟩, ⟨(some 38), (some (25, false)), .bin .neq (.t 32) (.t 37)⟩, ⟨(some 39), none, .pick (.t 25) (.c (.bool true)) (.t 38)⟩])
(.cond (.t 39)
(.seq
(.reg [⟨(some 4), none, .mov (.c (.bool false))⟩])
.ret)
.skip)))
(.reg [⟨(some 10), none, .mov (.t 5)⟩, ⟨(some 11), none, .bin .add (.t 10) (.c (.int .i64 1))⟩, ⟨(some 5), none, .mov (.t 11)⟩]))))))
(.seq
(.reg [⟨(some 4), none, .mov (.c (.bool true))⟩])
.ret)))
theorem tr34 : trFn Try.prog Try.f34 = some (40, ir34, [.tmp 4]) := by kernel_rfl

/-- (*loop.example/g01230/impl.Hopf).field -/
def ir35 : Cd :=
(.seq
(.reg [⟨(some 2), none, .new 60 [(2, (.int .i64 0))]⟩])
(.seq
(.drw true [9] [⟨(some 3), none, .mov (.t 0)⟩, ⟨(some 4), none, .ck (.t 3)⟩, ⟨(some 5), none, .fa 0 (.t 4)⟩, ⟨(some 6), none, .ld none (.t 5)⟩, ⟨(some 7), none, .mov (.t 0)⟩, ⟨(some 8), none, .ck (.t 7)⟩, ⟨(some 9), none, .fa 1 (.t 8)⟩, ⟨(some 10), none, .ld none (.t 9)⟩, ⟨(some 11), none, .build 2 [(2, (.int .i64 0))] [(0, 1, (.t 6)), (1, 1, (.t 10))]⟩, ⟨none, none, .st 2 (.t 2) (.t 11)⟩])
.ret))
theorem tr35 : trFn Try.prog Try.f35 = some (12, ir35, [.cell (some 2) 2]) := by kernel_rfl

/-- loop.example/g01230/impl.pairs -/
def ir36 : Cd :=
(.seq
(.reg [⟨(some 7), none, .mov (.c (.int .i64 0))⟩])
(.block 0
(.loop
(.seq
(.reg [⟨(some 8), none, .bin .lss (.t 7) (.c (.int .i64 8))⟩])
(.seq
(.cond (.t 8)
.skip
(.exit 0))
(.seq
(.block 1
(.seq
(.reg [⟨(some 9), none, .mov (.t 7)⟩, ⟨(some 4), none, .mov (.t 9)⟩])
(.seq
(.reg [⟨(some 10), none, .mov (.t 0)⟩, ⟨(some 11), none, .mov (.t 4)⟩, ⟨(some 12), none, .ck (.t 10)⟩, ⟨(some 13), none, .ia 8 8 (.t 12) (.t 11)⟩, ⟨(some 14), none, .ld (some 8) (.t 13)⟩, ⟨(some 15), none, .mov (.c (.int .i64 0))⟩])
(.block 2
(.loop
(.seq
(.reg [⟨(some 16), none, .bin .lss (.t 15) (.c (.int .i64 8))⟩])
(.seq
(.cond (.t 16)
.skip
(.exit 2))
(.seq
(.block 3
(.seq
(.reg [⟨(some 17), none, .mov (.t 15)⟩, ⟨(some 18), none, .ix 8 1 none (.t 14) (.t 15)⟩, ⟨(some 5), none, .mov (.t 17)⟩, ⟨(some 6), none, .mov (.t 18)⟩])
(.seq
(.reg [⟨(some 19), none, .mov (.t 6)⟩, ⟨(some 20), none, .bin .neq (.t 19) (.c (.int .u8 0))⟩])
(.cond (.t 20)
(.reg [⟨(some 21), none, .mov (.t 1)⟩, ⟨(some 22), none, .mov (.t 4)⟩, ⟨(some 23), none, .mov (.t 5)⟩, ⟨(some 24), none, .mov (.t 6)⟩, ⟨(some 25), none, .cv .i64 (.t 24)⟩, ⟨(some 26), none, .callv (.t 21) [(.t 22), (.t 23), (.t 25)]⟩])
.skip))))
(.reg [⟨(some 27), none, .bin .add (.t 15) (.c (.int .i64 1))⟩, ⟨(some 15), none, .mov (.t 27)⟩])))))))))
(.reg [⟨(some 28), none, .bin .add (.t 7) (.c (.int .i64 1))⟩, ⟨(some 7), none, .mov (.t 28)⟩])))))))
theorem tr36 : trFn Try.prog Try.f36 = some (29, ir36, []) := by kernel_rfl

/-- loop.example/g01230/impl.IsBicharacter$1 -/
def ir37 : Cd :=
(.drw true [20] [⟨(some 11), none, .ld none (.t 3)⟩, ⟨(some 12), none, .mov (.t 2)⟩, ⟨(some 13), none, .mov (.t 0)⟩, ⟨(some 14), none, .ld none (.t 5)⟩, ⟨(some 15), none, .ia 8 8 (.t 4) (.t 13)⟩, ⟨(some 16), none, .ia 8 1 (.t 15) (.t 14)⟩, ⟨(some 17), none, .ld none (.t 16)⟩, ⟨(some 18), none, .cv .i64 (.t 17)⟩, ⟨(some 19), none, .bin .mul (.t 12) (.t 18)⟩, ⟨(some 20), none, .fa 0 (.t 6)⟩, ⟨(some 21), none, .ld none (.t 20)⟩, ⟨(some 22), none, .bin .rem (.t 19) (.t 21)⟩, ⟨(some 23), none, .mov (.t 1)⟩, ⟨(some 24), none, .ld none (.t 7)⟩, ⟨(some 25), none, .ia 8 8 (.t 4) (.t 23)⟩, ⟨(some 26), none, .ia 8 1 (.t 25) (.t 24)⟩, ⟨(some 27), none, .ld none (.t 26)⟩, ⟨(some 28), none, .cv .i64 (.t 27)⟩, ⟨(some 29), none, .bin .mul (.t 22) (.t 28)⟩, ⟨(some 30), none, .bin .add (.t 11) (.t 29)⟩, ⟨none, none, .st 1 (.t 3) (.t 30)⟩])
theorem tr37 : trFn Try.prog Try.f37 = some (31, ir37, []) := by kernel_rfl

/-- (*loop.example/g01230/impl.Hopf).multiplies -/
def ir38 : Cd :=
(.seq
(.reg [⟨(some 6), none, .box 53 (.t 1)⟩, ⟨(some 7), none, .box 3 (.t 2)⟩, ⟨(some 8), none, .box 3 (.t 3)⟩, ⟨(some 10), none, .mov (.c (.bool false))⟩])
(.seq
(.reg [⟨(some 13), none, .mov (.t 0)⟩, ⟨(some 14), none, .call 35 [(.t 13)]⟩, ⟨(some 11), none, .new 60 [(2, (.int .i64 0))]⟩, ⟨(some 12), none, .new 3 [(1, (.int .i64 0))]⟩, ⟨none, none, .st 2 (.t 11) (.t 14)⟩, ⟨none, none, .st 1 (.t 12) (.c (.int .i64 0))⟩])
(.seq
(.reg [⟨(some 15), none, .mov (.t 0)⟩, ⟨(some 16), none, .mov (.t 4)⟩, ⟨(some 17), none, .ck (.t 15)⟩, ⟨(some 18), none, .fa 530 (.t 17)⟩, ⟨(some 19), none, .ia 8 64 (.t 18) (.t 16)⟩, ⟨(some 20), none, .mkf 60 [] [(.t 12), (.t 6), (.t 7), (.t 11), (.t 8)]⟩, ⟨(some 21), none, .call 36 [(.t 19), (.t 20)]⟩])
(.seq
(.drwo true [] [0, 1, 2, 3, 4, 5, 6, 7, 8, 9, 10, 13, 14, 15, 16, 11, 12, 17, 18] [⟨(some 22), none, .ld (some 2) (.t 11)⟩, ⟨(some 23), none, .ld none (.t 6)⟩, ⟨(some 24), none, .mov (.t 0)⟩, ⟨(some 25), none, .ld none (.t 7)⟩, ⟨(some 26), none, .ld none (.t 8)⟩, ⟨(some 27), none, .ck (.t 24)⟩, ⟨(some 28), none, .fa 10 (.t 27)⟩, ⟨(some 29), none, .ia 8 64 (.t 28) (.t 25)⟩, ⟨(some 30), none, .ia 8 8 (.t 29) (.t 26)⟩, ⟨(some 31), none, .ld (some 8) (.t 30)⟩, ⟨(some 32), none, .mov (.t 4)⟩, ⟨(some 33), none, .call 40 [(.t 32)]⟩, ⟨(some 34), none, .call 39 [(.t 22), (.t 23), (.t 31), (.t 33)]⟩, ⟨(some 35), none, .ld none (.t 12)⟩, ⟨(some 36), none, .fa 0 (.t 11)⟩, ⟨(some 37), none, .ld none (.t 36)⟩, ⟨(some 38), none, .bin .rem (.t 35) (.t 37)⟩, ⟨(some 39), none, .bin .eql (.t 34) (.t 38)⟩, ⟨(some 10), none, .mov (.t 39)⟩])
.ret))))
theorem tr38 : trFn Try.prog Try.f38 = some (40, ir38, [.tmp 10]) := by kernel_rfl

/-- (loop.example/g01230/impl.field).paired -/
def ir39 : Cd :=
(.seq
(.reg [⟨(some 4), none, .box 60 (.t 0)⟩, ⟨(some 6), none, .box 27 (.t 2)⟩, ⟨(some 7), none, .box 27 (.t 3)⟩, ⟨(some 8), none, .mov (.c (.int .i64 0))⟩])
(.seq
(.drwo true [6] [0, 1, 2, 3, 5, 4, 6, 7] [⟨(some 9), none, .ld (some 2) (.t 4)⟩, ⟨(some 10), none, .ld (some 2) (.t 4)⟩, ⟨(some 11), none, .mov (.t 1)⟩, ⟨(some 12), none, .ld (some 8) (.t 6)⟩, ⟨(some 13), none, .call 62 [(.t 10), (.t 11), (.t 12)]⟩, ⟨(some 14), none, .ld (some 8) (.t 7)⟩, ⟨(some 15), none, .call 61 [(.t 9), (.t 13), (.t 14)]⟩, ⟨(some 8), none, .mov (.t 15)⟩])
.ret))
theorem tr39 : trFn Try.prog Try.f39 = some (16, ir39, [.tmp 8]) := by kernel_rfl

/-- loop.example/g01230/impl.basis -/
def ir40 : Cd :=
(.seq
(.reg [⟨(some 2), none, .new 27 [(8, (.int .u8 0))]⟩])
(.seq
(.reg [⟨(some 4), none, .build 8 [(8, (.int .u8 0))] []⟩, ⟨(some 3), none, .new 27 [(8, (.int .u8 0))]⟩, ⟨none, none, .st 8 (.t 3) (.t 4)⟩])
(.seq
(.reg [⟨(some 5), none, .mov (.t 0)⟩, ⟨(some 6), none, .ia 8 1 (.t 3) (.t 5)⟩, ⟨none, none, .st 1 (.t 6) (.c (.int .u8 1))⟩])
(.seq
(.reg [⟨(some 7), none, .ld (some 8) (.t 3)⟩, ⟨none, none, .st 8 (.t 2) (.t 7)⟩])
.ret))))
theorem tr40 : trFn Try.prog Try.f40 = some (8, ir40, [.cell (some 8) 2]) := by kernel_rfl

/-- (*loop.example/g01230/impl.Hopf).isNormed -/
def ir41 : Cd :=
(.seq
(.reg [⟨(some 4), none, .mov (.c (.bool false))⟩])
(.seq
(.reg [⟨(some 8), none, .mov (.t 0)⟩, ⟨(some 9), none, .call 35 [(.t 8)]⟩, ⟨(some 5), none, .new 60 [(2, (.int .i64 0))]⟩, ⟨none, none, .st 2 (.t 5) (.t 9)⟩])
(.seq
(.seq
(.reg [⟨(some 10), none, .fa 1 (.t 5)⟩, ⟨(some 11), none, .ld none (.t 10)⟩, ⟨(some 12), none, .mov (.c (.int .i64 0))⟩])
(.block 0
(.loop
(.seq
(.reg [⟨(some 13), none, .bin .lss (.t 12) (.t 11)⟩])
(.seq
(.cond (.t 13)
.skip
(.exit 0))
(.seq
(.block 1
(.seq
(.reg [⟨(some 14), none, .mov (.t 12)⟩, ⟨(some 6), none, .mov (.t 14)⟩])
(.seq
(.reg [⟨(some 15), none, .mov (.t 0)⟩, ⟨(some 16), none, .mov (.t 6)⟩, ⟨(some 17), none, .ck (.t 15)⟩, ⟨(some 18), none, .fa 522 (.t 17)⟩, ⟨(some 19), none, .ia 8 1 (.t 18) (.t 16)⟩, ⟨(some 20), none, .ld none (.t 19)⟩, ⟨(some 21), none, .cv .i64 (.t 20)⟩, ⟨(some 7), none, .mov (.t 21)⟩])
(.seq
(.drwo true [] [0, 1, 2, 3, 4, 5, 6, 9, 7, 8, 10, 11, 12, 13, 14, 16, 17, 18, 19, 21, 15, 20, 22, 23] [⟨(some 22), none, .ld (some 2) (.t 5)⟩, ⟨(some 23), none, .mov (.t 1)⟩, ⟨(some 24), none, .mov (.t 0)⟩, ⟨(some 25), none, .ck (.t 24)⟩, ⟨(some 26), none, .fa 2 (.t 25)⟩, ⟨(some 27), none, .ld (some 8) (.t 26)⟩, ⟨(some 28), none, .mov (.t 6)⟩, ⟨(some 29), none, .call 40 [(.t 28)]⟩, ⟨(some 30), none, .call 39 [(.t 22), (.t 23), (.t 27), (.t 29)]⟩, ⟨(some 31), none, .mov (.t 7)⟩, ⟨(some 32), none, .bin .neq (.t 30) (.t 31)⟩, ⟨(some 33), none, .mov (.t 32)⟩, ⟨(some 34), (some (33, false)), .ld (some 2) (.t 5)⟩, ⟨(some 35), (some (33, false)), .mov (.t 1)⟩, ⟨(some 36), (some (33, false)), .mov (.t 6)⟩, ⟨(some 37), (some (33, false)), .call 40 [(.t 36)]⟩, ⟨(some 38), (some (33, false)), .mov (.t 0)⟩, ⟨(some 39), (some (33, false)), .ck (.t 38)⟩, ⟨(some 40), (some (33, false)), .fa 2 (.t 39)⟩, ⟨(some 41), (some (33, false)), .ld (some 8) (.t 40)⟩, ⟨(some 42), (some (33, false)), .call 39 [(.t 34), (.t 35), (.t 37), (.t 41)]⟩, ⟨(some 43), (some (33, false)), .mov (.t 7)⟩, ⟨(some 44), (some (33, false)), .bin .neq (.t 42) (.t 43)⟩, ⟨(some 45), none, .pick (.t 33) (.c (.bool true)) (.t 44)⟩])
(.cond (.t 45)
(.seq
(.reg [⟨(some 4), none, .mov (.c (.bool false))⟩])
.ret)
.skip)))))
(.reg [⟨(some 46), none, .bin .add (.t 12) (.c (.int .i64 1))⟩, ⟨(some 12), none, .mov (.t 46)⟩])))))))
(.seq
(.reg [⟨(some 4), none, .mov (.c (.bool true))⟩])
.ret))))
theorem tr41 : trFn Try.prog Try.f41 = some (47, ir41, [.tmp 4]) := by kernel_rfl

/-- loop.example/g01230/spec.l10Cocycle -/
def ir42 : Cd :=
(.seq
(.reg [⟨(some 2), none, .box 35 (.t 0)⟩, ⟨(some 3), none, .box 29 (.t 1)⟩, ⟨(some 4), none, .mov (.c (.bool false))⟩])
(.seq
(.seq
(.reg [⟨(some 11), none, .ld (some 1106) (.t 2)⟩, ⟨(some 12), none, .ld (some 64) (.t 3)⟩, ⟨(some 13), none, .call 34 [(.t 11), (.t 12)]⟩, ⟨(some 14), none, .un .not (.t 13)⟩])
(.cond (.t 14)
(.seq
(.reg [⟨(some 4), none, .mov (.c (.bool false))⟩])
.ret)
.skip))
(.seq
(.reg [⟨(some 15), none, .build 512 [(512, (.int .u8 0))] []⟩, ⟨(some 5), none, .new 33 [(512, (.int .u8 0))]⟩, ⟨none, none, .st 512 (.t 5) (.t 15)⟩])
(.seq
(.seq
(.reg [⟨(some 6), none, .mov (.c (.int .i64 0))⟩])
(.block 0
(.loop
(.seq
(.seq
(.reg [⟨(some 16), none, .mov (.t 6)⟩, ⟨(some 17), none, .fa 1 (.t 2)⟩, ⟨(some 18), none, .ld none (.t 17)⟩, ⟨(some 19), none, .bin .lss (.t 16) (.t 18)⟩])
(.cond (.t 19)
.skip
(.exit 0)))
(.seq
(.block 1
(.seq
(.reg [⟨(some 7), none, .mov (.c (.int .i64 0))⟩])
(.block 2
(.loop
(.seq
(.seq
(.reg [⟨(some 22), none, .mov (.t 7)⟩, ⟨(some 23), none, .fa 1 (.t 2)⟩, ⟨(some 24), none, .ld none (.t 23)⟩, ⟨(some 25), none, .bin .lss (.t 22) (.t 24)⟩])
(.cond (.t 25)
.skip
(.exit 2)))
(.seq
(.block 3
(.drw true [9] [⟨(some 28), none, .mov (.t 6)⟩, ⟨(some 29), none, .mov (.t 7)⟩, ⟨(some 30), none, .ld (some 1106) (.t 2)⟩, ⟨(some 31), none, .ld (some 64) (.t 3)⟩, ⟨(some 32), none, .mov (.t 6)⟩, ⟨(some 33), none, .mov (.t 7)⟩, ⟨(some 34), none, .call 63 [(.t 30), (.t 31), (.t 32), (.t 33)]⟩, ⟨(some 35), none, .ia 8 64 (.t 5) (.t 28)⟩, ⟨(some 36), none, .ia 8 8 (.t 35) (.t 29)⟩, ⟨none, none, .st 8 (.t 36) (.t 34)⟩]))
(.reg [⟨(some 26), none, .mov (.t 7)⟩, ⟨(some 27), none, .bin .add (.t 26) (.c (.int .i64 1))⟩, ⟨(some 7), none, .mov (.t 27)⟩])))))))
(.reg [⟨(some 20), none, .mov (.t 6)⟩, ⟨(some 21), none, .bin .add (.t 20) (.c (.int .i64 1))⟩, ⟨(some 6), none, .mov (.t 21)⟩]))))))
(.seq
(.seq
(.reg [⟨(some 8), none, .mov (.c (.int .i64 0))⟩])
(.block 4
(.loop
(.seq
(.seq
(.reg [⟨(some 37), none, .mov (.t 8)⟩, ⟨(some 38), none, .fa 1 (.t 2)⟩, ⟨(some 39), none, .ld none (.t 38)⟩, ⟨(some 40), none, .bin .lss (.t 37) (.t 39)⟩])
(.cond (.t 40)
.skip
(.exit 4)))
(.seq
(.block 5
(.seq
(.reg [⟨(some 9), none, .mov (.c (.int .i64 0))⟩])
(.block 6
(.loop
(.seq
(.seq
(.reg [⟨(some 43), none, .mov (.t 9)⟩, ⟨(some 44), none, .fa 1 (.t 2)⟩, ⟨(some 45), none, .ld none (.t 44)⟩, ⟨(some 46), none, .bin .lss (.t 43) (.t 45)⟩])
(.cond (.t 46)
.skip
(.exit 6)))
(.seq
(.block 7
(.seq
(.reg [⟨(some 10), none, .mov (.c (.int .i64 0))⟩])
(.block 8
(.loop
(.seq
(.seq
(.reg [⟨(some 49), none, .mov (.t 10)⟩, ⟨(some 50), none, .fa 1 (.t 2)⟩, ⟨(some 51), none, .ld none (.t 50)⟩, ⟨(some 52), none, .bin .lss (.t 49) (.t 51)⟩])
(.cond (.t 52)
.skip
(.exit 8)))
(.seq
(.block 9
(.seq
(.drwo true [19] [0, 1, 2, 3, 4, 5, 6, 7, 10, 11, 12, 14, 15, 16, 17, 18, 8, 9, 13, 19, 20] [⟨(some 55), none, .ld (some 1106) (.t 2)⟩, ⟨(some 56), none, .ld (some 64) (.t 3)⟩, ⟨(some 57), none, .mov (.t 8)⟩, ⟨(some 58), none, .mov (.t 9)⟩, ⟨(some 59), none, .ia 8 64 (.t 5) (.t 57)⟩, ⟨(some 60), none, .ia 8 8 (.t 59) (.t 58)⟩, ⟨(some 61), none, .ld (some 8) (.t 60)⟩, ⟨(some 62), none, .mov (.t 10)⟩, ⟨(some 63), none, .call 33 [(.t 62)]⟩, ⟨(some 64), none, .call 32 [(.t 55), (.t 56), (.t 61), (.t 63)]⟩, ⟨(some 65), none, .ld (some 1106) (.t 2)⟩, ⟨(some 66), none, .ld (some 64) (.t 3)⟩, ⟨(some 67), none, .mov (.t 8)⟩, ⟨(some 68), none, .call 33 [(.t 67)]⟩, ⟨(some 69), none, .mov (.t 9)⟩, ⟨(some 70), none, .mov (.t 10)⟩, ⟨(some 71), none, .ia 8 64 (.t 5) (.t 69)⟩, ⟨(some 72), none, .ia 8 8 (.t 71) (.t 70)⟩, ⟨(some 73), none, .ld (some 8) (.t 72)⟩, ⟨(some 74), none, .call 32 [(.t 65), (.t 66), (.t 68), (.t 73)]⟩, ⟨(some 75), none, .bin .neq (.t 64) (.t 74)⟩])
(.cond (.t 75)
(.seq
(.reg [⟨(some 4), none, .mov (.c (.bool false))⟩])
.ret)
.skip)))
(.reg [⟨(some 53), none, .mov (.t 10)⟩, ⟨(some 54), none, .bin .add (.t 53) (.c (.int .i64 1))⟩, ⟨(some 10), none, .mov (.t 54)⟩])))))))
(.reg [⟨(some 47), none, .mov (.t 9)⟩, ⟨(some 48), none, .bin .add (.t 47) (.c (.int .i64 1))⟩, ⟨(some 9), none, .mov (.t 48)⟩])))))))
(.reg [⟨(some 41), none, .mov (.t 8)⟩, ⟨(some 42), none, .bin .add (.t 41) (.c (.int .i64 1))⟩, ⟨(some 8), none, .mov (.t 42)⟩]))))))
(.seq
(.reg [⟨(some 4), none, .mov (.c (.bool true))⟩])
.ret))))))
theorem tr42 : trFn Try.prog Try.f42 = some (76, ir42, [.tmp 4]) := by kernel_rfl

/-- (*loop.example/g01230/impl.Hopf).isCocycle -/
def ir43 : Cd :=
(.seq
(.reg [⟨(some 4), none, .mov (.c (.bool false))⟩])
(.seq
(.reg [⟨(some 10), none, .mov (.t 0)⟩, ⟨(some 11), none, .call 35 [(.t 10)]⟩, ⟨(some 5), none, .new 60 [(2, (.int .i64 0))]⟩, ⟨none, none, .st 2 (.t 5) (.t 11)⟩])
(.seq
(.seq
(.reg [⟨(some 12), none, .mov (.t 0)⟩, ⟨(some 13), none, .mov (.t 1)⟩, ⟨(some 14), none, .call 41 [(.t 12), (.t 13)]⟩, ⟨(some 15), none, .un .not (.t 14)⟩])
(.cond (.t 15)
(.seq
(.reg [⟨(some 4), none, .mov (.c (.bool false))⟩])
.ret)
.skip))
(.seq
(.seq
(.reg [⟨(some 16), none, .fa 1 (.t 5)⟩, ⟨(some 17), none, .ld none (.t 16)⟩, ⟨(some 18), none, .mov (.c (.int .i64 0))⟩])
(.block 0
(.loop
(.seq
(.reg [⟨(some 19), none, .bin .lss (.t 18) (.t 17)⟩])
(.seq
(.cond (.t 19)
.skip
(.exit 0))
(.seq
(.block 1
(.seq
(.reg [⟨(some 20), none, .mov (.t 18)⟩, ⟨(some 6), none, .mov (.t 20)⟩])
(.seq
(.reg [⟨(some 21), none, .fa 1 (.t 5)⟩, ⟨(some 22), none, .ld none (.t 21)⟩, ⟨(some 23), none, .mov (.c (.int .i64 0))⟩])
(.block 2
(.loop
(.seq
(.reg [⟨(some 24), none, .bin .lss (.t 23) (.t 22)⟩])
(.seq
(.cond (.t 24)
.skip
(.exit 2))
(.seq
(.block 3
(.seq
(.reg [⟨(some 25), none, .mov (.t 23)⟩, ⟨(some 7), none, .mov (.t 25)⟩])
(.seq
(.reg [⟨(some 26), none, .fa 1 (.t 5)⟩, ⟨(some 27), none, .ld none (.t 26)⟩, ⟨(some 28), none, .mov (.c (.int .i64 0))⟩])
(.block 4
(.loop
(.seq
(.reg [⟨(some 29), none, .bin .lss (.t 28) (.t 27)⟩])
(.seq
(.cond (.t 29)
.skip
(.exit 4))
(.seq
(.block 5
(.seq
(.reg [⟨(some 30), none, .mov (.t 28)⟩, ⟨(some 8), none, .mov (.t 30)⟩])
(.seq
(.drwo true [9] [0, 1, 2, 3, 4, 5, 7, 6, 8, 9, 10] [⟨(some 31), none, .ld (some 2) (.t 5)⟩, ⟨(some 32), none, .mov (.t 1)⟩, ⟨(some 33), none, .mov (.t 0)⟩, ⟨(some 34), none, .mov (.t 1)⟩, ⟨(some 35), none, .mov (.t 6)⟩, ⟨(some 36), none, .mov (.t 7)⟩, ⟨(some 37), none, .call 64 [(.t 33), (.t 34), (.t 35), (.t 36)]⟩, ⟨(some 38), none, .mov (.t 8)⟩, ⟨(some 39), none, .call 40 [(.t 38)]⟩, ⟨(some 40), none, .call 39 [(.t 31), (.t 32), (.t 37), (.t 39)]⟩, ⟨(some 9), none, .mov (.t 40)⟩])
(.seq
(.drwo true [] [0, 1, 2, 3, 5, 6, 7, 8, 4, 9, 10, 11] [⟨(some 41), none, .mov (.t 9)⟩, ⟨(some 42), none, .ld (some 2) (.t 5)⟩, ⟨(some 43), none, .mov (.t 1)⟩, ⟨(some 44), none, .mov (.t 6)⟩, ⟨(some 45), none, .call 40 [(.t 44)]⟩, ⟨(some 46), none, .mov (.t 0)⟩, ⟨(some 47), none, .mov (.t 1)⟩, ⟨(some 48), none, .mov (.t 7)⟩, ⟨(some 49), none, .mov (.t 8)⟩, ⟨(some 50), none, .call 64 [(.t 46), (.t 47), (.t 48), (.t 49)]⟩, ⟨(some 51), none, .call 39 [(.t 42), (.t 43), (.t 45), (.t 50)]⟩, ⟨(some 52), none, .bin .neq (.t 41) (.t 51)⟩])
(.cond (.t 52)
(.seq
(.reg [⟨(some 4), none, .mov (.c (.bool false))⟩])
.ret)
.skip)))))
(.reg [⟨(some 53), none, .bin .add (.t 28) (.c (.int .i64 1))⟩, ⟨(some 28), none, .mov (.t 53)⟩])))))))))
(.reg [⟨(some 54), none, .bin .add (.t 23) (.c (.int .i64 1))⟩, ⟨(some 23), none, .mov (.t 54)⟩])))))))))
(.reg [⟨(some 55), none, .bin .add (.t 18) (.c (.int .i64 1))⟩, ⟨(some 18), none, .mov (.t 55)⟩])))))))
(.seq
(.reg [⟨(some 4), none, .mov (.c (.bool true))⟩])
.ret)))))
theorem tr43 : trFn Try.prog Try.f43 = some (56, ir43, [.tmp 4]) := by kernel_rfl

/-- loop.example/g01230/spec.l09Code -/
def ir44 : Cd :=
(.seq
(.reg [⟨(some 3), none, .box 35 (.t 0)⟩, ⟨(some 6), none, .mov (.c (.int .i64 0))⟩])
(.seq
(.seq
(.reg [⟨(some 8), none, .ld (some 1106) (.t 3)⟩, ⟨(some 9), none, .call 51 [(.t 8)]⟩, ⟨(some 10), none, .un .not (.t 9)⟩])
(.cond (.t 10)
(.seq
(.reg [⟨(some 6), none, .mov (.c (.int .i64 1))⟩])
.ret)
.skip))
(.seq
(.seq
(.reg [⟨(some 7), none, .mov (.c (.int .i64 0))⟩])
(.block 0
(.loop
(.seq
(.seq
(.reg [⟨(some 11), none, .mov (.t 7)⟩, ⟨(some 12), none, .mov (.t 2)⟩, ⟨(some 13), none, .len (.t 12)⟩, ⟨(some 14), none, .bin .lss (.t 11) (.t 13)⟩])
(.cond (.t 14)
.skip
(.exit 0)))
(.seq
(.block 1
(.seq
(.drw true [8] [⟨(some 17), none, .fa 0 (.t 3)⟩, ⟨(some 18), none, .ld none (.t 17)⟩, ⟨(some 19), none, .fa 1 (.t 3)⟩, ⟨(some 20), none, .ld none (.t 19)⟩, ⟨(some 21), none, .mov (.t 2)⟩, ⟨(some 22), none, .mov (.t 7)⟩, ⟨(some 23), none, .isl 64 (.t 21) (.t 22)⟩, ⟨(some 24), none, .ld (some 64) (.t 23)⟩, ⟨(some 25), none, .call 52 [(.t 18), (.t 20), (.t 24)]⟩, ⟨(some 26), none, .un .not (.t 25)⟩])
(.cond (.t 26)
(.seq
(.reg [⟨(some 6), none, .mov (.c (.int .i64 1))⟩])
.ret)
.skip)))
(.reg [⟨(some 15), none, .mov (.t 7)⟩, ⟨(some 16), none, .bin .add (.t 15) (.c (.int .i64 1))⟩, ⟨(some 7), none, .mov (.t 16)⟩]))))))
(.seq
(.seq
(.drw true [6] [⟨(some 27), none, .mov (.t 1)⟩, ⟨(some 28), none, .mov (.t 27)⟩, ⟨(some 29), (some (28, true)), .ld (some 1106) (.t 3)⟩, ⟨(some 30), (some (28, true)), .mov (.t 2)⟩, ⟨(some 31), (some (28, true)), .isl 64 (.t 30) (.c (.int .i64 0))⟩, ⟨(some 32), (some (28, true)), .ld (some 64) (.t 31)⟩, ⟨(some 33), (some (28, true)), .call 65 [(.t 29), (.t 32)]⟩, ⟨(some 34), (some (28, true)), .bin .neq (.t 33) (.c (.int .i64 0))⟩, ⟨(some 35), none, .pick (.t 28) (.t 34) (.c (.bool false))⟩])
(.cond (.t 35)
(.seq
(.reg [⟨(some 6), none, .mov (.c (.int .i64 5))⟩])
.ret)
.skip))
(.seq
(.reg [⟨(some 6), none, .mov (.c (.int .i64 0))⟩])
.ret)))))
theorem tr44 : trFn Try.prog Try.f44 = some (36, ir44, [.tmp 6]) := by kernel_rfl

/-- loop.example/g01230/spec.l03Pairs -/
def ir45 : Cd :=
(.seq
(.reg [⟨(some 3), none, .box 35 (.t 0)⟩, ⟨(some 4), none, .box 29 (.t 1)⟩, ⟨(some 5), none, .box 29 (.t 2)⟩, ⟨(some 6), none, .new 29 [(64, (.int .u8 0))]⟩])
(.seq
(.mix [⟨(some 15), none, .fa 0 (.t 3)⟩, ⟨(some 16), none, .ld none (.t 15)⟩, ⟨(some 17), none, .fa 1 (.t 3)⟩, ⟨(some 18), none, .ld none (.t 17)⟩, ⟨(some 19), none, .build 64 [(64, (.int .u8 0))] []⟩] [⟨(some 9), none, .new 29 [(64, (.int .u8 0))]⟩, ⟨(some 7), none, .mov (.t 16)⟩, ⟨(some 8), none, .mov (.t 18)⟩, ⟨none, none, .st 64 (.t 9) (.t 19)⟩])
(.seq
(.seq
(.reg [⟨(some 10), none, .mov (.c (.int .i64 0))⟩])
(.block 0
(.loop
(.seq
(.seq
(.reg [⟨(some 20), none, .mov (.t 10)⟩, ⟨(some 21), none, .mov (.t 8)⟩, ⟨(some 22), none, .bin .lss (.t 20) (.t 21)⟩])
(.cond (.t 22)
.skip
(.exit 0)))
(.seq
(.block 1
(.seq
(.reg [⟨(some 11), none, .mov (.c (.int .i64 0))⟩])
(.block 2
(.loop
(.seq
(.seq
(.reg [⟨(some 25), none, .mov (.t 11)⟩, ⟨(some 26), none, .mov (.t 8)⟩, ⟨(some 27), none, .bin .lss (.t 25) (.t 26)⟩])
(.cond (.t 27)
.skip
(.exit 2)))
(.seq
(.block 3
(.seq
(.mix [⟨(some 30), none, .ld (some 1106) (.t 3)⟩, ⟨(some 31), none, .call 67 [(.t 30)]⟩, ⟨(some 32), none, .mov (.t 10)⟩, ⟨(some 33), none, .ia 8 8 (.t 4) (.t 32)⟩, ⟨(some 34), none, .ld (some 8) (.t 33)⟩, ⟨(some 35), none, .mov (.t 11)⟩, ⟨(some 36), none, .ia 8 8 (.t 5) (.t 35)⟩, ⟨(some 37), none, .ld (some 8) (.t 36)⟩, ⟨(some 38), none, .call 66 [(.t 31), (.t 34), (.t 37)]⟩] [⟨(some 12), none, .new 27 [(8, (.int .u8 0))]⟩, ⟨none, none, .st 8 (.t 12) (.t 38)⟩])
(.seq
(.seq
(.reg [⟨(some 39), none, .ld (some 8) (.t 12)⟩, ⟨(some 40), none, .call 53 [(.t 39)]⟩])
(.cond (.t 40)
(.exit 3)
.skip))
(.seq
(.reg [⟨(some 13), none, .mov (.c (.int .i64 0))⟩])
(.block 4
(.loop
(.seq
(.seq
(.reg [⟨(some 41), none, .mov (.t 13)⟩, ⟨(some 42), none, .mov (.t 8)⟩, ⟨(some 43), none, .bin .lss (.t 41) (.t 42)⟩])
(.cond (.t 43)
.skip
(.exit 4)))
(.seq
(.block 5
(.seq
(.reg [⟨(some 46), none, .mov (.t 10)⟩, ⟨(some 47), none, .mov (.t 11)⟩, ⟨(some 48), none, .mov (.t 13)⟩, ⟨(some 49), none, .fa 10 (.t 3)⟩, ⟨(some 50), none, .ia 8 64 (.t 49) (.t 46)⟩, ⟨(some 51), none, .ia 8 8 (.t 50) (.t 47)⟩, ⟨(some 52), none, .ia 8 1 (.t 51) (.t 48)⟩, ⟨(some 53), none, .ld none (.t 52)⟩, ⟨(some 14), none, .mov (.t 53)⟩])
(.seq
(.reg [⟨(some 54), none, .mov (.t 14)⟩, ⟨(some 55), none, .bin .neq (.t 54) (.c (.int .u8 0))⟩])
(.cond (.t 55)
(.drw true [10] [⟨(some 56), none, .mov (.t 13)⟩, ⟨(some 57), none, .mov (.t 7)⟩, ⟨(some 58), none, .mov (.t 13)⟩, ⟨(some 59), none, .ia 8 8 (.t 9) (.t 58)⟩, ⟨(some 60), none, .ld (some 8) (.t 59)⟩, ⟨(some 61), none, .ld (some 8) (.t 12)⟩, ⟨(some 62), none, .mov (.t 14)⟩, ⟨(some 63), none, .cv .i64 (.t 62)⟩, ⟨(some 64), none, .call 68 [(.t 57), (.t 60), (.t 61), (.t 63)]⟩, ⟨(some 65), none, .ia 8 8 (.t 9) (.t 56)⟩, ⟨none, none, .st 8 (.t 65) (.t 64)⟩])
.skip))))
(.reg [⟨(some 44), none, .mov (.t 13)⟩, ⟨(some 45), none, .bin .add (.t 44) (.c (.int .i64 1))⟩, ⟨(some 13), none, .mov (.t 45)⟩])))))))))
(.reg [⟨(some 28), none, .mov (.t 11)⟩, ⟨(some 29), none, .bin .add (.t 28) (.c (.int .i64 1))⟩, ⟨(some 11), none, .mov (.t 29)⟩])))))))
(.reg [⟨(some 23), none, .mov (.t 10)⟩, ⟨(some 24), none, .bin .add (.t 23) (.c (.int .i64 1))⟩, ⟨(some 10), none, .mov (.t 24)⟩]))))))
(.seq
(.reg [⟨(some 66), none, .ld (some 64) (.t 9)⟩, ⟨none, none, .st 64 (.t 6) (.t 66)⟩])
.ret))))
theorem tr45 : trFn Try.prog Try.f45 = some (67, ir45, [.cell (some 64) 6]) := by kernel_rfl

/-- (*loop.example/g01230/impl.Hopf).tensor -/
def ir46 : Cd :=
(.seq
(.reg [⟨(some 3), none, .box 52 (.t 0)⟩, ⟨(some 5), none, .box 53 (.t 2)⟩, ⟨(some 6), none, .new 29 [(64, (.int .u8 0))]⟩])
(.seq
(.reg [⟨(some 9), none, .ld none (.t 3)⟩, ⟨(some 10), none, .call 35 [(.t 9)]⟩, ⟨(some 11), none, .build 64 [(64, (.int .u8 0))] []⟩, ⟨(some 7), none, .new 60 [(2, (.int .i64 0))]⟩, ⟨(some 8), none, .new 29 [(64, (.int .u8 0))]⟩, ⟨none, none, .st 2 (.t 7) (.t 10)⟩, ⟨none, none, .st 64 (.t 8) (.t 11)⟩])
(.seq
(.reg [⟨(some 12), none, .mov (.t 1)⟩, ⟨(some 13), none, .mkf 69 [] [(.t 5), (.t 3), (.t 7), (.t 8)]⟩, ⟨(some 14), none, .call 36 [(.t 12), (.t 13)]⟩])
(.seq
(.reg [⟨(some 15), none, .ld (some 64) (.t 8)⟩, ⟨none, none, .st 64 (.t 6) (.t 15)⟩])
.ret))))
theorem tr46 : trFn Try.prog Try.f46 = some (16, ir46, [.cell (some 64) 6]) := by kernel_rfl

/-- loop.example/g01230/spec.l09Flip -/
def ir47 : Cd :=
(.seq
(.reg [⟨(some 3), none, .box 29 (.t 1)⟩, ⟨(some 4), none, .new 29 [(64, (.int .u8 0))]⟩])
(.seq
(.reg [⟨(some 8), none, .build 64 [(64, (.int .u8 0))] []⟩, ⟨(some 5), none, .new 29 [(64, (.int .u8 0))]⟩, ⟨none, none, .st 64 (.t 5) (.t 8)⟩])
(.seq
(.seq
(.reg [⟨(some 6), none, .mov (.c (.int .i64 0))⟩])
(.block 0
(.loop
(.seq
(.seq
(.reg [⟨(some 9), none, .mov (.t 6)⟩, ⟨(some 10), none, .mov (.t 0)⟩, ⟨(some 11), none, .bin .lss (.t 9) (.t 10)⟩])
(.cond (.t 11)
.skip
(.exit 0)))
(.seq
(.block 1
(.seq
(.reg [⟨(some 7), none, .mov (.c (.int .i64 0))⟩])
(.block 2
(.loop
(.seq
(.seq
(.reg [⟨(some 14), none, .mov (.t 7)⟩, ⟨(some 15), none, .mov (.t 0)⟩, ⟨(some 16), none, .bin .lss (.t 14) (.t 15)⟩])
(.cond (.t 16)
.skip
(.exit 2)))
(.seq
(.block 3
(.drw true [9] [⟨(some 19), none, .mov (.t 6)⟩, ⟨(some 20), none, .mov (.t 7)⟩, ⟨(some 21), none, .mov (.t 7)⟩, ⟨(some 22), none, .mov (.t 6)⟩, ⟨(some 23), none, .ia 8 8 (.t 3) (.t 21)⟩, ⟨(some 24), none, .ia 8 1 (.t 23) (.t 22)⟩, ⟨(some 25), none, .ld none (.t 24)⟩, ⟨(some 26), none, .ia 8 8 (.t 5) (.t 19)⟩, ⟨(some 27), none, .ia 8 1 (.t 26) (.t 20)⟩, ⟨none, none, .st 1 (.t 27) (.t 25)⟩]))
(.reg [⟨(some 17), none, .mov (.t 7)⟩, ⟨(some 18), none, .bin .add (.t 17) (.c (.int .i64 1))⟩, ⟨(some 7), none, .mov (.t 18)⟩])))))))
(.reg [⟨(some 12), none, .mov (.t 6)⟩, ⟨(some 13), none, .bin .add (.t 12) (.c (.int .i64 1))⟩, ⟨(some 6), none, .mov (.t 13)⟩]))))))
(.seq
(.reg [⟨(some 28), none, .ld (some 64) (.t 5)⟩, ⟨none, none, .st 64 (.t 4) (.t 28)⟩])
.ret))))
theorem tr47 : trFn Try.prog Try.f47 = some (29, ir47, [.cell (some 64) 4]) := by kernel_rfl

/-- loop.example/g01230/impl.transposed -/
def ir48 : Cd :=
(.seq
(.reg [⟨(some 2), none, .new 29 [(64, (.int .u8 0))]⟩])
(.seq
(.reg [⟨(some 6), none, .build 64 [(64, (.int .u8 0))] []⟩, ⟨(some 3), none, .new 29 [(64, (.int .u8 0))]⟩, ⟨none, none, .st 64 (.t 3) (.t 6)⟩])
(.seq
(.seq
(.reg [⟨(some 7), none, .mov (.c (.int .i64 0))⟩])
(.block 0
(.loop
(.seq
(.reg [⟨(some 8), none, .bin .lss (.t 7) (.c (.int .i64 8))⟩])
(.seq
(.cond (.t 8)
.skip
(.exit 0))
(.seq
(.block 1
(.seq
(.reg [⟨(some 9), none, .mov (.t 7)⟩, ⟨(some 4), none, .mov (.t 9)⟩])
(.seq
(.reg [⟨(some 10), none, .mov (.c (.int .i64 0))⟩])
(.block 2
(.loop
(.seq
(.reg [⟨(some 11), none, .bin .lss (.t 10) (.c (.int .i64 8))⟩])
(.seq
(.cond (.t 11)
.skip
(.exit 2))
(.seq
(.block 3
(.seq
(.reg [⟨(some 12), none, .mov (.t 10)⟩, ⟨(some 5), none, .mov (.t 12)⟩])
(.drw true [11] [⟨(some 13), none, .mov (.t 4)⟩, ⟨(some 14), none, .mov (.t 5)⟩, ⟨(some 15), none, .mov (.t 0)⟩, ⟨(some 16), none, .mov (.t 5)⟩, ⟨(some 17), none, .mov (.t 4)⟩, ⟨(some 18), none, .ck (.t 15)⟩, ⟨(some 19), none, .ia 8 8 (.t 18) (.t 16)⟩, ⟨(some 20), none, .ia 8 1 (.t 19) (.t 17)⟩, ⟨(some 21), none, .ld none (.t 20)⟩, ⟨(some 22), none, .ia 8 8 (.t 3) (.t 13)⟩, ⟨(some 23), none, .ia 8 1 (.t 22) (.t 14)⟩, ⟨none, none, .st 1 (.t 23) (.t 21)⟩])))
(.reg [⟨(some 24), none, .bin .add (.t 10) (.c (.int .i64 1))⟩, ⟨(some 10), none, .mov (.t 24)⟩])))))))))
(.reg [⟨(some 25), none, .bin .add (.t 7) (.c (.int .i64 1))⟩, ⟨(some 7), none, .mov (.t 25)⟩])))))))
(.seq
(.reg [⟨(some 26), none, .ld (some 64) (.t 3)⟩, ⟨none, none, .st 64 (.t 2) (.t 26)⟩])
.ret))))
theorem tr48 : trFn Try.prog Try.f48 = some (27, ir48, [.cell (some 64) 2]) := by kernel_rfl

/-- loop.example/g01230/spec.l09First -/
def ir49 : Cd :=
(.seq
(.reg [⟨(some 2), none, .box 35 (.t 0)⟩, ⟨(some 3), none, .box 29 (.t 1)⟩, ⟨(some 4), none, .new 33 [(512, (.int .u8 0))]⟩])
(.seq
(.reg [⟨(some 10), none, .fa 1 (.t 2)⟩, ⟨(some 11), none, .ld none (.t 10)⟩, ⟨(some 12), none, .build 512 [(512, (.int .u8 0))] []⟩, ⟨(some 6), none, .new 33 [(512, (.int .u8 0))]⟩, ⟨(some 5), none, .mov (.t 11)⟩, ⟨none, none, .st 512 (.t 6) (.t 12)⟩])
(.seq
(.seq
(.reg [⟨(some 7), none, .mov (.c (.int .i64 0))⟩])
(.block 0
(.loop
(.seq
(.seq
(.reg [⟨(some 13), none, .mov (.t 7)⟩, ⟨(some 14), none, .mov (.t 5)⟩, ⟨(some 15), none, .bin .lss (.t 13) (.t 14)⟩])
(.cond (.t 15)
.skip
(.exit 0)))
(.seq
(.block 1
(.seq
(.reg [⟨(some 8), none, .mov (.c (.int .i64 0))⟩])
(.block 2
(.loop
(.seq
(.seq
(.reg [⟨(some 18), none, .mov (.t 8)⟩, ⟨(some 19), none, .mov (.t 5)⟩, ⟨(some 20), none, .bin .lss (.t 18) (.t 19)⟩])
(.cond (.t 20)
.skip
(.exit 2)))
(.seq
(.block 3
(.seq
(.reg [⟨(some 9), none, .mov (.c (.int .i64 0))⟩])
(.block 4
(.loop
(.seq
(.seq
(.reg [⟨(some 23), none, .mov (.t 9)⟩, ⟨(some 24), none, .mov (.t 5)⟩, ⟨(some 25), none, .bin .lss (.t 23) (.t 24)⟩])
(.cond (.t 25)
.skip
(.exit 4)))
(.seq
(.block 5
(.drw true [24] [⟨(some 28), none, .mov (.t 8)⟩, ⟨(some 29), none, .mov (.t 9)⟩, ⟨(some 30), none, .fa 0 (.t 2)⟩, ⟨(some 31), none, .ld none (.t 30)⟩, ⟨(some 32), none, .mov (.t 8)⟩, ⟨(some 33), none, .mov (.t 9)⟩, ⟨(some 34), none, .ia 8 64 (.t 6) (.t 32)⟩, ⟨(some 35), none, .ia 8 8 (.t 34) (.t 33)⟩, ⟨(some 36), none, .ld (some 8) (.t 35)⟩, ⟨(some 37), none, .mov (.t 7)⟩, ⟨(some 38), none, .ia 8 8 (.t 3) (.t 37)⟩, ⟨(some 39), none, .ld (some 8) (.t 38)⟩, ⟨(some 40), none, .mov (.t 7)⟩, ⟨(some 41), none, .mov (.t 8)⟩, ⟨(some 42), none, .mov (.t 9)⟩, ⟨(some 43), none, .fa 530 (.t 2)⟩, ⟨(some 44), none, .ia 8 64 (.t 43) (.t 40)⟩, ⟨(some 45), none, .ia 8 8 (.t 44) (.t 41)⟩, ⟨(some 46), none, .ia 8 1 (.t 45) (.t 42)⟩, ⟨(some 47), none, .ld none (.t 46)⟩, ⟨(some 48), none, .cv .i64 (.t 47)⟩, ⟨(some 49), none, .call 68 [(.t 31), (.t 36), (.t 39), (.t 48)]⟩, ⟨(some 50), none, .ia 8 64 (.t 6) (.t 28)⟩, ⟨(some 51), none, .ia 8 8 (.t 50) (.t 29)⟩, ⟨none, none, .st 8 (.t 51) (.t 49)⟩]))
(.reg [⟨(some 26), none, .mov (.t 9)⟩, ⟨(some 27), none, .bin .add (.t 26) (.c (.int .i64 1))⟩, ⟨(some 9), none, .mov (.t 27)⟩])))))))
(.reg [⟨(some 21), none, .mov (.t 8)⟩, ⟨(some 22), none, .bin .add (.t 21) (.c (.int .i64 1))⟩, ⟨(some 8), none, .mov (.t 22)⟩])))))))
(.reg [⟨(some 16), none, .mov (.t 7)⟩, ⟨(some 17), none, .bin .add (.t 16) (.c (.int .i64 1))⟩, ⟨(some 7), none, .mov (.t 17)⟩]))))))
(.seq
(.reg [⟨(some 52), none, .ld (some 512) (.t 6)⟩, ⟨none, none, .st 512 (.t 4) (.t 52)⟩])
.ret))))
theorem tr49 : trFn Try.prog Try.f49 = some (53, ir49, [.cell (some 512) 4]) := by kernel_rfl

/-- (*loop.example/g01230/impl.Hopf).firstPart -/
def ir50 : Cd :=
(.seq
(.reg [⟨(some 4), none, .new 33 [(512, (.int .u8 0))]⟩])
(.seq
(.reg [⟨(some 11), none, .mov (.t 0)⟩, ⟨(some 12), none, .call 35 [(.t 11)]⟩, ⟨(some 13), none, .build 512 [(512, (.int .u8 0))] []⟩, ⟨(some 5), none, .new 60 [(2, (.int .i64 0))]⟩, ⟨(some 6), none, .new 33 [(512, (.int .u8 0))]⟩, ⟨none, none, .st 2 (.t 5) (.t 12)⟩, ⟨none, none, .st 512 (.t 6) (.t 13)⟩])
(.seq
(.seq
(.reg [⟨(some 14), none, .fa 1 (.t 5)⟩, ⟨(some 15), none, .ld none (.t 14)⟩, ⟨(some 16), none, .mov (.c (.int .i64 0))⟩])
(.block 0
(.loop
(.seq
(.reg [⟨(some 17), none, .bin .lss (.t 16) (.t 15)⟩])
(.seq
(.cond (.t 17)
.skip
(.exit 0))
(.seq
(.block 1
(.seq
(.reg [⟨(some 18), none, .mov (.t 16)⟩, ⟨(some 7), none, .mov (.t 18)⟩])
(.seq
(.reg [⟨(some 19), none, .fa 1 (.t 5)⟩, ⟨(some 20), none, .ld none (.t 19)⟩, ⟨(some 21), none, .mov (.c (.int .i64 0))⟩])
(.block 2
(.loop
(.seq
(.reg [⟨(some 22), none, .bin .lss (.t 21) (.t 20)⟩])
(.seq
(.cond (.t 22)
.skip
(.exit 2))
(.seq
(.block 3
(.seq
(.reg [⟨(some 23), none, .mov (.t 21)⟩, ⟨(some 8), none, .mov (.t 23)⟩])
(.seq
(.reg [⟨(some 24), none, .mov (.t 0)⟩, ⟨(some 25), none, .mov (.t 7)⟩, ⟨(some 26), none, .mov (.t 8)⟩, ⟨(some 27), none, .ck (.t 24)⟩, ⟨(some 28), none, .fa 530 (.t 27)⟩, ⟨(some 29), none, .ia 8 64 (.t 28) (.t 25)⟩, ⟨(some 30), none, .ia 8 8 (.t 29) (.t 26)⟩, ⟨(some 31), none, .ld (some 8) (.t 30)⟩, ⟨(some 32), none, .mov (.c (.int .i64 0))⟩])
(.block 4
(.loop
(.seq
(.reg [⟨(some 33), none, .bin .lss (.t 32) (.c (.int .i64 8))⟩])
(.seq
(.cond (.t 33)
.skip
(.exit 4))
(.seq
(.block 5
(.seq
(.reg [⟨(some 34), none, .mov (.t 32)⟩, ⟨(some 35), none, .ix 8 1 none (.t 31) (.t 32)⟩, ⟨(some 9), none, .mov (.t 34)⟩, ⟨(some 10), none, .mov (.t 35)⟩])
(.drw true [12] [⟨(some 36), none, .ld (some 2) (.t 5)⟩, ⟨(some 37), none, .mov (.t 8)⟩, ⟨(some 38), none, .mov (.t 9)⟩, ⟨(some 39), none, .ia 8 64 (.t 6) (.t 37)⟩, ⟨(some 40), none, .ia 8 8 (.t 39) (.t 38)⟩, ⟨(some 41), none, .mov (.t 10)⟩, ⟨(some 42), none, .cv .i64 (.t 41)⟩, ⟨(some 43), none, .mov (.t 1)⟩, ⟨(some 44), none, .mov (.t 7)⟩, ⟨(some 45), none, .ck (.t 43)⟩, ⟨(some 46), none, .ia 8 8 (.t 45) (.t 44)⟩, ⟨(some 47), none, .ld (some 8) (.t 46)⟩, ⟨(some 48), none, .call 71 [(.t 36), (.t 40), (.t 42), (.t 47)]⟩])))
(.reg [⟨(some 49), none, .bin .add (.t 32) (.c (.int .i64 1))⟩, ⟨(some 32), none, .mov (.t 49)⟩])))))))))
(.reg [⟨(some 50), none, .bin .add (.t 21) (.c (.int .i64 1))⟩, ⟨(some 21), none, .mov (.t 50)⟩])))))))))
(.reg [⟨(some 51), none, .bin .add (.t 16) (.c (.int .i64 1))⟩, ⟨(some 16), none, .mov (.t 51)⟩])))))))
(.seq
(.reg [⟨(some 52), none, .ld (some 512) (.t 6)⟩, ⟨none, none, .st 512 (.t 4) (.t 52)⟩])
.ret))))
theorem tr50 : trFn Try.prog Try.f50 = some (53, ir50, [.cell (some 512) 4]) := by kernel_rfl

/-- loop.example/g01230/spec.l03Is -/
def ir51 : Cd :=
(.seq
(.reg [⟨(some 1), none, .box 35 (.t 0)⟩, ⟨(some 2), none, .mov (.c (.bool false))⟩])
(.seq
(.reg [⟨(some 3), none, .ld (some 1106) (.t 1)⟩, ⟨(some 4), none, .call 72 [(.t 3)]⟩, ⟨(some 5), none, .mov (.t 4)⟩, ⟨(some 6), (some (5, true)), .ld (some 1106) (.t 1)⟩, ⟨(some 7), (some (5, true)), .call 73 [(.t 6)]⟩, ⟨(some 8), (some (5, true)), .bin .eql (.t 7) (.c (.int .i64 0))⟩, ⟨(some 9), none, .pick (.t 5) (.t 8) (.c (.bool false))⟩, ⟨(some 2), none, .mov (.t 9)⟩])
.ret))
theorem tr51 : trFn Try.prog Try.f51 = some (10, ir51, [.tmp 2]) := by kernel_rfl

/-- loop.example/g01230/spec.l01Linear -/
def ir52 : Cd :=
(.seq
(.reg [⟨(some 5), none, .box 29 (.t 2)⟩, ⟨(some 6), none, .mov (.c (.bool false))⟩])
(.seq
(.seq
(.reg [⟨(some 7), none, .mov (.c (.int .i64 0))⟩])
(.block 0
(.loop
(.seq
(.seq
(.reg [⟨(some 8), none, .mov (.t 7)⟩, ⟨(some 9), none, .bin .lss (.t 8) (.c (.int .i64 8))⟩])
(.cond (.t 9)
.skip
(.exit 0)))
(.seq
(.block 1
(.seq
(.reg [⟨(some 12), none, .mov (.t 0)⟩, ⟨(some 13), none, .mov (.t 1)⟩, ⟨(some 14), none, .mov (.t 7)⟩, ⟨(some 15), none, .ia 8 8 (.t 5) (.t 14)⟩, ⟨(some 16), none, .ld (some 8) (.t 15)⟩, ⟨(some 17), none, .call 74 [(.t 12), (.t 13), (.t 16)]⟩, ⟨(some 18), none, .un .not (.t 17)⟩, ⟨(some 19), none, .mov (.t 18)⟩, ⟨(some 20), (some (19, false)), .mov (.t 7)⟩, ⟨(some 21), (some (19, false)), .mov (.t 1)⟩, ⟨(some 22), (some (19, false)), .bin .geq (.t 20) (.t 21)⟩, ⟨(some 23), (some (19, false)), .mov (.t 22)⟩, ⟨(some 24), (some (23, true)), .mov (.t 7)⟩, ⟨(some 25), (some (23, true)), .ia 8 8 (.t 5) (.t 24)⟩, ⟨(some 26), (some (23, true)), .ld (some 8) (.t 25)⟩, ⟨(some 27), (some (23, true)), .build 8 [(8, (.int .u8 0))] []⟩, ⟨(some 28), (some (23, true)), .eqa true 8 (.t 26) (.t 27)⟩, ⟨(some 29), (some (19, false)), .pick (.t 23) (.t 28) (.c (.bool false))⟩, ⟨(some 30), none, .pick (.t 19) (.c (.bool true)) (.t 29)⟩])
(.cond (.t 30)
(.seq
(.reg [⟨(some 6), none, .mov (.c (.bool false))⟩])
.ret)
.skip)))
(.reg [⟨(some 10), none, .mov (.t 7)⟩, ⟨(some 11), none, .bin .add (.t 10) (.c (.int .i64 1))⟩, ⟨(some 7), none, .mov (.t 11)⟩]))))))
(.seq
(.reg [⟨(some 6), none, .mov (.c (.bool true))⟩])
.ret)))
theorem tr52 : trFn Try.prog Try.f52 = some (31, ir52, [.tmp 6]) := by kernel_rfl

/-- loop.example/g01230/spec.l01Zero -/
def ir53 : Cd :=
(.seq
(.reg [⟨(some 1), none, .box 27 (.t 0)⟩, ⟨(some 2), none, .mov (.c (.bool false))⟩])
(.seq
(.reg [⟨(some 3), none, .ld (some 8) (.t 1)⟩, ⟨(some 4), none, .build 8 [(8, (.int .u8 0))] []⟩, ⟨(some 5), none, .eqa false 8 (.t 3) (.t 4)⟩, ⟨(some 2), none, .mov (.t 5)⟩])
.ret))
theorem tr53 : trFn Try.prog Try.f53 = some (6, ir53, [.tmp 2]) := by kernel_rfl

/-- loop.example/g01230/impl.IsHopf -/
def ir54 : Cd :=
(.seq
(.reg [⟨(some 1), none, .box 35 (.t 0)⟩, ⟨(some 2), none, .mov (.c (.bool false))⟩])
(.seq
(.reg [⟨(some 3), none, .call 75 [(.t 1)]⟩, ⟨(some 4), none, .mov (.t 3)⟩, ⟨(some 5), (some (4, true)), .call 76 [(.t 1), (.c (.int .i64 7))]⟩, ⟨(some 6), (some (4, true)), .bin .eql (.t 5) (.c (.int .i64 0))⟩, ⟨(some 7), none, .pick (.t 4) (.t 6) (.c (.bool false))⟩, ⟨(some 2), none, .mov (.t 7)⟩])
.ret))
theorem tr54 : trFn Try.prog Try.f54 = some (8, ir54, [.tmp 2]) := by kernel_rfl

/-- loop.example/g01230/impl.isLinear -/
def ir55 : Cd :=
(.seq
(.reg [⟨(some 8), none, .mov (.c (.bool false))⟩])
(.seq
(.seq
(.reg [⟨(some 11), none, .mov (.t 3)⟩, ⟨(some 12), none, .mov (.c (.int .i64 0))⟩])
(.block 0
(.loop
(.seq
(.reg [⟨(some 13), none, .bin .lss (.t 12) (.c (.int .i64 8))⟩])
(.seq
(.cond (.t 13)
.skip
(.exit 0))
(.seq
(.block 1
(.seq
(.mix [⟨(some 14), none, .mov (.t 12)⟩, ⟨(some 15), none, .ck (.t 11)⟩, ⟨(some 16), none, .ia 8 8 (.t 15) (.t 12)⟩, ⟨(some 17), none, .ld (some 8) (.t 16)⟩] [⟨(some 10), none, .new 27 [(8, (.int .u8 0))]⟩, ⟨(some 9), none, .mov (.t 14)⟩, ⟨none, none, .st 8 (.t 10) (.t 17)⟩])
(.seq
(.reg [⟨(some 18), none, .mov (.t 0)⟩, ⟨(some 19), none, .mov (.t 2)⟩, ⟨(some 20), none, .ld (some 8) (.t 10)⟩, ⟨(some 21), none, .call 77 [(.t 18), (.t 19), (.t 20)]⟩, ⟨(some 22), none, .un .not (.t 21)⟩, ⟨(some 23), none, .mov (.t 22)⟩, ⟨(some 24), (some (23, false)), .mov (.t 9)⟩, ⟨(some 25), (some (23, false)), .mov (.t 1)⟩, ⟨(some 26), (some (23, false)), .bin .geq (.t 24) (.t 25)⟩, ⟨(some 27), (some (23, false)), .mov (.t 26)⟩, ⟨(some 28), (some (27, true)), .ld (some 8) (.t 10)⟩, ⟨(some 29), (some (27, true)), .build 8 [(8, (.int .u8 0))] []⟩, ⟨(some 30), (some (27, true)), .eqa true 8 (.t 28) (.t 29)⟩, ⟨(some 31), (some (23, false)), .pick (.t 27) (.t 30) (.c (.bool false))⟩, ⟨(some 32), none, .pick (.t 23) (.c (.bool true)) (.t 31)⟩])
(.cond (.t 32)
(.seq
(.reg [⟨(some 8), none, .mov (.c (.bool false))⟩])
.ret)
.skip))))
(.reg [⟨(some 33), none, .bin .add (.t 12) (.c (.int .i64 1))⟩, ⟨(some 12), none, .mov (.t 33)⟩])))))))
(.seq
(.reg [⟨(some 8), none, .mov (.c (.bool true))⟩])
.ret)))
theorem tr55 : trFn Try.prog Try.f55 = some (34, ir55, [.tmp 8]) := by kernel_rfl

/-- loop.example/g01230/impl.unless -/
def ir56 : Cd :=
(.seq
(.reg [⟨(some 4), none, .mov (.c (.int .i64 0))⟩])
(.seq
(.seq
(.reg [⟨(some 5), none, .mov (.t 0)⟩])
(.cond (.t 5)
(.seq
(.reg [⟨(some 4), none, .mov (.c (.int .i64 0))⟩])
.ret)
.skip))
(.seq
(.reg [⟨(some 6), none, .mov (.t 1)⟩, ⟨(some 4), none, .mov (.t 6)⟩])
.ret)))
theorem tr56 : trFn Try.prog Try.f56 = some (7, ir56, [.tmp 4]) := by kernel_rfl

/-- (*loop.example/g01230/impl.Hopf).split -/
def ir57 : Cd :=
(.seq
(.reg [⟨(some 4), none, .box 52 (.t 0)⟩, ⟨(some 6), none, .box 3 (.t 2)⟩, ⟨(some 7), none, .box 81 (.t 3)⟩])
(.seq
(.reg [⟨(some 9), none, .ld none (.t 4)⟩, ⟨(some 10), none, .ck (.t 9)⟩, ⟨(some 11), none, .fa 0 (.t 10)⟩, ⟨(some 12), none, .ld none (.t 11)⟩, ⟨(some 8), none, .new 3 [(1, (.int .i64 0))]⟩, ⟨none, none, .st 1 (.t 8) (.t 12)⟩])
(.reg [⟨(some 13), none, .ld none (.t 4)⟩, ⟨(some 14), none, .mov (.t 1)⟩, ⟨(some 15), none, .ck (.t 13)⟩, ⟨(some 16), none, .fa 530 (.t 15)⟩, ⟨(some 17), none, .ia 8 64 (.t 16) (.t 14)⟩, ⟨(some 18), none, .mkf 78 [] [(.t 4), (.t 6), (.t 7), (.t 8)]⟩, ⟨(some 19), none, .call 36 [(.t 17), (.t 18)]⟩])))
theorem tr57 : trFn Try.prog Try.f57 = some (20, ir57, []) := by kernel_rfl

/-- (*loop.example/g01230/impl.Hopf).convolved$1 -/
def ir58 : Cd :=
(.drw true [24] [⟨(some 14), none, .ld none (.t 5)⟩, ⟨(some 15), none, .mov (.t 4)⟩, ⟨(some 16), none, .ld none (.t 6)⟩, ⟨(some 17), none, .mov (.t 0)⟩, ⟨(some 18), none, .mov (.t 2)⟩, ⟨(some 19), none, .ck (.t 16)⟩, ⟨(some 20), none, .ia 8 8 (.t 19) (.t 17)⟩, ⟨(some 21), none, .ia 8 1 (.t 20) (.t 18)⟩, ⟨(some 22), none, .ld none (.t 21)⟩, ⟨(some 23), none, .cv .i64 (.t 22)⟩, ⟨(some 24), none, .bin .mul (.t 15) (.t 23)⟩, ⟨(some 25), none, .fa 0 (.t 7)⟩, ⟨(some 26), none, .ld none (.t 25)⟩, ⟨(some 27), none, .bin .rem (.t 24) (.t 26)⟩, ⟨(some 28), none, .ld none (.t 8)⟩, ⟨(some 29), none, .mov (.t 1)⟩, ⟨(some 30), none, .mov (.t 3)⟩, ⟨(some 31), none, .ck (.t 28)⟩, ⟨(some 32), none, .ia 8 8 (.t 31) (.t 29)⟩, ⟨(some 33), none, .ia 8 1 (.t 32) (.t 30)⟩, ⟨(some 34), none, .ld none (.t 33)⟩, ⟨(some 35), none, .cv .i64 (.t 34)⟩, ⟨(some 36), none, .bin .mul (.t 27) (.t 35)⟩, ⟨(some 37), none, .bin .add (.t 14) (.t 36)⟩, ⟨none, none, .st 1 (.t 5) (.t 37)⟩])
theorem tr58 : trFn Try.prog Try.f58 = some (38, ir58, []) := by kernel_rfl

/-- (loop.example/g01230/impl.field).mod -/
def ir59 : Cd :=
(.seq
(.reg [⟨(some 2), none, .box 60 (.t 0)⟩, ⟨(some 4), none, .mov (.c (.int .u8 0))⟩])
(.seq
(.reg [⟨(some 5), none, .mov (.t 1)⟩, ⟨(some 6), none, .fa 0 (.t 2)⟩, ⟨(some 7), none, .ld none (.t 6)⟩, ⟨(some 8), none, .bin .rem (.t 5) (.t 7)⟩, ⟨(some 1), none, .mov (.t 8)⟩])
(.seq
(.seq
(.reg [⟨(some 9), none, .mov (.t 1)⟩, ⟨(some 10), none, .bin .lss (.t 9) (.c (.int .i64 0))⟩])
(.cond (.t 10)
(.reg [⟨(some 11), none, .mov (.t 1)⟩, ⟨(some 12), none, .fa 0 (.t 2)⟩, ⟨(some 13), none, .ld none (.t 12)⟩, ⟨(some 14), none, .bin .add (.t 11) (.t 13)⟩, ⟨(some 1), none, .mov (.t 14)⟩])
.skip))
(.seq
(.reg [⟨(some 15), none, .mov (.t 1)⟩, ⟨(some 16), none, .cv .u8 (.t 15)⟩, ⟨(some 4), none, .mov (.t 16)⟩])
.ret))))
theorem tr59 : trFn Try.prog Try.f59 = some (17, ir59, [.tmp 4]) := by kernel_rfl

/-- (*loop.example/g01230/impl.Hopf).multiplies$1 -/
def ir60 : Cd :=
(.drw true [24] [⟨(some 11), none, .ld none (.t 3)⟩, ⟨(some 12), none, .mov (.t 2)⟩, ⟨(some 13), none, .ld none (.t 4)⟩, ⟨(some 14), none, .ld none (.t 5)⟩, ⟨(some 15), none, .mov (.t 0)⟩, ⟨(some 16), none, .ck (.t 13)⟩, ⟨(some 17), none, .ia 8 8 (.t 16) (.t 14)⟩, ⟨(some 18), none, .ia 8 1 (.t 17) (.t 15)⟩, ⟨(some 19), none, .ld none (.t 18)⟩, ⟨(some 20), none, .cv .i64 (.t 19)⟩, ⟨(some 21), none, .bin .mul (.t 12) (.t 20)⟩, ⟨(some 22), none, .fa 0 (.t 6)⟩, ⟨(some 23), none, .ld none (.t 22)⟩, ⟨(some 24), none, .bin .rem (.t 21) (.t 23)⟩, ⟨(some 25), none, .ld none (.t 4)⟩, ⟨(some 26), none, .ld none (.t 7)⟩, ⟨(some 27), none, .mov (.t 1)⟩, ⟨(some 28), none, .ck (.t 25)⟩, ⟨(some 29), none, .ia 8 8 (.t 28) (.t 26)⟩, ⟨(some 30), none, .ia 8 1 (.t 29) (.t 27)⟩, ⟨(some 31), none, .ld none (.t 30)⟩, ⟨(some 32), none, .cv .i64 (.t 31)⟩, ⟨(some 33), none, .bin .mul (.t 24) (.t 32)⟩, ⟨(some 34), none, .bin .add (.t 11) (.t 33)⟩, ⟨none, none, .st 1 (.t 3) (.t 34)⟩])
theorem tr60 : trFn Try.prog Try.f60 = some (35, ir60, []) := by kernel_rfl

/-- (loop.example/g01230/impl.field).dot -/
def ir61 : Cd :=
(.seq
(.reg [⟨(some 3), none, .box 60 (.t 0)⟩, ⟨(some 4), none, .box 27 (.t 1)⟩, ⟨(some 5), none, .box 27 (.t 2)⟩, ⟨(some 6), none, .mov (.c (.int .i64 0))⟩])
(.seq
(.reg [⟨(some 7), none, .mov (.c (.int .i64 0))⟩])
(.seq
(.seq
(.reg [⟨(some 10), none, .ld (some 8) (.t 4)⟩, ⟨(some 11), none, .mov (.c (.int .i64 0))⟩])
(.block 0
(.loop
(.seq
(.reg [⟨(some 12), none, .bin .lss (.t 11) (.c (.int .i64 8))⟩])
(.seq
(.cond (.t 12)
.skip
(.exit 0))
(.seq
(.block 1
(.seq
(.reg [⟨(some 13), none, .mov (.t 11)⟩, ⟨(some 14), none, .ix 8 1 none (.t 10) (.t 11)⟩, ⟨(some 8), none, .mov (.t 13)⟩, ⟨(some 9), none, .mov (.t 14)⟩])
(.reg [⟨(some 15), none, .mov (.t 7)⟩, ⟨(some 16), none, .mov (.t 9)⟩, ⟨(some 17), none, .cv .i64 (.t 16)⟩, ⟨(some 18), none, .mov (.t 8)⟩, ⟨(some 19), none, .ia 8 1 (.t 5) (.t 18)⟩, ⟨(some 20), none, .ld none (.t 19)⟩, ⟨(some 21), none, .cv .i64 (.t 20)⟩, ⟨(some 22), none, .bin .mul (.t 17) (.t 21)⟩, ⟨(some 23), none, .bin .add (.t 15) (.t 22)⟩, ⟨(some 7), none, .mov (.t 23)⟩])))
(.reg [⟨(some 24), none, .bin .add (.t 11) (.c (.int .i64 1))⟩, ⟨(some 11), none, .mov (.t 24)⟩])))))))
(.seq
(.reg [⟨(some 25), none, .mov (.t 7)⟩, ⟨(some 26), none, .fa 0 (.t 3)⟩, ⟨(some 27), none, .ld none (.t 26)⟩, ⟨(some 28), none, .bin .rem (.t 25) (.t 27)⟩, ⟨(some 6), none, .mov (.t 28)⟩])
.ret))))
theorem tr61 : trFn Try.prog Try.f61 = some (29, ir61, [.tmp 6]) := by kernel_rfl

/-- (loop.example/g01230/impl.field).apply -/
def ir62 : Cd :=
(.seq
(.reg [⟨(some 3), none, .box 60 (.t 0)⟩, ⟨(some 5), none, .box 27 (.t 2)⟩, ⟨(some 6), none, .new 27 [(8, (.int .u8 0))]⟩])
(.seq
(.reg [⟨(some 10), none, .build 8 [(8, (.int .u8 0))] []⟩, ⟨(some 7), none, .new 27 [(8, (.int .u8 0))]⟩, ⟨none, none, .st 8 (.t 7) (.t 10)⟩])
(.seq
(.seq
(.reg [⟨(some 11), none, .ld (some 8) (.t 5)⟩, ⟨(some 12), none, .mov (.c (.int .i64 0))⟩])
(.block 0
(.loop
(.seq
(.reg [⟨(some 13), none, .bin .lss (.t 12) (.c (.int .i64 8))⟩])
(.seq
(.cond (.t 13)
.skip
(.exit 0))
(.seq
(.block 1
(.seq
(.reg [⟨(some 14), none, .mov (.t 12)⟩, ⟨(some 15), none, .ix 8 1 none (.t 11) (.t 12)⟩, ⟨(some 8), none, .mov (.t 14)⟩, ⟨(some 9), none, .mov (.t 15)⟩])
(.drw true [8] [⟨(some 16), none, .ld (some 2) (.t 3)⟩, ⟨(some 17), none, .mov (.t 9)⟩, ⟨(some 18), none, .cv .i64 (.t 17)⟩, ⟨(some 19), none, .mov (.t 1)⟩, ⟨(some 20), none, .mov (.t 8)⟩, ⟨(some 21), none, .ck (.t 19)⟩, ⟨(some 22), none, .ia 8 8 (.t 21) (.t 20)⟩, ⟨(some 23), none, .ld (some 8) (.t 22)⟩, ⟨(some 24), none, .call 71 [(.t 16), (.t 7), (.t 18), (.t 23)]⟩])))
(.reg [⟨(some 25), none, .bin .add (.t 12) (.c (.int .i64 1))⟩, ⟨(some 12), none, .mov (.t 25)⟩])))))))
(.seq
(.reg [⟨(some 26), none, .ld (some 8) (.t 7)⟩, ⟨none, none, .st 8 (.t 6) (.t 26)⟩])
.ret))))
theorem tr62 : trFn Try.prog Try.f62 = some (27, ir62, [.cell (some 8) 6]) := by kernel_rfl

/-- loop.example/g01230/spec.l10Product -/
def ir63 : Cd :=
(.seq
(.reg [⟨(some 4), none, .box 35 (.t 0)⟩, ⟨(some 5), none, .box 29 (.t 1)⟩, ⟨(some 8), none, .new 27 [(8, (.int .u8 0))]⟩])
(.seq
(.mix [⟨(some 16), none, .build 8 [(8, (.int .u8 0))] []⟩, ⟨(some 17), none, .fa 1 (.t 4)⟩, ⟨(some 18), none, .ld none (.t 17)⟩] [⟨(some 9), none, .new 27 [(8, (.int .u8 0))]⟩, ⟨none, none, .st 8 (.t 9) (.t 16)⟩, ⟨(some 10), none, .mov (.t 18)⟩])
(.seq
(.seq
(.reg [⟨(some 11), none, .mov (.c (.int .i64 0))⟩])
(.block 0
(.loop
(.seq
(.seq
(.reg [⟨(some 19), none, .mov (.t 11)⟩, ⟨(some 20), none, .mov (.t 10)⟩, ⟨(some 21), none, .bin .lss (.t 19) (.t 20)⟩])
(.cond (.t 21)
.skip
(.exit 0)))
(.seq
(.block 1
(.seq
(.reg [⟨(some 12), none, .mov (.c (.int .i64 0))⟩])
(.block 2
(.loop
(.seq
(.seq
(.reg [⟨(some 24), none, .mov (.t 12)⟩, ⟨(some 25), none, .mov (.t 10)⟩, ⟨(some 26), none, .bin .lss (.t 24) (.t 25)⟩])
(.cond (.t 26)
.skip
(.exit 2)))
(.seq
(.block 3
(.seq
(.seq
(.reg [⟨(some 29), none, .mov (.t 2)⟩, ⟨(some 30), none, .mov (.t 11)⟩, ⟨(some 31), none, .mov (.t 12)⟩, ⟨(some 32), none, .fa 530 (.t 4)⟩, ⟨(some 33), none, .ia 8 64 (.t 32) (.t 29)⟩, ⟨(some 34), none, .ia 8 8 (.t 33) (.t 30)⟩, ⟨(some 35), none, .ia 8 1 (.t 34) (.t 31)⟩, ⟨(some 36), none, .ld none (.t 35)⟩, ⟨(some 37), none, .bin .eql (.t 36) (.c (.int .u8 0))⟩])
(.cond (.t 37)
(.exit 3)
.skip))
(.seq
(.reg [⟨(some 13), none, .mov (.c (.int .i64 0))⟩])
(.block 4
(.loop
(.seq
(.seq
(.reg [⟨(some 38), none, .mov (.t 13)⟩, ⟨(some 39), none, .mov (.t 10)⟩, ⟨(some 40), none, .bin .lss (.t 38) (.t 39)⟩])
(.cond (.t 40)
.skip
(.exit 4)))
(.seq
(.block 5
(.seq
(.reg [⟨(some 14), none, .mov (.c (.int .i64 0))⟩])
(.block 6
(.loop
(.seq
(.seq
(.reg [⟨(some 43), none, .mov (.t 14)⟩, ⟨(some 44), none, .mov (.t 10)⟩, ⟨(some 45), none, .bin .lss (.t 43) (.t 44)⟩])
(.cond (.t 45)
.skip
(.exit 6)))
(.seq
(.block 7
(.seq
(.drw true [] [⟨(some 48), none, .mov (.t 2)⟩, ⟨(some 49), none, .mov (.t 11)⟩, ⟨(some 50), none, .mov (.t 12)⟩, ⟨(some 51), none, .fa 530 (.t 4)⟩, ⟨(some 52), none, .ia 8 64 (.t 51) (.t 48)⟩, ⟨(some 53), none, .ia 8 8 (.t 52) (.t 49)⟩, ⟨(some 54), none, .ia 8 1 (.t 53) (.t 50)⟩, ⟨(some 55), none, .ld none (.t 54)⟩, ⟨(some 56), none, .cv .i64 (.t 55)⟩, ⟨(some 57), none, .mov (.t 3)⟩, ⟨(some 58), none, .mov (.t 13)⟩, ⟨(some 59), none, .mov (.t 14)⟩, ⟨(some 60), none, .fa 530 (.t 4)⟩, ⟨(some 61), none, .ia 8 64 (.t 60) (.t 57)⟩, ⟨(some 62), none, .ia 8 8 (.t 61) (.t 58)⟩, ⟨(some 63), none, .ia 8 1 (.t 62) (.t 59)⟩, ⟨(some 64), none, .ld none (.t 63)⟩, ⟨(some 65), none, .cv .i64 (.t 64)⟩, ⟨(some 66), none, .bin .mul (.t 56) (.t 65)⟩, ⟨(some 67), none, .fa 0 (.t 4)⟩, ⟨(some 68), none, .ld none (.t 67)⟩, ⟨(some 69), none, .bin .rem (.t 66) (.t 68)⟩, ⟨(some 70), none, .mov (.t 11)⟩, ⟨(some 71), none, .mov (.t 13)⟩, ⟨(some 72), none, .ia 8 8 (.t 5) (.t 70)⟩, ⟨(some 73), none, .ia 8 1 (.t 72) (.t 71)⟩, ⟨(some 74), none, .ld none (.t 73)⟩, ⟨(some 75), none, .cv .i64 (.t 74)⟩, ⟨(some 76), none, .bin .mul (.t 69) (.t 75)⟩, ⟨(some 77), none, .fa 0 (.t 4)⟩, ⟨(some 78), none, .ld none (.t 77)⟩, ⟨(some 79), none, .bin .rem (.t 76) (.t 78)⟩, ⟨(some 15), none, .mov (.t 79)⟩])
(.seq
(.reg [⟨(some 80), none, .mov (.t 15)⟩, ⟨(some 81), none, .bin .neq (.t 80) (.c (.int .i64 0))⟩])
(.cond (.t 81)
(.drw true [10, 11] [⟨(some 82), none, .fa 0 (.t 4)⟩, ⟨(some 83), none, .ld none (.t 82)⟩, ⟨(some 84), none, .ld (some 8) (.t 9)⟩, ⟨(some 85), none, .mov (.t 12)⟩, ⟨(some 86), none, .mov (.t 14)⟩, ⟨(some 87), none, .fa 10 (.t 4)⟩, ⟨(some 88), none, .ia 8 64 (.t 87) (.t 85)⟩, ⟨(some 89), none, .ia 8 8 (.t 88) (.t 86)⟩, ⟨(some 90), none, .ld (some 8) (.t 89)⟩, ⟨(some 91), none, .mov (.t 15)⟩, ⟨(some 92), none, .call 68 [(.t 83), (.t 84), (.t 90), (.t 91)]⟩, ⟨none, none, .st 8 (.t 9) (.t 92)⟩])
.skip))))
(.reg [⟨(some 46), none, .mov (.t 14)⟩, ⟨(some 47), none, .bin .add (.t 46) (.c (.int .i64 1))⟩, ⟨(some 14), none, .mov (.t 47)⟩])))))))
(.reg [⟨(some 41), none, .mov (.t 13)⟩, ⟨(some 42), none, .bin .add (.t 41) (.c (.int .i64 1))⟩, ⟨(some 13), none, .mov (.t 42)⟩]))))))))
(.reg [⟨(some 27), none, .mov (.t 12)⟩, ⟨(some 28), none, .bin .add (.t 27) (.c (.int .i64 1))⟩, ⟨(some 12), none, .mov (.t 28)⟩])))))))
(.reg [⟨(some 22), none, .mov (.t 11)⟩, ⟨(some 23), none, .bin .add (.t 22) (.c (.int .i64 1))⟩, ⟨(some 11), none, .mov (.t 23)⟩]))))))
(.seq
(.reg [⟨(some 93), none, .ld (some 8) (.t 9)⟩, ⟨none, none, .st 8 (.t 8) (.t 93)⟩])
.ret))))
theorem tr63 : trFn Try.prog Try.f63 = some (94, ir63, [.cell (some 8) 8]) := by kernel_rfl

/-- (*loop.example/g01230/impl.Hopf).legProduct -/
def ir64 : Cd :=
(.seq
(.reg [⟨(some 4), none, .box 52 (.t 0)⟩, ⟨(some 5), none, .box 53 (.t 1)⟩, ⟨(some 8), none, .new 27 [(8, (.int .u8 0))]⟩])
(.seq
(.reg [⟨(some 11), none, .ld none (.t 4)⟩, ⟨(some 12), none, .call 35 [(.t 11)]⟩, ⟨(some 13), none, .build 8 [(8, (.int .u8 0))] []⟩, ⟨(some 9), none, .new 60 [(2, (.int .i64 0))]⟩, ⟨(some 10), none, .new 27 [(8, (.int .u8 0))]⟩, ⟨none, none, .st 2 (.t 9) (.t 12)⟩, ⟨none, none, .st 8 (.t 10) (.t 13)⟩])
(.seq
(.reg [⟨(some 14), none, .ld none (.t 4)⟩, ⟨(some 15), none, .mov (.t 2)⟩, ⟨(some 16), none, .mov (.t 3)⟩, ⟨(some 17), none, .mkf 80 [] [(.t 9), (.t 10), (.t 5), (.t 4)]⟩, ⟨(some 18), none, .call 57 [(.t 14), (.t 15), (.t 16), (.t 17)]⟩])
(.seq
(.reg [⟨(some 19), none, .ld (some 8) (.t 10)⟩, ⟨none, none, .st 8 (.t 8) (.t 19)⟩])
.ret))))
theorem tr64 : trFn Try.prog Try.f64 = some (20, ir64, [.cell (some 8) 8]) := by kernel_rfl

end Go.Proofs.Ytnkmpelakhhoiab

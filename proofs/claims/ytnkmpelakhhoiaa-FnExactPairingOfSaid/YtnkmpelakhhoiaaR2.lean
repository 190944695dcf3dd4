/- The short form of each function, and that it is one. -/
import Derived.Test.YtnkmpelakhhoiaaProg
import Derived.Test.YtnkmpelakhhoiaaVI
import Derived.KernelRfl
namespace Go.Proofs.Ytnkmpelakhhoiaa
open Go.V
set_option maxRecDepth 100000

/-- (*loop.example/g01230/impl.Hopf).axiom5 -/
def ir82 : Cd :=
(.seq
(.reg [⟨(some 2), none, .mov (.c (.bool false))⟩])
(.seq
(.reg [⟨(some 6), none, .mov (.t 0)⟩, ⟨(some 7), none, .call 44 [(.t 6)]⟩, ⟨(some 3), none, .new 75 [(2, (.int .i64 0))]⟩, ⟨none, none, .st 2 (.t 3) (.t 7)⟩])
(.seq
(.seq
(.reg [⟨(some 8), none, .fa 1 (.t 3)⟩, ⟨(some 9), none, .ld none (.t 8)⟩, ⟨(some 10), none, .mov (.c (.int .i64 0))⟩])
(.block 0
(.loop
(.seq
(.reg [⟨(some 11), none, .bin .lss (.t 10) (.t 9)⟩])
(.seq
(.cond (.t 11)
.skip
(.exit 0))
(.seq
(.block 1
(.seq
(.reg [⟨(some 12), none, .mov (.t 10)⟩, ⟨(some 4), none, .mov (.t 12)⟩])
(.seq
(.reg [⟨(some 13), none, .fa 1 (.t 3)⟩, ⟨(some 14), none, .ld none (.t 13)⟩, ⟨(some 15), none, .mov (.c (.int .i64 0))⟩])
(.block 2
(.loop
(.seq
(.reg [⟨(some 16), none, .bin .lss (.t 15) (.t 14)⟩])
(.seq
(.cond (.t 16)
.skip
(.exit 2))
(.seq
(.block 3
(.seq
(.reg [⟨(some 17), none, .mov (.t 15)⟩, ⟨(some 5), none, .mov (.t 17)⟩])
(.seq
(.drw true [] [⟨(some 18), none, .mov (.t 0)⟩, ⟨(some 19), none, .mov (.t 0)⟩, ⟨(some 20), none, .mov (.t 4)⟩, ⟨(some 21), none, .mov (.t 5)⟩, ⟨(some 22), none, .ck (.t 19)⟩, ⟨(some 23), none, .fa 10 (.t 22)⟩, ⟨(some 24), none, .ia 8 64 (.t 23) (.t 20)⟩, ⟨(some 25), none, .ia 8 8 (.t 24) (.t 21)⟩, ⟨(some 26), none, .ld (some 8) (.t 25)⟩, ⟨(some 27), none, .call 110 [(.t 18), (.t 26)]⟩, ⟨(some 28), none, .mov (.t 0)⟩, ⟨(some 29), none, .mov (.t 4)⟩, ⟨(some 30), none, .ck (.t 28)⟩, ⟨(some 31), none, .fa 522 (.t 30)⟩, ⟨(some 32), none, .ia 8 1 (.t 31) (.t 29)⟩, ⟨(some 33), none, .ld none (.t 32)⟩, ⟨(some 34), none, .cv .i64 (.t 33)⟩, ⟨(some 35), none, .mov (.t 0)⟩, ⟨(some 36), none, .mov (.t 5)⟩, ⟨(some 37), none, .ck (.t 35)⟩, ⟨(some 38), none, .fa 522 (.t 37)⟩, ⟨(some 39), none, .ia 8 1 (.t 38) (.t 36)⟩, ⟨(some 40), none, .ld none (.t 39)⟩, ⟨(some 41), none, .cv .i64 (.t 40)⟩, ⟨(some 42), none, .bin .mul (.t 34) (.t 41)⟩, ⟨(some 43), none, .fa 0 (.t 3)⟩, ⟨(some 44), none, .ld none (.t 43)⟩, ⟨(some 45), none, .bin .rem (.t 42) (.t 44)⟩, ⟨(some 46), none, .bin .neq (.t 27) (.t 45)⟩])
(.cond (.t 46)
(.seq
(.reg [⟨(some 2), none, .mov (.c (.bool false))⟩])
.ret)
.skip))))
(.reg [⟨(some 47), none, .bin .add (.t 15) (.c (.int .i64 1))⟩, ⟨(some 15), none, .mov (.t 47)⟩])))))))))
(.reg [⟨(some 48), none, .bin .add (.t 10) (.c (.int .i64 1))⟩, ⟨(some 10), none, .mov (.t 48)⟩])))))))
(.seq
(.reg [⟨(some 49), none, .mov (.t 0)⟩, ⟨(some 50), none, .mov (.t 0)⟩, ⟨(some 51), none, .ck (.t 50)⟩, ⟨(some 52), none, .fa 2 (.t 51)⟩, ⟨(some 53), none, .ld (some 8) (.t 52)⟩, ⟨(some 54), none, .call 110 [(.t 49), (.t 53)]⟩, ⟨(some 55), none, .bin .eql (.t 54) (.c (.int .i64 1))⟩, ⟨(some 2), none, .mov (.t 55)⟩])
.ret))))
theorem tr82 : trFn Try.prog Try.f82 = some (56, ir82, [.tmp 2]) := by kernel_rfl

/-- (*loop.example/g01230/impl.Hopf).fails$3 -/
def ir83 : Cd :=
(.seq
(.reg [⟨(some 1), none, .mov (.c (.bool false))⟩])
(.seq
(.reg [⟨(some 2), none, .ld none (.t 0)⟩, ⟨(some 3), none, .call 84 [(.t 2), (.c (.bool true))]⟩, ⟨(some 1), none, .mov (.t 3)⟩])
.ret))
theorem tr83 : trFn Try.prog Try.f83 = some (4, ir83, [.tmp 1]) := by kernel_rfl

/-- (*loop.example/g01230/impl.Hopf).axiomS -/
def ir84 : Cd :=
(.seq
(.reg [⟨(some 4), none, .mov (.c (.bool false))⟩])
(.seq
(.reg [⟨(some 7), none, .mov (.t 0)⟩, ⟨(some 8), none, .call 44 [(.t 7)]⟩, ⟨(some 5), none, .new 75 [(2, (.int .i64 0))]⟩, ⟨none, none, .st 2 (.t 5) (.t 8)⟩])
(.seq
(.seq
(.reg [⟨(some 9), none, .fa 1 (.t 5)⟩, ⟨(some 10), none, .ld none (.t 9)⟩, ⟨(some 11), none, .mov (.c (.int .i64 0))⟩])
(.block 0
(.loop
(.seq
(.reg [⟨(some 12), none, .bin .lss (.t 11) (.t 10)⟩])
(.seq
(.cond (.t 12)
.skip
(.exit 0))
(.seq
(.block 1
(.seq
(.reg [⟨(some 13), none, .mov (.t 11)⟩, ⟨(some 6), none, .mov (.t 13)⟩])
(.seq
(.drw true [16] [⟨(some 14), none, .mov (.t 0)⟩, ⟨(some 15), none, .mov (.t 6)⟩, ⟨(some 16), none, .mov (.t 1)⟩, ⟨(some 17), none, .call 111 [(.t 14), (.t 15), (.t 16)]⟩, ⟨(some 18), none, .ld (some 2) (.t 5)⟩, ⟨(some 19), none, .mov (.t 0)⟩, ⟨(some 20), none, .mov (.t 6)⟩, ⟨(some 21), none, .ck (.t 19)⟩, ⟨(some 22), none, .fa 522 (.t 21)⟩, ⟨(some 23), none, .ia 8 1 (.t 22) (.t 20)⟩, ⟨(some 24), none, .ld none (.t 23)⟩, ⟨(some 25), none, .cv .i64 (.t 24)⟩, ⟨(some 26), none, .mov (.t 0)⟩, ⟨(some 27), none, .ck (.t 26)⟩, ⟨(some 28), none, .fa 2 (.t 27)⟩, ⟨(some 29), none, .ld (some 8) (.t 28)⟩, ⟨(some 30), none, .call 90 [(.t 18), (.t 25), (.t 29)]⟩, ⟨(some 31), none, .eqa true 8 (.t 17) (.t 30)⟩])
(.cond (.t 31)
(.seq
(.reg [⟨(some 4), none, .mov (.c (.bool false))⟩])
.ret)
.skip))))
(.reg [⟨(some 32), none, .bin .add (.t 11) (.c (.int .i64 1))⟩, ⟨(some 11), none, .mov (.t 32)⟩])))))))
(.seq
(.reg [⟨(some 4), none, .mov (.c (.bool true))⟩])
.ret))))
theorem tr84 : trFn Try.prog Try.f84 = some (33, ir84, [.tmp 4]) := by kernel_rfl

/-- (*loop.example/g01230/impl.Hopf).fails$4 -/
def ir85 : Cd :=
(.seq
(.reg [⟨(some 1), none, .mov (.c (.bool false))⟩])
(.seq
(.reg [⟨(some 2), none, .ld none (.t 0)⟩, ⟨(some 3), none, .call 84 [(.t 2), (.c (.bool false))]⟩, ⟨(some 1), none, .mov (.t 3)⟩])
.ret))
theorem tr85 : trFn Try.prog Try.f85 = some (4, ir85, [.tmp 1]) := by kernel_rfl

/-- slices.IndexFunc[[]loop.example/g01230/impl.Vector,loop.example/g01230/impl.Vector] -/
def ir86 : Cd :=
(.seq
(.reg [⟨(some 4), none, .mov (.c (.int .i64 0))⟩])
(.seq
(.seq
(.reg [⟨(some 6), none, .mov (.t 0)⟩, ⟨(some 7), none, .len (.t 6)⟩, ⟨(some 8), none, .mov (.c (.int .i64 0))⟩])
(.block 0
(.loop
(.seq
(.reg [⟨(some 9), none, .bin .lss (.t 8) (.t 7)⟩])
(.seq
(.cond (.t 9)
.skip
(.exit 0))
(.seq
(.block 1
(.seq
(.reg [⟨(some 10), none, .mov (.t 8)⟩, ⟨(some 5), none, .mov (.t 10)⟩])
(.seq
(.reg [⟨(some 11), none, .mov (.t 1)⟩, ⟨(some 12), none, .mov (.t 0)⟩, ⟨(some 13), none, .mov (.t 5)⟩, ⟨(some 14), none, .isl 8 (.t 12) (.t 13)⟩, ⟨(some 15), none, .ld (some 8) (.t 14)⟩, ⟨(some 16), none, .callv (.t 11) [(.t 15)]⟩])
(.cond (.t 16)
(.seq
(.reg [⟨(some 17), none, .mov (.t 5)⟩, ⟨(some 4), none, .mov (.t 17)⟩])
.ret)
.skip))))
(.reg [⟨(some 18), none, .bin .add (.t 8) (.c (.int .i64 1))⟩, ⟨(some 8), none, .mov (.t 18)⟩])))))))
(.seq
(.reg [⟨(some 4), none, .mov (.c (.int .i64 (-1)))⟩])
.ret)))
theorem tr86 : trFn Try.prog Try.f86 = some (19, ir86, [.tmp 4]) := by kernel_rfl

/-- loop.example/g01230/impl.IsPrime -/
def ir87 : Cd :=
(.seq
(.reg [⟨(some 2), none, .mov (.c (.bool false))⟩])
(.seq
(.seq
(.reg [⟨(some 4), none, .mov (.t 0)⟩, ⟨(some 5), none, .bin .lss (.t 4) (.c (.int .i64 2))⟩, ⟨(some 6), none, .mov (.t 5)⟩, ⟨(some 7), (some (6, false)), .mov (.t 0)⟩, ⟨(some 8), (some (6, false)), .bin .gtr (.t 7) (.c (.int .i64 31))⟩, ⟨(some 9), none, .pick (.t 6) (.c (.bool true)) (.t 8)⟩])
(.cond (.t 9)
(.seq
(.reg [⟨(some 2), none, .mov (.c (.bool false))⟩])
.ret)
.skip))
(.seq
(.seq
(.reg [⟨(some 3), none, .mov (.c (.int .i64 2))⟩])
(.block 0
(.loop
(.seq
(.seq
(.reg [⟨(some 10), none, .mov (.t 3)⟩, ⟨(some 11), none, .mov (.t 3)⟩, ⟨(some 12), none, .bin .mul (.t 10) (.t 11)⟩, ⟨(some 13), none, .mov (.t 0)⟩, ⟨(some 14), none, .bin .leq (.t 12) (.t 13)⟩])
(.cond (.t 14)
.skip
(.exit 0)))
(.seq
(.block 1
(.seq
(.reg [⟨(some 17), none, .mov (.t 0)⟩, ⟨(some 18), none, .mov (.t 3)⟩, ⟨(some 19), none, .bin .rem (.t 17) (.t 18)⟩, ⟨(some 20), none, .bin .eql (.t 19) (.c (.int .i64 0))⟩])
(.cond (.t 20)
(.seq
(.reg [⟨(some 2), none, .mov (.c (.bool false))⟩])
.ret)
.skip)))
(.reg [⟨(some 15), none, .mov (.t 3)⟩, ⟨(some 16), none, .bin .add (.t 15) (.c (.int .i64 1))⟩, ⟨(some 3), none, .mov (.t 16)⟩]))))))
(.seq
(.reg [⟨(some 2), none, .mov (.c (.bool true))⟩])
.ret))))
theorem tr87 : trFn Try.prog Try.f87 = some (21, ir87, [.tmp 2]) := by kernel_rfl

/-- loop.example/g01230/impl.in -/
def ir88 : Cd :=
(.seq
(.reg [⟨(some 6), none, .mov (.c (.bool false))⟩])
(.seq
(.reg [⟨(some 7), none, .mov (.t 1)⟩, ⟨(some 8), none, .mov (.t 0)⟩, ⟨(some 9), none, .bin .leq (.t 7) (.t 8)⟩, ⟨(some 10), none, .mov (.t 9)⟩, ⟨(some 11), (some (10, true)), .mov (.t 0)⟩, ⟨(some 12), (some (10, true)), .mov (.t 2)⟩, ⟨(some 13), (some (10, true)), .bin .leq (.t 11) (.t 12)⟩, ⟨(some 14), none, .pick (.t 10) (.t 13) (.c (.bool false))⟩, ⟨(some 6), none, .mov (.t 14)⟩])
.ret))
theorem tr88 : trFn Try.prog Try.f88 = some (15, ir88, [.tmp 6]) := by kernel_rfl

/-- loop.example/g01230/spec.l01Mod -/
def ir89 : Cd :=
(.seq
(.reg [⟨(some 4), none, .mov (.c (.int .u8 0))⟩])
(.seq
(.reg [⟨(some 5), none, .mov (.t 1)⟩, ⟨(some 6), none, .mov (.t 0)⟩, ⟨(some 7), none, .bin .rem (.t 5) (.t 6)⟩, ⟨(some 8), none, .mov (.t 0)⟩, ⟨(some 9), none, .bin .add (.t 7) (.t 8)⟩, ⟨(some 10), none, .mov (.t 0)⟩, ⟨(some 11), none, .bin .rem (.t 9) (.t 10)⟩, ⟨(some 12), none, .cv .u8 (.t 11)⟩, ⟨(some 4), none, .mov (.t 12)⟩])
.ret))
theorem tr89 : trFn Try.prog Try.f89 = some (13, ir89, [.tmp 4]) := by kernel_rfl

/-- (loop.example/g01230/impl.field).times -/
def ir90 : Cd :=
(.seq
(.reg [⟨(some 3), none, .box 75 (.t 0)⟩, ⟨(some 5), none, .box 30 (.t 2)⟩, ⟨(some 6), none, .new 30 [(8, (.int .u8 0))]⟩])
(.seq
(.reg [⟨(some 8), none, .build 8 [(8, (.int .u8 0))] []⟩, ⟨(some 7), none, .new 30 [(8, (.int .u8 0))]⟩, ⟨none, none, .st 8 (.t 7) (.t 8)⟩])
(.seq
(.reg [⟨(some 9), none, .ld (some 2) (.t 3)⟩, ⟨(some 10), none, .mov (.t 1)⟩, ⟨(some 11), none, .ld (some 8) (.t 5)⟩, ⟨(some 12), none, .call 91 [(.t 9), (.t 7), (.t 10), (.t 11)]⟩])
(.seq
(.reg [⟨(some 13), none, .ld (some 8) (.t 7)⟩, ⟨none, none, .st 8 (.t 6) (.t 13)⟩])
.ret))))
theorem tr90 : trFn Try.prog Try.f90 = some (14, ir90, [.cell (some 8) 6]) := by kernel_rfl

/-- (loop.example/g01230/impl.field).plus -/
def ir91 : Cd :=
(.seq
(.reg [⟨(some 4), none, .box 75 (.t 0)⟩, ⟨(some 7), none, .box 30 (.t 3)⟩])
(.seq
(.seq
(.reg [⟨(some 10), none, .mov (.t 2)⟩, ⟨(some 11), none, .bin .eql (.t 10) (.c (.int .i64 0))⟩])
(.cond (.t 11)
.ret
.skip))
(.seq
(.reg [⟨(some 12), none, .ld (some 8) (.t 7)⟩, ⟨(some 13), none, .mov (.c (.int .i64 0))⟩])
(.block 0
(.loop
(.seq
(.reg [⟨(some 14), none, .bin .lss (.t 13) (.c (.int .i64 8))⟩])
(.seq
(.cond (.t 14)
.skip
(.exit 0))
(.seq
(.block 1
(.seq
(.reg [⟨(some 15), none, .mov (.t 13)⟩, ⟨(some 16), none, .ix 8 1 none (.t 12) (.t 13)⟩, ⟨(some 8), none, .mov (.t 15)⟩, ⟨(some 9), none, .mov (.t 16)⟩])
(.drw true [17] [⟨(some 17), none, .mov (.t 1)⟩, ⟨(some 18), none, .mov (.t 8)⟩, ⟨(some 19), none, .ld (some 2) (.t 4)⟩, ⟨(some 20), none, .mov (.t 1)⟩, ⟨(some 21), none, .mov (.t 8)⟩, ⟨(some 22), none, .ck (.t 20)⟩, ⟨(some 23), none, .ia 8 1 (.t 22) (.t 21)⟩, ⟨(some 24), none, .ld none (.t 23)⟩, ⟨(some 25), none, .cv .i64 (.t 24)⟩, ⟨(some 26), none, .mov (.t 2)⟩, ⟨(some 27), none, .mov (.t 9)⟩, ⟨(some 28), none, .cv .i64 (.t 27)⟩, ⟨(some 29), none, .bin .mul (.t 26) (.t 28)⟩, ⟨(some 30), none, .bin .add (.t 25) (.t 29)⟩, ⟨(some 31), none, .call 66 [(.t 19), (.t 30)]⟩, ⟨(some 32), none, .ck (.t 17)⟩, ⟨(some 33), none, .ia 8 1 (.t 32) (.t 18)⟩, ⟨none, none, .st 1 (.t 33) (.t 31)⟩])))
(.reg [⟨(some 34), none, .bin .add (.t 13) (.c (.int .i64 1))⟩, ⟨(some 13), none, .mov (.t 34)⟩])))))))))
theorem tr91 : trFn Try.prog Try.f91 = some (35, ir91, []) := by kernel_rfl

/-- loop.example/g01230/impl.pairs -/
def ir92 : Cd :=
(.seq
(.reg [⟨(some 7), none, .mov (.c (.int .i64 0))⟩])
(.block 0
(.loop
(.seq
(.reg [⟨(some 8), none, .bin .lss (.t 7) (.c (.int .i64 8))⟩])
(.seq
(.cond (.t 8)
.skip
(.exit 0))
(.seq
(.block 1
(.seq
(.reg [⟨(some 9), none, .mov (.t 7)⟩, ⟨(some 4), none, .mov (.t 9)⟩])
(.seq
(.reg [⟨(some 10), none, .mov (.t 0)⟩, ⟨(some 11), none, .mov (.t 4)⟩, ⟨(some 12), none, .ck (.t 10)⟩, ⟨(some 13), none, .ia 8 8 (.t 12) (.t 11)⟩, ⟨(some 14), none, .ld (some 8) (.t 13)⟩, ⟨(some 15), none, .mov (.c (.int .i64 0))⟩])
(.block 2
(.loop
(.seq
(.reg [⟨(some 16), none, .bin .lss (.t 15) (.c (.int .i64 8))⟩])
(.seq
(.cond (.t 16)
.skip
(.exit 2))
(.seq
(.block 3
(.seq
(.reg [⟨(some 17), none, .mov (.t 15)⟩, ⟨(some 18), none, .ix 8 1 none (.t 14) (.t 15)⟩, ⟨(some 5), none, .mov (.t 17)⟩, ⟨(some 6), none, .mov (.t 18)⟩])
(.seq
(.reg [⟨(some 19), none, .mov (.t 6)⟩, ⟨(some 20), none, .bin .neq (.t 19) (.c (.int .u8 0))⟩])
(.cond (.t 20)
(.reg [⟨(some 21), none, .mov (.t 1)⟩, ⟨(some 22), none, .mov (.t 4)⟩, ⟨(some 23), none, .mov (.t 5)⟩, ⟨(some 24), none, .mov (.t 6)⟩, ⟨(some 25), none, .cv .i64 (.t 24)⟩, ⟨(some 26), none, .callv (.t 21) [(.t 22), (.t 23), (.t 25)]⟩])
.skip))))
(.reg [⟨(some 27), none, .bin .add (.t 15) (.c (.int .i64 1))⟩, ⟨(some 15), none, .mov (.t 27)⟩])))))))))
(.reg [⟨(some 28), none, .bin .add (.t 7) (.c (.int .i64 1))⟩, ⟨(some 7), none, .mov (.t 28)⟩])))))))
theorem tr92 : trFn Try.prog Try.f92 = some (29, ir92, []) := by kernel_rfl

/-- (*loop.example/g01230/impl.Hopf).split$1 -/
def ir93 : Cd :=
(.seq
(.reg [⟨(some 7), none, .box 3 (.t 0)⟩, ⟨(some 8), none, .box 3 (.t 1)⟩, ⟨(some 9), none, .box 3 (.t 2)⟩])
(.drw true [6] [⟨(some 10), none, .ld none (.t 3)⟩, ⟨(some 11), none, .ld none (.t 4)⟩, ⟨(some 12), none, .ck (.t 10)⟩, ⟨(some 13), none, .fa 530 (.t 12)⟩, ⟨(some 14), none, .ia 8 64 (.t 13) (.t 11)⟩, ⟨(some 15), none, .mkf 94 [] [(.t 5), (.t 7), (.t 8), (.t 9), (.t 6)]⟩, ⟨(some 16), none, .call 92 [(.t 14), (.t 15)]⟩]))
theorem tr93 : trFn Try.prog Try.f93 = some (17, ir93, []) := by kernel_rfl

/-- (*loop.example/g01230/impl.Hopf).split$1$1 -/
def ir94 : Cd :=
(.drw true [10] [⟨(some 11), none, .ld none (.t 3)⟩, ⟨(some 12), none, .ld none (.t 4)⟩, ⟨(some 13), none, .ld none (.t 5)⟩, ⟨(some 14), none, .mov (.t 0)⟩, ⟨(some 15), none, .mov (.t 1)⟩, ⟨(some 16), none, .ld none (.t 6)⟩, ⟨(some 17), none, .mov (.t 2)⟩, ⟨(some 18), none, .bin .mul (.t 16) (.t 17)⟩, ⟨(some 19), none, .ld none (.t 7)⟩, ⟨(some 20), none, .bin .rem (.t 18) (.t 19)⟩, ⟨(some 21), none, .callv (.t 11) [(.t 12), (.t 13), (.t 14), (.t 15), (.t 20)]⟩])
theorem tr94 : trFn Try.prog Try.f94 = some (22, ir94, []) := by kernel_rfl

/-- loop.example/g01230/spec.l01Sizes -/
def ir95 : Cd :=
(.seq
(.reg [⟨(some 4), none, .mov (.c (.bool false))⟩])
(.seq
(.reg [⟨(some 5), none, .mov (.t 0)⟩, ⟨(some 6), none, .call 112 [(.t 5)]⟩, ⟨(some 7), none, .mov (.t 6)⟩, ⟨(some 8), (some (7, true)), .mov (.t 1)⟩, ⟨(some 9), (some (7, true)), .call 113 [(.t 8), (.c (.int .i64 1)), (.c (.int .i64 8))]⟩, ⟨(some 10), none, .pick (.t 7) (.t 9) (.c (.bool false))⟩, ⟨(some 4), none, .mov (.t 10)⟩])
.ret))
theorem tr95 : trFn Try.prog Try.f95 = some (11, ir95, [.tmp 4]) := by kernel_rfl

/-- loop.example/g01230/spec.l01Is -/
def ir96 : Cd :=
(.seq
(.reg [⟨(some 1), none, .box 102 (.t 0)⟩, ⟨(some 2), none, .mov (.c (.bool false))⟩])
(.seq
(.seq
(.reg [⟨(some 6), none, .ld (some 522) (.t 1)⟩, ⟨(some 7), none, .call 67 [(.t 6)]⟩, ⟨(some 8), none, .un .not (.t 7)⟩])
(.cond (.t 8)
(.seq
(.reg [⟨(some 2), none, .mov (.c (.bool false))⟩])
.ret)
.skip))
(.seq
(.seq
(.reg [⟨(some 3), none, .mov (.c (.int .i64 0))⟩])
(.block 0
(.loop
(.seq
(.seq
(.reg [⟨(some 9), none, .mov (.t 3)⟩, ⟨(some 10), none, .fa 1 (.t 1)⟩, ⟨(some 11), none, .ld none (.t 10)⟩, ⟨(some 12), none, .bin .lss (.t 9) (.t 11)⟩])
(.cond (.t 12)
.skip
(.exit 0)))
(.seq
(.block 1
(.seq
(.drwo true [17] [0, 1, 2, 3, 6, 4, 5, 7, 8, 9, 10, 11, 13, 14, 16, 12, 15, 17, 18, 19] [⟨(some 15), none, .ld (some 522) (.t 1)⟩, ⟨(some 16), none, .fa 2 (.t 1)⟩, ⟨(some 17), none, .ld (some 8) (.t 16)⟩, ⟨(some 18), none, .mov (.t 3)⟩, ⟨(some 19), none, .call 59 [(.t 18)]⟩, ⟨(some 20), none, .call 114 [(.t 15), (.t 17), (.t 19)]⟩, ⟨(some 21), none, .mov (.t 3)⟩, ⟨(some 22), none, .call 59 [(.t 21)]⟩, ⟨(some 23), none, .eqa true 8 (.t 20) (.t 22)⟩, ⟨(some 24), none, .mov (.t 23)⟩, ⟨(some 25), (some (24, false)), .ld (some 522) (.t 1)⟩, ⟨(some 26), (some (24, false)), .mov (.t 3)⟩, ⟨(some 27), (some (24, false)), .call 59 [(.t 26)]⟩, ⟨(some 28), (some (24, false)), .fa 2 (.t 1)⟩, ⟨(some 29), (some (24, false)), .ld (some 8) (.t 28)⟩, ⟨(some 30), (some (24, false)), .call 114 [(.t 25), (.t 27), (.t 29)]⟩, ⟨(some 31), (some (24, false)), .mov (.t 3)⟩, ⟨(some 32), (some (24, false)), .call 59 [(.t 31)]⟩, ⟨(some 33), (some (24, false)), .eqa true 8 (.t 30) (.t 32)⟩, ⟨(some 34), none, .pick (.t 24) (.c (.bool true)) (.t 33)⟩])
(.cond (.t 34)
(.seq
(.reg [⟨(some 2), none, .mov (.c (.bool false))⟩])
.ret)
.skip)))
(.reg [⟨(some 13), none, .mov (.t 3)⟩, ⟨(some 14), none, .bin .add (.t 13) (.c (.int .i64 1))⟩, ⟨(some 3), none, .mov (.t 14)⟩]))))))
(.seq
(.reg [⟨(some 36), none, .ld (some 522) (.t 1)⟩, ⟨(some 37), none, .call 115 [(.t 36)]⟩, ⟨(some 35), none, .mov (.t 37)⟩, ⟨(some 38), none, .ex (.t 35) 0⟩, ⟨(some 39), none, .ex (.t 35) 1⟩, ⟨(some 4), none, .mov (.t 38)⟩, ⟨(some 5), none, .mov (.t 39)⟩])
(.seq
(.reg [⟨(some 40), none, .mov (.t 5)⟩, ⟨(some 41), none, .un .not (.t 40)⟩, ⟨(some 2), none, .mov (.t 41)⟩])
.ret)))))
theorem tr96 : trFn Try.prog Try.f96 = some (42, ir96, [.tmp 2]) := by kernel_rfl

/-- loop.example/g01230/spec.l02Is -/
def ir97 : Cd :=
(.seq
(.reg [⟨(some 1), none, .box 112 (.t 0)⟩, ⟨(some 2), none, .mov (.c (.bool false))⟩])
(.seq
(.seq
(.reg [⟨(some 5), none, .ld (some 522) (.t 1)⟩, ⟨(some 6), none, .call 116 [(.t 5)]⟩, ⟨(some 7), none, .un .not (.t 6)⟩])
(.cond (.t 7)
(.seq
(.reg [⟨(some 2), none, .mov (.c (.bool false))⟩])
.ret)
.skip))
(.seq
(.reg [⟨(some 9), none, .ld (some 522) (.t 1)⟩, ⟨(some 10), none, .call 117 [(.t 9)]⟩, ⟨(some 8), none, .mov (.t 10)⟩, ⟨(some 11), none, .ex (.t 8) 0⟩, ⟨(some 12), none, .ex (.t 8) 1⟩, ⟨(some 3), none, .mov (.t 11)⟩, ⟨(some 4), none, .mov (.t 12)⟩])
(.seq
(.reg [⟨(some 13), none, .mov (.t 4)⟩, ⟨(some 14), none, .un .not (.t 13)⟩, ⟨(some 15), none, .mov (.t 14)⟩, ⟨(some 16), (some (15, true)), .ld (some 522) (.t 1)⟩, ⟨(some 17), (some (15, true)), .call 118 [(.t 16)]⟩, ⟨(some 18), none, .pick (.t 15) (.t 17) (.c (.bool false))⟩, ⟨(some 2), none, .mov (.t 18)⟩])
.ret))))
theorem tr97 : trFn Try.prog Try.f97 = some (19, ir97, [.tmp 2]) := by kernel_rfl

/-- loop.example/g01230/spec.l03Coalgebra -/
def ir98 : Cd :=
(.seq
(.reg [⟨(some 1), none, .box 36 (.t 0)⟩, ⟨(some 2), none, .new 112 [(2, (.int .i64 0)), (520, (.int .u8 0))]⟩])
(.seq
(.reg [⟨(some 3), none, .fa 0 (.t 1)⟩, ⟨(some 4), none, .ld none (.t 3)⟩, ⟨(some 5), none, .fa 1 (.t 1)⟩, ⟨(some 6), none, .ld none (.t 5)⟩, ⟨(some 7), none, .fa 522 (.t 1)⟩, ⟨(some 8), none, .ld (some 8) (.t 7)⟩, ⟨(some 9), none, .fa 530 (.t 1)⟩, ⟨(some 10), none, .ld (some 512) (.t 9)⟩, ⟨(some 11), none, .build 522 [(2, (.int .i64 0)), (520, (.int .u8 0))] [(0, 1, (.t 4)), (1, 1, (.t 6)), (2, 8, (.t 8)), (10, 512, (.t 10))]⟩, ⟨none, none, .st 522 (.t 2) (.t 11)⟩])
.ret))
theorem tr98 : trFn Try.prog Try.f98 = some (12, ir98, [.cell (some 522) 2]) := by kernel_rfl

/-- loop.example/g01230/spec.l03Coproduct -/
def ir99 : Cd :=
(.seq
(.reg [⟨(some 2), none, .box 36 (.t 0)⟩, ⟨(some 3), none, .box 30 (.t 1)⟩, ⟨(some 4), none, .new 32 [(64, (.int .u8 0))]⟩])
(.seq
(.reg [⟨(some 8), none, .build 64 [(64, (.int .u8 0))] []⟩, ⟨(some 5), none, .new 32 [(64, (.int .u8 0))]⟩, ⟨none, none, .st 64 (.t 5) (.t 8)⟩])
(.seq
(.seq
(.reg [⟨(some 6), none, .mov (.c (.int .i64 0))⟩])
(.block 0
(.loop
(.seq
(.seq
(.reg [⟨(some 9), none, .mov (.t 6)⟩, ⟨(some 10), none, .fa 1 (.t 2)⟩, ⟨(some 11), none, .ld none (.t 10)⟩, ⟨(some 12), none, .bin .lss (.t 9) (.t 11)⟩])
(.cond (.t 12)
.skip
(.exit 0)))
(.seq
(.block 1
(.seq
(.reg [⟨(some 7), none, .mov (.c (.int .i64 0))⟩])
(.block 2
(.loop
(.seq
(.seq
(.reg [⟨(some 15), none, .mov (.t 7)⟩, ⟨(some 16), none, .fa 1 (.t 2)⟩, ⟨(some 17), none, .ld none (.t 16)⟩, ⟨(some 18), none, .bin .lss (.t 15) (.t 17)⟩, ⟨(some 19), none, .mov (.t 18)⟩, ⟨(some 20), (some (19, true)), .mov (.t 6)⟩, ⟨(some 21), (some (19, true)), .ia 8 1 (.t 3) (.t 20)⟩, ⟨(some 22), (some (19, true)), .ld none (.t 21)⟩, ⟨(some 23), (some (19, true)), .bin .neq (.t 22) (.c (.int .u8 0))⟩, ⟨(some 24), none, .pick (.t 19) (.t 23) (.c (.bool false))⟩])
(.cond (.t 24)
.skip
(.exit 2)))
(.seq
(.block 3
(.drw true [18] [⟨(some 27), none, .mov (.t 7)⟩, ⟨(some 28), none, .fa 0 (.t 2)⟩, ⟨(some 29), none, .ld none (.t 28)⟩, ⟨(some 30), none, .mov (.t 7)⟩, ⟨(some 31), none, .ia 8 8 (.t 5) (.t 30)⟩, ⟨(some 32), none, .ld (some 8) (.t 31)⟩, ⟨(some 33), none, .mov (.t 6)⟩, ⟨(some 34), none, .mov (.t 7)⟩, ⟨(some 35), none, .fa 530 (.t 2)⟩, ⟨(some 36), none, .ia 8 64 (.t 35) (.t 33)⟩, ⟨(some 37), none, .ia 8 8 (.t 36) (.t 34)⟩, ⟨(some 38), none, .ld (some 8) (.t 37)⟩, ⟨(some 39), none, .mov (.t 6)⟩, ⟨(some 40), none, .ia 8 1 (.t 3) (.t 39)⟩, ⟨(some 41), none, .ld none (.t 40)⟩, ⟨(some 42), none, .cv .i64 (.t 41)⟩, ⟨(some 43), none, .call 55 [(.t 29), (.t 32), (.t 38), (.t 42)]⟩, ⟨(some 44), none, .ia 8 8 (.t 5) (.t 27)⟩, ⟨none, none, .st 8 (.t 44) (.t 43)⟩]))
(.reg [⟨(some 25), none, .mov (.t 7)⟩, ⟨(some 26), none, .bin .add (.t 25) (.c (.int .i64 1))⟩, ⟨(some 7), none, .mov (.t 26)⟩])))))))
(.reg [⟨(some 13), none, .mov (.t 6)⟩, ⟨(some 14), none, .bin .add (.t 13) (.c (.int .i64 1))⟩, ⟨(some 6), none, .mov (.t 14)⟩]))))))
(.seq
(.reg [⟨(some 45), none, .ld (some 64) (.t 5)⟩, ⟨none, none, .st 64 (.t 4) (.t 45)⟩])
.ret))))
theorem tr99 : trFn Try.prog Try.f99 = some (46, ir99, [.cell (some 64) 4]) := by kernel_rfl

/-- loop.example/g01230/spec.l03Pairs -/
def ir100 : Cd :=
(.seq
(.reg [⟨(some 3), none, .box 36 (.t 0)⟩, ⟨(some 4), none, .box 32 (.t 1)⟩, ⟨(some 5), none, .box 32 (.t 2)⟩, ⟨(some 6), none, .new 32 [(64, (.int .u8 0))]⟩])
(.seq
(.mix [⟨(some 15), none, .fa 0 (.t 3)⟩, ⟨(some 16), none, .ld none (.t 15)⟩, ⟨(some 17), none, .fa 1 (.t 3)⟩, ⟨(some 18), none, .ld none (.t 17)⟩, ⟨(some 19), none, .build 64 [(64, (.int .u8 0))] []⟩] [⟨(some 9), none, .new 32 [(64, (.int .u8 0))]⟩, ⟨(some 7), none, .mov (.t 16)⟩, ⟨(some 8), none, .mov (.t 18)⟩, ⟨none, none, .st 64 (.t 9) (.t 19)⟩])
(.seq
(.seq
(.reg [⟨(some 10), none, .mov (.c (.int .i64 0))⟩])
(.block 0
(.loop
(.seq
(.seq
(.reg [⟨(some 20), none, .mov (.t 10)⟩, ⟨(some 21), none, .mov (.t 8)⟩, ⟨(some 22), none, .bin .lss (.t 20) (.t 21)⟩])
(.cond (.t 22)
.skip
(.exit 0)))
(.seq
(.block 1
(.seq
(.reg [⟨(some 11), none, .mov (.c (.int .i64 0))⟩])
(.block 2
(.loop
(.seq
(.seq
(.reg [⟨(some 25), none, .mov (.t 11)⟩, ⟨(some 26), none, .mov (.t 8)⟩, ⟨(some 27), none, .bin .lss (.t 25) (.t 26)⟩])
(.cond (.t 27)
.skip
(.exit 2)))
(.seq
(.block 3
(.seq
(.mix [⟨(some 30), none, .ld (some 1106) (.t 3)⟩, ⟨(some 31), none, .call 68 [(.t 30)]⟩, ⟨(some 32), none, .mov (.t 10)⟩, ⟨(some 33), none, .ia 8 8 (.t 4) (.t 32)⟩, ⟨(some 34), none, .ld (some 8) (.t 33)⟩, ⟨(some 35), none, .mov (.t 11)⟩, ⟨(some 36), none, .ia 8 8 (.t 5) (.t 35)⟩, ⟨(some 37), none, .ld (some 8) (.t 36)⟩, ⟨(some 38), none, .call 114 [(.t 31), (.t 34), (.t 37)]⟩] [⟨(some 12), none, .new 30 [(8, (.int .u8 0))]⟩, ⟨none, none, .st 8 (.t 12) (.t 38)⟩])
(.seq
(.seq
(.reg [⟨(some 39), none, .ld (some 8) (.t 12)⟩, ⟨(some 40), none, .call 58 [(.t 39)]⟩])
(.cond (.t 40)
(.exit 3)
.skip))
(.seq
(.reg [⟨(some 13), none, .mov (.c (.int .i64 0))⟩])
(.block 4
(.loop
(.seq
(.seq
(.reg [⟨(some 41), none, .mov (.t 13)⟩, ⟨(some 42), none, .mov (.t 8)⟩, ⟨(some 43), none, .bin .lss (.t 41) (.t 42)⟩])
(.cond (.t 43)
.skip
(.exit 4)))
(.seq
(.block 5
(.seq
(.reg [⟨(some 46), none, .mov (.t 10)⟩, ⟨(some 47), none, .mov (.t 11)⟩, ⟨(some 48), none, .mov (.t 13)⟩, ⟨(some 49), none, .fa 10 (.t 3)⟩, ⟨(some 50), none, .ia 8 64 (.t 49) (.t 46)⟩, ⟨(some 51), none, .ia 8 8 (.t 50) (.t 47)⟩, ⟨(some 52), none, .ia 8 1 (.t 51) (.t 48)⟩, ⟨(some 53), none, .ld none (.t 52)⟩, ⟨(some 14), none, .mov (.t 53)⟩])
(.seq
(.reg [⟨(some 54), none, .mov (.t 14)⟩, ⟨(some 55), none, .bin .neq (.t 54) (.c (.int .u8 0))⟩])
(.cond (.t 55)
(.drw true [10] [⟨(some 56), none, .mov (.t 13)⟩, ⟨(some 57), none, .mov (.t 7)⟩, ⟨(some 58), none, .mov (.t 13)⟩, ⟨(some 59), none, .ia 8 8 (.t 9) (.t 58)⟩, ⟨(some 60), none, .ld (some 8) (.t 59)⟩, ⟨(some 61), none, .ld (some 8) (.t 12)⟩, ⟨(some 62), none, .mov (.t 14)⟩, ⟨(some 63), none, .cv .i64 (.t 62)⟩, ⟨(some 64), none, .call 55 [(.t 57), (.t 60), (.t 61), (.t 63)]⟩, ⟨(some 65), none, .ia 8 8 (.t 9) (.t 56)⟩, ⟨none, none, .st 8 (.t 65) (.t 64)⟩])
.skip))))
(.reg [⟨(some 44), none, .mov (.t 13)⟩, ⟨(some 45), none, .bin .add (.t 44) (.c (.int .i64 1))⟩, ⟨(some 13), none, .mov (.t 45)⟩])))))))))
(.reg [⟨(some 28), none, .mov (.t 11)⟩, ⟨(some 29), none, .bin .add (.t 28) (.c (.int .i64 1))⟩, ⟨(some 11), none, .mov (.t 29)⟩])))))))
(.reg [⟨(some 23), none, .mov (.t 10)⟩, ⟨(some 24), none, .bin .add (.t 23) (.c (.int .i64 1))⟩, ⟨(some 10), none, .mov (.t 24)⟩]))))))
(.seq
(.reg [⟨(some 66), none, .ld (some 64) (.t 9)⟩, ⟨none, none, .st 64 (.t 6) (.t 66)⟩])
.ret))))
theorem tr100 : trFn Try.prog Try.f100 = some (67, ir100, [.cell (some 64) 6]) := by kernel_rfl

/-- loop.example/g01230/spec.l03Counit -/
def ir101 : Cd :=
(.seq
(.reg [⟨(some 2), none, .box 36 (.t 0)⟩, ⟨(some 3), none, .box 30 (.t 1)⟩, ⟨(some 4), none, .mov (.c (.int .i64 0))⟩])
(.seq
(.reg [⟨(some 5), none, .mov (.c (.int .i64 0))⟩])
(.seq
(.seq
(.reg [⟨(some 6), none, .mov (.c (.int .i64 0))⟩])
(.block 0
(.loop
(.seq
(.seq
(.reg [⟨(some 7), none, .mov (.t 6)⟩, ⟨(some 8), none, .fa 1 (.t 2)⟩, ⟨(some 9), none, .ld none (.t 8)⟩, ⟨(some 10), none, .bin .lss (.t 7) (.t 9)⟩])
(.cond (.t 10)
.skip
(.exit 0)))
(.seq
(.block 1
(.drw true [] [⟨(some 13), none, .mov (.t 5)⟩, ⟨(some 14), none, .mov (.t 6)⟩, ⟨(some 15), none, .ia 8 1 (.t 3) (.t 14)⟩, ⟨(some 16), none, .ld none (.t 15)⟩, ⟨(some 17), none, .cv .i64 (.t 16)⟩, ⟨(some 18), none, .mov (.t 6)⟩, ⟨(some 19), none, .fa 522 (.t 2)⟩, ⟨(some 20), none, .ia 8 1 (.t 19) (.t 18)⟩, ⟨(some 21), none, .ld none (.t 20)⟩, ⟨(some 22), none, .cv .i64 (.t 21)⟩, ⟨(some 23), none, .bin .mul (.t 17) (.t 22)⟩, ⟨(some 24), none, .bin .add (.t 13) (.t 23)⟩, ⟨(some 5), none, .mov (.t 24)⟩]))
(.reg [⟨(some 11), none, .mov (.t 6)⟩, ⟨(some 12), none, .bin .add (.t 11) (.c (.int .i64 1))⟩, ⟨(some 6), none, .mov (.t 12)⟩]))))))
(.seq
(.reg [⟨(some 25), none, .mov (.t 5)⟩, ⟨(some 26), none, .fa 0 (.t 2)⟩, ⟨(some 27), none, .ld none (.t 26)⟩, ⟨(some 28), none, .bin .rem (.t 25) (.t 27)⟩, ⟨(some 4), none, .mov (.t 28)⟩])
.ret))))
theorem tr101 : trFn Try.prog Try.f101 = some (29, ir101, [.tmp 4]) := by kernel_rfl

/-- loop.example/g01230/spec.l03Folded -/
def ir102 : Cd :=
(.seq
(.reg [⟨(some 4), none, .box 36 (.t 0)⟩, ⟨(some 6), none, .box 32 (.t 2)⟩, ⟨(some 8), none, .new 30 [(8, (.int .u8 0))]⟩])
(.seq
(.reg [⟨(some 15), none, .build 8 [(8, (.int .u8 0))] []⟩, ⟨(some 16), none, .ld (some 1106) (.t 4)⟩, ⟨(some 17), none, .call 68 [(.t 16)]⟩, ⟨(some 9), none, .new 30 [(8, (.int .u8 0))]⟩, ⟨(some 10), none, .new 102 [(2, (.int .i64 0)), (520, (.int .u8 0))]⟩, ⟨none, none, .st 8 (.t 9) (.t 15)⟩, ⟨none, none, .st 522 (.t 10) (.t 17)⟩])
(.seq
(.seq
(.reg [⟨(some 11), none, .mov (.c (.int .i64 0))⟩])
(.block 0
(.loop
(.seq
(.seq
(.reg [⟨(some 18), none, .mov (.t 11)⟩, ⟨(some 19), none, .fa 1 (.t 4)⟩, ⟨(some 20), none, .ld none (.t 19)⟩, ⟨(some 21), none, .bin .lss (.t 18) (.t 20)⟩])
(.cond (.t 21)
.skip
(.exit 0)))
(.seq
(.block 1
(.seq
(.reg [⟨(some 12), none, .mov (.c (.int .i64 0))⟩])
(.block 2
(.loop
(.seq
(.seq
(.reg [⟨(some 24), none, .mov (.t 12)⟩, ⟨(some 25), none, .fa 1 (.t 4)⟩, ⟨(some 26), none, .ld none (.t 25)⟩, ⟨(some 27), none, .bin .lss (.t 24) (.t 26)⟩])
(.cond (.t 27)
.skip
(.exit 2)))
(.seq
(.block 3
(.seq
(.reg [⟨(some 30), none, .mov (.t 1)⟩, ⟨(some 31), none, .mov (.t 11)⟩, ⟨(some 32), none, .mov (.t 12)⟩, ⟨(some 33), none, .fa 530 (.t 4)⟩, ⟨(some 34), none, .ia 8 64 (.t 33) (.t 30)⟩, ⟨(some 35), none, .ia 8 8 (.t 34) (.t 31)⟩, ⟨(some 36), none, .ia 8 1 (.t 35) (.t 32)⟩, ⟨(some 37), none, .ld none (.t 36)⟩, ⟨(some 38), none, .cv .i64 (.t 37)⟩, ⟨(some 13), none, .mov (.t 38)⟩])
(.seq
(.reg [⟨(some 39), none, .mov (.t 13)⟩, ⟨(some 40), none, .bin .neq (.t 39) (.c (.int .i64 0))⟩])
(.cond (.t 40)
(.seq
(.mix [⟨(some 41), none, .ld (some 522) (.t 10)⟩, ⟨(some 42), none, .mov (.t 11)⟩, ⟨(some 43), none, .ia 8 8 (.t 6) (.t 42)⟩, ⟨(some 44), none, .ld (some 8) (.t 43)⟩, ⟨(some 45), none, .mov (.t 12)⟩, ⟨(some 46), none, .call 59 [(.t 45)]⟩, ⟨(some 47), none, .call 114 [(.t 41), (.t 44), (.t 46)]⟩] [⟨(some 14), none, .new 30 [(8, (.int .u8 0))]⟩, ⟨none, none, .st 8 (.t 14) (.t 47)⟩])
(.seq
(.seq
(.reg [⟨(some 48), none, .mov (.t 3)⟩])
(.cond (.t 48)
(.drwo true [6, 7] [0, 1, 3, 4, 5, 2, 6, 7] [⟨(some 49), none, .ld (some 522) (.t 10)⟩, ⟨(some 50), none, .mov (.t 11)⟩, ⟨(some 51), none, .call 59 [(.t 50)]⟩, ⟨(some 52), none, .mov (.t 12)⟩, ⟨(some 53), none, .ia 8 8 (.t 6) (.t 52)⟩, ⟨(some 54), none, .ld (some 8) (.t 53)⟩, ⟨(some 55), none, .call 114 [(.t 49), (.t 51), (.t 54)]⟩, ⟨none, none, .st 8 (.t 14) (.t 55)⟩])
.skip))
(.reg [⟨(some 56), none, .fa 0 (.t 4)⟩, ⟨(some 57), none, .ld none (.t 56)⟩, ⟨(some 58), none, .ld (some 8) (.t 9)⟩, ⟨(some 59), none, .ld (some 8) (.t 14)⟩, ⟨(some 60), none, .mov (.t 13)⟩, ⟨(some 61), none, .call 55 [(.t 57), (.t 58), (.t 59), (.t 60)]⟩, ⟨none, none, .st 8 (.t 9) (.t 61)⟩])))
.skip))))
(.reg [⟨(some 28), none, .mov (.t 12)⟩, ⟨(some 29), none, .bin .add (.t 28) (.c (.int .i64 1))⟩, ⟨(some 12), none, .mov (.t 29)⟩])))))))
(.reg [⟨(some 22), none, .mov (.t 11)⟩, ⟨(some 23), none, .bin .add (.t 22) (.c (.int .i64 1))⟩, ⟨(some 11), none, .mov (.t 23)⟩]))))))
(.seq
(.reg [⟨(some 62), none, .ld (some 8) (.t 9)⟩, ⟨none, none, .st 8 (.t 8) (.t 62)⟩])
.ret))))
theorem tr102 : trFn Try.prog Try.f102 = some (63, ir102, [.cell (some 8) 8]) := by kernel_rfl

/-- loop.example/g01230/impl.isTable -/
def ir103 : Cd :=
(.seq
(.reg [⟨(some 6), none, .mov (.c (.bool false))⟩])
(.seq
(.seq
(.reg [⟨(some 8), none, .mov (.c (.int .i64 0))⟩])
(.block 0
(.loop
(.seq
(.reg [⟨(some 9), none, .bin .lss (.t 8) (.c (.int .i64 8))⟩])
(.seq
(.cond (.t 9)
.skip
(.exit 0))
(.seq
(.block 1
(.seq
(.reg [⟨(some 10), none, .mov (.t 8)⟩, ⟨(some 7), none, .mov (.t 10)⟩])
(.seq
(.reg [⟨(some 11), none, .mov (.t 0)⟩, ⟨(some 12), none, .mov (.t 1)⟩, ⟨(some 13), none, .mov (.t 1)⟩, ⟨(some 14), none, .mov (.t 2)⟩, ⟨(some 15), none, .mov (.t 7)⟩, ⟨(some 16), none, .ck (.t 14)⟩, ⟨(some 17), none, .ia 8 64 (.t 16) (.t 15)⟩, ⟨(some 18), none, .call 60 [(.t 11), (.t 12), (.t 13), (.t 17)]⟩, ⟨(some 19), none, .un .not (.t 18)⟩, ⟨(some 20), none, .mov (.t 19)⟩, ⟨(some 21), (some (20, false)), .mov (.t 7)⟩, ⟨(some 22), (some (20, false)), .mov (.t 1)⟩, ⟨(some 23), (some (20, false)), .bin .geq (.t 21) (.t 22)⟩, ⟨(some 24), (some (20, false)), .mov (.t 23)⟩, ⟨(some 25), (some (24, true)), .mov (.t 2)⟩, ⟨(some 26), (some (24, true)), .mov (.t 7)⟩, ⟨(some 27), (some (24, true)), .ck (.t 25)⟩, ⟨(some 28), (some (24, true)), .ia 8 64 (.t 27) (.t 26)⟩, ⟨(some 29), (some (24, true)), .ld (some 64) (.t 28)⟩, ⟨(some 30), (some (24, true)), .build 64 [(64, (.int .u8 0))] []⟩, ⟨(some 31), (some (24, true)), .eqa true 64 (.t 29) (.t 30)⟩, ⟨(some 32), (some (20, false)), .pick (.t 24) (.t 31) (.c (.bool false))⟩, ⟨(some 33), none, .pick (.t 20) (.c (.bool true)) (.t 32)⟩])
(.cond (.t 33)
(.seq
(.reg [⟨(some 6), none, .mov (.c (.bool false))⟩])
.ret)
.skip))))
(.reg [⟨(some 34), none, .bin .add (.t 8) (.c (.int .i64 1))⟩, ⟨(some 8), none, .mov (.t 34)⟩])))))))
(.seq
(.reg [⟨(some 6), none, .mov (.c (.bool true))⟩])
.ret)))
theorem tr103 : trFn Try.prog Try.f103 = some (35, ir103, [.tmp 6]) := by kernel_rfl

/-- (*loop.example/g01230/impl.Algebra).product -/
def ir104 : Cd :=
(.seq
(.reg [⟨(some 4), none, .box 30 (.t 1)⟩, ⟨(some 5), none, .box 30 (.t 2)⟩, ⟨(some 6), none, .new 30 [(8, (.int .u8 0))]⟩])
(.seq
(.reg [⟨(some 11), none, .mov (.t 0)⟩, ⟨(some 12), none, .call 119 [(.t 11)]⟩, ⟨(some 13), none, .build 8 [(8, (.int .u8 0))] []⟩, ⟨(some 7), none, .new 75 [(2, (.int .i64 0))]⟩, ⟨(some 8), none, .new 30 [(8, (.int .u8 0))]⟩, ⟨none, none, .st 2 (.t 7) (.t 12)⟩, ⟨none, none, .st 8 (.t 8) (.t 13)⟩])
(.seq
(.seq
(.reg [⟨(some 14), none, .fa 1 (.t 7)⟩, ⟨(some 15), none, .ld none (.t 14)⟩, ⟨(some 16), none, .mov (.c (.int .i64 0))⟩])
(.block 0
(.loop
(.seq
(.reg [⟨(some 17), none, .bin .lss (.t 16) (.t 15)⟩])
(.seq
(.cond (.t 17)
.skip
(.exit 0))
(.seq
(.block 1
(.seq
(.reg [⟨(some 18), none, .mov (.t 16)⟩, ⟨(some 9), none, .mov (.t 18)⟩])
(.seq
(.seq
(.reg [⟨(some 19), none, .mov (.t 9)⟩, ⟨(some 20), none, .ia 8 1 (.t 4) (.t 19)⟩, ⟨(some 21), none, .ld none (.t 20)⟩, ⟨(some 22), none, .bin .eql (.t 21) (.c (.int .u8 0))⟩])
(.cond (.t 22)
(.exit 1)
.skip))
(.seq
(.reg [⟨(some 23), none, .fa 1 (.t 7)⟩, ⟨(some 24), none, .ld none (.t 23)⟩, ⟨(some 25), none, .mov (.c (.int .i64 0))⟩])
(.block 2
(.loop
(.seq
(.reg [⟨(some 26), none, .bin .lss (.t 25) (.t 24)⟩])
(.seq
(.cond (.t 26)
.skip
(.exit 2))
(.seq
(.block 3
(.seq
(.reg [⟨(some 27), none, .mov (.t 25)⟩, ⟨(some 10), none, .mov (.t 27)⟩])
(.drw true [18] [⟨(some 28), none, .ld (some 2) (.t 7)⟩, ⟨(some 29), none, .mov (.t 9)⟩, ⟨(some 30), none, .ia 8 1 (.t 4) (.t 29)⟩, ⟨(some 31), none, .ld none (.t 30)⟩, ⟨(some 32), none, .cv .i64 (.t 31)⟩, ⟨(some 33), none, .mov (.t 10)⟩, ⟨(some 34), none, .ia 8 1 (.t 5) (.t 33)⟩, ⟨(some 35), none, .ld none (.t 34)⟩, ⟨(some 36), none, .cv .i64 (.t 35)⟩, ⟨(some 37), none, .bin .mul (.t 32) (.t 36)⟩, ⟨(some 38), none, .mov (.t 0)⟩, ⟨(some 39), none, .mov (.t 9)⟩, ⟨(some 40), none, .mov (.t 10)⟩, ⟨(some 41), none, .ck (.t 38)⟩, ⟨(some 42), none, .fa 10 (.t 41)⟩, ⟨(some 43), none, .ia 8 64 (.t 42) (.t 39)⟩, ⟨(some 44), none, .ia 8 8 (.t 43) (.t 40)⟩, ⟨(some 45), none, .ld (some 8) (.t 44)⟩, ⟨(some 46), none, .call 91 [(.t 28), (.t 8), (.t 37), (.t 45)]⟩])))
(.reg [⟨(some 47), none, .bin .add (.t 25) (.c (.int .i64 1))⟩, ⟨(some 25), none, .mov (.t 47)⟩]))))))))))
(.reg [⟨(some 48), none, .bin .add (.t 16) (.c (.int .i64 1))⟩, ⟨(some 16), none, .mov (.t 48)⟩])))))))
(.seq
(.reg [⟨(some 49), none, .ld (some 8) (.t 8)⟩, ⟨none, none, .st 8 (.t 6) (.t 49)⟩])
.ret))))
theorem tr104 : trFn Try.prog Try.f104 = some (50, ir104, [.cell (some 8) 6]) := by kernel_rfl

/-- (*loop.example/g01230/impl.Algebra).fault -/
def ir105 : Cd :=
(.seq
(.reg [⟨(some 2), none, .mov (.c .nils)⟩])
(.seq
(.reg [⟨(some 7), none, .mov (.t 0)⟩, ⟨(some 8), none, .ck (.t 7)⟩, ⟨(some 9), none, .fa 1 (.t 8)⟩, ⟨(some 10), none, .ld none (.t 9)⟩, ⟨(some 3), none, .mov (.t 10)⟩])
(.seq
(.seq
(.reg [⟨(some 11), none, .mov (.t 3)⟩, ⟨(some 12), none, .mov (.c (.int .i64 0))⟩])
(.block 0
(.loop
(.seq
(.reg [⟨(some 13), none, .bin .lss (.t 12) (.t 11)⟩])
(.seq
(.cond (.t 13)
.skip
(.exit 0))
(.seq
(.block 1
(.seq
(.reg [⟨(some 14), none, .mov (.t 12)⟩, ⟨(some 4), none, .mov (.t 14)⟩])
(.seq
(.reg [⟨(some 15), none, .mov (.t 3)⟩, ⟨(some 16), none, .mov (.c (.int .i64 0))⟩])
(.block 2
(.loop
(.seq
(.reg [⟨(some 17), none, .bin .lss (.t 16) (.t 15)⟩])
(.seq
(.cond (.t 17)
.skip
(.exit 2))
(.seq
(.block 3
(.seq
(.reg [⟨(some 18), none, .mov (.t 16)⟩, ⟨(some 5), none, .mov (.t 18)⟩])
(.seq
(.reg [⟨(some 19), none, .mov (.t 3)⟩, ⟨(some 20), none, .mov (.c (.int .i64 0))⟩])
(.block 4
(.loop
(.seq
(.reg [⟨(some 21), none, .bin .lss (.t 20) (.t 19)⟩])
(.seq
(.cond (.t 21)
.skip
(.exit 4))
(.seq
(.block 5
(.seq
(.reg [⟨(some 22), none, .mov (.t 20)⟩, ⟨(some 6), none, .mov (.t 22)⟩])
(.seq
(.drwo true [23] [0, 1, 2, 3, 4, 5, 6, 7, 8, 9, 12, 13, 15, 16, 17, 18, 19, 20, 21, 22, 10, 11, 14, 23, 24] [⟨(some 23), none, .mov (.t 0)⟩, ⟨(some 24), none, .mov (.t 0)⟩, ⟨(some 25), none, .mov (.t 4)⟩, ⟨(some 26), none, .mov (.t 5)⟩, ⟨(some 27), none, .ck (.t 24)⟩, ⟨(some 28), none, .fa 10 (.t 27)⟩, ⟨(some 29), none, .ia 8 64 (.t 28) (.t 25)⟩, ⟨(some 30), none, .ia 8 8 (.t 29) (.t 26)⟩, ⟨(some 31), none, .ld (some 8) (.t 30)⟩, ⟨(some 32), none, .mov (.t 6)⟩, ⟨(some 33), none, .call 61 [(.t 32)]⟩, ⟨(some 34), none, .call 104 [(.t 23), (.t 31), (.t 33)]⟩, ⟨(some 35), none, .mov (.t 0)⟩, ⟨(some 36), none, .mov (.t 4)⟩, ⟨(some 37), none, .call 61 [(.t 36)]⟩, ⟨(some 38), none, .mov (.t 0)⟩, ⟨(some 39), none, .mov (.t 5)⟩, ⟨(some 40), none, .mov (.t 6)⟩, ⟨(some 41), none, .ck (.t 38)⟩, ⟨(some 42), none, .fa 10 (.t 41)⟩, ⟨(some 43), none, .ia 8 64 (.t 42) (.t 39)⟩, ⟨(some 44), none, .ia 8 8 (.t 43) (.t 40)⟩, ⟨(some 45), none, .ld (some 8) (.t 44)⟩, ⟨(some 46), none, .call 104 [(.t 35), (.t 37), (.t 45)]⟩, ⟨(some 47), none, .eqa true 8 (.t 34) (.t 46)⟩])
(.cond (.t 47)
(.seq
(.reg [⟨(some 48), none, .mov (.t 4)⟩, ⟨(some 49), none, .mov (.t 5)⟩, ⟨(some 50), none, .mov (.t 6)⟩, ⟨(some 51), none, .bsl 2 3 1 [(1, (.int .i64 0))] [(0, 1, (.t 48)), (1, 1, (.t 49)), (2, 1, (.t 50))]⟩, ⟨(some 2), none, .mov (.t 51)⟩])
.ret)
.skip))))
(.reg [⟨(some 52), none, .bin .add (.t 20) (.c (.int .i64 1))⟩, ⟨(some 20), none, .mov (.t 52)⟩])))))))))
(.reg [⟨(some 53), none, .bin .add (.t 16) (.c (.int .i64 1))⟩, ⟨(some 16), none, .mov (.t 53)⟩])))))))))
(.reg [⟨(some 54), none, .bin .add (.t 12) (.c (.int .i64 1))⟩, ⟨(some 12), none, .mov (.t 54)⟩])))))))
(.seq
(.reg [⟨(some 2), none, .mov (.c .nils)⟩])
.ret))))
theorem tr105 : trFn Try.prog Try.f105 = some (55, ir105, [.tmp 2]) := by kernel_rfl

/-- (*loop.example/g01230/impl.Coalgebra).isCounit -/
def ir106 : Cd :=
(.seq
(.reg [⟨(some 2), none, .mov (.c (.bool false))⟩])
(.seq
(.reg [⟨(some 8), none, .mov (.t 0)⟩, ⟨(some 9), none, .call 120 [(.t 8)]⟩, ⟨(some 3), none, .new 75 [(2, (.int .i64 0))]⟩, ⟨none, none, .st 2 (.t 3) (.t 9)⟩])
(.seq
(.seq
(.reg [⟨(some 10), none, .fa 1 (.t 3)⟩, ⟨(some 11), none, .ld none (.t 10)⟩, ⟨(some 12), none, .mov (.c (.int .i64 0))⟩])
(.block 0
(.loop
(.seq
(.reg [⟨(some 13), none, .bin .lss (.t 12) (.t 11)⟩])
(.seq
(.cond (.t 13)
.skip
(.exit 0))
(.seq
(.block 1
(.seq
(.reg [⟨(some 14), none, .mov (.t 12)⟩, ⟨(some 4), none, .mov (.t 14)⟩])
(.seq
(.reg [⟨(some 15), none, .build 8 [(8, (.int .u8 0))] []⟩, ⟨(some 16), none, .build 8 [(8, (.int .u8 0))] []⟩, ⟨(some 5), none, .new 30 [(8, (.int .u8 0))]⟩, ⟨(some 6), none, .new 30 [(8, (.int .u8 0))]⟩, ⟨none, none, .st 8 (.t 5) (.t 15)⟩, ⟨none, none, .st 8 (.t 6) (.t 16)⟩])
(.seq
(.seq
(.reg [⟨(some 17), none, .fa 1 (.t 3)⟩, ⟨(some 18), none, .ld none (.t 17)⟩, ⟨(some 19), none, .mov (.c (.int .i64 0))⟩])
(.block 2
(.loop
(.seq
(.reg [⟨(some 20), none, .bin .lss (.t 19) (.t 18)⟩])
(.seq
(.cond (.t 20)
.skip
(.exit 2))
(.seq
(.block 3
(.seq
(.reg [⟨(some 21), none, .mov (.t 19)⟩, ⟨(some 7), none, .mov (.t 21)⟩])
(.seq
(.drw true [16] [⟨(some 22), none, .ld (some 2) (.t 3)⟩, ⟨(some 23), none, .mov (.t 0)⟩, ⟨(some 24), none, .mov (.t 7)⟩, ⟨(some 25), none, .ck (.t 23)⟩, ⟨(some 26), none, .fa 2 (.t 25)⟩, ⟨(some 27), none, .ia 8 1 (.t 26) (.t 24)⟩, ⟨(some 28), none, .ld none (.t 27)⟩, ⟨(some 29), none, .cv .i64 (.t 28)⟩, ⟨(some 30), none, .mov (.t 0)⟩, ⟨(some 31), none, .mov (.t 4)⟩, ⟨(some 32), none, .mov (.t 7)⟩, ⟨(some 33), none, .ck (.t 30)⟩, ⟨(some 34), none, .fa 10 (.t 33)⟩, ⟨(some 35), none, .ia 8 64 (.t 34) (.t 31)⟩, ⟨(some 36), none, .ia 8 8 (.t 35) (.t 32)⟩, ⟨(some 37), none, .ld (some 8) (.t 36)⟩, ⟨(some 38), none, .call 91 [(.t 22), (.t 5), (.t 29), (.t 37)]⟩])
(.drw true [17] [⟨(some 39), none, .mov (.t 7)⟩, ⟨(some 40), none, .ld (some 2) (.t 3)⟩, ⟨(some 41), none, .mov (.t 0)⟩, ⟨(some 42), none, .ck (.t 41)⟩, ⟨(some 43), none, .fa 2 (.t 42)⟩, ⟨(some 44), none, .ld (some 8) (.t 43)⟩, ⟨(some 45), none, .mov (.t 0)⟩, ⟨(some 46), none, .mov (.t 4)⟩, ⟨(some 47), none, .mov (.t 7)⟩, ⟨(some 48), none, .ck (.t 45)⟩, ⟨(some 49), none, .fa 10 (.t 48)⟩, ⟨(some 50), none, .ia 8 64 (.t 49) (.t 46)⟩, ⟨(some 51), none, .ia 8 8 (.t 50) (.t 47)⟩, ⟨(some 52), none, .ld (some 8) (.t 51)⟩, ⟨(some 53), none, .call 62 [(.t 40), (.t 44), (.t 52)]⟩, ⟨(some 54), none, .cv .u8 (.t 53)⟩, ⟨(some 55), none, .ia 8 1 (.t 6) (.t 39)⟩, ⟨none, none, .st 1 (.t 55) (.t 54)⟩]))))
(.reg [⟨(some 56), none, .bin .add (.t 19) (.c (.int .i64 1))⟩, ⟨(some 19), none, .mov (.t 56)⟩])))))))
(.seq
(.drw true [] [⟨(some 57), none, .ld (some 8) (.t 5)⟩, ⟨(some 58), none, .mov (.t 4)⟩, ⟨(some 59), none, .call 61 [(.t 58)]⟩, ⟨(some 60), none, .eqa true 8 (.t 57) (.t 59)⟩, ⟨(some 61), none, .mov (.t 60)⟩, ⟨(some 62), (some (61, false)), .ld (some 8) (.t 6)⟩, ⟨(some 63), (some (61, false)), .mov (.t 4)⟩, ⟨(some 64), (some (61, false)), .call 61 [(.t 63)]⟩, ⟨(some 65), (some (61, false)), .eqa true 8 (.t 62) (.t 64)⟩, ⟨(some 66), none, .pick (.t 61) (.c (.bool true)) (.t 65)⟩])
(.cond (.t 66)
(.seq
(.reg [⟨(some 2), none, .mov (.c (.bool false))⟩])
.ret)
.skip))))))
(.reg [⟨(some 67), none, .bin .add (.t 12) (.c (.int .i64 1))⟩, ⟨(some 12), none, .mov (.t 67)⟩])))))))
(.seq
(.reg [⟨(some 2), none, .mov (.c (.bool true))⟩])
.ret))))
theorem tr106 : trFn Try.prog Try.f106 = some (68, ir106, [.tmp 2]) := by kernel_rfl

/-- (*loop.example/g01230/impl.Coalgebra).fault -/
def ir107 : Cd :=
(.seq
(.reg [⟨(some 2), none, .mov (.c .nils)⟩])
(.seq
(.reg [⟨(some 9), none, .mov (.t 0)⟩, ⟨(some 10), none, .ck (.t 9)⟩, ⟨(some 11), none, .fa 1 (.t 10)⟩, ⟨(some 12), none, .ld none (.t 11)⟩, ⟨(some 3), none, .mov (.t 12)⟩])
(.seq
(.seq
(.reg [⟨(some 13), none, .mov (.t 3)⟩, ⟨(some 14), none, .mov (.t 3)⟩, ⟨(some 15), none, .bin .mul (.t 13) (.t 14)⟩, ⟨(some 16), none, .mov (.t 3)⟩, ⟨(some 17), none, .bin .mul (.t 15) (.t 16)⟩, ⟨(some 18), none, .mov (.t 3)⟩, ⟨(some 19), none, .bin .mul (.t 17) (.t 18)⟩, ⟨(some 20), none, .mov (.c (.int .i64 0))⟩])
(.block 0
(.loop
(.seq
(.reg [⟨(some 21), none, .bin .lss (.t 20) (.t 19)⟩])
(.seq
(.cond (.t 21)
.skip
(.exit 0))
(.seq
(.block 1
(.seq
(.reg [⟨(some 22), none, .mov (.t 20)⟩, ⟨(some 4), none, .mov (.t 22)⟩])
(.seq
(.drw true [] [⟨(some 23), none, .mov (.t 4)⟩, ⟨(some 24), none, .mov (.t 3)⟩, ⟨(some 25), none, .mov (.t 3)⟩, ⟨(some 26), none, .bin .mul (.t 24) (.t 25)⟩, ⟨(some 27), none, .mov (.t 3)⟩, ⟨(some 28), none, .bin .mul (.t 26) (.t 27)⟩, ⟨(some 29), none, .bin .quo (.t 23) (.t 28)⟩, ⟨(some 30), none, .mov (.t 4)⟩, ⟨(some 31), none, .mov (.t 3)⟩, ⟨(some 32), none, .mov (.t 3)⟩, ⟨(some 33), none, .bin .mul (.t 31) (.t 32)⟩, ⟨(some 34), none, .bin .quo (.t 30) (.t 33)⟩, ⟨(some 35), none, .mov (.t 3)⟩, ⟨(some 36), none, .bin .rem (.t 34) (.t 35)⟩, ⟨(some 37), none, .mov (.t 4)⟩, ⟨(some 38), none, .mov (.t 3)⟩, ⟨(some 39), none, .bin .quo (.t 37) (.t 38)⟩, ⟨(some 40), none, .mov (.t 3)⟩, ⟨(some 41), none, .bin .rem (.t 39) (.t 40)⟩, ⟨(some 42), none, .mov (.t 4)⟩, ⟨(some 43), none, .mov (.t 3)⟩, ⟨(some 44), none, .bin .rem (.t 42) (.t 43)⟩, ⟨(some 5), none, .mov (.t 29)⟩, ⟨(some 6), none, .mov (.t 36)⟩, ⟨(some 7), none, .mov (.t 41)⟩, ⟨(some 8), none, .mov (.t 44)⟩])
(.seq
(.reg [⟨(some 45), none, .mov (.t 0)⟩, ⟨(some 46), none, .mov (.t 5)⟩, ⟨(some 47), none, .mov (.t 6)⟩, ⟨(some 48), none, .mov (.t 7)⟩, ⟨(some 49), none, .mov (.t 8)⟩, ⟨(some 50), none, .call 121 [(.t 45), (.t 46), (.t 47), (.t 48), (.t 49)]⟩])
(.cond (.t 50)
(.seq
(.reg [⟨(some 51), none, .mov (.t 5)⟩, ⟨(some 52), none, .mov (.t 6)⟩, ⟨(some 53), none, .mov (.t 7)⟩, ⟨(some 54), none, .mov (.t 8)⟩, ⟨(some 55), none, .bsl 2 4 1 [(1, (.int .i64 0))] [(0, 1, (.t 51)), (1, 1, (.t 52)), (2, 1, (.t 53)), (3, 1, (.t 54))]⟩, ⟨(some 2), none, .mov (.t 55)⟩])
.ret)
.skip)))))
(.reg [⟨(some 56), none, .bin .add (.t 20) (.c (.int .i64 1))⟩, ⟨(some 20), none, .mov (.t 56)⟩])))))))
(.seq
(.reg [⟨(some 2), none, .mov (.c .nils)⟩])
.ret))))
theorem tr107 : trFn Try.prog Try.f107 = some (57, ir107, [.tmp 2]) := by kernel_rfl

/-- (*loop.example/g01230/impl.Hopf).coproduct -/
def ir108 : Cd :=
(.seq
(.reg [⟨(some 3), none, .box 30 (.t 1)⟩, ⟨(some 4), none, .new 32 [(64, (.int .u8 0))]⟩])
(.seq
(.reg [⟨(some 10), none, .mov (.t 0)⟩, ⟨(some 11), none, .call 44 [(.t 10)]⟩, ⟨(some 12), none, .build 64 [(64, (.int .u8 0))] []⟩, ⟨(some 5), none, .new 75 [(2, (.int .i64 0))]⟩, ⟨(some 6), none, .new 32 [(64, (.int .u8 0))]⟩, ⟨none, none, .st 2 (.t 5) (.t 11)⟩, ⟨none, none, .st 64 (.t 6) (.t 12)⟩])
(.seq
(.seq
(.reg [⟨(some 13), none, .ld (some 8) (.t 3)⟩, ⟨(some 14), none, .mov (.c (.int .i64 0))⟩])
(.block 0
(.loop
(.seq
(.reg [⟨(some 15), none, .bin .lss (.t 14) (.c (.int .i64 8))⟩])
(.seq
(.cond (.t 15)
.skip
(.exit 0))
(.seq
(.block 1
(.seq
(.reg [⟨(some 16), none, .mov (.t 14)⟩, ⟨(some 17), none, .ix 8 1 none (.t 13) (.t 14)⟩, ⟨(some 7), none, .mov (.t 16)⟩, ⟨(some 8), none, .mov (.t 17)⟩])
(.seq
(.reg [⟨(some 9), none, .mov (.c (.int .i64 0))⟩])
(.block 2
(.loop
(.seq
(.seq
(.reg [⟨(some 18), none, .mov (.t 8)⟩, ⟨(some 19), none, .bin .neq (.t 18) (.c (.int .u8 0))⟩, ⟨(some 20), none, .mov (.t 19)⟩, ⟨(some 21), (some (20, true)), .mov (.t 9)⟩, ⟨(some 22), (some (20, true)), .fa 1 (.t 5)⟩, ⟨(some 23), (some (20, true)), .ld none (.t 22)⟩, ⟨(some 24), (some (20, true)), .bin .lss (.t 21) (.t 23)⟩, ⟨(some 25), none, .pick (.t 20) (.t 24) (.c (.bool false))⟩])
(.cond (.t 25)
.skip
(.exit 2)))
(.seq
(.block 3
(.drw true [13] [⟨(some 28), none, .ld (some 2) (.t 5)⟩, ⟨(some 29), none, .mov (.t 9)⟩, ⟨(some 30), none, .ia 8 8 (.t 6) (.t 29)⟩, ⟨(some 31), none, .mov (.t 8)⟩, ⟨(some 32), none, .cv .i64 (.t 31)⟩, ⟨(some 33), none, .mov (.t 0)⟩, ⟨(some 34), none, .mov (.t 7)⟩, ⟨(some 35), none, .mov (.t 9)⟩, ⟨(some 36), none, .ck (.t 33)⟩, ⟨(some 37), none, .fa 530 (.t 36)⟩, ⟨(some 38), none, .ia 8 64 (.t 37) (.t 34)⟩, ⟨(some 39), none, .ia 8 8 (.t 38) (.t 35)⟩, ⟨(some 40), none, .ld (some 8) (.t 39)⟩, ⟨(some 41), none, .call 91 [(.t 28), (.t 30), (.t 32), (.t 40)]⟩]))
(.reg [⟨(some 26), none, .mov (.t 9)⟩, ⟨(some 27), none, .bin .add (.t 26) (.c (.int .i64 1))⟩, ⟨(some 9), none, .mov (.t 27)⟩]))))))))
(.reg [⟨(some 42), none, .bin .add (.t 14) (.c (.int .i64 1))⟩, ⟨(some 14), none, .mov (.t 42)⟩])))))))
(.seq
(.reg [⟨(some 43), none, .ld (some 64) (.t 6)⟩, ⟨none, none, .st 64 (.t 4) (.t 43)⟩])
.ret))))
theorem tr108 : trFn Try.prog Try.f108 = some (44, ir108, [.cell (some 64) 4]) := by kernel_rfl

/-- (*loop.example/g01230/impl.Hopf).tensor -/
def ir109 : Cd :=
(.seq
(.reg [⟨(some 3), none, .box 68 (.t 0)⟩, ⟨(some 5), none, .box 69 (.t 2)⟩, ⟨(some 6), none, .new 32 [(64, (.int .u8 0))]⟩])
(.seq
(.reg [⟨(some 9), none, .ld none (.t 3)⟩, ⟨(some 10), none, .call 44 [(.t 9)]⟩, ⟨(some 11), none, .build 64 [(64, (.int .u8 0))] []⟩, ⟨(some 7), none, .new 75 [(2, (.int .i64 0))]⟩, ⟨(some 8), none, .new 32 [(64, (.int .u8 0))]⟩, ⟨none, none, .st 2 (.t 7) (.t 10)⟩, ⟨none, none, .st 64 (.t 8) (.t 11)⟩])
(.seq
(.reg [⟨(some 12), none, .mov (.t 1)⟩, ⟨(some 13), none, .mkf 122 [] [(.t 5), (.t 3), (.t 7), (.t 8)]⟩, ⟨(some 14), none, .call 92 [(.t 12), (.t 13)]⟩])
(.seq
(.reg [⟨(some 15), none, .ld (some 64) (.t 8)⟩, ⟨none, none, .st 64 (.t 6) (.t 15)⟩])
.ret))))
theorem tr109 : trFn Try.prog Try.f109 = some (16, ir109, [.cell (some 64) 6]) := by kernel_rfl

/-- (*loop.example/g01230/impl.Hopf).counit -/
def ir110 : Cd :=
(.seq
(.reg [⟨(some 3), none, .box 30 (.t 1)⟩, ⟨(some 4), none, .mov (.c (.int .i64 0))⟩])
(.seq
(.drwo true [7] [0, 2, 3, 4, 5, 6, 1, 7, 8] [⟨(some 5), none, .mov (.t 0)⟩, ⟨(some 6), none, .call 44 [(.t 5)]⟩, ⟨(some 7), none, .mov (.t 0)⟩, ⟨(some 8), none, .ck (.t 7)⟩, ⟨(some 9), none, .fa 522 (.t 8)⟩, ⟨(some 10), none, .ld (some 8) (.t 9)⟩, ⟨(some 11), none, .ld (some 8) (.t 3)⟩, ⟨(some 12), none, .call 62 [(.t 6), (.t 10), (.t 11)]⟩, ⟨(some 4), none, .mov (.t 12)⟩])
.ret))
theorem tr110 : trFn Try.prog Try.f110 = some (13, ir110, [.tmp 4]) := by kernel_rfl

/-- (*loop.example/g01230/impl.Hopf).folded -/
def ir111 : Cd :=
(.seq
(.reg [⟨(some 3), none, .box 68 (.t 0)⟩, ⟨(some 5), none, .box 4 (.t 2)⟩, ⟨(some 6), none, .new 30 [(8, (.int .u8 0))]⟩])
(.seq
(.reg [⟨(some 9), none, .ld none (.t 3)⟩, ⟨(some 10), none, .call 44 [(.t 9)]⟩, ⟨(some 11), none, .build 8 [(8, (.int .u8 0))] []⟩, ⟨(some 7), none, .new 75 [(2, (.int .i64 0))]⟩, ⟨(some 8), none, .new 30 [(8, (.int .u8 0))]⟩, ⟨none, none, .st 2 (.t 7) (.t 10)⟩, ⟨none, none, .st 8 (.t 8) (.t 11)⟩])
(.seq
(.reg [⟨(some 12), none, .ld none (.t 3)⟩, ⟨(some 13), none, .mov (.t 1)⟩, ⟨(some 14), none, .ck (.t 12)⟩, ⟨(some 15), none, .fa 530 (.t 14)⟩, ⟨(some 16), none, .ia 8 64 (.t 15) (.t 13)⟩, ⟨(some 17), none, .mkf 124 [] [(.t 5), (.t 7), (.t 8), (.t 3)]⟩, ⟨(some 18), none, .call 92 [(.t 16), (.t 17)]⟩])
(.seq
(.reg [⟨(some 19), none, .ld (some 8) (.t 8)⟩, ⟨none, none, .st 8 (.t 6) (.t 19)⟩])
.ret))))
theorem tr111 : trFn Try.prog Try.f111 = some (20, ir111, [.cell (some 8) 6]) := by kernel_rfl

/-- loop.example/g01230/spec.l01Prime -/
def ir112 : Cd :=
(.seq
(.reg [⟨(some 2), none, .mov (.c (.bool false))⟩])
(.seq
(.seq
(.reg [⟨(some 3), none, .mov (.c (.int .i64 2))⟩])
(.block 0
(.loop
(.seq
(.seq
(.reg [⟨(some 4), none, .mov (.t 3)⟩, ⟨(some 5), none, .mov (.t 0)⟩, ⟨(some 6), none, .bin .lss (.t 4) (.t 5)⟩, ⟨(some 7), none, .mov (.t 6)⟩, ⟨(some 8), (some (7, true)), .mov (.t 3)⟩, ⟨(some 9), (some (7, true)), .bin .leq (.t 8) (.c (.int .i64 31))⟩, ⟨(some 10), none, .pick (.t 7) (.t 9) (.c (.bool false))⟩])
(.cond (.t 10)
.skip
(.exit 0)))
(.seq
(.block 1
(.seq
(.reg [⟨(some 13), none, .mov (.t 0)⟩, ⟨(some 14), none, .mov (.t 3)⟩, ⟨(some 15), none, .bin .rem (.t 13) (.t 14)⟩, ⟨(some 16), none, .bin .eql (.t 15) (.c (.int .i64 0))⟩])
(.cond (.t 16)
(.seq
(.reg [⟨(some 2), none, .mov (.c (.bool false))⟩])
.ret)
.skip)))
(.reg [⟨(some 11), none, .mov (.t 3)⟩, ⟨(some 12), none, .bin .add (.t 11) (.c (.int .i64 1))⟩, ⟨(some 3), none, .mov (.t 12)⟩]))))))
(.seq
(.reg [⟨(some 17), none, .mov (.t 0)⟩, ⟨(some 18), none, .call 113 [(.t 17), (.c (.int .i64 2)), (.c (.int .i64 31))]⟩, ⟨(some 2), none, .mov (.t 18)⟩])
.ret)))
theorem tr112 : trFn Try.prog Try.f112 = some (19, ir112, [.tmp 2]) := by kernel_rfl

/-- loop.example/g01230/spec.l01In -/
def ir113 : Cd :=
(.seq
(.reg [⟨(some 6), none, .mov (.c (.bool false))⟩])
(.seq
(.reg [⟨(some 7), none, .mov (.t 0)⟩, ⟨(some 8), none, .mov (.t 1)⟩, ⟨(some 9), none, .bin .geq (.t 7) (.t 8)⟩, ⟨(some 10), none, .mov (.t 9)⟩, ⟨(some 11), (some (10, true)), .mov (.t 0)⟩, ⟨(some 12), (some (10, true)), .mov (.t 2)⟩, ⟨(some 13), (some (10, true)), .bin .leq (.t 11) (.t 12)⟩, ⟨(some 14), none, .pick (.t 10) (.t 13) (.c (.bool false))⟩, ⟨(some 6), none, .mov (.t 14)⟩])
.ret))
theorem tr113 : trFn Try.prog Try.f113 = some (15, ir113, [.tmp 6]) := by kernel_rfl

/-- loop.example/g01230/spec.l01Times -/
def ir114 : Cd :=
(.seq
(.reg [⟨(some 3), none, .box 102 (.t 0)⟩, ⟨(some 4), none, .box 30 (.t 1)⟩, ⟨(some 5), none, .box 30 (.t 2)⟩, ⟨(some 6), none, .new 30 [(8, (.int .u8 0))]⟩])
(.seq
(.reg [⟨(some 9), none, .build 8 [(8, (.int .u8 0))] []⟩, ⟨(some 7), none, .new 30 [(8, (.int .u8 0))]⟩, ⟨none, none, .st 8 (.t 7) (.t 9)⟩])
(.seq
(.seq
(.reg [⟨(some 8), none, .mov (.c (.int .i64 0))⟩])
(.block 0
(.loop
(.seq
(.seq
(.reg [⟨(some 10), none, .mov (.t 8)⟩, ⟨(some 11), none, .fa 1 (.t 3)⟩, ⟨(some 12), none, .ld none (.t 11)⟩, ⟨(some 13), none, .bin .lss (.t 10) (.t 12)⟩])
(.cond (.t 13)
.skip
(.exit 0)))
(.seq
(.block 1
(.seq
(.reg [⟨(some 16), none, .mov (.t 8)⟩, ⟨(some 17), none, .ia 8 1 (.t 4) (.t 16)⟩, ⟨(some 18), none, .ld none (.t 17)⟩, ⟨(some 19), none, .bin .neq (.t 18) (.c (.int .u8 0))⟩])
(.cond (.t 19)
(.drwo true [17, 18] [0, 1, 2, 3, 4, 5, 6, 7, 8, 9, 10, 11, 13, 14, 15, 16, 12, 17, 18] [⟨(some 20), none, .fa 0 (.t 3)⟩, ⟨(some 21), none, .ld none (.t 20)⟩, ⟨(some 22), none, .ld (some 8) (.t 7)⟩, ⟨(some 23), none, .fa 0 (.t 3)⟩, ⟨(some 24), none, .ld none (.t 23)⟩, ⟨(some 25), none, .fa 1 (.t 3)⟩, ⟨(some 26), none, .ld none (.t 25)⟩, ⟨(some 27), none, .mov (.t 8)⟩, ⟨(some 28), none, .fa 10 (.t 3)⟩, ⟨(some 29), none, .ia 8 64 (.t 28) (.t 27)⟩, ⟨(some 30), none, .ld (some 64) (.t 29)⟩, ⟨(some 31), none, .ld (some 8) (.t 5)⟩, ⟨(some 32), none, .call 126 [(.t 24), (.t 26), (.t 30), (.t 31)]⟩, ⟨(some 33), none, .mov (.t 8)⟩, ⟨(some 34), none, .ia 8 1 (.t 4) (.t 33)⟩, ⟨(some 35), none, .ld none (.t 34)⟩, ⟨(some 36), none, .cv .i64 (.t 35)⟩, ⟨(some 37), none, .call 55 [(.t 21), (.t 22), (.t 32), (.t 36)]⟩, ⟨none, none, .st 8 (.t 7) (.t 37)⟩])
.skip)))
(.reg [⟨(some 14), none, .mov (.t 8)⟩, ⟨(some 15), none, .bin .add (.t 14) (.c (.int .i64 1))⟩, ⟨(some 8), none, .mov (.t 15)⟩]))))))
(.seq
(.reg [⟨(some 38), none, .ld (some 8) (.t 7)⟩, ⟨none, none, .st 8 (.t 6) (.t 38)⟩])
.ret))))
theorem tr114 : trFn Try.prog Try.f114 = some (39, ir114, [.cell (some 8) 6]) := by kernel_rfl

/-- loop.example/g01230/spec.l01Fault -/
def ir115 : Cd :=
(.seq
(.reg [⟨(some 1), none, .box 102 (.t 0)⟩, ⟨(some 2), none, .mov (.c .nils)⟩, ⟨(some 3), none, .mov (.c (.bool false))⟩])
(.seq
(.seq
(.reg [⟨(some 4), none, .mov (.c (.int .i64 0))⟩])
(.block 0
(.loop
(.seq
(.seq
(.reg [⟨(some 7), none, .mov (.t 4)⟩, ⟨(some 8), none, .fa 1 (.t 1)⟩, ⟨(some 9), none, .ld none (.t 8)⟩, ⟨(some 10), none, .bin .lss (.t 7) (.t 9)⟩])
(.cond (.t 10)
.skip
(.exit 0)))
(.seq
(.block 1
(.seq
(.reg [⟨(some 5), none, .mov (.c (.int .i64 0))⟩])
(.block 2
(.loop
(.seq
(.seq
(.reg [⟨(some 13), none, .mov (.t 5)⟩, ⟨(some 14), none, .fa 1 (.t 1)⟩, ⟨(some 15), none, .ld none (.t 14)⟩, ⟨(some 16), none, .bin .lss (.t 13) (.t 15)⟩])
(.cond (.t 16)
.skip
(.exit 2)))
(.seq
(.block 3
(.seq
(.reg [⟨(some 6), none, .mov (.c (.int .i64 0))⟩])
(.block 4
(.loop
(.seq
(.seq
(.reg [⟨(some 19), none, .mov (.t 6)⟩, ⟨(some 20), none, .fa 1 (.t 1)⟩, ⟨(some 21), none, .ld none (.t 20)⟩, ⟨(some 22), none, .bin .lss (.t 19) (.t 21)⟩])
(.cond (.t 22)
.skip
(.exit 4)))
(.seq
(.block 5
(.seq
(.drwo true [19] [0, 1, 2, 3, 4, 5, 6, 7, 10, 11, 13, 14, 15, 16, 17, 18, 8, 9, 12, 19, 20] [⟨(some 25), none, .ld (some 522) (.t 1)⟩, ⟨(some 26), none, .mov (.t 4)⟩, ⟨(some 27), none, .mov (.t 5)⟩, ⟨(some 28), none, .fa 10 (.t 1)⟩, ⟨(some 29), none, .ia 8 64 (.t 28) (.t 26)⟩, ⟨(some 30), none, .ia 8 8 (.t 29) (.t 27)⟩, ⟨(some 31), none, .ld (some 8) (.t 30)⟩, ⟨(some 32), none, .mov (.t 6)⟩, ⟨(some 33), none, .call 59 [(.t 32)]⟩, ⟨(some 34), none, .call 114 [(.t 25), (.t 31), (.t 33)]⟩, ⟨(some 35), none, .ld (some 522) (.t 1)⟩, ⟨(some 36), none, .mov (.t 4)⟩, ⟨(some 37), none, .call 59 [(.t 36)]⟩, ⟨(some 38), none, .mov (.t 5)⟩, ⟨(some 39), none, .mov (.t 6)⟩, ⟨(some 40), none, .fa 10 (.t 1)⟩, ⟨(some 41), none, .ia 8 64 (.t 40) (.t 38)⟩, ⟨(some 42), none, .ia 8 8 (.t 41) (.t 39)⟩, ⟨(some 43), none, .ld (some 8) (.t 42)⟩, ⟨(some 44), none, .call 114 [(.t 35), (.t 37), (.t 43)]⟩, ⟨(some 45), none, .eqa true 8 (.t 34) (.t 44)⟩])
(.cond (.t 45)
(.seq
(.reg [⟨(some 46), none, .mov (.t 4)⟩, ⟨(some 47), none, .mov (.t 5)⟩, ⟨(some 48), none, .mov (.t 6)⟩, ⟨(some 49), none, .bsl 2 3 1 [(1, (.int .i64 0))] [(0, 1, (.t 46)), (1, 1, (.t 47)), (2, 1, (.t 48))]⟩, ⟨(some 2), none, .mov (.t 49)⟩, ⟨(some 3), none, .mov (.c (.bool true))⟩])
.ret)
.skip)))
(.reg [⟨(some 23), none, .mov (.t 6)⟩, ⟨(some 24), none, .bin .add (.t 23) (.c (.int .i64 1))⟩, ⟨(some 6), none, .mov (.t 24)⟩])))))))
(.reg [⟨(some 17), none, .mov (.t 5)⟩, ⟨(some 18), none, .bin .add (.t 17) (.c (.int .i64 1))⟩, ⟨(some 5), none, .mov (.t 18)⟩])))))))
(.reg [⟨(some 11), none, .mov (.t 4)⟩, ⟨(some 12), none, .bin .add (.t 11) (.c (.int .i64 1))⟩, ⟨(some 4), none, .mov (.t 12)⟩]))))))
(.seq
(.reg [⟨(some 2), none, .mov (.c .nils)⟩, ⟨(some 3), none, .mov (.c (.bool false))⟩])
.ret)))
theorem tr115 : trFn Try.prog Try.f115 = some (50, ir115, [.tmp 2, .tmp 3]) := by kernel_rfl

end Go.Proofs.Ytnkmpelakhhoiaa

/- The short form of each function, and that it is one. -/
import Derived.Test.YthmlbbnnlkcgcaaProg
import Derived.Test.YthmlbbnnlkcgcaaVI
import Derived.KernelRfl
namespace Go.Proofs.Ythmlbbnnlkcgcaa
open Go.V
set_option maxRecDepth 100000

/-- gosem.cut.init -/
def ir2 : Cd :=
(.reg [⟨(some 0), none, .call 1 []⟩])
theorem tr2 : trFn Try.prog Try.f2 = some (1, ir2, []) := by kernel_rfl

/-- loop.example/g01230/laws.FnExactCyclicBicharacter -/
def ir3 : Cd :=
(.seq
(.reg [⟨(some 6), none, .mov (.c (.bool false))⟩])
(.seq
(.reg [⟨(some 12), none, .mov (.t 0)⟩, ⟨(some 13), none, .mov (.t 1)⟩, ⟨(some 14), none, .mov (.t 2)⟩, ⟨(some 15), none, .call 5 [(.t 12), (.t 13), (.t 14)]⟩, ⟨(some 11), none, .mov (.t 15)⟩, ⟨(some 16), none, .ex (.t 11) 0⟩, ⟨(some 17), none, .ex (.t 11) 1⟩, ⟨(some 7), none, .new 25 [(64, (.int .u8 0))]⟩, ⟨none, none, .st 64 (.t 7) (.t 16)⟩, ⟨(some 8), none, .mov (.t 17)⟩])
(.seq
(.reg [⟨(some 19), none, .mov (.t 0)⟩, ⟨(some 20), none, .mov (.t 1)⟩, ⟨(some 21), none, .mov (.t 2)⟩, ⟨(some 22), none, .call 6 [(.t 19), (.t 20), (.t 21)]⟩, ⟨(some 18), none, .mov (.t 22)⟩, ⟨(some 23), none, .ex (.t 18) 0⟩, ⟨(some 24), none, .ex (.t 18) 1⟩, ⟨(some 9), none, .new 25 [(64, (.int .u8 0))]⟩, ⟨none, none, .st 64 (.t 9) (.t 23)⟩, ⟨(some 10), none, .mov (.t 24)⟩])
(.seq
(.seq
(.reg [⟨(some 25), none, .ld (some 64) (.t 9)⟩, ⟨(some 26), none, .ld (some 64) (.t 7)⟩, ⟨(some 27), none, .call 7 [(.t 25), (.t 26)]⟩, ⟨(some 28), none, .un .not (.t 27)⟩, ⟨(some 29), none, .mov (.t 28)⟩, ⟨(some 30), (some (29, false)), .mov (.t 10)⟩, ⟨(some 31), (some (29, false)), .mov (.t 8)⟩, ⟨(some 32), (some (29, false)), .bin .neq (.t 30) (.t 31)⟩, ⟨(some 33), none, .pick (.t 29) (.c (.bool true)) (.t 32)⟩])
(.cond (.t 33)
(.seq
(.reg [⟨(some 6), none, .mov (.c (.bool false))⟩])
.ret)
.skip))
(.seq
(.reg [⟨(some 6), none, .mov (.c (.bool true))⟩])
.ret)))))
theorem tr3 : trFn Try.prog Try.f3 = some (34, ir3, [.tmp 6]) := by kernel_rfl

/-- loop.example/g01230/laws.FnExactRootMatrix -/
def ir4 : Cd :=
(.seq
(.reg [⟨(some 6), none, .mov (.c (.bool false))⟩])
(.seq
(.reg [⟨(some 12), none, .mov (.t 0)⟩, ⟨(some 13), none, .mov (.t 1)⟩, ⟨(some 14), none, .mov (.t 2)⟩, ⟨(some 15), none, .call 8 [(.t 12), (.t 13), (.t 14)]⟩, ⟨(some 11), none, .mov (.t 15)⟩, ⟨(some 16), none, .ex (.t 11) 0⟩, ⟨(some 17), none, .ex (.t 11) 1⟩, ⟨(some 7), none, .new 25 [(64, (.int .u8 0))]⟩, ⟨none, none, .st 64 (.t 7) (.t 16)⟩, ⟨(some 8), none, .mov (.t 17)⟩])
(.seq
(.reg [⟨(some 19), none, .mov (.t 0)⟩, ⟨(some 20), none, .mov (.t 1)⟩, ⟨(some 21), none, .mov (.t 2)⟩, ⟨(some 22), none, .call 9 [(.t 19), (.t 20), (.t 21)]⟩, ⟨(some 18), none, .mov (.t 22)⟩, ⟨(some 23), none, .ex (.t 18) 0⟩, ⟨(some 24), none, .ex (.t 18) 1⟩, ⟨(some 9), none, .new 25 [(64, (.int .u8 0))]⟩, ⟨none, none, .st 64 (.t 9) (.t 23)⟩, ⟨(some 10), none, .mov (.t 24)⟩])
(.seq
(.seq
(.reg [⟨(some 25), none, .ld (some 64) (.t 9)⟩, ⟨(some 26), none, .ld (some 64) (.t 7)⟩, ⟨(some 27), none, .call 7 [(.t 25), (.t 26)]⟩, ⟨(some 28), none, .un .not (.t 27)⟩, ⟨(some 29), none, .mov (.t 28)⟩, ⟨(some 30), (some (29, false)), .mov (.t 10)⟩, ⟨(some 31), (some (29, false)), .mov (.t 8)⟩, ⟨(some 32), (some (29, false)), .bin .neq (.t 30) (.t 31)⟩, ⟨(some 33), none, .pick (.t 29) (.c (.bool true)) (.t 32)⟩])
(.cond (.t 33)
(.seq
(.reg [⟨(some 6), none, .mov (.c (.bool false))⟩])
.ret)
.skip))
(.seq
(.reg [⟨(some 6), none, .mov (.c (.bool true))⟩])
.ret)))))
theorem tr4 : trFn Try.prog Try.f4 = some (34, ir4, [.tmp 6]) := by kernel_rfl

/-- loop.example/g01230/spec.CyclicBicharacter -/
def ir5 : Cd :=
(.seq
(.reg [⟨(some 6), none, .new 25 [(64, (.int .u8 0))]⟩, ⟨(some 7), none, .mov (.c (.int .i64 0))⟩])
(.seq
(.seq
(.reg [⟨(some 13), none, .mov (.t 0)⟩, ⟨(some 14), none, .call 10 [(.t 13)]⟩, ⟨(some 15), none, .un .not (.t 14)⟩, ⟨(some 16), none, .mov (.t 15)⟩, ⟨(some 17), (some (16, false)), .mov (.t 1)⟩, ⟨(some 18), (some (16, false)), .call 11 [(.t 17), (.c (.int .i64 1)), (.c (.int .i64 8))]⟩, ⟨(some 19), (some (16, false)), .un .not (.t 18)⟩, ⟨(some 20), none, .pick (.t 16) (.c (.bool true)) (.t 19)⟩, ⟨(some 21), none, .mov (.t 20)⟩, ⟨(some 22), (some (21, false)), .mov (.t 2)⟩, ⟨(some 23), (some (21, false)), .mov (.t 0)⟩, ⟨(some 24), (some (21, false)), .bin .sub (.t 23) (.c (.int .i64 1))⟩, ⟨(some 25), (some (21, false)), .call 11 [(.t 22), (.c (.int .i64 1)), (.t 24)]⟩, ⟨(some 26), (some (21, false)), .un .not (.t 25)⟩, ⟨(some 27), none, .pick (.t 21) (.c (.bool true)) (.t 26)⟩])
(.cond (.t 27)
(.seq
(.reg [⟨(some 28), none, .build 64 [(64, (.int .u8 0))] []⟩, ⟨none, none, .st 64 (.t 6) (.t 28)⟩, ⟨(some 7), none, .mov (.c (.int .i64 2))⟩])
.ret)
.skip))
(.seq
(.reg [⟨(some 29), none, .bsl 2 1 1 [(1, (.int .i64 0))] [(0, 1, (.c (.int .i64 1)))]⟩, ⟨(some 8), none, .mov (.t 29)⟩])
(.seq
(.seq
(.reg [⟨(some 9), none, .mov (.c (.int .i64 1))⟩])
(.block 0
(.loop
(.seq
(.seq
(.reg [⟨(some 30), none, .mov (.t 9)⟩, ⟨(some 31), none, .mov (.t 1)⟩, ⟨(some 32), none, .bin .leq (.t 30) (.t 31)⟩])
(.cond (.t 32)
.skip
(.exit 0)))
(.seq
(.block 1
(.reg [⟨(some 35), none, .mov (.t 8)⟩, ⟨(some 36), none, .mov (.t 8)⟩, ⟨(some 37), none, .mov (.t 9)⟩, ⟨(some 38), none, .bin .sub (.t 37) (.c (.int .i64 1))⟩, ⟨(some 39), none, .isl 1 (.t 36) (.t 38)⟩, ⟨(some 40), none, .ld none (.t 39)⟩, ⟨(some 41), none, .mov (.t 2)⟩, ⟨(some 42), none, .bin .mul (.t 40) (.t 41)⟩, ⟨(some 43), none, .mov (.t 0)⟩, ⟨(some 44), none, .bin .rem (.t 42) (.t 43)⟩, ⟨(some 45), none, .bsl 2 1 1 [(1, (.int .i64 0))] [(0, 1, (.t 44))]⟩, ⟨(some 46), none, .app 2 1 8 [(1, (.int .i64 0))] (.t 35) (.t 45)⟩, ⟨(some 8), none, .mov (.t 46)⟩]))
(.reg [⟨(some 33), none, .mov (.t 9)⟩, ⟨(some 34), none, .bin .add (.t 33) (.c (.int .i64 1))⟩, ⟨(some 9), none, .mov (.t 34)⟩]))))))
(.seq
(.seq
(.reg [⟨(some 47), none, .mov (.t 8)⟩, ⟨(some 48), none, .mov (.t 1)⟩, ⟨(some 49), none, .isl 1 (.t 47) (.t 48)⟩, ⟨(some 50), none, .ld none (.t 49)⟩, ⟨(some 51), none, .bin .neq (.t 50) (.c (.int .i64 1))⟩])
(.cond (.t 51)
(.seq
(.reg [⟨(some 52), none, .build 64 [(64, (.int .u8 0))] []⟩, ⟨none, none, .st 64 (.t 6) (.t 52)⟩, ⟨(some 7), none, .mov (.c (.int .i64 5))⟩])
.ret)
.skip))
(.seq
(.reg [⟨(some 53), none, .build 64 [(64, (.int .u8 0))] []⟩, ⟨(some 10), none, .new 25 [(64, (.int .u8 0))]⟩, ⟨none, none, .st 64 (.t 10) (.t 53)⟩])
(.seq
(.seq
(.reg [⟨(some 11), none, .mov (.c (.int .i64 0))⟩])
(.block 2
(.loop
(.seq
(.seq
(.reg [⟨(some 54), none, .mov (.t 11)⟩, ⟨(some 55), none, .mov (.t 1)⟩, ⟨(some 56), none, .bin .lss (.t 54) (.t 55)⟩])
(.cond (.t 56)
.skip
(.exit 2)))
(.seq
(.block 3
(.seq
(.reg [⟨(some 12), none, .mov (.c (.int .i64 0))⟩])
(.block 4
(.loop
(.seq
(.seq
(.reg [⟨(some 59), none, .mov (.t 12)⟩, ⟨(some 60), none, .mov (.t 1)⟩, ⟨(some 61), none, .bin .lss (.t 59) (.t 60)⟩])
(.cond (.t 61)
.skip
(.exit 4)))
(.seq
(.block 5
(.drw true [13] [⟨(some 64), none, .mov (.t 11)⟩, ⟨(some 65), none, .mov (.t 12)⟩, ⟨(some 66), none, .mov (.t 8)⟩, ⟨(some 67), none, .mov (.t 11)⟩, ⟨(some 68), none, .mov (.t 12)⟩, ⟨(some 69), none, .bin .mul (.t 67) (.t 68)⟩, ⟨(some 70), none, .mov (.t 1)⟩, ⟨(some 71), none, .bin .rem (.t 69) (.t 70)⟩, ⟨(some 72), none, .isl 1 (.t 66) (.t 71)⟩, ⟨(some 73), none, .ld none (.t 72)⟩, ⟨(some 74), none, .cv .u8 (.t 73)⟩, ⟨(some 75), none, .ia 8 8 (.t 10) (.t 64)⟩, ⟨(some 76), none, .ia 8 1 (.t 75) (.t 65)⟩, ⟨none, none, .st 1 (.t 76) (.t 74)⟩]))
(.reg [⟨(some 62), none, .mov (.t 12)⟩, ⟨(some 63), none, .bin .add (.t 62) (.c (.int .i64 1))⟩, ⟨(some 12), none, .mov (.t 63)⟩])))))))
(.reg [⟨(some 57), none, .mov (.t 11)⟩, ⟨(some 58), none, .bin .add (.t 57) (.c (.int .i64 1))⟩, ⟨(some 11), none, .mov (.t 58)⟩]))))))
(.seq
(.reg [⟨(some 77), none, .ld (some 64) (.t 10)⟩, ⟨none, none, .st 64 (.t 6) (.t 77)⟩, ⟨(some 7), none, .mov (.c (.int .i64 0))⟩])
.ret))))))))
theorem tr5 : trFn Try.prog Try.f5 = some (78, ir5, [.cell (some 64) 6, .tmp 7]) := by kernel_rfl

/-- loop.example/g01230/impl.CyclicBicharacter -/
def ir6 : Cd :=
(.seq
(.reg [⟨(some 6), none, .new 25 [(64, (.int .u8 0))]⟩, ⟨(some 7), none, .mov (.c (.int .i64 0))⟩])
(.seq
(.seq
(.reg [⟨(some 12), none, .mov (.t 0)⟩, ⟨(some 13), none, .call 12 [(.t 12)]⟩, ⟨(some 14), none, .un .not (.t 13)⟩, ⟨(some 15), none, .mov (.t 14)⟩, ⟨(some 16), (some (15, false)), .mov (.t 1)⟩, ⟨(some 17), (some (15, false)), .call 13 [(.t 16), (.c (.int .i64 1)), (.c (.int .i64 8))]⟩, ⟨(some 18), (some (15, false)), .un .not (.t 17)⟩, ⟨(some 19), none, .pick (.t 15) (.c (.bool true)) (.t 18)⟩, ⟨(some 20), none, .mov (.t 19)⟩, ⟨(some 21), (some (20, false)), .mov (.t 2)⟩, ⟨(some 22), (some (20, false)), .mov (.t 0)⟩, ⟨(some 23), (some (20, false)), .bin .sub (.t 22) (.c (.int .i64 1))⟩, ⟨(some 24), (some (20, false)), .call 13 [(.t 21), (.c (.int .i64 1)), (.t 23)]⟩, ⟨(some 25), (some (20, false)), .un .not (.t 24)⟩, ⟨(some 26), none, .pick (.t 20) (.c (.bool true)) (.t 25)⟩])
(.cond (.t 26)
(.seq
(.reg [⟨(some 27), none, .build 64 [(64, (.int .u8 0))] []⟩, ⟨none, none, .st 64 (.t 6) (.t 27)⟩, ⟨(some 7), none, .mov (.c (.int .i64 2))⟩])
.ret)
.skip))
(.seq
(.reg [⟨(some 28), none, .mov (.t 0)⟩, ⟨(some 29), none, .mov (.t 1)⟩, ⟨(some 30), none, .build 2 [(2, (.int .i64 0))] [(0, 1, (.t 28)), (1, 1, (.t 29))]⟩, ⟨(some 31), none, .build 64 [(64, (.int .u8 0))] []⟩, ⟨(some 8), none, .new 33 [(2, (.int .i64 0))]⟩, ⟨(some 9), none, .new 25 [(64, (.int .u8 0))]⟩, ⟨none, none, .st 2 (.t 8) (.t 30)⟩, ⟨none, none, .st 64 (.t 9) (.t 31)⟩])
(.seq
(.seq
(.reg [⟨(some 32), none, .ld (some 2) (.t 8)⟩, ⟨(some 33), none, .mov (.t 2)⟩, ⟨(some 34), none, .fa 1 (.t 8)⟩, ⟨(some 35), none, .ld none (.t 34)⟩, ⟨(some 36), none, .call 14 [(.t 32), (.t 33), (.t 35)]⟩, ⟨(some 37), none, .bin .neq (.t 36) (.c (.int .i64 1))⟩])
(.cond (.t 37)
(.seq
(.reg [⟨(some 38), none, .build 64 [(64, (.int .u8 0))] []⟩, ⟨none, none, .st 64 (.t 6) (.t 38)⟩, ⟨(some 7), none, .mov (.c (.int .i64 5))⟩])
.ret)
.skip))
(.seq
(.seq
(.reg [⟨(some 39), none, .fa 1 (.t 8)⟩, ⟨(some 40), none, .ld none (.t 39)⟩, ⟨(some 41), none, .mov (.c (.int .i64 0))⟩])
(.block 0
(.loop
(.seq
(.reg [⟨(some 42), none, .bin .lss (.t 41) (.t 40)⟩])
(.seq
(.cond (.t 42)
.skip
(.exit 0))
(.seq
(.block 1
(.seq
(.reg [⟨(some 43), none, .mov (.t 41)⟩, ⟨(some 10), none, .mov (.t 43)⟩])
(.seq
(.reg [⟨(some 44), none, .fa 1 (.t 8)⟩, ⟨(some 45), none, .ld none (.t 44)⟩, ⟨(some 46), none, .mov (.c (.int .i64 0))⟩])
(.block 2
(.loop
(.seq
(.reg [⟨(some 47), none, .bin .lss (.t 46) (.t 45)⟩])
(.seq
(.cond (.t 47)
.skip
(.exit 2))
(.seq
(.block 3
(.seq
(.reg [⟨(some 48), none, .mov (.t 46)⟩, ⟨(some 11), none, .mov (.t 48)⟩])
(.drw true [11] [⟨(some 49), none, .mov (.t 10)⟩, ⟨(some 50), none, .mov (.t 11)⟩, ⟨(some 51), none, .ld (some 2) (.t 8)⟩, ⟨(some 52), none, .mov (.t 2)⟩, ⟨(some 53), none, .mov (.t 10)⟩, ⟨(some 54), none, .mov (.t 11)⟩, ⟨(some 55), none, .bin .mul (.t 53) (.t 54)⟩, ⟨(some 56), none, .call 14 [(.t 51), (.t 52), (.t 55)]⟩, ⟨(some 57), none, .cv .u8 (.t 56)⟩, ⟨(some 58), none, .ia 8 8 (.t 9) (.t 49)⟩, ⟨(some 59), none, .ia 8 1 (.t 58) (.t 50)⟩, ⟨none, none, .st 1 (.t 59) (.t 57)⟩])))
(.reg [⟨(some 60), none, .bin .add (.t 46) (.c (.int .i64 1))⟩, ⟨(some 46), none, .mov (.t 60)⟩])))))))))
(.reg [⟨(some 61), none, .bin .add (.t 41) (.c (.int .i64 1))⟩, ⟨(some 41), none, .mov (.t 61)⟩])))))))
(.seq
(.reg [⟨(some 62), none, .ld (some 64) (.t 9)⟩, ⟨none, none, .st 64 (.t 6) (.t 62)⟩, ⟨(some 7), none, .mov (.c (.int .i64 0))⟩])
.ret))))))
theorem tr6 : trFn Try.prog Try.f6 = some (63, ir6, [.cell (some 64) 6, .tmp 7]) := by kernel_rfl

/-- loop.example/g01230/laws.eqLinear -/
def ir7 : Cd :=
(.seq
(.reg [⟨(some 2), none, .box 25 (.t 0)⟩, ⟨(some 3), none, .box 25 (.t 1)⟩, ⟨(some 4), none, .mov (.c (.bool false))⟩])
(.seq
(.seq
(.reg [⟨(some 5), none, .mov (.c (.int .i64 0))⟩])
(.block 0
(.loop
(.seq
(.seq
(.reg [⟨(some 6), none, .mov (.t 5)⟩, ⟨(some 7), none, .bin .lss (.t 6) (.c (.int .i64 8))⟩])
(.cond (.t 7)
.skip
(.exit 0)))
(.seq
(.block 1
(.seq
(.drw true [6] [⟨(some 10), none, .mov (.t 5)⟩, ⟨(some 11), none, .ia 8 8 (.t 2) (.t 10)⟩, ⟨(some 12), none, .ld (some 8) (.t 11)⟩, ⟨(some 13), none, .mov (.t 5)⟩, ⟨(some 14), none, .ia 8 8 (.t 3) (.t 13)⟩, ⟨(some 15), none, .ld (some 8) (.t 14)⟩, ⟨(some 16), none, .call 15 [(.t 12), (.t 15)]⟩, ⟨(some 17), none, .un .not (.t 16)⟩])
(.cond (.t 17)
(.seq
(.reg [⟨(some 4), none, .mov (.c (.bool false))⟩])
.ret)
.skip)))
(.reg [⟨(some 8), none, .mov (.t 5)⟩, ⟨(some 9), none, .bin .add (.t 8) (.c (.int .i64 1))⟩, ⟨(some 5), none, .mov (.t 9)⟩]))))))
(.seq
(.reg [⟨(some 4), none, .mov (.c (.bool true))⟩])
.ret)))
theorem tr7 : trFn Try.prog Try.f7 = some (18, ir7, [.tmp 4]) := by kernel_rfl

/-- loop.example/g01230/spec.RootMatrix -/
def ir8 : Cd :=
(.seq
(.reg [⟨(some 6), none, .new 25 [(64, (.int .u8 0))]⟩, ⟨(some 7), none, .mov (.c (.int .i64 0))⟩])
(.seq
(.seq
(.reg [⟨(some 8), none, .mov (.t 0)⟩, ⟨(some 9), none, .mov (.t 1)⟩, ⟨(some 10), none, .call 16 [(.t 8), (.t 9)]⟩, ⟨(some 11), none, .un .not (.t 10)⟩, ⟨(some 12), none, .mov (.t 11)⟩, ⟨(some 13), (some (12, false)), .mov (.t 2)⟩, ⟨(some 14), (some (12, false)), .mov (.t 0)⟩, ⟨(some 15), (some (12, false)), .bin .sub (.t 14) (.c (.int .i64 1))⟩, ⟨(some 16), (some (12, false)), .call 11 [(.t 13), (.c (.int .i64 1)), (.t 15)]⟩, ⟨(some 17), (some (12, false)), .un .not (.t 16)⟩, ⟨(some 18), none, .pick (.t 12) (.c (.bool true)) (.t 17)⟩, ⟨(some 19), none, .mov (.t 18)⟩, ⟨(some 20), (some (19, false)), .mov (.t 0)⟩, ⟨(some 21), (some (19, false)), .mov (.t 2)⟩, ⟨(some 22), (some (19, false)), .call 17 [(.t 20), (.t 21)]⟩, ⟨(some 23), (some (19, false)), .mov (.t 1)⟩, ⟨(some 24), (some (19, false)), .bin .neq (.t 22) (.t 23)⟩, ⟨(some 25), none, .pick (.t 19) (.c (.bool true)) (.t 24)⟩])
(.cond (.t 25)
(.seq
(.reg [⟨(some 26), none, .build 64 [(64, (.int .u8 0))] []⟩, ⟨none, none, .st 64 (.t 6) (.t 26)⟩, ⟨(some 7), none, .mov (.c (.int .i64 2))⟩])
.ret)
.skip))
(.seq
(.reg [⟨(some 27), none, .mov (.t 0)⟩, ⟨(some 28), none, .mov (.t 1)⟩, ⟨(some 29), none, .mov (.t 2)⟩, ⟨(some 30), none, .call 18 [(.t 27), (.t 28), (.t 29)]⟩, ⟨none, none, .st 64 (.t 6) (.t 30)⟩, ⟨(some 7), none, .mov (.c (.int .i64 0))⟩])
.ret)))
theorem tr8 : trFn Try.prog Try.f8 = some (31, ir8, [.cell (some 64) 6, .tmp 7]) := by kernel_rfl

/-- loop.example/g01230/impl.RootMatrix -/
def ir9 : Cd :=
(.seq
(.reg [⟨(some 6), none, .new 25 [(64, (.int .u8 0))]⟩, ⟨(some 7), none, .mov (.c (.int .i64 0))⟩])
(.seq
(.seq
(.reg [⟨(some 14), none, .mov (.t 0)⟩, ⟨(some 15), none, .call 12 [(.t 14)]⟩, ⟨(some 16), none, .un .not (.t 15)⟩, ⟨(some 17), none, .mov (.t 16)⟩, ⟨(some 18), (some (17, false)), .mov (.t 1)⟩, ⟨(some 19), (some (17, false)), .call 13 [(.t 18), (.c (.int .i64 1)), (.c (.int .i64 8))]⟩, ⟨(some 20), (some (17, false)), .un .not (.t 19)⟩, ⟨(some 21), none, .pick (.t 17) (.c (.bool true)) (.t 20)⟩, ⟨(some 22), none, .mov (.t 21)⟩, ⟨(some 23), (some (22, false)), .mov (.t 2)⟩, ⟨(some 24), (some (22, false)), .mov (.t 0)⟩, ⟨(some 25), (some (22, false)), .bin .sub (.t 24) (.c (.int .i64 1))⟩, ⟨(some 26), (some (22, false)), .call 13 [(.t 23), (.c (.int .i64 1)), (.t 25)]⟩, ⟨(some 27), (some (22, false)), .un .not (.t 26)⟩, ⟨(some 28), none, .pick (.t 22) (.c (.bool true)) (.t 27)⟩])
(.cond (.t 28)
(.seq
(.reg [⟨(some 29), none, .build 64 [(64, (.int .u8 0))] []⟩, ⟨none, none, .st 64 (.t 6) (.t 29)⟩, ⟨(some 7), none, .mov (.c (.int .i64 2))⟩])
.ret)
.skip))
(.seq
(.reg [⟨(some 30), none, .mov (.t 0)⟩, ⟨(some 31), none, .mov (.t 1)⟩, ⟨(some 32), none, .build 2 [(2, (.int .i64 0))] [(0, 1, (.t 30)), (1, 1, (.t 31))]⟩, ⟨(some 33), none, .build 64 [(64, (.int .u8 0))] []⟩, ⟨(some 8), none, .new 33 [(2, (.int .i64 0))]⟩, ⟨(some 9), none, .new 25 [(64, (.int .u8 0))]⟩, ⟨none, none, .st 2 (.t 8) (.t 32)⟩, ⟨none, none, .st 64 (.t 9) (.t 33)⟩])
(.seq
(.seq
(.drw true [] [⟨(some 34), none, .ld (some 2) (.t 8)⟩, ⟨(some 35), none, .mov (.t 2)⟩, ⟨(some 36), none, .call 19 [(.t 34), (.t 35)]⟩, ⟨(some 37), none, .fa 1 (.t 8)⟩, ⟨(some 38), none, .ld none (.t 37)⟩, ⟨(some 39), none, .bin .neq (.t 36) (.t 38)⟩])
(.cond (.t 39)
(.seq
(.reg [⟨(some 40), none, .build 64 [(64, (.int .u8 0))] []⟩, ⟨none, none, .st 64 (.t 6) (.t 40)⟩, ⟨(some 7), none, .mov (.c (.int .i64 2))⟩])
.ret)
.skip))
(.seq
(.drw true [9] [⟨(some 41), none, .ld (some 2) (.t 8)⟩, ⟨(some 42), none, .ld (some 2) (.t 8)⟩, ⟨(some 43), none, .fa 1 (.t 8)⟩, ⟨(some 44), none, .ld none (.t 43)⟩, ⟨(some 45), none, .call 21 [(.t 42), (.t 44)]⟩, ⟨(some 46), none, .call 20 [(.t 41), (.t 45)]⟩, ⟨(some 47), none, .ld (some 2) (.t 8)⟩, ⟨(some 48), none, .mov (.t 2)⟩, ⟨(some 49), none, .cv .u8 (.t 48)⟩, ⟨(some 50), none, .call 20 [(.t 47), (.t 49)]⟩, ⟨(some 10), none, .mov (.t 46)⟩, ⟨(some 11), none, .mov (.t 50)⟩])
(.seq
(.seq
(.reg [⟨(some 51), none, .fa 1 (.t 8)⟩, ⟨(some 52), none, .ld none (.t 51)⟩, ⟨(some 53), none, .mov (.c (.int .i64 0))⟩])
(.block 0
(.loop
(.seq
(.reg [⟨(some 54), none, .bin .lss (.t 53) (.t 52)⟩])
(.seq
(.cond (.t 54)
.skip
(.exit 0))
(.seq
(.block 1
(.seq
(.reg [⟨(some 55), none, .mov (.t 53)⟩, ⟨(some 12), none, .mov (.t 55)⟩])
(.seq
(.reg [⟨(some 56), none, .fa 1 (.t 8)⟩, ⟨(some 57), none, .ld none (.t 56)⟩, ⟨(some 58), none, .mov (.c (.int .i64 0))⟩])
(.block 2
(.loop
(.seq
(.reg [⟨(some 59), none, .bin .lss (.t 58) (.t 57)⟩])
(.seq
(.cond (.t 59)
.skip
(.exit 2))
(.seq
(.block 3
(.seq
(.reg [⟨(some 60), none, .mov (.t 58)⟩, ⟨(some 13), none, .mov (.t 60)⟩])
(.drw true [14] [⟨(some 61), none, .mov (.t 12)⟩, ⟨(some 62), none, .mov (.t 13)⟩, ⟨(some 63), none, .ld (some 2) (.t 8)⟩, ⟨(some 64), none, .mov (.t 10)⟩, ⟨(some 65), none, .ld (some 2) (.t 8)⟩, ⟨(some 66), none, .mov (.t 11)⟩, ⟨(some 67), none, .mov (.t 12)⟩, ⟨(some 68), none, .mov (.t 13)⟩, ⟨(some 69), none, .bin .mul (.t 67) (.t 68)⟩, ⟨(some 70), none, .call 14 [(.t 65), (.t 66), (.t 69)]⟩, ⟨(some 71), none, .bin .mul (.t 64) (.t 70)⟩, ⟨(some 72), none, .call 21 [(.t 63), (.t 71)]⟩, ⟨(some 73), none, .ia 8 8 (.t 9) (.t 61)⟩, ⟨(some 74), none, .ia 8 1 (.t 73) (.t 62)⟩, ⟨none, none, .st 1 (.t 74) (.t 72)⟩])))
(.reg [⟨(some 75), none, .bin .add (.t 58) (.c (.int .i64 1))⟩, ⟨(some 58), none, .mov (.t 75)⟩])))))))))
(.reg [⟨(some 76), none, .bin .add (.t 53) (.c (.int .i64 1))⟩, ⟨(some 53), none, .mov (.t 76)⟩])))))))
(.seq
(.reg [⟨(some 77), none, .ld (some 64) (.t 9)⟩, ⟨none, none, .st 64 (.t 6) (.t 77)⟩, ⟨(some 7), none, .mov (.c (.int .i64 0))⟩])
.ret)))))))
theorem tr9 : trFn Try.prog Try.f9 = some (78, ir9, [.cell (some 64) 6, .tmp 7]) := by kernel_rfl

/-- loop.example/g01230/spec.l01Prime -/
def ir10 : Cd :=
(.seq
(.reg [⟨(some 2), none, .mov (.c (.bool false))⟩])
(.seq
(.seq
(.reg [⟨(some 3), none, .mov (.c (.int .i64 2))⟩])
(.block 0
(.loop
(.seq
(.seq
(.reg [⟨(some 4), none, .mov (.t 3)⟩, ⟨(some 5), none, .mov (.t 0)⟩, ⟨(some 6), none, .bin .lss (.t 4) (.t 5)⟩, ⟨(some 7), none, .mov (.t 6)⟩, ⟨(some 8), (some (7, true)), .mov (.t 3)⟩, ⟨(some 9), (some (7, true)), .bin .leq (.t 8) (.c (.int .i64 31))⟩, ⟨(some 10), none, .pick (.t 7) (.t 9) (.c (.bool false))⟩])
(.cond (.t 10)
.skip
(.exit 0)))
(.seq
(.block 1
(.seq
(.reg [⟨(some 13), none, .mov (.t 0)⟩, ⟨(some 14), none, .mov (.t 3)⟩, ⟨(some 15), none, .bin .rem (.t 13) (.t 14)⟩, ⟨(some 16), none, .bin .eql (.t 15) (.c (.int .i64 0))⟩])
(.cond (.t 16)
(.seq
(.reg [⟨(some 2), none, .mov (.c (.bool false))⟩])
.ret)
.skip)))
(.reg [⟨(some 11), none, .mov (.t 3)⟩, ⟨(some 12), none, .bin .add (.t 11) (.c (.int .i64 1))⟩, ⟨(some 3), none, .mov (.t 12)⟩]))))))
(.seq
(.reg [⟨(some 17), none, .mov (.t 0)⟩, ⟨(some 18), none, .call 11 [(.t 17), (.c (.int .i64 2)), (.c (.int .i64 31))]⟩, ⟨(some 2), none, .mov (.t 18)⟩])
.ret)))
theorem tr10 : trFn Try.prog Try.f10 = some (19, ir10, [.tmp 2]) := by kernel_rfl

/-- loop.example/g01230/spec.l01In -/
def ir11 : Cd :=
(.seq
(.reg [⟨(some 6), none, .mov (.c (.bool false))⟩])
(.seq
(.reg [⟨(some 7), none, .mov (.t 0)⟩, ⟨(some 8), none, .mov (.t 1)⟩, ⟨(some 9), none, .bin .geq (.t 7) (.t 8)⟩, ⟨(some 10), none, .mov (.t 9)⟩, ⟨(some 11), (some (10, true)), .mov (.t 0)⟩, ⟨(some 12), (some (10, true)), .mov (.t 2)⟩, ⟨(some 13), (some (10, true)), .bin .leq (.t 11) (.t 12)⟩, ⟨(some 14), none, .pick (.t 10) (.t 13) (.c (.bool false))⟩, ⟨(some 6), none, .mov (.t 14)⟩])
.ret))
theorem tr11 : trFn Try.prog Try.f11 = some (15, ir11, [.tmp 6]) := by kernel_rfl

/-- loop.example/g01230/impl.IsPrime -/
def ir12 : Cd :=
(.seq
(.reg [⟨(some 2), none, .mov (.c (.bool false))⟩])
(.seq
(.seq
(.reg [⟨(some 4), none, .mov (.t 0)⟩, ⟨(some 5), none, .bin .lss (.t 4) (.c (.int .i64 2))⟩, ⟨(some 6), none, .mov (.t 5)⟩, ⟨(some 7), (some (6, false)), .mov (.t 0)⟩, ⟨(some 8), (some (6, false)), .bin .gtr (.t 7) (.c (.int .i64 31))⟩, ⟨(some 9), none, .pick (.t 6) (.c (.bool true)) (.t 8)⟩])
(.cond (.t 9)
(.seq
(.reg [⟨(some 2), none, .mov (.c (.bool false))⟩])
.ret)
.skip))
(.seq
(.seq
(.reg [⟨(some 3), none, .mov (.c (.int .i64 2))⟩])
(.block 0
(.loop
(.seq
(.seq
(.reg [⟨(some 10), none, .mov (.t 3)⟩, ⟨(some 11), none, .mov (.t 3)⟩, ⟨(some 12), none, .bin .mul (.t 10) (.t 11)⟩, ⟨(some 13), none, .mov (.t 0)⟩, ⟨(some 14), none, .bin .leq (.t 12) (.t 13)⟩])
(.cond (.t 14)
.skip
(.exit 0)))
(.seq
(.block 1
(.seq
(.reg [⟨(some 17), none, .mov (.t 0)⟩, ⟨(some 18), none, .mov (.t 3)⟩, ⟨(some 19), none, .bin .rem (.t 17) (.t 18)⟩, ⟨(some 20), none, .bin .eql (.t 19) (.c (.int .i64 0))⟩])
(.cond (.t 20)
(.seq
(.reg [⟨(some 2), none, .mov (.c (.bool false))⟩])
.ret)
.skip)))
(.reg [⟨(some 15), none, .mov (.t 3)⟩, ⟨(some 16), none, .bin .add (.t 15) (.c (.int .i64 1))⟩, ⟨(some 3), none, .mov (.t 16)⟩]))))))
(.seq
(.reg [⟨(some 2), none, .mov (.c (.bool true))⟩])
.ret))))
theorem tr12 : trFn Try.prog Try.f12 = some (21, ir12, [.tmp 2]) := by kernel_rfl

/-- loop.example/g01230/impl.in -/
def ir13 : Cd :=
(.seq
(.reg [⟨(some 6), none, .mov (.c (.bool false))⟩])
(.seq
(.reg [⟨(some 7), none, .mov (.t 1)⟩, ⟨(some 8), none, .mov (.t 0)⟩, ⟨(some 9), none, .bin .leq (.t 7) (.t 8)⟩, ⟨(some 10), none, .mov (.t 9)⟩, ⟨(some 11), (some (10, true)), .mov (.t 0)⟩, ⟨(some 12), (some (10, true)), .mov (.t 2)⟩, ⟨(some 13), (some (10, true)), .bin .leq (.t 11) (.t 12)⟩, ⟨(some 14), none, .pick (.t 10) (.t 13) (.c (.bool false))⟩, ⟨(some 6), none, .mov (.t 14)⟩])
.ret))
theorem tr13 : trFn Try.prog Try.f13 = some (15, ir13, [.tmp 6]) := by kernel_rfl

/-- (loop.example/g01230/impl.field).powerIn -/
def ir14 : Cd :=
(.seq
(.reg [⟨(some 3), none, .box 33 (.t 0)⟩, ⟨(some 6), none, .mov (.c (.int .i64 0))⟩])
(.seq
(.reg [⟨(some 7), none, .mov (.c (.int .i64 1))⟩])
(.seq
(.seq
(.reg [⟨(some 8), none, .mov (.t 2)⟩, ⟨(some 9), none, .mov (.c (.int .i64 0))⟩])
(.block 0
(.loop
(.seq
(.reg [⟨(some 10), none, .bin .lss (.t 9) (.t 8)⟩])
(.seq
(.cond (.t 10)
.skip
(.exit 0))
(.seq
(.block 1
(.reg [⟨(some 11), none, .mov (.t 7)⟩, ⟨(some 12), none, .mov (.t 1)⟩, ⟨(some 13), none, .bin .mul (.t 11) (.t 12)⟩, ⟨(some 14), none, .fa 0 (.t 3)⟩, ⟨(some 15), none, .ld none (.t 14)⟩, ⟨(some 16), none, .bin .rem (.t 13) (.t 15)⟩, ⟨(some 7), none, .mov (.t 16)⟩]))
(.reg [⟨(some 17), none, .bin .add (.t 9) (.c (.int .i64 1))⟩, ⟨(some 9), none, .mov (.t 17)⟩])))))))
(.seq
(.reg [⟨(some 18), none, .mov (.t 7)⟩, ⟨(some 6), none, .mov (.t 18)⟩])
.ret))))
theorem tr14 : trFn Try.prog Try.f14 = some (19, ir14, [.tmp 6]) := by kernel_rfl

/-- loop.example/g01230/laws.eqVector -/
def ir15 : Cd :=
(.seq
(.reg [⟨(some 2), none, .box 23 (.t 0)⟩, ⟨(some 3), none, .box 23 (.t 1)⟩, ⟨(some 4), none, .mov (.c (.bool false))⟩])
(.seq
(.seq
(.reg [⟨(some 5), none, .mov (.c (.int .i64 0))⟩])
(.block 0
(.loop
(.seq
(.seq
(.reg [⟨(some 6), none, .mov (.t 5)⟩, ⟨(some 7), none, .bin .lss (.t 6) (.c (.int .i64 8))⟩])
(.cond (.t 7)
.skip
(.exit 0)))
(.seq
(.block 1
(.seq
(.drw true [] [⟨(some 10), none, .mov (.t 5)⟩, ⟨(some 11), none, .ia 8 1 (.t 2) (.t 10)⟩, ⟨(some 12), none, .ld none (.t 11)⟩, ⟨(some 13), none, .mov (.t 5)⟩, ⟨(some 14), none, .ia 8 1 (.t 3) (.t 13)⟩, ⟨(some 15), none, .ld none (.t 14)⟩, ⟨(some 16), none, .bin .neq (.t 12) (.t 15)⟩])
(.cond (.t 16)
(.seq
(.reg [⟨(some 4), none, .mov (.c (.bool false))⟩])
.ret)
.skip)))
(.reg [⟨(some 8), none, .mov (.t 5)⟩, ⟨(some 9), none, .bin .add (.t 8) (.c (.int .i64 1))⟩, ⟨(some 5), none, .mov (.t 9)⟩]))))))
(.seq
(.reg [⟨(some 4), none, .mov (.c (.bool true))⟩])
.ret)))
theorem tr15 : trFn Try.prog Try.f15 = some (17, ir15, [.tmp 4]) := by kernel_rfl

/-- loop.example/g01230/spec.l01Sizes -/
def ir16 : Cd :=
(.seq
(.reg [⟨(some 4), none, .mov (.c (.bool false))⟩])
(.seq
(.reg [⟨(some 5), none, .mov (.t 0)⟩, ⟨(some 6), none, .call 10 [(.t 5)]⟩, ⟨(some 7), none, .mov (.t 6)⟩, ⟨(some 8), (some (7, true)), .mov (.t 1)⟩, ⟨(some 9), (some (7, true)), .call 11 [(.t 8), (.c (.int .i64 1)), (.c (.int .i64 8))]⟩, ⟨(some 10), none, .pick (.t 7) (.t 9) (.c (.bool false))⟩, ⟨(some 4), none, .mov (.t 10)⟩])
.ret))
theorem tr16 : trFn Try.prog Try.f16 = some (11, ir16, [.tmp 4]) := by kernel_rfl

/-- loop.example/g01230/spec.l09Order -/
def ir17 : Cd :=
(.seq
(.reg [⟨(some 4), none, .mov (.c (.int .i64 0))⟩])
(.seq
(.drw true [] [⟨(some 7), none, .mov (.t 1)⟩, ⟨(some 8), none, .mov (.t 0)⟩, ⟨(some 9), none, .bin .rem (.t 7) (.t 8)⟩, ⟨(some 5), none, .mov (.c (.int .i64 1))⟩, ⟨(some 6), none, .mov (.t 9)⟩])
(.seq
(.block 0
(.loop
(.seq
(.seq
(.reg [⟨(some 10), none, .mov (.t 6)⟩, ⟨(some 11), none, .bin .neq (.t 10) (.c (.int .i64 1))⟩])
(.cond (.t 11)
.skip
(.exit 0)))
(.block 1
(.seq
(.reg [⟨(some 12), none, .mov (.t 6)⟩, ⟨(some 13), none, .mov (.t 1)⟩, ⟨(some 14), none, .bin .mul (.t 12) (.t 13)⟩, ⟨(some 15), none, .mov (.t 0)⟩, ⟨(some 16), none, .bin .rem (.t 14) (.t 15)⟩, ⟨(some 6), none, .mov (.t 16)⟩])
(.reg [⟨(some 17), none, .mov (.t 5)⟩, ⟨(some 18), none, .bin .add (.t 17) (.c (.int .i64 1))⟩, ⟨(some 5), none, .mov (.t 18)⟩]))))))
(.seq
(.reg [⟨(some 19), none, .mov (.t 5)⟩, ⟨(some 4), none, .mov (.t 19)⟩])
.ret))))
theorem tr17 : trFn Try.prog Try.f17 = some (20, ir17, [.tmp 4]) := by kernel_rfl

/-- loop.example/g01230/spec.l09Root -/
def ir18 : Cd :=
(.seq
(.reg [⟨(some 6), none, .new 25 [(64, (.int .u8 0))]⟩])
(.seq
(.reg [⟨(some 14), none, .build 64 [(64, (.int .u8 0))] []⟩, ⟨(some 7), none, .new 25 [(64, (.int .u8 0))]⟩, ⟨none, none, .st 64 (.t 7) (.t 14)⟩])
(.seq
(.reg [⟨(some 15), none, .mov (.t 0)⟩, ⟨(some 16), none, .mov (.t 2)⟩, ⟨(some 17), none, .cv .u8 (.t 16)⟩, ⟨(some 18), none, .call 22 [(.t 15), (.t 17)]⟩, ⟨(some 19), none, .cv .i64 (.t 18)⟩, ⟨(some 20), none, .mov (.t 0)⟩, ⟨(some 21), none, .mov (.t 0)⟩, ⟨(some 22), none, .mov (.t 1)⟩, ⟨(some 23), none, .call 23 [(.t 21), (.t 22)]⟩, ⟨(some 24), none, .call 22 [(.t 20), (.t 23)]⟩, ⟨(some 25), none, .cv .i64 (.t 24)⟩, ⟨(some 8), none, .mov (.t 19)⟩, ⟨(some 9), none, .mov (.t 25)⟩])
(.seq
(.seq
(.reg [⟨(some 10), none, .mov (.c (.int .i64 0))⟩])
(.block 0
(.loop
(.seq
(.seq
(.reg [⟨(some 26), none, .mov (.t 10)⟩, ⟨(some 27), none, .mov (.t 1)⟩, ⟨(some 28), none, .bin .lss (.t 26) (.t 27)⟩])
(.cond (.t 28)
.skip
(.exit 0)))
(.seq
(.block 1
(.seq
(.reg [⟨(some 11), none, .mov (.c (.int .i64 0))⟩])
(.block 2
(.loop
(.seq
(.seq
(.reg [⟨(some 31), none, .mov (.t 11)⟩, ⟨(some 32), none, .mov (.t 1)⟩, ⟨(some 33), none, .bin .lss (.t 31) (.t 32)⟩])
(.cond (.t 33)
.skip
(.exit 2)))
(.seq
(.block 3
(.seq
(.reg [⟨(some 36), none, .mov (.t 9)⟩, ⟨(some 12), none, .mov (.t 36)⟩])
(.seq
(.seq
(.reg [⟨(some 13), none, .mov (.c (.int .i64 0))⟩])
(.block 4
(.loop
(.seq
(.seq
(.reg [⟨(some 37), none, .mov (.t 13)⟩, ⟨(some 38), none, .mov (.t 10)⟩, ⟨(some 39), none, .mov (.t 11)⟩, ⟨(some 40), none, .bin .mul (.t 38) (.t 39)⟩, ⟨(some 41), none, .bin .lss (.t 37) (.t 40)⟩])
(.cond (.t 41)
.skip
(.exit 4)))
(.seq
(.block 5
(.reg [⟨(some 44), none, .mov (.t 12)⟩, ⟨(some 45), none, .mov (.t 8)⟩, ⟨(some 46), none, .bin .mul (.t 44) (.t 45)⟩, ⟨(some 47), none, .mov (.t 0)⟩, ⟨(some 48), none, .bin .rem (.t 46) (.t 47)⟩, ⟨(some 12), none, .mov (.t 48)⟩]))
(.reg [⟨(some 42), none, .mov (.t 13)⟩, ⟨(some 43), none, .bin .add (.t 42) (.c (.int .i64 1))⟩, ⟨(some 13), none, .mov (.t 43)⟩]))))))
(.reg [⟨(some 49), none, .mov (.t 10)⟩, ⟨(some 50), none, .mov (.t 11)⟩, ⟨(some 51), none, .mov (.t 12)⟩, ⟨(some 52), none, .cv .u8 (.t 51)⟩, ⟨(some 53), none, .ia 8 8 (.t 7) (.t 49)⟩, ⟨(some 54), none, .ia 8 1 (.t 53) (.t 50)⟩, ⟨none, none, .st 1 (.t 54) (.t 52)⟩]))))
(.reg [⟨(some 34), none, .mov (.t 11)⟩, ⟨(some 35), none, .bin .add (.t 34) (.c (.int .i64 1))⟩, ⟨(some 11), none, .mov (.t 35)⟩])))))))
(.reg [⟨(some 29), none, .mov (.t 10)⟩, ⟨(some 30), none, .bin .add (.t 29) (.c (.int .i64 1))⟩, ⟨(some 10), none, .mov (.t 30)⟩]))))))
(.seq
(.reg [⟨(some 55), none, .ld (some 64) (.t 7)⟩, ⟨none, none, .st 64 (.t 6) (.t 55)⟩])
.ret)))))
theorem tr18 : trFn Try.prog Try.f18 = some (56, ir18, [.cell (some 64) 6]) := by kernel_rfl

/-- (loop.example/g01230/impl.field).orderIn -/
def ir19 : Cd :=
(.seq
(.reg [⟨(some 2), none, .box 33 (.t 0)⟩, ⟨(some 4), none, .mov (.c (.int .i64 0))⟩])
(.seq
(.reg [⟨(some 5), none, .mov (.c (.int .i64 1))⟩])
(.seq
(.seq
(.reg [⟨(some 7), none, .mov (.t 1)⟩, ⟨(some 8), none, .fa 0 (.t 2)⟩, ⟨(some 9), none, .ld none (.t 8)⟩, ⟨(some 10), none, .bin .rem (.t 7) (.t 9)⟩, ⟨(some 6), none, .mov (.t 10)⟩])
(.block 0
(.loop
(.seq
(.seq
(.reg [⟨(some 11), none, .mov (.t 6)⟩, ⟨(some 12), none, .bin .neq (.t 11) (.c (.int .i64 1))⟩])
(.cond (.t 12)
.skip
(.exit 0)))
(.seq
(.block 1
(.reg [⟨(some 15), none, .mov (.t 6)⟩, ⟨(some 16), none, .mov (.t 1)⟩, ⟨(some 17), none, .bin .mul (.t 15) (.t 16)⟩, ⟨(some 18), none, .fa 0 (.t 2)⟩, ⟨(some 19), none, .ld none (.t 18)⟩, ⟨(some 20), none, .bin .rem (.t 17) (.t 19)⟩, ⟨(some 6), none, .mov (.t 20)⟩]))
(.reg [⟨(some 13), none, .mov (.t 5)⟩, ⟨(some 14), none, .bin .add (.t 13) (.c (.int .i64 1))⟩, ⟨(some 5), none, .mov (.t 14)⟩]))))))
(.seq
(.reg [⟨(some 21), none, .mov (.t 5)⟩, ⟨(some 4), none, .mov (.t 21)⟩])
.ret))))
theorem tr19 : trFn Try.prog Try.f19 = some (22, ir19, [.tmp 4]) := by kernel_rfl

/-- (loop.example/g01230/impl.field).inverse -/
def ir20 : Cd :=
(.seq
(.reg [⟨(some 2), none, .box 33 (.t 0)⟩, ⟨(some 4), none, .mov (.c (.int .i64 0))⟩])
(.seq
(.seq
(.reg [⟨(some 5), none, .mov (.c (.int .i64 1))⟩])
(.block 0
(.loop
(.seq
(.seq
(.reg [⟨(some 6), none, .mov (.t 5)⟩, ⟨(some 7), none, .fa 0 (.t 2)⟩, ⟨(some 8), none, .ld none (.t 7)⟩, ⟨(some 9), none, .bin .lss (.t 6) (.t 8)⟩])
(.cond (.t 9)
.skip
(.exit 0)))
(.seq
(.block 1
(.seq
(.reg [⟨(some 12), none, .mov (.t 5)⟩, ⟨(some 13), none, .mov (.t 1)⟩, ⟨(some 14), none, .cv .i64 (.t 13)⟩, ⟨(some 15), none, .bin .mul (.t 12) (.t 14)⟩, ⟨(some 16), none, .fa 0 (.t 2)⟩, ⟨(some 17), none, .ld none (.t 16)⟩, ⟨(some 18), none, .bin .rem (.t 15) (.t 17)⟩, ⟨(some 19), none, .bin .eql (.t 18) (.c (.int .i64 1))⟩])
(.cond (.t 19)
(.seq
(.reg [⟨(some 20), none, .mov (.t 5)⟩, ⟨(some 4), none, .mov (.t 20)⟩])
.ret)
.skip)))
(.reg [⟨(some 10), none, .mov (.t 5)⟩, ⟨(some 11), none, .bin .add (.t 10) (.c (.int .i64 1))⟩, ⟨(some 5), none, .mov (.t 11)⟩]))))))
(.seq
(.reg [⟨(some 21), none, .fa 0 (.t 2)⟩, ⟨(some 22), none, .ld none (.t 21)⟩, ⟨(some 23), none, .bin .rem (.c (.int .i64 1)) (.t 22)⟩, ⟨(some 4), none, .mov (.t 23)⟩])
.ret)))
theorem tr20 : trFn Try.prog Try.f20 = some (24, ir20, [.tmp 4]) := by kernel_rfl

/-- (loop.example/g01230/impl.field).mod -/
def ir21 : Cd :=
(.seq
(.reg [⟨(some 2), none, .box 33 (.t 0)⟩, ⟨(some 4), none, .mov (.c (.int .u8 0))⟩])
(.seq
(.reg [⟨(some 5), none, .mov (.t 1)⟩, ⟨(some 6), none, .fa 0 (.t 2)⟩, ⟨(some 7), none, .ld none (.t 6)⟩, ⟨(some 8), none, .bin .rem (.t 5) (.t 7)⟩, ⟨(some 1), none, .mov (.t 8)⟩])
(.seq
(.seq
(.reg [⟨(some 9), none, .mov (.t 1)⟩, ⟨(some 10), none, .bin .lss (.t 9) (.c (.int .i64 0))⟩])
(.cond (.t 10)
(.reg [⟨(some 11), none, .mov (.t 1)⟩, ⟨(some 12), none, .fa 0 (.t 2)⟩, ⟨(some 13), none, .ld none (.t 12)⟩, ⟨(some 14), none, .bin .add (.t 11) (.t 13)⟩, ⟨(some 1), none, .mov (.t 14)⟩])
.skip))
(.seq
(.reg [⟨(some 15), none, .mov (.t 1)⟩, ⟨(some 16), none, .cv .u8 (.t 15)⟩, ⟨(some 4), none, .mov (.t 16)⟩])
.ret))))
theorem tr21 : trFn Try.prog Try.f21 = some (17, ir21, [.tmp 4]) := by kernel_rfl

/-- loop.example/g01230/spec.l01Inverse -/
def ir22 : Cd :=
(.seq
(.reg [⟨(some 4), none, .mov (.c (.int .u8 0))⟩])
(.seq
(.seq
(.reg [⟨(some 5), none, .mov (.c (.int .i64 1))⟩])
(.block 0
(.loop
(.seq
(.seq
(.reg [⟨(some 6), none, .mov (.t 5)⟩, ⟨(some 7), none, .mov (.t 0)⟩, ⟨(some 8), none, .bin .lss (.t 6) (.t 7)⟩])
(.cond (.t 8)
.skip
(.exit 0)))
(.seq
(.block 1
(.seq
(.reg [⟨(some 11), none, .mov (.t 5)⟩, ⟨(some 12), none, .mov (.t 1)⟩, ⟨(some 13), none, .cv .i64 (.t 12)⟩, ⟨(some 14), none, .bin .mul (.t 11) (.t 13)⟩, ⟨(some 15), none, .mov (.t 0)⟩, ⟨(some 16), none, .bin .rem (.t 14) (.t 15)⟩, ⟨(some 17), none, .bin .eql (.t 16) (.c (.int .i64 1))⟩])
(.cond (.t 17)
(.seq
(.reg [⟨(some 18), none, .mov (.t 5)⟩, ⟨(some 19), none, .cv .u8 (.t 18)⟩, ⟨(some 4), none, .mov (.t 19)⟩])
.ret)
.skip)))
(.reg [⟨(some 9), none, .mov (.t 5)⟩, ⟨(some 10), none, .bin .add (.t 9) (.c (.int .i64 1))⟩, ⟨(some 5), none, .mov (.t 10)⟩]))))))
(.seq
(.reg [⟨(some 4), none, .mov (.c (.int .u8 0))⟩])
.ret)))
theorem tr22 : trFn Try.prog Try.f22 = some (20, ir22, [.tmp 4]) := by kernel_rfl

/-- loop.example/g01230/spec.l01Mod -/
def ir23 : Cd :=
(.seq
(.reg [⟨(some 4), none, .mov (.c (.int .u8 0))⟩])
(.seq
(.reg [⟨(some 5), none, .mov (.t 1)⟩, ⟨(some 6), none, .mov (.t 0)⟩, ⟨(some 7), none, .bin .rem (.t 5) (.t 6)⟩, ⟨(some 8), none, .mov (.t 0)⟩, ⟨(some 9), none, .bin .add (.t 7) (.t 8)⟩, ⟨(some 10), none, .mov (.t 0)⟩, ⟨(some 11), none, .bin .rem (.t 9) (.t 10)⟩, ⟨(some 12), none, .cv .u8 (.t 11)⟩, ⟨(some 4), none, .mov (.t 12)⟩])
.ret))
theorem tr23 : trFn Try.prog Try.f23 = some (13, ir23, [.tmp 4]) := by kernel_rfl

end Go.Proofs.Ythmlbbnnlkcgcaa

/- The short form of each function, and that it is one. -/
import Derived.Test.YtnkmpelakhhoiabProg
import Derived.Test.YtnkmpelakhhoiabVI
import Derived.KernelRfl
namespace Go.Proofs.Ytnkmpelakhhoiab
open Go.V
set_option maxRecDepth 100000

/-- gosem.cut.init -/
def ir2 : Cd :=
(.reg [⟨(some 0), none, .call 1 []⟩])
theorem tr2 : trFn Try.prog Try.f2 = some (1, ir2, []) := by kernel_rfl

/-- loop.example/g01230/laws.FnExactConvolvePairings -/
def ir3 : Cd :=
(.seq
(.reg [⟨(some 3), none, .box 26 (.t 0)⟩, ⟨(some 4), none, .box 23 (.t 1)⟩, ⟨(some 5), none, .box 23 (.t 2)⟩, ⟨(some 6), none, .mov (.c (.bool false))⟩])
(.seq
(.mix [⟨(some 12), none, .ld (some 1106) (.t 3)⟩, ⟨(some 13), none, .call 10 [(.t 12)]⟩, ⟨(some 14), none, .ld (some 64) (.t 4)⟩, ⟨(some 15), none, .call 11 [(.t 14)]⟩, ⟨(some 16), none, .ld (some 64) (.t 5)⟩, ⟨(some 17), none, .call 11 [(.t 16)]⟩, ⟨(some 18), none, .call 9 [(.t 13), (.t 15), (.t 17)]⟩, ⟨(some 11), none, .mov (.t 18)⟩, ⟨(some 19), none, .ex (.t 11) 0⟩, ⟨(some 20), none, .ex (.t 11) 1⟩] [⟨(some 7), none, .new 29 [(64, (.int .u8 0))]⟩, ⟨none, none, .st 64 (.t 7) (.t 19)⟩, ⟨(some 8), none, .mov (.t 20)⟩])
(.seq
(.mix [⟨(some 22), none, .ld (some 1106) (.t 3)⟩, ⟨(some 23), none, .call 10 [(.t 22)]⟩, ⟨(some 24), none, .ld (some 64) (.t 4)⟩, ⟨(some 25), none, .call 11 [(.t 24)]⟩, ⟨(some 26), none, .ld (some 64) (.t 5)⟩, ⟨(some 27), none, .call 11 [(.t 26)]⟩, ⟨(some 28), none, .call 12 [(.t 23), (.t 25), (.t 27)]⟩, ⟨(some 21), none, .mov (.t 28)⟩, ⟨(some 29), none, .ex (.t 21) 0⟩, ⟨(some 30), none, .ex (.t 21) 1⟩] [⟨(some 9), none, .new 29 [(64, (.int .u8 0))]⟩, ⟨none, none, .st 64 (.t 9) (.t 29)⟩, ⟨(some 10), none, .mov (.t 30)⟩])
(.seq
(.seq
(.reg [⟨(some 31), none, .ld (some 64) (.t 9)⟩, ⟨(some 32), none, .ld (some 64) (.t 7)⟩, ⟨(some 33), none, .call 13 [(.t 31), (.t 32)]⟩, ⟨(some 34), none, .un .not (.t 33)⟩, ⟨(some 35), none, .mov (.t 34)⟩, ⟨(some 36), (some (35, false)), .mov (.t 10)⟩, ⟨(some 37), (some (35, false)), .mov (.t 8)⟩, ⟨(some 38), (some (35, false)), .bin .neq (.t 36) (.t 37)⟩, ⟨(some 39), none, .pick (.t 35) (.c (.bool true)) (.t 38)⟩])
(.cond (.t 39)
(.seq
(.reg [⟨(some 6), none, .mov (.c (.bool false))⟩])
.ret)
.skip))
(.seq
(.reg [⟨(some 6), none, .mov (.c (.bool true))⟩])
.ret)))))
theorem tr3 : trFn Try.prog Try.f3 = some (40, ir3, [.tmp 6]) := by kernel_rfl

/-- loop.example/g01230/laws.FnExactIsBicharacter -/
def ir4 : Cd :=
(.seq
(.reg [⟨(some 2), none, .box 26 (.t 0)⟩, ⟨(some 3), none, .box 23 (.t 1)⟩, ⟨(some 4), none, .mov (.c (.bool false))⟩])
(.seq
(.drwo true [] [0, 2, 1, 3, 4, 5, 6, 7, 8, 9] [⟨(some 10), none, .ld (some 1106) (.t 2)⟩, ⟨(some 11), none, .call 10 [(.t 10)]⟩, ⟨(some 12), none, .ld (some 64) (.t 3)⟩, ⟨(some 13), none, .call 11 [(.t 12)]⟩, ⟨(some 14), none, .call 14 [(.t 11), (.t 13)]⟩, ⟨(some 9), none, .mov (.t 14)⟩, ⟨(some 15), none, .ex (.t 9) 0⟩, ⟨(some 16), none, .ex (.t 9) 1⟩, ⟨(some 5), none, .mov (.t 15)⟩, ⟨(some 6), none, .mov (.t 16)⟩])
(.seq
(.drwo true [] [0, 2, 1, 3, 4, 5, 6, 7, 8, 9] [⟨(some 18), none, .ld (some 1106) (.t 2)⟩, ⟨(some 19), none, .call 10 [(.t 18)]⟩, ⟨(some 20), none, .ld (some 64) (.t 3)⟩, ⟨(some 21), none, .call 11 [(.t 20)]⟩, ⟨(some 22), none, .call 15 [(.t 19), (.t 21)]⟩, ⟨(some 17), none, .mov (.t 22)⟩, ⟨(some 23), none, .ex (.t 17) 0⟩, ⟨(some 24), none, .ex (.t 17) 1⟩, ⟨(some 7), none, .mov (.t 23)⟩, ⟨(some 8), none, .mov (.t 24)⟩])
(.seq
(.seq
(.reg [⟨(some 25), none, .mov (.t 7)⟩, ⟨(some 26), none, .mov (.t 5)⟩, ⟨(some 27), none, .beq true (.t 25) (.t 26)⟩, ⟨(some 28), none, .mov (.t 27)⟩, ⟨(some 29), (some (28, false)), .mov (.t 8)⟩, ⟨(some 30), (some (28, false)), .mov (.t 6)⟩, ⟨(some 31), (some (28, false)), .bin .neq (.t 29) (.t 30)⟩, ⟨(some 32), none, .pick (.t 28) (.c (.bool true)) (.t 31)⟩])
(.cond (.t 32)
(.seq
(.reg [⟨(some 4), none, .mov (.c (.bool false))⟩])
.ret)
.skip))
(.seq
(.reg [⟨(some 4), none, .mov (.c (.bool true))⟩])
.ret)))))
theorem tr4 : trFn Try.prog Try.f4 = some (33, ir4, [.tmp 4]) := by kernel_rfl

/-- loop.example/g01230/laws.FnExactIsCocycle -/
def ir5 : Cd :=
(.seq
(.reg [⟨(some 2), none, .box 26 (.t 0)⟩, ⟨(some 3), none, .box 23 (.t 1)⟩, ⟨(some 4), none, .mov (.c (.bool false))⟩])
(.seq
(.drwo true [] [0, 2, 1, 3, 4, 5, 6, 7, 8, 9] [⟨(some 10), none, .ld (some 1106) (.t 2)⟩, ⟨(some 11), none, .call 10 [(.t 10)]⟩, ⟨(some 12), none, .ld (some 64) (.t 3)⟩, ⟨(some 13), none, .call 11 [(.t 12)]⟩, ⟨(some 14), none, .call 16 [(.t 11), (.t 13)]⟩, ⟨(some 9), none, .mov (.t 14)⟩, ⟨(some 15), none, .ex (.t 9) 0⟩, ⟨(some 16), none, .ex (.t 9) 1⟩, ⟨(some 5), none, .mov (.t 15)⟩, ⟨(some 6), none, .mov (.t 16)⟩])
(.seq
(.drwo true [] [0, 2, 1, 3, 4, 5, 6, 7, 8, 9] [⟨(some 18), none, .ld (some 1106) (.t 2)⟩, ⟨(some 19), none, .call 10 [(.t 18)]⟩, ⟨(some 20), none, .ld (some 64) (.t 3)⟩, ⟨(some 21), none, .call 11 [(.t 20)]⟩, ⟨(some 22), none, .call 17 [(.t 19), (.t 21)]⟩, ⟨(some 17), none, .mov (.t 22)⟩, ⟨(some 23), none, .ex (.t 17) 0⟩, ⟨(some 24), none, .ex (.t 17) 1⟩, ⟨(some 7), none, .mov (.t 23)⟩, ⟨(some 8), none, .mov (.t 24)⟩])
(.seq
(.seq
(.reg [⟨(some 25), none, .mov (.t 7)⟩, ⟨(some 26), none, .mov (.t 5)⟩, ⟨(some 27), none, .beq true (.t 25) (.t 26)⟩, ⟨(some 28), none, .mov (.t 27)⟩, ⟨(some 29), (some (28, false)), .mov (.t 8)⟩, ⟨(some 30), (some (28, false)), .mov (.t 6)⟩, ⟨(some 31), (some (28, false)), .bin .neq (.t 29) (.t 30)⟩, ⟨(some 32), none, .pick (.t 28) (.c (.bool true)) (.t 31)⟩])
(.cond (.t 32)
(.seq
(.reg [⟨(some 4), none, .mov (.c (.bool false))⟩])
.ret)
.skip))
(.seq
(.reg [⟨(some 4), none, .mov (.c (.bool true))⟩])
.ret)))))
theorem tr5 : trFn Try.prog Try.f5 = some (33, ir5, [.tmp 4]) := by kernel_rfl

/-- loop.example/g01230/laws.FnExactMultiplyMatrices -/
def ir6 : Cd :=
(.seq
(.reg [⟨(some 3), none, .box 26 (.t 0)⟩, ⟨(some 4), none, .box 23 (.t 1)⟩, ⟨(some 5), none, .box 23 (.t 2)⟩, ⟨(some 6), none, .mov (.c (.bool false))⟩])
(.seq
(.mix [⟨(some 12), none, .ld (some 1106) (.t 3)⟩, ⟨(some 13), none, .call 10 [(.t 12)]⟩, ⟨(some 14), none, .ld (some 64) (.t 4)⟩, ⟨(some 15), none, .call 11 [(.t 14)]⟩, ⟨(some 16), none, .ld (some 64) (.t 5)⟩, ⟨(some 17), none, .call 11 [(.t 16)]⟩, ⟨(some 18), none, .call 18 [(.t 13), (.t 15), (.t 17)]⟩, ⟨(some 11), none, .mov (.t 18)⟩, ⟨(some 19), none, .ex (.t 11) 0⟩, ⟨(some 20), none, .ex (.t 11) 1⟩] [⟨(some 7), none, .new 29 [(64, (.int .u8 0))]⟩, ⟨none, none, .st 64 (.t 7) (.t 19)⟩, ⟨(some 8), none, .mov (.t 20)⟩])
(.seq
(.mix [⟨(some 22), none, .ld (some 1106) (.t 3)⟩, ⟨(some 23), none, .call 10 [(.t 22)]⟩, ⟨(some 24), none, .ld (some 64) (.t 4)⟩, ⟨(some 25), none, .call 11 [(.t 24)]⟩, ⟨(some 26), none, .ld (some 64) (.t 5)⟩, ⟨(some 27), none, .call 11 [(.t 26)]⟩, ⟨(some 28), none, .call 19 [(.t 23), (.t 25), (.t 27)]⟩, ⟨(some 21), none, .mov (.t 28)⟩, ⟨(some 29), none, .ex (.t 21) 0⟩, ⟨(some 30), none, .ex (.t 21) 1⟩] [⟨(some 9), none, .new 29 [(64, (.int .u8 0))]⟩, ⟨none, none, .st 64 (.t 9) (.t 29)⟩, ⟨(some 10), none, .mov (.t 30)⟩])
(.seq
(.seq
(.reg [⟨(some 31), none, .ld (some 64) (.t 9)⟩, ⟨(some 32), none, .ld (some 64) (.t 7)⟩, ⟨(some 33), none, .call 13 [(.t 31), (.t 32)]⟩, ⟨(some 34), none, .un .not (.t 33)⟩, ⟨(some 35), none, .mov (.t 34)⟩, ⟨(some 36), (some (35, false)), .mov (.t 10)⟩, ⟨(some 37), (some (35, false)), .mov (.t 8)⟩, ⟨(some 38), (some (35, false)), .bin .neq (.t 36) (.t 37)⟩, ⟨(some 39), none, .pick (.t 35) (.c (.bool true)) (.t 38)⟩])
(.cond (.t 39)
(.seq
(.reg [⟨(some 6), none, .mov (.c (.bool false))⟩])
.ret)
.skip))
(.seq
(.reg [⟨(some 6), none, .mov (.c (.bool true))⟩])
.ret)))))
theorem tr6 : trFn Try.prog Try.f6 = some (40, ir6, [.tmp 6]) := by kernel_rfl

/-- loop.example/g01230/laws.FnExactFlipMatrix -/
def ir7 : Cd :=
(.seq
(.reg [⟨(some 2), none, .box 26 (.t 0)⟩, ⟨(some 3), none, .box 23 (.t 1)⟩, ⟨(some 4), none, .mov (.c (.bool false))⟩])
(.seq
(.mix [⟨(some 10), none, .ld (some 1106) (.t 2)⟩, ⟨(some 11), none, .call 10 [(.t 10)]⟩, ⟨(some 12), none, .ld (some 64) (.t 3)⟩, ⟨(some 13), none, .call 11 [(.t 12)]⟩, ⟨(some 14), none, .call 20 [(.t 11), (.t 13)]⟩, ⟨(some 9), none, .mov (.t 14)⟩, ⟨(some 15), none, .ex (.t 9) 0⟩, ⟨(some 16), none, .ex (.t 9) 1⟩] [⟨(some 5), none, .new 29 [(64, (.int .u8 0))]⟩, ⟨none, none, .st 64 (.t 5) (.t 15)⟩, ⟨(some 6), none, .mov (.t 16)⟩])
(.seq
(.mix [⟨(some 18), none, .ld (some 1106) (.t 2)⟩, ⟨(some 19), none, .call 10 [(.t 18)]⟩, ⟨(some 20), none, .ld (some 64) (.t 3)⟩, ⟨(some 21), none, .call 11 [(.t 20)]⟩, ⟨(some 22), none, .call 21 [(.t 19), (.t 21)]⟩, ⟨(some 17), none, .mov (.t 22)⟩, ⟨(some 23), none, .ex (.t 17) 0⟩, ⟨(some 24), none, .ex (.t 17) 1⟩] [⟨(some 7), none, .new 29 [(64, (.int .u8 0))]⟩, ⟨none, none, .st 64 (.t 7) (.t 23)⟩, ⟨(some 8), none, .mov (.t 24)⟩])
(.seq
(.seq
(.reg [⟨(some 25), none, .ld (some 64) (.t 7)⟩, ⟨(some 26), none, .ld (some 64) (.t 5)⟩, ⟨(some 27), none, .call 13 [(.t 25), (.t 26)]⟩, ⟨(some 28), none, .un .not (.t 27)⟩, ⟨(some 29), none, .mov (.t 28)⟩, ⟨(some 30), (some (29, false)), .mov (.t 8)⟩, ⟨(some 31), (some (29, false)), .mov (.t 6)⟩, ⟨(some 32), (some (29, false)), .bin .neq (.t 30) (.t 31)⟩, ⟨(some 33), none, .pick (.t 29) (.c (.bool true)) (.t 32)⟩])
(.cond (.t 33)
(.seq
(.reg [⟨(some 4), none, .mov (.c (.bool false))⟩])
.ret)
.skip))
(.seq
(.reg [⟨(some 4), none, .mov (.c (.bool true))⟩])
.ret)))))
theorem tr7 : trFn Try.prog Try.f7 = some (34, ir7, [.tmp 4]) := by kernel_rfl

/-- loop.example/g01230/laws.FnExactFirstPartCoproduct -/
def ir8 : Cd :=
(.seq
(.reg [⟨(some 2), none, .box 26 (.t 0)⟩, ⟨(some 3), none, .box 23 (.t 1)⟩, ⟨(some 4), none, .mov (.c (.bool false))⟩])
(.seq
(.mix [⟨(some 10), none, .ld (some 1106) (.t 2)⟩, ⟨(some 11), none, .call 10 [(.t 10)]⟩, ⟨(some 12), none, .ld (some 64) (.t 3)⟩, ⟨(some 13), none, .call 11 [(.t 12)]⟩, ⟨(some 14), none, .call 22 [(.t 11), (.t 13)]⟩, ⟨(some 9), none, .mov (.t 14)⟩, ⟨(some 15), none, .ex (.t 9) 0⟩, ⟨(some 16), none, .ex (.t 9) 1⟩] [⟨(some 5), none, .new 33 [(512, (.int .u8 0))]⟩, ⟨none, none, .st 512 (.t 5) (.t 15)⟩, ⟨(some 6), none, .mov (.t 16)⟩])
(.seq
(.mix [⟨(some 18), none, .ld (some 1106) (.t 2)⟩, ⟨(some 19), none, .call 10 [(.t 18)]⟩, ⟨(some 20), none, .ld (some 64) (.t 3)⟩, ⟨(some 21), none, .call 11 [(.t 20)]⟩, ⟨(some 22), none, .call 23 [(.t 19), (.t 21)]⟩, ⟨(some 17), none, .mov (.t 22)⟩, ⟨(some 23), none, .ex (.t 17) 0⟩, ⟨(some 24), none, .ex (.t 17) 1⟩] [⟨(some 7), none, .new 33 [(512, (.int .u8 0))]⟩, ⟨none, none, .st 512 (.t 7) (.t 23)⟩, ⟨(some 8), none, .mov (.t 24)⟩])
(.seq
(.seq
(.reg [⟨(some 25), none, .ld (some 512) (.t 7)⟩, ⟨(some 26), none, .ld (some 512) (.t 5)⟩, ⟨(some 27), none, .call 24 [(.t 25), (.t 26)]⟩, ⟨(some 28), none, .un .not (.t 27)⟩, ⟨(some 29), none, .mov (.t 28)⟩, ⟨(some 30), (some (29, false)), .mov (.t 8)⟩, ⟨(some 31), (some (29, false)), .mov (.t 6)⟩, ⟨(some 32), (some (29, false)), .bin .neq (.t 30) (.t 31)⟩, ⟨(some 33), none, .pick (.t 29) (.c (.bool true)) (.t 32)⟩])
(.cond (.t 33)
(.seq
(.reg [⟨(some 4), none, .mov (.c (.bool false))⟩])
.ret)
.skip))
(.seq
(.reg [⟨(some 4), none, .mov (.c (.bool true))⟩])
.ret)))))
theorem tr8 : trFn Try.prog Try.f8 = some (34, ir8, [.tmp 4]) := by kernel_rfl

/-- loop.example/g01230/spec.ConvolvePairings -/
def ir9 : Cd :=
(.seq
(.reg [⟨(some 3), none, .box 35 (.t 0)⟩, ⟨(some 4), none, .box 29 (.t 1)⟩, ⟨(some 5), none, .box 29 (.t 2)⟩, ⟨(some 6), none, .new 29 [(64, (.int .u8 0))]⟩, ⟨(some 7), none, .mov (.c (.int .i64 0))⟩])
(.seq
(.seq
(.reg [⟨(some 9), none, .ld (some 1106) (.t 3)⟩, ⟨(some 10), none, .ld (some 64) (.t 4)⟩, ⟨(some 11), none, .ld (some 64) (.t 5)⟩, ⟨(some 12), none, .bsl 29 2 64 [(64, (.int .u8 0))] [(0, 64, (.t 10)), (64, 64, (.t 11))]⟩, ⟨(some 13), none, .call 25 [(.t 9), (.t 12)]⟩, ⟨(some 8), none, .mov (.t 13)⟩])
(.seq
(.reg [⟨(some 14), none, .mov (.t 8)⟩, ⟨(some 15), none, .bin .neq (.t 14) (.c (.int .i64 0))⟩])
(.cond (.t 15)
(.seq
(.reg [⟨(some 16), none, .build 64 [(64, (.int .u8 0))] []⟩, ⟨(some 17), none, .mov (.t 8)⟩, ⟨none, none, .st 64 (.t 6) (.t 16)⟩, ⟨(some 7), none, .mov (.t 17)⟩])
.ret)
.skip)))
(.seq
(.reg [⟨(some 18), none, .ld (some 1106) (.t 3)⟩, ⟨(some 19), none, .ld (some 64) (.t 4)⟩, ⟨(some 20), none, .ld (some 64) (.t 5)⟩, ⟨(some 21), none, .call 26 [(.t 18), (.t 19), (.t 20)]⟩, ⟨none, none, .st 64 (.t 6) (.t 21)⟩, ⟨(some 7), none, .mov (.c (.int .i64 0))⟩])
.ret)))
theorem tr9 : trFn Try.prog Try.f9 = some (22, ir9, [.cell (some 64) 6, .tmp 7]) := by kernel_rfl

/-- loop.example/g01230/laws.toHopf -/
def ir10 : Cd :=
(.seq
(.reg [⟨(some 1), none, .box 26 (.t 0)⟩, ⟨(some 2), none, .new 35 [(2, (.int .i64 0)), (1104, (.int .u8 0))]⟩])
(.seq
(.reg [⟨(some 3), none, .new 35 [(2, (.int .i64 0)), (1104, (.int .u8 0))]⟩])
(.seq
(.reg [⟨(some 4), none, .fa 0 (.t 1)⟩, ⟨(some 5), none, .ld none (.t 4)⟩, ⟨(some 6), none, .fa 0 (.t 3)⟩, ⟨none, none, .st 1 (.t 6) (.t 5)⟩])
(.seq
(.reg [⟨(some 7), none, .fa 1 (.t 1)⟩, ⟨(some 8), none, .ld none (.t 7)⟩, ⟨(some 9), none, .fa 1 (.t 3)⟩, ⟨none, none, .st 1 (.t 9) (.t 8)⟩])
(.seq
(.reg [⟨(some 10), none, .fa 2 (.t 1)⟩, ⟨(some 11), none, .ld (some 8) (.t 10)⟩, ⟨(some 12), none, .call 27 [(.t 11)]⟩, ⟨(some 13), none, .fa 2 (.t 3)⟩, ⟨none, none, .st 8 (.t 13) (.t 12)⟩])
(.seq
(.reg [⟨(some 14), none, .fa 10 (.t 1)⟩, ⟨(some 15), none, .ld (some 512) (.t 14)⟩, ⟨(some 16), none, .call 28 [(.t 15)]⟩, ⟨(some 17), none, .fa 10 (.t 3)⟩, ⟨none, none, .st 512 (.t 17) (.t 16)⟩])
(.seq
(.reg [⟨(some 18), none, .fa 522 (.t 1)⟩, ⟨(some 19), none, .ld (some 8) (.t 18)⟩, ⟨(some 20), none, .call 27 [(.t 19)]⟩, ⟨(some 21), none, .fa 522 (.t 3)⟩, ⟨none, none, .st 8 (.t 21) (.t 20)⟩])
(.seq
(.reg [⟨(some 22), none, .fa 530 (.t 1)⟩, ⟨(some 23), none, .ld (some 512) (.t 22)⟩, ⟨(some 24), none, .call 28 [(.t 23)]⟩, ⟨(some 25), none, .fa 530 (.t 3)⟩, ⟨none, none, .st 512 (.t 25) (.t 24)⟩])
(.seq
(.reg [⟨(some 26), none, .fa 1042 (.t 1)⟩, ⟨(some 27), none, .ld (some 64) (.t 26)⟩, ⟨(some 28), none, .call 11 [(.t 27)]⟩, ⟨(some 29), none, .fa 1042 (.t 3)⟩, ⟨none, none, .st 64 (.t 29) (.t 28)⟩])
(.seq
(.reg [⟨(some 30), none, .ld (some 1106) (.t 3)⟩, ⟨none, none, .st 1106 (.t 2) (.t 30)⟩])
.ret))))))))))
theorem tr10 : trFn Try.prog Try.f10 = some (31, ir10, [.cell (some 1106) 2]) := by kernel_rfl

/-- loop.example/g01230/laws.toLinear -/
def ir11 : Cd :=
(.seq
(.reg [⟨(some 1), none, .box 23 (.t 0)⟩, ⟨(some 2), none, .new 29 [(64, (.int .u8 0))]⟩])
(.seq
(.reg [⟨(some 3), none, .new 29 [(64, (.int .u8 0))]⟩])
(.seq
(.seq
(.reg [⟨(some 4), none, .mov (.c (.int .i64 0))⟩])
(.block 0
(.loop
(.seq
(.seq
(.reg [⟨(some 5), none, .mov (.t 4)⟩, ⟨(some 6), none, .bin .lss (.t 5) (.c (.int .i64 8))⟩])
(.cond (.t 6)
.skip
(.exit 0)))
(.seq
(.block 1
(.reg [⟨(some 9), none, .mov (.t 4)⟩, ⟨(some 10), none, .mov (.t 4)⟩, ⟨(some 11), none, .ia 8 8 (.t 1) (.t 10)⟩, ⟨(some 12), none, .ld (some 8) (.t 11)⟩, ⟨(some 13), none, .call 27 [(.t 12)]⟩, ⟨(some 14), none, .ia 8 8 (.t 3) (.t 9)⟩, ⟨none, none, .st 8 (.t 14) (.t 13)⟩]))
(.reg [⟨(some 7), none, .mov (.t 4)⟩, ⟨(some 8), none, .bin .add (.t 7) (.c (.int .i64 1))⟩, ⟨(some 4), none, .mov (.t 8)⟩]))))))
(.seq
(.reg [⟨(some 15), none, .ld (some 64) (.t 3)⟩, ⟨none, none, .st 64 (.t 2) (.t 15)⟩])
.ret))))
theorem tr11 : trFn Try.prog Try.f11 = some (16, ir11, [.cell (some 64) 2]) := by kernel_rfl

/-- loop.example/g01230/impl.ConvolvePairings -/
def ir12 : Cd :=
(.seq
(.reg [⟨(some 3), none, .box 35 (.t 0)⟩, ⟨(some 4), none, .box 29 (.t 1)⟩, ⟨(some 5), none, .box 29 (.t 2)⟩, ⟨(some 6), none, .new 29 [(64, (.int .u8 0))]⟩, ⟨(some 7), none, .mov (.c (.int .i64 0))⟩])
(.seq
(.seq
(.reg [⟨(some 9), none, .bsl 53 2 1 [(1, .nil)] [(0, 1, (.t 4)), (1, 1, (.t 5))]⟩, ⟨(some 10), none, .call 29 [(.t 3), (.t 9)]⟩, ⟨(some 8), none, .mov (.t 10)⟩])
(.seq
(.reg [⟨(some 11), none, .mov (.t 8)⟩, ⟨(some 12), none, .bin .neq (.t 11) (.c (.int .i64 0))⟩])
(.cond (.t 12)
(.seq
(.reg [⟨(some 13), none, .build 64 [(64, (.int .u8 0))] []⟩, ⟨(some 14), none, .mov (.t 8)⟩, ⟨none, none, .st 64 (.t 6) (.t 13)⟩, ⟨(some 7), none, .mov (.t 14)⟩])
.ret)
.skip)))
(.seq
(.reg [⟨(some 15), none, .call 30 [(.t 3), (.t 4), (.t 5)]⟩, ⟨none, none, .st 64 (.t 6) (.t 15)⟩, ⟨(some 7), none, .mov (.c (.int .i64 0))⟩])
.ret)))
theorem tr12 : trFn Try.prog Try.f12 = some (16, ir12, [.cell (some 64) 6, .tmp 7]) := by kernel_rfl

/-- loop.example/g01230/laws.eqLinear -/
def ir13 : Cd :=
(.seq
(.reg [⟨(some 2), none, .box 29 (.t 0)⟩, ⟨(some 3), none, .box 29 (.t 1)⟩, ⟨(some 4), none, .mov (.c (.bool false))⟩])
(.seq
(.seq
(.reg [⟨(some 5), none, .mov (.c (.int .i64 0))⟩])
(.block 0
(.loop
(.seq
(.seq
(.reg [⟨(some 6), none, .mov (.t 5)⟩, ⟨(some 7), none, .bin .lss (.t 6) (.c (.int .i64 8))⟩])
(.cond (.t 7)
.skip
(.exit 0)))
(.seq
(.block 1
(.seq
(.drw true [6] [⟨(some 10), none, .mov (.t 5)⟩, ⟨(some 11), none, .ia 8 8 (.t 2) (.t 10)⟩, ⟨(some 12), none, .ld (some 8) (.t 11)⟩, ⟨(some 13), none, .mov (.t 5)⟩, ⟨(some 14), none, .ia 8 8 (.t 3) (.t 13)⟩, ⟨(some 15), none, .ld (some 8) (.t 14)⟩, ⟨(some 16), none, .call 31 [(.t 12), (.t 15)]⟩, ⟨(some 17), none, .un .not (.t 16)⟩])
(.cond (.t 17)
(.seq
(.reg [⟨(some 4), none, .mov (.c (.bool false))⟩])
.ret)
.skip)))
(.reg [⟨(some 8), none, .mov (.t 5)⟩, ⟨(some 9), none, .bin .add (.t 8) (.c (.int .i64 1))⟩, ⟨(some 5), none, .mov (.t 9)⟩]))))))
(.seq
(.reg [⟨(some 4), none, .mov (.c (.bool true))⟩])
.ret)))
theorem tr13 : trFn Try.prog Try.f13 = some (18, ir13, [.tmp 4]) := by kernel_rfl

/-- loop.example/g01230/spec.IsBicharacter -/
def ir14 : Cd :=
(.seq
(.reg [⟨(some 2), none, .box 35 (.t 0)⟩, ⟨(some 3), none, .box 29 (.t 1)⟩, ⟨(some 4), none, .mov (.c (.bool false))⟩, ⟨(some 5), none, .mov (.c (.int .i64 0))⟩])
(.seq
(.seq
(.reg [⟨(some 15), none, .ld (some 1106) (.t 2)⟩, ⟨(some 16), none, .ld (some 64) (.t 3)⟩, ⟨(some 17), none, .bsl 29 1 64 [(64, (.int .u8 0))] [(0, 64, (.t 16))]⟩, ⟨(some 18), none, .call 25 [(.t 15), (.t 17)]⟩, ⟨(some 6), none, .mov (.t 18)⟩])
(.seq
(.reg [⟨(some 19), none, .mov (.t 6)⟩, ⟨(some 20), none, .bin .neq (.t 19) (.c (.int .i64 0))⟩])
(.cond (.t 20)
(.seq
(.reg [⟨(some 21), none, .mov (.t 6)⟩, ⟨(some 4), none, .mov (.c (.bool false))⟩, ⟨(some 5), none, .mov (.t 21)⟩])
.ret)
.skip)))
(.seq
(.reg [⟨(some 22), none, .fa 1 (.t 2)⟩, ⟨(some 23), none, .ld none (.t 22)⟩, ⟨(some 7), none, .mov (.t 23)⟩])
(.seq
(.seq
(.reg [⟨(some 8), none, .mov (.c (.int .i64 0))⟩])
(.block 0
(.loop
(.seq
(.seq
(.reg [⟨(some 24), none, .mov (.t 8)⟩, ⟨(some 25), none, .mov (.t 7)⟩, ⟨(some 26), none, .bin .lss (.t 24) (.t 25)⟩])
(.cond (.t 26)
.skip
(.exit 0)))
(.seq
(.block 1
(.seq
(.reg [⟨(some 9), none, .mov (.c (.int .i64 0))⟩])
(.block 2
(.loop
(.seq
(.seq
(.reg [⟨(some 29), none, .mov (.t 9)⟩, ⟨(some 30), none, .mov (.t 7)⟩, ⟨(some 31), none, .bin .lss (.t 29) (.t 30)⟩])
(.cond (.t 31)
.skip
(.exit 2)))
(.seq
(.block 3
(.seq
(.reg [⟨(some 10), none, .mov (.c (.int .i64 0))⟩])
(.block 4
(.loop
(.seq
(.seq
(.reg [⟨(some 34), none, .mov (.t 10)⟩, ⟨(some 35), none, .mov (.t 7)⟩, ⟨(some 36), none, .bin .lss (.t 34) (.t 35)⟩])
(.cond (.t 36)
.skip
(.exit 4)))
(.seq
(.block 5
(.seq
(.reg [⟨(some 11), none, .mov (.c (.int .i64 0))⟩, ⟨(some 12), none, .mov (.c (.int .i64 0))⟩])
(.seq
(.seq
(.reg [⟨(some 13), none, .mov (.c (.int .i64 0))⟩])
(.block 6
(.loop
(.seq
(.seq
(.reg [⟨(some 39), none, .mov (.t 13)⟩, ⟨(some 40), none, .mov (.t 7)⟩, ⟨(some 41), none, .bin .lss (.t 39) (.t 40)⟩])
(.cond (.t 41)
.skip
(.exit 6)))
(.seq
(.block 7
(.seq
(.reg [⟨(some 14), none, .mov (.c (.int .i64 0))⟩])
(.block 8
(.loop
(.seq
(.seq
(.reg [⟨(some 44), none, .mov (.t 14)⟩, ⟨(some 45), none, .mov (.t 7)⟩, ⟨(some 46), none, .bin .lss (.t 44) (.t 45)⟩])
(.cond (.t 46)
.skip
(.exit 8)))
(.seq
(.block 9
(.seq
(.drw true [] [⟨(some 49), none, .mov (.t 11)⟩, ⟨(some 50), none, .mov (.t 10)⟩, ⟨(some 51), none, .mov (.t 13)⟩, ⟨(some 52), none, .mov (.t 14)⟩, ⟨(some 53), none, .fa 530 (.t 2)⟩, ⟨(some 54), none, .ia 8 64 (.t 53) (.t 50)⟩, ⟨(some 55), none, .ia 8 8 (.t 54) (.t 51)⟩, ⟨(some 56), none, .ia 8 1 (.t 55) (.t 52)⟩, ⟨(some 57), none, .ld none (.t 56)⟩, ⟨(some 58), none, .cv .i64 (.t 57)⟩, ⟨(some 59), none, .mov (.t 8)⟩, ⟨(some 60), none, .mov (.t 13)⟩, ⟨(some 61), none, .ia 8 8 (.t 3) (.t 59)⟩, ⟨(some 62), none, .ia 8 1 (.t 61) (.t 60)⟩, ⟨(some 63), none, .ld none (.t 62)⟩, ⟨(some 64), none, .cv .i64 (.t 63)⟩, ⟨(some 65), none, .bin .mul (.t 58) (.t 64)⟩, ⟨(some 66), none, .fa 0 (.t 2)⟩, ⟨(some 67), none, .ld none (.t 66)⟩, ⟨(some 68), none, .bin .rem (.t 65) (.t 67)⟩, ⟨(some 69), none, .mov (.t 9)⟩, ⟨(some 70), none, .mov (.t 14)⟩, ⟨(some 71), none, .ia 8 8 (.t 3) (.t 69)⟩, ⟨(some 72), none, .ia 8 1 (.t 71) (.t 70)⟩, ⟨(some 73), none, .ld none (.t 72)⟩, ⟨(some 74), none, .cv .i64 (.t 73)⟩, ⟨(some 75), none, .bin .mul (.t 68) (.t 74)⟩, ⟨(some 76), none, .bin .add (.t 49) (.t 75)⟩, ⟨(some 11), none, .mov (.t 76)⟩])
(.drw true [] [⟨(some 77), none, .mov (.t 12)⟩, ⟨(some 78), none, .mov (.t 8)⟩, ⟨(some 79), none, .mov (.t 13)⟩, ⟨(some 80), none, .mov (.t 14)⟩, ⟨(some 81), none, .fa 530 (.t 2)⟩, ⟨(some 82), none, .ia 8 64 (.t 81) (.t 78)⟩, ⟨(some 83), none, .ia 8 8 (.t 82) (.t 79)⟩, ⟨(some 84), none, .ia 8 1 (.t 83) (.t 80)⟩, ⟨(some 85), none, .ld none (.t 84)⟩, ⟨(some 86), none, .cv .i64 (.t 85)⟩, ⟨(some 87), none, .mov (.t 13)⟩, ⟨(some 88), none, .mov (.t 9)⟩, ⟨(some 89), none, .ia 8 8 (.t 3) (.t 87)⟩, ⟨(some 90), none, .ia 8 1 (.t 89) (.t 88)⟩, ⟨(some 91), none, .ld none (.t 90)⟩, ⟨(some 92), none, .cv .i64 (.t 91)⟩, ⟨(some 93), none, .bin .mul (.t 86) (.t 92)⟩, ⟨(some 94), none, .fa 0 (.t 2)⟩, ⟨(some 95), none, .ld none (.t 94)⟩, ⟨(some 96), none, .bin .rem (.t 93) (.t 95)⟩, ⟨(some 97), none, .mov (.t 14)⟩, ⟨(some 98), none, .mov (.t 10)⟩, ⟨(some 99), none, .ia 8 8 (.t 3) (.t 97)⟩, ⟨(some 100), none, .ia 8 1 (.t 99) (.t 98)⟩, ⟨(some 101), none, .ld none (.t 100)⟩, ⟨(some 102), none, .cv .i64 (.t 101)⟩, ⟨(some 103), none, .bin .mul (.t 96) (.t 102)⟩, ⟨(some 104), none, .bin .add (.t 77) (.t 103)⟩, ⟨(some 12), none, .mov (.t 104)⟩])))
(.reg [⟨(some 47), none, .mov (.t 14)⟩, ⟨(some 48), none, .bin .add (.t 47) (.c (.int .i64 1))⟩, ⟨(some 14), none, .mov (.t 48)⟩])))))))
(.reg [⟨(some 42), none, .mov (.t 13)⟩, ⟨(some 43), none, .bin .add (.t 42) (.c (.int .i64 1))⟩, ⟨(some 13), none, .mov (.t 43)⟩]))))))
(.seq
(.drwo true [] [0, 1, 2, 3, 4, 5, 6, 7, 8, 11, 12, 13, 14, 9, 10, 15, 16, 17, 18, 19, 21, 22, 23, 24, 25, 26, 28, 29, 30, 31, 20, 27, 32, 33] [⟨(some 105), none, .ld (some 1106) (.t 2)⟩, ⟨(some 106), none, .ld (some 64) (.t 3)⟩, ⟨(some 107), none, .mov (.t 8)⟩, ⟨(some 108), none, .mov (.t 9)⟩, ⟨(some 109), none, .fa 10 (.t 2)⟩, ⟨(some 110), none, .ia 8 64 (.t 109) (.t 107)⟩, ⟨(some 111), none, .ia 8 8 (.t 110) (.t 108)⟩, ⟨(some 112), none, .ld (some 8) (.t 111)⟩, ⟨(some 113), none, .mov (.t 10)⟩, ⟨(some 114), none, .call 33 [(.t 113)]⟩, ⟨(some 115), none, .call 32 [(.t 105), (.t 106), (.t 112), (.t 114)]⟩, ⟨(some 116), none, .mov (.t 11)⟩, ⟨(some 117), none, .fa 0 (.t 2)⟩, ⟨(some 118), none, .ld none (.t 117)⟩, ⟨(some 119), none, .bin .rem (.t 116) (.t 118)⟩, ⟨(some 120), none, .bin .neq (.t 115) (.t 119)⟩, ⟨(some 121), none, .mov (.t 120)⟩, ⟨(some 122), (some (121, false)), .ld (some 1106) (.t 2)⟩, ⟨(some 123), (some (121, false)), .ld (some 64) (.t 3)⟩, ⟨(some 124), (some (121, false)), .mov (.t 8)⟩, ⟨(some 125), (some (121, false)), .call 33 [(.t 124)]⟩, ⟨(some 126), (some (121, false)), .mov (.t 9)⟩, ⟨(some 127), (some (121, false)), .mov (.t 10)⟩, ⟨(some 128), (some (121, false)), .fa 10 (.t 2)⟩, ⟨(some 129), (some (121, false)), .ia 8 64 (.t 128) (.t 126)⟩, ⟨(some 130), (some (121, false)), .ia 8 8 (.t 129) (.t 127)⟩, ⟨(some 131), (some (121, false)), .ld (some 8) (.t 130)⟩, ⟨(some 132), (some (121, false)), .call 32 [(.t 122), (.t 123), (.t 125), (.t 131)]⟩, ⟨(some 133), (some (121, false)), .mov (.t 12)⟩, ⟨(some 134), (some (121, false)), .fa 0 (.t 2)⟩, ⟨(some 135), (some (121, false)), .ld none (.t 134)⟩, ⟨(some 136), (some (121, false)), .bin .rem (.t 133) (.t 135)⟩, ⟨(some 137), (some (121, false)), .bin .neq (.t 132) (.t 136)⟩, ⟨(some 138), none, .pick (.t 121) (.c (.bool true)) (.t 137)⟩])
(.cond (.t 138)
(.seq
(.reg [⟨(some 4), none, .mov (.c (.bool false))⟩, ⟨(some 5), none, .mov (.c (.int .i64 0))⟩])
.ret)
.skip)))))
(.reg [⟨(some 37), none, .mov (.t 10)⟩, ⟨(some 38), none, .bin .add (.t 37) (.c (.int .i64 1))⟩, ⟨(some 10), none, .mov (.t 38)⟩])))))))
(.reg [⟨(some 32), none, .mov (.t 9)⟩, ⟨(some 33), none, .bin .add (.t 32) (.c (.int .i64 1))⟩, ⟨(some 9), none, .mov (.t 33)⟩])))))))
(.reg [⟨(some 27), none, .mov (.t 8)⟩, ⟨(some 28), none, .bin .add (.t 27) (.c (.int .i64 1))⟩, ⟨(some 8), none, .mov (.t 28)⟩]))))))
(.seq
(.reg [⟨(some 139), none, .ld (some 1106) (.t 2)⟩, ⟨(some 140), none, .ld (some 64) (.t 3)⟩, ⟨(some 141), none, .call 34 [(.t 139), (.t 140)]⟩, ⟨(some 4), none, .mov (.t 141)⟩, ⟨(some 5), none, .mov (.c (.int .i64 0))⟩])
.ret)))))
theorem tr14 : trFn Try.prog Try.f14 = some (142, ir14, [.tmp 4, .tmp 5]) := by kernel_rfl

/-- loop.example/g01230/impl.IsBicharacter -/
def ir15 : Cd :=
(.seq
(.reg [⟨(some 2), none, .box 35 (.t 0)⟩, ⟨(some 3), none, .box 29 (.t 1)⟩, ⟨(some 4), none, .mov (.c (.bool false))⟩, ⟨(some 5), none, .mov (.c (.int .i64 0))⟩])
(.seq
(.seq
(.reg [⟨(some 12), none, .bsl 53 1 1 [(1, .nil)] [(0, 1, (.t 3))]⟩, ⟨(some 13), none, .call 29 [(.t 2), (.t 12)]⟩, ⟨(some 6), none, .mov (.t 13)⟩])
(.seq
(.reg [⟨(some 14), none, .mov (.t 6)⟩, ⟨(some 15), none, .bin .neq (.t 14) (.c (.int .i64 0))⟩])
(.cond (.t 15)
(.seq
(.reg [⟨(some 16), none, .mov (.t 6)⟩, ⟨(some 4), none, .mov (.c (.bool false))⟩, ⟨(some 5), none, .mov (.t 16)⟩])
.ret)
.skip)))
(.seq
(.reg [⟨(some 17), none, .call 35 [(.t 2)]⟩, ⟨(some 7), none, .new 60 [(2, (.int .i64 0))]⟩, ⟨none, none, .st 2 (.t 7) (.t 17)⟩])
(.seq
(.seq
(.reg [⟨(some 18), none, .fa 1 (.t 7)⟩, ⟨(some 19), none, .ld none (.t 18)⟩, ⟨(some 20), none, .mov (.c (.int .i64 0))⟩])
(.block 0
(.loop
(.seq
(.reg [⟨(some 21), none, .bin .lss (.t 20) (.t 19)⟩])
(.seq
(.cond (.t 21)
.skip
(.exit 0))
(.seq
(.block 1
(.seq
(.reg [⟨(some 22), none, .mov (.t 20)⟩, ⟨(some 8), none, .mov (.t 22)⟩])
(.seq
(.reg [⟨(some 23), none, .fa 1 (.t 7)⟩, ⟨(some 24), none, .ld none (.t 23)⟩, ⟨(some 25), none, .mov (.c (.int .i64 0))⟩])
(.block 2
(.loop
(.seq
(.reg [⟨(some 26), none, .bin .lss (.t 25) (.t 24)⟩])
(.seq
(.cond (.t 26)
.skip
(.exit 2))
(.seq
(.block 3
(.seq
(.reg [⟨(some 27), none, .mov (.t 25)⟩, ⟨(some 9), none, .new 3 [(1, (.int .i64 0))]⟩, ⟨none, none, .st 1 (.t 9) (.t 27)⟩])
(.seq
(.reg [⟨(some 28), none, .fa 1 (.t 7)⟩, ⟨(some 29), none, .ld none (.t 28)⟩, ⟨(some 30), none, .mov (.c (.int .i64 0))⟩])
(.block 4
(.loop
(.seq
(.reg [⟨(some 31), none, .bin .lss (.t 30) (.t 29)⟩])
(.seq
(.cond (.t 31)
.skip
(.exit 4))
(.seq
(.block 5
(.seq
(.reg [⟨(some 32), none, .mov (.t 30)⟩, ⟨(some 10), none, .new 3 [(1, (.int .i64 0))]⟩, ⟨none, none, .st 1 (.t 10) (.t 32)⟩])
(.seq
(.reg [⟨(some 11), none, .new 3 [(1, (.int .i64 0))]⟩, ⟨none, none, .st 1 (.t 11) (.c (.int .i64 0))⟩])
(.seq
(.reg [⟨(some 33), none, .mov (.t 8)⟩, ⟨(some 34), none, .fa 530 (.t 2)⟩, ⟨(some 35), none, .ia 8 64 (.t 34) (.t 33)⟩, ⟨(some 36), none, .mkf 37 [] [(.t 11), (.t 3), (.t 9), (.t 7), (.t 10)]⟩, ⟨(some 37), none, .call 36 [(.t 35), (.t 36)]⟩])
(.seq
(.drwo true [] [0, 1, 2, 3, 4, 5, 6, 7, 9, 10, 11, 12, 13, 14, 16, 17, 18, 19, 8, 15, 20, 21] [⟨(some 38), none, .mov (.t 8)⟩, ⟨(some 39), none, .ld none (.t 9)⟩, ⟨(some 40), none, .ld none (.t 10)⟩, ⟨(some 41), none, .call 38 [(.t 2), (.t 3), (.t 38), (.t 39), (.t 40)]⟩, ⟨(some 42), none, .un .not (.t 41)⟩, ⟨(some 43), none, .mov (.t 42)⟩, ⟨(some 44), (some (43, false)), .ld (some 2) (.t 7)⟩, ⟨(some 45), (some (43, false)), .mov (.t 8)⟩, ⟨(some 46), (some (43, false)), .call 40 [(.t 45)]⟩, ⟨(some 47), (some (43, false)), .ld none (.t 9)⟩, ⟨(some 48), (some (43, false)), .ld none (.t 10)⟩, ⟨(some 49), (some (43, false)), .fa 10 (.t 2)⟩, ⟨(some 50), (some (43, false)), .ia 8 64 (.t 49) (.t 47)⟩, ⟨(some 51), (some (43, false)), .ia 8 8 (.t 50) (.t 48)⟩, ⟨(some 52), (some (43, false)), .ld (some 8) (.t 51)⟩, ⟨(some 53), (some (43, false)), .call 39 [(.t 44), (.t 3), (.t 46), (.t 52)]⟩, ⟨(some 54), (some (43, false)), .ld none (.t 11)⟩, ⟨(some 55), (some (43, false)), .fa 0 (.t 7)⟩, ⟨(some 56), (some (43, false)), .ld none (.t 55)⟩, ⟨(some 57), (some (43, false)), .bin .rem (.t 54) (.t 56)⟩, ⟨(some 58), (some (43, false)), .bin .neq (.t 53) (.t 57)⟩, ⟨(some 59), none, .pick (.t 43) (.c (.bool true)) (.t 58)⟩])
(.cond (.t 59)
(.seq
(.reg [⟨(some 4), none, .mov (.c (.bool false))⟩, ⟨(some 5), none, .mov (.c (.int .i64 0))⟩])
.ret)
.skip))))))
(.reg [⟨(some 60), none, .bin .add (.t 30) (.c (.int .i64 1))⟩, ⟨(some 30), none, .mov (.t 60)⟩])))))))))
(.reg [⟨(some 61), none, .bin .add (.t 25) (.c (.int .i64 1))⟩, ⟨(some 25), none, .mov (.t 61)⟩])))))))))
(.reg [⟨(some 62), none, .bin .add (.t 20) (.c (.int .i64 1))⟩, ⟨(some 20), none, .mov (.t 62)⟩])))))))
(.seq
(.reg [⟨(some 63), none, .call 41 [(.t 2), (.t 3)]⟩, ⟨(some 4), none, .mov (.t 63)⟩, ⟨(some 5), none, .mov (.c (.int .i64 0))⟩])
.ret)))))
theorem tr15 : trFn Try.prog Try.f15 = some (64, ir15, [.tmp 4, .tmp 5]) := by kernel_rfl

/-- loop.example/g01230/spec.IsCocycle -/
def ir16 : Cd :=
(.seq
(.reg [⟨(some 2), none, .box 35 (.t 0)⟩, ⟨(some 3), none, .box 29 (.t 1)⟩, ⟨(some 4), none, .mov (.c (.bool false))⟩, ⟨(some 5), none, .mov (.c (.int .i64 0))⟩])
(.seq
(.seq
(.reg [⟨(some 7), none, .ld (some 1106) (.t 2)⟩, ⟨(some 8), none, .ld (some 64) (.t 3)⟩, ⟨(some 9), none, .bsl 29 1 64 [(64, (.int .u8 0))] [(0, 64, (.t 8))]⟩, ⟨(some 10), none, .call 25 [(.t 7), (.t 9)]⟩, ⟨(some 6), none, .mov (.t 10)⟩])
(.seq
(.reg [⟨(some 11), none, .mov (.t 6)⟩, ⟨(some 12), none, .bin .neq (.t 11) (.c (.int .i64 0))⟩])
(.cond (.t 12)
(.seq
(.reg [⟨(some 13), none, .mov (.t 6)⟩, ⟨(some 4), none, .mov (.c (.bool false))⟩, ⟨(some 5), none, .mov (.t 13)⟩])
.ret)
.skip)))
(.seq
(.reg [⟨(some 14), none, .ld (some 1106) (.t 2)⟩, ⟨(some 15), none, .ld (some 64) (.t 3)⟩, ⟨(some 16), none, .call 42 [(.t 14), (.t 15)]⟩, ⟨(some 4), none, .mov (.t 16)⟩, ⟨(some 5), none, .mov (.c (.int .i64 0))⟩])
.ret)))
theorem tr16 : trFn Try.prog Try.f16 = some (17, ir16, [.tmp 4, .tmp 5]) := by kernel_rfl

/-- loop.example/g01230/impl.IsCocycle -/
def ir17 : Cd :=
(.seq
(.reg [⟨(some 2), none, .box 35 (.t 0)⟩, ⟨(some 3), none, .box 29 (.t 1)⟩, ⟨(some 4), none, .mov (.c (.bool false))⟩, ⟨(some 5), none, .mov (.c (.int .i64 0))⟩])
(.seq
(.seq
(.reg [⟨(some 7), none, .bsl 53 1 1 [(1, .nil)] [(0, 1, (.t 3))]⟩, ⟨(some 8), none, .call 29 [(.t 2), (.t 7)]⟩, ⟨(some 6), none, .mov (.t 8)⟩])
(.seq
(.reg [⟨(some 9), none, .mov (.t 6)⟩, ⟨(some 10), none, .bin .neq (.t 9) (.c (.int .i64 0))⟩])
(.cond (.t 10)
(.seq
(.reg [⟨(some 11), none, .mov (.t 6)⟩, ⟨(some 4), none, .mov (.c (.bool false))⟩, ⟨(some 5), none, .mov (.t 11)⟩])
.ret)
.skip)))
(.seq
(.reg [⟨(some 12), none, .call 43 [(.t 2), (.t 3)]⟩, ⟨(some 4), none, .mov (.t 12)⟩, ⟨(some 5), none, .mov (.c (.int .i64 0))⟩])
.ret)))
theorem tr17 : trFn Try.prog Try.f17 = some (13, ir17, [.tmp 4, .tmp 5]) := by kernel_rfl

/-- loop.example/g01230/spec.MultiplyMatrices -/
def ir18 : Cd :=
(.seq
(.reg [⟨(some 3), none, .box 35 (.t 0)⟩, ⟨(some 4), none, .box 29 (.t 1)⟩, ⟨(some 5), none, .box 29 (.t 2)⟩, ⟨(some 6), none, .new 29 [(64, (.int .u8 0))]⟩, ⟨(some 7), none, .mov (.c (.int .i64 0))⟩])
(.seq
(.seq
(.reg [⟨(some 9), none, .ld (some 1106) (.t 3)⟩, ⟨(some 10), none, .ld (some 64) (.t 4)⟩, ⟨(some 11), none, .ld (some 64) (.t 5)⟩, ⟨(some 12), none, .bsl 29 2 64 [(64, (.int .u8 0))] [(0, 64, (.t 10)), (64, 64, (.t 11))]⟩, ⟨(some 13), none, .call 44 [(.t 9), (.c (.bool false)), (.t 12)]⟩, ⟨(some 8), none, .mov (.t 13)⟩])
(.seq
(.reg [⟨(some 14), none, .mov (.t 8)⟩, ⟨(some 15), none, .bin .neq (.t 14) (.c (.int .i64 0))⟩])
(.cond (.t 15)
(.seq
(.reg [⟨(some 16), none, .build 64 [(64, (.int .u8 0))] []⟩, ⟨(some 17), none, .mov (.t 8)⟩, ⟨none, none, .st 64 (.t 6) (.t 16)⟩, ⟨(some 7), none, .mov (.t 17)⟩])
.ret)
.skip)))
(.seq
(.reg [⟨(some 18), none, .ld (some 1106) (.t 3)⟩, ⟨(some 19), none, .ld (some 64) (.t 4)⟩, ⟨(some 20), none, .ld (some 64) (.t 5)⟩, ⟨(some 21), none, .call 45 [(.t 18), (.t 19), (.t 20)]⟩, ⟨none, none, .st 64 (.t 6) (.t 21)⟩, ⟨(some 7), none, .mov (.c (.int .i64 0))⟩])
.ret)))
theorem tr18 : trFn Try.prog Try.f18 = some (22, ir18, [.cell (some 64) 6, .tmp 7]) := by kernel_rfl

/-- loop.example/g01230/impl.MultiplyMatrices -/
def ir19 : Cd :=
(.seq
(.reg [⟨(some 3), none, .box 35 (.t 0)⟩, ⟨(some 4), none, .box 29 (.t 1)⟩, ⟨(some 5), none, .box 29 (.t 2)⟩, ⟨(some 6), none, .new 29 [(64, (.int .u8 0))]⟩, ⟨(some 7), none, .mov (.c (.int .i64 0))⟩])
(.seq
(.seq
(.reg [⟨(some 9), none, .bsl 53 2 1 [(1, .nil)] [(0, 1, (.t 4)), (1, 1, (.t 5))]⟩, ⟨(some 10), none, .call 29 [(.t 3), (.t 9)]⟩, ⟨(some 8), none, .mov (.t 10)⟩])
(.seq
(.reg [⟨(some 11), none, .mov (.t 8)⟩, ⟨(some 12), none, .bin .neq (.t 11) (.c (.int .i64 0))⟩])
(.cond (.t 12)
(.seq
(.reg [⟨(some 13), none, .build 64 [(64, (.int .u8 0))] []⟩, ⟨(some 14), none, .mov (.t 8)⟩, ⟨none, none, .st 64 (.t 6) (.t 13)⟩, ⟨(some 7), none, .mov (.t 14)⟩])
.ret)
.skip)))
(.seq
(.reg [⟨(some 15), none, .call 46 [(.t 3), (.t 4), (.t 5)]⟩, ⟨none, none, .st 64 (.t 6) (.t 15)⟩, ⟨(some 7), none, .mov (.c (.int .i64 0))⟩])
.ret)))
theorem tr19 : trFn Try.prog Try.f19 = some (16, ir19, [.cell (some 64) 6, .tmp 7]) := by kernel_rfl

/-- loop.example/g01230/spec.FlipMatrix -/
def ir20 : Cd :=
(.seq
(.reg [⟨(some 2), none, .box 35 (.t 0)⟩, ⟨(some 3), none, .box 29 (.t 1)⟩, ⟨(some 4), none, .new 29 [(64, (.int .u8 0))]⟩, ⟨(some 5), none, .mov (.c (.int .i64 0))⟩])
(.seq
(.seq
(.reg [⟨(some 7), none, .ld (some 1106) (.t 2)⟩, ⟨(some 8), none, .ld (some 64) (.t 3)⟩, ⟨(some 9), none, .bsl 29 1 64 [(64, (.int .u8 0))] [(0, 64, (.t 8))]⟩, ⟨(some 10), none, .call 44 [(.t 7), (.c (.bool false)), (.t 9)]⟩, ⟨(some 6), none, .mov (.t 10)⟩])
(.seq
(.reg [⟨(some 11), none, .mov (.t 6)⟩, ⟨(some 12), none, .bin .neq (.t 11) (.c (.int .i64 0))⟩])
(.cond (.t 12)
(.seq
(.reg [⟨(some 13), none, .build 64 [(64, (.int .u8 0))] []⟩, ⟨(some 14), none, .mov (.t 6)⟩, ⟨none, none, .st 64 (.t 4) (.t 13)⟩, ⟨(some 5), none, .mov (.t 14)⟩])
.ret)
.skip)))
(.seq
(.reg [⟨(some 15), none, .fa 1 (.t 2)⟩, ⟨(some 16), none, .ld none (.t 15)⟩, ⟨(some 17), none, .ld (some 64) (.t 3)⟩, ⟨(some 18), none, .call 47 [(.t 16), (.t 17)]⟩, ⟨none, none, .st 64 (.t 4) (.t 18)⟩, ⟨(some 5), none, .mov (.c (.int .i64 0))⟩])
.ret)))
theorem tr20 : trFn Try.prog Try.f20 = some (19, ir20, [.cell (some 64) 4, .tmp 5]) := by kernel_rfl

/-- loop.example/g01230/impl.FlipMatrix -/
def ir21 : Cd :=
(.seq
(.reg [⟨(some 2), none, .box 35 (.t 0)⟩, ⟨(some 3), none, .box 29 (.t 1)⟩, ⟨(some 4), none, .new 29 [(64, (.int .u8 0))]⟩, ⟨(some 5), none, .mov (.c (.int .i64 0))⟩])
(.seq
(.seq
(.reg [⟨(some 7), none, .bsl 53 1 1 [(1, .nil)] [(0, 1, (.t 3))]⟩, ⟨(some 8), none, .call 29 [(.t 2), (.t 7)]⟩, ⟨(some 6), none, .mov (.t 8)⟩])
(.seq
(.reg [⟨(some 9), none, .mov (.t 6)⟩, ⟨(some 10), none, .bin .neq (.t 9) (.c (.int .i64 0))⟩])
(.cond (.t 10)
(.seq
(.reg [⟨(some 11), none, .build 64 [(64, (.int .u8 0))] []⟩, ⟨(some 12), none, .mov (.t 6)⟩, ⟨none, none, .st 64 (.t 4) (.t 11)⟩, ⟨(some 5), none, .mov (.t 12)⟩])
.ret)
.skip)))
(.seq
(.reg [⟨(some 13), none, .call 48 [(.t 3)]⟩, ⟨none, none, .st 64 (.t 4) (.t 13)⟩, ⟨(some 5), none, .mov (.c (.int .i64 0))⟩])
.ret)))
theorem tr21 : trFn Try.prog Try.f21 = some (14, ir21, [.cell (some 64) 4, .tmp 5]) := by kernel_rfl

/-- loop.example/g01230/spec.FirstPartCoproduct -/
def ir22 : Cd :=
(.seq
(.reg [⟨(some 2), none, .box 35 (.t 0)⟩, ⟨(some 3), none, .box 29 (.t 1)⟩, ⟨(some 4), none, .new 33 [(512, (.int .u8 0))]⟩, ⟨(some 5), none, .mov (.c (.int .i64 0))⟩])
(.seq
(.seq
(.reg [⟨(some 7), none, .ld (some 1106) (.t 2)⟩, ⟨(some 8), none, .ld (some 64) (.t 3)⟩, ⟨(some 9), none, .bsl 29 1 64 [(64, (.int .u8 0))] [(0, 64, (.t 8))]⟩, ⟨(some 10), none, .call 44 [(.t 7), (.c (.bool false)), (.t 9)]⟩, ⟨(some 6), none, .mov (.t 10)⟩])
(.seq
(.reg [⟨(some 11), none, .mov (.t 6)⟩, ⟨(some 12), none, .bin .neq (.t 11) (.c (.int .i64 0))⟩])
(.cond (.t 12)
(.seq
(.reg [⟨(some 13), none, .build 512 [(512, (.int .u8 0))] []⟩, ⟨(some 14), none, .mov (.t 6)⟩, ⟨none, none, .st 512 (.t 4) (.t 13)⟩, ⟨(some 5), none, .mov (.t 14)⟩])
.ret)
.skip)))
(.seq
(.reg [⟨(some 15), none, .ld (some 1106) (.t 2)⟩, ⟨(some 16), none, .ld (some 64) (.t 3)⟩, ⟨(some 17), none, .call 49 [(.t 15), (.t 16)]⟩, ⟨none, none, .st 512 (.t 4) (.t 17)⟩, ⟨(some 5), none, .mov (.c (.int .i64 0))⟩])
.ret)))
theorem tr22 : trFn Try.prog Try.f22 = some (18, ir22, [.cell (some 512) 4, .tmp 5]) := by kernel_rfl

/-- loop.example/g01230/impl.FirstPartCoproduct -/
def ir23 : Cd :=
(.seq
(.reg [⟨(some 2), none, .box 35 (.t 0)⟩, ⟨(some 3), none, .box 29 (.t 1)⟩, ⟨(some 4), none, .new 33 [(512, (.int .u8 0))]⟩, ⟨(some 5), none, .mov (.c (.int .i64 0))⟩])
(.seq
(.seq
(.reg [⟨(some 7), none, .bsl 53 1 1 [(1, .nil)] [(0, 1, (.t 3))]⟩, ⟨(some 8), none, .call 29 [(.t 2), (.t 7)]⟩, ⟨(some 6), none, .mov (.t 8)⟩])
(.seq
(.reg [⟨(some 9), none, .mov (.t 6)⟩, ⟨(some 10), none, .bin .neq (.t 9) (.c (.int .i64 0))⟩])
(.cond (.t 10)
(.seq
(.reg [⟨(some 11), none, .build 512 [(512, (.int .u8 0))] []⟩, ⟨(some 12), none, .mov (.t 6)⟩, ⟨none, none, .st 512 (.t 4) (.t 11)⟩, ⟨(some 5), none, .mov (.t 12)⟩])
.ret)
.skip)))
(.seq
(.reg [⟨(some 13), none, .call 50 [(.t 2), (.t 3)]⟩, ⟨none, none, .st 512 (.t 4) (.t 13)⟩, ⟨(some 5), none, .mov (.c (.int .i64 0))⟩])
.ret)))
theorem tr23 : trFn Try.prog Try.f23 = some (14, ir23, [.cell (some 512) 4, .tmp 5]) := by kernel_rfl

/-- loop.example/g01230/laws.eqTable -/
def ir24 : Cd :=
(.seq
(.reg [⟨(some 2), none, .box 33 (.t 0)⟩, ⟨(some 3), none, .box 33 (.t 1)⟩, ⟨(some 4), none, .mov (.c (.bool false))⟩])
(.seq
(.seq
(.reg [⟨(some 5), none, .mov (.c (.int .i64 0))⟩])
(.block 0
(.loop
(.seq
(.seq
(.reg [⟨(some 6), none, .mov (.t 5)⟩, ⟨(some 7), none, .bin .lss (.t 6) (.c (.int .i64 8))⟩])
(.cond (.t 7)
.skip
(.exit 0)))
(.seq
(.block 1
(.seq
(.drw true [6] [⟨(some 10), none, .mov (.t 5)⟩, ⟨(some 11), none, .ia 8 64 (.t 2) (.t 10)⟩, ⟨(some 12), none, .ld (some 64) (.t 11)⟩, ⟨(some 13), none, .mov (.t 5)⟩, ⟨(some 14), none, .ia 8 64 (.t 3) (.t 13)⟩, ⟨(some 15), none, .ld (some 64) (.t 14)⟩, ⟨(some 16), none, .call 13 [(.t 12), (.t 15)]⟩, ⟨(some 17), none, .un .not (.t 16)⟩])
(.cond (.t 17)
(.seq
(.reg [⟨(some 4), none, .mov (.c (.bool false))⟩])
.ret)
.skip)))
(.reg [⟨(some 8), none, .mov (.t 5)⟩, ⟨(some 9), none, .bin .add (.t 8) (.c (.int .i64 1))⟩, ⟨(some 5), none, .mov (.t 9)⟩]))))))
(.seq
(.reg [⟨(some 4), none, .mov (.c (.bool true))⟩])
.ret)))
theorem tr24 : trFn Try.prog Try.f24 = some (18, ir24, [.tmp 4]) := by kernel_rfl

/-- loop.example/g01230/spec.l10Code -/
def ir25 : Cd :=
(.seq
(.reg [⟨(some 2), none, .box 35 (.t 0)⟩, ⟨(some 4), none, .mov (.c (.int .i64 0))⟩])
(.seq
(.seq
(.reg [⟨(some 7), none, .ld (some 1106) (.t 2)⟩, ⟨(some 8), none, .call 51 [(.t 7)]⟩, ⟨(some 9), none, .un .not (.t 8)⟩])
(.cond (.t 9)
(.seq
(.reg [⟨(some 4), none, .mov (.c (.int .i64 1))⟩])
.ret)
.skip))
(.seq
(.seq
(.reg [⟨(some 5), none, .mov (.c (.int .i64 0))⟩])
(.block 0
(.loop
(.seq
(.seq
(.reg [⟨(some 10), none, .mov (.t 5)⟩, ⟨(some 11), none, .mov (.t 1)⟩, ⟨(some 12), none, .len (.t 11)⟩, ⟨(some 13), none, .bin .lss (.t 10) (.t 12)⟩])
(.cond (.t 13)
.skip
(.exit 0)))
(.seq
(.block 1
(.seq
(.seq
(.drw true [8] [⟨(some 16), none, .fa 0 (.t 2)⟩, ⟨(some 17), none, .ld none (.t 16)⟩, ⟨(some 18), none, .fa 1 (.t 2)⟩, ⟨(some 19), none, .ld none (.t 18)⟩, ⟨(some 20), none, .mov (.t 1)⟩, ⟨(some 21), none, .mov (.t 5)⟩, ⟨(some 22), none, .isl 64 (.t 20) (.t 21)⟩, ⟨(some 23), none, .ld (some 64) (.t 22)⟩, ⟨(some 24), none, .call 52 [(.t 17), (.t 19), (.t 23)]⟩, ⟨(some 25), none, .un .not (.t 24)⟩])
(.cond (.t 25)
(.seq
(.reg [⟨(some 4), none, .mov (.c (.int .i64 1))⟩])
.ret)
.skip))
(.seq
(.reg [⟨(some 26), none, .fa 1 (.t 2)⟩, ⟨(some 27), none, .ld none (.t 26)⟩, ⟨(some 6), none, .mov (.t 27)⟩])
(.block 2
(.loop
(.seq
(.seq
(.reg [⟨(some 28), none, .mov (.t 6)⟩, ⟨(some 29), none, .bin .lss (.t 28) (.c (.int .i64 8))⟩])
(.cond (.t 29)
.skip
(.exit 2)))
(.seq
(.block 3
(.seq
(.reg [⟨(some 32), none, .mov (.t 1)⟩, ⟨(some 33), none, .mov (.t 5)⟩, ⟨(some 34), none, .mov (.t 6)⟩, ⟨(some 35), none, .isl 64 (.t 32) (.t 33)⟩, ⟨(some 36), none, .ia 8 8 (.t 35) (.t 34)⟩, ⟨(some 37), none, .ld (some 8) (.t 36)⟩, ⟨(some 38), none, .call 53 [(.t 37)]⟩, ⟨(some 39), none, .un .not (.t 38)⟩])
(.cond (.t 39)
(.seq
(.reg [⟨(some 4), none, .mov (.c (.int .i64 1))⟩])
.ret)
.skip)))
(.reg [⟨(some 30), none, .mov (.t 6)⟩, ⟨(some 31), none, .bin .add (.t 30) (.c (.int .i64 1))⟩, ⟨(some 6), none, .mov (.t 31)⟩]))))))))
(.reg [⟨(some 14), none, .mov (.t 5)⟩, ⟨(some 15), none, .bin .add (.t 14) (.c (.int .i64 1))⟩, ⟨(some 5), none, .mov (.t 15)⟩]))))))
(.seq
(.reg [⟨(some 4), none, .mov (.c (.int .i64 0))⟩])
.ret))))
theorem tr25 : trFn Try.prog Try.f25 = some (40, ir25, [.tmp 4]) := by kernel_rfl

/-- loop.example/g01230/spec.l10Convolve -/
def ir26 : Cd :=
(.seq
(.reg [⟨(some 3), none, .box 35 (.t 0)⟩, ⟨(some 4), none, .box 29 (.t 1)⟩, ⟨(some 5), none, .box 29 (.t 2)⟩, ⟨(some 6), none, .new 29 [(64, (.int .u8 0))]⟩])
(.seq
(.mix [⟨(some 17), none, .build 64 [(64, (.int .u8 0))] []⟩, ⟨(some 18), none, .fa 1 (.t 3)⟩, ⟨(some 19), none, .ld none (.t 18)⟩] [⟨(some 7), none, .new 29 [(64, (.int .u8 0))]⟩, ⟨none, none, .st 64 (.t 7) (.t 17)⟩, ⟨(some 8), none, .mov (.t 19)⟩])
(.seq
(.seq
(.reg [⟨(some 9), none, .mov (.c (.int .i64 0))⟩])
(.block 0
(.loop
(.seq
(.seq
(.reg [⟨(some 20), none, .mov (.t 9)⟩, ⟨(some 21), none, .mov (.t 8)⟩, ⟨(some 22), none, .bin .lss (.t 20) (.t 21)⟩])
(.cond (.t 22)
.skip
(.exit 0)))
(.seq
(.block 1
(.seq
(.reg [⟨(some 10), none, .mov (.c (.int .i64 0))⟩])
(.block 2
(.loop
(.seq
(.seq
(.reg [⟨(some 25), none, .mov (.t 10)⟩, ⟨(some 26), none, .mov (.t 8)⟩, ⟨(some 27), none, .bin .lss (.t 25) (.t 26)⟩])
(.cond (.t 27)
.skip
(.exit 2)))
(.seq
(.block 3
(.seq
(.reg [⟨(some 11), none, .mov (.c (.int .i64 0))⟩])
(.seq
(.seq
(.reg [⟨(some 12), none, .mov (.c (.int .i64 0))⟩])
(.block 4
(.loop
(.seq
(.seq
(.reg [⟨(some 30), none, .mov (.t 12)⟩, ⟨(some 31), none, .mov (.t 8)⟩, ⟨(some 32), none, .bin .lss (.t 30) (.t 31)⟩])
(.cond (.t 32)
.skip
(.exit 4)))
(.seq
(.block 5
(.seq
(.reg [⟨(some 13), none, .mov (.c (.int .i64 0))⟩])
(.block 6
(.loop
(.seq
(.seq
(.reg [⟨(some 35), none, .mov (.t 13)⟩, ⟨(some 36), none, .mov (.t 8)⟩, ⟨(some 37), none, .bin .lss (.t 35) (.t 36)⟩])
(.cond (.t 37)
.skip
(.exit 6)))
(.seq
(.block 7
(.seq
(.seq
(.reg [⟨(some 40), none, .mov (.t 9)⟩, ⟨(some 41), none, .mov (.t 12)⟩, ⟨(some 42), none, .mov (.t 13)⟩, ⟨(some 43), none, .fa 530 (.t 3)⟩, ⟨(some 44), none, .ia 8 64 (.t 43) (.t 40)⟩, ⟨(some 45), none, .ia 8 8 (.t 44) (.t 41)⟩, ⟨(some 46), none, .ia 8 1 (.t 45) (.t 42)⟩, ⟨(some 47), none, .ld none (.t 46)⟩, ⟨(some 48), none, .bin .eql (.t 47) (.c (.int .u8 0))⟩])
(.cond (.t 48)
(.exit 7)
.skip))
(.seq
(.reg [⟨(some 14), none, .mov (.c (.int .i64 0))⟩])
(.block 8
(.loop
(.seq
(.seq
(.reg [⟨(some 49), none, .mov (.t 14)⟩, ⟨(some 50), none, .mov (.t 8)⟩, ⟨(some 51), none, .bin .lss (.t 49) (.t 50)⟩])
(.cond (.t 51)
.skip
(.exit 8)))
(.seq
(.block 9
(.seq
(.reg [⟨(some 15), none, .mov (.c (.int .i64 0))⟩])
(.block 10
(.loop
(.seq
(.seq
(.reg [⟨(some 54), none, .mov (.t 15)⟩, ⟨(some 55), none, .mov (.t 8)⟩, ⟨(some 56), none, .bin .lss (.t 54) (.t 55)⟩])
(.cond (.t 56)
.skip
(.exit 10)))
(.seq
(.block 11
(.seq
(.drw true [] [⟨(some 59), none, .mov (.t 9)⟩, ⟨(some 60), none, .mov (.t 12)⟩, ⟨(some 61), none, .mov (.t 13)⟩, ⟨(some 62), none, .fa 530 (.t 3)⟩, ⟨(some 63), none, .ia 8 64 (.t 62) (.t 59)⟩, ⟨(some 64), none, .ia 8 8 (.t 63) (.t 60)⟩, ⟨(some 65), none, .ia 8 1 (.t 64) (.t 61)⟩, ⟨(some 66), none, .ld none (.t 65)⟩, ⟨(some 67), none, .cv .i64 (.t 66)⟩, ⟨(some 68), none, .mov (.t 10)⟩, ⟨(some 69), none, .mov (.t 14)⟩, ⟨(some 70), none, .mov (.t 15)⟩, ⟨(some 71), none, .fa 530 (.t 3)⟩, ⟨(some 72), none, .ia 8 64 (.t 71) (.t 68)⟩, ⟨(some 73), none, .ia 8 8 (.t 72) (.t 69)⟩, ⟨(some 74), none, .ia 8 1 (.t 73) (.t 70)⟩, ⟨(some 75), none, .ld none (.t 74)⟩, ⟨(some 76), none, .cv .i64 (.t 75)⟩, ⟨(some 77), none, .bin .mul (.t 67) (.t 76)⟩, ⟨(some 78), none, .fa 0 (.t 3)⟩, ⟨(some 79), none, .ld none (.t 78)⟩, ⟨(some 80), none, .bin .rem (.t 77) (.t 79)⟩, ⟨(some 16), none, .mov (.t 80)⟩])
(.drw true [] [⟨(some 81), none, .mov (.t 11)⟩, ⟨(some 82), none, .mov (.t 16)⟩, ⟨(some 83), none, .mov (.t 12)⟩, ⟨(some 84), none, .mov (.t 14)⟩, ⟨(some 85), none, .ia 8 8 (.t 4) (.t 83)⟩, ⟨(some 86), none, .ia 8 1 (.t 85) (.t 84)⟩, ⟨(some 87), none, .ld none (.t 86)⟩, ⟨(some 88), none, .cv .i64 (.t 87)⟩, ⟨(some 89), none, .bin .mul (.t 82) (.t 88)⟩, ⟨(some 90), none, .mov (.t 13)⟩, ⟨(some 91), none, .mov (.t 15)⟩, ⟨(some 92), none, .ia 8 8 (.t 5) (.t 90)⟩, ⟨(some 93), none, .ia 8 1 (.t 92) (.t 91)⟩, ⟨(some 94), none, .ld none (.t 93)⟩, ⟨(some 95), none, .cv .i64 (.t 94)⟩, ⟨(some 96), none, .bin .mul (.t 89) (.t 95)⟩, ⟨(some 97), none, .bin .add (.t 81) (.t 96)⟩, ⟨(some 98), none, .fa 0 (.t 3)⟩, ⟨(some 99), none, .ld none (.t 98)⟩, ⟨(some 100), none, .bin .rem (.t 97) (.t 99)⟩, ⟨(some 11), none, .mov (.t 100)⟩])))
(.reg [⟨(some 57), none, .mov (.t 15)⟩, ⟨(some 58), none, .bin .add (.t 57) (.c (.int .i64 1))⟩, ⟨(some 15), none, .mov (.t 58)⟩])))))))
(.reg [⟨(some 52), none, .mov (.t 14)⟩, ⟨(some 53), none, .bin .add (.t 52) (.c (.int .i64 1))⟩, ⟨(some 14), none, .mov (.t 53)⟩]))))))))
(.reg [⟨(some 38), none, .mov (.t 13)⟩, ⟨(some 39), none, .bin .add (.t 38) (.c (.int .i64 1))⟩, ⟨(some 13), none, .mov (.t 39)⟩])))))))
(.reg [⟨(some 33), none, .mov (.t 12)⟩, ⟨(some 34), none, .bin .add (.t 33) (.c (.int .i64 1))⟩, ⟨(some 12), none, .mov (.t 34)⟩]))))))
(.reg [⟨(some 101), none, .mov (.t 9)⟩, ⟨(some 102), none, .mov (.t 10)⟩, ⟨(some 103), none, .mov (.t 11)⟩, ⟨(some 104), none, .cv .u8 (.t 103)⟩, ⟨(some 105), none, .ia 8 8 (.t 7) (.t 101)⟩, ⟨(some 106), none, .ia 8 1 (.t 105) (.t 102)⟩, ⟨none, none, .st 1 (.t 106) (.t 104)⟩]))))
(.reg [⟨(some 28), none, .mov (.t 10)⟩, ⟨(some 29), none, .bin .add (.t 28) (.c (.int .i64 1))⟩, ⟨(some 10), none, .mov (.t 29)⟩])))))))
(.reg [⟨(some 23), none, .mov (.t 9)⟩, ⟨(some 24), none, .bin .add (.t 23) (.c (.int .i64 1))⟩, ⟨(some 9), none, .mov (.t 24)⟩]))))))
(.seq
(.reg [⟨(some 107), none, .ld (some 64) (.t 7)⟩, ⟨none, none, .st 64 (.t 6) (.t 107)⟩])
.ret))))
theorem tr26 : trFn Try.prog Try.f26 = some (108, ir26, [.cell (some 64) 6]) := by kernel_rfl

/-- loop.example/g01230/laws.toVector -/
def ir27 : Cd :=
(.seq
(.reg [⟨(some 1), none, .box 22 (.t 0)⟩, ⟨(some 2), none, .new 27 [(8, (.int .u8 0))]⟩])
(.seq
(.reg [⟨(some 3), none, .new 27 [(8, (.int .u8 0))]⟩])
(.seq
(.seq
(.reg [⟨(some 4), none, .mov (.c (.int .i64 0))⟩])
(.block 0
(.loop
(.seq
(.seq
(.reg [⟨(some 5), none, .mov (.t 4)⟩, ⟨(some 6), none, .bin .lss (.t 5) (.c (.int .i64 8))⟩])
(.cond (.t 6)
.skip
(.exit 0)))
(.seq
(.block 1
(.reg [⟨(some 9), none, .mov (.t 4)⟩, ⟨(some 10), none, .mov (.t 4)⟩, ⟨(some 11), none, .ia 8 1 (.t 1) (.t 10)⟩, ⟨(some 12), none, .ld none (.t 11)⟩, ⟨(some 13), none, .ia 8 1 (.t 3) (.t 9)⟩, ⟨none, none, .st 1 (.t 13) (.t 12)⟩]))
(.reg [⟨(some 7), none, .mov (.t 4)⟩, ⟨(some 8), none, .bin .add (.t 7) (.c (.int .i64 1))⟩, ⟨(some 4), none, .mov (.t 8)⟩]))))))
(.seq
(.reg [⟨(some 14), none, .ld (some 8) (.t 3)⟩, ⟨none, none, .st 8 (.t 2) (.t 14)⟩])
.ret))))
theorem tr27 : trFn Try.prog Try.f27 = some (15, ir27, [.cell (some 8) 2]) := by kernel_rfl

/-- loop.example/g01230/laws.toTable -/
def ir28 : Cd :=
(.seq
(.reg [⟨(some 1), none, .box 24 (.t 0)⟩, ⟨(some 2), none, .new 33 [(512, (.int .u8 0))]⟩])
(.seq
(.reg [⟨(some 3), none, .new 33 [(512, (.int .u8 0))]⟩])
(.seq
(.seq
(.reg [⟨(some 4), none, .mov (.c (.int .i64 0))⟩])
(.block 0
(.loop
(.seq
(.seq
(.reg [⟨(some 5), none, .mov (.t 4)⟩, ⟨(some 6), none, .bin .lss (.t 5) (.c (.int .i64 8))⟩])
(.cond (.t 6)
.skip
(.exit 0)))
(.seq
(.block 1
(.reg [⟨(some 9), none, .mov (.t 4)⟩, ⟨(some 10), none, .mov (.t 4)⟩, ⟨(some 11), none, .ia 8 64 (.t 1) (.t 10)⟩, ⟨(some 12), none, .ld (some 64) (.t 11)⟩, ⟨(some 13), none, .call 11 [(.t 12)]⟩, ⟨(some 14), none, .ia 8 64 (.t 3) (.t 9)⟩, ⟨none, none, .st 64 (.t 14) (.t 13)⟩]))
(.reg [⟨(some 7), none, .mov (.t 4)⟩, ⟨(some 8), none, .bin .add (.t 7) (.c (.int .i64 1))⟩, ⟨(some 4), none, .mov (.t 8)⟩]))))))
(.seq
(.reg [⟨(some 15), none, .ld (some 512) (.t 3)⟩, ⟨none, none, .st 512 (.t 2) (.t 15)⟩])
.ret))))
theorem tr28 : trFn Try.prog Try.f28 = some (16, ir28, [.cell (some 512) 2]) := by kernel_rfl

/-- loop.example/g01230/impl.matricesCode -/
def ir29 : Cd :=
(.seq
(.reg [⟨(some 4), none, .mov (.c (.int .i64 0))⟩])
(.seq
(.reg [⟨(some 8), none, .mov (.t 0)⟩, ⟨(some 9), none, .ck (.t 8)⟩, ⟨(some 10), none, .ld (some 1106) (.t 9)⟩, ⟨(some 11), none, .call 54 [(.t 10)]⟩, ⟨(some 5), none, .mov (.t 11)⟩])
(.seq
(.seq
(.reg [⟨(some 12), none, .mov (.t 1)⟩, ⟨(some 13), none, .len (.t 12)⟩, ⟨(some 14), none, .mov (.c (.int .i64 0))⟩])
(.block 0
(.loop
(.seq
(.reg [⟨(some 15), none, .bin .lss (.t 14) (.t 13)⟩])
(.seq
(.cond (.t 15)
.skip
(.exit 0))
(.seq
(.block 1
(.seq
(.reg [⟨(some 16), none, .isl 1 (.t 12) (.t 14)⟩, ⟨(some 17), none, .ld none (.t 16)⟩, ⟨(some 7), none, .mov (.t 17)⟩])
(.drw true [15] [⟨(some 18), none, .mov (.t 5)⟩, ⟨(some 19), none, .mov (.t 18)⟩, ⟨(some 20), (some (19, true)), .mov (.t 0)⟩, ⟨(some 21), (some (19, true)), .ck (.t 20)⟩, ⟨(some 22), (some (19, true)), .fa 0 (.t 21)⟩, ⟨(some 23), (some (19, true)), .ld none (.t 22)⟩, ⟨(some 24), (some (19, true)), .mov (.t 0)⟩, ⟨(some 25), (some (19, true)), .ck (.t 24)⟩, ⟨(some 26), (some (19, true)), .fa 1 (.t 25)⟩, ⟨(some 27), (some (19, true)), .ld none (.t 26)⟩, ⟨(some 28), (some (19, true)), .mov (.t 0)⟩, ⟨(some 29), (some (19, true)), .ck (.t 28)⟩, ⟨(some 30), (some (19, true)), .fa 1 (.t 29)⟩, ⟨(some 31), (some (19, true)), .ld none (.t 30)⟩, ⟨(some 32), (some (19, true)), .mov (.t 7)⟩, ⟨(some 33), (some (19, true)), .call 55 [(.t 23), (.t 27), (.t 31), (.t 32)]⟩, ⟨(some 34), none, .pick (.t 19) (.t 33) (.c (.bool false))⟩, ⟨(some 5), none, .mov (.t 34)⟩])))
(.reg [⟨(some 35), none, .bin .add (.t 14) (.c (.int .i64 1))⟩, ⟨(some 14), none, .mov (.t 35)⟩])))))))
(.seq
(.reg [⟨(some 36), none, .mov (.t 5)⟩, ⟨(some 37), none, .call 56 [(.t 36), (.c (.int .i64 1))]⟩, ⟨(some 4), none, .mov (.t 37)⟩])
.ret))))
theorem tr29 : trFn Try.prog Try.f29 = some (38, ir29, [.tmp 4]) := by kernel_rfl

/-- (*loop.example/g01230/impl.Hopf).convolved -/
def ir30 : Cd :=
(.seq
(.reg [⟨(some 4), none, .box 53 (.t 1)⟩, ⟨(some 5), none, .box 53 (.t 2)⟩, ⟨(some 6), none, .new 29 [(64, (.int .u8 0))]⟩])
(.seq
(.reg [⟨(some 12), none, .mov (.t 0)⟩, ⟨(some 13), none, .call 35 [(.t 12)]⟩, ⟨(some 14), none, .build 64 [(64, (.int .u8 0))] []⟩, ⟨(some 7), none, .new 60 [(2, (.int .i64 0))]⟩, ⟨(some 8), none, .new 29 [(64, (.int .u8 0))]⟩, ⟨none, none, .st 2 (.t 7) (.t 13)⟩, ⟨none, none, .st 64 (.t 8) (.t 14)⟩])
(.seq
(.seq
(.reg [⟨(some 15), none, .fa 1 (.t 7)⟩, ⟨(some 16), none, .ld none (.t 15)⟩, ⟨(some 17), none, .mov (.c (.int .i64 0))⟩])
(.block 0
(.loop
(.seq
(.reg [⟨(some 18), none, .bin .lss (.t 17) (.t 16)⟩])
(.seq
(.cond (.t 18)
.skip
(.exit 0))
(.seq
(.block 1
(.seq
(.reg [⟨(some 19), none, .mov (.t 17)⟩, ⟨(some 9), none, .mov (.t 19)⟩])
(.seq
(.reg [⟨(some 20), none, .fa 1 (.t 7)⟩, ⟨(some 21), none, .ld none (.t 20)⟩, ⟨(some 22), none, .mov (.c (.int .i64 0))⟩])
(.block 2
(.loop
(.seq
(.reg [⟨(some 23), none, .bin .lss (.t 22) (.t 21)⟩])
(.seq
(.cond (.t 23)
.skip
(.exit 2))
(.seq
(.block 3
(.seq
(.reg [⟨(some 24), none, .mov (.t 22)⟩, ⟨(some 10), none, .mov (.t 24)⟩])
(.seq
(.reg [⟨(some 11), none, .new 3 [(1, (.int .i64 0))]⟩, ⟨none, none, .st 1 (.t 11) (.c (.int .i64 0))⟩])
(.seq
(.reg [⟨(some 25), none, .mov (.t 0)⟩, ⟨(some 26), none, .mov (.t 9)⟩, ⟨(some 27), none, .mov (.t 10)⟩, ⟨(some 28), none, .mkf 58 [] [(.t 11), (.t 4), (.t 7), (.t 5)]⟩, ⟨(some 29), none, .call 57 [(.t 25), (.t 26), (.t 27), (.t 28)]⟩])
(.drw true [7] [⟨(some 30), none, .mov (.t 9)⟩, ⟨(some 31), none, .mov (.t 10)⟩, ⟨(some 32), none, .ld (some 2) (.t 7)⟩, ⟨(some 33), none, .ld none (.t 11)⟩, ⟨(some 34), none, .call 59 [(.t 32), (.t 33)]⟩, ⟨(some 35), none, .ia 8 8 (.t 8) (.t 30)⟩, ⟨(some 36), none, .ia 8 1 (.t 35) (.t 31)⟩, ⟨none, none, .st 1 (.t 36) (.t 34)⟩])))))
(.reg [⟨(some 37), none, .bin .add (.t 22) (.c (.int .i64 1))⟩, ⟨(some 22), none, .mov (.t 37)⟩])))))))))
(.reg [⟨(some 38), none, .bin .add (.t 17) (.c (.int .i64 1))⟩, ⟨(some 17), none, .mov (.t 38)⟩])))))))
(.seq
(.reg [⟨(some 39), none, .ld (some 64) (.t 8)⟩, ⟨none, none, .st 64 (.t 6) (.t 39)⟩])
.ret))))
theorem tr30 : trFn Try.prog Try.f30 = some (40, ir30, [.cell (some 64) 6]) := by kernel_rfl

/-- loop.example/g01230/laws.eqVector -/
def ir31 : Cd :=
(.seq
(.reg [⟨(some 2), none, .box 27 (.t 0)⟩, ⟨(some 3), none, .box 27 (.t 1)⟩, ⟨(some 4), none, .mov (.c (.bool false))⟩])
(.seq
(.seq
(.reg [⟨(some 5), none, .mov (.c (.int .i64 0))⟩])
(.block 0
(.loop
(.seq
(.seq
(.reg [⟨(some 6), none, .mov (.t 5)⟩, ⟨(some 7), none, .bin .lss (.t 6) (.c (.int .i64 8))⟩])
(.cond (.t 7)
.skip
(.exit 0)))
(.seq
(.block 1
(.seq
(.drw true [] [⟨(some 10), none, .mov (.t 5)⟩, ⟨(some 11), none, .ia 8 1 (.t 2) (.t 10)⟩, ⟨(some 12), none, .ld none (.t 11)⟩, ⟨(some 13), none, .mov (.t 5)⟩, ⟨(some 14), none, .ia 8 1 (.t 3) (.t 13)⟩, ⟨(some 15), none, .ld none (.t 14)⟩, ⟨(some 16), none, .bin .neq (.t 12) (.t 15)⟩])
(.cond (.t 16)
(.seq
(.reg [⟨(some 4), none, .mov (.c (.bool false))⟩])
.ret)
.skip)))
(.reg [⟨(some 8), none, .mov (.t 5)⟩, ⟨(some 9), none, .bin .add (.t 8) (.c (.int .i64 1))⟩, ⟨(some 5), none, .mov (.t 9)⟩]))))))
(.seq
(.reg [⟨(some 4), none, .mov (.c (.bool true))⟩])
.ret)))
theorem tr31 : trFn Try.prog Try.f31 = some (17, ir31, [.tmp 4]) := by kernel_rfl

end Go.Proofs.Ytnkmpelakhhoiab

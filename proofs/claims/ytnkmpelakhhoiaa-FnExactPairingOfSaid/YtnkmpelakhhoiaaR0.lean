/- The short form of each function, and that it is one. -/
import Derived.Test.YtnkmpelakhhoiaaProg
import Derived.Test.YtnkmpelakhhoiaaVI
import Derived.KernelRfl
namespace Go.Proofs.Ytnkmpelakhhoiaa
open Go.V
set_option maxRecDepth 100000

/-- gosem.cut.init -/
def ir2 : Cd :=
(.reg [⟨(some 0), none, .call 1 []⟩])
theorem tr2 : trFn Try.prog Try.f2 = some (1, ir2, []) := by kernel_rfl

/-- loop.example/g01230/laws.FnExactIsDesk -/
def ir3 : Cd :=
(.seq
(.reg [⟨(some 1), none, .box 28 (.t 0)⟩, ⟨(some 2), none, .mov (.c (.bool false))⟩])
(.seq
(.reg [⟨(some 5), none, .ld (some 2220) (.t 1)⟩, ⟨(some 6), none, .call 10 [(.t 5)]⟩, ⟨(some 7), none, .call 9 [(.t 6)]⟩, ⟨(some 3), none, .mov (.t 7)⟩])
(.seq
(.reg [⟨(some 8), none, .ld (some 2220) (.t 1)⟩, ⟨(some 9), none, .call 10 [(.t 8)]⟩, ⟨(some 10), none, .call 11 [(.t 9)]⟩, ⟨(some 4), none, .mov (.t 10)⟩])
(.seq
(.seq
(.reg [⟨(some 11), none, .mov (.t 4)⟩, ⟨(some 12), none, .mov (.t 3)⟩, ⟨(some 13), none, .beq true (.t 11) (.t 12)⟩])
(.cond (.t 13)
(.seq
(.reg [⟨(some 2), none, .mov (.c (.bool false))⟩])
.ret)
.skip))
(.seq
(.reg [⟨(some 2), none, .mov (.c (.bool true))⟩])
.ret)))))
theorem tr3 : trFn Try.prog Try.f3 = some (14, ir3, [.tmp 2]) := by kernel_rfl

/-- loop.example/g01230/laws.FnExactOneOf -/
def ir4 : Cd :=
(.seq
(.reg [⟨(some 1), none, .box 26 (.t 0)⟩, ⟨(some 2), none, .mov (.c (.bool false))⟩])
(.seq
(.reg [⟨(some 8), none, .ld (some 1106) (.t 1)⟩, ⟨(some 9), none, .call 13 [(.t 8)]⟩, ⟨(some 10), none, .call 12 [(.t 9)]⟩, ⟨(some 7), none, .mov (.t 10)⟩, ⟨(some 11), none, .ex (.t 7) 0⟩, ⟨(some 12), none, .ex (.t 7) 1⟩, ⟨(some 3), none, .new 32 [(64, (.int .u8 0))]⟩, ⟨none, none, .st 64 (.t 3) (.t 11)⟩, ⟨(some 4), none, .mov (.t 12)⟩])
(.seq
(.reg [⟨(some 14), none, .ld (some 1106) (.t 1)⟩, ⟨(some 15), none, .call 13 [(.t 14)]⟩, ⟨(some 16), none, .call 14 [(.t 15)]⟩, ⟨(some 13), none, .mov (.t 16)⟩, ⟨(some 17), none, .ex (.t 13) 0⟩, ⟨(some 18), none, .ex (.t 13) 1⟩, ⟨(some 5), none, .new 32 [(64, (.int .u8 0))]⟩, ⟨none, none, .st 64 (.t 5) (.t 17)⟩, ⟨(some 6), none, .mov (.t 18)⟩])
(.seq
(.seq
(.reg [⟨(some 19), none, .ld (some 64) (.t 5)⟩, ⟨(some 20), none, .ld (some 64) (.t 3)⟩, ⟨(some 21), none, .call 15 [(.t 19), (.t 20)]⟩, ⟨(some 22), none, .un .not (.t 21)⟩, ⟨(some 23), none, .mov (.t 22)⟩, ⟨(some 24), (some (23, false)), .mov (.t 6)⟩, ⟨(some 25), (some (23, false)), .mov (.t 4)⟩, ⟨(some 26), (some (23, false)), .bin .neq (.t 24) (.t 25)⟩, ⟨(some 27), none, .pick (.t 23) (.c (.bool true)) (.t 26)⟩])
(.cond (.t 27)
(.seq
(.reg [⟨(some 2), none, .mov (.c (.bool false))⟩])
.ret)
.skip))
(.seq
(.reg [⟨(some 2), none, .mov (.c (.bool true))⟩])
.ret)))))
theorem tr4 : trFn Try.prog Try.f4 = some (28, ir4, [.tmp 2]) := by kernel_rfl

/-- loop.example/g01230/laws.FnExactUnitPairing -/
def ir5 : Cd :=
(.seq
(.reg [⟨(some 1), none, .box 26 (.t 0)⟩, ⟨(some 2), none, .mov (.c (.bool false))⟩])
(.seq
(.reg [⟨(some 8), none, .ld (some 1106) (.t 1)⟩, ⟨(some 9), none, .call 13 [(.t 8)]⟩, ⟨(some 10), none, .call 16 [(.t 9)]⟩, ⟨(some 7), none, .mov (.t 10)⟩, ⟨(some 11), none, .ex (.t 7) 0⟩, ⟨(some 12), none, .ex (.t 7) 1⟩, ⟨(some 3), none, .new 32 [(64, (.int .u8 0))]⟩, ⟨none, none, .st 64 (.t 3) (.t 11)⟩, ⟨(some 4), none, .mov (.t 12)⟩])
(.seq
(.reg [⟨(some 14), none, .ld (some 1106) (.t 1)⟩, ⟨(some 15), none, .call 13 [(.t 14)]⟩, ⟨(some 16), none, .call 17 [(.t 15)]⟩, ⟨(some 13), none, .mov (.t 16)⟩, ⟨(some 17), none, .ex (.t 13) 0⟩, ⟨(some 18), none, .ex (.t 13) 1⟩, ⟨(some 5), none, .new 32 [(64, (.int .u8 0))]⟩, ⟨none, none, .st 64 (.t 5) (.t 17)⟩, ⟨(some 6), none, .mov (.t 18)⟩])
(.seq
(.seq
(.reg [⟨(some 19), none, .ld (some 64) (.t 5)⟩, ⟨(some 20), none, .ld (some 64) (.t 3)⟩, ⟨(some 21), none, .call 15 [(.t 19), (.t 20)]⟩, ⟨(some 22), none, .un .not (.t 21)⟩, ⟨(some 23), none, .mov (.t 22)⟩, ⟨(some 24), (some (23, false)), .mov (.t 6)⟩, ⟨(some 25), (some (23, false)), .mov (.t 4)⟩, ⟨(some 26), (some (23, false)), .bin .neq (.t 24) (.t 25)⟩, ⟨(some 27), none, .pick (.t 23) (.c (.bool true)) (.t 26)⟩])
(.cond (.t 27)
(.seq
(.reg [⟨(some 2), none, .mov (.c (.bool false))⟩])
.ret)
.skip))
(.seq
(.reg [⟨(some 2), none, .mov (.c (.bool true))⟩])
.ret)))))
theorem tr5 : trFn Try.prog Try.f5 = some (28, ir5, [.tmp 2]) := by kernel_rfl

/-- loop.example/g01230/laws.FnExactIsNormedPairing -/
def ir6 : Cd :=
(.seq
(.reg [⟨(some 2), none, .box 26 (.t 0)⟩, ⟨(some 3), none, .box 23 (.t 1)⟩, ⟨(some 4), none, .mov (.c (.bool false))⟩])
(.seq
(.drwo true [] [0, 2, 1, 3, 4, 5, 6, 7, 8, 9] [⟨(some 10), none, .ld (some 1106) (.t 2)⟩, ⟨(some 11), none, .call 13 [(.t 10)]⟩, ⟨(some 12), none, .ld (some 64) (.t 3)⟩, ⟨(some 13), none, .call 19 [(.t 12)]⟩, ⟨(some 14), none, .call 18 [(.t 11), (.t 13)]⟩, ⟨(some 9), none, .mov (.t 14)⟩, ⟨(some 15), none, .ex (.t 9) 0⟩, ⟨(some 16), none, .ex (.t 9) 1⟩, ⟨(some 5), none, .mov (.t 15)⟩, ⟨(some 6), none, .mov (.t 16)⟩])
(.seq
(.drwo true [] [0, 2, 1, 3, 4, 5, 6, 7, 8, 9] [⟨(some 18), none, .ld (some 1106) (.t 2)⟩, ⟨(some 19), none, .call 13 [(.t 18)]⟩, ⟨(some 20), none, .ld (some 64) (.t 3)⟩, ⟨(some 21), none, .call 19 [(.t 20)]⟩, ⟨(some 22), none, .call 20 [(.t 19), (.t 21)]⟩, ⟨(some 17), none, .mov (.t 22)⟩, ⟨(some 23), none, .ex (.t 17) 0⟩, ⟨(some 24), none, .ex (.t 17) 1⟩, ⟨(some 7), none, .mov (.t 23)⟩, ⟨(some 8), none, .mov (.t 24)⟩])
(.seq
(.seq
(.reg [⟨(some 25), none, .mov (.t 7)⟩, ⟨(some 26), none, .mov (.t 5)⟩, ⟨(some 27), none, .beq true (.t 25) (.t 26)⟩, ⟨(some 28), none, .mov (.t 27)⟩, ⟨(some 29), (some (28, false)), .mov (.t 8)⟩, ⟨(some 30), (some (28, false)), .mov (.t 6)⟩, ⟨(some 31), (some (28, false)), .bin .neq (.t 29) (.t 30)⟩, ⟨(some 32), none, .pick (.t 28) (.c (.bool true)) (.t 31)⟩])
(.cond (.t 32)
(.seq
(.reg [⟨(some 4), none, .mov (.c (.bool false))⟩])
.ret)
.skip))
(.seq
(.reg [⟨(some 4), none, .mov (.c (.bool true))⟩])
.ret)))))
theorem tr6 : trFn Try.prog Try.f6 = some (33, ir6, [.tmp 4]) := by kernel_rfl

/-- loop.example/g01230/laws.FnExactPairingOf -/
def ir7 : Cd :=
(.seq
(.reg [⟨(some 4), none, .box 26 (.t 0)⟩, ⟨(some 5), none, .box 23 (.t 1)⟩, ⟨(some 6), none, .box 22 (.t 2)⟩, ⟨(some 7), none, .box 22 (.t 3)⟩, ⟨(some 8), none, .mov (.c (.bool false))⟩])
(.seq
(.drwo true [] [0, 2, 4, 6, 1, 3, 5, 7, 8, 9, 10, 11, 12, 13] [⟨(some 14), none, .ld (some 1106) (.t 4)⟩, ⟨(some 15), none, .call 13 [(.t 14)]⟩, ⟨(some 16), none, .ld (some 64) (.t 5)⟩, ⟨(some 17), none, .call 19 [(.t 16)]⟩, ⟨(some 18), none, .ld (some 8) (.t 6)⟩, ⟨(some 19), none, .call 22 [(.t 18)]⟩, ⟨(some 20), none, .ld (some 8) (.t 7)⟩, ⟨(some 21), none, .call 22 [(.t 20)]⟩, ⟨(some 22), none, .call 21 [(.t 15), (.t 17), (.t 19), (.t 21)]⟩, ⟨(some 13), none, .mov (.t 22)⟩, ⟨(some 23), none, .ex (.t 13) 0⟩, ⟨(some 24), none, .ex (.t 13) 1⟩, ⟨(some 9), none, .mov (.t 23)⟩, ⟨(some 10), none, .mov (.t 24)⟩])
(.seq
(.drwo true [] [0, 2, 4, 6, 1, 3, 5, 7, 8, 9, 10, 11, 12, 13] [⟨(some 26), none, .ld (some 1106) (.t 4)⟩, ⟨(some 27), none, .call 13 [(.t 26)]⟩, ⟨(some 28), none, .ld (some 64) (.t 5)⟩, ⟨(some 29), none, .call 19 [(.t 28)]⟩, ⟨(some 30), none, .ld (some 8) (.t 6)⟩, ⟨(some 31), none, .call 22 [(.t 30)]⟩, ⟨(some 32), none, .ld (some 8) (.t 7)⟩, ⟨(some 33), none, .call 22 [(.t 32)]⟩, ⟨(some 34), none, .call 23 [(.t 27), (.t 29), (.t 31), (.t 33)]⟩, ⟨(some 25), none, .mov (.t 34)⟩, ⟨(some 35), none, .ex (.t 25) 0⟩, ⟨(some 36), none, .ex (.t 25) 1⟩, ⟨(some 11), none, .mov (.t 35)⟩, ⟨(some 12), none, .mov (.t 36)⟩])
(.seq
(.seq
(.reg [⟨(some 37), none, .mov (.t 11)⟩, ⟨(some 38), none, .mov (.t 9)⟩, ⟨(some 39), none, .bin .neq (.t 37) (.t 38)⟩, ⟨(some 40), none, .mov (.t 39)⟩, ⟨(some 41), (some (40, false)), .mov (.t 12)⟩, ⟨(some 42), (some (40, false)), .mov (.t 10)⟩, ⟨(some 43), (some (40, false)), .bin .neq (.t 41) (.t 42)⟩, ⟨(some 44), none, .pick (.t 40) (.c (.bool true)) (.t 43)⟩])
(.cond (.t 44)
(.seq
(.reg [⟨(some 8), none, .mov (.c (.bool false))⟩])
.ret)
.skip))
(.seq
(.reg [⟨(some 8), none, .mov (.c (.bool true))⟩])
.ret)))))
theorem tr7 : trFn Try.prog Try.f7 = some (45, ir7, [.tmp 8]) := by kernel_rfl

/-- loop.example/g01230/laws.FnExactAreInversePairings -/
def ir8 : Cd :=
(.seq
(.reg [⟨(some 3), none, .box 26 (.t 0)⟩, ⟨(some 4), none, .box 23 (.t 1)⟩, ⟨(some 5), none, .box 23 (.t 2)⟩, ⟨(some 6), none, .mov (.c (.bool false))⟩])
(.seq
(.drwo true [] [0, 2, 4, 1, 3, 5, 6, 7, 8, 9, 10, 11] [⟨(some 12), none, .ld (some 1106) (.t 3)⟩, ⟨(some 13), none, .call 13 [(.t 12)]⟩, ⟨(some 14), none, .ld (some 64) (.t 4)⟩, ⟨(some 15), none, .call 19 [(.t 14)]⟩, ⟨(some 16), none, .ld (some 64) (.t 5)⟩, ⟨(some 17), none, .call 19 [(.t 16)]⟩, ⟨(some 18), none, .call 24 [(.t 13), (.t 15), (.t 17)]⟩, ⟨(some 11), none, .mov (.t 18)⟩, ⟨(some 19), none, .ex (.t 11) 0⟩, ⟨(some 20), none, .ex (.t 11) 1⟩, ⟨(some 7), none, .mov (.t 19)⟩, ⟨(some 8), none, .mov (.t 20)⟩])
(.seq
(.drwo true [] [0, 2, 4, 1, 3, 5, 6, 7, 8, 9, 10, 11] [⟨(some 22), none, .ld (some 1106) (.t 3)⟩, ⟨(some 23), none, .call 13 [(.t 22)]⟩, ⟨(some 24), none, .ld (some 64) (.t 4)⟩, ⟨(some 25), none, .call 19 [(.t 24)]⟩, ⟨(some 26), none, .ld (some 64) (.t 5)⟩, ⟨(some 27), none, .call 19 [(.t 26)]⟩, ⟨(some 28), none, .call 25 [(.t 23), (.t 25), (.t 27)]⟩, ⟨(some 21), none, .mov (.t 28)⟩, ⟨(some 29), none, .ex (.t 21) 0⟩, ⟨(some 30), none, .ex (.t 21) 1⟩, ⟨(some 9), none, .mov (.t 29)⟩, ⟨(some 10), none, .mov (.t 30)⟩])
(.seq
(.seq
(.reg [⟨(some 31), none, .mov (.t 9)⟩, ⟨(some 32), none, .mov (.t 7)⟩, ⟨(some 33), none, .beq true (.t 31) (.t 32)⟩, ⟨(some 34), none, .mov (.t 33)⟩, ⟨(some 35), (some (34, false)), .mov (.t 10)⟩, ⟨(some 36), (some (34, false)), .mov (.t 8)⟩, ⟨(some 37), (some (34, false)), .bin .neq (.t 35) (.t 36)⟩, ⟨(some 38), none, .pick (.t 34) (.c (.bool true)) (.t 37)⟩])
(.cond (.t 38)
(.seq
(.reg [⟨(some 6), none, .mov (.c (.bool false))⟩])
.ret)
.skip))
(.seq
(.reg [⟨(some 6), none, .mov (.c (.bool true))⟩])
.ret)))))
theorem tr8 : trFn Try.prog Try.f8 = some (39, ir8, [.tmp 6]) := by kernel_rfl

/-- loop.example/g01230/spec.IsDesk -/
def ir9 : Cd :=
(.seq
(.reg [⟨(some 1), none, .box 38 (.t 0)⟩, ⟨(some 2), none, .mov (.c (.bool false))⟩])
(.seq
(.reg [⟨(some 3), none, .fa 0 (.t 1)⟩, ⟨(some 4), none, .ld (some 1106) (.t 3)⟩, ⟨(some 5), none, .call 26 [(.t 4)]⟩, ⟨(some 6), none, .mov (.t 5)⟩, ⟨(some 7), (some (6, true)), .fa 1106 (.t 1)⟩, ⟨(some 8), (some (6, true)), .ld (some 1106) (.t 7)⟩, ⟨(some 9), (some (6, true)), .call 26 [(.t 8)]⟩, ⟨(some 10), none, .pick (.t 6) (.t 9) (.c (.bool false))⟩, ⟨(some 11), none, .mov (.t 10)⟩, ⟨(some 12), (some (11, true)), .fa 0 (.t 1)⟩, ⟨(some 13), (some (11, true)), .fa 0 (.t 12)⟩, ⟨(some 14), (some (11, true)), .ld none (.t 13)⟩, ⟨(some 15), (some (11, true)), .fa 0 (.t 1)⟩, ⟨(some 16), (some (11, true)), .fa 1 (.t 15)⟩, ⟨(some 17), (some (11, true)), .ld none (.t 16)⟩, ⟨(some 18), (some (11, true)), .fa 2212 (.t 1)⟩, ⟨(some 19), (some (11, true)), .ld (some 8) (.t 18)⟩, ⟨(some 20), (some (11, true)), .call 27 [(.t 14), (.t 17), (.t 19)]⟩, ⟨(some 21), none, .pick (.t 11) (.t 20) (.c (.bool false))⟩, ⟨(some 2), none, .mov (.t 21)⟩])
.ret))
theorem tr9 : trFn Try.prog Try.f9 = some (22, ir9, [.tmp 2]) := by kernel_rfl

/-- loop.example/g01230/laws.toDesk -/
def ir10 : Cd :=
(.seq
(.reg [⟨(some 1), none, .box 28 (.t 0)⟩, ⟨(some 2), none, .new 38 [(2, (.int .i64 0)), (1104, (.int .u8 0)), (2, (.int .i64 0)), (1112, (.int .u8 0))]⟩])
(.seq
(.reg [⟨(some 3), none, .new 38 [(2, (.int .i64 0)), (1104, (.int .u8 0)), (2, (.int .i64 0)), (1112, (.int .u8 0))]⟩])
(.seq
(.reg [⟨(some 4), none, .fa 0 (.t 1)⟩, ⟨(some 5), none, .ld (some 1106) (.t 4)⟩, ⟨(some 6), none, .call 13 [(.t 5)]⟩, ⟨(some 7), none, .fa 0 (.t 3)⟩, ⟨none, none, .st 1106 (.t 7) (.t 6)⟩])
(.seq
(.reg [⟨(some 8), none, .fa 1106 (.t 1)⟩, ⟨(some 9), none, .ld (some 1106) (.t 8)⟩, ⟨(some 10), none, .call 13 [(.t 9)]⟩, ⟨(some 11), none, .fa 1106 (.t 3)⟩, ⟨none, none, .st 1106 (.t 11) (.t 10)⟩])
(.seq
(.reg [⟨(some 12), none, .fa 2212 (.t 1)⟩, ⟨(some 13), none, .ld (some 8) (.t 12)⟩, ⟨(some 14), none, .call 22 [(.t 13)]⟩, ⟨(some 15), none, .fa 2212 (.t 3)⟩, ⟨none, none, .st 8 (.t 15) (.t 14)⟩])
(.seq
(.reg [⟨(some 16), none, .ld (some 2220) (.t 3)⟩, ⟨none, none, .st 2220 (.t 2) (.t 16)⟩])
.ret))))))
theorem tr10 : trFn Try.prog Try.f10 = some (17, ir10, [.cell (some 2220) 2]) := by kernel_rfl

/-- loop.example/g01230/impl.IsDesk -/
def ir11 : Cd :=
(.seq
(.reg [⟨(some 1), none, .box 38 (.t 0)⟩, ⟨(some 2), none, .mov (.c (.bool false))⟩])
(.seq
(.reg [⟨(some 3), none, .fa 0 (.t 1)⟩, ⟨(some 4), none, .ld (some 1106) (.t 3)⟩, ⟨(some 5), none, .call 28 [(.t 4)]⟩, ⟨(some 6), none, .mov (.t 5)⟩, ⟨(some 7), (some (6, true)), .fa 1106 (.t 1)⟩, ⟨(some 8), (some (6, true)), .ld (some 1106) (.t 7)⟩, ⟨(some 9), (some (6, true)), .call 28 [(.t 8)]⟩, ⟨(some 10), none, .pick (.t 6) (.t 9) (.c (.bool false))⟩, ⟨(some 11), none, .mov (.t 10)⟩, ⟨(some 12), (some (11, true)), .fa 0 (.t 1)⟩, ⟨(some 13), (some (11, true)), .fa 2212 (.t 1)⟩, ⟨(some 14), (some (11, true)), .ld (some 8) (.t 13)⟩, ⟨(some 15), (some (11, true)), .bsl 30 1 8 [(8, (.int .u8 0))] [(0, 8, (.t 14))]⟩, ⟨(some 16), (some (11, true)), .call 29 [(.t 12), (.t 15)]⟩, ⟨(some 17), none, .pick (.t 11) (.t 16) (.c (.bool false))⟩, ⟨(some 2), none, .mov (.t 17)⟩])
.ret))
theorem tr11 : trFn Try.prog Try.f11 = some (18, ir11, [.tmp 2]) := by kernel_rfl

/-- loop.example/g01230/spec.OneOf -/
def ir12 : Cd :=
(.seq
(.reg [⟨(some 1), none, .box 36 (.t 0)⟩, ⟨(some 2), none, .new 32 [(64, (.int .u8 0))]⟩, ⟨(some 3), none, .mov (.c (.int .i64 0))⟩])
(.seq
(.seq
(.reg [⟨(some 4), none, .ld (some 1106) (.t 1)⟩, ⟨(some 5), none, .call 26 [(.t 4)]⟩, ⟨(some 6), none, .un .not (.t 5)⟩])
(.cond (.t 6)
(.seq
(.reg [⟨(some 7), none, .build 64 [(64, (.int .u8 0))] []⟩, ⟨none, none, .st 64 (.t 2) (.t 7)⟩, ⟨(some 3), none, .mov (.c (.int .i64 1))⟩])
.ret)
.skip))
(.seq
(.reg [⟨(some 8), none, .ld (some 1106) (.t 1)⟩, ⟨(some 9), none, .call 30 [(.t 8)]⟩, ⟨none, none, .st 64 (.t 2) (.t 9)⟩, ⟨(some 3), none, .mov (.c (.int .i64 0))⟩])
.ret)))
theorem tr12 : trFn Try.prog Try.f12 = some (10, ir12, [.cell (some 64) 2, .tmp 3]) := by kernel_rfl

/-- loop.example/g01230/laws.toHopf -/
def ir13 : Cd :=
(.seq
(.reg [⟨(some 1), none, .box 26 (.t 0)⟩, ⟨(some 2), none, .new 36 [(2, (.int .i64 0)), (1104, (.int .u8 0))]⟩])
(.seq
(.reg [⟨(some 3), none, .new 36 [(2, (.int .i64 0)), (1104, (.int .u8 0))]⟩])
(.seq
(.reg [⟨(some 4), none, .fa 0 (.t 1)⟩, ⟨(some 5), none, .ld none (.t 4)⟩, ⟨(some 6), none, .fa 0 (.t 3)⟩, ⟨none, none, .st 1 (.t 6) (.t 5)⟩])
(.seq
(.reg [⟨(some 7), none, .fa 1 (.t 1)⟩, ⟨(some 8), none, .ld none (.t 7)⟩, ⟨(some 9), none, .fa 1 (.t 3)⟩, ⟨none, none, .st 1 (.t 9) (.t 8)⟩])
(.seq
(.reg [⟨(some 10), none, .fa 2 (.t 1)⟩, ⟨(some 11), none, .ld (some 8) (.t 10)⟩, ⟨(some 12), none, .call 22 [(.t 11)]⟩, ⟨(some 13), none, .fa 2 (.t 3)⟩, ⟨none, none, .st 8 (.t 13) (.t 12)⟩])
(.seq
(.reg [⟨(some 14), none, .fa 10 (.t 1)⟩, ⟨(some 15), none, .ld (some 512) (.t 14)⟩, ⟨(some 16), none, .call 31 [(.t 15)]⟩, ⟨(some 17), none, .fa 10 (.t 3)⟩, ⟨none, none, .st 512 (.t 17) (.t 16)⟩])
(.seq
(.reg [⟨(some 18), none, .fa 522 (.t 1)⟩, ⟨(some 19), none, .ld (some 8) (.t 18)⟩, ⟨(some 20), none, .call 22 [(.t 19)]⟩, ⟨(some 21), none, .fa 522 (.t 3)⟩, ⟨none, none, .st 8 (.t 21) (.t 20)⟩])
(.seq
(.reg [⟨(some 22), none, .fa 530 (.t 1)⟩, ⟨(some 23), none, .ld (some 512) (.t 22)⟩, ⟨(some 24), none, .call 31 [(.t 23)]⟩, ⟨(some 25), none, .fa 530 (.t 3)⟩, ⟨none, none, .st 512 (.t 25) (.t 24)⟩])
(.seq
(.reg [⟨(some 26), none, .fa 1042 (.t 1)⟩, ⟨(some 27), none, .ld (some 64) (.t 26)⟩, ⟨(some 28), none, .call 19 [(.t 27)]⟩, ⟨(some 29), none, .fa 1042 (.t 3)⟩, ⟨none, none, .st 64 (.t 29) (.t 28)⟩])
(.seq
(.reg [⟨(some 30), none, .ld (some 1106) (.t 3)⟩, ⟨none, none, .st 1106 (.t 2) (.t 30)⟩])
.ret))))))))))
theorem tr13 : trFn Try.prog Try.f13 = some (31, ir13, [.cell (some 1106) 2]) := by kernel_rfl

/-- loop.example/g01230/impl.OneOf -/
def ir14 : Cd :=
(.seq
(.reg [⟨(some 1), none, .box 36 (.t 0)⟩, ⟨(some 2), none, .new 32 [(64, (.int .u8 0))]⟩, ⟨(some 3), none, .mov (.c (.int .i64 0))⟩])
(.seq
(.seq
(.reg [⟨(some 5), none, .call 32 [(.t 1), (.c .nils)]⟩, ⟨(some 4), none, .mov (.t 5)⟩])
(.seq
(.reg [⟨(some 6), none, .mov (.t 4)⟩, ⟨(some 7), none, .bin .neq (.t 6) (.c (.int .i64 0))⟩])
(.cond (.t 7)
(.seq
(.reg [⟨(some 8), none, .build 64 [(64, (.int .u8 0))] []⟩, ⟨(some 9), none, .mov (.t 4)⟩, ⟨none, none, .st 64 (.t 2) (.t 8)⟩, ⟨(some 3), none, .mov (.t 9)⟩])
.ret)
.skip)))
(.seq
(.reg [⟨(some 10), none, .call 33 [(.t 1)]⟩, ⟨none, none, .st 64 (.t 2) (.t 10)⟩, ⟨(some 3), none, .mov (.c (.int .i64 0))⟩])
.ret)))
theorem tr14 : trFn Try.prog Try.f14 = some (11, ir14, [.cell (some 64) 2, .tmp 3]) := by kernel_rfl

/-- loop.example/g01230/laws.eqLinear -/
def ir15 : Cd :=
(.seq
(.reg [⟨(some 2), none, .box 32 (.t 0)⟩, ⟨(some 3), none, .box 32 (.t 1)⟩, ⟨(some 4), none, .mov (.c (.bool false))⟩])
(.seq
(.seq
(.reg [⟨(some 5), none, .mov (.c (.int .i64 0))⟩])
(.block 0
(.loop
(.seq
(.seq
(.reg [⟨(some 6), none, .mov (.t 5)⟩, ⟨(some 7), none, .bin .lss (.t 6) (.c (.int .i64 8))⟩])
(.cond (.t 7)
.skip
(.exit 0)))
(.seq
(.block 1
(.seq
(.drw true [6] [⟨(some 10), none, .mov (.t 5)⟩, ⟨(some 11), none, .ia 8 8 (.t 2) (.t 10)⟩, ⟨(some 12), none, .ld (some 8) (.t 11)⟩, ⟨(some 13), none, .mov (.t 5)⟩, ⟨(some 14), none, .ia 8 8 (.t 3) (.t 13)⟩, ⟨(some 15), none, .ld (some 8) (.t 14)⟩, ⟨(some 16), none, .call 34 [(.t 12), (.t 15)]⟩, ⟨(some 17), none, .un .not (.t 16)⟩])
(.cond (.t 17)
(.seq
(.reg [⟨(some 4), none, .mov (.c (.bool false))⟩])
.ret)
.skip)))
(.reg [⟨(some 8), none, .mov (.t 5)⟩, ⟨(some 9), none, .bin .add (.t 8) (.c (.int .i64 1))⟩, ⟨(some 5), none, .mov (.t 9)⟩]))))))
(.seq
(.reg [⟨(some 4), none, .mov (.c (.bool true))⟩])
.ret)))
theorem tr15 : trFn Try.prog Try.f15 = some (18, ir15, [.tmp 4]) := by kernel_rfl

/-- loop.example/g01230/spec.UnitPairing -/
def ir16 : Cd :=
(.seq
(.reg [⟨(some 1), none, .box 36 (.t 0)⟩, ⟨(some 2), none, .new 32 [(64, (.int .u8 0))]⟩, ⟨(some 3), none, .mov (.c (.int .i64 0))⟩])
(.seq
(.seq
(.reg [⟨(some 4), none, .ld (some 1106) (.t 1)⟩, ⟨(some 5), none, .call 26 [(.t 4)]⟩, ⟨(some 6), none, .un .not (.t 5)⟩])
(.cond (.t 6)
(.seq
(.reg [⟨(some 7), none, .build 64 [(64, (.int .u8 0))] []⟩, ⟨none, none, .st 64 (.t 2) (.t 7)⟩, ⟨(some 3), none, .mov (.c (.int .i64 1))⟩])
.ret)
.skip))
(.seq
(.reg [⟨(some 8), none, .fa 0 (.t 1)⟩, ⟨(some 9), none, .ld none (.t 8)⟩, ⟨(some 10), none, .fa 522 (.t 1)⟩, ⟨(some 11), none, .ld (some 8) (.t 10)⟩, ⟨(some 12), none, .fa 522 (.t 1)⟩, ⟨(some 13), none, .ld (some 8) (.t 12)⟩, ⟨(some 14), none, .call 35 [(.t 9), (.t 11), (.t 13)]⟩, ⟨none, none, .st 64 (.t 2) (.t 14)⟩, ⟨(some 3), none, .mov (.c (.int .i64 0))⟩])
.ret)))
theorem tr16 : trFn Try.prog Try.f16 = some (15, ir16, [.cell (some 64) 2, .tmp 3]) := by kernel_rfl

/-- loop.example/g01230/impl.UnitPairing -/
def ir17 : Cd :=
(.seq
(.reg [⟨(some 1), none, .box 36 (.t 0)⟩, ⟨(some 2), none, .new 32 [(64, (.int .u8 0))]⟩, ⟨(some 3), none, .mov (.c (.int .i64 0))⟩])
(.seq
(.seq
(.reg [⟨(some 5), none, .call 32 [(.t 1), (.c .nils)]⟩, ⟨(some 4), none, .mov (.t 5)⟩])
(.seq
(.reg [⟨(some 6), none, .mov (.t 4)⟩, ⟨(some 7), none, .bin .neq (.t 6) (.c (.int .i64 0))⟩])
(.cond (.t 7)
(.seq
(.reg [⟨(some 8), none, .build 64 [(64, (.int .u8 0))] []⟩, ⟨(some 9), none, .mov (.t 4)⟩, ⟨none, none, .st 64 (.t 2) (.t 8)⟩, ⟨(some 3), none, .mov (.t 9)⟩])
.ret)
.skip)))
(.seq
(.reg [⟨(some 10), none, .call 36 [(.t 1)]⟩, ⟨none, none, .st 64 (.t 2) (.t 10)⟩, ⟨(some 3), none, .mov (.c (.int .i64 0))⟩])
.ret)))
theorem tr17 : trFn Try.prog Try.f17 = some (11, ir17, [.cell (some 64) 2, .tmp 3]) := by kernel_rfl

/-- loop.example/g01230/spec.IsNormedPairing -/
def ir18 : Cd :=
(.seq
(.reg [⟨(some 2), none, .box 36 (.t 0)⟩, ⟨(some 3), none, .box 32 (.t 1)⟩, ⟨(some 4), none, .mov (.c (.bool false))⟩, ⟨(some 5), none, .mov (.c (.int .i64 0))⟩])
(.seq
(.seq
(.reg [⟨(some 7), none, .ld (some 1106) (.t 2)⟩, ⟨(some 8), none, .ld (some 64) (.t 3)⟩, ⟨(some 9), none, .bsl 32 1 64 [(64, (.int .u8 0))] [(0, 64, (.t 8))]⟩, ⟨(some 10), none, .call 37 [(.t 7), (.t 9)]⟩, ⟨(some 6), none, .mov (.t 10)⟩])
(.seq
(.reg [⟨(some 11), none, .mov (.t 6)⟩, ⟨(some 12), none, .bin .neq (.t 11) (.c (.int .i64 0))⟩])
(.cond (.t 12)
(.seq
(.reg [⟨(some 13), none, .mov (.t 6)⟩, ⟨(some 4), none, .mov (.c (.bool false))⟩, ⟨(some 5), none, .mov (.t 13)⟩])
.ret)
.skip)))
(.seq
(.reg [⟨(some 14), none, .ld (some 1106) (.t 2)⟩, ⟨(some 15), none, .ld (some 64) (.t 3)⟩, ⟨(some 16), none, .call 38 [(.t 14), (.t 15)]⟩, ⟨(some 4), none, .mov (.t 16)⟩, ⟨(some 5), none, .mov (.c (.int .i64 0))⟩])
.ret)))
theorem tr18 : trFn Try.prog Try.f18 = some (17, ir18, [.tmp 4, .tmp 5]) := by kernel_rfl

/-- loop.example/g01230/laws.toLinear -/
def ir19 : Cd :=
(.seq
(.reg [⟨(some 1), none, .box 23 (.t 0)⟩, ⟨(some 2), none, .new 32 [(64, (.int .u8 0))]⟩])
(.seq
(.reg [⟨(some 3), none, .new 32 [(64, (.int .u8 0))]⟩])
(.seq
(.seq
(.reg [⟨(some 4), none, .mov (.c (.int .i64 0))⟩])
(.block 0
(.loop
(.seq
(.seq
(.reg [⟨(some 5), none, .mov (.t 4)⟩, ⟨(some 6), none, .bin .lss (.t 5) (.c (.int .i64 8))⟩])
(.cond (.t 6)
.skip
(.exit 0)))
(.seq
(.block 1
(.reg [⟨(some 9), none, .mov (.t 4)⟩, ⟨(some 10), none, .mov (.t 4)⟩, ⟨(some 11), none, .ia 8 8 (.t 1) (.t 10)⟩, ⟨(some 12), none, .ld (some 8) (.t 11)⟩, ⟨(some 13), none, .call 22 [(.t 12)]⟩, ⟨(some 14), none, .ia 8 8 (.t 3) (.t 9)⟩, ⟨none, none, .st 8 (.t 14) (.t 13)⟩]))
(.reg [⟨(some 7), none, .mov (.t 4)⟩, ⟨(some 8), none, .bin .add (.t 7) (.c (.int .i64 1))⟩, ⟨(some 4), none, .mov (.t 8)⟩]))))))
(.seq
(.reg [⟨(some 15), none, .ld (some 64) (.t 3)⟩, ⟨none, none, .st 64 (.t 2) (.t 15)⟩])
.ret))))
theorem tr19 : trFn Try.prog Try.f19 = some (16, ir19, [.cell (some 64) 2]) := by kernel_rfl

/-- loop.example/g01230/impl.IsNormedPairing -/
def ir20 : Cd :=
(.seq
(.reg [⟨(some 2), none, .box 36 (.t 0)⟩, ⟨(some 3), none, .box 32 (.t 1)⟩, ⟨(some 4), none, .mov (.c (.bool false))⟩, ⟨(some 5), none, .mov (.c (.int .i64 0))⟩])
(.seq
(.seq
(.reg [⟨(some 7), none, .bsl 69 1 1 [(1, .nil)] [(0, 1, (.t 3))]⟩, ⟨(some 8), none, .call 39 [(.t 2), (.t 7)]⟩, ⟨(some 6), none, .mov (.t 8)⟩])
(.seq
(.reg [⟨(some 9), none, .mov (.t 6)⟩, ⟨(some 10), none, .bin .neq (.t 9) (.c (.int .i64 0))⟩])
(.cond (.t 10)
(.seq
(.reg [⟨(some 11), none, .mov (.t 6)⟩, ⟨(some 4), none, .mov (.c (.bool false))⟩, ⟨(some 5), none, .mov (.t 11)⟩])
.ret)
.skip)))
(.seq
(.reg [⟨(some 12), none, .call 40 [(.t 2), (.t 3)]⟩, ⟨(some 4), none, .mov (.t 12)⟩, ⟨(some 5), none, .mov (.c (.int .i64 0))⟩])
.ret)))
theorem tr20 : trFn Try.prog Try.f20 = some (13, ir20, [.tmp 4, .tmp 5]) := by kernel_rfl

/-- loop.example/g01230/spec.PairingOf -/
def ir21 : Cd :=
(.seq
(.reg [⟨(some 4), none, .box 36 (.t 0)⟩, ⟨(some 5), none, .box 32 (.t 1)⟩, ⟨(some 6), none, .box 30 (.t 2)⟩, ⟨(some 7), none, .box 30 (.t 3)⟩, ⟨(some 8), none, .mov (.c (.int .i64 0))⟩, ⟨(some 9), none, .mov (.c (.int .i64 0))⟩])
(.seq
(.reg [⟨(some 11), none, .ld (some 1106) (.t 4)⟩, ⟨(some 12), none, .ld (some 64) (.t 5)⟩, ⟨(some 13), none, .bsl 32 1 64 [(64, (.int .u8 0))] [(0, 64, (.t 12))]⟩, ⟨(some 14), none, .call 37 [(.t 11), (.t 13)]⟩, ⟨(some 10), none, .mov (.t 14)⟩])
(.seq
(.seq
(.reg [⟨(some 15), none, .mov (.t 10)⟩, ⟨(some 16), none, .bin .eql (.t 15) (.c (.int .i64 0))⟩, ⟨(some 17), none, .mov (.t 16)⟩, ⟨(some 18), (some (17, true)), .fa 0 (.t 4)⟩, ⟨(some 19), (some (17, true)), .ld none (.t 18)⟩, ⟨(some 20), (some (17, true)), .fa 1 (.t 4)⟩, ⟨(some 21), (some (17, true)), .ld none (.t 20)⟩, ⟨(some 22), (some (17, true)), .ld (some 8) (.t 6)⟩, ⟨(some 23), (some (17, true)), .call 27 [(.t 19), (.t 21), (.t 22)]⟩, ⟨(some 24), (some (17, true)), .un .not (.t 23)⟩, ⟨(some 25), (some (17, true)), .mov (.t 24)⟩, ⟨(some 26), (some (25, false)), .fa 0 (.t 4)⟩, ⟨(some 27), (some (25, false)), .ld none (.t 26)⟩, ⟨(some 28), (some (25, false)), .fa 1 (.t 4)⟩, ⟨(some 29), (some (25, false)), .ld none (.t 28)⟩, ⟨(some 30), (some (25, false)), .ld (some 8) (.t 7)⟩, ⟨(some 31), (some (25, false)), .call 27 [(.t 27), (.t 29), (.t 30)]⟩, ⟨(some 32), (some (25, false)), .un .not (.t 31)⟩, ⟨(some 33), (some (17, true)), .pick (.t 25) (.c (.bool true)) (.t 32)⟩, ⟨(some 34), none, .pick (.t 17) (.t 33) (.c (.bool false))⟩])
(.cond (.t 34)
(.reg [⟨(some 10), none, .mov (.c (.int .i64 1))⟩])
.skip))
(.seq
(.seq
(.reg [⟨(some 35), none, .mov (.t 10)⟩, ⟨(some 36), none, .bin .neq (.t 35) (.c (.int .i64 0))⟩])
(.cond (.t 36)
(.seq
(.reg [⟨(some 37), none, .mov (.t 10)⟩, ⟨(some 8), none, .mov (.c (.int .i64 0))⟩, ⟨(some 9), none, .mov (.t 37)⟩])
.ret)
.skip))
(.seq
(.reg [⟨(some 38), none, .ld (some 1106) (.t 4)⟩, ⟨(some 39), none, .ld (some 64) (.t 5)⟩, ⟨(some 40), none, .ld (some 8) (.t 6)⟩, ⟨(some 41), none, .ld (some 8) (.t 7)⟩, ⟨(some 42), none, .call 41 [(.t 38), (.t 39), (.t 40), (.t 41)]⟩, ⟨(some 8), none, .mov (.t 42)⟩, ⟨(some 9), none, .mov (.c (.int .i64 0))⟩])
.ret)))))
theorem tr21 : trFn Try.prog Try.f21 = some (43, ir21, [.tmp 8, .tmp 9]) := by kernel_rfl

/-- loop.example/g01230/laws.toVector -/
def ir22 : Cd :=
(.seq
(.reg [⟨(some 1), none, .box 22 (.t 0)⟩, ⟨(some 2), none, .new 30 [(8, (.int .u8 0))]⟩])
(.seq
(.reg [⟨(some 3), none, .new 30 [(8, (.int .u8 0))]⟩])
(.seq
(.seq
(.reg [⟨(some 4), none, .mov (.c (.int .i64 0))⟩])
(.block 0
(.loop
(.seq
(.seq
(.reg [⟨(some 5), none, .mov (.t 4)⟩, ⟨(some 6), none, .bin .lss (.t 5) (.c (.int .i64 8))⟩])
(.cond (.t 6)
.skip
(.exit 0)))
(.seq
(.block 1
(.reg [⟨(some 9), none, .mov (.t 4)⟩, ⟨(some 10), none, .mov (.t 4)⟩, ⟨(some 11), none, .ia 8 1 (.t 1) (.t 10)⟩, ⟨(some 12), none, .ld none (.t 11)⟩, ⟨(some 13), none, .ia 8 1 (.t 3) (.t 9)⟩, ⟨none, none, .st 1 (.t 13) (.t 12)⟩]))
(.reg [⟨(some 7), none, .mov (.t 4)⟩, ⟨(some 8), none, .bin .add (.t 7) (.c (.int .i64 1))⟩, ⟨(some 4), none, .mov (.t 8)⟩]))))))
(.seq
(.reg [⟨(some 14), none, .ld (some 8) (.t 3)⟩, ⟨none, none, .st 8 (.t 2) (.t 14)⟩])
.ret))))
theorem tr22 : trFn Try.prog Try.f22 = some (15, ir22, [.cell (some 8) 2]) := by kernel_rfl

/-- loop.example/g01230/impl.PairingOf -/
def ir23 : Cd :=
(.seq
(.reg [⟨(some 4), none, .box 36 (.t 0)⟩, ⟨(some 5), none, .box 32 (.t 1)⟩, ⟨(some 6), none, .box 30 (.t 2)⟩, ⟨(some 7), none, .box 30 (.t 3)⟩, ⟨(some 8), none, .mov (.c (.int .i64 0))⟩, ⟨(some 9), none, .mov (.c (.int .i64 0))⟩])
(.seq
(.seq
(.drwt (.seg 2 (.seg 3 (.fork (.seg 0 (.fork (.seg 1 (.seg 4 (.seg 5 (.seg 6 (.seg 7 (.seg 8 (.seg 9 .done))))))) (.seg 4 (.seg 1 (.seg 5 (.seg 6 (.seg 7 (.seg 8 (.seg 9 .done))))))))) (.seg 4 (.seg 0 (.seg 1 (.seg 5 (.seg 6 (.seg 7 (.seg 8 (.seg 9 .done))))))))))) [⟨(some 11), none, .bsl 69 1 1 [(1, .nil)] [(0, 1, (.t 5))]⟩, ⟨(some 12), none, .call 39 [(.t 4), (.t 11)]⟩, ⟨(some 13), none, .ld (some 8) (.t 6)⟩, ⟨(some 14), none, .ld (some 8) (.t 7)⟩, ⟨(some 15), none, .bsl 30 2 8 [(8, (.int .u8 0))] [(0, 8, (.t 13)), (8, 8, (.t 14))]⟩, ⟨(some 16), none, .call 29 [(.t 4), (.t 15)]⟩, ⟨(some 17), none, .call 43 [(.t 16), (.c (.int .i64 1))]⟩, ⟨(some 18), none, .bsl 2 2 1 [(1, (.int .i64 0))] [(0, 1, (.t 12)), (1, 1, (.t 17))]⟩, ⟨(some 19), none, .call 42 [(.t 18)]⟩, ⟨(some 10), none, .mov (.t 19)⟩])
(.seq
(.reg [⟨(some 20), none, .mov (.t 10)⟩, ⟨(some 21), none, .bin .neq (.t 20) (.c (.int .i64 0))⟩])
(.cond (.t 21)
(.seq
(.reg [⟨(some 22), none, .mov (.t 10)⟩, ⟨(some 8), none, .mov (.c (.int .i64 0))⟩, ⟨(some 9), none, .mov (.t 22)⟩])
.ret)
.skip)))
(.seq
(.drwo true [3] [1, 2, 0, 3, 4, 5] [⟨(some 23), none, .call 44 [(.t 4)]⟩, ⟨(some 24), none, .ld (some 8) (.t 6)⟩, ⟨(some 25), none, .ld (some 8) (.t 7)⟩, ⟨(some 26), none, .call 45 [(.t 23), (.t 5), (.t 24), (.t 25)]⟩, ⟨(some 8), none, .mov (.t 26)⟩, ⟨(some 9), none, .mov (.c (.int .i64 0))⟩])
.ret)))
theorem tr23 : trFn Try.prog Try.f23 = some (27, ir23, [.tmp 8, .tmp 9]) := by kernel_rfl

/-- loop.example/g01230/spec.AreInversePairings -/
def ir24 : Cd :=
(.seq
(.reg [⟨(some 3), none, .box 36 (.t 0)⟩, ⟨(some 4), none, .box 32 (.t 1)⟩, ⟨(some 5), none, .box 32 (.t 2)⟩, ⟨(some 6), none, .mov (.c (.bool false))⟩, ⟨(some 7), none, .mov (.c (.int .i64 0))⟩])
(.seq
(.seq
(.reg [⟨(some 10), none, .ld (some 1106) (.t 3)⟩, ⟨(some 11), none, .ld (some 64) (.t 4)⟩, ⟨(some 12), none, .ld (some 64) (.t 5)⟩, ⟨(some 13), none, .bsl 32 2 64 [(64, (.int .u8 0))] [(0, 64, (.t 11)), (64, 64, (.t 12))]⟩, ⟨(some 14), none, .call 37 [(.t 10), (.t 13)]⟩, ⟨(some 8), none, .mov (.t 14)⟩])
(.seq
(.reg [⟨(some 15), none, .mov (.t 8)⟩, ⟨(some 16), none, .bin .neq (.t 15) (.c (.int .i64 0))⟩])
(.cond (.t 16)
(.seq
(.reg [⟨(some 17), none, .mov (.t 8)⟩, ⟨(some 6), none, .mov (.c (.bool false))⟩, ⟨(some 7), none, .mov (.t 17)⟩])
.ret)
.skip)))
(.seq
(.reg [⟨(some 18), none, .fa 0 (.t 3)⟩, ⟨(some 19), none, .ld none (.t 18)⟩, ⟨(some 20), none, .fa 522 (.t 3)⟩, ⟨(some 21), none, .ld (some 8) (.t 20)⟩, ⟨(some 22), none, .fa 522 (.t 3)⟩, ⟨(some 23), none, .ld (some 8) (.t 22)⟩, ⟨(some 24), none, .call 35 [(.t 19), (.t 21), (.t 23)]⟩, ⟨(some 9), none, .new 32 [(64, (.int .u8 0))]⟩, ⟨none, none, .st 64 (.t 9) (.t 24)⟩])
(.seq
(.drw true [] [⟨(some 25), none, .ld (some 1106) (.t 3)⟩, ⟨(some 26), none, .ld (some 64) (.t 4)⟩, ⟨(some 27), none, .ld (some 64) (.t 5)⟩, ⟨(some 28), none, .call 46 [(.t 25), (.t 26), (.t 27)]⟩, ⟨(some 29), none, .ld (some 64) (.t 9)⟩, ⟨(some 30), none, .eqa false 64 (.t 28) (.t 29)⟩, ⟨(some 31), none, .mov (.t 30)⟩, ⟨(some 32), (some (31, true)), .ld (some 1106) (.t 3)⟩, ⟨(some 33), (some (31, true)), .ld (some 64) (.t 5)⟩, ⟨(some 34), (some (31, true)), .ld (some 64) (.t 4)⟩, ⟨(some 35), (some (31, true)), .call 46 [(.t 32), (.t 33), (.t 34)]⟩, ⟨(some 36), (some (31, true)), .ld (some 64) (.t 9)⟩, ⟨(some 37), (some (31, true)), .eqa false 64 (.t 35) (.t 36)⟩, ⟨(some 38), none, .pick (.t 31) (.t 37) (.c (.bool false))⟩, ⟨(some 6), none, .mov (.t 38)⟩, ⟨(some 7), none, .mov (.c (.int .i64 0))⟩])
.ret))))
theorem tr24 : trFn Try.prog Try.f24 = some (39, ir24, [.tmp 6, .tmp 7]) := by kernel_rfl

/-- loop.example/g01230/impl.AreInversePairings -/
def ir25 : Cd :=
(.seq
(.reg [⟨(some 3), none, .box 36 (.t 0)⟩, ⟨(some 4), none, .box 32 (.t 1)⟩, ⟨(some 5), none, .box 32 (.t 2)⟩, ⟨(some 6), none, .mov (.c (.bool false))⟩, ⟨(some 7), none, .mov (.c (.int .i64 0))⟩])
(.seq
(.seq
(.reg [⟨(some 10), none, .bsl 69 2 1 [(1, .nil)] [(0, 1, (.t 4)), (1, 1, (.t 5))]⟩, ⟨(some 11), none, .call 39 [(.t 3), (.t 10)]⟩, ⟨(some 8), none, .mov (.t 11)⟩])
(.seq
(.reg [⟨(some 12), none, .mov (.t 8)⟩, ⟨(some 13), none, .bin .neq (.t 12) (.c (.int .i64 0))⟩])
(.cond (.t 13)
(.seq
(.reg [⟨(some 14), none, .mov (.t 8)⟩, ⟨(some 6), none, .mov (.c (.bool false))⟩, ⟨(some 7), none, .mov (.t 14)⟩])
.ret)
.skip)))
(.seq
(.reg [⟨(some 15), none, .call 36 [(.t 3)]⟩, ⟨(some 9), none, .new 32 [(64, (.int .u8 0))]⟩, ⟨none, none, .st 64 (.t 9) (.t 15)⟩])
(.seq
(.drw true [] [⟨(some 16), none, .call 47 [(.t 3), (.t 4), (.t 5)]⟩, ⟨(some 17), none, .ld (some 64) (.t 9)⟩, ⟨(some 18), none, .eqa false 64 (.t 16) (.t 17)⟩, ⟨(some 19), none, .mov (.t 18)⟩, ⟨(some 20), (some (19, true)), .call 47 [(.t 3), (.t 5), (.t 4)]⟩, ⟨(some 21), (some (19, true)), .ld (some 64) (.t 9)⟩, ⟨(some 22), (some (19, true)), .eqa false 64 (.t 20) (.t 21)⟩, ⟨(some 23), none, .pick (.t 19) (.t 22) (.c (.bool false))⟩, ⟨(some 6), none, .mov (.t 23)⟩, ⟨(some 7), none, .mov (.c (.int .i64 0))⟩])
.ret))))
theorem tr25 : trFn Try.prog Try.f25 = some (24, ir25, [.tmp 6, .tmp 7]) := by kernel_rfl

/-- loop.example/g01230/spec.l03Is -/
def ir26 : Cd :=
(.seq
(.reg [⟨(some 1), none, .box 36 (.t 0)⟩, ⟨(some 2), none, .mov (.c (.bool false))⟩])
(.seq
(.reg [⟨(some 3), none, .ld (some 1106) (.t 1)⟩, ⟨(some 4), none, .call 48 [(.t 3)]⟩, ⟨(some 5), none, .mov (.t 4)⟩, ⟨(some 6), (some (5, true)), .ld (some 1106) (.t 1)⟩, ⟨(some 7), (some (5, true)), .call 49 [(.t 6)]⟩, ⟨(some 8), (some (5, true)), .bin .eql (.t 7) (.c (.int .i64 0))⟩, ⟨(some 9), none, .pick (.t 5) (.t 8) (.c (.bool false))⟩, ⟨(some 2), none, .mov (.t 9)⟩])
.ret))
theorem tr26 : trFn Try.prog Try.f26 = some (10, ir26, [.tmp 2]) := by kernel_rfl

/-- loop.example/g01230/spec.l01Vector -/
def ir27 : Cd :=
(.seq
(.reg [⟨(some 5), none, .box 30 (.t 2)⟩, ⟨(some 6), none, .mov (.c (.bool false))⟩])
(.seq
(.seq
(.reg [⟨(some 7), none, .mov (.c (.int .i64 0))⟩])
(.block 0
(.loop
(.seq
(.seq
(.reg [⟨(some 8), none, .mov (.t 7)⟩, ⟨(some 9), none, .bin .lss (.t 8) (.c (.int .i64 8))⟩])
(.cond (.t 9)
.skip
(.exit 0)))
(.seq
(.block 1
(.seq
(.reg [⟨(some 12), none, .mov (.t 7)⟩, ⟨(some 13), none, .ia 8 1 (.t 5) (.t 12)⟩, ⟨(some 14), none, .ld none (.t 13)⟩, ⟨(some 15), none, .cv .i64 (.t 14)⟩, ⟨(some 16), none, .mov (.t 0)⟩, ⟨(some 17), none, .bin .geq (.t 15) (.t 16)⟩, ⟨(some 18), none, .mov (.t 17)⟩, ⟨(some 19), (some (18, false)), .mov (.t 7)⟩, ⟨(some 20), (some (18, false)), .mov (.t 1)⟩, ⟨(some 21), (some (18, false)), .bin .geq (.t 19) (.t 20)⟩, ⟨(some 22), (some (18, false)), .mov (.t 21)⟩, ⟨(some 23), (some (22, true)), .mov (.t 7)⟩, ⟨(some 24), (some (22, true)), .ia 8 1 (.t 5) (.t 23)⟩, ⟨(some 25), (some (22, true)), .ld none (.t 24)⟩, ⟨(some 26), (some (22, true)), .bin .neq (.t 25) (.c (.int .u8 0))⟩, ⟨(some 27), (some (18, false)), .pick (.t 22) (.t 26) (.c (.bool false))⟩, ⟨(some 28), none, .pick (.t 18) (.c (.bool true)) (.t 27)⟩])
(.cond (.t 28)
(.seq
(.reg [⟨(some 6), none, .mov (.c (.bool false))⟩])
.ret)
.skip)))
(.reg [⟨(some 10), none, .mov (.t 7)⟩, ⟨(some 11), none, .bin .add (.t 10) (.c (.int .i64 1))⟩, ⟨(some 7), none, .mov (.t 11)⟩]))))))
(.seq
(.reg [⟨(some 6), none, .mov (.c (.bool true))⟩])
.ret)))
theorem tr27 : trFn Try.prog Try.f27 = some (29, ir27, [.tmp 6]) := by kernel_rfl

/-- loop.example/g01230/impl.IsHopf -/
def ir28 : Cd :=
(.seq
(.reg [⟨(some 1), none, .box 36 (.t 0)⟩, ⟨(some 2), none, .mov (.c (.bool false))⟩])
(.seq
(.reg [⟨(some 3), none, .call 50 [(.t 1)]⟩, ⟨(some 4), none, .mov (.t 3)⟩, ⟨(some 5), (some (4, true)), .call 51 [(.t 1), (.c (.int .i64 7))]⟩, ⟨(some 6), (some (4, true)), .bin .eql (.t 5) (.c (.int .i64 0))⟩, ⟨(some 7), none, .pick (.t 4) (.t 6) (.c (.bool false))⟩, ⟨(some 2), none, .mov (.t 7)⟩])
.ret))
theorem tr28 : trFn Try.prog Try.f28 = some (8, ir28, [.tmp 2]) := by kernel_rfl

/-- (*loop.example/g01230/impl.Hopf).has -/
def ir29 : Cd :=
(.seq
(.reg [⟨(some 2), none, .box 68 (.t 0)⟩, ⟨(some 4), none, .mov (.c (.bool false))⟩])
(.seq
(.reg [⟨(some 5), none, .mov (.t 1)⟩, ⟨(some 6), none, .mkf 53 [] [(.t 2)]⟩, ⟨(some 7), none, .call 52 [(.t 5), (.t 6)]⟩, ⟨(some 8), none, .un .not (.t 7)⟩, ⟨(some 4), none, .mov (.t 8)⟩])
.ret))
theorem tr29 : trFn Try.prog Try.f29 = some (9, ir29, [.tmp 4]) := by kernel_rfl

/-- loop.example/g01230/spec.l09One -/
def ir30 : Cd :=
(.seq
(.reg [⟨(some 1), none, .box 36 (.t 0)⟩, ⟨(some 2), none, .new 32 [(64, (.int .u8 0))]⟩])
(.seq
(.reg [⟨(some 5), none, .build 64 [(64, (.int .u8 0))] []⟩, ⟨(some 3), none, .new 32 [(64, (.int .u8 0))]⟩, ⟨none, none, .st 64 (.t 3) (.t 5)⟩])
(.seq
(.seq
(.reg [⟨(some 4), none, .mov (.c (.int .i64 0))⟩])
(.block 0
(.loop
(.seq
(.seq
(.reg [⟨(some 6), none, .mov (.t 4)⟩, ⟨(some 7), none, .fa 1 (.t 1)⟩, ⟨(some 8), none, .ld none (.t 7)⟩, ⟨(some 9), none, .bin .lss (.t 6) (.t 8)⟩])
(.cond (.t 9)
.skip
(.exit 0)))
(.seq
(.block 1
(.drw true [13] [⟨(some 12), none, .mov (.t 4)⟩, ⟨(some 13), none, .fa 0 (.t 1)⟩, ⟨(some 14), none, .ld none (.t 13)⟩, ⟨(some 15), none, .build 8 [(8, (.int .u8 0))] []⟩, ⟨(some 16), none, .fa 2 (.t 1)⟩, ⟨(some 17), none, .ld (some 8) (.t 16)⟩, ⟨(some 18), none, .mov (.t 4)⟩, ⟨(some 19), none, .fa 2 (.t 1)⟩, ⟨(some 20), none, .ia 8 1 (.t 19) (.t 18)⟩, ⟨(some 21), none, .ld none (.t 20)⟩, ⟨(some 22), none, .cv .i64 (.t 21)⟩, ⟨(some 23), none, .call 55 [(.t 14), (.t 15), (.t 17), (.t 22)]⟩, ⟨(some 24), none, .ia 8 8 (.t 3) (.t 12)⟩, ⟨none, none, .st 8 (.t 24) (.t 23)⟩]))
(.reg [⟨(some 10), none, .mov (.t 4)⟩, ⟨(some 11), none, .bin .add (.t 10) (.c (.int .i64 1))⟩, ⟨(some 4), none, .mov (.t 11)⟩]))))))
(.seq
(.reg [⟨(some 25), none, .ld (some 64) (.t 3)⟩, ⟨none, none, .st 64 (.t 2) (.t 25)⟩])
.ret))))
theorem tr30 : trFn Try.prog Try.f30 = some (26, ir30, [.cell (some 64) 2]) := by kernel_rfl

/-- loop.example/g01230/laws.toTable -/
def ir31 : Cd :=
(.seq
(.reg [⟨(some 1), none, .box 24 (.t 0)⟩, ⟨(some 2), none, .new 34 [(512, (.int .u8 0))]⟩])
(.seq
(.reg [⟨(some 3), none, .new 34 [(512, (.int .u8 0))]⟩])
(.seq
(.seq
(.reg [⟨(some 4), none, .mov (.c (.int .i64 0))⟩])
(.block 0
(.loop
(.seq
(.seq
(.reg [⟨(some 5), none, .mov (.t 4)⟩, ⟨(some 6), none, .bin .lss (.t 5) (.c (.int .i64 8))⟩])
(.cond (.t 6)
.skip
(.exit 0)))
(.seq
(.block 1
(.reg [⟨(some 9), none, .mov (.t 4)⟩, ⟨(some 10), none, .mov (.t 4)⟩, ⟨(some 11), none, .ia 8 64 (.t 1) (.t 10)⟩, ⟨(some 12), none, .ld (some 64) (.t 11)⟩, ⟨(some 13), none, .call 19 [(.t 12)]⟩, ⟨(some 14), none, .ia 8 64 (.t 3) (.t 9)⟩, ⟨none, none, .st 64 (.t 14) (.t 13)⟩]))
(.reg [⟨(some 7), none, .mov (.t 4)⟩, ⟨(some 8), none, .bin .add (.t 7) (.c (.int .i64 1))⟩, ⟨(some 4), none, .mov (.t 8)⟩]))))))
(.seq
(.reg [⟨(some 15), none, .ld (some 512) (.t 3)⟩, ⟨none, none, .st 512 (.t 2) (.t 15)⟩])
.ret))))
theorem tr31 : trFn Try.prog Try.f31 = some (16, ir31, [.cell (some 512) 2]) := by kernel_rfl

/-- (*loop.example/g01230/impl.Hopf).code -/
def ir32 : Cd :=
(.seq
(.reg [⟨(some 4), none, .mov (.c (.int .i64 0))⟩])
(.seq
(.reg [⟨(some 5), none, .mov (.t 0)⟩, ⟨(some 6), none, .ck (.t 5)⟩, ⟨(some 7), none, .ld (some 1106) (.t 6)⟩, ⟨(some 8), none, .call 28 [(.t 7)]⟩, ⟨(some 9), none, .mov (.t 8)⟩, ⟨(some 10), (some (9, true)), .mov (.t 0)⟩, ⟨(some 11), (some (9, true)), .mov (.t 1)⟩, ⟨(some 12), (some (9, true)), .call 29 [(.t 10), (.t 11)]⟩, ⟨(some 13), none, .pick (.t 9) (.t 12) (.c (.bool false))⟩, ⟨(some 14), none, .call 43 [(.t 13), (.c (.int .i64 1))]⟩, ⟨(some 4), none, .mov (.t 14)⟩])
.ret))
theorem tr32 : trFn Try.prog Try.f32 = some (15, ir32, [.tmp 4]) := by kernel_rfl

/-- (*loop.example/g01230/impl.Hopf).one -/
def ir33 : Cd :=
(.seq
(.reg [⟨(some 2), none, .new 32 [(64, (.int .u8 0))]⟩])
(.seq
(.drwo true [10, 11] [0, 2, 3, 4, 5, 6, 7, 8, 9, 1, 10, 11] [⟨(some 3), none, .mov (.t 0)⟩, ⟨(some 4), none, .call 44 [(.t 3)]⟩, ⟨(some 5), none, .mov (.t 0)⟩, ⟨(some 6), none, .ck (.t 5)⟩, ⟨(some 7), none, .fa 2 (.t 6)⟩, ⟨(some 8), none, .ld (some 8) (.t 7)⟩, ⟨(some 9), none, .mov (.t 0)⟩, ⟨(some 10), none, .ck (.t 9)⟩, ⟨(some 11), none, .fa 2 (.t 10)⟩, ⟨(some 12), none, .ld (some 8) (.t 11)⟩, ⟨(some 13), none, .call 56 [(.t 4), (.t 8), (.t 12)]⟩, ⟨none, none, .st 64 (.t 2) (.t 13)⟩])
.ret))
theorem tr33 : trFn Try.prog Try.f33 = some (14, ir33, [.cell (some 64) 2]) := by kernel_rfl

/-- loop.example/g01230/laws.eqVector -/
def ir34 : Cd :=
(.seq
(.reg [⟨(some 2), none, .box 30 (.t 0)⟩, ⟨(some 3), none, .box 30 (.t 1)⟩, ⟨(some 4), none, .mov (.c (.bool false))⟩])
(.seq
(.seq
(.reg [⟨(some 5), none, .mov (.c (.int .i64 0))⟩])
(.block 0
(.loop
(.seq
(.seq
(.reg [⟨(some 6), none, .mov (.t 5)⟩, ⟨(some 7), none, .bin .lss (.t 6) (.c (.int .i64 8))⟩])
(.cond (.t 7)
.skip
(.exit 0)))
(.seq
(.block 1
(.seq
(.drw true [] [⟨(some 10), none, .mov (.t 5)⟩, ⟨(some 11), none, .ia 8 1 (.t 2) (.t 10)⟩, ⟨(some 12), none, .ld none (.t 11)⟩, ⟨(some 13), none, .mov (.t 5)⟩, ⟨(some 14), none, .ia 8 1 (.t 3) (.t 13)⟩, ⟨(some 15), none, .ld none (.t 14)⟩, ⟨(some 16), none, .bin .neq (.t 12) (.t 15)⟩])
(.cond (.t 16)
(.seq
(.reg [⟨(some 4), none, .mov (.c (.bool false))⟩])
.ret)
.skip)))
(.reg [⟨(some 8), none, .mov (.t 5)⟩, ⟨(some 9), none, .bin .add (.t 8) (.c (.int .i64 1))⟩, ⟨(some 5), none, .mov (.t 9)⟩]))))))
(.seq
(.reg [⟨(some 4), none, .mov (.c (.bool true))⟩])
.ret)))
theorem tr34 : trFn Try.prog Try.f34 = some (17, ir34, [.tmp 4]) := by kernel_rfl

/-- loop.example/g01230/spec.l02Outer -/
def ir35 : Cd :=
(.seq
(.reg [⟨(some 4), none, .box 30 (.t 1)⟩, ⟨(some 5), none, .box 30 (.t 2)⟩, ⟨(some 6), none, .new 32 [(64, (.int .u8 0))]⟩])
(.seq
(.reg [⟨(some 9), none, .build 64 [(64, (.int .u8 0))] []⟩, ⟨(some 7), none, .new 32 [(64, (.int .u8 0))]⟩, ⟨none, none, .st 64 (.t 7) (.t 9)⟩])
(.seq
(.seq
(.reg [⟨(some 8), none, .mov (.c (.int .i64 0))⟩])
(.block 0
(.loop
(.seq
(.seq
(.reg [⟨(some 10), none, .mov (.t 8)⟩, ⟨(some 11), none, .bin .lss (.t 10) (.c (.int .i64 8))⟩])
(.cond (.t 11)
.skip
(.exit 0)))
(.seq
(.block 1
(.drw true [10] [⟨(some 14), none, .mov (.t 8)⟩, ⟨(some 15), none, .mov (.t 0)⟩, ⟨(some 16), none, .build 8 [(8, (.int .u8 0))] []⟩, ⟨(some 17), none, .ld (some 8) (.t 5)⟩, ⟨(some 18), none, .mov (.t 8)⟩, ⟨(some 19), none, .ia 8 1 (.t 4) (.t 18)⟩, ⟨(some 20), none, .ld none (.t 19)⟩, ⟨(some 21), none, .cv .i64 (.t 20)⟩, ⟨(some 22), none, .call 55 [(.t 15), (.t 16), (.t 17), (.t 21)]⟩, ⟨(some 23), none, .ia 8 8 (.t 7) (.t 14)⟩, ⟨none, none, .st 8 (.t 23) (.t 22)⟩]))
(.reg [⟨(some 12), none, .mov (.t 8)⟩, ⟨(some 13), none, .bin .add (.t 12) (.c (.int .i64 1))⟩, ⟨(some 8), none, .mov (.t 13)⟩]))))))
(.seq
(.reg [⟨(some 24), none, .ld (some 64) (.t 7)⟩, ⟨none, none, .st 64 (.t 6) (.t 24)⟩])
.ret))))
theorem tr35 : trFn Try.prog Try.f35 = some (25, ir35, [.cell (some 64) 6]) := by kernel_rfl

/-- (*loop.example/g01230/impl.Hopf).unitPairing -/
def ir36 : Cd :=
(.seq
(.reg [⟨(some 2), none, .new 32 [(64, (.int .u8 0))]⟩])
(.seq
(.drwo true [10, 11] [0, 2, 3, 4, 5, 6, 7, 8, 9, 1, 10, 11] [⟨(some 3), none, .mov (.t 0)⟩, ⟨(some 4), none, .call 44 [(.t 3)]⟩, ⟨(some 5), none, .mov (.t 0)⟩, ⟨(some 6), none, .ck (.t 5)⟩, ⟨(some 7), none, .fa 522 (.t 6)⟩, ⟨(some 8), none, .ld (some 8) (.t 7)⟩, ⟨(some 9), none, .mov (.t 0)⟩, ⟨(some 10), none, .ck (.t 9)⟩, ⟨(some 11), none, .fa 522 (.t 10)⟩, ⟨(some 12), none, .ld (some 8) (.t 11)⟩, ⟨(some 13), none, .call 56 [(.t 4), (.t 8), (.t 12)]⟩, ⟨none, none, .st 64 (.t 2) (.t 13)⟩])
.ret))
theorem tr36 : trFn Try.prog Try.f36 = some (14, ir36, [.cell (some 64) 2]) := by kernel_rfl

/-- loop.example/g01230/spec.l10Code -/
def ir37 : Cd :=
(.seq
(.reg [⟨(some 2), none, .box 36 (.t 0)⟩, ⟨(some 4), none, .mov (.c (.int .i64 0))⟩])
(.seq
(.seq
(.reg [⟨(some 7), none, .ld (some 1106) (.t 2)⟩, ⟨(some 8), none, .call 26 [(.t 7)]⟩, ⟨(some 9), none, .un .not (.t 8)⟩])
(.cond (.t 9)
(.seq
(.reg [⟨(some 4), none, .mov (.c (.int .i64 1))⟩])
.ret)
.skip))
(.seq
(.seq
(.reg [⟨(some 5), none, .mov (.c (.int .i64 0))⟩])
(.block 0
(.loop
(.seq
(.seq
(.reg [⟨(some 10), none, .mov (.t 5)⟩, ⟨(some 11), none, .mov (.t 1)⟩, ⟨(some 12), none, .len (.t 11)⟩, ⟨(some 13), none, .bin .lss (.t 10) (.t 12)⟩])
(.cond (.t 13)
.skip
(.exit 0)))
(.seq
(.block 1
(.seq
(.seq
(.drw true [8] [⟨(some 16), none, .fa 0 (.t 2)⟩, ⟨(some 17), none, .ld none (.t 16)⟩, ⟨(some 18), none, .fa 1 (.t 2)⟩, ⟨(some 19), none, .ld none (.t 18)⟩, ⟨(some 20), none, .mov (.t 1)⟩, ⟨(some 21), none, .mov (.t 5)⟩, ⟨(some 22), none, .isl 64 (.t 20) (.t 21)⟩, ⟨(some 23), none, .ld (some 64) (.t 22)⟩, ⟨(some 24), none, .call 57 [(.t 17), (.t 19), (.t 23)]⟩, ⟨(some 25), none, .un .not (.t 24)⟩])
(.cond (.t 25)
(.seq
(.reg [⟨(some 4), none, .mov (.c (.int .i64 1))⟩])
.ret)
.skip))
(.seq
(.reg [⟨(some 26), none, .fa 1 (.t 2)⟩, ⟨(some 27), none, .ld none (.t 26)⟩, ⟨(some 6), none, .mov (.t 27)⟩])
(.block 2
(.loop
(.seq
(.seq
(.reg [⟨(some 28), none, .mov (.t 6)⟩, ⟨(some 29), none, .bin .lss (.t 28) (.c (.int .i64 8))⟩])
(.cond (.t 29)
.skip
(.exit 2)))
(.seq
(.block 3
(.seq
(.reg [⟨(some 32), none, .mov (.t 1)⟩, ⟨(some 33), none, .mov (.t 5)⟩, ⟨(some 34), none, .mov (.t 6)⟩, ⟨(some 35), none, .isl 64 (.t 32) (.t 33)⟩, ⟨(some 36), none, .ia 8 8 (.t 35) (.t 34)⟩, ⟨(some 37), none, .ld (some 8) (.t 36)⟩, ⟨(some 38), none, .call 58 [(.t 37)]⟩, ⟨(some 39), none, .un .not (.t 38)⟩])
(.cond (.t 39)
(.seq
(.reg [⟨(some 4), none, .mov (.c (.int .i64 1))⟩])
.ret)
.skip)))
(.reg [⟨(some 30), none, .mov (.t 6)⟩, ⟨(some 31), none, .bin .add (.t 30) (.c (.int .i64 1))⟩, ⟨(some 6), none, .mov (.t 31)⟩]))))))))
(.reg [⟨(some 14), none, .mov (.t 5)⟩, ⟨(some 15), none, .bin .add (.t 14) (.c (.int .i64 1))⟩, ⟨(some 5), none, .mov (.t 15)⟩]))))))
(.seq
(.reg [⟨(some 4), none, .mov (.c (.int .i64 0))⟩])
.ret))))
theorem tr37 : trFn Try.prog Try.f37 = some (40, ir37, [.tmp 4]) := by kernel_rfl

/-- loop.example/g01230/spec.l10Normed -/
def ir38 : Cd :=
(.seq
(.reg [⟨(some 2), none, .box 36 (.t 0)⟩, ⟨(some 3), none, .box 32 (.t 1)⟩, ⟨(some 4), none, .mov (.c (.bool false))⟩])
(.seq
(.seq
(.reg [⟨(some 5), none, .mov (.c (.int .i64 0))⟩])
(.block 0
(.loop
(.seq
(.seq
(.reg [⟨(some 6), none, .mov (.t 5)⟩, ⟨(some 7), none, .fa 1 (.t 2)⟩, ⟨(some 8), none, .ld none (.t 7)⟩, ⟨(some 9), none, .bin .lss (.t 6) (.t 8)⟩])
(.cond (.t 9)
.skip
(.exit 0)))
(.seq
(.block 1
(.seq
(.drwo true [] [0, 1, 2, 3, 4, 7, 8, 9, 10, 11, 5, 6, 12, 13, 14, 15, 16, 18, 19, 21, 22, 23, 24, 25, 17, 20, 26, 27] [⟨(some 12), none, .ld (some 1106) (.t 2)⟩, ⟨(some 13), none, .ld (some 64) (.t 3)⟩, ⟨(some 14), none, .fa 2 (.t 2)⟩, ⟨(some 15), none, .ld (some 8) (.t 14)⟩, ⟨(some 16), none, .mov (.t 5)⟩, ⟨(some 17), none, .call 59 [(.t 16)]⟩, ⟨(some 18), none, .call 41 [(.t 12), (.t 13), (.t 15), (.t 17)]⟩, ⟨(some 19), none, .mov (.t 5)⟩, ⟨(some 20), none, .fa 522 (.t 2)⟩, ⟨(some 21), none, .ia 8 1 (.t 20) (.t 19)⟩, ⟨(some 22), none, .ld none (.t 21)⟩, ⟨(some 23), none, .cv .i64 (.t 22)⟩, ⟨(some 24), none, .bin .neq (.t 18) (.t 23)⟩, ⟨(some 25), none, .mov (.t 24)⟩, ⟨(some 26), (some (25, false)), .ld (some 1106) (.t 2)⟩, ⟨(some 27), (some (25, false)), .ld (some 64) (.t 3)⟩, ⟨(some 28), (some (25, false)), .mov (.t 5)⟩, ⟨(some 29), (some (25, false)), .call 59 [(.t 28)]⟩, ⟨(some 30), (some (25, false)), .fa 2 (.t 2)⟩, ⟨(some 31), (some (25, false)), .ld (some 8) (.t 30)⟩, ⟨(some 32), (some (25, false)), .call 41 [(.t 26), (.t 27), (.t 29), (.t 31)]⟩, ⟨(some 33), (some (25, false)), .mov (.t 5)⟩, ⟨(some 34), (some (25, false)), .fa 522 (.t 2)⟩, ⟨(some 35), (some (25, false)), .ia 8 1 (.t 34) (.t 33)⟩, ⟨(some 36), (some (25, false)), .ld none (.t 35)⟩, ⟨(some 37), (some (25, false)), .cv .i64 (.t 36)⟩, ⟨(some 38), (some (25, false)), .bin .neq (.t 32) (.t 37)⟩, ⟨(some 39), none, .pick (.t 25) (.c (.bool true)) (.t 38)⟩])
(.cond (.t 39)
(.seq
(.reg [⟨(some 4), none, .mov (.c (.bool false))⟩])
.ret)
.skip)))
(.reg [⟨(some 10), none, .mov (.t 5)⟩, ⟨(some 11), none, .bin .add (.t 10) (.c (.int .i64 1))⟩, ⟨(some 5), none, .mov (.t 11)⟩]))))))
(.seq
(.reg [⟨(some 4), none, .mov (.c (.bool true))⟩])
.ret)))
theorem tr38 : trFn Try.prog Try.f38 = some (40, ir38, [.tmp 4]) := by kernel_rfl

/-- loop.example/g01230/impl.matricesCode -/
def ir39 : Cd :=
(.seq
(.reg [⟨(some 4), none, .mov (.c (.int .i64 0))⟩])
(.seq
(.reg [⟨(some 8), none, .mov (.t 0)⟩, ⟨(some 9), none, .ck (.t 8)⟩, ⟨(some 10), none, .ld (some 1106) (.t 9)⟩, ⟨(some 11), none, .call 28 [(.t 10)]⟩, ⟨(some 5), none, .mov (.t 11)⟩])
(.seq
(.seq
(.reg [⟨(some 12), none, .mov (.t 1)⟩, ⟨(some 13), none, .len (.t 12)⟩, ⟨(some 14), none, .mov (.c (.int .i64 0))⟩])
(.block 0
(.loop
(.seq
(.reg [⟨(some 15), none, .bin .lss (.t 14) (.t 13)⟩])
(.seq
(.cond (.t 15)
.skip
(.exit 0))
(.seq
(.block 1
(.seq
(.reg [⟨(some 16), none, .isl 1 (.t 12) (.t 14)⟩, ⟨(some 17), none, .ld none (.t 16)⟩, ⟨(some 7), none, .mov (.t 17)⟩])
(.drw true [15] [⟨(some 18), none, .mov (.t 5)⟩, ⟨(some 19), none, .mov (.t 18)⟩, ⟨(some 20), (some (19, true)), .mov (.t 0)⟩, ⟨(some 21), (some (19, true)), .ck (.t 20)⟩, ⟨(some 22), (some (19, true)), .fa 0 (.t 21)⟩, ⟨(some 23), (some (19, true)), .ld none (.t 22)⟩, ⟨(some 24), (some (19, true)), .mov (.t 0)⟩, ⟨(some 25), (some (19, true)), .ck (.t 24)⟩, ⟨(some 26), (some (19, true)), .fa 1 (.t 25)⟩, ⟨(some 27), (some (19, true)), .ld none (.t 26)⟩, ⟨(some 28), (some (19, true)), .mov (.t 0)⟩, ⟨(some 29), (some (19, true)), .ck (.t 28)⟩, ⟨(some 30), (some (19, true)), .fa 1 (.t 29)⟩, ⟨(some 31), (some (19, true)), .ld none (.t 30)⟩, ⟨(some 32), (some (19, true)), .mov (.t 7)⟩, ⟨(some 33), (some (19, true)), .call 60 [(.t 23), (.t 27), (.t 31), (.t 32)]⟩, ⟨(some 34), none, .pick (.t 19) (.t 33) (.c (.bool false))⟩, ⟨(some 5), none, .mov (.t 34)⟩])))
(.reg [⟨(some 35), none, .bin .add (.t 14) (.c (.int .i64 1))⟩, ⟨(some 14), none, .mov (.t 35)⟩])))))))
(.seq
(.reg [⟨(some 36), none, .mov (.t 5)⟩, ⟨(some 37), none, .call 43 [(.t 36), (.c (.int .i64 1))]⟩, ⟨(some 4), none, .mov (.t 37)⟩])
.ret))))
theorem tr39 : trFn Try.prog Try.f39 = some (38, ir39, [.tmp 4]) := by kernel_rfl

/-- (*loop.example/g01230/impl.Hopf).isNormed -/
def ir40 : Cd :=
(.seq
(.reg [⟨(some 4), none, .mov (.c (.bool false))⟩])
(.seq
(.reg [⟨(some 8), none, .mov (.t 0)⟩, ⟨(some 9), none, .call 44 [(.t 8)]⟩, ⟨(some 5), none, .new 75 [(2, (.int .i64 0))]⟩, ⟨none, none, .st 2 (.t 5) (.t 9)⟩])
(.seq
(.seq
(.reg [⟨(some 10), none, .fa 1 (.t 5)⟩, ⟨(some 11), none, .ld none (.t 10)⟩, ⟨(some 12), none, .mov (.c (.int .i64 0))⟩])
(.block 0
(.loop
(.seq
(.reg [⟨(some 13), none, .bin .lss (.t 12) (.t 11)⟩])
(.seq
(.cond (.t 13)
.skip
(.exit 0))
(.seq
(.block 1
(.seq
(.reg [⟨(some 14), none, .mov (.t 12)⟩, ⟨(some 6), none, .mov (.t 14)⟩])
(.seq
(.reg [⟨(some 15), none, .mov (.t 0)⟩, ⟨(some 16), none, .mov (.t 6)⟩, ⟨(some 17), none, .ck (.t 15)⟩, ⟨(some 18), none, .fa 522 (.t 17)⟩, ⟨(some 19), none, .ia 8 1 (.t 18) (.t 16)⟩, ⟨(some 20), none, .ld none (.t 19)⟩, ⟨(some 21), none, .cv .i64 (.t 20)⟩, ⟨(some 7), none, .mov (.t 21)⟩])
(.seq
(.drwo true [] [0, 1, 2, 3, 4, 5, 6, 9, 7, 8, 10, 11, 12, 13, 14, 16, 17, 18, 19, 21, 15, 20, 22, 23] [⟨(some 22), none, .ld (some 2) (.t 5)⟩, ⟨(some 23), none, .mov (.t 1)⟩, ⟨(some 24), none, .mov (.t 0)⟩, ⟨(some 25), none, .ck (.t 24)⟩, ⟨(some 26), none, .fa 2 (.t 25)⟩, ⟨(some 27), none, .ld (some 8) (.t 26)⟩, ⟨(some 28), none, .mov (.t 6)⟩, ⟨(some 29), none, .call 61 [(.t 28)]⟩, ⟨(some 30), none, .call 45 [(.t 22), (.t 23), (.t 27), (.t 29)]⟩, ⟨(some 31), none, .mov (.t 7)⟩, ⟨(some 32), none, .bin .neq (.t 30) (.t 31)⟩, ⟨(some 33), none, .mov (.t 32)⟩, ⟨(some 34), (some (33, false)), .ld (some 2) (.t 5)⟩, ⟨(some 35), (some (33, false)), .mov (.t 1)⟩, ⟨(some 36), (some (33, false)), .mov (.t 6)⟩, ⟨(some 37), (some (33, false)), .call 61 [(.t 36)]⟩, ⟨(some 38), (some (33, false)), .mov (.t 0)⟩, ⟨(some 39), (some (33, false)), .ck (.t 38)⟩, ⟨(some 40), (some (33, false)), .fa 2 (.t 39)⟩, ⟨(some 41), (some (33, false)), .ld (some 8) (.t 40)⟩, ⟨(some 42), (some (33, false)), .call 45 [(.t 34), (.t 35), (.t 37), (.t 41)]⟩, ⟨(some 43), (some (33, false)), .mov (.t 7)⟩, ⟨(some 44), (some (33, false)), .bin .neq (.t 42) (.t 43)⟩, ⟨(some 45), none, .pick (.t 33) (.c (.bool true)) (.t 44)⟩])
(.cond (.t 45)
(.seq
(.reg [⟨(some 4), none, .mov (.c (.bool false))⟩])
.ret)
.skip)))))
(.reg [⟨(some 46), none, .bin .add (.t 12) (.c (.int .i64 1))⟩, ⟨(some 12), none, .mov (.t 46)⟩])))))))
(.seq
(.reg [⟨(some 4), none, .mov (.c (.bool true))⟩])
.ret))))
theorem tr40 : trFn Try.prog Try.f40 = some (47, ir40, [.tmp 4]) := by kernel_rfl

/-- loop.example/g01230/spec.l10Value -/
def ir41 : Cd :=
(.seq
(.reg [⟨(some 4), none, .box 36 (.t 0)⟩, ⟨(some 5), none, .box 32 (.t 1)⟩, ⟨(some 6), none, .box 30 (.t 2)⟩, ⟨(some 7), none, .box 30 (.t 3)⟩, ⟨(some 8), none, .mov (.c (.int .i64 0))⟩])
(.seq
(.reg [⟨(some 9), none, .mov (.c (.int .i64 0))⟩])
(.seq
(.seq
(.reg [⟨(some 10), none, .mov (.c (.int .i64 0))⟩])
(.block 0
(.loop
(.seq
(.seq
(.reg [⟨(some 12), none, .mov (.t 10)⟩, ⟨(some 13), none, .fa 1 (.t 4)⟩, ⟨(some 14), none, .ld none (.t 13)⟩, ⟨(some 15), none, .bin .lss (.t 12) (.t 14)⟩])
(.cond (.t 15)
.skip
(.exit 0)))
(.seq
(.block 1
(.seq
(.reg [⟨(some 11), none, .mov (.c (.int .i64 0))⟩])
(.block 2
(.loop
(.seq
(.seq
(.reg [⟨(some 18), none, .mov (.t 11)⟩, ⟨(some 19), none, .fa 1 (.t 4)⟩, ⟨(some 20), none, .ld none (.t 19)⟩, ⟨(some 21), none, .bin .lss (.t 18) (.t 20)⟩, ⟨(some 22), none, .mov (.t 21)⟩, ⟨(some 23), (some (22, true)), .mov (.t 10)⟩, ⟨(some 24), (some (22, true)), .ia 8 1 (.t 6) (.t 23)⟩, ⟨(some 25), (some (22, true)), .ld none (.t 24)⟩, ⟨(some 26), (some (22, true)), .bin .neq (.t 25) (.c (.int .u8 0))⟩, ⟨(some 27), none, .pick (.t 22) (.t 26) (.c (.bool false))⟩])
(.cond (.t 27)
.skip
(.exit 2)))
(.seq
(.block 3
(.drw true [] [⟨(some 30), none, .mov (.t 9)⟩, ⟨(some 31), none, .mov (.t 10)⟩, ⟨(some 32), none, .ia 8 1 (.t 6) (.t 31)⟩, ⟨(some 33), none, .ld none (.t 32)⟩, ⟨(some 34), none, .cv .i64 (.t 33)⟩, ⟨(some 35), none, .mov (.t 11)⟩, ⟨(some 36), none, .ia 8 1 (.t 7) (.t 35)⟩, ⟨(some 37), none, .ld none (.t 36)⟩, ⟨(some 38), none, .cv .i64 (.t 37)⟩, ⟨(some 39), none, .bin .mul (.t 34) (.t 38)⟩, ⟨(some 40), none, .mov (.t 10)⟩, ⟨(some 41), none, .mov (.t 11)⟩, ⟨(some 42), none, .ia 8 8 (.t 5) (.t 40)⟩, ⟨(some 43), none, .ia 8 1 (.t 42) (.t 41)⟩, ⟨(some 44), none, .ld none (.t 43)⟩, ⟨(some 45), none, .cv .i64 (.t 44)⟩, ⟨(some 46), none, .bin .mul (.t 39) (.t 45)⟩, ⟨(some 47), none, .bin .add (.t 30) (.t 46)⟩, ⟨(some 48), none, .fa 0 (.t 4)⟩, ⟨(some 49), none, .ld none (.t 48)⟩, ⟨(some 50), none, .bin .rem (.t 47) (.t 49)⟩, ⟨(some 9), none, .mov (.t 50)⟩]))
(.reg [⟨(some 28), none, .mov (.t 11)⟩, ⟨(some 29), none, .bin .add (.t 28) (.c (.int .i64 1))⟩, ⟨(some 11), none, .mov (.t 29)⟩])))))))
(.reg [⟨(some 16), none, .mov (.t 10)⟩, ⟨(some 17), none, .bin .add (.t 16) (.c (.int .i64 1))⟩, ⟨(some 10), none, .mov (.t 17)⟩]))))))
(.seq
(.reg [⟨(some 51), none, .mov (.t 9)⟩, ⟨(some 8), none, .mov (.t 51)⟩])
.ret))))
theorem tr41 : trFn Try.prog Try.f41 = some (52, ir41, [.tmp 8]) := by kernel_rfl

/-- loop.example/g01230/impl.first -/
def ir42 : Cd :=
(.seq
(.reg [⟨(some 2), none, .mov (.c (.int .i64 0))⟩])
(.seq
(.seq
(.reg [⟨(some 5), none, .mov (.t 0)⟩, ⟨(some 6), none, .len (.t 5)⟩, ⟨(some 7), none, .mov (.c (.int .i64 0))⟩])
(.block 0
(.loop
(.seq
(.reg [⟨(some 8), none, .bin .lss (.t 7) (.t 6)⟩])
(.seq
(.cond (.t 8)
.skip
(.exit 0))
(.seq
(.block 1
(.seq
(.reg [⟨(some 9), none, .isl 1 (.t 5) (.t 7)⟩, ⟨(some 10), none, .ld none (.t 9)⟩, ⟨(some 4), none, .mov (.t 10)⟩])
(.seq
(.reg [⟨(some 11), none, .mov (.t 4)⟩, ⟨(some 12), none, .bin .neq (.t 11) (.c (.int .i64 0))⟩])
(.cond (.t 12)
(.seq
(.reg [⟨(some 13), none, .mov (.t 4)⟩, ⟨(some 2), none, .mov (.t 13)⟩])
.ret)
.skip))))
(.reg [⟨(some 14), none, .bin .add (.t 7) (.c (.int .i64 1))⟩, ⟨(some 7), none, .mov (.t 14)⟩])))))))
(.seq
(.reg [⟨(some 2), none, .mov (.c (.int .i64 0))⟩])
.ret)))
theorem tr42 : trFn Try.prog Try.f42 = some (15, ir42, [.tmp 2]) := by kernel_rfl

/-- loop.example/g01230/impl.unless -/
def ir43 : Cd :=
(.seq
(.reg [⟨(some 4), none, .mov (.c (.int .i64 0))⟩])
(.seq
(.seq
(.reg [⟨(some 5), none, .mov (.t 0)⟩])
(.cond (.t 5)
(.seq
(.reg [⟨(some 4), none, .mov (.c (.int .i64 0))⟩])
.ret)
.skip))
(.seq
(.reg [⟨(some 6), none, .mov (.t 1)⟩, ⟨(some 4), none, .mov (.t 6)⟩])
.ret)))
theorem tr43 : trFn Try.prog Try.f43 = some (7, ir43, [.tmp 4]) := by kernel_rfl

/-- (*loop.example/g01230/impl.Hopf).field -/
def ir44 : Cd :=
(.seq
(.reg [⟨(some 2), none, .new 75 [(2, (.int .i64 0))]⟩])
(.seq
(.drw true [9] [⟨(some 3), none, .mov (.t 0)⟩, ⟨(some 4), none, .ck (.t 3)⟩, ⟨(some 5), none, .fa 0 (.t 4)⟩, ⟨(some 6), none, .ld none (.t 5)⟩, ⟨(some 7), none, .mov (.t 0)⟩, ⟨(some 8), none, .ck (.t 7)⟩, ⟨(some 9), none, .fa 1 (.t 8)⟩, ⟨(some 10), none, .ld none (.t 9)⟩, ⟨(some 11), none, .build 2 [(2, (.int .i64 0))] [(0, 1, (.t 6)), (1, 1, (.t 10))]⟩, ⟨none, none, .st 2 (.t 2) (.t 11)⟩])
.ret))
theorem tr44 : trFn Try.prog Try.f44 = some (12, ir44, [.cell (some 2) 2]) := by kernel_rfl

/-- (loop.example/g01230/impl.field).paired -/
def ir45 : Cd :=
(.seq
(.reg [⟨(some 4), none, .box 75 (.t 0)⟩, ⟨(some 6), none, .box 30 (.t 2)⟩, ⟨(some 7), none, .box 30 (.t 3)⟩, ⟨(some 8), none, .mov (.c (.int .i64 0))⟩])
(.seq
(.drwo true [6] [0, 1, 2, 3, 5, 4, 6, 7] [⟨(some 9), none, .ld (some 2) (.t 4)⟩, ⟨(some 10), none, .ld (some 2) (.t 4)⟩, ⟨(some 11), none, .mov (.t 1)⟩, ⟨(some 12), none, .ld (some 8) (.t 6)⟩, ⟨(some 13), none, .call 63 [(.t 10), (.t 11), (.t 12)]⟩, ⟨(some 14), none, .ld (some 8) (.t 7)⟩, ⟨(some 15), none, .call 62 [(.t 9), (.t 13), (.t 14)]⟩, ⟨(some 8), none, .mov (.t 15)⟩])
.ret))
theorem tr45 : trFn Try.prog Try.f45 = some (16, ir45, [.tmp 8]) := by kernel_rfl

end Go.Proofs.Ytnkmpelakhhoiaa

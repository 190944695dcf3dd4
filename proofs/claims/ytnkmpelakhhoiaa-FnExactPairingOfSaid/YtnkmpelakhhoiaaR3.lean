/- The short form of each function, and that it is one. -/
import Derived.Test.YtnkmpelakhhoiaaProg
import Derived.Test.YtnkmpelakhhoiaaVI
import Derived.KernelRfl
namespace Go.Proofs.Ytnkmpelakhhoiaa
open Go.V
set_option maxRecDepth 100000

/-- loop.example/g01230/spec.l02Shape -/
def ir116 : Cd :=
(.seq
(.reg [⟨(some 1), none, .box 112 (.t 0)⟩, ⟨(some 2), none, .mov (.c (.bool false))⟩])
(.seq
(.reg [⟨(some 3), none, .fa 0 (.t 1)⟩, ⟨(some 4), none, .ld none (.t 3)⟩, ⟨(some 5), none, .fa 1 (.t 1)⟩, ⟨(some 6), none, .ld none (.t 5)⟩, ⟨(some 7), none, .call 95 [(.t 4), (.t 6)]⟩, ⟨(some 8), none, .mov (.t 7)⟩, ⟨(some 9), (some (8, true)), .fa 0 (.t 1)⟩, ⟨(some 10), (some (8, true)), .ld none (.t 9)⟩, ⟨(some 11), (some (8, true)), .fa 1 (.t 1)⟩, ⟨(some 12), (some (8, true)), .ld none (.t 11)⟩, ⟨(some 13), (some (8, true)), .fa 2 (.t 1)⟩, ⟨(some 14), (some (8, true)), .ld (some 8) (.t 13)⟩, ⟨(some 15), (some (8, true)), .call 27 [(.t 10), (.t 12), (.t 14)]⟩, ⟨(some 16), none, .pick (.t 8) (.t 15) (.c (.bool false))⟩, ⟨(some 17), none, .mov (.t 16)⟩, ⟨(some 18), (some (17, true)), .fa 0 (.t 1)⟩, ⟨(some 19), (some (17, true)), .ld none (.t 18)⟩, ⟨(some 20), (some (17, true)), .fa 1 (.t 1)⟩, ⟨(some 21), (some (17, true)), .ld none (.t 20)⟩, ⟨(some 22), (some (17, true)), .fa 10 (.t 1)⟩, ⟨(some 23), (some (17, true)), .ld (some 512) (.t 22)⟩, ⟨(some 24), (some (17, true)), .call 69 [(.t 19), (.t 21), (.t 23)]⟩, ⟨(some 25), none, .pick (.t 17) (.t 24) (.c (.bool false))⟩, ⟨(some 2), none, .mov (.t 25)⟩])
.ret))
theorem tr116 : trFn Try.prog Try.f116 = some (26, ir116, [.tmp 2]) := by kernel_rfl

/-- loop.example/g01230/spec.l02Fault -/
def ir117 : Cd :=
(.seq
(.reg [⟨(some 1), none, .box 112 (.t 0)⟩, ⟨(some 2), none, .mov (.c .nils)⟩, ⟨(some 3), none, .mov (.c (.bool false))⟩])
(.seq
(.reg [⟨(some 12), none, .fa 1 (.t 1)⟩, ⟨(some 13), none, .ld none (.t 12)⟩, ⟨(some 4), none, .mov (.t 13)⟩])
(.seq
(.seq
(.reg [⟨(some 5), none, .mov (.c (.int .i64 0))⟩])
(.block 0
(.loop
(.seq
(.seq
(.reg [⟨(some 14), none, .mov (.t 5)⟩, ⟨(some 15), none, .mov (.t 4)⟩, ⟨(some 16), none, .mov (.t 4)⟩, ⟨(some 17), none, .bin .mul (.t 15) (.t 16)⟩, ⟨(some 18), none, .mov (.t 4)⟩, ⟨(some 19), none, .bin .mul (.t 17) (.t 18)⟩, ⟨(some 20), none, .mov (.t 4)⟩, ⟨(some 21), none, .bin .mul (.t 19) (.t 20)⟩, ⟨(some 22), none, .bin .lss (.t 14) (.t 21)⟩])
(.cond (.t 22)
.skip
(.exit 0)))
(.seq
(.block 1
(.seq
(.drw true [] [⟨(some 25), none, .mov (.t 5)⟩, ⟨(some 26), none, .mov (.t 4)⟩, ⟨(some 27), none, .mov (.t 4)⟩, ⟨(some 28), none, .bin .mul (.t 26) (.t 27)⟩, ⟨(some 29), none, .mov (.t 4)⟩, ⟨(some 30), none, .bin .mul (.t 28) (.t 29)⟩, ⟨(some 31), none, .bin .quo (.t 25) (.t 30)⟩, ⟨(some 32), none, .mov (.t 5)⟩, ⟨(some 33), none, .mov (.t 4)⟩, ⟨(some 34), none, .mov (.t 4)⟩, ⟨(some 35), none, .bin .mul (.t 33) (.t 34)⟩, ⟨(some 36), none, .bin .quo (.t 32) (.t 35)⟩, ⟨(some 37), none, .mov (.t 4)⟩, ⟨(some 38), none, .bin .rem (.t 36) (.t 37)⟩, ⟨(some 39), none, .mov (.t 5)⟩, ⟨(some 40), none, .mov (.t 4)⟩, ⟨(some 41), none, .bin .quo (.t 39) (.t 40)⟩, ⟨(some 42), none, .mov (.t 4)⟩, ⟨(some 43), none, .bin .rem (.t 41) (.t 42)⟩, ⟨(some 44), none, .mov (.t 5)⟩, ⟨(some 45), none, .mov (.t 4)⟩, ⟨(some 46), none, .bin .rem (.t 44) (.t 45)⟩, ⟨(some 6), none, .mov (.t 31)⟩, ⟨(some 7), none, .mov (.t 38)⟩, ⟨(some 8), none, .mov (.t 43)⟩, ⟨(some 9), none, .mov (.t 46)⟩])
(.seq
(.reg [⟨(some 48), none, .ld (some 522) (.t 1)⟩, ⟨(some 49), none, .mov (.t 6)⟩, ⟨(some 50), none, .mov (.t 7)⟩, ⟨(some 51), none, .mov (.t 8)⟩, ⟨(some 52), none, .mov (.t 9)⟩, ⟨(some 53), none, .call 127 [(.t 48), (.t 49), (.t 50), (.t 51), (.t 52)]⟩, ⟨(some 47), none, .mov (.t 53)⟩, ⟨(some 54), none, .ex (.t 47) 0⟩, ⟨(some 55), none, .ex (.t 47) 1⟩, ⟨(some 10), none, .mov (.t 54)⟩, ⟨(some 11), none, .mov (.t 55)⟩])
(.seq
(.reg [⟨(some 56), none, .mov (.t 10)⟩, ⟨(some 57), none, .mov (.t 11)⟩, ⟨(some 58), none, .bin .neq (.t 56) (.t 57)⟩])
(.cond (.t 58)
(.seq
(.reg [⟨(some 59), none, .mov (.t 6)⟩, ⟨(some 60), none, .mov (.t 7)⟩, ⟨(some 61), none, .mov (.t 8)⟩, ⟨(some 62), none, .mov (.t 9)⟩, ⟨(some 63), none, .bsl 2 4 1 [(1, (.int .i64 0))] [(0, 1, (.t 59)), (1, 1, (.t 60)), (2, 1, (.t 61)), (3, 1, (.t 62))]⟩, ⟨(some 2), none, .mov (.t 63)⟩, ⟨(some 3), none, .mov (.c (.bool true))⟩])
.ret)
.skip)))))
(.reg [⟨(some 23), none, .mov (.t 5)⟩, ⟨(some 24), none, .bin .add (.t 23) (.c (.int .i64 1))⟩, ⟨(some 5), none, .mov (.t 24)⟩]))))))
(.seq
(.reg [⟨(some 2), none, .mov (.c .nils)⟩, ⟨(some 3), none, .mov (.c (.bool false))⟩])
.ret))))
theorem tr117 : trFn Try.prog Try.f117 = some (64, ir117, [.tmp 2, .tmp 3]) := by kernel_rfl

/-- loop.example/g01230/spec.l02Counits -/
def ir118 : Cd :=
(.seq
(.reg [⟨(some 1), none, .box 112 (.t 0)⟩, ⟨(some 2), none, .mov (.c (.bool false))⟩])
(.seq
(.seq
(.reg [⟨(some 3), none, .mov (.c (.int .i64 0))⟩])
(.block 0
(.loop
(.seq
(.seq
(.reg [⟨(some 9), none, .mov (.t 3)⟩, ⟨(some 10), none, .fa 1 (.t 1)⟩, ⟨(some 11), none, .ld none (.t 10)⟩, ⟨(some 12), none, .bin .lss (.t 9) (.t 11)⟩])
(.cond (.t 12)
.skip
(.exit 0)))
(.seq
(.block 1
(.seq
(.reg [⟨(some 15), none, .build 8 [(8, (.int .u8 0))] []⟩, ⟨(some 16), none, .build 8 [(8, (.int .u8 0))] []⟩, ⟨(some 4), none, .new 30 [(8, (.int .u8 0))]⟩, ⟨(some 5), none, .new 30 [(8, (.int .u8 0))]⟩, ⟨none, none, .st 8 (.t 4) (.t 15)⟩, ⟨none, none, .st 8 (.t 5) (.t 16)⟩])
(.seq
(.seq
(.reg [⟨(some 6), none, .mov (.c (.int .i64 0))⟩])
(.block 2
(.loop
(.seq
(.seq
(.reg [⟨(some 17), none, .mov (.t 6)⟩, ⟨(some 18), none, .fa 1 (.t 1)⟩, ⟨(some 19), none, .ld none (.t 18)⟩, ⟨(some 20), none, .bin .lss (.t 17) (.t 19)⟩])
(.cond (.t 20)
.skip
(.exit 2)))
(.seq
(.block 3
(.seq
(.drw true [14, 15] [⟨(some 23), none, .fa 0 (.t 1)⟩, ⟨(some 24), none, .ld none (.t 23)⟩, ⟨(some 25), none, .ld (some 8) (.t 4)⟩, ⟨(some 26), none, .mov (.t 3)⟩, ⟨(some 27), none, .mov (.t 6)⟩, ⟨(some 28), none, .fa 10 (.t 1)⟩, ⟨(some 29), none, .ia 8 64 (.t 28) (.t 26)⟩, ⟨(some 30), none, .ia 8 8 (.t 29) (.t 27)⟩, ⟨(some 31), none, .ld (some 8) (.t 30)⟩, ⟨(some 32), none, .mov (.t 6)⟩, ⟨(some 33), none, .fa 2 (.t 1)⟩, ⟨(some 34), none, .ia 8 1 (.t 33) (.t 32)⟩, ⟨(some 35), none, .ld none (.t 34)⟩, ⟨(some 36), none, .cv .i64 (.t 35)⟩, ⟨(some 37), none, .call 55 [(.t 24), (.t 25), (.t 31), (.t 36)]⟩, ⟨none, none, .st 8 (.t 4) (.t 37)⟩])
(.seq
(.reg [⟨(some 7), none, .mov (.c (.int .i64 0))⟩])
(.seq
(.seq
(.reg [⟨(some 8), none, .mov (.c (.int .i64 0))⟩])
(.block 4
(.loop
(.seq
(.seq
(.reg [⟨(some 38), none, .mov (.t 8)⟩, ⟨(some 39), none, .fa 1 (.t 1)⟩, ⟨(some 40), none, .ld none (.t 39)⟩, ⟨(some 41), none, .bin .lss (.t 38) (.t 40)⟩])
(.cond (.t 41)
.skip
(.exit 4)))
(.seq
(.block 5
(.drw true [] [⟨(some 44), none, .mov (.t 7)⟩, ⟨(some 45), none, .mov (.t 8)⟩, ⟨(some 46), none, .fa 2 (.t 1)⟩, ⟨(some 47), none, .ia 8 1 (.t 46) (.t 45)⟩, ⟨(some 48), none, .ld none (.t 47)⟩, ⟨(some 49), none, .cv .i64 (.t 48)⟩, ⟨(some 50), none, .mov (.t 3)⟩, ⟨(some 51), none, .mov (.t 6)⟩, ⟨(some 52), none, .mov (.t 8)⟩, ⟨(some 53), none, .fa 10 (.t 1)⟩, ⟨(some 54), none, .ia 8 64 (.t 53) (.t 50)⟩, ⟨(some 55), none, .ia 8 8 (.t 54) (.t 51)⟩, ⟨(some 56), none, .ia 8 1 (.t 55) (.t 52)⟩, ⟨(some 57), none, .ld none (.t 56)⟩, ⟨(some 58), none, .cv .i64 (.t 57)⟩, ⟨(some 59), none, .bin .mul (.t 49) (.t 58)⟩, ⟨(some 60), none, .bin .add (.t 44) (.t 59)⟩, ⟨(some 7), none, .mov (.t 60)⟩]))
(.reg [⟨(some 42), none, .mov (.t 8)⟩, ⟨(some 43), none, .bin .add (.t 42) (.c (.int .i64 1))⟩, ⟨(some 8), none, .mov (.t 43)⟩]))))))
(.reg [⟨(some 61), none, .mov (.t 6)⟩, ⟨(some 62), none, .fa 0 (.t 1)⟩, ⟨(some 63), none, .ld none (.t 62)⟩, ⟨(some 64), none, .mov (.t 7)⟩, ⟨(some 65), none, .call 89 [(.t 63), (.t 64)]⟩, ⟨(some 66), none, .ia 8 1 (.t 5) (.t 61)⟩, ⟨none, none, .st 1 (.t 66) (.t 65)⟩])))))
(.reg [⟨(some 21), none, .mov (.t 6)⟩, ⟨(some 22), none, .bin .add (.t 21) (.c (.int .i64 1))⟩, ⟨(some 6), none, .mov (.t 22)⟩]))))))
(.seq
(.drw true [] [⟨(some 67), none, .ld (some 8) (.t 4)⟩, ⟨(some 68), none, .mov (.t 3)⟩, ⟨(some 69), none, .call 59 [(.t 68)]⟩, ⟨(some 70), none, .eqa true 8 (.t 67) (.t 69)⟩, ⟨(some 71), none, .mov (.t 70)⟩, ⟨(some 72), (some (71, false)), .ld (some 8) (.t 5)⟩, ⟨(some 73), (some (71, false)), .mov (.t 3)⟩, ⟨(some 74), (some (71, false)), .call 59 [(.t 73)]⟩, ⟨(some 75), (some (71, false)), .eqa true 8 (.t 72) (.t 74)⟩, ⟨(some 76), none, .pick (.t 71) (.c (.bool true)) (.t 75)⟩])
(.cond (.t 76)
(.seq
(.reg [⟨(some 2), none, .mov (.c (.bool false))⟩])
.ret)
.skip)))))
(.reg [⟨(some 13), none, .mov (.t 3)⟩, ⟨(some 14), none, .bin .add (.t 13) (.c (.int .i64 1))⟩, ⟨(some 3), none, .mov (.t 14)⟩]))))))
(.seq
(.reg [⟨(some 2), none, .mov (.c (.bool true))⟩])
.ret)))
theorem tr118 : trFn Try.prog Try.f118 = some (77, ir118, [.tmp 2]) := by kernel_rfl

/-- (*loop.example/g01230/impl.Algebra).field -/
def ir119 : Cd :=
(.seq
(.reg [⟨(some 2), none, .new 75 [(2, (.int .i64 0))]⟩])
(.seq
(.drw true [9] [⟨(some 3), none, .mov (.t 0)⟩, ⟨(some 4), none, .ck (.t 3)⟩, ⟨(some 5), none, .fa 0 (.t 4)⟩, ⟨(some 6), none, .ld none (.t 5)⟩, ⟨(some 7), none, .mov (.t 0)⟩, ⟨(some 8), none, .ck (.t 7)⟩, ⟨(some 9), none, .fa 1 (.t 8)⟩, ⟨(some 10), none, .ld none (.t 9)⟩, ⟨(some 11), none, .build 2 [(2, (.int .i64 0))] [(0, 1, (.t 6)), (1, 1, (.t 10))]⟩, ⟨none, none, .st 2 (.t 2) (.t 11)⟩])
.ret))
theorem tr119 : trFn Try.prog Try.f119 = some (12, ir119, [.cell (some 2) 2]) := by kernel_rfl

/-- (*loop.example/g01230/impl.Coalgebra).field -/
def ir120 : Cd :=
(.seq
(.reg [⟨(some 2), none, .new 75 [(2, (.int .i64 0))]⟩])
(.seq
(.drw true [9] [⟨(some 3), none, .mov (.t 0)⟩, ⟨(some 4), none, .ck (.t 3)⟩, ⟨(some 5), none, .fa 0 (.t 4)⟩, ⟨(some 6), none, .ld none (.t 5)⟩, ⟨(some 7), none, .mov (.t 0)⟩, ⟨(some 8), none, .ck (.t 7)⟩, ⟨(some 9), none, .fa 1 (.t 8)⟩, ⟨(some 10), none, .ld none (.t 9)⟩, ⟨(some 11), none, .build 2 [(2, (.int .i64 0))] [(0, 1, (.t 6)), (1, 1, (.t 10))]⟩, ⟨none, none, .st 2 (.t 2) (.t 11)⟩])
.ret))
theorem tr120 : trFn Try.prog Try.f120 = some (12, ir120, [.cell (some 2) 2]) := by kernel_rfl

/-- (*loop.example/g01230/impl.Coalgebra).isFault -/
def ir121 : Cd :=
(.seq
(.reg [⟨(some 10), none, .mov (.c (.bool false))⟩])
(.seq
(.reg [⟨(some 15), none, .mov (.t 0)⟩, ⟨(some 16), none, .call 120 [(.t 15)]⟩, ⟨(some 11), none, .new 75 [(2, (.int .i64 0))]⟩, ⟨none, none, .st 2 (.t 11) (.t 16)⟩, ⟨(some 12), none, .mov (.c (.int .i64 0))⟩, ⟨(some 13), none, .mov (.c (.int .i64 0))⟩])
(.seq
(.seq
(.reg [⟨(some 17), none, .fa 1 (.t 11)⟩, ⟨(some 18), none, .ld none (.t 17)⟩, ⟨(some 19), none, .mov (.c (.int .i64 0))⟩])
(.block 0
(.loop
(.seq
(.reg [⟨(some 20), none, .bin .lss (.t 19) (.t 18)⟩])
(.seq
(.cond (.t 20)
.skip
(.exit 0))
(.seq
(.block 1
(.seq
(.reg [⟨(some 21), none, .mov (.t 19)⟩, ⟨(some 14), none, .mov (.t 21)⟩])
(.seq
(.drw true [] [⟨(some 22), none, .mov (.t 12)⟩, ⟨(some 23), none, .mov (.t 0)⟩, ⟨(some 24), none, .mov (.t 1)⟩, ⟨(some 25), none, .mov (.t 14)⟩, ⟨(some 26), none, .mov (.t 4)⟩, ⟨(some 27), none, .ck (.t 23)⟩, ⟨(some 28), none, .fa 10 (.t 27)⟩, ⟨(some 29), none, .ia 8 64 (.t 28) (.t 24)⟩, ⟨(some 30), none, .ia 8 8 (.t 29) (.t 25)⟩, ⟨(some 31), none, .ia 8 1 (.t 30) (.t 26)⟩, ⟨(some 32), none, .ld none (.t 31)⟩, ⟨(some 33), none, .cv .i64 (.t 32)⟩, ⟨(some 34), none, .mov (.t 0)⟩, ⟨(some 35), none, .mov (.t 14)⟩, ⟨(some 36), none, .mov (.t 2)⟩, ⟨(some 37), none, .mov (.t 3)⟩, ⟨(some 38), none, .ck (.t 34)⟩, ⟨(some 39), none, .fa 10 (.t 38)⟩, ⟨(some 40), none, .ia 8 64 (.t 39) (.t 35)⟩, ⟨(some 41), none, .ia 8 8 (.t 40) (.t 36)⟩, ⟨(some 42), none, .ia 8 1 (.t 41) (.t 37)⟩, ⟨(some 43), none, .ld none (.t 42)⟩, ⟨(some 44), none, .cv .i64 (.t 43)⟩, ⟨(some 45), none, .bin .mul (.t 33) (.t 44)⟩, ⟨(some 46), none, .bin .add (.t 22) (.t 45)⟩, ⟨(some 12), none, .mov (.t 46)⟩])
(.drw true [] [⟨(some 47), none, .mov (.t 13)⟩, ⟨(some 48), none, .mov (.t 0)⟩, ⟨(some 49), none, .mov (.t 1)⟩, ⟨(some 50), none, .mov (.t 2)⟩, ⟨(some 51), none, .mov (.t 14)⟩, ⟨(some 52), none, .ck (.t 48)⟩, ⟨(some 53), none, .fa 10 (.t 52)⟩, ⟨(some 54), none, .ia 8 64 (.t 53) (.t 49)⟩, ⟨(some 55), none, .ia 8 8 (.t 54) (.t 50)⟩, ⟨(some 56), none, .ia 8 1 (.t 55) (.t 51)⟩, ⟨(some 57), none, .ld none (.t 56)⟩, ⟨(some 58), none, .cv .i64 (.t 57)⟩, ⟨(some 59), none, .mov (.t 0)⟩, ⟨(some 60), none, .mov (.t 14)⟩, ⟨(some 61), none, .mov (.t 3)⟩, ⟨(some 62), none, .mov (.t 4)⟩, ⟨(some 63), none, .ck (.t 59)⟩, ⟨(some 64), none, .fa 10 (.t 63)⟩, ⟨(some 65), none, .ia 8 64 (.t 64) (.t 60)⟩, ⟨(some 66), none, .ia 8 8 (.t 65) (.t 61)⟩, ⟨(some 67), none, .ia 8 1 (.t 66) (.t 62)⟩, ⟨(some 68), none, .ld none (.t 67)⟩, ⟨(some 69), none, .cv .i64 (.t 68)⟩, ⟨(some 70), none, .bin .mul (.t 58) (.t 69)⟩, ⟨(some 71), none, .bin .add (.t 47) (.t 70)⟩, ⟨(some 13), none, .mov (.t 71)⟩]))))
(.reg [⟨(some 72), none, .bin .add (.t 19) (.c (.int .i64 1))⟩, ⟨(some 19), none, .mov (.t 72)⟩])))))))
(.seq
(.drw true [] [⟨(some 73), none, .mov (.t 12)⟩, ⟨(some 74), none, .fa 0 (.t 11)⟩, ⟨(some 75), none, .ld none (.t 74)⟩, ⟨(some 76), none, .bin .rem (.t 73) (.t 75)⟩, ⟨(some 77), none, .mov (.t 13)⟩, ⟨(some 78), none, .fa 0 (.t 11)⟩, ⟨(some 79), none, .ld none (.t 78)⟩, ⟨(some 80), none, .bin .rem (.t 77) (.t 79)⟩, ⟨(some 81), none, .bin .neq (.t 76) (.t 80)⟩, ⟨(some 10), none, .mov (.t 81)⟩])
.ret))))
theorem tr121 : trFn Try.prog Try.f121 = some (82, ir121, [.tmp 10]) := by kernel_rfl

/-- (*loop.example/g01230/impl.Hopf).tensor$1 -/
def ir122 : Cd :=
(.seq
(.reg [⟨(some 7), none, .box 3 (.t 0)⟩, ⟨(some 8), none, .box 3 (.t 1)⟩, ⟨(some 9), none, .box 3 (.t 2)⟩])
(.reg [⟨(some 10), none, .ld none (.t 3)⟩, ⟨(some 11), none, .mkf 123 [] [(.t 4), (.t 7), (.t 5), (.t 6), (.t 9), (.t 8)]⟩, ⟨(some 12), none, .call 92 [(.t 10), (.t 11)]⟩]))
theorem tr122 : trFn Try.prog Try.f122 = some (13, ir122, []) := by kernel_rfl

/-- (*loop.example/g01230/impl.Hopf).tensor$1$1 -/
def ir123 : Cd :=
(.seq
(.drw true [] [⟨(some 14), none, .ld none (.t 3)⟩, ⟨(some 15), none, .ld none (.t 4)⟩, ⟨(some 16), none, .mov (.t 0)⟩, ⟨(some 17), none, .ck (.t 14)⟩, ⟨(some 18), none, .fa 10 (.t 17)⟩, ⟨(some 19), none, .ia 8 64 (.t 18) (.t 15)⟩, ⟨(some 20), none, .ia 8 8 (.t 19) (.t 16)⟩, ⟨(some 21), none, .ld (some 8) (.t 20)⟩, ⟨(some 22), none, .mov (.c (.int .i64 0))⟩])
(.block 0
(.loop
(.seq
(.reg [⟨(some 23), none, .bin .lss (.t 22) (.c (.int .i64 8))⟩])
(.seq
(.cond (.t 23)
.skip
(.exit 0))
(.seq
(.block 1
(.seq
(.reg [⟨(some 24), none, .mov (.t 22)⟩, ⟨(some 25), none, .ix 8 1 none (.t 21) (.t 22)⟩, ⟨(some 12), none, .mov (.t 24)⟩, ⟨(some 13), none, .mov (.t 25)⟩])
(.drw true [20] [⟨(some 26), none, .ld (some 2) (.t 5)⟩, ⟨(some 27), none, .mov (.t 12)⟩, ⟨(some 28), none, .ia 8 8 (.t 6) (.t 27)⟩, ⟨(some 29), none, .ld none (.t 7)⟩, ⟨(some 30), none, .mov (.t 2)⟩, ⟨(some 31), none, .bin .mul (.t 29) (.t 30)⟩, ⟨(some 32), none, .fa 0 (.t 5)⟩, ⟨(some 33), none, .ld none (.t 32)⟩, ⟨(some 34), none, .bin .rem (.t 31) (.t 33)⟩, ⟨(some 35), none, .mov (.t 13)⟩, ⟨(some 36), none, .cv .i64 (.t 35)⟩, ⟨(some 37), none, .bin .mul (.t 34) (.t 36)⟩, ⟨(some 38), none, .ld none (.t 3)⟩, ⟨(some 39), none, .ld none (.t 8)⟩, ⟨(some 40), none, .mov (.t 1)⟩, ⟨(some 41), none, .ck (.t 38)⟩, ⟨(some 42), none, .fa 10 (.t 41)⟩, ⟨(some 43), none, .ia 8 64 (.t 42) (.t 39)⟩, ⟨(some 44), none, .ia 8 8 (.t 43) (.t 40)⟩, ⟨(some 45), none, .ld (some 8) (.t 44)⟩, ⟨(some 46), none, .call 91 [(.t 26), (.t 28), (.t 37), (.t 45)]⟩])))
(.reg [⟨(some 47), none, .bin .add (.t 22) (.c (.int .i64 1))⟩, ⟨(some 22), none, .mov (.t 47)⟩])))))))
theorem tr123 : trFn Try.prog Try.f123 = some (48, ir123, []) := by kernel_rfl

/-- (*loop.example/g01230/impl.Hopf).folded$1 -/
def ir124 : Cd :=
(.seq
(.reg [⟨(some 10), none, .ld none (.t 3)⟩])
(.cond (.t 10)
(.drwo true [12] [0, 1, 2, 3, 4, 5, 6, 7, 8, 9, 10, 11, 12] [⟨(some 11), none, .ld (some 2) (.t 4)⟩, ⟨(some 12), none, .mov (.t 2)⟩, ⟨(some 13), none, .ld none (.t 6)⟩, ⟨(some 14), none, .ld none (.t 6)⟩, ⟨(some 15), none, .mov (.t 0)⟩, ⟨(some 16), none, .ck (.t 14)⟩, ⟨(some 17), none, .fa 1042 (.t 16)⟩, ⟨(some 18), none, .ia 8 8 (.t 17) (.t 15)⟩, ⟨(some 19), none, .ld (some 8) (.t 18)⟩, ⟨(some 20), none, .mov (.t 1)⟩, ⟨(some 21), none, .call 61 [(.t 20)]⟩, ⟨(some 22), none, .call 125 [(.t 13), (.t 19), (.t 21)]⟩, ⟨(some 23), none, .call 91 [(.t 11), (.t 5), (.t 12), (.t 22)]⟩])
(.drwo true [12] [0, 1, 2, 3, 5, 6, 7, 8, 9, 10, 4, 11, 12] [⟨(some 24), none, .ld (some 2) (.t 4)⟩, ⟨(some 25), none, .mov (.t 2)⟩, ⟨(some 26), none, .ld none (.t 6)⟩, ⟨(some 27), none, .mov (.t 0)⟩, ⟨(some 28), none, .call 61 [(.t 27)]⟩, ⟨(some 29), none, .ld none (.t 6)⟩, ⟨(some 30), none, .mov (.t 1)⟩, ⟨(some 31), none, .ck (.t 29)⟩, ⟨(some 32), none, .fa 1042 (.t 31)⟩, ⟨(some 33), none, .ia 8 8 (.t 32) (.t 30)⟩, ⟨(some 34), none, .ld (some 8) (.t 33)⟩, ⟨(some 35), none, .call 125 [(.t 26), (.t 28), (.t 34)]⟩, ⟨(some 36), none, .call 91 [(.t 24), (.t 5), (.t 25), (.t 35)]⟩])))
theorem tr124 : trFn Try.prog Try.f124 = some (37, ir124, []) := by kernel_rfl

/-- (*loop.example/g01230/impl.Hopf).product -/
def ir125 : Cd :=
(.seq
(.reg [⟨(some 4), none, .box 30 (.t 1)⟩, ⟨(some 5), none, .box 30 (.t 2)⟩, ⟨(some 6), none, .new 30 [(8, (.int .u8 0))]⟩])
(.seq
(.reg [⟨(some 11), none, .mov (.t 0)⟩, ⟨(some 12), none, .call 44 [(.t 11)]⟩, ⟨(some 13), none, .build 8 [(8, (.int .u8 0))] []⟩, ⟨(some 7), none, .new 75 [(2, (.int .i64 0))]⟩, ⟨(some 8), none, .new 30 [(8, (.int .u8 0))]⟩, ⟨none, none, .st 2 (.t 7) (.t 12)⟩, ⟨none, none, .st 8 (.t 8) (.t 13)⟩])
(.seq
(.seq
(.reg [⟨(some 14), none, .fa 1 (.t 7)⟩, ⟨(some 15), none, .ld none (.t 14)⟩, ⟨(some 16), none, .mov (.c (.int .i64 0))⟩])
(.block 0
(.loop
(.seq
(.reg [⟨(some 17), none, .bin .lss (.t 16) (.t 15)⟩])
(.seq
(.cond (.t 17)
.skip
(.exit 0))
(.seq
(.block 1
(.seq
(.reg [⟨(some 18), none, .mov (.t 16)⟩, ⟨(some 9), none, .mov (.t 18)⟩])
(.seq
(.seq
(.reg [⟨(some 19), none, .mov (.t 9)⟩, ⟨(some 20), none, .ia 8 1 (.t 4) (.t 19)⟩, ⟨(some 21), none, .ld none (.t 20)⟩, ⟨(some 22), none, .bin .eql (.t 21) (.c (.int .u8 0))⟩])
(.cond (.t 22)
(.exit 1)
.skip))
(.seq
(.reg [⟨(some 23), none, .fa 1 (.t 7)⟩, ⟨(some 24), none, .ld none (.t 23)⟩, ⟨(some 25), none, .mov (.c (.int .i64 0))⟩])
(.block 2
(.loop
(.seq
(.reg [⟨(some 26), none, .bin .lss (.t 25) (.t 24)⟩])
(.seq
(.cond (.t 26)
.skip
(.exit 2))
(.seq
(.block 3
(.seq
(.reg [⟨(some 27), none, .mov (.t 25)⟩, ⟨(some 10), none, .mov (.t 27)⟩])
(.drw true [18] [⟨(some 28), none, .ld (some 2) (.t 7)⟩, ⟨(some 29), none, .mov (.t 9)⟩, ⟨(some 30), none, .ia 8 1 (.t 4) (.t 29)⟩, ⟨(some 31), none, .ld none (.t 30)⟩, ⟨(some 32), none, .cv .i64 (.t 31)⟩, ⟨(some 33), none, .mov (.t 10)⟩, ⟨(some 34), none, .ia 8 1 (.t 5) (.t 33)⟩, ⟨(some 35), none, .ld none (.t 34)⟩, ⟨(some 36), none, .cv .i64 (.t 35)⟩, ⟨(some 37), none, .bin .mul (.t 32) (.t 36)⟩, ⟨(some 38), none, .mov (.t 0)⟩, ⟨(some 39), none, .mov (.t 9)⟩, ⟨(some 40), none, .mov (.t 10)⟩, ⟨(some 41), none, .ck (.t 38)⟩, ⟨(some 42), none, .fa 10 (.t 41)⟩, ⟨(some 43), none, .ia 8 64 (.t 42) (.t 39)⟩, ⟨(some 44), none, .ia 8 8 (.t 43) (.t 40)⟩, ⟨(some 45), none, .ld (some 8) (.t 44)⟩, ⟨(some 46), none, .call 91 [(.t 28), (.t 8), (.t 37), (.t 45)]⟩])))
(.reg [⟨(some 47), none, .bin .add (.t 25) (.c (.int .i64 1))⟩, ⟨(some 25), none, .mov (.t 47)⟩]))))))))))
(.reg [⟨(some 48), none, .bin .add (.t 16) (.c (.int .i64 1))⟩, ⟨(some 16), none, .mov (.t 48)⟩])))))))
(.seq
(.reg [⟨(some 49), none, .ld (some 8) (.t 8)⟩, ⟨none, none, .st 8 (.t 6) (.t 49)⟩])
.ret))))
theorem tr125 : trFn Try.prog Try.f125 = some (50, ir125, [.cell (some 8) 6]) := by kernel_rfl

/-- loop.example/g01230/spec.l01Apply -/
def ir126 : Cd :=
(.seq
(.reg [⟨(some 6), none, .box 32 (.t 2)⟩, ⟨(some 7), none, .box 30 (.t 3)⟩, ⟨(some 8), none, .new 30 [(8, (.int .u8 0))]⟩])
(.seq
(.reg [⟨(some 11), none, .build 8 [(8, (.int .u8 0))] []⟩, ⟨(some 9), none, .new 30 [(8, (.int .u8 0))]⟩, ⟨none, none, .st 8 (.t 9) (.t 11)⟩])
(.seq
(.seq
(.reg [⟨(some 10), none, .mov (.c (.int .i64 0))⟩])
(.block 0
(.loop
(.seq
(.seq
(.reg [⟨(some 12), none, .mov (.t 10)⟩, ⟨(some 13), none, .mov (.t 1)⟩, ⟨(some 14), none, .bin .lss (.t 12) (.t 13)⟩])
(.cond (.t 14)
.skip
(.exit 0)))
(.seq
(.block 1
(.seq
(.reg [⟨(some 17), none, .mov (.t 10)⟩, ⟨(some 18), none, .ia 8 1 (.t 7) (.t 17)⟩, ⟨(some 19), none, .ld none (.t 18)⟩, ⟨(some 20), none, .bin .neq (.t 19) (.c (.int .u8 0))⟩])
(.cond (.t 20)
(.drw true [9, 10] [⟨(some 21), none, .mov (.t 0)⟩, ⟨(some 22), none, .ld (some 8) (.t 9)⟩, ⟨(some 23), none, .mov (.t 10)⟩, ⟨(some 24), none, .ia 8 8 (.t 6) (.t 23)⟩, ⟨(some 25), none, .ld (some 8) (.t 24)⟩, ⟨(some 26), none, .mov (.t 10)⟩, ⟨(some 27), none, .ia 8 1 (.t 7) (.t 26)⟩, ⟨(some 28), none, .ld none (.t 27)⟩, ⟨(some 29), none, .cv .i64 (.t 28)⟩, ⟨(some 30), none, .call 55 [(.t 21), (.t 22), (.t 25), (.t 29)]⟩, ⟨none, none, .st 8 (.t 9) (.t 30)⟩])
.skip)))
(.reg [⟨(some 15), none, .mov (.t 10)⟩, ⟨(some 16), none, .bin .add (.t 15) (.c (.int .i64 1))⟩, ⟨(some 10), none, .mov (.t 16)⟩]))))))
(.seq
(.reg [⟨(some 31), none, .ld (some 8) (.t 9)⟩, ⟨none, none, .st 8 (.t 8) (.t 31)⟩])
.ret))))
theorem tr126 : trFn Try.prog Try.f126 = some (32, ir126, [.cell (some 8) 8]) := by kernel_rfl

/-- loop.example/g01230/spec.l02Sums -/
def ir127 : Cd :=
(.seq
(.reg [⟨(some 5), none, .box 112 (.t 0)⟩, ⟨(some 10), none, .mov (.c (.int .u8 0))⟩, ⟨(some 11), none, .mov (.c (.int .u8 0))⟩])
(.seq
(.reg [⟨(some 12), none, .mov (.c (.int .i64 0))⟩, ⟨(some 13), none, .mov (.c (.int .i64 0))⟩])
(.seq
(.seq
(.reg [⟨(some 14), none, .mov (.c (.int .i64 0))⟩])
(.block 0
(.loop
(.seq
(.seq
(.reg [⟨(some 15), none, .mov (.t 14)⟩, ⟨(some 16), none, .fa 1 (.t 5)⟩, ⟨(some 17), none, .ld none (.t 16)⟩, ⟨(some 18), none, .bin .lss (.t 15) (.t 17)⟩])
(.cond (.t 18)
.skip
(.exit 0)))
(.seq
(.block 1
(.seq
(.drw true [] [⟨(some 21), none, .mov (.t 12)⟩, ⟨(some 22), none, .mov (.t 1)⟩, ⟨(some 23), none, .mov (.t 14)⟩, ⟨(some 24), none, .mov (.t 4)⟩, ⟨(some 25), none, .fa 10 (.t 5)⟩, ⟨(some 26), none, .ia 8 64 (.t 25) (.t 22)⟩, ⟨(some 27), none, .ia 8 8 (.t 26) (.t 23)⟩, ⟨(some 28), none, .ia 8 1 (.t 27) (.t 24)⟩, ⟨(some 29), none, .ld none (.t 28)⟩, ⟨(some 30), none, .cv .i64 (.t 29)⟩, ⟨(some 31), none, .mov (.t 14)⟩, ⟨(some 32), none, .mov (.t 2)⟩, ⟨(some 33), none, .mov (.t 3)⟩, ⟨(some 34), none, .fa 10 (.t 5)⟩, ⟨(some 35), none, .ia 8 64 (.t 34) (.t 31)⟩, ⟨(some 36), none, .ia 8 8 (.t 35) (.t 32)⟩, ⟨(some 37), none, .ia 8 1 (.t 36) (.t 33)⟩, ⟨(some 38), none, .ld none (.t 37)⟩, ⟨(some 39), none, .cv .i64 (.t 38)⟩, ⟨(some 40), none, .bin .mul (.t 30) (.t 39)⟩, ⟨(some 41), none, .bin .add (.t 21) (.t 40)⟩, ⟨(some 12), none, .mov (.t 41)⟩])
(.drw true [] [⟨(some 42), none, .mov (.t 13)⟩, ⟨(some 43), none, .mov (.t 1)⟩, ⟨(some 44), none, .mov (.t 2)⟩, ⟨(some 45), none, .mov (.t 14)⟩, ⟨(some 46), none, .fa 10 (.t 5)⟩, ⟨(some 47), none, .ia 8 64 (.t 46) (.t 43)⟩, ⟨(some 48), none, .ia 8 8 (.t 47) (.t 44)⟩, ⟨(some 49), none, .ia 8 1 (.t 48) (.t 45)⟩, ⟨(some 50), none, .ld none (.t 49)⟩, ⟨(some 51), none, .cv .i64 (.t 50)⟩, ⟨(some 52), none, .mov (.t 14)⟩, ⟨(some 53), none, .mov (.t 3)⟩, ⟨(some 54), none, .mov (.t 4)⟩, ⟨(some 55), none, .fa 10 (.t 5)⟩, ⟨(some 56), none, .ia 8 64 (.t 55) (.t 52)⟩, ⟨(some 57), none, .ia 8 8 (.t 56) (.t 53)⟩, ⟨(some 58), none, .ia 8 1 (.t 57) (.t 54)⟩, ⟨(some 59), none, .ld none (.t 58)⟩, ⟨(some 60), none, .cv .i64 (.t 59)⟩, ⟨(some 61), none, .bin .mul (.t 51) (.t 60)⟩, ⟨(some 62), none, .bin .add (.t 42) (.t 61)⟩, ⟨(some 13), none, .mov (.t 62)⟩])))
(.reg [⟨(some 19), none, .mov (.t 14)⟩, ⟨(some 20), none, .bin .add (.t 19) (.c (.int .i64 1))⟩, ⟨(some 14), none, .mov (.t 20)⟩]))))))
(.seq
(.drw true [7] [⟨(some 63), none, .fa 0 (.t 5)⟩, ⟨(some 64), none, .ld none (.t 63)⟩, ⟨(some 65), none, .mov (.t 12)⟩, ⟨(some 66), none, .call 89 [(.t 64), (.t 65)]⟩, ⟨(some 67), none, .fa 0 (.t 5)⟩, ⟨(some 68), none, .ld none (.t 67)⟩, ⟨(some 69), none, .mov (.t 13)⟩, ⟨(some 70), none, .call 89 [(.t 68), (.t 69)]⟩, ⟨(some 10), none, .mov (.t 66)⟩, ⟨(some 11), none, .mov (.t 70)⟩])
.ret))))
theorem tr127 : trFn Try.prog Try.f127 = some (71, ir127, [.tmp 10, .tmp 11]) := by kernel_rfl

end Go.Proofs.Ytnkmpelakhhoiaa

/- The walk of the law FnVectors. -/
import Derived.Test.YtgnphaopeplfbaaGreatDoorJbb
import Derived.Test.YtgnphaopeplfbaaGreatDoorJbc
import Derived.Test.YtgnphaopeplfbaaGreatDoorJbd
set_option linter.unusedSectionVars false
set_option linter.unusedVariables false
set_option linter.unusedSimpArgs false

namespace Go.V

variable [BW]

section

variable {P : Program} {N m : Nat} {e : Env} {H : Hp} {n : Nat} {Q : Ex → Env → Hp → Nat → Prop} {c : Cd}

/-- What is behind a piece of code is said before its branches are walked. -/
theorem CS.join {J K : Env → Hp → Nat → Prop} (h1 : CS P N m c e H n (Ex.then J Q)) (h2 : ∀ e' H' n', n ≤ n' → J e' H' n' → K e' H' n') : CS P N m c e H n (Ex.then K Q) :=
  h1.mono fun x e' H' n' hn hx => by
    cases x with
    | normal => exact h2 e' H' n' hn hx
    | exit id => exact hx
    | ret => exact hx

theorem Drops.less {m2 : Nat} {H1 : Hp} (h : Drops m2 H H1) (hm : m ≤ m2) : Drops m H H1 := fun b => by
  rcases h b with ⟨h1, h2⟩ | h1
  · exact .inl ⟨h1, h2.imp id (fun q => by omega)⟩
  · exact .inr h1

theorem Drops.push1 {n4 b : Nat} {H0 HB : Hp} {k : Blk} {c : Nat → SV} (g : HB.get b = some k) (fr : ∀ x, n4 ≤ x → H0.get x = none) (low : ∀ y, y < n4 → HB.get y = H0.get y) (mn : m ≤ n4) {z : Nat} {t : TypeId} (hz : k.size = z) (ht : k.ty = t) (hc : ∀ q, q < z → k.c q = c q) : Drops m HB ((b, ⟨z, c, t⟩) :: H0) := by
  intro y
  by_cases e : b = y
  · subst e; exact .inr ⟨k, _, g, Hp.get_eq _ _ _, hz, ht, fun q hq => hc q (by omega)⟩
  · rw [Hp.get_ne _ _ e]
    by_cases e2 : y < n4
    · have := low y e2
      cases hy : H0.get y with
      | none => rw [hy] at this; exact .inl ⟨rfl, .inl this⟩
      | some k2 => rw [hy] at this; exact .inr ⟨k2, k2, this, rfl, rfl, rfl, fun _ _ => rfl⟩
    · exact .inl ⟨fr y (by omega), .inr (by omega)⟩

end

end Go.V

namespace Go.Proofs.YtgnphaopeplfbaaGreatDoor

open Go.V

variable [BW]

set_option linter.unusedSimpArgs false

set_option linter.unusedVariables false

set_option maxHeartbeats 4000000

/-- laws.FnVectors -/
def ir3 : Cd := (.seq (.reg [⟨some 2,none,.mov (.c (.bool false))⟩]) (.seq (.seq (.reg [⟨some 53,none,.mov (.t 0)⟩,⟨some 54,none,.call 4 [(.t 53)]⟩]) (.cond (.t 54) (.seq (.reg [⟨some 2,none,.mov (.c (.bool true))⟩]) .ret) .skip)) (.seq (.reg [⟨some 56,none,.mov (.t 0)⟩,⟨some 57,none,.call 5 [(.t 56)]⟩,⟨some 55,none,.mov (.t 57)⟩,⟨some 58,none,.ex (.t 55) 0⟩,⟨some 59,none,.ex (.t 55) 1⟩,⟨some 60,none,.ex (.t 55) 2⟩,⟨some 3,none,.new 31 [(2,(.int .i64 0)),(520,(.int .u8 0))]⟩,⟨some 4,none,.new 25 [(8,(.int .u8 0))]⟩,⟨some 5,none,.new 25 [(8,(.int .u8 0))]⟩,⟨none,none,.st 522 (.t 3) (.t 58)⟩,⟨none,none,.st 8 (.t 4) (.t 59)⟩,⟨none,none,.st 8 (.t 5) (.t 60)⟩]) (.seq (.reg [⟨some 62,none,.ld (some 522) (.t 3)⟩,⟨some 63,none,.ld (some 8) (.t 4)⟩,⟨some 64,none,.ld (some 8) (.t 5)⟩,⟨some 65,none,.call 6 [(.t 62),(.t 63),(.t 64)]⟩,⟨some 61,none,.mov (.t 65)⟩,⟨some 66,none,.ex (.t 61) 0⟩,⟨some 67,none,.ex (.t 61) 1⟩,⟨some 6,none,.new 25 [(8,(.int .u8 0))]⟩,⟨none,none,.st 8 (.t 6) (.t 66)⟩,⟨some 7,none,.mov (.t 67)⟩]) (.seq (.reg [⟨some 69,none,.ld (some 522) (.t 3)⟩,⟨some 70,none,.ld (some 8) (.t 4)⟩,⟨some 71,none,.ld (some 8) (.t 5)⟩,⟨some 72,none,.call 7 [(.t 69),(.t 70),(.t 71)]⟩,⟨some 68,none,.mov (.t 72)⟩,⟨some 73,none,.ex (.t 68) 0⟩,⟨some 74,none,.ex (.t 68) 1⟩,⟨some 8,none,.new 25 [(8,(.int .u8 0))]⟩,⟨none,none,.st 8 (.t 8) (.t 73)⟩,⟨some 9,none,.mov (.t 74)⟩]) (.seq (.seq (.reg [⟨some 75,none,.mov (.t 9)⟩,⟨some 76,none,.mov (.t 7)⟩,⟨some 77,none,.bin .neq (.t 75) (.t 76)⟩,⟨some 78,none,.mov (.t 77)⟩,⟨some 79,(some (78,false)),.ld (some 8) (.t 8)⟩,⟨some 80,(some (78,false)),.ld (some 8) (.t 6)⟩,⟨some 81,(some (78,false)),.eqa true 8 (.t 79) (.t 80)⟩,⟨some 82,none,.pick (.t 78) (.c (.bool true)) (.t 81)⟩]) (.cond (.t 82) (.seq (.reg [⟨some 2,none,.mov (.c (.bool false))⟩]) .ret) .skip)) (.seq (.seq (.reg [⟨some 83,none,.mov (.t 9)⟩,⟨some 84,none,.bin .eql (.t 83) (.c (.int .i64 0))⟩]) (.cond (.t 84) (.seq (.drwn (.seg 0 (.seg 2 (.seg 3 (.seg 4 (.seg 5 (.fork (.seg 1 (.fork (.seg 6 (.seg 7 (.seg 8 .done))) (.seg 7 (.seg 6 (.seg 8 .done))))) (.seg 7 (.seg 1 (.seg 6 (.seg 8 .done)))))))))) [⟨some 85,none,.mov (.t 0)⟩,⟨some 86,none,.call 9 [(.t 85),(.c (.int .u64 9801))]⟩,⟨some 87,none,.fa 0 (.t 3)⟩,⟨some 88,none,.ld none (.t 87)⟩,⟨some 89,none,.fa 1 (.t 3)⟩,⟨some 90,none,.ld none (.t 89)⟩,⟨some 91,none,.call 8 [(.t 86),(.t 88),(.t 90)]⟩,⟨some 10,none,.new 25 [(8,(.int .u8 0))]⟩,⟨none,none,.st 8 (.t 10) (.t 91)⟩]) (.seq (.reg [⟨some 93,none,.ld (some 522) (.t 3)⟩,⟨some 94,none,.ld (some 8) (.t 8)⟩,⟨some 95,none,.ld (some 8) (.t 10)⟩,⟨some 96,none,.call 7 [(.t 93),(.t 94),(.t 95)]⟩,⟨some 92,none,.mov (.t 96)⟩,⟨some 97,none,.ex (.t 92) 0⟩,⟨some 98,none,.ex (.t 92) 1⟩,⟨some 11,none,.new 25 [(8,(.int .u8 0))]⟩,⟨none,none,.st 8 (.t 11) (.t 97)⟩,⟨some 12,none,.mov (.t 98)⟩]) (.seq (.reg [⟨some 100,none,.ld (some 522) (.t 3)⟩,⟨some 101,none,.ld (some 8) (.t 5)⟩,⟨some 102,none,.ld (some 8) (.t 10)⟩,⟨some 103,none,.call 7 [(.t 100),(.t 101),(.t 102)]⟩,⟨some 99,none,.mov (.t 103)⟩,⟨some 104,none,.ex (.t 99) 0⟩,⟨some 105,none,.ex (.t 99) 1⟩,⟨some 13,none,.new 25 [(8,(.int .u8 0))]⟩,⟨none,none,.st 8 (.t 13) (.t 104)⟩,⟨some 14,none,.mov (.t 105)⟩]) (.seq (.reg [⟨some 107,none,.ld (some 522) (.t 3)⟩,⟨some 108,none,.ld (some 8) (.t 4)⟩,⟨some 109,none,.ld (some 8) (.t 13)⟩,⟨some 110,none,.call 7 [(.t 107),(.t 108),(.t 109)]⟩,⟨some 106,none,.mov (.t 110)⟩,⟨some 111,none,.ex (.t 106) 0⟩,⟨some 112,none,.ex (.t 106) 1⟩,⟨some 15,none,.new 25 [(8,(.int .u8 0))]⟩,⟨none,none,.st 8 (.t 15) (.t 111)⟩,⟨some 16,none,.mov (.t 112)⟩]) (.seq (.reg [⟨some 114,none,.ld (some 522) (.t 3)⟩,⟨some 115,none,.ld (some 8) (.t 4)⟩,⟨some 116,none,.call 10 [(.t 114),(.t 115)]⟩,⟨some 113,none,.mov (.t 116)⟩,⟨some 117,none,.ex (.t 113) 0⟩,⟨some 118,none,.ex (.t 113) 1⟩,⟨some 17,none,.new 27 [(64,(.int .u8 0))]⟩,⟨none,none,.st 64 (.t 17) (.t 117)⟩,⟨some 18,none,.mov (.t 118)⟩]) (.seq (.seq (.reg [⟨some 119,none,.mov (.t 12)⟩,⟨some 120,none,.bin .neq (.t 119) (.c (.int .i64 0))⟩,⟨some 121,none,.mov (.t 120)⟩,⟨some 122,(some (121,false)),.mov (.t 14)⟩,⟨some 123,(some (121,false)),.bin .neq (.t 122) (.c (.int .i64 0))⟩,⟨some 124,none,.pick (.t 121) (.c (.bool true)) (.t 123)⟩,⟨some 125,none,.mov (.t 124)⟩,⟨some 126,(some (125,false)),.mov (.t 16)⟩,⟨some 127,(some (125,false)),.bin .neq (.t 126) (.c (.int .i64 0))⟩,⟨some 128,none,.pick (.t 125) (.c (.bool true)) (.t 127)⟩,⟨some 129,none,.mov (.t 128)⟩,⟨some 130,(some (129,false)),.mov (.t 18)⟩,⟨some 131,(some (129,false)),.bin .neq (.t 130) (.c (.int .i64 0))⟩,⟨some 132,none,.pick (.t 129) (.c (.bool true)) (.t 131)⟩,⟨some 133,none,.mov (.t 132)⟩,⟨some 134,(some (133,false)),.ld (some 8) (.t 11)⟩,⟨some 135,(some (133,false)),.ld (some 8) (.t 15)⟩,⟨some 136,(some (133,false)),.eqa true 8 (.t 134) (.t 135)⟩,⟨some 137,none,.pick (.t 133) (.c (.bool true)) (.t 136)⟩]) (.cond (.t 137) (.seq (.reg [⟨some 2,none,.mov (.c (.bool false))⟩]) .ret) .skip)) (.seq (.seq (.reg [⟨some 19,none,.mov (.c (.int .i64 0))⟩]) (.block 0 (.loop (.seq (.seq (.reg [⟨some 138,none,.mov (.t 19)⟩,⟨some 139,none,.fa 1 (.t 3)⟩,⟨some 140,none,.ld none (.t 139)⟩,⟨some 141,none,.bin .lss (.t 138) (.t 140)⟩]) (.cond (.t 141) .skip (.exit 0))) (.seq (.block 1 (.seq (.mix [⟨some 145,none,.ld (some 522) (.t 3)⟩,⟨some 146,none,.ld (some 8) (.t 4)⟩,⟨some 147,none,.mov (.t 19)⟩,⟨some 148,none,.call 11 [(.t 147)]⟩,⟨some 149,none,.call 7 [(.t 145),(.t 146),(.t 148)]⟩,⟨some 144,none,.mov (.t 149)⟩,⟨some 150,none,.ex (.t 144) 0⟩,⟨some 151,none,.ex (.t 144) 1⟩] [⟨some 20,none,.new 25 [(8,(.int .u8 0))]⟩,⟨none,none,.st 8 (.t 20) (.t 150)⟩,⟨some 21,none,.mov (.t 151)⟩]) (.seq (.drw true [] [⟨some 152,none,.mov (.t 21)⟩,⟨some 153,none,.bin .neq (.t 152) (.c (.int .i64 0))⟩,⟨some 154,none,.mov (.t 153)⟩,⟨some 155,(some (154,false)),.mov (.t 19)⟩,⟨some 156,(some (154,false)),.ia 8 8 (.t 17) (.t 155)⟩,⟨some 157,(some (154,false)),.ld (some 8) (.t 156)⟩,⟨some 158,(some (154,false)),.ld (some 8) (.t 20)⟩,⟨some 159,(some (154,false)),.eqa true 8 (.t 157) (.t 158)⟩,⟨some 160,none,.pick (.t 154) (.c (.bool true)) (.t 159)⟩]) (.cond (.t 160) (.seq (.reg [⟨some 2,none,.mov (.c (.bool false))⟩]) .ret) .skip)))) (.reg [⟨some 142,none,.mov (.t 19)⟩,⟨some 143,none,.bin .add (.t 142) (.c (.int .i64 1))⟩,⟨some 19,none,.mov (.t 143)⟩])))))) (.seq (.reg [⟨some 162,none,.fa 0 (.t 3)⟩,⟨some 163,none,.ld none (.t 162)⟩,⟨some 164,none,.fa 1 (.t 3)⟩,⟨some 165,none,.ld none (.t 164)⟩,⟨some 166,none,.ld (some 8) (.t 4)⟩,⟨some 167,none,.call 12 [(.t 163),(.t 165),(.t 166)]⟩,⟨some 161,none,.mov (.t 167)⟩,⟨some 168,none,.ex (.t 161) 0⟩,⟨some 169,none,.ex (.t 161) 1⟩,⟨some 22,none,.mov (.t 168)⟩,⟨some 23,none,.mov (.t 169)⟩]) (.seq (.reg [⟨some 171,none,.fa 0 (.t 3)⟩,⟨some 172,none,.ld none (.t 171)⟩,⟨some 173,none,.fa 1 (.t 3)⟩,⟨some 174,none,.ld none (.t 173)⟩,⟨some 175,none,.mov (.t 22)⟩,⟨some 176,none,.call 13 [(.t 172),(.t 174),(.t 175)]⟩,⟨some 170,none,.mov (.t 176)⟩,⟨some 177,none,.ex (.t 170) 0⟩,⟨some 178,none,.ex (.t 170) 1⟩,⟨some 24,none,.new 25 [(8,(.int .u8 0))]⟩,⟨none,none,.st 8 (.t 24) (.t 177)⟩,⟨some 25,none,.mov (.t 178)⟩]) (.seq (.reg [⟨some 179,none,.mov (.t 23)⟩,⟨some 180,none,.bin .neq (.t 179) (.c (.int .i64 0))⟩,⟨some 181,none,.mov (.t 180)⟩,⟨some 182,(some (181,false)),.mov (.t 25)⟩,⟨some 183,(some (181,false)),.bin .neq (.t 182) (.c (.int .i64 0))⟩,⟨some 184,none,.pick (.t 181) (.c (.bool true)) (.t 183)⟩,⟨some 185,none,.mov (.t 184)⟩,⟨some 186,(some (185,false)),.ld (some 8) (.t 24)⟩,⟨some 187,(some (185,false)),.ld (some 8) (.t 4)⟩,⟨some 188,(some (185,false)),.eqa true 8 (.t 186) (.t 187)⟩,⟨some 189,none,.pick (.t 185) (.c (.bool true)) (.t 188)⟩]) (.cond (.t 189) (.seq (.reg [⟨some 2,none,.mov (.c (.bool false))⟩]) .ret) .skip))))))))))) .skip)) (.seq (.reg [⟨some 191,none,.mov (.t 0)⟩,⟨some 192,none,.call 14 [(.t 191)]⟩,⟨some 190,none,.mov (.t 192)⟩,⟨some 193,none,.ex (.t 190) 0⟩,⟨some 194,none,.ex (.t 190) 1⟩,⟨some 26,none,.new 31 [(2,(.int .i64 0)),(520,(.int .u8 0))]⟩,⟨some 27,none,.new 25 [(8,(.int .u8 0))]⟩,⟨none,none,.st 522 (.t 26) (.t 193)⟩,⟨none,none,.st 8 (.t 27) (.t 194)⟩]) (.seq (.reg [⟨some 196,none,.ld (some 522) (.t 26)⟩,⟨some 197,none,.ld (some 8) (.t 27)⟩,⟨some 198,none,.call 15 [(.t 196),(.t 197)]⟩,⟨some 195,none,.mov (.t 198)⟩,⟨some 199,none,.ex (.t 195) 0⟩,⟨some 200,none,.ex (.t 195) 1⟩,⟨some 28,none,.new 25 [(8,(.int .u8 0))]⟩,⟨none,none,.st 8 (.t 28) (.t 199)⟩,⟨some 29,none,.mov (.t 200)⟩]) (.seq (.reg [⟨some 202,none,.ld (some 522) (.t 26)⟩,⟨some 203,none,.ld (some 8) (.t 27)⟩,⟨some 204,none,.call 16 [(.t 202),(.t 203)]⟩,⟨some 201,none,.mov (.t 204)⟩,⟨some 205,none,.ex (.t 201) 0⟩,⟨some 206,none,.ex (.t 201) 1⟩,⟨some 30,none,.new 25 [(8,(.int .u8 0))]⟩,⟨none,none,.st 8 (.t 30) (.t 205)⟩,⟨some 31,none,.mov (.t 206)⟩]) (.seq (.seq (.reg [⟨some 207,none,.mov (.t 31)⟩,⟨some 208,none,.mov (.t 29)⟩,⟨some 209,none,.bin .neq (.t 207) (.t 208)⟩,⟨some 210,none,.mov (.t 209)⟩,⟨some 211,(some (210,false)),.ld (some 8) (.t 30)⟩,⟨some 212,(some (210,false)),.ld (some 8) (.t 28)⟩,⟨some 213,(some (210,false)),.eqa true 8 (.t 211) (.t 212)⟩,⟨some 214,none,.pick (.t 210) (.c (.bool true)) (.t 213)⟩]) (.cond (.t 214) (.seq (.reg [⟨some 2,none,.mov (.c (.bool false))⟩]) .ret) .skip)) (.seq (.seq (.reg [⟨some 215,none,.mov (.t 31)⟩,⟨some 216,none,.bin .eql (.t 215) (.c (.int .i64 0))⟩]) (.cond (.t 216) (.seq (.reg [⟨some 218,none,.ld (some 522) (.t 26)⟩,⟨some 219,none,.ld (some 8) (.t 30)⟩,⟨some 220,none,.call 16 [(.t 218),(.t 219)]⟩,⟨some 217,none,.mov (.t 220)⟩,⟨some 221,none,.ex (.t 217) 0⟩,⟨some 222,none,.ex (.t 217) 1⟩,⟨some 32,none,.new 25 [(8,(.int .u8 0))]⟩,⟨none,none,.st 8 (.t 32) (.t 221)⟩,⟨some 33,none,.mov (.t 222)⟩]) (.seq (.reg [⟨some 224,none,.ld (some 522) (.t 26)⟩,⟨some 225,none,.ld (some 8) (.t 30)⟩,⟨some 226,none,.ld (some 8) (.t 27)⟩,⟨some 227,none,.call 7 [(.t 224),(.t 225),(.t 226)]⟩,⟨some 223,none,.mov (.t 227)⟩,⟨some 228,none,.ex (.t 223) 0⟩,⟨some 229,none,.ex (.t 223) 1⟩,⟨some 34,none,.new 25 [(8,(.int .u8 0))]⟩,⟨none,none,.st 8 (.t 34) (.t 228)⟩,⟨some 35,none,.mov (.t 229)⟩]) (.seq (.reg [⟨some 230,none,.mov (.t 33)⟩,⟨some 231,none,.bin .neq (.t 230) (.c (.int .i64 0))⟩,⟨some 232,none,.mov (.t 231)⟩,⟨some 233,(some (232,false)),.mov (.t 35)⟩,⟨some 234,(some (232,false)),.bin .neq (.t 233) (.c (.int .i64 0))⟩,⟨some 235,none,.pick (.t 232) (.c (.bool true)) (.t 234)⟩,⟨some 236,none,.mov (.t 235)⟩,⟨some 237,(some (236,false)),.ld (some 8) (.t 32)⟩,⟨some 238,(some (236,false)),.ld (some 8) (.t 27)⟩,⟨some 239,(some (236,false)),.eqa true 8 (.t 237) (.t 238)⟩,⟨some 240,none,.pick (.t 236) (.c (.bool true)) (.t 239)⟩,⟨some 241,none,.mov (.t 240)⟩,⟨some 242,(some (241,false)),.ld (some 8) (.t 34)⟩,⟨some 243,(some (241,false)),.fa 2 (.t 26)⟩,⟨some 244,(some (241,false)),.ld (some 8) (.t 243)⟩,⟨some 245,(some (241,false)),.eqa true 8 (.t 242) (.t 244)⟩,⟨some 246,none,.pick (.t 241) (.c (.bool true)) (.t 245)⟩]) (.cond (.t 246) (.seq (.reg [⟨some 2,none,.mov (.c (.bool false))⟩]) .ret) .skip)))) .skip)) (.seq (.reg [⟨some 248,none,.mov (.t 0)⟩,⟨some 249,none,.call 17 [(.t 248)]⟩,⟨some 247,none,.mov (.t 249)⟩,⟨some 250,none,.ex (.t 247) 0⟩,⟨some 251,none,.ex (.t 247) 1⟩,⟨some 252,none,.ex (.t 247) 2⟩,⟨some 36,none,.new 31 [(2,(.int .i64 0)),(520,(.int .u8 0))]⟩,⟨some 37,none,.new 25 [(8,(.int .u8 0))]⟩,⟨none,none,.st 522 (.t 36) (.t 250)⟩,⟨none,none,.st 8 (.t 37) (.t 251)⟩,⟨some 38,none,.mov (.t 252)⟩]) (.seq (.reg [⟨some 254,none,.ld (some 522) (.t 36)⟩,⟨some 255,none,.ld (some 8) (.t 37)⟩,⟨some 256,none,.mov (.t 38)⟩,⟨some 257,none,.call 18 [(.t 254),(.t 255),(.t 256)]⟩,⟨some 253,none,.mov (.t 257)⟩,⟨some 258,none,.ex (.t 253) 0⟩,⟨some 259,none,.ex (.t 253) 1⟩,⟨some 39,none,.new 25 [(8,(.int .u8 0))]⟩,⟨none,none,.st 8 (.t 39) (.t 258)⟩,⟨some 40,none,.mov (.t 259)⟩]) (.seq (.reg [⟨some 261,none,.ld (some 522) (.t 36)⟩,⟨some 262,none,.ld (some 8) (.t 37)⟩,⟨some 263,none,.mov (.t 38)⟩,⟨some 264,none,.call 19 [(.t 261),(.t 262),(.t 263)]⟩,⟨some 260,none,.mov (.t 264)⟩,⟨some 265,none,.ex (.t 260) 0⟩,⟨some 266,none,.ex (.t 260) 1⟩,⟨some 41,none,.new 25 [(8,(.int .u8 0))]⟩,⟨none,none,.st 8 (.t 41) (.t 265)⟩,⟨some 42,none,.mov (.t 266)⟩]) (.seq (.reg [⟨some 268,none,.mov (.t 0)⟩,⟨some 269,none,.call 20 [(.t 268)]⟩,⟨some 267,none,.mov (.t 269)⟩,⟨some 270,none,.ex (.t 267) 0⟩,⟨some 271,none,.ex (.t 267) 1⟩,⟨some 43,none,.new 31 [(2,(.int .i64 0)),(520,(.int .u8 0))]⟩,⟨some 44,none,.new 25 [(8,(.int .u8 0))]⟩,⟨none,none,.st 522 (.t 43) (.t 270)⟩,⟨none,none,.st 8 (.t 44) (.t 271)⟩]) (.seq (.reg [⟨some 273,none,.ld (some 522) (.t 43)⟩,⟨some 274,none,.ld (some 8) (.t 44)⟩,⟨some 275,none,.call 21 [(.t 273),(.t 274)]⟩,⟨some 272,none,.mov (.t 275)⟩,⟨some 276,none,.ex (.t 272) 0⟩,⟨some 277,none,.ex (.t 272) 1⟩,⟨some 45,none,.new 27 [(64,(.int .u8 0))]⟩,⟨none,none,.st 64 (.t 45) (.t 276)⟩,⟨some 46,none,.mov (.t 277)⟩]) (.seq (.reg [⟨some 279,none,.ld (some 522) (.t 43)⟩,⟨some 280,none,.ld (some 8) (.t 44)⟩,⟨some 281,none,.call 10 [(.t 279),(.t 280)]⟩,⟨some 278,none,.mov (.t 281)⟩,⟨some 282,none,.ex (.t 278) 0⟩,⟨some 283,none,.ex (.t 278) 1⟩,⟨some 47,none,.new 27 [(64,(.int .u8 0))]⟩,⟨none,none,.st 64 (.t 47) (.t 282)⟩,⟨some 48,none,.mov (.t 283)⟩]) (.seq (.reg [⟨some 285,none,.ld (some 522) (.t 43)⟩,⟨some 286,none,.ld (some 8) (.t 44)⟩,⟨some 287,none,.call 22 [(.t 285),(.t 286)]⟩,⟨some 284,none,.mov (.t 287)⟩,⟨some 288,none,.ex (.t 284) 0⟩,⟨some 289,none,.ex (.t 284) 1⟩,⟨some 49,none,.mov (.t 288)⟩,⟨some 50,none,.mov (.t 289)⟩]) (.seq (.reg [⟨some 291,none,.ld (some 522) (.t 43)⟩,⟨some 292,none,.ld (some 8) (.t 44)⟩,⟨some 293,none,.call 23 [(.t 291),(.t 292)]⟩,⟨some 290,none,.mov (.t 293)⟩,⟨some 294,none,.ex (.t 290) 0⟩,⟨some 295,none,.ex (.t 290) 1⟩,⟨some 51,none,.mov (.t 294)⟩,⟨some 52,none,.mov (.t 295)⟩]) (.seq (.reg [⟨some 296,none,.mov (.t 42)⟩,⟨some 297,none,.mov (.t 40)⟩,⟨some 298,none,.bin .eql (.t 296) (.t 297)⟩,⟨some 299,none,.mov (.t 298)⟩,⟨some 300,(some (299,true)),.ld (some 8) (.t 41)⟩,⟨some 301,(some (299,true)),.ld (some 8) (.t 39)⟩,⟨some 302,(some (299,true)),.eqa false 8 (.t 300) (.t 301)⟩,⟨some 303,none,.pick (.t 299) (.t 302) (.c (.bool false))⟩,⟨some 304,none,.mov (.t 303)⟩,⟨some 305,(some (304,true)),.mov (.t 48)⟩,⟨some 306,(some (304,true)),.mov (.t 46)⟩,⟨some 307,(some (304,true)),.bin .eql (.t 305) (.t 306)⟩,⟨some 308,none,.pick (.t 304) (.t 307) (.c (.bool false))⟩,⟨some 309,none,.mov (.t 308)⟩,⟨some 310,(some (309,true)),.ld (some 64) (.t 47)⟩,⟨some 311,(some (309,true)),.ld (some 64) (.t 45)⟩,⟨some 312,(some (309,true)),.eqa false 64 (.t 310) (.t 311)⟩,⟨some 313,none,.pick (.t 309) (.t 312) (.c (.bool false))⟩,⟨some 314,none,.mov (.t 313)⟩,⟨some 315,(some (314,true)),.mov (.t 52)⟩,⟨some 316,(some (314,true)),.mov (.t 50)⟩,⟨some 317,(some (314,true)),.bin .eql (.t 315) (.t 316)⟩,⟨some 318,none,.pick (.t 314) (.t 317) (.c (.bool false))⟩,⟨some 319,none,.mov (.t 318)⟩,⟨some 320,(some (319,true)),.mov (.t 51)⟩,⟨some 321,(some (319,true)),.mov (.t 49)⟩,⟨some 322,(some (319,true)),.bin .eql (.t 320) (.t 321)⟩,⟨some 323,none,.pick (.t 319) (.t 322) (.c (.bool false))⟩,⟨some 2,none,.mov (.t 323)⟩]) .ret)))))))))))))))))))))

set_option maxRecDepth 100000 in
theorem tr3 : trFn Tryz.prog Tryz.f3 = some (324, ir3, [.tmp 2]) := by kernel_rfl

theorem law_FnVectors (m0 : Nat) (sv : SV) (len : Nat) (f : Nat → Int) (hR : RA m0 1 sv len f) (hfb : ∀ i, i < 1 * len → 0 ≤ f i ∧ f i ≤ 255) (hl : len ≤ 9223372036854775807) (mx : Int) (hmx : BW.cell 2 0 = some (.int .i64 mx)) (n : Nat) (hmn : m0 ≤ n) :
    FnS Tryz.prog 3 [.s sv] [] n (fun v H' _ => v = .s (.bool true) ∧ H' = []) := by
  refine FnS.of_body Tryz.func3 tr3 (by simp) (fun hf => ?_)
  dsimp only [argEnv]
  unfold ir3
  (repeat first|refine zG ?_|(refine LS.nilO ?_;intro nq hnq hltq;try refine zU ?_)|(refine MS.new ?_;intro bq hbq hbqf;try refine zU ?_)|(refine MS.nil ?_;intro nq hnq hltq;have hlq:=hltq _ _ (Hp.get_eq _ _ _);clear hltq;try refine zU ?_)|(refine LS.nilQ ?_;try with_reducible intro nq hnq;try refine zU ?_))
  refine RS.call rfl ((laws_big m0 sv len f _ _ hR).mono ?_)
  rintro r H1 n1 hn1 ⟨rfl, rfl⟩
  (repeat first|refine zG ?_|(refine LS.nilO ?_;intro nq hnq hltq;try refine zU ?_)|(refine MS.new ?_;intro bq hbq hbqf;try refine zU ?_)|(refine MS.nil ?_;intro nq hnq hltq;have hlq:=hltq _ _ (Hp.get_eq _ _ _);clear hltq;try refine zU ?_)|(refine LS.nilQ ?_;try with_reducible intro nq hnq;try refine zU ?_))
  refine zI ?_ ?_<;>intro h0
  · (repeat first|refine zG ?_|(refine LS.nilO ?_;intro nq hnq hltq;try refine zU ?_)|(refine MS.new ?_;intro bq hbq hbqf;try refine zU ?_)|(refine MS.nil ?_;intro nq hnq hltq;have hlq:=hltq _ _ (Hp.get_eq _ _ _);clear hltq;try refine zU ?_)|(refine LS.nilQ ?_;try with_reducible intro nq hnq;try refine zU ?_))
    exact ⟨_, [], rfl, Drops.refl _ _, rfl, rfl⟩
  have hlen : len ≤ 4096 := by omega
  have hm0 : ∀ x, x < m0 → Hp.get [] x = none := fun x _ => rfl
  (repeat first|refine zG ?_|(refine LS.nilO ?_;intro nq hnq hltq;try refine zU ?_)|(refine MS.new ?_;intro bq hbq hbqf;try refine zU ?_)|(refine MS.nil ?_;intro nq hnq hltq;have hlq:=hltq _ _ (Hp.get_eq _ _ _);clear hltq;try refine zU ?_)|(refine LS.nilQ ?_;try with_reducible intro nq hnq;try refine zU ?_))
  refine RS.call rfl ((spec_DrawMultiplyVectors m0 sv len f _ _ hR hfb hlen hm0 (by omega)).mono ?_)
  rintro r H2 n2 hn2 ⟨K, p, s, v, w, rfl, hA, -, -, -, -, hv, hw, lo2⟩
  refine LS.hpd (H1 := []) (Drops.low (fun _ _ => rfl) (fun x hx => lo2 x (by omega))) ?_
  obtain ⟨k0, k1, -⟩ := id hA
  have hU := hA.u
  have hK := hA.m
  have hu := hA.uB
  have hm := hA.mB
  generalize (fun q => cu8 (K (2 + q))) = u at hU hu
  generalize (fun q => cu8 (K (10 + q))) = m at hK hm
  (repeat first|refine zG ?_|(refine LS.nilO ?_;intro nq hnq hltq;try refine zU ?_)|(refine MS.new ?_;intro bq hbq hbqf;try refine zU ?_)|(refine MS.nil ?_;intro nq hnq hltq;have hlq:=hltq _ _ (Hp.get_eq _ _ _);clear hltq;try refine zU ?_)|(refine LS.nilQ ?_;try with_reducible intro nq hnq;try refine zU ?_))
  obtain ⟨X, hX⟩ : ∃ X, X = ivX (isAlg p s u m ∧ isVec p s v ∧ isVec p s w) (pr p m v w s.toNat) := ⟨_, rfl⟩
  obtain ⟨c, hc⟩ : ∃ c, c = cd (isAlg p s u m ∧ isVec p s v ∧ isVec p s w) := ⟨_, rfl⟩
  have kS : ∀ H n, FnS Tryz.prog 6 [.arr 522 K, .arr 8 (bys v), .arr 8 (bys w)] H n (fun r H' _ => r = .tup [.arr 8 (bys X), i64 c] ∧ H' = H) := fun H n => by rw [hX, hc]; exact spec_MultiplyVectors p s u m v w K _ _ k0 k1 hU hK hu hm hv hw
  have kI : ∀ H n, FnS Tryz.prog 7 [.arr 522 K, .arr 8 (bys v), .arr 8 (bys w)] H n (fun r H' _ => r = .tup [.arr 8 (bys X), i64 c] ∧ H' = H) := fun H n => by rw [hX, hc]; exact impl_MultiplyVectors p s u m v w K _ _ k0 k1 hU hK hu hm hv hw
  refine RS.call rfl ((kS _ _).mono ?_)
  rintro r H3 n3 hn3 ⟨rfl, rfl⟩
  (repeat first|refine zG ?_|(refine LS.nilO ?_;intro nq hnq hltq;try refine zU ?_)|(refine MS.new ?_;intro bq hbq hbqf;try refine zU ?_)|(refine MS.nil ?_;intro nq hnq hltq;have hlq:=hltq _ _ (Hp.get_eq _ _ _);clear hltq;try refine zU ?_)|(refine LS.nilQ ?_;try with_reducible intro nq hnq;try refine zU ?_))
  refine RS.call rfl ((kI _ _).mono ?_)
  rintro r H4 n4 hn4 ⟨rfl, rfl⟩
  (repeat first|refine zG ?_|(refine LS.nilO ?_;intro nq hnq hltq;try refine zU ?_)|(refine MS.new ?_;intro bq hbq hbqf;try refine zU ?_)|(refine MS.nil ?_;intro nq hnq hltq;have hlq:=hltq _ _ (Hp.get_eq _ _ _);clear hltq;try refine zU ?_)|(refine LS.nilQ ?_;try with_reducible intro nq hnq;try refine zU ?_))
  rw [bne_self_eq_false]
  (repeat first|refine zG ?_|(refine LS.nilO ?_;intro nq hnq hltq;try refine zU ?_)|(refine MS.new ?_;intro bq hbq hbqf;try refine zU ?_)|(refine MS.nil ?_;intro nq hnq hltq;have hlq:=hltq _ _ (Hp.get_eq _ _ _);clear hltq;try refine zU ?_)|(refine LS.nilQ ?_;try with_reducible intro nq hnq;try refine zU ?_))
  rw [tb_true (fun _ _ => rfl)]
  (repeat first|refine zG ?_|(refine LS.nilO ?_;intro nq hnq hltq;try refine zU ?_)|(refine MS.new ?_;intro bq hbq hbqf;try refine zU ?_)|(refine MS.nil ?_;intro nq hnq hltq;have hlq:=hltq _ _ (Hp.get_eq _ _ _);clear hltq;try refine zU ?_)|(refine LS.nilQ ?_;try with_reducible intro nq hnq;try refine zU ?_))
  refine CS.join (J := fun e' H' _ => EnvLe [(0, .s sv)] e' ∧ Drops n H' []) ?_ ?_
  · refine zI ?_ ?_<;>intro h1
    · have hAl : isAlg p s u m ∧ isVec p s v ∧ isVec p s w := cdz.1 (by rw [← hc]; exact h1)
      clear kS kI
      obtain ⟨a, rfl, ha1, ha8⟩ := alg_sz hAl.1
      have hp := isP_le hAl.1.1.1.1
      rw [ivX_t hAl, Int.toNat_natCast] at hX
      have hXv := pr_vec hAl.1 v w
      rw [← hX] at hXv
      obtain ⟨H0, hH0⟩ : ∃ H0 : Hp, H0 = [(n4, ⟨8, bys X, 25⟩), (n2 + 1 + 1, ⟨8, bys w, 25⟩), (n2 + 1, ⟨8, bys v, 25⟩), (n2, ⟨522, K, 31⟩)] := ⟨_, rfl⟩
      refine CS.weak (e1 := [(0, .s sv), (3, ptr n2 0), (4, ptr (n2 + 1) 0), (5, ptr (n2 + 1 + 1) 0), (8, ptr n4 0)]) (H1 := H0) (by (repeat first | exact trivial | refine And.intro rfl ?_)) (by rw [hH0]; exact zD) ?_
      have low0 : ∀ x, x < m0 → H0.get x = none := fun x hx => by rw [hH0]; simp (disch := omega) only [Hp.get_ne]; rfl
      have fr0 : ∀ x, n4 + 1 ≤ x → H0.get x = none := fun x hx => by rw [hH0]; simp (disch := omega) only [Hp.get_ne]; rfl
      have gK : H0.get n2 = some ⟨522, K, 31⟩ := by rw [hH0]; exact zH
      refine CS.seq ?_
      refine CS.ordN [(n2, ⟨522, K, 31⟩)] (Ext.one gK) ?_
      refine FT.mono (K := fun e2 H2 => ∃ b t k, EnvLe [(10, ptr b 0), (0, .s sv), (3, ptr n2 0), (4, ptr (n2 + 1) 0), (5, ptr (n2 + 1 + 1) 0), (8, ptr n4 0)] e2 ∧ n4 + 1 ≤ b ∧ H2.get b = some k ∧ k.size = 8 ∧ (∀ q, q < 8 → k.c q = bys t q) ∧ isVec p a t ∧ isBy 8 t ∧ ∀ y, y < n4 + 1 → H2.get y = H0.get y) ?_ ?_
      · refine FT.seg rfl (ST.mov (by exact rfl) ?_)
        refine FT.seg rfl (ST.fa (by exact rfl) ?_)
        refine FT.seg rfl (ST.ld1 (v := .int .i64 p) (by exact rfl) (Hp.get_eq _ _ _) (by (try dsimp only); omega) k0 ?_)
        refine FT.seg rfl (ST.fa (by exact rfl) ?_)
        refine FT.seg rfl (ST.ld1 (v := .int .i64 (a : Nat)) (by exact rfl) (Hp.get_eq _ _ _) (by (try dsimp only); omega) k1 ?_)
        have roll : ∀ (HX : Hp) (n' : Nat), n4 + 1 ≤ n' → (∀ y, y < n4 + 1 → HX.get y = H0.get y) → FnS Tryz.prog 9 [.s sv, .s (.int .u64 9801)] HX n' (fun r H' n'' => (∃ b, r = ptr b 0 ∧ n' ≤ b ∧ SRQ H' b 64 sv len ∧ ∀ y, y < n' → H'.get y = HX.get y) ∧ Ext [(n2, (⟨522, K, 31⟩ : Blk))] H') := fun HX n' h1 h2 =>
          (laws_roll m0 sv len f HX n' hR hfb hlen (fun x hx => by rw [h2 x (by omega)]; exact low0 x hx) (by omega)).mono (by
            rintro r H' n'' hn'' ⟨b, rfl, hb, -, hS, lo⟩
            exact ⟨⟨b, rfl, hb, hS, lo⟩, Ext.one (by rw [lo n2 (by omega), h2 n2 (by omega)]; exact gK)⟩)
        have vec : ∀ (HX : Hp) (n' b : Nat), n4 + 1 ≤ n' → n4 + 1 ≤ b → (∀ y, y < n4 + 1 → HX.get y = H0.get y) → SRQ HX b 64 sv len → FnS Tryz.prog 8 [ptr b 0, i64 p, i64 a] HX n' (fun r H' n'' => (∃ t, r = .arr 8 (bys t) ∧ isBy 8 t ∧ isVec p a t ∧ ∀ y, y < n' → y ≠ b → H'.get y = HX.get y) ∧ Ext [(n2, (⟨522, K, 31⟩ : Blk))] H') := fun HX n' b h1 hb h2 hS =>
          (laws_vector9 m0 sv len f b _ p a HX n' hR hfb hlen (fun x hx => by rw [h2 x (by omega)]; exact low0 x hx) (by omega) hS hp ha8).mono (by
            rintro r H' n'' hn'' ⟨t, rfl, h3, h4, lo⟩
            exact ⟨⟨t, rfl, h3, h4, lo⟩, Ext.one (by rw [lo n2 (by omega) (by omega), h2 n2 (by omega)]; exact gK)⟩)
        refine FT.fork ?_ ?_
        · refine FT.seg rfl (ST.call (R := fun r H' => ∃ b, r = ptr b 0 ∧ n4 + 1 ≤ b ∧ SRQ H' b 64 sv len ∧ ∀ y, y < n4 + 1 → H'.get y = H0.get y) rfl (fun n' h1 h2 => (roll H0 n' h1 (fun _ _ => rfl)).mono (by
            rintro r H' n'' hn'' ⟨⟨b, rfl, hb, hS, lo⟩, hE⟩
            exact ⟨⟨b, rfl, by omega, hS, fun y hy => lo y (by omega)⟩, hE⟩)) ?_)
          rintro r H3 ⟨b3, rfl, hb3, hS3, lo3⟩ hE3
          refine FT.fork ?_ ?_
          · refine FT.seg rfl (ST.call (R := fun r H' => ∃ t, r = .arr 8 (bys t) ∧ isBy 8 t ∧ isVec p a t ∧ ∀ y, y < n4 + 1 → H'.get y = H0.get y) rfl (fun n' h1 h2 => (vec H3 n' b3 h1 hb3 lo3 hS3).mono (by
              rintro r H' n'' hn'' ⟨⟨t, rfl, h3, h4, lo⟩, hE⟩
              exact ⟨⟨t, rfl, h3, h4, fun y hy => by rw [lo y (by omega) (by omega)]; exact lo3 y hy⟩, hE⟩)) ?_)
            rintro r H4 ⟨t, rfl, htb, htv, lo4⟩ hE4
            refine FT.seg rfl (ST.new hE4 fun b hb hfb4 => ?_)
            refine FT.seg rfl (ST.sta (c := bys t) (by exact rfl) (by exact rfl) (Hp.get_eq _ _ _) (by simp [Zs.size]) (by rw [Hp.get_ne _ _ (by omega)]; rfl) (hE4.push _ (hfb4 b (Nat.le_refl _))) ?_)
            exact FT.done ⟨b, t, _, by (repeat first | exact trivial | refine And.intro rfl ?_), hb, Hp.get_set_self _ (Hp.get_eq _ _ _), rfl, fun q hq => by (try dsimp only); unfold splice; rw [if_pos (by omega), Nat.sub_zero], htv, htb, fun y hy => by rw [Hp.get_set_other _ (by omega), Hp.get_ne _ _ (by omega)]; exact lo4 y hy⟩
          · refine FT.seg rfl (ST.new hE3 fun b hb hfb4 => ?_)
            have hb3b : b ≠ b3 := by
              intro q; subst q
              obtain ⟨kk, gg, -⟩ := id hS3
              rw [hfb4 _ (Nat.le_refl _)] at gg; cases gg
            refine FT.seg rfl (ST.call (R := fun r H' => ∃ t, r = .arr 8 (bys t) ∧ isBy 8 t ∧ isVec p a t ∧ (∃ k, H'.get b = some k ∧ k.size = 8) ∧ ∀ y, y < n4 + 1 → H'.get y = H0.get y) rfl (fun n' h1 h2 => (vec _ n' b3 h1 hb3 (fun y hy => by rw [Hp.get_ne _ _ (by omega)]; exact lo3 y hy) (hS3.keep (Hp.get_ne _ _ hb3b))).mono (by
              rintro r H' n'' hn'' ⟨⟨t, rfl, h3, h4, lo⟩, hE⟩
              have hbn' := getlt h2 (Hp.get_eq _ _ _)
              exact ⟨⟨t, rfl, h3, h4, ⟨_, by rw [lo b hbn' hb3b]; exact Hp.get_eq _ _ _, rfl⟩, fun y hy => by rw [lo y (by omega) (by omega), Hp.get_ne _ _ (by omega)]; exact lo3 y hy⟩, hE⟩)) ?_)
            rintro r H4 ⟨t, rfl, htb, htv, ⟨kb, gb, sb⟩, lo4⟩ hE4
            refine FT.seg rfl (ST.sta (c := bys t) (by exact rfl) (by exact rfl) gb (by omega) (by rw [Hp.get_ne _ _ (by omega)]; rfl) hE4 ?_)
            exact FT.done ⟨b, t, _, by (repeat first | exact trivial | refine And.intro rfl ?_), hb, Hp.get_set_self _ gb, sb, fun q hq => by (try dsimp only); unfold splice; rw [if_pos (by omega), Nat.sub_zero], htv, htb, fun y hy => by rw [Hp.get_set_other _ (by omega)]; exact lo4 y hy⟩
        · refine FT.seg rfl (ST.new (Ext.one gK) fun b hb hfb4 => ?_)
          refine FT.seg rfl (ST.call (R := fun r H' => ∃ b3, r = ptr b3 0 ∧ n4 + 1 ≤ b3 ∧ b3 ≠ b ∧ SRQ H' b3 64 sv len ∧ (∃ k, H'.get b = some k ∧ k.size = 8) ∧ ∀ y, y < n4 + 1 → H'.get y = H0.get y) rfl (fun n' h1 h2 => (roll _ n' h1 (fun y hy => by rw [Hp.get_ne _ _ (by omega)])).mono (by
            rintro r H' n'' hn'' ⟨⟨b3, rfl, hb3, hS, lo⟩, hE⟩
            have hbn' := getlt h2 (Hp.get_eq _ _ _)
            exact ⟨⟨b3, rfl, by omega, by omega, hS, ⟨_, by rw [lo b hbn']; exact Hp.get_eq _ _ _, rfl⟩, fun y hy => by rw [lo y (by omega), Hp.get_ne _ _ (by omega)]⟩, hE⟩)) ?_)
          rintro r H3 ⟨b3, rfl, hb3, hb3b, hS3, ⟨kb0, gb0, sb0⟩, lo3⟩ hE3
          refine FT.seg rfl (ST.call (R := fun r H' => ∃ t, r = .arr 8 (bys t) ∧ isBy 8 t ∧ isVec p a t ∧ (∃ k, H'.get b = some k ∧ k.size = 8) ∧ ∀ y, y < n4 + 1 → H'.get y = H0.get y) rfl (fun n' h1 h2 => (vec _ n' b3 h1 hb3 lo3 hS3).mono (by
            rintro r H' n'' hn'' ⟨⟨t, rfl, h3, h4, lo⟩, hE⟩
            have hbn' := getlt h2 gb0
            exact ⟨⟨t, rfl, h3, h4, ⟨_, by rw [lo b hbn' (fun q => hb3b q.symm)]; exact gb0, sb0⟩, fun y hy => by rw [lo y (by omega) (by omega)]; exact lo3 y hy⟩, hE⟩)) ?_)
          rintro r H4 ⟨t, rfl, htb, htv, ⟨kb, gb, sb⟩, lo4⟩ hE4
          refine FT.seg rfl (ST.sta (c := bys t) (by exact rfl) (by exact rfl) gb (by omega) (by rw [Hp.get_ne _ _ (by omega)]; rfl) hE4 ?_)
          exact FT.done ⟨b, t, _, by (repeat first | exact trivial | refine And.intro rfl ?_), hb, Hp.get_set_self _ gb, sb, fun q hq => by (try dsimp only); unfold splice; rw [if_pos (by omega), Nat.sub_zero], htv, htb, fun y hy => by rw [Hp.get_set_other _ (by omega)]; exact lo4 y hy⟩
      rintro e2 HB ⟨b, t, k, he2, hb, gB, sB, cB, htv, htb, lowB⟩ n' hn' hlt'
      dsimp only [Ex.then]
      have hbn' := hlt' b k gB
      refine CS.weak he2 (Drops.push1 (c := bys t) gB fr0 lowB (by omega) sB rfl cB) ?_
      clear he2 gB cB lowB hlt'
      generalize k.ty = kt
      rw [hH0]
      have mul : ∀ (y z : Nat → Int) (H : Hp) (n : Nat), isVec p a y ∧ isBy 8 y → isVec p a z ∧ isBy 8 z → FnS Tryz.prog 7 [.arr 522 K, .arr 8 (bys y), .arr 8 (bys z)] H n (fun r H' _ => (∃ x, x = pr p m y z a ∧ r = .tup [.arr 8 (bys x), i64 0]) ∧ H' = H) := fun y z H n hy hz =>
        (impl_MultiplyVectors p a u m y z K H n k0 k1 hU hK hu hm hy.2 hz.2).mono (by
          rintro r H' n' - ⟨rfl, rfl⟩
          exact ⟨⟨_, rfl, by rw [ivX_t ⟨hAl.1, hy.1, hz.1⟩, cdz.2 ⟨hAl.1, hy.1, hz.1⟩, Int.toNat_natCast]⟩, rfl⟩)
      (repeat first|refine zG ?_|(refine LS.nilO ?_;intro nq hnq hltq;try refine zU ?_)|(refine MS.new ?_;intro bq hbq hbqf;try refine zU ?_)|(refine MS.nil ?_;intro nq hnq hltq;have hlq:=hltq _ _ (Hp.get_eq _ _ _);clear hltq;try refine zU ?_)|(refine LS.nilQ ?_;try with_reducible intro nq hnq;try refine zU ?_))
      refine RS.call rfl ((mul X t _ _ hXv ⟨htv, htb⟩).mono ?_)
      rintro r H5 n5 hn5 ⟨⟨L, hL, rfl⟩, rfl⟩
      (repeat first|refine zG ?_|(refine LS.nilO ?_;intro nq hnq hltq;try refine zU ?_)|(refine MS.new ?_;intro bq hbq hbqf;try refine zU ?_)|(refine MS.nil ?_;intro nq hnq hltq;have hlq:=hltq _ _ (Hp.get_eq _ _ _);clear hltq;try refine zU ?_)|(refine LS.nilQ ?_;try with_reducible intro nq hnq;try refine zU ?_))
      refine RS.call rfl ((mul w t _ _ ⟨hAl.2.2, hw⟩ ⟨htv, htb⟩).mono ?_)
      rintro r H6 n6 hn6 ⟨⟨Y, hY, rfl⟩, rfl⟩
      have hYv := pr_vec hAl.1 w t
      rw [← hY] at hYv
      (repeat first|refine zG ?_|(refine LS.nilO ?_;intro nq hnq hltq;try refine zU ?_)|(refine MS.new ?_;intro bq hbq hbqf;try refine zU ?_)|(refine MS.nil ?_;intro nq hnq hltq;have hlq:=hltq _ _ (Hp.get_eq _ _ _);clear hltq;try refine zU ?_)|(refine LS.nilQ ?_;try with_reducible intro nq hnq;try refine zU ?_))
      refine RS.call rfl ((mul v Y _ _ ⟨hAl.2.1, hv⟩ hYv).mono ?_)
      rintro r H7 n7 hn7 ⟨⟨R, hRr, rfl⟩, rfl⟩
      have hLR : ∀ q, q < 8 → L q = R q := fun q hq => by
        rw [hL, hRr, hX, hY]; exact pr_assoc ha8 hAl.1.2.2 v w t hq
      (repeat first|refine zG ?_|(refine LS.nilO ?_;intro nq hnq hltq;try refine zU ?_)|(refine MS.new ?_;intro bq hbq hbqf;try refine zU ?_)|(refine MS.nil ?_;intro nq hnq hltq;have hlq:=hltq _ _ (Hp.get_eq _ _ _);clear hltq;try refine zU ?_)|(refine LS.nilQ ?_;try with_reducible intro nq hnq;try refine zU ?_))
      obtain ⟨T, hT⟩ : ∃ T, T = lft p m v a := ⟨_, rfl⟩
      have kT : ∀ H n, FnS Tryz.prog 10 [.arr 522 K, .arr 8 (bys v)] H n (fun r H' _ => r = .tup [.arr 64 (bys T), i64 0] ∧ H' = H) := fun H n =>
        (impl_LeftTable p a u m v K H n k0 k1 hU hK hu hm hv).mono (by
          rintro r H' n' - ⟨rfl, rfl⟩
          exact ⟨by rw [ivX_t ⟨hAl.1, hAl.2.1⟩, cdz.2 ⟨hAl.1, hAl.2.1⟩, Int.toNat_natCast, hT], rfl⟩)
      refine RS.call rfl ((kT _ _).mono ?_)
      rintro r H8 n8 hn8 ⟨rfl, rfl⟩
      (repeat first|refine zG ?_|(refine LS.nilO ?_;intro nq hnq hltq;try refine zU ?_)|(refine MS.new ?_;intro bq hbq hbqf;try refine zU ?_)|(refine MS.nil ?_;intro nq hnq hltq;have hlq:=hltq _ _ (Hp.get_eq _ _ _);clear hltq;try refine zU ?_)|(refine LS.nilQ ?_;try with_reducible intro nq hnq;try refine zU ?_))
      rw [tb_true hLR]
      (repeat first|refine zG ?_|(refine LS.nilO ?_;intro nq hnq hltq;try refine zU ?_)|(refine MS.new ?_;intro bq hbq hbqf;try refine zU ?_)|(refine MS.nil ?_;intro nq hnq hltq;have hlq:=hltq _ _ (Hp.get_eq _ _ _);clear hltq;try refine zU ?_)|(refine LS.nilQ ?_;try with_reducible intro nq hnq;try refine zU ?_))
      have hTr : Bq (∀ i, i < a → ∀ q, q < 8 → T (8 * i + q) = pr p m v (bas i) a q) := ⟨fun i hi q hq => by rw [hT]; exact lft_at hi hq⟩
      clear hLR hL hRr hY hT kT
      refine CS.iter a (fun i => [(19, i64 (i : Nat)), (0, .s sv), (3, ptr n2 0), (4, ptr (n2 + 1) 0), (17, ptr n8 0)])
        (fun _ => [(n8, ⟨64, bys T, 27⟩), (n2 + 1, ⟨8, bys v, 25⟩), (n2, ⟨522, K, 31⟩)]) (fun _ => True) (by (repeat first | exact trivial | refine And.intro rfl ?_)) (by exact zD) trivial ?_
      intro i n9 hi hn9 _
      (repeat first|refine zG ?_|(refine LS.nilO ?_;intro nq hnq hltq;try refine zU ?_)|(refine MS.new ?_;intro bq hbq hbqf;try refine zU ?_)|(refine MS.nil ?_;intro nq hnq hltq;have hlq:=hltq _ _ (Hp.get_eq _ _ _);clear hltq;try refine zU ?_)|(refine LS.nilQ ?_;try with_reducible intro nq hnq;try refine zU ?_))
      refine zI ?_ ?_<;>intro h2
      · have hi' : i < a := by omega
        obtain ⟨Z, hZ⟩ : ∃ Z, Z = pr p m v (bas i) a := ⟨_, rfl⟩
        have kZ : ∀ H n, FnS Tryz.prog 7 [.arr 522 K, .arr 8 (bys v), .arr 8 (bys (bas i))] H n (fun r H' _ => r = .tup [.arr 8 (bys Z), i64 0] ∧ H' = H) := fun H n =>
          (mul v (bas i) H n ⟨hAl.2.1, hv⟩ (bas_vec hp hi')).mono (by
            rintro r H' n' - ⟨⟨x, hx, rfl⟩, rfl⟩
            rw [hx, hZ]; exact ⟨rfl, rfl⟩)
        have hTZ : ∀ q, q < 8 → T (8 * i + q) = Z q := fun q hq => by rw [hZ]; exact hTr.out i hi' q hq
        clear hZ
        (repeat first|refine zG ?_|(refine LS.nilO ?_;intro nq hnq hltq;try refine zU ?_)|(refine MS.new ?_;intro bq hbq hbqf;try refine zU ?_)|(refine MS.nil ?_;intro nq hnq hltq;have hlq:=hltq _ _ (Hp.get_eq _ _ _);clear hltq;try refine zU ?_)|(refine LS.nilQ ?_;try with_reducible intro nq hnq;try refine zU ?_))
        refine LS.callQ (.arr 8 (bys (bas i))) rfl (fun n' hn' => laws_basis5 i _ n' (by omega)) ?_
        (repeat first|refine zG ?_|(refine LS.nilO ?_;intro nq hnq hltq;try refine zU ?_)|(refine MS.new ?_;intro bq hbq hbqf;try refine zU ?_)|(refine MS.nil ?_;intro nq hnq hltq;have hlq:=hltq _ _ (Hp.get_eq _ _ _);clear hltq;try refine zU ?_)|(refine LS.nilQ ?_;try with_reducible intro nq hnq;try refine zU ?_))
        refine LS.callQ (.tup [.arr 8 (bys Z), i64 0]) rfl (fun n' hn' => kZ _ n') ?_
        (repeat first|refine zG ?_|(refine LS.nilO ?_;intro nq hnq hltq;try refine zU ?_)|(refine MS.new ?_;intro bq hbq hbqf;try refine zU ?_)|(refine MS.nil ?_;intro nq hnq hltq;have hlq:=hltq _ _ (Hp.get_eq _ _ _);clear hltq;try refine zU ?_)|(refine LS.nilQ ?_;try with_reducible intro nq hnq;try refine zU ?_))
        rw [tb_true hTZ]
        (repeat first|refine zG ?_|(refine LS.nilO ?_;intro nq hnq hltq;try refine zU ?_)|(refine MS.new ?_;intro bq hbq hbqf;try refine zU ?_)|(refine MS.nil ?_;intro nq hnq hltq;have hlq:=hltq _ _ (Hp.get_eq _ _ _);clear hltq;try refine zU ?_)|(refine LS.nilQ ?_;try with_reducible intro nq hnq;try refine zU ?_))
        exact ⟨hi', by (repeat first | exact trivial | refine And.intro rfl ?_), by exact zD, trivial⟩
      · obtain rfl : i = a := by omega
        (repeat first|refine zG ?_|(refine LS.nilO ?_;intro nq hnq hltq;try refine zU ?_)|(refine MS.new ?_;intro bq hbq hbqf;try refine zU ?_)|(refine MS.nil ?_;intro nq hnq hltq;have hlq:=hltq _ _ (Hp.get_eq _ _ _);clear hltq;try refine zU ?_)|(refine LS.nilQ ?_;try with_reducible intro nq hnq;try refine zU ?_))
        refine RS.call rfl ((impl_VectorText p i v _ _ hv ⟨hAl.1.1.1, hAl.2.1⟩).mono ?_)
        rintro r H10 n10 hn10 ⟨rfl, rfl⟩
        (repeat first|refine zG ?_|(refine LS.nilO ?_;intro nq hnq hltq;try refine zU ?_)|(refine MS.new ?_;intro bq hbq hbqf;try refine zU ?_)|(refine MS.nil ?_;intro nq hnq hltq;have hlq:=hltq _ _ (Hp.get_eq _ _ _);clear hltq;try refine zU ?_)|(refine LS.nilQ ?_;try with_reducible intro nq hnq;try refine zU ?_))
        refine RS.call rfl ((impl_ParseVector p i mx v _ _ hv ⟨hAl.1.1.1, hAl.2.1⟩ hmx).mono ?_)
        rintro r H11 n11 hn11 ⟨rfl, rfl⟩
        (repeat first|refine zG ?_|(refine LS.nilO ?_;intro nq hnq hltq;try refine zU ?_)|(refine MS.new ?_;intro bq hbq hbqf;try refine zU ?_)|(refine MS.nil ?_;intro nq hnq hltq;have hlq:=hltq _ _ (Hp.get_eq _ _ _);clear hltq;try refine zU ?_)|(refine LS.nilQ ?_;try with_reducible intro nq hnq;try refine zU ?_))
        rw [tb_true (fun _ _ => rfl)]
        (repeat first|refine zG ?_|(refine LS.nilO ?_;intro nq hnq hltq;try refine zU ?_)|(refine MS.new ?_;intro bq hbq hbqf;try refine zU ?_)|(refine MS.nil ?_;intro nq hnq hltq;have hlq:=hltq _ _ (Hp.get_eq _ _ _);clear hltq;try refine zU ?_)|(refine LS.nilQ ?_;try with_reducible intro nq hnq;try refine zU ?_))
        exact ⟨by (repeat first | exact trivial | refine And.intro rfl ?_), by exact zD⟩
    · (repeat first|refine zG ?_|(refine LS.nilO ?_;intro nq hnq hltq;try refine zU ?_)|(refine MS.new ?_;intro bq hbq hbqf;try refine zU ?_)|(refine MS.nil ?_;intro nq hnq hltq;have hlq:=hltq _ _ (Hp.get_eq _ _ _);clear hltq;try refine zU ?_)|(refine LS.nilQ ?_;try with_reducible intro nq hnq;try refine zU ?_))
      exact ⟨by (repeat first | exact trivial | refine And.intro rfl ?_), by exact zD⟩
  rintro e' H' n' hn' ⟨he', hd'⟩
  refine CS.weak he' hd' ?_
  clear he' hd' hA lo2 k0 k1 hU hu hK hm hv hw hX hc kS kI
  (repeat first|refine zG ?_|(refine LS.nilO ?_;intro nq hnq hltq;try refine zU ?_)|(refine MS.new ?_;intro bq hbq hbqf;try refine zU ?_)|(refine MS.nil ?_;intro nq hnq hltq;have hlq:=hltq _ _ (Hp.get_eq _ _ _);clear hltq;try refine zU ?_)|(refine LS.nilQ ?_;try with_reducible intro nq hnq;try refine zU ?_))
  refine RS.call rfl ((spec_DrawInverseOf m0 sv len f _ _ hR hfb hlen hm0 (by omega)).mono ?_)
  rintro r H2 n2 hn2 ⟨K, p, s, v, rfl, hA, -, -, -, -, hv, lo2⟩
  refine LS.hpd (H1 := []) (Drops.low (fun _ _ => rfl) (fun x hx => lo2 x (by omega))) ?_
  obtain ⟨k0, k1, -⟩ := id hA
  have hU := hA.u
  have hK := hA.m
  have hu := hA.uB
  have hm := hA.mB
  generalize (fun q => cu8 (K (2 + q))) = u at hU hu
  generalize (fun q => cu8 (K (10 + q))) = m at hK hm
  obtain ⟨X, hX⟩ : ∃ X, X = ivX (isAlg p s u m ∧ isVec p s v) (ivW p u m v s.toNat) := ⟨_, rfl⟩
  obtain ⟨c, hc⟩ : ∃ c, c = ivC (isAlg p s u m ∧ isVec p s v) (∃ w, isIv p u m v s.toNat w) := ⟨_, rfl⟩
  have kS : ∀ H n, FnS Tryz.prog 15 [.arr 522 K, .arr 8 (bys v)] H n (fun r H' _ => r = .tup [.arr 8 (bys X), i64 c] ∧ H' = H) := fun H n => by rw [hX, hc]; exact spec_InverseOf p s u m v K _ _ k0 k1 hU hK hu hm hv
  have kI : ∀ H n, FnS Tryz.prog 16 [.arr 522 K, .arr 8 (bys v)] H n (fun r H' _ => r = .tup [.arr 8 (bys X), i64 c] ∧ H' = H) := fun H n => by rw [hX, hc]; exact impl_InverseOf p s u m v K _ _ k0 k1 hU hK hu hm hv
  (repeat first|refine zG ?_|(refine LS.nilO ?_;intro nq hnq hltq;try refine zU ?_)|(refine MS.new ?_;intro bq hbq hbqf;try refine zU ?_)|(refine MS.nil ?_;intro nq hnq hltq;have hlq:=hltq _ _ (Hp.get_eq _ _ _);clear hltq;try refine zU ?_)|(refine LS.nilQ ?_;try with_reducible intro nq hnq;try refine zU ?_))
  refine RS.call rfl ((kS _ _).mono ?_)
  rintro r H3 n3 hn3 ⟨rfl, rfl⟩
  (repeat first|refine zG ?_|(refine LS.nilO ?_;intro nq hnq hltq;try refine zU ?_)|(refine MS.new ?_;intro bq hbq hbqf;try refine zU ?_)|(refine MS.nil ?_;intro nq hnq hltq;have hlq:=hltq _ _ (Hp.get_eq _ _ _);clear hltq;try refine zU ?_)|(refine LS.nilQ ?_;try with_reducible intro nq hnq;try refine zU ?_))
  refine RS.call rfl ((kI _ _).mono ?_)
  rintro r H4 n4 hn4 ⟨rfl, rfl⟩
  (repeat first|refine zG ?_|(refine LS.nilO ?_;intro nq hnq hltq;try refine zU ?_)|(refine MS.new ?_;intro bq hbq hbqf;try refine zU ?_)|(refine MS.nil ?_;intro nq hnq hltq;have hlq:=hltq _ _ (Hp.get_eq _ _ _);clear hltq;try refine zU ?_)|(refine LS.nilQ ?_;try with_reducible intro nq hnq;try refine zU ?_))
  rw [bne_self_eq_false]
  (repeat first|refine zG ?_|(refine LS.nilO ?_;intro nq hnq hltq;try refine zU ?_)|(refine MS.new ?_;intro bq hbq hbqf;try refine zU ?_)|(refine MS.nil ?_;intro nq hnq hltq;have hlq:=hltq _ _ (Hp.get_eq _ _ _);clear hltq;try refine zU ?_)|(refine LS.nilQ ?_;try with_reducible intro nq hnq;try refine zU ?_))
  rw [tb_true (fun _ _ => rfl)]
  (repeat first|refine zG ?_|(refine LS.nilO ?_;intro nq hnq hltq;try refine zU ?_)|(refine MS.new ?_;intro bq hbq hbqf;try refine zU ?_)|(refine MS.nil ?_;intro nq hnq hltq;have hlq:=hltq _ _ (Hp.get_eq _ _ _);clear hltq;try refine zU ?_)|(refine LS.nilQ ?_;try with_reducible intro nq hnq;try refine zU ?_))
  refine CS.join (J := fun e' H' _ => EnvLe [(0, .s sv)] e' ∧ Drops n H' []) ?_ ?_
  · refine zI ?_ ?_<;>intro h1
    · obtain ⟨hAl, hE⟩ := ivC_zero (by rw [← hc]; exact h1)
      clear kS kI
      obtain ⟨a, rfl, ha1, ha8⟩ := alg_sz hAl.1
      rw [ivX_t hAl, Int.toNat_natCast] at hX
      rw [Int.toNat_natCast] at hE
      have hi := ivW_is hE
      rw [← hX] at hi
      clear hX hc
      obtain ⟨hXv, hXb, hi2, hback, hunit⟩ := iv_back hAl.1 hu hAl.2 hv hi
      obtain ⟨V, hV⟩ : ∃ V, V = ivW p u m X a := ⟨_, rfl⟩
      obtain ⟨U, hUU⟩ : ∃ U, U = pr p m X v a := ⟨_, rfl⟩
      have kV : ∀ H n, FnS Tryz.prog 16 [.arr 522 K, .arr 8 (bys X)] H n (fun r H' _ => r = .tup [.arr 8 (bys V), i64 0] ∧ H' = H) := fun H n =>
        (impl_InverseOf p a u m X K H n k0 k1 hU hK hu hm hXb).mono (by
          rintro r H' n' - ⟨rfl, rfl⟩
          exact ⟨by rw [ivX_t ⟨hAl.1, hXv⟩, Int.toNat_natCast, ivC_0 ⟨hAl.1, hXv⟩ ⟨v, hi2⟩, hV], rfl⟩)
      have kU : ∀ H n, FnS Tryz.prog 7 [.arr 522 K, .arr 8 (bys X), .arr 8 (bys v)] H n (fun r H' _ => r = .tup [.arr 8 (bys U), i64 0] ∧ H' = H) := fun H n =>
        (impl_MultiplyVectors p a u m X v K H n k0 k1 hU hK hu hm hXb hv).mono (by
          rintro r H' n' - ⟨rfl, rfl⟩
          exact ⟨by rw [ivX_t ⟨hAl.1, hXv, hAl.2⟩, Int.toNat_natCast, cdz.2 ⟨hAl.1, hXv, hAl.2⟩, hUU], rfl⟩)
      rw [← hV] at hback
      rw [← hUU] at hunit
      clear hV hUU
      (repeat first|refine zG ?_|(refine LS.nilO ?_;intro nq hnq hltq;try refine zU ?_)|(refine MS.new ?_;intro bq hbq hbqf;try refine zU ?_)|(refine MS.nil ?_;intro nq hnq hltq;have hlq:=hltq _ _ (Hp.get_eq _ _ _);clear hltq;try refine zU ?_)|(refine LS.nilQ ?_;try with_reducible intro nq hnq;try refine zU ?_))
      refine RS.call rfl ((kV _ _).mono ?_)
      rintro r H5 n5 hn5 ⟨rfl, rfl⟩
      (repeat first|refine zG ?_|(refine LS.nilO ?_;intro nq hnq hltq;try refine zU ?_)|(refine MS.new ?_;intro bq hbq hbqf;try refine zU ?_)|(refine MS.nil ?_;intro nq hnq hltq;have hlq:=hltq _ _ (Hp.get_eq _ _ _);clear hltq;try refine zU ?_)|(refine LS.nilQ ?_;try with_reducible intro nq hnq;try refine zU ?_))
      refine RS.call rfl ((kU _ _).mono ?_)
      rintro r H6 n6 hn6 ⟨rfl, rfl⟩
      (repeat first|refine zG ?_|(refine LS.nilO ?_;intro nq hnq hltq;try refine zU ?_)|(refine MS.new ?_;intro bq hbq hbqf;try refine zU ?_)|(refine MS.nil ?_;intro nq hnq hltq;have hlq:=hltq _ _ (Hp.get_eq _ _ _);clear hltq;try refine zU ?_)|(refine LS.nilQ ?_;try with_reducible intro nq hnq;try refine zU ?_))
      rw [tb_true hback]
      (repeat first|refine zG ?_|(refine LS.nilO ?_;intro nq hnq hltq;try refine zU ?_)|(refine MS.new ?_;intro bq hbq hbqf;try refine zU ?_)|(refine MS.nil ?_;intro nq hnq hltq;have hlq:=hltq _ _ (Hp.get_eq _ _ _);clear hltq;try refine zU ?_)|(refine LS.nilQ ?_;try with_reducible intro nq hnq;try refine zU ?_))
      rw [tb_true hunit]
      (repeat first|refine zG ?_|(refine LS.nilO ?_;intro nq hnq hltq;try refine zU ?_)|(refine MS.new ?_;intro bq hbq hbqf;try refine zU ?_)|(refine MS.nil ?_;intro nq hnq hltq;have hlq:=hltq _ _ (Hp.get_eq _ _ _);clear hltq;try refine zU ?_)|(refine LS.nilQ ?_;try with_reducible intro nq hnq;try refine zU ?_))
      exact ⟨by (repeat first | exact trivial | refine And.intro rfl ?_), by exact zD⟩
    · (repeat first|refine zG ?_|(refine LS.nilO ?_;intro nq hnq hltq;try refine zU ?_)|(refine MS.new ?_;intro bq hbq hbqf;try refine zU ?_)|(refine MS.nil ?_;intro nq hnq hltq;have hlq:=hltq _ _ (Hp.get_eq _ _ _);clear hltq;try refine zU ?_)|(refine LS.nilQ ?_;try with_reducible intro nq hnq;try refine zU ?_))
      exact ⟨by (repeat first | exact trivial | refine And.intro rfl ?_), by exact zD⟩
  rintro e' H' n' hn' ⟨he', hd'⟩
  refine CS.weak he' hd' ?_
  clear he' hd' hA lo2 k0 k1 hU hu hK hm hv hX hc kS kI
  (repeat first|refine zG ?_|(refine LS.nilO ?_;intro nq hnq hltq;try refine zU ?_)|(refine MS.new ?_;intro bq hbq hbqf;try refine zU ?_)|(refine MS.nil ?_;intro nq hnq hltq;have hlq:=hltq _ _ (Hp.get_eq _ _ _);clear hltq;try refine zU ?_)|(refine LS.nilQ ?_;try with_reducible intro nq hnq;try refine zU ?_))
  refine RS.call rfl ((spec_DrawPowerOf m0 sv len f _ _ hR hfb hlen hm0 (by omega)).mono ?_)
  rintro r H2 n2 hn2 ⟨K, p, s, v, kk, rfl, hA, -, -, -, -, hv, -, -, lo2⟩
  refine LS.hpd (H1 := []) (Drops.low (fun _ _ => rfl) (fun x hx => lo2 x (by omega))) ?_
  obtain ⟨k0, k1, -⟩ := id hA
  have hU := hA.u
  have hK := hA.m
  have hu := hA.uB
  have hm := hA.mB
  generalize (fun q => cu8 (K (2 + q))) = u at hU hu
  generalize (fun q => cu8 (K (10 + q))) = m at hK hm
  obtain ⟨X, hX⟩ : ∃ X, X = ivX ((isAlg p s u m ∧ isVec p s v) ∧ 0 ≤ kk ∧ kk ≤ 100) (pw p m u v s.toNat kk.toNat) := ⟨_, rfl⟩
  obtain ⟨c, hc⟩ : ∃ c, c = pwC (isAlg p s u m ∧ isVec p s v) (0 ≤ kk ∧ kk ≤ 100) := ⟨_, rfl⟩
  have kS : ∀ H n, FnS Tryz.prog 18 [.arr 522 K, .arr 8 (bys v), i64 kk] H n (fun r H' _ => r = .tup [.arr 8 (bys X), i64 c] ∧ H' = H) := fun H n => by rw [hX, hc]; exact spec_PowerOf p s kk u m v K _ _ k0 k1 hU hK hu hm hv
  have kI : ∀ H n, FnS Tryz.prog 19 [.arr 522 K, .arr 8 (bys v), i64 kk] H n (fun r H' _ => r = .tup [.arr 8 (bys X), i64 c] ∧ H' = H) := fun H n => by rw [hX, hc]; exact impl_PowerOf p s kk u m v K _ _ k0 k1 hU hK hu hm hv
  (repeat first|refine zG ?_|(refine LS.nilO ?_;intro nq hnq hltq;try refine zU ?_)|(refine MS.new ?_;intro bq hbq hbqf;try refine zU ?_)|(refine MS.nil ?_;intro nq hnq hltq;have hlq:=hltq _ _ (Hp.get_eq _ _ _);clear hltq;try refine zU ?_)|(refine LS.nilQ ?_;try with_reducible intro nq hnq;try refine zU ?_))
  refine RS.call rfl ((kS _ _).mono ?_)
  rintro r H3 n3 hn3 ⟨rfl, rfl⟩
  (repeat first|refine zG ?_|(refine LS.nilO ?_;intro nq hnq hltq;try refine zU ?_)|(refine MS.new ?_;intro bq hbq hbqf;try refine zU ?_)|(refine MS.nil ?_;intro nq hnq hltq;have hlq:=hltq _ _ (Hp.get_eq _ _ _);clear hltq;try refine zU ?_)|(refine LS.nilQ ?_;try with_reducible intro nq hnq;try refine zU ?_))
  refine RS.call rfl ((kI _ _).mono ?_)
  rintro r H4 n4 hn4 ⟨rfl, rfl⟩
  (repeat first|refine zG ?_|(refine LS.nilO ?_;intro nq hnq hltq;try refine zU ?_)|(refine MS.new ?_;intro bq hbq hbqf;try refine zU ?_)|(refine MS.nil ?_;intro nq hnq hltq;have hlq:=hltq _ _ (Hp.get_eq _ _ _);clear hltq;try refine zU ?_)|(refine LS.nilQ ?_;try with_reducible intro nq hnq;try refine zU ?_))
  obtain ⟨H0, hH0⟩ : ∃ H0 : Hp, H0 = [(n4, ⟨8, bys X, 25⟩), (n3, ⟨8, bys X, 25⟩)] := ⟨_, rfl⟩
  refine LS.hpd (H1 := H0) (by rw [hH0]; exact zD) ?_
  have low0 : ∀ x, x < m0 → H0.get x = none := fun x hx => by rw [hH0]; simp (disch := omega) only [Hp.get_ne]; rfl
  have fr0 : ∀ x, n4 + 1 ≤ x → H0.get x = none := fun x hx => by rw [hH0]; simp (disch := omega) only [Hp.get_ne]; rfl
  clear hA lo2 k0 k1 hU hu hK hm hv hX hc kS kI
  refine RS.call rfl ((spec_DrawLeftTable m0 sv len f _ _ hR hfb hlen low0 (by omega)).mono ?_)
  rintro r H2 n2 hn2 ⟨K, p, s, v, rfl, hA, -, -, -, -, hv, lo2⟩
  refine LS.hpd (H1 := H0) (Drops.less (m2 := n4 + 1) (Drops.low fr0 lo2) (by omega)) ?_
  rw [hH0]
  obtain ⟨k0, k1, -⟩ := id hA
  have hU := hA.u
  have hK := hA.m
  have hu := hA.uB
  have hm := hA.mB
  generalize (fun q => cu8 (K (2 + q))) = u at hU hu
  generalize (fun q => cu8 (K (10 + q))) = m at hK hm
  obtain ⟨T, hT⟩ : ∃ T, T = ivX (isAlg p s u m ∧ isVec p s v) (lft p m v s.toNat) := ⟨_, rfl⟩
  obtain ⟨d, hd⟩ : ∃ d, d = cd (isAlg p s u m ∧ isVec p s v) := ⟨_, rfl⟩
  obtain ⟨tr, htr⟩ : ∃ t, t = ivN (isAlg p s u m ∧ isVec p s v) (trcN p (lft p m v s.toNat) s.toNat) := ⟨_, rfl⟩
  have kS : ∀ H n, FnS Tryz.prog 21 [.arr 522 K, .arr 8 (bys v)] H n (fun r H' _ => r = .tup [.arr 64 (bys T), i64 d] ∧ H' = H) := fun H n => by rw [hT, hd]; exact spec_LeftTable p s u m v K _ _ k0 k1 hU hK hu hm hv
  have kI : ∀ H n, FnS Tryz.prog 10 [.arr 522 K, .arr 8 (bys v)] H n (fun r H' _ => r = .tup [.arr 64 (bys T), i64 d] ∧ H' = H) := fun H n => by rw [hT, hd]; exact impl_LeftTable p s u m v K _ _ k0 k1 hU hK hu hm hv
  have jS : ∀ H n, FnS Tryz.prog 22 [.arr 522 K, .arr 8 (bys v)] H n (fun r H' _ => r = .tup [i64 tr, i64 d] ∧ H' = H) := fun H n => by rw [htr, hd]; exact spec_TraceOf p s u m v K _ _ k0 k1 hU hK hu hm hv
  have jI : ∀ H n, FnS Tryz.prog 23 [.arr 522 K, .arr 8 (bys v)] H n (fun r H' _ => r = .tup [i64 tr, i64 d] ∧ H' = H) := fun H n => by rw [htr, hd]; exact impl_TraceOf p s u m v K _ _ k0 k1 hU hK hu hm hv
  clear hT hd htr
  (repeat first|refine zG ?_|(refine LS.nilO ?_;intro nq hnq hltq;try refine zU ?_)|(refine MS.new ?_;intro bq hbq hbqf;try refine zU ?_)|(refine MS.nil ?_;intro nq hnq hltq;have hlq:=hltq _ _ (Hp.get_eq _ _ _);clear hltq;try refine zU ?_)|(refine LS.nilQ ?_;try with_reducible intro nq hnq;try refine zU ?_))
  refine RS.call rfl ((kS _ _).mono ?_)
  rintro r H5 n5 hn5 ⟨rfl, rfl⟩
  (repeat first|refine zG ?_|(refine LS.nilO ?_;intro nq hnq hltq;try refine zU ?_)|(refine MS.new ?_;intro bq hbq hbqf;try refine zU ?_)|(refine MS.nil ?_;intro nq hnq hltq;have hlq:=hltq _ _ (Hp.get_eq _ _ _);clear hltq;try refine zU ?_)|(refine LS.nilQ ?_;try with_reducible intro nq hnq;try refine zU ?_))
  refine RS.call rfl ((kI _ _).mono ?_)
  rintro r H6 n6 hn6 ⟨rfl, rfl⟩
  (repeat first|refine zG ?_|(refine LS.nilO ?_;intro nq hnq hltq;try refine zU ?_)|(refine MS.new ?_;intro bq hbq hbqf;try refine zU ?_)|(refine MS.nil ?_;intro nq hnq hltq;have hlq:=hltq _ _ (Hp.get_eq _ _ _);clear hltq;try refine zU ?_)|(refine LS.nilQ ?_;try with_reducible intro nq hnq;try refine zU ?_))
  refine RS.call rfl ((jS _ _).mono ?_)
  rintro r H7 n7 hn7 ⟨rfl, rfl⟩
  (repeat first|refine zG ?_|(refine LS.nilO ?_;intro nq hnq hltq;try refine zU ?_)|(refine MS.new ?_;intro bq hbq hbqf;try refine zU ?_)|(refine MS.nil ?_;intro nq hnq hltq;have hlq:=hltq _ _ (Hp.get_eq _ _ _);clear hltq;try refine zU ?_)|(refine LS.nilQ ?_;try with_reducible intro nq hnq;try refine zU ?_))
  refine RS.call rfl ((jI _ _).mono ?_)
  rintro r H8 n8 hn8 ⟨rfl, rfl⟩
  (repeat first|refine zG ?_|(refine LS.nilO ?_;intro nq hnq hltq;try refine zU ?_)|(refine MS.new ?_;intro bq hbq hbqf;try refine zU ?_)|(refine MS.nil ?_;intro nq hnq hltq;have hlq:=hltq _ _ (Hp.get_eq _ _ _);clear hltq;try refine zU ?_)|(refine LS.nilQ ?_;try with_reducible intro nq hnq;try refine zU ?_))
  rw [beq_self_eq_true]
  (repeat first|refine zG ?_|(refine LS.nilO ?_;intro nq hnq hltq;try refine zU ?_)|(refine MS.new ?_;intro bq hbq hbqf;try refine zU ?_)|(refine MS.nil ?_;intro nq hnq hltq;have hlq:=hltq _ _ (Hp.get_eq _ _ _);clear hltq;try refine zU ?_)|(refine LS.nilQ ?_;try with_reducible intro nq hnq;try refine zU ?_))
  rw [tb_true (fun _ _ => rfl)]
  (repeat first|refine zG ?_|(refine LS.nilO ?_;intro nq hnq hltq;try refine zU ?_)|(refine MS.new ?_;intro bq hbq hbqf;try refine zU ?_)|(refine MS.nil ?_;intro nq hnq hltq;have hlq:=hltq _ _ (Hp.get_eq _ _ _);clear hltq;try refine zU ?_)|(refine LS.nilQ ?_;try with_reducible intro nq hnq;try refine zU ?_))
  rw [beq_self_eq_true]
  (repeat first|refine zG ?_|(refine LS.nilO ?_;intro nq hnq hltq;try refine zU ?_)|(refine MS.new ?_;intro bq hbq hbqf;try refine zU ?_)|(refine MS.nil ?_;intro nq hnq hltq;have hlq:=hltq _ _ (Hp.get_eq _ _ _);clear hltq;try refine zU ?_)|(refine LS.nilQ ?_;try with_reducible intro nq hnq;try refine zU ?_))
  rw [tb_true (fun _ _ => rfl)]
  (repeat first|refine zG ?_|(refine LS.nilO ?_;intro nq hnq hltq;try refine zU ?_)|(refine MS.new ?_;intro bq hbq hbqf;try refine zU ?_)|(refine MS.nil ?_;intro nq hnq hltq;have hlq:=hltq _ _ (Hp.get_eq _ _ _);clear hltq;try refine zU ?_)|(refine LS.nilQ ?_;try with_reducible intro nq hnq;try refine zU ?_))
  rw [beq_self_eq_true]
  (repeat first|refine zG ?_|(refine LS.nilO ?_;intro nq hnq hltq;try refine zU ?_)|(refine MS.new ?_;intro bq hbq hbqf;try refine zU ?_)|(refine MS.nil ?_;intro nq hnq hltq;have hlq:=hltq _ _ (Hp.get_eq _ _ _);clear hltq;try refine zU ?_)|(refine LS.nilQ ?_;try with_reducible intro nq hnq;try refine zU ?_))
  rw [beq_self_eq_true]
  (repeat first|refine zG ?_|(refine LS.nilO ?_;intro nq hnq hltq;try refine zU ?_)|(refine MS.new ?_;intro bq hbq hbqf;try refine zU ?_)|(refine MS.nil ?_;intro nq hnq hltq;have hlq:=hltq _ _ (Hp.get_eq _ _ _);clear hltq;try refine zU ?_)|(refine LS.nilQ ?_;try with_reducible intro nq hnq;try refine zU ?_))
  exact ⟨_, [], rfl, by exact zD, rfl, rfl⟩

end Go.Proofs.YtgnphaopeplfbaaGreatDoor

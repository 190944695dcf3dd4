/- Ideals of normal sub Hopf algebras: lists that two calls return, the law. -/
import Derived.Test.YtideblodkkgodaaGreatJbx
import Derived.Test.YtideblodkkgodaaGreatJbr
import Derived.Test.YtideblodkkgodaaGreatJam
set_option linter.unusedSectionVars false
set_option linter.unusedVariables false
set_option linter.unusedSimpArgs false

namespace Go.V

set_option linter.unusedSimpArgs false

set_option linter.unusedVariables false

/-- A list where G holds, nothing where not. -/
def VG (G : Prop) (H : Hp) (v : SV) (m : Nat) (I : Nat → Nat → Int) (b : Nat) : Prop := (¬G ∧ v = .nils ∧ m = 0) ∨ (G ∧ VL H v m I b)

theorem VG.keep {G : Prop} {H H' : Hp} {v : SV} {m : Nat} {I : Nat → Nat → Int} {b : Nat} (h : VG G H v m I b) (hg : G → H'.get b = H.get b) : VG G H' v m I b := by
  rcases h with h | ⟨h1, h2⟩
  · exact .inl h
  · exact .inr ⟨h1, h2.keep (hg h1)⟩

/-- What a call returns: a list and a code. -/
def RI (C : Int) (G : Prop) (m : Nat) (A : Nat → Nat → Int) (H : Hp) (n : Nat) (r : AV) (H' : Hp) (n' : Nat) : Prop :=
  ∃ sv b, r = .tup [.s sv, i64 C] ∧ VG G H' sv m A b ∧ m ≤ 8 ∧ (G → n ≤ b ∧ b < n') ∧ (∀ x, n' ≤ x → H'.get x = none) ∧ ∀ x, x < n → H'.get x = H.get x

noncomputable def iom (h : HT) (L : Nat → Nat → Int) (k : Nat) : Nat := if tb (hok h L k ∧ iogd h L k) = true then (ioA h L k).2.1 else 0

theorem IOP.ri {h : HT} {L : Nat → Nat → Int} {k : Nat} {r : AV} {H H' : Hp} {n n' : Nat} (q : IOP h L k r H' n n' ∧ (∀ x, n' ≤ x → H'.get x = none) ∧ ∀ x, x < n → H'.get x = H.get x) :
    RI (k5 (hok h L k) (iogd h L k)) (hok h L k ∧ iogd h L k) (iom h L k) (ioA h L k).1 H n r H' n' := by
  obtain ⟨⟨sv, rfl, q1, q2⟩, q3, q4⟩ := q
  by_cases g : hok h L k ∧ iogd h L k
  · obtain ⟨h8, b, V, hb1, hb2⟩ := q2 g
    have e : iom h L k = (ioA h L k).2.1 := by unfold iom; rw [if_pos (tb_true g)]
    exact ⟨sv, b, rfl, .inr ⟨g, by rw [e]; exact V⟩, by rw [e]; exact h8, fun _ => ⟨hb1, hb2⟩, q3, q4⟩
  · have e : iom h L k = 0 := by unfold iom; rw [tb_false g, if_neg (by simp)]
    exact ⟨sv, 0, rfl, .inl ⟨g, q1 g, e⟩, by rw [e]; omega, fun q => absurd q g, q3, q4⟩

end Go.V

namespace Go.Proofs.YtideblodkkgodaaGreat

open Go.V

variable [BW]

set_option linter.unusedSimpArgs false

set_option linter.unusedVariables false

set_option maxHeartbeats 4000000

theorem laws_markVectorSG (m b : Nat) (I : Nat → Nat → Int) (v : SV) (H : Hp) (n : Nat) (hm : m ≤ 1000000) (hV : VL H v m I b) :
    FnS Tryz.prog 11 [.s v, i64 101] H n (fun r H' _ => r = i64 ((101 + 8 * m : Nat) : Int) ∧ ∀ x, x ≠ b → H'.get x = H.get x) := by
  obtain ⟨o, cap, K, rfl, gb, ho, hmc, hc⟩ := hV
  refine FnS.of_body Tryz.func11 tr11 (by simp) (fun hf => ?_)
  dsimp only [argEnv]
  unfold ir11
  have hbn := getlt hf gb
  (refine zG ?_)
  refine CS.iterJ m (fun i => [(5, i64 (i : Nat)), (0, .s (.slc b o m cap)), (1, i64 ((101 + 8 * i : Nat) : Int))])
    (fun i H1 _ => ∃ K1, H1.get b = some K1 ∧ K1.size = K.size ∧ ∀ x, x ≠ b → H1.get x = H.get x) (by (repeat first | exact trivial | refine And.intro rfl ?_)) ⟨K, gb, rfl, fun x _ => rfl⟩ ?_
  rintro i n1 H1 hi hn1 ⟨K1, g1, s1, l1⟩
  (refine zG ?_)
  refine zI ?_ ?_<;>intro h1
  · have hi' : i < m := by omega
    (refine zG ?_)
    refine CS.iterJ 8 (fun j => [(6, i64 (j : Nat)), (5, i64 (i : Nat)), (0, .s (.slc b o m cap)), (1, i64 ((101 + 8 * i + j : Nat) : Int))])
      (fun j H1 _ => ∃ K1, H1.get b = some K1 ∧ K1.size = K.size ∧ ∀ x, x ≠ b → H1.get x = H.get x) (by (repeat first | exact trivial | refine And.intro rfl ?_)) ⟨K1, g1, s1, l1⟩ ?_
    clear g1 s1 l1
    rintro j n2 H2 hj hn2 ⟨K2, g2, s2, l2⟩
    (refine zG ?_)
    refine zI ?_ ?_<;>intro h2
    · have hj' : j < 8 := by omega
      (refine zG ?_)
      refine RS.cvw (by exact rfl) ?_
      (refine zG ?_)
      exact ⟨by omega, by (repeat first | exact trivial | refine And.intro rfl ?_), _, Drops.refl _ _, ⟨K2.size, _, K2.ty⟩, Hp.get_set_self _ g2, s2, fun x hx => by rw [Hp.get_set_other _ (fun q => hx q.symm)]; exact l2 x hx⟩
    · obtain rfl : j = 8 := by omega
      (refine zG ?_)
      exact ⟨by omega, by (repeat first | exact trivial | refine And.intro rfl ?_), H2, Drops.refl _ _, K2, g2, s2, l2⟩
  · obtain rfl : m = i := by omega
    (refine zG ?_)
    exact ⟨_, H1, rfl, Drops.refl _ _, rfl, l1⟩

theorem laws_markVectorS0 (H : Hp) (n : Nat) : FnS Tryz.prog 11 [.s .nils, i64 101] H n (fun r H' _ => r = i64 101 ∧ H' = H) := by
  refine FnS.of_body Tryz.func11 tr11 (by simp) (fun hf => ?_)
  dsimp only [argEnv]
  unfold ir11
  (refine zG ?_)
  refine CS.iter 0 (fun i => [(5, i64 (i : Nat)), (0, .s .nils), (1, i64 101)]) (fun _ => H) (fun _ => True) (by (repeat first | exact trivial | refine And.intro rfl ?_)) (Drops.refl _ _) trivial ?_
  intro i n1 hi hn _
  obtain rfl : i = 0 := by omega
  (refine zG ?_)
  exact ⟨_, H, rfl, by exact zD, rfl, rfl⟩

theorem laws_heldVectorS0 (H : Hp) (n : Nat) : FnS Tryz.prog 12 [.s .nils, i64 101] H n (fun r H' _ => r = i64 101 ∧ H' = H) := by
  refine FnS.of_body Tryz.func12 tr12 (by simp) (fun hf => ?_)
  dsimp only [argEnv]
  unfold ir12
  (refine zG ?_)
  refine CS.iter 0 (fun i => [(5, i64 (i : Nat)), (0, .s .nils), (1, i64 101)]) (fun _ => H) (fun _ => True) (by (repeat first | exact trivial | refine And.intro rfl ?_)) (Drops.refl _ _) trivial ?_
  intro i n1 hi hn _
  obtain rfl : i = 0 := by omega
  (refine zG ?_)
  exact ⟨_, H, rfl, by exact zD, rfl, rfl⟩

theorem laws_eqG (G : Prop) (m b b' : Nat) (I : Nat → Nat → Int) (v w : SV) (H : Hp) (n : Nat) (hm : m ≤ 8) (hV : VG G H v m I b) (hW : VG G H w m I b') :
    FnS Tryz.prog 9 [.s v, .s w] H n (fun r H' _ => r = bl true ∧ H' = H) := by
  rcases hV with ⟨g, rfl, rfl⟩ | ⟨g, hV⟩
  · rcases hW with ⟨-, rfl, -⟩ | ⟨g', -⟩
    · exact laws_eqVectorS0 H n
    · exact absurd g' g
  · rcases hW with ⟨g', -⟩ | ⟨-, hW⟩
    · exact absurd g g'
    · exact laws_eqVectorS m b b' I I v w H n (by omega) hV hW (fun _ _ _ _ => rfl)

theorem laws_markG (G : Prop) (m b : Nat) (I : Nat → Nat → Int) (v : SV) (H : Hp) (n : Nat) (hm : m ≤ 8) (hV : VG G H v m I b) :
    FnS Tryz.prog 11 [.s v, i64 101] H n (fun r H' _ => r = i64 ((101 + 8 * m : Nat) : Int) ∧ VG G H' v m (fun i x => ((101 + 8 * i + x : Nat) : Int)) b ∧ ∀ x, (G → x ≠ b) → H'.get x = H.get x) := by
  rcases hV with ⟨g, rfl, rfl⟩ | ⟨g, hV⟩
  · exact (laws_markVectorS0 H n).mono (fun r H' _ _ q => ⟨q.1, .inl ⟨g, rfl, rfl⟩, fun x _ => by rw [q.2]⟩)
  · exact (laws_markVectorS m b I v H n hm hV).mono (fun r H' _ _ q => ⟨q.1, .inr ⟨g, q.2.1⟩, fun x hx => q.2.2 x (hx g)⟩)

theorem laws_heldG (G : Prop) (m b : Nat) (v : SV) (H : Hp) (n : Nat) (hm : m ≤ 8) (hV : VG G H v m (fun i x => ((101 + 8 * i + x : Nat) : Int)) b) :
    FnS Tryz.prog 12 [.s v, i64 101] H n (fun r H' _ => r = i64 ((101 + 8 * m : Nat) : Int) ∧ H' = H) := by
  rcases hV with ⟨g, rfl, rfl⟩ | ⟨g, hV⟩
  · exact (laws_heldVectorS0 H n).mono (fun r H' _ _ q => ⟨q.1, q.2⟩)
  · exact laws_heldVectorS m b v H n hm hV

/-- laws.FnExactIdealOfSub -/
def ir3 : Cd := (.seq (.reg [⟨some 2,none,.box 26 (.t 0)⟩,⟨some 4,none,.mov (.c (.bool false))⟩]) (.seq (.reg [⟨some 5,none,.mov (.c (.int .i64 1000000))⟩]) (.seq (.reg [⟨some 16,none,.mov (.t 1)⟩,⟨some 17,none,.mov (.t 5)⟩,⟨some 18,none,.call 4 [(.t 16),(.t 17)]⟩,⟨some 5,none,.mov (.t 18)⟩]) (.seq (.seq (.reg [⟨some 19,none,.mov (.t 5)⟩,⟨some 20,none,.bin .lss (.t 19) (.c (.int .i64 0))⟩]) (.cond (.t 20) (.seq (.reg [⟨some 4,none,.mov (.c (.bool true))⟩]) .ret) .skip)) (.seq (.reg [⟨some 22,none,.ld (some 1106) (.t 2)⟩,⟨some 23,none,.call 6 [(.t 22)]⟩,⟨some 24,none,.mov (.t 1)⟩,⟨some 25,none,.call 7 [(.t 24),(.c (.bool false))]⟩,⟨some 26,none,.call 5 [(.t 23),(.t 25)]⟩,⟨some 21,none,.mov (.t 26)⟩,⟨some 27,none,.ex (.t 21) 0⟩,⟨some 28,none,.ex (.t 21) 1⟩,⟨some 6,none,.mov (.t 27)⟩,⟨some 7,none,.mov (.t 28)⟩]) (.seq (.reg [⟨some 29,none,.mov (.t 1)⟩,⟨some 30,none,.call 7 [(.t 29),(.c (.bool false))]⟩,⟨some 8,none,.mov (.t 30)⟩]) (.seq (.reg [⟨some 32,none,.ld (some 1106) (.t 2)⟩,⟨some 33,none,.call 6 [(.t 32)]⟩,⟨some 34,none,.mov (.t 8)⟩,⟨some 35,none,.call 8 [(.t 33),(.t 34)]⟩,⟨some 31,none,.mov (.t 35)⟩,⟨some 36,none,.ex (.t 31) 0⟩,⟨some 37,none,.ex (.t 31) 1⟩,⟨some 9,none,.mov (.t 36)⟩,⟨some 10,none,.mov (.t 37)⟩]) (.seq (.seq (.reg [⟨some 38,none,.mov (.t 9)⟩,⟨some 39,none,.mov (.t 6)⟩,⟨some 40,none,.call 9 [(.t 38),(.t 39)]⟩,⟨some 41,none,.un .not (.t 40)⟩,⟨some 42,none,.mov (.t 41)⟩,⟨some 43,(some (42,false)),.mov (.t 10)⟩,⟨some 44,(some (42,false)),.mov (.t 7)⟩,⟨some 45,(some (42,false)),.bin .neq (.t 43) (.t 44)⟩,⟨some 46,none,.pick (.t 42) (.c (.bool true)) (.t 45)⟩]) (.cond (.t 46) (.seq (.reg [⟨some 4,none,.mov (.c (.bool false))⟩]) .ret) .skip)) (.seq (.seq (.reg [⟨some 47,none,.mov (.t 8)⟩,⟨some 48,none,.mov (.t 1)⟩,⟨some 49,none,.call 7 [(.t 48),(.c (.bool false))]⟩,⟨some 50,none,.call 10 [(.t 47),(.t 49)]⟩,⟨some 51,none,.un .not (.t 50)⟩]) (.cond (.t 51) (.seq (.reg [⟨some 4,none,.mov (.c (.bool false))⟩]) .ret) .skip)) (.seq (.reg [⟨some 11,none,.mov (.c (.int .i64 101))⟩]) (.seq (.reg [⟨some 52,none,.mov (.t 8)⟩,⟨some 53,none,.mov (.t 11)⟩,⟨some 54,none,.call 11 [(.t 52),(.t 53)]⟩,⟨some 11,none,.mov (.t 54)⟩]) (.seq (.seq (.reg [⟨some 55,none,.mov (.t 11)⟩,⟨some 56,none,.bin .lss (.t 55) (.c (.int .i64 0))⟩,⟨some 57,none,.mov (.t 56)⟩,⟨some 58,(some (57,false)),.mov (.t 9)⟩,⟨some 59,(some (57,false)),.mov (.t 6)⟩,⟨some 60,(some (57,false)),.call 9 [(.t 58),(.t 59)]⟩,⟨some 61,(some (57,false)),.un .not (.t 60)⟩,⟨some 62,none,.pick (.t 57) (.c (.bool true)) (.t 61)⟩,⟨some 63,none,.mov (.t 62)⟩,⟨some 64,(some (63,false)),.mov (.t 10)⟩,⟨some 65,(some (63,false)),.mov (.t 7)⟩,⟨some 66,(some (63,false)),.bin .neq (.t 64) (.t 65)⟩,⟨some 67,none,.pick (.t 63) (.c (.bool true)) (.t 66)⟩]) (.cond (.t 67) (.seq (.reg [⟨some 4,none,.mov (.c (.bool false))⟩]) .ret) .skip)) (.seq (.reg [⟨some 12,none,.mov (.c (.int .i64 101))⟩]) (.seq (.reg [⟨some 68,none,.mov (.t 9)⟩,⟨some 69,none,.mov (.t 12)⟩,⟨some 70,none,.call 11 [(.t 68),(.t 69)]⟩,⟨some 12,none,.mov (.t 70)⟩]) (.seq (.reg [⟨some 13,none,.mov (.c (.int .i64 101))⟩]) (.seq (.reg [⟨some 71,none,.mov (.t 9)⟩,⟨some 72,none,.mov (.t 13)⟩,⟨some 73,none,.call 12 [(.t 71),(.t 72)]⟩,⟨some 13,none,.mov (.t 73)⟩]) (.seq (.seq (.reg [⟨some 74,none,.mov (.t 13)⟩,⟨some 75,none,.bin .lss (.t 74) (.c (.int .i64 0))⟩]) (.cond (.t 75) (.seq (.reg [⟨some 4,none,.mov (.c (.bool false))⟩]) .ret) .skip)) (.seq (.seq (.reg [⟨some 76,none,.mov (.t 13)⟩,⟨some 77,none,.mov (.t 12)⟩,⟨some 78,none,.bin .neq (.t 76) (.t 77)⟩]) (.cond (.t 78) (.seq (.reg [⟨some 4,none,.mov (.c (.bool false))⟩]) .ret) .skip)) (.seq (.reg [⟨some 80,none,.ld (some 1106) (.t 2)⟩,⟨some 81,none,.call 6 [(.t 80)]⟩,⟨some 82,none,.mov (.t 1)⟩,⟨some 83,none,.call 7 [(.t 82),(.c (.bool true))]⟩,⟨some 84,none,.call 8 [(.t 81),(.t 83)]⟩,⟨some 79,none,.mov (.t 84)⟩,⟨some 85,none,.ex (.t 79) 0⟩,⟨some 86,none,.ex (.t 79) 1⟩,⟨some 14,none,.mov (.t 85)⟩,⟨some 15,none,.mov (.t 86)⟩]) (.seq (.seq (.reg [⟨some 87,none,.mov (.t 14)⟩,⟨some 88,none,.mov (.t 6)⟩,⟨some 89,none,.call 9 [(.t 87),(.t 88)]⟩,⟨some 90,none,.un .not (.t 89)⟩,⟨some 91,none,.mov (.t 90)⟩,⟨some 92,(some (91,false)),.mov (.t 15)⟩,⟨some 93,(some (91,false)),.mov (.t 7)⟩,⟨some 94,(some (91,false)),.bin .neq (.t 92) (.t 93)⟩,⟨some 95,none,.pick (.t 91) (.c (.bool true)) (.t 94)⟩]) (.cond (.t 95) (.seq (.reg [⟨some 4,none,.mov (.c (.bool false))⟩]) .ret) .skip)) (.seq (.reg [⟨some 13,none,.mov (.c (.int .i64 101))⟩]) (.seq (.reg [⟨some 96,none,.mov (.t 9)⟩,⟨some 97,none,.mov (.t 13)⟩,⟨some 98,none,.call 12 [(.t 96),(.t 97)]⟩,⟨some 13,none,.mov (.t 98)⟩]) (.seq (.seq (.reg [⟨some 99,none,.mov (.t 13)⟩,⟨some 100,none,.bin .lss (.t 99) (.c (.int .i64 0))⟩]) (.cond (.t 100) (.seq (.reg [⟨some 4,none,.mov (.c (.bool false))⟩]) .ret) .skip)) (.seq (.seq (.reg [⟨some 101,none,.mov (.t 13)⟩,⟨some 102,none,.mov (.t 12)⟩,⟨some 103,none,.bin .neq (.t 101) (.t 102)⟩]) (.cond (.t 103) (.seq (.reg [⟨some 4,none,.mov (.c (.bool false))⟩]) .ret) .skip)) (.seq (.reg [⟨some 4,none,.mov (.c (.bool true))⟩]) .ret)))))))))))))))))))))))))

set_option maxRecDepth 100000 in
theorem tr3 : trFn Tryz.prog Tryz.f3 = some (104, ir3, [.tmp 4]) := by kernel_rfl

theorem law_FnExactIdealOfSub (m0 : Nat) (z : Nat → Int) (w : ∀ i, (Lit.int (hopfKs.getD i .u8) (z i)).wf = true) (sv : SV) (len : Nat) (f : Nat → Int) (hR : RA m0 8 sv len f) (hfb : ∀ i, i < 8 * len → 0 ≤ f i ∧ f i ≤ 255) (hlen : len ≤ 9223372036854775807) (n : Nat) (hmn : m0 ≤ n) :
    FnS Tryz.prog 3 [.arr 1106 fun i => .int (hopfKs.getD i .u8) (z i), .s sv] [] n (fun r H' _ => r = bl true ∧ H' = []) := by
  have hK := hOf_at z
  have hB := hOf_by w
  generalize hOf z = h at hK hB
  generalize (fun i => SV.int (hopfKs.getD i .u8) (z i)) = Kh at hK ⊢
  obtain ⟨L, hL⟩ : ∃ L : Nat → Nat → Int, L = fun i x => f (8 * i + x) := ⟨_, rfl⟩
  have hLb : ∀ i, i < len → isBy 8 (L i) := fun i hi x hx => by rw [hL]; exact hfb _ (by omega)
  refine FnS.of_body Tryz.func3 tr3 (by simp) (fun hf => ?_)
  dsimp only [argEnv]
  unfold ir3
  (refine zG ?_)
  refine RS.call rfl ((laws_szVectorS m0 sv len f _ _ hlen hR).mono ?_)
  rintro r H' n2 hn2 ⟨rfl, rfl⟩
  by_cases hl : len ≤ 1000000
  · rw [if_pos hl]
    obtain ⟨C, G, m, A, hS, hI⟩ : ∃ (C : Int) (G : Prop) (m : Nat) (A : Nat → Nat → Int), (∀ (b : Nat) (lv : SV) (Hc : Hp) (n' : Nat), VL Hc lv len L b → FnS Tryz.prog 5 [.arr 1106 Kh, .s lv] Hc n' (RI C G m A Hc n')) ∧ ∀ (b : Nat) (lv : SV) (Hc : Hp) (n' : Nat), VN Hc lv len L b → b < n' → FnS Tryz.prog 8 [.arr 1106 Kh, .s lv] Hc n' (RI C G m A Hc n') :=
      ⟨_, _, _, _, fun b lv Hc n' V => (spec_IdealOfSub h L len b lv Kh Hc n' hK hB hl V hLb).mono (fun r H' _ _ q => IOP.ri q), fun b lv Hc n' V hb => (impl_IdealOfSub h L len b lv Kh Hc n' hK hB hl V hLb hb).mono (fun r H' _ _ q => IOP.ri q)⟩
    have tvN : ∀ (HV : Hp) (n' : Nat), n < n' → m0 ≤ n' → (∀ x, x < m0 → HV.get x = none) → (∀ x, n' ≤ x → HV.get x = none) → FnS Tryz.prog 7 [.s sv, bl true] HV n' (fun r H' n'' => ∃ lv bl, r = .s lv ∧ VN H' lv len L bl ∧ bl < n'' ∧ (∀ x, n'' ≤ x → H'.get x = none) ∧ ∀ x, x < n' → H'.get x = HV.get x) := fun HV n' h0 h1 h2 h3 => (laws_toVectorS m0 true sv len f HV n' hl h1 h2 hR).mono (by
      rintro r H' n'' hn'' (⟨-, q, rfl, rfl⟩ | ⟨-, b', hb', hbn, rfl, rfl⟩)
      · exact ⟨_, n, rfl, .inl ⟨rfl, q⟩, by omega, fun x hx => h3 x (by omega), fun x hx => rfl⟩
      · exact ⟨_, b', rfl, .inr (by rw [hL]; exact VL.tv (Hp.get_eq _ _ _)), hbn, fun x hx => by rw [Hp.get_ne _ _ (by omega)]; exact h3 x (by omega), fun x hx => Hp.get_ne _ _ (by omega)⟩)
    (refine zG ?_)
    refine zI ?_ ?_<;>intro h1
    · exfalso; omega
    (refine zG ?_)
    refine RS.call rfl ((laws_toHopf h Kh _ _ hK).mono ?_)
    rintro r H' n21 hn21 ⟨rfl, rfl⟩
    (refine zG ?_)
    refine RS.call rfl ((laws_toVectorS m0 false sv len f _ _ hl (by omega) (fun x hx => by rw [Hp.get_ne _ _ (by omega)]; rfl) hR).mono ?_)
    rintro r H1 n3 hn3 (⟨q, -⟩ | ⟨-, bx, hbx, hbxn, rfl, rfl⟩)
    · cases q
    (repeat first|refine zG ?_|(refine LS.nilO ?_;intro nq hnq hltq;try refine zU ?_)|(refine MS.new ?_;intro bq hbq hbqf;try refine zU ?_)|(refine MS.nil ?_;intro nq hnq hltq;have hlq:=hltq _ _ (Hp.get_eq _ _ _);clear hltq;try refine zU ?_)|(refine LS.nilQ ?_;try with_reducible intro nq hnq;try refine zU ?_))
    refine RS.call rfl ((hS bx _ _ _ (by rw [hL]; exact VL.tv (Hp.get_eq _ _ _))).mono ?_)
    rintro r H2 n4 hn4 ⟨sv1, b1, rfl, V1, hm8, hb1, hfr2, lo2⟩
    have q0 : H2.get n = some ⟨1106, Kh, 26⟩ := by rw [lo2 n (by omega)]; simp (disch := omega) only [Hp.get_ne, Hp.get_eq]
    have z0 : ∀ x, x < n → H2.get x = none := fun x hx => by rw [lo2 x (by omega), Hp.get_ne _ _ (by omega), Hp.get_ne _ _ (by omega)]; rfl
    clear lo2
    (refine zG ?_)
    refine RS.call rfl ((laws_toVectorS m0 false sv len f _ _ hl (by omega) (fun x hx => z0 x (by omega)) hR).mono ?_)
    rintro r H3 n5 hn5 (⟨q, -⟩ | ⟨-, bz, hbz, hbzn, rfl, hH3⟩)
    · cases q
    have gz : H3.get bz = some ⟨(len + rmb len) * 8, tvC f len, 32⟩ := by rw [hH3]; exact Hp.get_eq _ _ _
    have l3 : ∀ x, x < n4 → H3.get x = H2.get x := fun x hx => by rw [hH3, Hp.get_ne _ _ (by omega)]
    replace hfr2 : ∀ x, n5 ≤ x → H3.get x = none := fun x hx => by rw [hH3, Hp.get_ne _ _ (by omega)]; exact hfr2 x (by omega)
    replace q0 : H3.get n = some ⟨1106, Kh, 26⟩ := by rw [l3 n (by omega)]; exact q0
    replace z0 : ∀ x, x < n → H3.get x = none := fun x hx => by rw [l3 x (by omega)]; exact z0 x hx
    replace V1 : VG G H3 sv1 m A b1 := V1.keep (fun g => l3 b1 (hb1 g).2)
    clear l3 hH3
    (refine zG ?_)
    refine RS.call rfl ((laws_toHopf h Kh _ _ hK).mono ?_)
    rintro r H3 n51 hn51 ⟨rfl, rfl⟩
    (refine zG ?_)
    refine RS.call rfl ((hI bz _ _ _ (.inr (by rw [hL]; exact VL.tv gz)) (by omega)).mono ?_)
    rintro r H4 n6 hn6 ⟨sv2, b2, rfl, V2, -, hb2, hfr4, lo4⟩
    replace gz : H4.get bz = some ⟨(len + rmb len) * 8, tvC f len, 32⟩ := by rw [lo4 bz (by omega)]; exact gz
    replace q0 : H4.get n = some ⟨1106, Kh, 26⟩ := by rw [lo4 n (by omega)]; exact q0
    replace z0 : ∀ x, x < n → H4.get x = none := fun x hx => by rw [lo4 x (by omega)]; exact z0 x hx
    replace V1 : VG G H4 sv1 m A b1 := V1.keep (fun g => lo4 b1 (by have := hb1 g; omega))
    clear lo4 hfr2
    (refine zG ?_)
    refine RS.call rfl ((laws_eqG G m b2 b1 A sv2 sv1 _ _ hm8 V2 V1).mono ?_)
    rintro r H' n7 hn7 ⟨rfl, rfl⟩
    (refine zG ?_)
    (try simp only [bne_self_eq_false])
    (refine zG ?_)
    refine RS.call rfl ((laws_toVectorS m0 false sv len f _ _ hl (by omega) (fun x hx => z0 x (by omega)) hR).mono ?_)
    rintro r H5 n8 hn8 (⟨q, -⟩ | ⟨-, bw, hbw, hbwn, rfl, hH5⟩)
    · cases q
    have gw : H5.get bw = some ⟨(len + rmb len) * 8, tvC f len, 32⟩ := by rw [hH5]; exact Hp.get_eq _ _ _
    have l5 : ∀ x, x < n7 → H5.get x = H'.get x := fun x hx => by rw [hH5, Hp.get_ne _ _ (by omega)]
    have hfr5 : ∀ x, n8 ≤ x → H5.get x = none := fun x hx => by rw [hH5, Hp.get_ne _ _ (by omega)]; exact hfr4 x (by omega)
    replace gz : H5.get bz = some ⟨(len + rmb len) * 8, tvC f len, 32⟩ := by rw [l5 bz (by omega)]; exact gz
    replace q0 : H5.get n = some ⟨1106, Kh, 26⟩ := by rw [l5 n (by omega)]; exact q0
    replace z0 : ∀ x, x < n → H5.get x = none := fun x hx => by rw [l5 x (by omega)]; exact z0 x hx
    replace V1 : VG G H5 sv1 m A b1 := V1.keep (fun g => l5 b1 (by have := hb1 g; omega))
    replace V2 : VG G H5 sv2 m A b2 := V2.keep (fun g => l5 b2 (by have := hb2 g; omega))
    clear l5 hH5 hfr4
    (repeat first|refine zG ?_|(refine LS.nilO ?_;intro nq hnq hltq;try refine zU ?_)|(refine MS.new ?_;intro bq hbq hbqf;try refine zU ?_)|(refine MS.nil ?_;intro nq hnq hltq;have hlq:=hltq _ _ (Hp.get_eq _ _ _);clear hltq;try refine zU ?_)|(refine LS.nilQ ?_;try with_reducible intro nq hnq;try refine zU ?_))
    refine RS.call rfl ((laws_intactVectorS f len bz bw _ _ hl gz gw).mono ?_)
    rintro r H' n9 hn9 ⟨rfl, rfl⟩
    (refine zG ?_)
    refine RS.call rfl ((laws_markVectorSG len bz _ _ _ _ hl (VL.tv gz)).mono ?_)
    rintro r H6 n10 hn10 ⟨rfl, lo6⟩
    replace q0 : H6.get n = some ⟨1106, Kh, 26⟩ := by rw [lo6 n (by omega)]; exact q0
    replace z0 : ∀ x, x < n → H6.get x = none := fun x hx => by rw [lo6 x (by omega)]; exact z0 x hx
    replace V1 : VG G H6 sv1 m A b1 := V1.keep (fun g => lo6 b1 (by have := hb1 g; omega))
    replace V2 : VG G H6 sv2 m A b2 := V2.keep (fun g => lo6 b2 (by have := hb2 g; omega))
    replace hfr5 : ∀ x, n8 ≤ x → H6.get x = none := fun x hx => by rw [lo6 x (by omega)]; exact hfr5 x hx
    clear lo6 gz gw
    (refine zG ?_)
    refine RS.call rfl ((laws_eqG G m b2 b1 A sv2 sv1 _ _ hm8 V2 V1).mono ?_)
    rintro r H' n11 hn11 ⟨rfl, rfl⟩
    (refine zG ?_)
    (try simp only [bne_self_eq_false])
    (refine zG ?_)
    refine RS.call rfl ((laws_markG G m b2 A sv2 _ _ hm8 V2).mono ?_)
    rintro r H7 n12 hn12 ⟨rfl, V2m, lo7⟩
    replace q0 : H7.get n = some ⟨1106, Kh, 26⟩ := by rw [lo7 n (fun g => by have := hb2 g; omega)]; exact q0
    replace z0 : ∀ x, x < n → H7.get x = none := fun x hx => by rw [lo7 x (fun g => by have := hb2 g; omega)]; exact z0 x hx
    replace V1 : VG G H7 sv1 m A b1 := V1.keep (fun g => lo7 b1 (fun _ => by have := hb1 g; have := hb2 g; omega))
    replace hfr5 : ∀ x, n8 ≤ x → H7.get x = none := fun x hx => by rw [lo7 x (fun g => by have := hb2 g; omega)]; exact hfr5 x hx
    clear lo7 V2
    (refine zG ?_)
    refine RS.call rfl ((laws_heldG G m b2 sv2 _ _ hm8 V2m).mono ?_)
    rintro r H' n13 hn13 ⟨rfl, rfl⟩
    (refine zG ?_)
    refine zI ?_ ?_<;>intro h2
    · exfalso; omega
    (refine zG ?_)
    (try simp only [bne_self_eq_false])
    (repeat first|refine zG ?_|(refine LS.nilO ?_;intro nq hnq hltq;try refine zU ?_)|(refine MS.new ?_;intro bq hbq hbqf;try refine zU ?_)|(refine MS.nil ?_;intro nq hnq hltq;have hlq:=hltq _ _ (Hp.get_eq _ _ _);clear hltq;try refine zU ?_)|(refine LS.nilQ ?_;try with_reducible intro nq hnq;try refine zU ?_))
    refine RS.call rfl ((laws_toHopf h Kh _ _ hK).mono ?_)
    rintro r H' n14 hn14 ⟨rfl, rfl⟩
    (refine zG ?_)
    refine RS.call rfl ((tvN _ _ (by omega) (by omega) (fun x hx => z0 x (by omega)) (fun x hx => hfr5 x (by omega))).mono ?_)
    rintro r H8 n15 hn15 ⟨lv, bl', rfl, VN8, hbl, hfr8, lo8⟩
    (repeat first|refine zG ?_|(refine LS.nilO ?_;intro nq hnq hltq;try refine zU ?_)|(refine MS.new ?_;intro bq hbq hbqf;try refine zU ?_)|(refine MS.nil ?_;intro nq hnq hltq;have hlq:=hltq _ _ (Hp.get_eq _ _ _);clear hltq;try refine zU ?_)|(refine LS.nilQ ?_;try with_reducible intro nq hnq;try refine zU ?_))
    refine RS.call rfl ((hI bl' lv _ _ VN8 (by omega)).mono ?_)
    rintro r H9 n16 hn16 ⟨sv3, b3, rfl, V3, -, hb3, hfr9, lo9⟩
    replace z0 : ∀ x, x < n → H9.get x = none := fun x hx => by rw [lo9 x (by omega), lo8 x (by omega)]; exact z0 x hx
    replace V1 : VG G H9 sv1 m A b1 := V1.keep (fun g => by have := hb1 g; rw [lo9 b1 (by omega), lo8 b1 (by omega)])
    replace V2m := V2m.keep (H' := H9) (fun g => by have := hb2 g; rw [lo9 b2 (by omega), lo8 b2 (by omega)])
    clear lo8 lo9 q0 VN8
    (refine zG ?_)
    refine RS.call rfl ((laws_eqG G m b3 b1 A sv3 sv1 _ _ hm8 V3 V1).mono ?_)
    rintro r H' n17 hn17 ⟨rfl, rfl⟩
    (refine zG ?_)
    (try simp only [bne_self_eq_false])
    (refine zG ?_)
    refine RS.call rfl ((laws_heldG G m b2 sv2 _ _ hm8 V2m).mono ?_)
    rintro r H' n18 hn18 ⟨rfl, rfl⟩
    (refine zG ?_)
    refine zI ?_ ?_<;>intro h3
    · exfalso; omega
    (refine zG ?_)
    (try simp only [bne_self_eq_false])
    (repeat first|refine zG ?_|(refine LS.nilO ?_;intro nq hnq hltq;try refine zU ?_)|(refine MS.new ?_;intro bq hbq hbqf;try refine zU ?_)|(refine MS.nil ?_;intro nq hnq hltq;have hlq:=hltq _ _ (Hp.get_eq _ _ _);clear hltq;try refine zU ?_)|(refine LS.nilQ ?_;try with_reducible intro nq hnq;try refine zU ?_))
    refine ⟨_, [], rfl, fun x => .inl ⟨rfl, ?_⟩, rfl, rfl⟩
    by_cases e : n ≤ x
    · exact .inr e
    · exact .inl (z0 x (by omega))
  · rw [if_neg hl]
    (refine zG ?_)
    exact ⟨_, [], rfl, by exact zD, rfl, rfl⟩

end Go.Proofs.YtideblodkkgodaaGreat

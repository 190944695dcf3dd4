/- The invariants of a module, the spec's. -/
import Derived.Test.YtmkegkpabifpfaaGreatJbd
namespace Go.V
set_option linter.unusedSimpArgs false
set_option linter.unusedVariables false
theorem ivf_at {a i j k : Nat} (t e : Nat → Int) (hj : j < a) : ivf a t e (i * a + j) k = t (64 * i + 8 * k + j) - (if j = k then e i else 0) := by
  unfold ivf
  rw [Nat.mul_comm i a, Nat.mul_add_div (by omega), Nat.div_eq_of_lt hj, Nat.mul_add_mod, Nat.mod_eq_of_lt hj, Nat.add_zero]
end Go.V
namespace Go.Proofs.YtmkegkpabifpfaaGreat
open Go.V
set_option linter.unusedSimpArgs false
set_option linter.unusedVariables false
set_option maxHeartbeats 4000000

/-- spec.l06Invariants -/
def ir14 : Cd := (.seq (.reg [⟨some 2,none,.box 40 (.t 0)⟩,⟨some 3,none,.box 46 (.t 1)⟩,⟨some 4,none,.mov (.c .nils)⟩]) (.seq (.reg [⟨some 11,none,.bsl 34 0 8 [(8,(.int .u8 0))] []⟩,⟨some 5,none,.mov (.t 11)⟩]) (.seq (.seq (.reg [⟨some 6,none,.mov (.c (.int .i64 0))⟩]) (.block 0 (.loop (.seq (.seq (.reg [⟨some 12,none,.mov (.t 6)⟩,⟨some 13,none,.fa 1 (.t 2)⟩,⟨some 14,none,.ld none (.t 13)⟩,⟨some 15,none,.bin .lss (.t 12) (.t 14)⟩]) (.cond (.t 15) .skip (.exit 0))) (.seq (.block 1 (.seq (.reg [⟨some 7,none,.mov (.c (.int .i64 0))⟩]) (.block 2 (.loop (.seq (.seq (.reg [⟨some 18,none,.mov (.t 7)⟩,⟨some 19,none,.fa 0 (.t 3)⟩,⟨some 20,none,.ld none (.t 19)⟩,⟨some 21,none,.bin .lss (.t 18) (.t 20)⟩]) (.cond (.t 21) .skip (.exit 2))) (.seq (.block 3 (.seq (.reg [⟨some 24,none,.build 8 [(8,(.int .u8 0))] []⟩,⟨some 8,none,.new 34 [(8,(.int .u8 0))]⟩,⟨none,none,.st 8 (.t 8) (.t 24)⟩]) (.seq (.seq (.reg [⟨some 9,none,.mov (.c (.int .i64 0))⟩]) (.block 4 (.loop (.seq (.seq (.reg [⟨some 25,none,.mov (.t 9)⟩,⟨some 26,none,.fa 0 (.t 3)⟩,⟨some 27,none,.ld none (.t 26)⟩,⟨some 28,none,.bin .lss (.t 25) (.t 27)⟩]) (.cond (.t 28) .skip (.exit 4))) (.seq (.block 5 (.seq (.reg [⟨some 31,none,.mov (.t 6)⟩,⟨some 32,none,.mov (.t 9)⟩,⟨some 33,none,.mov (.t 7)⟩,⟨some 34,none,.fa 1 (.t 3)⟩,⟨some 35,none,.ia 8 64 (.t 34) (.t 31)⟩,⟨some 36,none,.ia 8 8 (.t 35) (.t 32)⟩,⟨some 37,none,.ia 8 1 (.t 36) (.t 33)⟩,⟨some 38,none,.ld none (.t 37)⟩,⟨some 39,none,.cv .i64 (.t 38)⟩,⟨some 10,none,.mov (.t 39)⟩]) (.seq (.seq (.reg [⟨some 40,none,.mov (.t 9)⟩,⟨some 41,none,.mov (.t 7)⟩,⟨some 42,none,.bin .eql (.t 40) (.t 41)⟩]) (.cond (.t 42) (.reg [⟨some 43,none,.mov (.t 10)⟩,⟨some 44,none,.mov (.t 6)⟩,⟨some 45,none,.fa 522 (.t 2)⟩,⟨some 46,none,.ia 8 1 (.t 45) (.t 44)⟩,⟨some 47,none,.ld none (.t 46)⟩,⟨some 48,none,.cv .i64 (.t 47)⟩,⟨some 49,none,.bin .sub (.t 43) (.t 48)⟩,⟨some 10,none,.mov (.t 49)⟩]) .skip)) (.reg [⟨some 50,none,.mov (.t 9)⟩,⟨some 51,none,.fa 0 (.t 2)⟩,⟨some 52,none,.ld none (.t 51)⟩,⟨some 53,none,.mov (.t 10)⟩,⟨some 54,none,.call 28 [(.t 52),(.t 53)]⟩,⟨some 55,none,.ia 8 1 (.t 8) (.t 50)⟩,⟨none,none,.st 1 (.t 55) (.t 54)⟩])))) (.reg [⟨some 29,none,.mov (.t 9)⟩,⟨some 30,none,.bin .add (.t 29) (.c (.int .i64 1))⟩,⟨some 9,none,.mov (.t 30)⟩])))))) (.reg [⟨some 56,none,.mov (.t 5)⟩,⟨some 57,none,.ld (some 8) (.t 8)⟩,⟨some 58,none,.bsl 34 1 8 [(8,(.int .u8 0))] [(0,8,(.t 57))]⟩,⟨some 59,none,.app 34 8 8 [(8,(.int .u8 0))] (.t 56) (.t 58)⟩,⟨some 5,none,.mov (.t 59)⟩])))) (.reg [⟨some 22,none,.mov (.t 7)⟩,⟨some 23,none,.bin .add (.t 22) (.c (.int .i64 1))⟩,⟨some 7,none,.mov (.t 23)⟩]))))))) (.reg [⟨some 16,none,.mov (.t 6)⟩,⟨some 17,none,.bin .add (.t 16) (.c (.int .i64 1))⟩,⟨some 6,none,.mov (.t 17)⟩])))))) (.seq (.reg [⟨some 60,none,.fa 0 (.t 2)⟩,⟨some 61,none,.ld none (.t 60)⟩,⟨some 62,none,.fa 0 (.t 3)⟩,⟨some 63,none,.ld none (.t 62)⟩,⟨some 64,none,.mov (.t 5)⟩,⟨some 65,none,.call 29 [(.t 61),(.t 63),(.t 64)]⟩,⟨some 4,none,.mov (.t 65)⟩]) .ret))))
set_option maxRecDepth 100000 in
theorem tr14 : trFn Tryz.prog Tryz.f14 = some (66, ir14, [.tmp 4]) := by kernel_rfl

theorem spec_l06Invariants (p : Int) (a N : Nat) (t e : Nat → Int) (Kh Km : Nat → SV) (H : Hp) (n : Nat) (hp : isP p = true) (ha1 : 1 ≤ a) (ha : a ≤ 8) (hN1 : 1 ≤ N) (hN : N ≤ 8)
    (kp : Kh 0 = .int .i64 p) (kn : Kh 1 = .int .i64 (N : Nat)) (ch : ∀ q, q < 8 → Kh (522 + q) = .int .u8 (e q)) (km : Km 0 = .int .i64 (a : Nat)) (cm : ∀ q, q < 512 → Km (1 + q) = .int .u8 (t q)) (ht : isBy 512 t) (he : isBy 8 e) :
    FnS Tryz.prog 14 [.arr 1106 Kh, .arr 513 Km] H n (fun r H' n' => ∃ sv' A' d' P' b' A d P, r = .s sv' ∧ VL H' sv' d' A' b' ∧ RR p A' d' P' ∧ same p A' d' (krn p A P d a) (fre P d a) ∧ RR p A d P ∧ same p A d (zc a (krw p a (ivf a t e))) (N * a) ∧ n ≤ b' ∧ b' < n' ∧ (∀ x, n' ≤ x → H'.get x = none) ∧ ∀ x, x < n → H'.get x = H.get x) := by
  have hb := isP_le hp
  have kn' : Kh (0 + 1) = .int .i64 (N : Nat) := kn
  have hNa : N * a ≤ 64 := Nat.le_trans (Nat.mul_le_mul hN ha) (by decide)
  obtain ⟨L, hLd⟩ : ∃ L, L = zc a (krw p a (ivf a t e)) := ⟨_, rfl⟩
  have hLr : ∀ f x, 0 ≤ L f x ∧ L f x < p := fun f x => by
    rw [hLd]; unfold zc; split
    · exact krw_res hb.1 a _ f x
    · omega
  rw [← hLd]
  refine FnS.of_body Tryz.func14 tr14 (by simp) (fun hf => ?_)
  dsimp only [argEnv]
  unfold ir14
  (refine zG ?_)
  refine CS.weak (e1 := [(6, i64 ((0 : Nat) : Int)), (2, ptr n 0), (3, ptr (n + 1) 0), (5, .s (.slc (n + 2) 0 0 0))]) (by (repeat first | exact trivial | refine And.intro rfl ?_)) (Drops.refl _ _) ?_
  refine CS.loop (fun kk e H1 n1 => ∃ i v5 b5, i ≤ N ∧ kk = N - i ∧ e = [(6, i64 (i : Nat)), (2, ptr n 0), (3, ptr (n + 1) 0), (5, .s v5)] ∧ VL H1 v5 (i * a) L b5 ∧ n + 2 ≤ b5 ∧ b5 < n1 ∧ H1.get n = some ⟨1106, Kh, 40⟩ ∧ H1.get (n + 1) = some ⟨513, Km, 46⟩ ∧ (∀ x, x < n → H1.get x = H.get x) ∧ ∀ x, n1 ≤ x → H1.get x = none) N ?_ ?_
  · exact ⟨0, .slc (n + 2) 0 0 0, n + 2, by omega, rfl, rfl, ⟨0, 0, _, by rw [Nat.zero_mul], by exact zH, by simp, by rw [Nat.zero_mul]; omega, fun i x hi => by rw [Nat.zero_mul] at hi; omega⟩, by omega, by omega, by exact zH, by exact zH, fun x hx => by simp (disch := omega) only [Hp.get_ne], fun x hx => by simp (disch := omega) only [Hp.get_ne]; exact hf x (by omega)⟩
  rintro kk ee H1 n1 hn1 ⟨i, v5, b5, hi, rfl, rfl, hV5, hb5, hb5n, gh, gm, hlow, hfr⟩
  (refine zG ?_)
  refine zI ?_ ?_<;>intro h1
  · have hi' : i < N := by omega
    have hia : i * a + a ≤ N * a := by have := Nat.mul_le_mul_right a (show i + 1 ≤ N by omega); rw [Nat.add_mul, Nat.one_mul] at this; exact this
    (refine zG ?_)
    refine CS.weak (e1 := [(7, i64 ((0 : Nat) : Int)), (6, i64 (i : Nat)), (2, ptr n 0), (3, ptr (n + 1) 0), (5, .s v5)]) (by (repeat first | exact trivial | refine And.intro rfl ?_)) (Drops.refl _ _) ?_
    refine CS.loop (fun kk e H1 n1 => ∃ j v5 b5, j ≤ a ∧ kk = a - j ∧ e = [(7, i64 (j : Nat)), (6, i64 (i : Nat)), (2, ptr n 0), (3, ptr (n + 1) 0), (5, .s v5)] ∧ VL H1 v5 (i * a + j) L b5 ∧ n + 2 ≤ b5 ∧ b5 < n1 ∧ H1.get n = some ⟨1106, Kh, 40⟩ ∧ H1.get (n + 1) = some ⟨513, Km, 46⟩ ∧ (∀ x, x < n → H1.get x = H.get x) ∧ ∀ x, n1 ≤ x → H1.get x = none) a ⟨0, v5, b5, by omega, rfl, rfl, hV5, hb5, by omega, gh, gm, hlow, fun x hx => hfr x (by omega)⟩ ?_
    clear hV5 hb5 hb5n gh gm hlow hfr
    rintro kk ee H1 n3 hn3 ⟨j, v5, b5, hj, rfl, rfl, hV5, hb5, hb5n, gh, gm, hlow, hfr⟩
    (refine zG ?_)
    refine zI ?_ ?_<;>intro h2
    · have hj' : j < a := by omega
      (refine zG ?_)
      refine CS.iter a (fun k => [(9, i64 (k : Nat)), (8, ptr n3 0), (7, i64 (j : Nat)), (6, i64 (i : Nat)), (2, ptr n 0), (3, ptr (n + 1) 0), (5, .s v5)])
        (fun k => (n3, ⟨8, fun x => if x < k then .int .u8 (ivf a t e (i * a + j) x % p) else .int .u8 0, 34⟩) :: H1) (fun _ => True) (by (repeat first | exact trivial | refine And.intro rfl ?_)) (Drops.keepc rfl rfl (fun q hq => ?_) (Drops.refl _ _)) trivial ?_
      · (try dsimp only)
        rw [if_neg (by omega)]
        rcases (show q = 0 ∨ q = 1 ∨ q = 2 ∨ q = 3 ∨ q = 4 ∨ q = 5 ∨ q = 6 ∨ q = 7 by (simp only [Zs.size] at hq; omega)) with rfl | rfl | rfl | rfl | rfl | rfl | rfl | rfl <;> rfl
      intro k n4 hk hn4 _
      (refine zG ?_)
      refine zI ?_ ?_<;>intro h3
      · have hk' : k < a := by omega
        have hti := ht (64 * i + 8 * k + j) (by omega)
        have hei := he i (by omega)
        have hiv := ivf_at (k := k) (i := i) t e hj'
        (refine zG ?_)
        refine zI ?_ ?_<;>intro h5
        · (refine zG ?_)
          refine RS.call rfl ((spec_l01Mod p (t (64 * i + 8 * k + j) - e i) _ _ hb.1 hb.2 (by omega)).mono ?_)
          rintro r H' n5 hn5 ⟨rfl, rfl⟩
          rw [show t (64 * i + 8 * k + j) - e i = ivf a t e (i * a + j) k by rw [hiv, if_pos (by omega)]]
          (refine zG ?_)
          refine ⟨by omega, by (repeat first | exact trivial | refine And.intro rfl ?_), Drops.keepc rfl rfl (fun q hq => ?_) (Drops.refl _ _), trivial⟩
          (try dsimp only)
          (try rw [Nat.zero_add, Nat.mul_one])
          unfold put1
          by_cases e : q = k
          · rw [if_pos e, if_pos (by omega), e]
          · rw [if_neg e]
            (try dsimp only)
            by_cases e2 : q < k
            · rw [if_pos e2, if_pos (by omega)]
            · rw [if_neg e2, if_neg (by omega)]
        · (refine zG ?_)
          refine RS.call rfl ((spec_l01Mod p (t (64 * i + 8 * k + j)) _ _ hb.1 hb.2 (by omega)).mono ?_)
          rintro r H' n5 hn5 ⟨rfl, rfl⟩
          rw [show t (64 * i + 8 * k + j) = ivf a t e (i * a + j) k by rw [hiv, if_neg (by omega), Int.sub_zero]]
          (refine zG ?_)
          refine ⟨by omega, by (repeat first | exact trivial | refine And.intro rfl ?_), Drops.keepc rfl rfl (fun q hq => ?_) (Drops.refl _ _), trivial⟩
          (try dsimp only)
          (try rw [Nat.zero_add, Nat.mul_one])
          unfold put1
          by_cases e : q = k
          · rw [if_pos e, if_pos (by omega), e]
          · rw [if_neg e]
            (try dsimp only)
            by_cases e2 : q < k
            · rw [if_pos e2, if_pos (by omega)]
            · rw [if_neg e2, if_neg (by omega)]
      · obtain rfl : a = k := by omega
        have hV5f := hV5.bound hfr
        (refine zG ?_)
        refine RS.appV (w := L (i * a + j)) (by exact rfl) (by exact rfl) (hV5.keep (by simp (disch := omega) only [Hp.get_ne])) (Hp.get_eq _ _ _) rfl (fun q hq => ?_) (by omega) (by simp (disch := omega) only [Hp.get_ne]; exact hfr _ (by omega)) (by omega) ?_
        · (try dsimp only)
          unfold splice
          rw [if_pos (by omega), Nat.sub_zero, hLd]
          unfold zc krw
          (try dsimp only)
          by_cases e : q < a
          · rw [if_pos e, if_pos e, if_pos e]
          · rw [if_neg e, if_neg e]
        intro vB bB HB nB hVB hbB hltB hnB hnB' hgB
        have hVB' : VL HB vB (i * a + (j + 1)) L bB := hVB.same (fun k x hk hx => by
          unfold snc
          by_cases e : k = i * a + j
          · rw [if_pos e, e]
          · rw [if_neg e])
        (refine zG ?_)
        refine ⟨a - (j + 1), [(7, i64 ((j + 1 : Nat) : Int)), (6, i64 (i : Nat)), (2, ptr n 0), (3, ptr (n + 1) 0), (5, .s vB)], HB, by omega, by (repeat first | exact trivial | refine And.intro rfl ?_), Drops.refl _ _, j + 1, vB, bB, by omega, rfl, rfl, hVB', by omega, hltB, by rw [hgB _ (by omega)]; simp (disch := omega) only [Hp.get_ne]; exact gh, by rw [hgB _ (by omega)]; simp (disch := omega) only [Hp.get_ne]; exact gm, fun x hx => by rw [hgB x (by omega)]; simp (disch := omega) only [Hp.get_ne]; exact hlow x hx, fun x hx => by rw [hgB x (by omega)]; simp (disch := omega) only [Hp.get_ne]; exact hfr x (by omega)⟩
    · obtain rfl : a = j := by omega
      (refine zG ?_)
      refine ⟨N - (i + 1), [(6, i64 ((i + 1 : Nat) : Int)), (2, ptr n 0), (3, ptr (n + 1) 0), (5, .s v5)], H1, by omega, by (repeat first | exact trivial | refine And.intro rfl ?_), Drops.refl _ _, i + 1, v5, b5, by omega, rfl, rfl, by rw [Nat.add_mul, Nat.one_mul]; exact hV5, hb5, by omega, gh, gm, hlow, fun x hx => hfr x (by omega)⟩
  · obtain rfl : N = i := by omega
    (refine zG ?_)
    refine RS.call rfl ((spec_l02Null p a (N * a) b5 L v5 _ _ hp ha (by omega) hV5 (fun f _ x _ => hLr f x)).mono ?_)
    rintro r H3 n6 hn6 ⟨v9, A', d', P', b9, A, d, P, rfl, hV9, hR9, hsm9, hRA, hsmA, hb9, hb9n, hfr9, hlow9⟩
    (refine zG ?_)
    exact ⟨.s v9, H3, rfl, Drops.refl _ _, v9, A', d', P', b9, A, d, P, rfl, hV9, hR9, hsm9, hRA, hsmA, by omega, by omega, fun x hx => hfr9 x (by omega), fun x hx => by rw [hlow9 x (by omega)]; exact hlow x hx⟩

end Go.Proofs.YtmkegkpabifpfaaGreat

/- Two lists of invariants are the same; lists of vectors compared, marked and held. -/
namespace Go.V
set_option linter.unusedSimpArgs false
set_option linter.unusedVariables false
theorem inv_lists {p : Int} (hp : 2 ≤ p) {a m d d' d2 d2' : Nat} (ha : a ≤ 8) {R A A' A2' Z : Nat → Nat → Int} {P P' P2 P2' : Nat → Nat} (h1 : RR p A' d' P') (h2 : Go.V.same p A' d' (krn p R P d a) (fre P d a)) (h3 : RR p (zc a R) d P) (h4 : Go.V.same p (zc a R) d Z m)
    (g1 : RR p A2' d2' P2') (g2 : Go.V.same p A2' d2' (krn p A P2 d2 a) (fre P2 d2 a)) (g3 : RR p A d2 P2) (g4 : Go.V.same p A d2 Z m) : d' = d2' ∧ ∀ k x, k < d' → x < 8 → A' k x = A2' k x := by
  obtain ⟨rfl, e⟩ := h3.same hp g3 (same_trans h4 (same_symm g4))
  obtain ⟨e1, e2⟩ := krn_congr (p := p) (A := R) (B := A) (pl := P) (pl' := P2) (d := d) (a := a) (fun j hj => ⟨(e j hj).1, fun x hx => by
    have := (e j hj).2 x (by omega)
    unfold zc at this
    rwa [if_pos hx] at this⟩) a (Nat.le_refl _)
  rw [e1, e2] at h2
  obtain ⟨rfl, f⟩ := h1.same hp g1 (same_trans h2 (same_symm g2))
  exact ⟨rfl, fun k x hk hx => (f k hk).2 x hx⟩
end Go.V
namespace Go.Proofs.YtmkegkpabifpfaaGreat
open Go.V
set_option linter.unusedSimpArgs false
set_option linter.unusedVariables false
set_option maxHeartbeats 4000000

/-- laws.eqVectorS -/
def ir9 : Cd := (.seq (.reg [⟨some 4,none,.mov (.c (.bool false))⟩]) (.seq (.seq (.reg [⟨some 6,none,.mov (.t 0)⟩,⟨some 7,none,.len (.t 6)⟩,⟨some 8,none,.mov (.t 1)⟩,⟨some 9,none,.len (.t 8)⟩,⟨some 10,none,.bin .neq (.t 7) (.t 9)⟩]) (.cond (.t 10) (.seq (.reg [⟨some 4,none,.mov (.c (.bool false))⟩]) .ret) .skip)) (.seq (.seq (.reg [⟨some 5,none,.mov (.c (.int .i64 0))⟩]) (.block 0 (.loop (.seq (.seq (.reg [⟨some 11,none,.mov (.t 5)⟩,⟨some 12,none,.mov (.t 0)⟩,⟨some 13,none,.len (.t 12)⟩,⟨some 14,none,.bin .lss (.t 11) (.t 13)⟩]) (.cond (.t 14) .skip (.exit 0))) (.seq (.block 1 (.seq (.drw true [8] [⟨some 17,none,.mov (.t 0)⟩,⟨some 18,none,.mov (.t 5)⟩,⟨some 19,none,.isl 8 (.t 17) (.t 18)⟩,⟨some 20,none,.ld (some 8) (.t 19)⟩,⟨some 21,none,.mov (.t 1)⟩,⟨some 22,none,.mov (.t 5)⟩,⟨some 23,none,.isl 8 (.t 21) (.t 22)⟩,⟨some 24,none,.ld (some 8) (.t 23)⟩,⟨some 25,none,.call 21 [(.t 20),(.t 24)]⟩,⟨some 26,none,.un .not (.t 25)⟩]) (.cond (.t 26) (.seq (.reg [⟨some 4,none,.mov (.c (.bool false))⟩]) .ret) .skip))) (.reg [⟨some 15,none,.mov (.t 5)⟩,⟨some 16,none,.bin .add (.t 15) (.c (.int .i64 1))⟩,⟨some 5,none,.mov (.t 16)⟩])))))) (.seq (.reg [⟨some 4,none,.mov (.c (.bool true))⟩]) .ret))))
set_option maxRecDepth 100000 in
theorem tr9 : trFn Tryz.prog Tryz.f9 = some (27, ir9, [.tmp 4]) := by kernel_rfl

theorem laws_eqVectorS (m b b' : Nat) (I I' : Nat → Nat → Int) (v w : SV) (H : Hp) (n : Nat) (hm : m ≤ 100) (hV : VL H v m I b) (hW : VL H w m I' b') (he : ∀ i x, i < m → x < 8 → I i x = I' i x) :
    FnS Tryz.prog 9 [.s v, .s w] H n (fun r H' _ => r = bl true ∧ H' = H) := by
  obtain ⟨o, cap, K, rfl, gb, ho, hmc, hc⟩ := hV
  obtain ⟨o', cap', K', rfl, gb', ho', hmc', hc'⟩ := hW
  refine FnS.of_body Tryz.func9 tr9 (by simp) (fun hf => ?_)
  dsimp only [argEnv]
  unfold ir9
  have hbn := getlt hf gb
  have hbn' := getlt hf gb'
  (refine zG ?_)
  refine zI ?_ ?_<;>intro h0
  · omega
  (refine zG ?_)
  refine CS.iter m (fun i => [(5, i64 (i : Nat)), (0, .s (.slc b o m cap)), (1, .s (.slc b' o' m cap'))]) (fun _ => H) (fun _ => True) (by (repeat first | exact trivial | refine And.intro rfl ?_)) (Drops.refl _ _) trivial ?_
  intro i n1 hi hn _
  (refine zG ?_)
  refine zI ?_ ?_<;>intro h1
  · have hi' : i < m := by omega
    have e9 : ∀ q, q < 8 → K.c (o + i * 8 + q) = .int .u8 (I i q) := fun q hq => by rw [Nat.add_assoc]; exact hc i q hi' hq
    have e10 : ∀ q, q < 8 → K'.c (o' + i * 8 + q) = .int .u8 (I' i q) := fun q hq => by rw [Nat.add_assoc]; exact hc' i q hi' hq
    (repeat first|refine zG ?_|(refine LS.nilO ?_;intro nq hnq hltq;try refine zU ?_)|(refine MS.new ?_;intro bq hbq hbqf;try refine zU ?_)|(refine MS.nil ?_;intro nq hnq hltq;have hlq:=hltq _ _ (Hp.get_eq _ _ _);clear hltq;try refine zU ?_)|(refine LS.nilQ ?_;try with_reducible intro nq hnq;try refine zU ?_))
    refine RS.call rfl ((laws_eqVector (I i) (I' i) _ _).mono ?_)
    rintro r H n2 hn2 ⟨rfl, rfl⟩
    rw [tb_true (fun q hq => he i q hi' hq)]
    (refine zG ?_)
    refine ⟨by omega, by (repeat first | exact trivial | refine And.intro rfl ?_), Drops.refl _ _, trivial⟩
  · obtain rfl : m = i := by omega
    (refine zG ?_)
    exact ⟨_, H, rfl, by exact zD, rfl, rfl⟩

theorem laws_eqVectorS0 (H : Hp) (n : Nat) : FnS Tryz.prog 9 [.s .nils, .s .nils] H n (fun r H' _ => r = bl true ∧ H' = H) := by
  refine FnS.of_body Tryz.func9 tr9 (by simp) (fun hf => ?_)
  dsimp only [argEnv]
  unfold ir9
  (refine zG ?_)
  refine CS.iter 0 (fun i => [(5, i64 (i : Nat)), (0, .s .nils), (1, .s .nils)]) (fun _ => H) (fun _ => True) (by (repeat first | exact trivial | refine And.intro rfl ?_)) (Drops.refl _ _) trivial ?_
  intro i n1 hi hn _
  obtain rfl : i = 0 := by omega
  (refine zG ?_)
  exact ⟨_, H, rfl, by exact zD, rfl, rfl⟩

/-- laws.markVectorS -/
def ir10 : Cd := (.seq (.reg [⟨some 4,none,.mov (.c (.int .i64 0))⟩]) (.seq (.seq (.reg [⟨some 5,none,.mov (.c (.int .i64 0))⟩]) (.block 0 (.loop (.seq (.seq (.reg [⟨some 7,none,.mov (.t 5)⟩,⟨some 8,none,.mov (.t 0)⟩,⟨some 9,none,.len (.t 8)⟩,⟨some 10,none,.bin .lss (.t 7) (.t 9)⟩]) (.cond (.t 10) .skip (.exit 0))) (.seq (.block 1 (.seq (.reg [⟨some 6,none,.mov (.c (.int .i64 0))⟩]) (.block 2 (.loop (.seq (.seq (.reg [⟨some 13,none,.mov (.t 6)⟩,⟨some 14,none,.bin .lss (.t 13) (.c (.int .i64 8))⟩]) (.cond (.t 14) .skip (.exit 2))) (.seq (.block 3 (.seq (.reg [⟨some 17,none,.mov (.t 0)⟩,⟨some 18,none,.mov (.t 5)⟩,⟨some 19,none,.mov (.t 6)⟩,⟨some 20,none,.mov (.t 1)⟩,⟨some 21,none,.cv .u8 (.t 20)⟩,⟨some 22,none,.isl 8 (.t 17) (.t 18)⟩,⟨some 23,none,.ia 8 1 (.t 22) (.t 19)⟩,⟨none,none,.st 1 (.t 23) (.t 21)⟩]) (.reg [⟨some 24,none,.mov (.t 1)⟩,⟨some 25,none,.bin .add (.t 24) (.c (.int .i64 1))⟩,⟨some 1,none,.mov (.t 25)⟩]))) (.reg [⟨some 15,none,.mov (.t 6)⟩,⟨some 16,none,.bin .add (.t 15) (.c (.int .i64 1))⟩,⟨some 6,none,.mov (.t 16)⟩]))))))) (.reg [⟨some 11,none,.mov (.t 5)⟩,⟨some 12,none,.bin .add (.t 11) (.c (.int .i64 1))⟩,⟨some 5,none,.mov (.t 12)⟩])))))) (.seq (.reg [⟨some 26,none,.mov (.t 1)⟩,⟨some 4,none,.mov (.t 26)⟩]) .ret)))
set_option maxRecDepth 100000 in
theorem tr10 : trFn Tryz.prog Tryz.f10 = some (27, ir10, [.tmp 4]) := by kernel_rfl

/-- What marks leave. -/
theorem laws_markVectorS (m b : Nat) (I : Nat → Nat → Int) (v : SV) (H : Hp) (n : Nat) (hm : m ≤ 8) (hV : VL H v m I b) :
    FnS Tryz.prog 10 [.s v, i64 101] H n (fun r H' _ => r = i64 ((101 + 8 * m : Nat) : Int) ∧ VL H' v m (fun i x => ((101 + 8 * i + x : Nat) : Int)) b ∧ ∀ x, x ≠ b → H'.get x = H.get x) := by
  obtain ⟨o, cap, K, rfl, gb, ho, hmc, hc⟩ := hV
  refine FnS.of_body Tryz.func10 tr10 (by simp) (fun hf => ?_)
  dsimp only [argEnv]
  unfold ir10
  have hbn := getlt hf gb
  (refine zG ?_)
  refine CS.iterJ m (fun i => [(5, i64 (i : Nat)), (0, .s (.slc b o m cap)), (1, i64 ((101 + 8 * i : Nat) : Int))])
    (fun i H1 _ => ∃ K1, H1.get b = some K1 ∧ K1.size = K.size ∧ (∀ j x, j < i → x < 8 → K1.c (o + (j * 8 + x)) = .int .u8 ((101 + 8 * j + x : Nat) : Int)) ∧ ∀ x, x ≠ b → H1.get x = H.get x) (by (repeat first | exact trivial | refine And.intro rfl ?_)) ⟨K, gb, rfl, fun j x hj => by omega, fun x _ => rfl⟩ ?_
  rintro i n1 H1 hi hn1 ⟨K1, g1, s1, c1, l1⟩
  (refine zG ?_)
  refine zI ?_ ?_<;>intro h1
  · have hi' : i < m := by omega
    (refine zG ?_)
    refine CS.iterJ 8 (fun j => [(6, i64 (j : Nat)), (5, i64 (i : Nat)), (0, .s (.slc b o m cap)), (1, i64 ((101 + 8 * i + j : Nat) : Int))])
      (fun j H1 _ => ∃ K1, H1.get b = some K1 ∧ K1.size = K.size ∧ (∀ k x, k < i → x < 8 → K1.c (o + (k * 8 + x)) = .int .u8 ((101 + 8 * k + x : Nat) : Int)) ∧ (∀ x, x < j → K1.c (o + (i * 8 + x)) = .int .u8 ((101 + 8 * i + x : Nat) : Int)) ∧ ∀ x, x ≠ b → H1.get x = H.get x) (by (repeat first | exact trivial | refine And.intro rfl ?_)) ⟨K1, g1, s1, c1, fun x hx => by omega, l1⟩ ?_
    clear g1 s1 c1 l1
    rintro j n2 H2 hj hn2 ⟨K2, g2, s2, c2, d2, l2⟩
    (refine zG ?_)
    refine zI ?_ ?_<;>intro h2
    · have hj' : j < 8 := by omega
      (refine zG ?_)
      refine ⟨by omega, by (repeat first | exact trivial | refine And.intro rfl ?_), _, Drops.refl _ _, ⟨K2.size, put1 K2.c (o + (i * 8 + j)) (.int .u8 ((101 + 8 * i + j : Nat) : Int)), K2.ty⟩, Hp.get_set_self _ g2, s2, fun k x hk hx => ?_, fun x hx => ?_, fun x hx => by rw [Hp.get_set_other _ (fun q => hx q.symm)]; exact l2 x hx⟩
      · (try dsimp only)
        unfold put1
        rw [if_neg (by omega)]; exact c2 k x hk hx
      · (try dsimp only)
        unfold put1
        by_cases e : x = j
        · rw [if_pos (by omega), e]
        · rw [if_neg (by omega)]; exact d2 x (by omega)
    · obtain rfl : j = 8 := by omega
      (refine zG ?_)
      refine ⟨by omega, by (repeat first | exact trivial | refine And.intro rfl ?_), H2, Drops.refl _ _, K2, g2, s2, fun k x hk hx => ?_, l2⟩
      by_cases e : k = i
      · rw [e]; exact d2 x hx
      · exact c2 k x (by omega) hx
  · obtain rfl : m = i := by omega
    (refine zG ?_)
    exact ⟨_, H1, rfl, Drops.refl _ _, rfl, ⟨o, cap, K1, rfl, g1, by rw [s1]; exact ho, hmc, fun i x hi hx => c1 i x hi hx⟩, l1⟩

/-- laws.heldVectorS -/
def ir11 : Cd := (.seq (.reg [⟨some 4,none,.mov (.c (.int .i64 0))⟩]) (.seq (.seq (.reg [⟨some 5,none,.mov (.c (.int .i64 0))⟩]) (.block 0 (.loop (.seq (.seq (.reg [⟨some 7,none,.mov (.t 5)⟩,⟨some 8,none,.mov (.t 0)⟩,⟨some 9,none,.len (.t 8)⟩,⟨some 10,none,.bin .lss (.t 7) (.t 9)⟩]) (.cond (.t 10) .skip (.exit 0))) (.seq (.block 1 (.seq (.reg [⟨some 6,none,.mov (.c (.int .i64 0))⟩]) (.block 2 (.loop (.seq (.seq (.reg [⟨some 13,none,.mov (.t 6)⟩,⟨some 14,none,.bin .lss (.t 13) (.c (.int .i64 8))⟩]) (.cond (.t 14) .skip (.exit 2))) (.seq (.block 3 (.seq (.seq (.reg [⟨some 17,none,.mov (.t 0)⟩,⟨some 18,none,.mov (.t 5)⟩,⟨some 19,none,.mov (.t 6)⟩,⟨some 20,none,.isl 8 (.t 17) (.t 18)⟩,⟨some 21,none,.ia 8 1 (.t 20) (.t 19)⟩,⟨some 22,none,.ld none (.t 21)⟩,⟨some 23,none,.mov (.t 1)⟩,⟨some 24,none,.cv .u8 (.t 23)⟩,⟨some 25,none,.bin .neq (.t 22) (.t 24)⟩]) (.cond (.t 25) (.seq (.reg [⟨some 4,none,.mov (.c (.int .i64 (-1)))⟩]) .ret) .skip)) (.reg [⟨some 26,none,.mov (.t 1)⟩,⟨some 27,none,.bin .add (.t 26) (.c (.int .i64 1))⟩,⟨some 1,none,.mov (.t 27)⟩]))) (.reg [⟨some 15,none,.mov (.t 6)⟩,⟨some 16,none,.bin .add (.t 15) (.c (.int .i64 1))⟩,⟨some 6,none,.mov (.t 16)⟩]))))))) (.reg [⟨some 11,none,.mov (.t 5)⟩,⟨some 12,none,.bin .add (.t 11) (.c (.int .i64 1))⟩,⟨some 5,none,.mov (.t 12)⟩])))))) (.seq (.reg [⟨some 28,none,.mov (.t 1)⟩,⟨some 4,none,.mov (.t 28)⟩]) .ret)))
set_option maxRecDepth 100000 in
theorem tr11 : trFn Tryz.prog Tryz.f11 = some (29, ir11, [.tmp 4]) := by kernel_rfl

theorem laws_heldVectorS (m b : Nat) (v : SV) (H : Hp) (n : Nat) (hm : m ≤ 8) (hV : VL H v m (fun i x => ((101 + 8 * i + x : Nat) : Int)) b) :
    FnS Tryz.prog 11 [.s v, i64 101] H n (fun r H' _ => r = i64 ((101 + 8 * m : Nat) : Int) ∧ H' = H) := by
  obtain ⟨o, cap, K, rfl, gb, ho, hmc, hc⟩ := hV
  refine FnS.of_body Tryz.func11 tr11 (by simp) (fun hf => ?_)
  dsimp only [argEnv]
  unfold ir11
  have hbn := getlt hf gb
  (refine zG ?_)
  refine CS.iter m (fun i => [(5, i64 (i : Nat)), (0, .s (.slc b o m cap)), (1, i64 ((101 + 8 * i : Nat) : Int))]) (fun _ => H) (fun _ => True) (by (repeat first | exact trivial | refine And.intro rfl ?_)) (Drops.refl _ _) trivial ?_
  intro i n1 hi hn1 _
  (refine zG ?_)
  refine zI ?_ ?_<;>intro h1
  · have hi' : i < m := by omega
    (refine zG ?_)
    refine CS.iter 8 (fun j => [(6, i64 (j : Nat)), (5, i64 (i : Nat)), (0, .s (.slc b o m cap)), (1, i64 ((101 + 8 * i + j : Nat) : Int))]) (fun _ => H) (fun _ => True) (by (repeat first | exact trivial | refine And.intro rfl ?_)) (Drops.refl _ _) trivial ?_
    intro j n2 hj hn2 _
    (refine zG ?_)
    refine zI ?_ ?_<;>intro h2
    · have hj' : j < 8 := by omega
      have e9 : K.c (o + (i * 8 + j)) = .int .u8 ((101 + 8 * i + j : Nat) : Int) := hc i j hi' hj'
      (refine zG ?_)
      refine zI ?_ ?_<;>intro h3
      · omega
      · (refine zG ?_)
        exact ⟨by omega, by (repeat first | exact trivial | refine And.intro rfl ?_), Drops.refl _ _, trivial⟩
    · obtain rfl : j = 8 := by omega
      (refine zG ?_)
      exact ⟨by omega, by (repeat first | exact trivial | refine And.intro rfl ?_), Drops.refl _ _, trivial⟩
  · obtain rfl : m = i := by omega
    (refine zG ?_)
    exact ⟨_, H, rfl, by exact zD, rfl, rfl⟩

end Go.Proofs.YtmkegkpabifpfaaGreat

/- Modules: what a vector does to a vector, on the reference's side; whether maps are a module. -/
namespace Go.V
set_option linter.unusedSimpArgs false
set_option linter.unusedVariables false
/-- What a vector a does to v, by its first N entries. -/
def act (p : Int) (t a v : Nat → Int) (d N : Nat) : Nat → Int := fun x => sm (fun i => a i * apk p (fun y => t (64 * i + y)) v d x) N % p
theorem act_zero (p : Int) (t a v : Nat → Int) (d : Nat) : act p t a v d 0 = fun _ => 0 := by funext x; simp [act, sm]
theorem act_step (p : Int) (t a v : Nat → Int) (d i : Nat) : pl p (act p t a v d i) (a i) (apk p (fun y => t (64 * i + y)) v d) = act p t a v d (i + 1) := by
  funext x; unfold pl act; rw [modAddL, sm]
theorem act_skip {p : Int} {t a v : Nat → Int} {d i : Nat} (h : a i = 0) : act p t a v d (i + 1) = act p t a v d i := by
  funext x; unfold act; rw [sm, h, Int.zero_mul, Int.add_zero]
theorem act_res {p : Int} (hp : 2 ≤ p) (t a v : Nat → Int) (d i N : Nat) : isRes p N (act p t a v d i) := fun _ _ => modB _ hp
/-- The form of a module. -/
def mshp (p d : Int) (N : Nat) (t : Nat → Int) : Prop := (1 ≤ d ∧ d ≤ 8) ∧ ∀ i : Nat, i < 8 → isLin p d d (fun x => t (64 * i + x)) ∧ (N ≤ i → ∀ x, x < 64 → t (64 * i + x) = 0)
/-- What a vector does, as a linear map. -/
def acm (p : Int) (t a : Nat → Int) (d : Nat) : Nat → Int := fun q => if q < 8 * d then cps p t a 8 q else 0
/-- A module. -/
def isMod (p : Int) (d : Nat) (N : Nat) (u m t : Nat → Int) : Prop := (∀ k, k < d → ∀ x, x < 8 → cps p t u 8 (8 * k + x) = bas k x) ∧
  ∀ i j, i < N → j < N → ∀ k, k < d → ∀ x, x < 8 → cps p t (fun y => m (64 * i + 8 * j + y)) 8 (8 * k + x) = app p (fun y => t (64 * i + y)) (fun y => t (64 * j + 8 * k + y)) x
def isModule (h : HT) (N : Nat) (d : Int) (t : Nat → Int) : Prop := mshp h.p d N t ∧ isMod h.p d.toNat N h.u h.m t
theorem act_bas {p : Int} (hp : 2 ≤ p) {t a : Nat → Int} {d N k x : Nat} (ht : isRes p 512 t) (hN : N ≤ 8) (ha : vz N a) (hk : k < d) (hd : d ≤ 8) (hx : x < 8) : act p t a (bas k) d N x = cps p t a 8 (8 * k + x) := by
  unfold act cps
  rw [sm_more hN (fun i h1 h2 => by rw [ha i h2 h1, Int.zero_mul])]
  congr 1
  refine sm_congr fun i hi => ?_
  congr 1
  unfold apk
  rw [sm_one hk (fun j hj hjk => by unfold bas; rw [if_neg hjk, Int.zero_mul])]
  have := ht (64 * i + (8 * k + x)) (by omega)
  unfold bas
  rw [if_pos rfl, Int.one_mul, modSelf this]
end Go.V
namespace Go.Proofs.YtmkegkpabifpfaaGreat
open Go.V
set_option linter.unusedSimpArgs false
set_option linter.unusedVariables false
set_option maxHeartbeats 4000000

/-- spec.l06Act -/
def ir44 : Cd := (.seq (.reg [⟨some 4,none,.box 40 (.t 0)⟩,⟨some 5,none,.box 46 (.t 1)⟩,⟨some 6,none,.box 34 (.t 2)⟩,⟨some 7,none,.box 34 (.t 3)⟩,⟨some 8,none,.new 34 [(8,(.int .u8 0))]⟩]) (.seq (.reg [⟨some 11,none,.build 8 [(8,(.int .u8 0))] []⟩,⟨some 9,none,.new 34 [(8,(.int .u8 0))]⟩,⟨none,none,.st 8 (.t 9) (.t 11)⟩]) (.seq (.seq (.reg [⟨some 10,none,.mov (.c (.int .i64 0))⟩]) (.block 0 (.loop (.seq (.seq (.reg [⟨some 12,none,.mov (.t 10)⟩,⟨some 13,none,.fa 1 (.t 4)⟩,⟨some 14,none,.ld none (.t 13)⟩,⟨some 15,none,.bin .lss (.t 12) (.t 14)⟩]) (.cond (.t 15) .skip (.exit 0))) (.seq (.block 1 (.seq (.reg [⟨some 18,none,.mov (.t 10)⟩,⟨some 19,none,.ia 8 1 (.t 6) (.t 18)⟩,⟨some 20,none,.ld none (.t 19)⟩,⟨some 21,none,.bin .neq (.t 20) (.c (.int .u8 0))⟩]) (.cond (.t 21) (.drwo true [17,18] [0,1,2,3,4,5,6,7,8,9,10,11,13,14,15,16,12,17,18] [⟨some 22,none,.fa 0 (.t 4)⟩,⟨some 23,none,.ld none (.t 22)⟩,⟨some 24,none,.ld (some 8) (.t 9)⟩,⟨some 25,none,.fa 0 (.t 4)⟩,⟨some 26,none,.ld none (.t 25)⟩,⟨some 27,none,.fa 0 (.t 5)⟩,⟨some 28,none,.ld none (.t 27)⟩,⟨some 29,none,.mov (.t 10)⟩,⟨some 30,none,.fa 1 (.t 5)⟩,⟨some 31,none,.ia 8 64 (.t 30) (.t 29)⟩,⟨some 32,none,.ld (some 64) (.t 31)⟩,⟨some 33,none,.ld (some 8) (.t 7)⟩,⟨some 34,none,.call 25 [(.t 26),(.t 28),(.t 32),(.t 33)]⟩,⟨some 35,none,.mov (.t 10)⟩,⟨some 36,none,.ia 8 1 (.t 6) (.t 35)⟩,⟨some 37,none,.ld none (.t 36)⟩,⟨some 38,none,.cv .i64 (.t 37)⟩,⟨some 39,none,.call 26 [(.t 23),(.t 24),(.t 34),(.t 38)]⟩,⟨none,none,.st 8 (.t 9) (.t 39)⟩]) .skip))) (.reg [⟨some 16,none,.mov (.t 10)⟩,⟨some 17,none,.bin .add (.t 16) (.c (.int .i64 1))⟩,⟨some 10,none,.mov (.t 17)⟩])))))) (.seq (.reg [⟨some 40,none,.ld (some 8) (.t 9)⟩,⟨none,none,.st 8 (.t 8) (.t 40)⟩]) .ret))))
set_option maxRecDepth 100000 in
theorem tr44 : trFn Tryz.prog Tryz.f44 = some (41, ir44, [.cell (some 8) 8]) := by kernel_rfl

theorem spec_l06Act (h : HT) (N d : Nat) (t a v : Nat → Int) (Kh Km : Nat → SV) (H : Hp) (n : Nat) (hS : HS h N) (hK : h.At Kh) (kd : Km 0 = .int .i64 (d : Nat)) (cm : ∀ q, q < 512 → Km (1 + q) = .int .u8 (t q)) (ht : isBy 512 t) (hd : d ≤ 8) (ha : isBy 8 a) (hv : isBy 8 v) :
    FnS Tryz.prog 44 [.arr 1106 Kh, .arr 513 Km, .arr 8 (bys a), .arr 8 (bys v)] H n (fun r H' _ => r = .arr 8 (bys (act h.p t a v d N)) ∧ H' = H) := by
  have hp := hS.hp
  have hN := hS.ha
  have hk0 := hK.p
  have hk1 := hK.n
  rw [hS.hn] at hk1
  have hk1' : Kh (0 + 1) = .int .i64 (N : Nat) := hk1
  refine FnS.of_body Tryz.func44 tr44 (by simp) (fun hf => ?_)
  dsimp only [argEnv]
  unfold ir44
  (refine zG ?_)
  refine CS.iter N (fun i => [(10, i64 (i : Nat)), (4, ptr n 0), (5, ptr (n + 1) 0), (6, ptr (n + 2) 0), (7, ptr (n + 3) 0), (8, ptr (n + 4) 0), (9, ptr (n + 5) 0)])
    (fun i => (n + 5, ⟨8, bys (act h.p t a v d i), 34⟩) :: (n + 4, ⟨8, bys (fun _ => 0), 34⟩) :: (n + 3, ⟨8, bys v, 34⟩) :: (n + 2, ⟨8, bys a, 34⟩) :: (n + 1, ⟨513, Km, 46⟩) :: (n, ⟨1106, Kh, 40⟩) :: H) (fun _ => True) (by (repeat first | exact trivial | refine And.intro rfl ?_))
    (Drops.keepc rfl rfl (fun _ _ => by rw [act_zero]; rfl) (Drops.keepc rfl rfl (fun _ _ => rfl) (Drops.refl _ _))) trivial ?_
  intro i n1 hi hn _
  (refine zG ?_)
  refine zI ?_ ?_<;>intro h1
  · have hai := ha i (by omega)
    (refine zG ?_)
    refine zI ?_ ?_<;>intro h2
    · (repeat first|refine zG ?_|(refine LS.nilO ?_;intro nq hnq hltq;try refine zU ?_)|(refine MS.new ?_;intro bq hbq hbqf;try refine zU ?_)|(refine MS.nil ?_;intro nq hnq hltq;have hlq:=hltq _ _ (Hp.get_eq _ _ _);clear hltq;try refine zU ?_)|(refine LS.nilQ ?_;try with_reducible intro nq hnq;try refine zU ?_))
      refine CS.tailLo _ (List.Mem.head _) ?_; dsimp only [List.take, List.drop]
      (refine zG ?_)
      refine LS.callQ (.arr 8 (bys (apk h.p (fun y => t (64 * i + y)) v d))) rfl (fun n' hn' => spec_l01Apply h.p d (fun y => t (64 * i + y)) v _ _ hp hd (fun x hx => ht _ (by omega)) hv) ?_
      (repeat first|refine zG ?_|(refine LS.nilO ?_;intro nq hnq hltq;try refine zU ?_)|(refine MS.new ?_;intro bq hbq hbqf;try refine zU ?_)|(refine MS.nil ?_;intro nq hnq hltq;have hlq:=hltq _ _ (Hp.get_eq _ _ _);clear hltq;try refine zU ?_)|(refine LS.nilQ ?_;try with_reducible intro nq hnq;try refine zU ?_))
      refine RS.call rfl ((spec_l01Add h.p (a i) (act h.p t a v d i) (apk h.p (fun y => t (64 * i + y)) v d) _ _ hp ((act_res hp.1 _ _ _ _ _ 8).by hp.2) ((apk_res hp.1 _ _ _ 8).by hp.2) (by omega)).mono ?_)
      rintro r H' n2 hn2 ⟨rfl, rfl⟩
      (refine zG ?_)
      exact ⟨by omega, by (repeat first | exact trivial | refine And.intro rfl ?_), Drops.keepc rfl rfl (fun q hq => by rw [act_step]) (Drops.refl _ _), trivial⟩
    · (refine zG ?_)
      exact ⟨by omega, by (repeat first | exact trivial | refine And.intro rfl ?_), by rw [act_skip h2]; exact Drops.refl _ _, trivial⟩
  · obtain rfl : N = i := by omega
    (refine zG ?_)
    exact ⟨.arr 8 (bys (act h.p t a v d N)), H, conc_arr (fun q hq => by simp only [Nat.zero_add]), by exact zD, rfl, rfl⟩

end Go.Proofs.YtmkegkpabifpfaaGreat

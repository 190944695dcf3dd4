/- Systems of linear equations, the program's: one place cleared. -/
import Derived.Test.YtideblodkkgodaaGreatJbj
set_option linter.unusedSectionVars false
set_option linter.unusedVariables false
set_option linter.unusedSimpArgs false

namespace Go.V

theorem SY.put {H : Hp} {sb : Nat} {p : Int} {a m : Nat} {R : Nat → Nat → Int} {rb : Nat} {bk cp : Nat → Nat} {ks kj : Blk} {j x0 : Nat} {v : Int} (h : SY H sb p a m R rb bk cp ks) (hj : j < m) (gj : H.get (bk j) = some kj) {c' : Nat → SV} (hc : c' = put1 kj.c x0 (.int .u8 v)) :
    SY (H.set (bk j) c') sb p a m (fun k x => if k = j ∧ x = x0 then v else R k x) rb bk cp ks := by
  have hd := h.d2 j hj
  refine { h with g := by rw [Hp.get_set_other _ hd.1]; exact h.g, rows := h.rows.keep (Hp.get_set_other _ hd.2), row := fun i hi => ?_ }
  by_cases e : i = j
  · subst e
    obtain ⟨k2, g2, s2, c2⟩ := h.row i hi
    rw [gj] at g2; cases g2
    refine ⟨_, Hp.get_set_self _ gj, s2, fun x hx => ?_⟩
    (try dsimp only)
    rw [hc]
    unfold put1
    by_cases e2 : x = x0
    · rw [if_pos e2, if_pos ⟨rfl, e2⟩]
    · rw [if_neg e2, if_neg (fun q => e2 q.2)]; exact c2 x hx
  · obtain ⟨k2, g2, s2, c2⟩ := h.row i hi
    refine ⟨k2, by rw [Hp.get_set_other _ (fun q => e (h.d3 i j hi hj q.symm))]; exact g2, s2, fun x hx => ?_⟩
    rw [if_neg (fun q => e q.1)]; exact c2 x hx

theorem SY.same {H : Hp} {sb : Nat} {p : Int} {a m : Nat} {R R' : Nat → Nat → Int} {rb : Nat} {bk cp : Nat → Nat} {ks : Blk} (h : SY H sb p a m R rb bk cp ks) (hr : ∀ k x, k < m → x < a + 1 → R k x = R' k x) : SY H sb p a m R' rb bk cp ks := by
  refine { h with row := fun i hi => ?_ }
  obtain ⟨k2, g2, s2, c2⟩ := h.row i hi
  exact ⟨k2, g2, s2, fun x hx => by rw [← hr i x hi hx]; exact c2 x hx⟩

/-- Only rows have changed. -/
def Frm (H H' : Hp) (m : Nat) (bk : Nat → Nat) : Prop := ∀ x, (∀ k, k < m → x ≠ bk k) → H'.get x = H.get x

theorem Frm.set {H H' : Hp} {m : Nat} {bk : Nat → Nat} (h : Frm H H' m bk) {j : Nat} (hj : j < m) (c : Nat → SV) : Frm H (H'.set (bk j) c) m bk := fun x hx => by
  rw [Hp.get_set_other _ (fun q => hx j hj q.symm)]; exact h x hx

end Go.V

namespace Go.Proofs.YtideblodkkgodaaGreat

open Go.V

variable [BW]

set_option linter.unusedSimpArgs false

set_option linter.unusedVariables false

set_option maxHeartbeats 4000000

/-- (*impl.system).clear -/
def ir101 : Cd := (.seq (.reg [⟨some 15,none,.mov (.t 0)⟩,⟨some 16,none,.ck (.t 15)⟩,⟨some 17,none,.fa 3 (.t 16)⟩,⟨some 18,none,.ld none (.t 17)⟩,⟨some 19,none,.mov (.t 1)⟩,⟨some 20,none,.isl 1 (.t 18) (.t 19)⟩,⟨some 21,none,.ld none (.t 20)⟩,⟨some 6,none,.mov (.t 21)⟩]) (.seq (.drw true [8] [⟨some 22,none,.mov (.t 0)⟩,⟨some 23,none,.ck (.t 22)⟩,⟨some 24,none,.fa 0 (.t 23)⟩,⟨some 25,none,.ld (some 2) (.t 24)⟩,⟨some 26,none,.mov (.t 6)⟩,⟨some 27,none,.mov (.t 2)⟩,⟨some 28,none,.isl 1 (.t 26) (.t 27)⟩,⟨some 29,none,.ld none (.t 28)⟩,⟨some 30,none,.call 125 [(.t 25),(.t 29)]⟩,⟨some 7,none,.mov (.t 30)⟩]) (.seq (.seq (.reg [⟨some 31,none,.mov (.t 6)⟩,⟨some 32,none,.len (.t 31)⟩,⟨some 33,none,.mov (.c (.int .i64 0))⟩]) (.block 0 (.loop (.seq (.reg [⟨some 34,none,.bin .lss (.t 33) (.t 32)⟩]) (.seq (.cond (.t 34) .skip (.exit 0)) (.seq (.block 1 (.seq (.reg [⟨some 35,none,.mov (.t 33)⟩,⟨some 36,none,.isl 1 (.t 31) (.t 33)⟩,⟨some 37,none,.ld none (.t 36)⟩,⟨some 8,none,.mov (.t 35)⟩,⟨some 9,none,.mov (.t 37)⟩]) (.reg [⟨some 38,none,.mov (.t 6)⟩,⟨some 39,none,.mov (.t 8)⟩,⟨some 40,none,.mov (.t 0)⟩,⟨some 41,none,.ck (.t 40)⟩,⟨some 42,none,.fa 0 (.t 41)⟩,⟨some 43,none,.ld (some 2) (.t 42)⟩,⟨some 44,none,.mov (.t 7)⟩,⟨some 45,none,.mov (.t 9)⟩,⟨some 46,none,.cv .i64 (.t 45)⟩,⟨some 47,none,.bin .mul (.t 44) (.t 46)⟩,⟨some 48,none,.call 54 [(.t 43),(.t 47)]⟩,⟨some 49,none,.isl 1 (.t 38) (.t 39)⟩,⟨none,none,.st 1 (.t 49) (.t 48)⟩]))) (.reg [⟨some 50,none,.bin .add (.t 33) (.c (.int .i64 1))⟩,⟨some 33,none,.mov (.t 50)⟩]))))))) (.seq (.reg [⟨some 51,none,.mov (.t 0)⟩,⟨some 52,none,.ck (.t 51)⟩,⟨some 53,none,.fa 3 (.t 52)⟩,⟨some 54,none,.ld none (.t 53)⟩,⟨some 55,none,.len (.t 54)⟩,⟨some 56,none,.mov (.c (.int .i64 0))⟩]) (.block 2 (.loop (.seq (.reg [⟨some 57,none,.bin .lss (.t 56) (.t 55)⟩]) (.seq (.cond (.t 57) .skip (.exit 2)) (.seq (.block 3 (.seq (.reg [⟨some 58,none,.mov (.t 56)⟩,⟨some 59,none,.isl 1 (.t 54) (.t 56)⟩,⟨some 60,none,.ld none (.t 59)⟩,⟨some 10,none,.mov (.t 58)⟩,⟨some 11,none,.mov (.t 60)⟩]) (.seq (.seq (.reg [⟨some 61,none,.mov (.t 10)⟩,⟨some 62,none,.mov (.t 1)⟩,⟨some 63,none,.bin .eql (.t 61) (.t 62)⟩,⟨some 64,none,.mov (.t 63)⟩,⟨some 65,(some (64,false)),.mov (.t 11)⟩,⟨some 66,(some (64,false)),.mov (.t 2)⟩,⟨some 67,(some (64,false)),.isl 1 (.t 65) (.t 66)⟩,⟨some 68,(some (64,false)),.ld none (.t 67)⟩,⟨some 69,(some (64,false)),.bin .eql (.t 68) (.c (.int .u8 0))⟩,⟨some 70,none,.pick (.t 64) (.c (.bool true)) (.t 69)⟩]) (.cond (.t 70) (.exit 3) .skip)) (.seq (.reg [⟨some 71,none,.mov (.t 11)⟩,⟨some 72,none,.mov (.t 2)⟩,⟨some 73,none,.isl 1 (.t 71) (.t 72)⟩,⟨some 74,none,.ld none (.t 73)⟩,⟨some 75,none,.cv .i64 (.t 74)⟩,⟨some 12,none,.mov (.t 75)⟩]) (.seq (.reg [⟨some 76,none,.mov (.t 6)⟩,⟨some 77,none,.len (.t 76)⟩,⟨some 78,none,.mov (.c (.int .i64 0))⟩]) (.block 4 (.loop (.seq (.reg [⟨some 79,none,.bin .lss (.t 78) (.t 77)⟩]) (.seq (.cond (.t 79) .skip (.exit 4)) (.seq (.block 5 (.seq (.reg [⟨some 80,none,.mov (.t 78)⟩,⟨some 81,none,.isl 1 (.t 76) (.t 78)⟩,⟨some 82,none,.ld none (.t 81)⟩,⟨some 13,none,.mov (.t 80)⟩,⟨some 14,none,.mov (.t 82)⟩]) (.drw true [18] [⟨some 83,none,.mov (.t 11)⟩,⟨some 84,none,.mov (.t 13)⟩,⟨some 85,none,.mov (.t 0)⟩,⟨some 86,none,.ck (.t 85)⟩,⟨some 87,none,.fa 0 (.t 86)⟩,⟨some 88,none,.ld (some 2) (.t 87)⟩,⟨some 89,none,.mov (.t 11)⟩,⟨some 90,none,.mov (.t 13)⟩,⟨some 91,none,.isl 1 (.t 89) (.t 90)⟩,⟨some 92,none,.ld none (.t 91)⟩,⟨some 93,none,.cv .i64 (.t 92)⟩,⟨some 94,none,.mov (.t 12)⟩,⟨some 95,none,.mov (.t 14)⟩,⟨some 96,none,.cv .i64 (.t 95)⟩,⟨some 97,none,.bin .mul (.t 94) (.t 96)⟩,⟨some 98,none,.bin .sub (.t 93) (.t 97)⟩,⟨some 99,none,.call 54 [(.t 88),(.t 98)]⟩,⟨some 100,none,.isl 1 (.t 83) (.t 84)⟩,⟨none,none,.st 1 (.t 100) (.t 99)⟩]))) (.reg [⟨some 101,none,.bin .add (.t 78) (.c (.int .i64 1))⟩,⟨some 78,none,.mov (.t 101)⟩]))))))))))) (.reg [⟨some 102,none,.bin .add (.t 56) (.c (.int .i64 1))⟩,⟨some 56,none,.mov (.t 102)⟩]))))))))))

set_option maxRecDepth 100000 in
theorem tr101 : trFn Tryz.prog Tryz.f101 = some (103, ir101, []) := by kernel_rfl

theorem system_clear (p : Int) (a m at' c : Nat) (R : Nat → Nat → Int) (sb rb : Nat) (bk cp : Nat → Nat) (ks : Blk) (H : Hp) (n : Nat) (hp : isP p = true) (ha : a ≤ 8) (hm : m ≤ 2000000) (hat : at' < m) (hc : c ≤ a)
    (hS : SY H sb p a m R rb bk cp ks) (hR : ∀ k x, k < m → x < a + 1 → 0 ≤ R k x ∧ R k x < p) (h0 : R at' c ≠ 0) :
    FnS Tryz.prog 101 [ptr sb 0, i64 at', i64 c] H n (fun r H' n' => r = .tup [] ∧ SY H' sb p a m (clr p R at' c) rb bk cp ks ∧ Frm H H' m bk) := by
  have hb := isP_le hp
  obtain ⟨gs, ss, s0, s1, s2, srow, hrow, qc, d1, d2, d3⟩ := id hS
  have hRc := hR at' c hat (by omega)
  have hfld : ∀ q, q < 2 → ks.c q = fldC p 0 q := fun q hq => by
    rcases (show q = 0 ∨ q = 1 by omega) with rfl | rfl
    · exact s0
    · exact s1
  rcases srow with ⟨_, rfl⟩ | ⟨ro, rcap, rk, r3, rg, rs, rm, rc⟩
  · omega
  have r3' : ks.c (0 + 3) = .slc rb ro m rcap := r3
  have rc1 : rk.c (ro + at' * 1) = .slc (bk at') 0 (a + 1) (cp (bk at')) := by rw [Nat.mul_one]; exact rc at' hat
  obtain ⟨kt, gt, st, ct⟩ := hrow at' hat
  have ct1 : kt.c (0 + c * 1) = .int .u8 (R at' c) := by rw [Nat.zero_add, Nat.mul_one]; exact ct c (by omega)
  have hRm : R at' c % p ≠ 0 := by rw [modSelf hRc]; exact h0
  obtain ⟨V, hV⟩ : ∃ V, V = inv p (R at' c) := ⟨_, rfl⟩
  have hVb : 0 ≤ V ∧ V ≤ 31 := by have := inv_spec hp hRm; rw [← hV] at this; omega
  refine FnS.of_body Tryz.func101 tr101 (by simp) (fun hf => ?_)
  dsimp only [argEnv]
  unfold ir101
  have hsn := getlt hf gs
  (repeat first|refine zG ?_|(refine LS.nilO ?_;intro nq hnq hltq;try refine zU ?_)|(refine MS.new ?_;intro bq hbq hbqf;try refine zU ?_)|(refine MS.nil ?_;intro nq hnq hltq;have hlq:=hltq _ _ (Hp.get_eq _ _ _);clear hltq;try refine zU ?_)|(refine LS.nilQ ?_;try with_reducible intro nq hnq;try refine zU ?_))
  refine RS.call rfl ((FnS.args (concs_cons (conc_arr hfld) rfl) (field_inverse p 0 (R at' c) _ _ hp (by omega) hRm)).mono ?_)
  rintro r H n1 hn1 ⟨rfl, rfl⟩
  (refine zG ?_)
  refine CS.iterJ (a + 1) (fun i => [(33, i64 (i : Nat)), (32, i64 ((a + 1 : Nat) : Int)), (31, .s (.slc (bk at') 0 (a + 1) (cp (bk at')))), (6, .s (.slc (bk at') 0 (a + 1) (cp (bk at')))), (7, i64 V), (0, ptr sb 0), (1, i64 at'), (2, i64 c)])
    (fun i H' _ => SY H' sb p a m (fun k x => if k = at' ∧ x < i then V * R at' x % p else R k x) rb bk cp ks ∧ Frm H H' m bk) (by rw [hV]; (repeat first | exact trivial | refine And.intro rfl ?_)) ⟨hS.same (fun k x _ _ => by rw [if_neg (by omega)]), fun x _ => rfl⟩ ?_
  rintro i n2 H2 hi hn2 ⟨hS2, hF2⟩
  have gs2 := hS2.g
  obtain ⟨kt2, gt2, st2, ct2⟩ := hS2.row at' hat
  (refine zG ?_)
  refine zI ?_ ?_<;>intro h3
  · have ct3 : kt2.c (0 + i * 1) = .int .u8 (R at' i) := by
      have := ct2 i (by omega)
      rw [if_neg (by omega)] at this
      rw [Nat.zero_add, Nat.mul_one]; exact this
    have hRi := hR at' i hat (by omega)
    have hmul := mulB hVb.1 hVb.2 hRi.1 (show R at' i ≤ 31 by omega)
    (refine zG ?_)
    refine RS.call rfl ((FnS.args (concs_cons (conc_arr hfld) rfl) (field_mod p 0 (V * R at' i) _ _ hb.1 hb.2 (by omega))).mono ?_)
    rintro r H2 n3 hn3 ⟨rfl, rfl⟩
    (refine zG ?_)
    refine ⟨by omega, by (repeat first | exact trivial | refine And.intro rfl ?_), _, Drops.refl _ _, (hS2.put (x0 := i) (v := V * R at' i % p) hat gt2 (by rw [Nat.zero_add, Nat.mul_one])).same (fun k x _ _ => ?_), hF2.set hat _⟩
    by_cases e1 : k = at'
    · subst e1
      by_cases e2 : x = i
      · subst e2; rw [if_pos ⟨rfl, rfl⟩, if_pos ⟨rfl, by omega⟩]
      · rw [if_neg (fun q => e2 q.2)]
        by_cases e3 : x < i
        · rw [if_pos ⟨rfl, e3⟩, if_pos ⟨rfl, by omega⟩]
        · rw [if_neg (fun q => e3 q.2), if_neg (by omega)]
    · rw [if_neg (fun q => e1 q.1), if_neg (fun q => e1 q.1), if_neg (fun q => e1 q.1)]
  · obtain rfl : i = a + 1 := by omega
    have hS3 : SY H2 sb p a m (fun k x => if k = at' ∨ k < 0 then clr p R at' c k x else R k x) rb bk cp ks := hS2.same (fun k x _ hx => by
      by_cases e1 : k = at'
      · rw [if_pos ⟨e1, hx⟩, if_pos (.inl e1)]; unfold clr; rw [if_pos e1, hV]
      · rw [if_neg (fun q => e1 q.1), if_neg (by omega)])
    have r3'' : ks.c (0 + 3) = .slc rb ro m rcap := r3
    (refine zG ?_)
    refine CS.iterJ m (fun k => [(56, i64 (k : Nat)), (55, i64 (m : Nat)), (54, .s (.slc rb ro m rcap)), (6, .s (.slc (bk at') 0 (a + 1) (cp (bk at')))), (0, ptr sb 0), (1, i64 at'), (2, i64 c)])
      (fun k H' _ => SY H' sb p a m (fun j x => if j = at' ∨ j < k then clr p R at' c j x else R j x) rb bk cp ks ∧ Frm H H' m bk) (by (repeat first | exact trivial | refine And.intro rfl ?_)) ⟨hS3, hF2⟩ ?_
    rintro k n3 H3 hk hn3 ⟨hS4, hF4⟩
    have gs4 := hS4.g
    have grb4 : H3.get rb = some rk := by rw [hF4 rb (fun j hj q => (d2 j hj).2 q.symm)]; exact rg
    (refine zG ?_)
    refine zI ?_ ?_<;>intro h4
    · have rc2 : rk.c (ro + k * 1) = .slc (bk k) 0 (a + 1) (cp (bk k)) := by rw [Nat.mul_one]; exact rc k (by omega)
      obtain ⟨kk, gk, sk, ck⟩ := hS4.row k (by omega)
      (refine zG ?_)
      refine RS.sp (t := 64) rfl (fun h5 => ?_) (fun h5 => ?_) <;> (try simp only [tb_eq, tb_eqF, decide_eq_true_eq, decide_eq_false_iff_not, beq_iff_eq, bne_iff_ne, ne_eq, Decidable.not_not, beq_eq_false_iff_ne, bne_eq_false_iff_eq, Bool.not_eq_true', Bool.not_eq_false', Bool.not_eq_eq_eq_not, Bool.not_true, Bool.not_false] at h5)
      · (refine zG ?_)
        refine ⟨by omega, by (repeat first | exact trivial | refine And.intro rfl ?_), H3, Drops.refl _ _, hS4.same (fun j x _ _ => ?_), hF4⟩
        by_cases e1 : j = at' ∨ j < k
        · rw [if_pos e1, if_pos (by omega)]
        · rw [if_neg e1, if_neg (by omega)]
      · have hRk := fun x (hx : x < a + 1) => hR k x (by omega) hx
        have ck0 : ∀ x, x < a + 1 → kk.c x = .int .u8 (R k x) := fun x hx => by
          rw [ck x hx, if_neg (by omega)]
        have ck1 : kk.c (0 + c * 1) = .int .u8 (R k c) := by rw [Nat.zero_add, Nat.mul_one]; exact ck0 c (by omega)
        (refine zG ?_)
        refine zI ?_ ?_<;>intro h6
        · (refine zG ?_)
          refine ⟨by omega, by (repeat first | exact trivial | refine And.intro rfl ?_), H3, Drops.refl _ _, hS4.same (fun j x _ hx => ?_), hF4⟩
          by_cases e1 : j = at' ∨ j < k
          · rw [if_pos e1, if_pos (by omega)]
          · by_cases e2 : j = k
            · subst e2
              rw [if_neg e1, if_pos (by omega)]
              unfold clr
              rw [if_neg (by omega), h6, Int.zero_mul, Int.sub_zero, modSelf (hRk x hx)]
            · rw [if_neg e1, if_neg (by omega)]
        · have hRkc := hRk c (by omega)
          (refine zG ?_)
          refine CS.iterJ (a + 1) (fun j => [(78, i64 (j : Nat)), (77, i64 ((a + 1 : Nat) : Int)), (76, .s (.slc (bk at') 0 (a + 1) (cp (bk at')))), (12, i64 (R k c)), (11, .s (.slc (bk k) 0 (a + 1) (cp (bk k)))), (56, i64 (k : Nat)), (55, i64 (m : Nat)), (54, .s (.slc rb ro m rcap)), (6, .s (.slc (bk at') 0 (a + 1) (cp (bk at')))), (0, ptr sb 0), (1, i64 at'), (2, i64 c)])
            (fun j H' _ => SY H' sb p a m (fun i x => if i = k ∧ x < j then clr p R at' c k x else if i = at' ∨ i < k then clr p R at' c i x else R i x) rb bk cp ks ∧ Frm H H' m bk) (by (repeat first | exact trivial | refine And.intro rfl ?_)) ⟨hS4.same (fun i x _ _ => by rw [if_neg (show ¬(i = k ∧ x < 0) by omega)]), hF4⟩ ?_
          rintro j n5 H5 hj hn5 ⟨hS5, hF5⟩
          have gs5 := hS5.g
          obtain ⟨kt5, gt5, st5, ct5⟩ := hS5.row at' hat
          obtain ⟨kk5, gk5, sk5, ck5⟩ := hS5.row k (by omega)
          (refine zG ?_)
          refine zI ?_ ?_<;>intro h7
          · obtain ⟨T, hT⟩ : ∃ T, T = clr p R at' c at' j := ⟨_, rfl⟩
            have hTb : 0 ≤ T ∧ T < p := by rw [hT]; unfold clr; rw [if_pos rfl]; exact modB _ hb.1
            have ct6 : kt5.c (0 + j * 1) = .int .u8 T := by
              rw [Nat.zero_add, Nat.mul_one, ct5 j (by omega), if_neg (by omega), if_pos (.inl rfl), hT]
            have ck6 : kk5.c (0 + j * 1) = .int .u8 (R k j) := by
              rw [Nat.zero_add, Nat.mul_one, ck5 j (by omega), if_neg (by omega), if_neg (by omega)]
            have hRkj := hRk j (by omega)
            have hmul := mulB hRkc.1 (show R k c ≤ 31 by omega) hTb.1 (show T ≤ 31 by omega)
            (refine zG ?_)
            refine LS.callQ (u8 ((R k j - R k c * T) % p)) rfl (fun n' hn' => FnS.args (concs_cons (conc_arr hfld) rfl) (field_mod p 0 (R k j - R k c * T) _ _ hb.1 hb.2 (by omega))) ?_
            (repeat first|refine zG ?_|(refine LS.nilO ?_;intro nq hnq hltq;try refine zU ?_)|(refine MS.new ?_;intro bq hbq hbqf;try refine zU ?_)|(refine MS.nil ?_;intro nq hnq hltq;have hlq:=hltq _ _ (Hp.get_eq _ _ _);clear hltq;try refine zU ?_)|(refine LS.nilQ ?_;try with_reducible intro nq hnq;try refine zU ?_))
            refine ⟨by omega, by (repeat first | exact trivial | refine And.intro rfl ?_), _, Drops.refl _ _, (hS5.put (x0 := j) (v := (R k j - R k c * T) % p) (by omega) gk5 (by rw [Nat.zero_add, Nat.mul_one])).same (fun i x _ _ => ?_), hF5.set (by omega) _⟩
            by_cases e1 : i = k
            · subst e1
              by_cases e2 : x = j
              · subst e2; rw [if_pos ⟨rfl, rfl⟩, if_pos ⟨rfl, by omega⟩, hT]; unfold clr; rw [if_pos rfl, if_neg (by omega)]
              · rw [if_neg (fun q => e2 q.2)]
                by_cases e3 : x < j
                · rw [if_pos ⟨rfl, e3⟩, if_pos ⟨rfl, by omega⟩]
                · rw [if_neg (fun q => e3 q.2), if_neg (show ¬(i = i ∧ x < j + 1) by omega)]
            · rw [if_neg (show ¬(i = k ∧ x = j) from fun q => e1 q.1), if_neg (show ¬(i = k ∧ x < j) from fun q => e1 q.1), if_neg (show ¬(i = k ∧ x < j + 1) from fun q => e1 q.1)]
          · obtain rfl : j = a + 1 := by omega
            (refine zG ?_)
            refine ⟨by omega, by (repeat first | exact trivial | refine And.intro rfl ?_), H5, Drops.refl _ _, hS5.same (fun i x _ hx => ?_), hF5⟩
            by_cases e1 : i = k
            · rw [if_pos ⟨e1, hx⟩, if_pos (by omega), e1]
            · rw [if_neg (fun q => e1 q.1)]
              by_cases e2 : i = at' ∨ i < k
              · rw [if_pos e2, if_pos (by omega)]
              · rw [if_neg e2, if_neg (by omega)]
    · obtain rfl : k = m := by omega
      (refine zG ?_)
      exact ⟨.tup [], H3, rfl, Drops.refl _ _, rfl, hS4.same (fun j x hj _ => by rw [if_pos (.inr hj)]), hF4⟩

end Go.Proofs.YtideblodkkgodaaGreat

/- Systems of linear equations, the program's: the solution. -/

namespace Go.V

theorem tb_not_eq {x : Int} : tb (x ≠ 0) = (x != 0) := by
  by_cases h : x = 0
  · rw [tb_false (fun q => q h)]; simp [h]
  · rw [tb_true h]; simp [h]

end Go.V

namespace Go.Proofs.YtideblodkkgodaaGreat

open Go.V

variable [BW]

set_option linter.unusedSimpArgs false

set_option linter.unusedVariables false

set_option maxHeartbeats 4000000

/-- (*impl.system).solve$1 -/
def ir100 : Cd := (.seq (.reg [⟨some 3,none,.mov (.c (.bool false))⟩]) (.seq (.reg [⟨some 4,none,.mov (.t 0)⟩,⟨some 5,none,.ld none (.t 1)⟩,⟨some 6,none,.isl 1 (.t 4) (.t 5)⟩,⟨some 7,none,.ld none (.t 6)⟩,⟨some 8,none,.bin .neq (.t 7) (.c (.int .u8 0))⟩,⟨some 3,none,.mov (.t 8)⟩]) .ret))

set_option maxRecDepth 100000 in
theorem tr100 : trFn Tryz.prog Tryz.f100 = some (9, ir100, [.tmp 3]) := by kernel_rfl

theorem system_solve_1 (R : Nat → Int) (a c b bc cp : Nat) (kr kc : Blk) (H : Hp) (n : Nat) (gr : H.get b = some kr) (sr : a + 1 ≤ kr.size) (cr : ∀ x, x < a + 1 → kr.c x = .int .u8 (R x)) (hc : c ≤ a)
    (gc : H.get bc = some kc) (sc : kc.size = 1) (cc : kc.c 0 = .int .i64 c) :
    FnS Tryz.prog 100 [.s (.slc b 0 (a + 1) cp), ptr bc 0] H n (fun r H' _ => r = bl (tb (R c ≠ 0)) ∧ H' = H) := by
  have cr1 : kr.c (0 + c * 1) = .int .u8 (R c) := by rw [Nat.zero_add, Nat.mul_one]; exact cr c (by omega)
  refine FnS.of_body Tryz.func100 tr100 (by simp) (fun hf => ?_)
  dsimp only [argEnv]
  unfold ir100
  (refine zG ?_)
  exact ⟨bl (tb (R c ≠ 0)), H, by rw [tb_not_eq], by exact zD, rfl, rfl⟩

/-- (*impl.system).solve$2 -/
def ir103 : Cd := (.seq (.reg [⟨some 3,none,.mov (.c (.bool false))⟩]) (.seq (.reg [⟨some 4,none,.mov (.t 0)⟩,⟨some 5,none,.ld none (.t 1)⟩,⟨some 6,none,.ck (.t 5)⟩,⟨some 7,none,.fa 2 (.t 6)⟩,⟨some 8,none,.ld none (.t 7)⟩,⟨some 9,none,.isl 1 (.t 4) (.t 8)⟩,⟨some 10,none,.ld none (.t 9)⟩,⟨some 11,none,.bin .neq (.t 10) (.c (.int .u8 0))⟩,⟨some 3,none,.mov (.t 11)⟩]) .ret))

set_option maxRecDepth 100000 in
theorem tr103 : trFn Tryz.prog Tryz.f103 = some (12, ir103, [.tmp 3]) := by kernel_rfl

theorem system_solve_2 (R : Nat → Int) (a b bs sb cp : Nat) (kr kb ks : Blk) (H : Hp) (n : Nat) (gr : H.get b = some kr) (sr : a + 1 ≤ kr.size) (cr : ∀ x, x < a + 1 → kr.c x = .int .u8 (R x))
    (gb : H.get bs = some kb) (s1 : kb.size = 1) (c1 : kb.c 0 = .ptr sb 0) (gs : H.get sb = some ks) (s5 : ks.size = 5) (c2 : ks.c 2 = .int .i64 a) :
    FnS Tryz.prog 103 [.s (.slc b 0 (a + 1) cp), ptr bs 0] H n (fun r H' _ => r = bl (tb (R a ≠ 0)) ∧ H' = H) := by
  have cr1 : kr.c (0 + a * 1) = .int .u8 (R a) := by rw [Nat.zero_add, Nat.mul_one]; exact cr a (by omega)
  have c2' : ks.c (0 + 2) = .int .i64 a := c2
  refine FnS.of_body Tryz.func103 tr103 (by simp) (fun hf => ?_)
  dsimp only [argEnv]
  unfold ir103
  (refine zG ?_)
  exact ⟨bl (tb (R a ≠ 0)), H, by rw [tb_not_eq], by exact zD, rfl, rfl⟩

/-- slices.IndexFunc[[][]byte,[]byte] -/
def ir99 : Cd := (.seq (.reg [⟨some 4,none,.mov (.c (.int .i64 0))⟩]) (.seq (.seq (.reg [⟨some 6,none,.mov (.t 0)⟩,⟨some 7,none,.len (.t 6)⟩,⟨some 8,none,.mov (.c (.int .i64 0))⟩]) (.block 0 (.loop (.seq (.reg [⟨some 9,none,.bin .lss (.t 8) (.t 7)⟩]) (.seq (.cond (.t 9) .skip (.exit 0)) (.seq (.block 1 (.seq (.reg [⟨some 10,none,.mov (.t 8)⟩,⟨some 5,none,.mov (.t 10)⟩]) (.seq (.reg [⟨some 11,none,.mov (.t 1)⟩,⟨some 12,none,.mov (.t 0)⟩,⟨some 13,none,.mov (.t 5)⟩,⟨some 14,none,.isl 1 (.t 12) (.t 13)⟩,⟨some 15,none,.ld none (.t 14)⟩,⟨some 16,none,.callv (.t 11) [(.t 15)]⟩]) (.cond (.t 16) (.seq (.reg [⟨some 17,none,.mov (.t 5)⟩,⟨some 4,none,.mov (.t 17)⟩]) .ret) .skip)))) (.reg [⟨some 18,none,.bin .add (.t 8) (.c (.int .i64 1))⟩,⟨some 8,none,.mov (.t 18)⟩]))))))) (.seq (.reg [⟨some 4,none,.mov (.c (.int .i64 (-1)))⟩]) .ret)))

set_option maxRecDepth 100000 in
theorem tr99 : trFn Tryz.prog Tryz.f99 = some (19, ir99, [.tmp 4]) := by kernel_rfl

theorem slices_IndexFuncR (Q : Nat → Prop) (F : FuncId) (post : List SV) (rb o len cap : Nat) (hl : len ≤ 4000000) (kr : Blk) (E : Nat → SV) (H : Hp) (n : Nat) (grb : H.get rb = some kr) (hs : o + len ≤ kr.size) (hE : ∀ i, i < len → kr.c (o + i) = E i)
    (hF : ∀ i n' : Nat, i < len → n ≤ n' → FnS Tryz.prog F ([.s (E i)] ++ post.map .s) H n' (fun r H' _ => r = bl (tb (Q i)) ∧ H' = H)) :
    FnS Tryz.prog 99 [.s (.slc rb o len cap), .s (.fn F [] post)] H n (fun r H' _ => (∃ x : Int, r = i64 x ∧ ((∃ i : Nat, x = i ∧ i < len ∧ Q i ∧ ∀ j, j < i → ¬Q j) ∨ (x = -1 ∧ ∀ j, j < len → ¬Q j))) ∧ H' = H) := by
  refine FnS.of_body Tryz.func99 tr99 (by simp) (fun hf => ?_)
  dsimp only [argEnv]
  unfold ir99
  (refine zG ?_)
  refine CS.iter len (fun i => [(8, i64 i), (7, i64 len), (0, .s (.slc rb o len cap)), (1, .s (.fn F [] post))]) (fun _ => H) (fun i => ∀ i', i' < i → ¬Q i') (by (repeat first | exact trivial | refine And.intro rfl ?_)) (Drops.refl _ _) (fun _ h => by omega) ?_
  intro i n1 hi hn hJ
  (refine zG ?_)
  refine zI ?_ ?_<;>intro h1
  · have hE1 : kr.c (o + i * 1) = E i := by rw [Nat.mul_one]; exact hE i (by omega)
    (refine zG ?_)
    refine RS.callv (f := F) (pre := []) (post := post) (vs := [.s (E i)]) (by exact rfl) (by exact rfl) ?_
    refine FnS.mono (hF i n1 (by omega) (by omega)) ?_
    rintro r H n2 hn2 ⟨rfl, rfl⟩
    (refine zG ?_)
    refine zI ?_ ?_<;>intro h2
    · (refine zG ?_)
      exact ⟨_, H, rfl, by exact zD, ⟨i, rfl, .inl ⟨i, rfl, by omega, h2, hJ⟩⟩, rfl⟩
    · (refine zG ?_)
      refine ⟨by omega, by (repeat first | exact trivial | refine And.intro rfl ?_), Drops.refl _ _, fun i' hi' => ?_⟩
      by_cases e : i' = i
      · subst e; exact h2
      · exact hJ i' (by omega)
  · obtain rfl : i = len := by omega
    (refine zG ?_)
    exact ⟨_, H, rfl, by exact zD, ⟨-1, rfl, .inr ⟨rfl, hJ⟩⟩, rfl⟩

/-- slices.ContainsFunc[[][]byte,[]byte] -/
def ir102 : Cd := (.seq (.reg [⟨some 4,none,.mov (.c (.bool false))⟩]) (.seq (.reg [⟨some 5,none,.mov (.t 0)⟩,⟨some 6,none,.mov (.t 1)⟩,⟨some 7,none,.call 99 [(.t 5),(.t 6)]⟩,⟨some 8,none,.bin .geq (.t 7) (.c (.int .i64 0))⟩,⟨some 4,none,.mov (.t 8)⟩]) .ret))

set_option maxRecDepth 100000 in
theorem tr102 : trFn Tryz.prog Tryz.f102 = some (9, ir102, [.tmp 4]) := by kernel_rfl

theorem slices_ContainsFuncR (Q : Nat → Prop) (F : FuncId) (post : List SV) (rb o len cap : Nat) (hl : len ≤ 4000000) (kr : Blk) (E : Nat → SV) (H : Hp) (n : Nat) (grb : H.get rb = some kr) (hs : o + len ≤ kr.size) (hE : ∀ i, i < len → kr.c (o + i) = E i)
    (hF : ∀ i n' : Nat, i < len → n ≤ n' → FnS Tryz.prog F ([.s (E i)] ++ post.map .s) H n' (fun r H' _ => r = bl (tb (Q i)) ∧ H' = H)) :
    FnS Tryz.prog 102 [.s (.slc rb o len cap), .s (.fn F [] post)] H n (fun r H' _ => r = bl (tb (∃ i, i < len ∧ Q i)) ∧ H' = H) := by
  refine FnS.of_body Tryz.func102 tr102 (by simp) (fun hf => ?_)
  dsimp only [argEnv]
  unfold ir102
  (refine zG ?_)
  refine RS.call rfl ((slices_IndexFuncR Q F post rb o len cap hl kr E _ _ grb hs hE hF).mono ?_)
  rintro r H n2 hn2 ⟨⟨x, rfl, hx⟩, rfl⟩
  have hx2 : 0 ≤ x ↔ ∃ i, i < len ∧ Q i := by
    rcases hx with ⟨i, rfl, h1, h2, _⟩ | ⟨rfl, h1⟩
    · exact ⟨fun _ => ⟨i, h1, h2⟩, fun _ => by omega⟩
    · exact ⟨fun h => by omega, fun ⟨i, h2, h3⟩ => absurd h3 (h1 i h2)⟩
  (refine zG ?_)
  exact ⟨_, H, rfl, by exact zD, by rw [← tb_iff hx2, tb_dec], rfl⟩

end Go.Proofs.YtideblodkkgodaaGreat

/- Closing lists of sub Hopf algebras, the program's. -/
import Derived.Test.YtideblodkkgodaaGreatJbt
import Derived.Test.YtideblodkkgodaaGreatJbq
set_option linter.unusedSectionVars false
set_option linter.unusedVariables false
set_option linter.unusedSimpArgs false

namespace Go.V

set_option linter.unusedSimpArgs false

set_option linter.unusedVariables false

def trn (s : Nat → Int) : Nat → Int := fun q => s (8 * (q % 8) + q / 8)

/-- The rows and behind them the columns of a table. -/
def l16 (M : Nat → Int) : Nat → Nat → Int := joinL 8 (fun i x => M (8 * i + x)) (fun i x => M (8 * x + i))

theorem l16_row (M : Nat → Int) {i : Nat} (h : i < 8) : l16 M i = fun x => M (8 * i + x) := by unfold l16 joinL; rw [if_pos h]

theorem l16_col (M : Nat → Int) {i : Nat} : l16 M (8 + i) = fun x => M (8 * x + i) := by unfold l16 joinL; rw [if_neg (by omega), show 8 + i - 8 = i by omega]

theorem l16_res {p : Int} {M : Nat → Int} (h : isRes p 64 M) {i : Nat} (hi : i < 16) : isRes p 8 (l16 M i) := fun x hx => by
  rcases Nat.lt_or_ge i 8 with q | q
  · rw [l16_row M q]; exact h _ (by omega)
  · rw [show i = 8 + (i - 8) by omega, l16_col]; exact h _ (by omega)

theorem l16_iff {p : Int} {A : Nat → Nat → Int} {d a : Nat} {M : Nat → Int} (ha : a ≤ 8) (hz : ∀ x y, x < 8 → y < 8 → (a ≤ x ∨ a ≤ y) → M (8 * x + y) = 0) : (∀ q, q < 16 → spn p A d (l16 M q)) ↔ ∀ q, q < 2 * a → spn p A d (lgs M q) := by
  refine ⟨fun h q hq => ?_, fun h q hq => ?_⟩
  · rcases Nat.mod_two_eq_zero_or_one q with e | e
    · have := h (q / 2) (by omega)
      rw [l16_row M (by omega)] at this
      rw [show q = 2 * (q / 2) by omega, lgs_even]; exact this
    · have := h (8 + q / 2) (by omega)
      rw [l16_col] at this
      rw [show q = 2 * (q / 2) + 1 by omega, lgs_odd]; exact this
  · rcases Nat.lt_or_ge q 8 with e | e
    · rw [l16_row M e]
      rcases Nat.lt_or_ge q a with e2 | e2
      · have := h (2 * q) (by omega)
        rwa [lgs_even] at this
      · exact spn_zero (fun x hx => by rw [hz q x e hx (.inl e2)]; exact Int.zero_emod p)
    · rw [show q = 8 + (q - 8) by omega, l16_col]
      rcases Nat.lt_or_ge (q - 8) a with e2 | e2
      · have := h (2 * (q - 8) + 1) (by omega)
        rwa [lgs_odd] at this
      · exact spn_zero (fun x hx => by (try dsimp only); rw [hz x (q - 8) hx (by omega) (.inr e2)]; exact Int.zero_emod p)

theorem all_snc {Q : (Nat → Int) → Prop} {L : Nat → Nat → Int} {m : Nat} {w : Nat → Int} : (∀ i, i < m + 1 → Q (snc L m w i)) ↔ (∀ i, i < m → Q (L i)) ∧ Q w := by
  refine ⟨fun h => ⟨fun i hi => ?_, ?_⟩, fun ⟨h1, h2⟩ i hi => ?_⟩
  · have := h i (by omega)
    unfold snc at this; rwa [if_neg (by omega)] at this
  · have := h m (by omega)
    unfold snc at this; rwa [if_pos rfl] at this
  · unfold snc
    by_cases e : i = m
    · rw [if_pos e]; exact h2
    · rw [if_neg e]; exact h1 i (by omega)

theorem all_join {Q : (Nat → Int) → Prop} {L L2 : Nat → Nat → Int} {m m2 : Nat} : (∀ i, i < m + m2 → Q (joinL m L L2 i)) ↔ (∀ i, i < m → Q (L i)) ∧ ∀ i, i < m2 → Q (L2 i) := by
  refine ⟨fun h => ⟨fun i hi => ?_, fun i hi => ?_⟩, fun ⟨h1, h2⟩ i hi => ?_⟩
  · have := h i (by omega)
    unfold joinL at this; rwa [if_pos hi] at this
  · have := h (m + i) (by omega)
    unfold joinL at this; rwa [if_neg (by omega), show m + i - m = i by omega] at this
  · unfold joinL
    by_cases e : i < m
    · rw [if_pos e]; exact h1 i e
    · rw [if_neg e]; exact h2 _ (by omega)

/-- What belongs to the vector i is in the space. -/
def gdi (h : HT) (a : Nat) (A : Nat → Nat → Int) (d i : Nat) : Prop :=
  (∀ k, k < d → spn h.p A d (pr h.p h.m (A i) (A k) a)) ∧ (∀ q, q < 2 * a → spn h.p A d (lgs (cps h.p h.c (A i) 8) q)) ∧ spn h.p A d (app h.p h.s (A i))

theorem subH_iff {h : HT} {a : Nat} {A : Nat → Nat → Int} {d : Nat} : subH h a A d ↔ spn h.p A d h.u ∧ ∀ i, i < d → gdi h a A d i :=
  ⟨fun q => ⟨q.1, fun i hi => ⟨fun k hk => q.2.1 i k hi hk, fun x hx => q.2.2.2 i x hi hx, q.2.2.1 i hi⟩⟩, fun q => ⟨q.1, fun i k hi hk => (q.2 i hi).1 k hk, fun i hi => (q.2 i hi).2.2, fun i x hi hx => (q.2 i hi).2.1 x hx⟩⟩

end Go.V

namespace Go.Proofs.YtideblodkkgodaaGreat

open Go.V

variable [BW]

set_option linter.unusedSimpArgs false

set_option linter.unusedVariables false

set_option maxHeartbeats 4000000

/-- impl.transposed -/
def ir126 : Cd := (.seq (.reg [⟨some 2,none,.new 34 [(64,(.int .u8 0))]⟩]) (.seq (.reg [⟨some 6,none,.build 64 [(64,(.int .u8 0))] []⟩,⟨some 3,none,.new 34 [(64,(.int .u8 0))]⟩,⟨none,none,.st 64 (.t 3) (.t 6)⟩]) (.seq (.seq (.reg [⟨some 7,none,.mov (.c (.int .i64 0))⟩]) (.block 0 (.loop (.seq (.reg [⟨some 8,none,.bin .lss (.t 7) (.c (.int .i64 8))⟩]) (.seq (.cond (.t 8) .skip (.exit 0)) (.seq (.block 1 (.seq (.reg [⟨some 9,none,.mov (.t 7)⟩,⟨some 4,none,.mov (.t 9)⟩]) (.seq (.reg [⟨some 10,none,.mov (.c (.int .i64 0))⟩]) (.block 2 (.loop (.seq (.reg [⟨some 11,none,.bin .lss (.t 10) (.c (.int .i64 8))⟩]) (.seq (.cond (.t 11) .skip (.exit 2)) (.seq (.block 3 (.seq (.reg [⟨some 12,none,.mov (.t 10)⟩,⟨some 5,none,.mov (.t 12)⟩]) (.drw true [11] [⟨some 13,none,.mov (.t 4)⟩,⟨some 14,none,.mov (.t 5)⟩,⟨some 15,none,.mov (.t 0)⟩,⟨some 16,none,.mov (.t 5)⟩,⟨some 17,none,.mov (.t 4)⟩,⟨some 18,none,.ck (.t 15)⟩,⟨some 19,none,.ia 8 8 (.t 18) (.t 16)⟩,⟨some 20,none,.ia 8 1 (.t 19) (.t 17)⟩,⟨some 21,none,.ld none (.t 20)⟩,⟨some 22,none,.ia 8 8 (.t 3) (.t 13)⟩,⟨some 23,none,.ia 8 1 (.t 22) (.t 14)⟩,⟨none,none,.st 1 (.t 23) (.t 21)⟩]))) (.reg [⟨some 24,none,.bin .add (.t 10) (.c (.int .i64 1))⟩,⟨some 10,none,.mov (.t 24)⟩]))))))))) (.reg [⟨some 25,none,.bin .add (.t 7) (.c (.int .i64 1))⟩,⟨some 7,none,.mov (.t 25)⟩]))))))) (.seq (.reg [⟨some 26,none,.ld (some 64) (.t 3)⟩,⟨none,none,.st 64 (.t 2) (.t 26)⟩]) .ret))))

set_option maxRecDepth 100000 in
theorem tr126 : trFn Tryz.prog Tryz.f126 = some (27, ir126, [.cell (some 64) 2]) := by kernel_rfl

theorem impl_transposedI (s : Nat → Int) (b o : Nat) (K : Blk) (H : Hp) (n : Nat) (hb : H.get b = some K) (ho : o + 64 ≤ K.size) (hc : ∀ i, i < 64 → K.c (o + i) = .int .u8 (s i)) :
    FnS Tryz.prog 126 [ptr b o] H n (fun r H' _ => r = .arr 64 (bys (trn s)) ∧ H' = H) := by
  refine FnS.of_body Tryz.func126 tr126 (by simp) (fun hf => ?_)
  dsimp only [argEnv]
  unfold ir126
  have hbn := getlt hf hb
  (refine zG ?_)
  refine CS.iter 8 (fun i => [(7, i64 i), (0, ptr b o), (2, ptr n 0), (3, ptr (n + 1) 0)])
    (fun i => (n + 1, ⟨64, bys (cellsTo (trn s) (8 * i)), 34⟩) :: (n, ⟨64, bys (fun _ => 0), 34⟩) :: H) (fun _ => True) (by (repeat first | exact trivial | refine And.intro rfl ?_))
    (Drops.keepc rfl rfl (fun _ _ => by rw [show cellsTo (trn s) (8 * 0) = fun _ => 0 from cellsTo_zero _]; rfl) (Drops.keepc rfl rfl (fun _ _ => rfl) (Drops.refl _ _))) trivial ?_
  intro i n1 hi hn _
  (refine zG ?_)
  refine zI ?_ ?_<;>intro h1
  · (refine zG ?_)
    refine CS.iter 8 (fun j => [(10, i64 j), (4, i64 i), (7, i64 i), (0, ptr b o), (2, ptr n 0), (3, ptr (n + 1) 0)])
      (fun j => (n + 1, ⟨64, bys (cellsTo (trn s) (8 * i + j)), 34⟩) :: (n, ⟨64, bys (fun _ => 0), 34⟩) :: H) (fun _ => True) (by (repeat first | exact trivial | refine And.intro rfl ?_)) (Drops.refl _ _) trivial ?_
    intro j n2 hj hn2 _
    (refine zG ?_)
    refine zI ?_ ?_<;>intro h2
    · have he : s (8 * j + i) = trn s (8 * i + j) := by unfold trn; rw [show (8 * i + j) % 8 = j by omega, show (8 * i + j) / 8 = i by omega]
      (repeat first|refine zG ?_|(refine LS.nilQ ?_;try with_reducible intro nq hnq;try refine zU ?_))
      exact ⟨by omega, by (repeat first | exact trivial | refine And.intro rfl ?_), Drops.keepc rfl rfl (fun q hq => by rw [he]; exact cellsTo_step _ _ q) (Drops.refl _ _), trivial⟩
    · have : j = 8 := by omega
      subst this
      (refine zG ?_)
      exact ⟨by omega, by (repeat first | exact trivial | refine And.intro rfl ?_), Drops.refl _ _, trivial⟩
  · have : i = 8 := by omega
    subst this
    (refine zG ?_)
    exact ⟨.arr 64 (bys (trn s)), H, conc_arr (fun q hq => by simp only [Nat.zero_add, bys, cellsTo]; rw [if_pos (by omega)]), by exact zD, rfl, rfl⟩

/-- (*impl.Hopf).antipode -/
def ir105 : Cd := (.seq (.reg [⟨some 3,none,.box 32 (.t 1)⟩,⟨some 4,none,.new 32 [(8,(.int .u8 0))]⟩]) (.seq (.drwo true [6,7] [0,2,3,4,5,1,6,7] [⟨some 5,none,.mov (.t 0)⟩,⟨some 6,none,.call 28 [(.t 5)]⟩,⟨some 7,none,.mov (.t 0)⟩,⟨some 8,none,.ck (.t 7)⟩,⟨some 9,none,.fa 1042 (.t 8)⟩,⟨some 10,none,.ld (some 8) (.t 3)⟩,⟨some 11,none,.call 128 [(.t 6),(.t 9),(.t 10)]⟩,⟨none,none,.st 8 (.t 4) (.t 11)⟩]) .ret))

set_option maxRecDepth 100000 in
theorem tr105 : trFn Tryz.prog Tryz.f105 = some (12, ir105, [.cell (some 8) 4]) := by kernel_rfl

theorem Hopf_antipodeI (h : HT) (a : Nat) (v : Nat → Int) (b : Nat) (K : Blk) (H : Hp) (n : Nat) (hS : HS h a) (hb : H.get b = some K) (hsz : K.size = 1106) (hK : h.At K.c) (hB : h.By) (hv : isBy 8 v) :
    FnS Tryz.prog 105 [ptr b 0, .arr 8 (bys v)] H n (fun r H' _ => r = .arr 8 (bys (app h.p h.s v)) ∧ H' = H) := by
  have hp := hS.hp
  have ha := hS.ha
  have hk1 := hK.n
  rw [hS.hn] at hk1
  refine FnS.of_body Tryz.func105 tr105 (by simp) (fun hf => ?_)
  dsimp only [argEnv]
  unfold ir105
  have hbn := getlt hf hb
  (refine zG ?_)
  refine CS.tailLo _ (List.Mem.head _) ?_; dsimp only [List.take, List.drop]
  (refine zG ?_)
  refine LS.callQ (fld h.p a) rfl (fun n' hn' => Hopf_field h.p a b K _ _ (by exact zH) hsz hK.p hk1 (by omega)) ?_
  (repeat first|refine zG ?_|(refine LS.nilQ ?_;try with_reducible intro nq hnq;try refine zU ?_))
  refine RS.call rfl ((field_apply h.p a h.s v b 1042 K _ _ hp (by exact zH) (by omega) hK.s hB.s hv).mono ?_)
  rintro r H' n3 hn3 ⟨rfl, rfl⟩
  (refine zG ?_)
  exact ⟨.arr 8 (bys (app h.p h.s v)), H, conc_arr (fun q hq => by first | rfl | (simp only [Nat.zero_add]; done) | (simp only [Nat.zero_add]; rfl)), by exact zD, rfl, rfl⟩

/-- slices.Clone[[]impl.Vector,impl.Vector] -/
def ir127 : Cd := (.seq (.reg [⟨some 2,none,.mov (.c .nils)⟩]) (.seq (.seq (.reg [⟨some 3,none,.mov (.t 0)⟩,⟨some 4,none,.snil false (.t 3)⟩]) (.cond (.t 4) (.seq (.reg [⟨some 2,none,.mov (.c .nils)⟩]) .ret) .skip)) (.seq (.reg [⟨some 5,none,.bsl 32 0 8 [(8,(.int .u8 0))] []⟩,⟨some 6,none,.mov (.t 0)⟩,⟨some 7,none,.app 32 8 8 [(8,(.int .u8 0))] (.t 5) (.t 6)⟩,⟨some 2,none,.mov (.t 7)⟩]) .ret)))

set_option maxRecDepth 100000 in
theorem tr127 : trFn Tryz.prog Tryz.f127 = some (8, ir127, [.tmp 2]) := by kernel_rfl

theorem slices_CloneV (L : Nat → Nat → Int) (v : SV) (b : Nat) (H : Hp) (n : Nat) (hV : VL H v 8 L b) :
    FnS Tryz.prog 127 [.s v] H n (fun r H' n' => ∃ v' b', r = .s v' ∧ VL H' v' 8 L b' ∧ n ≤ b' ∧ b' < n' ∧ (∀ x, n' ≤ x → H'.get x = none) ∧ ∀ x, x < n → H'.get x = H.get x) := by
  obtain ⟨o, cap, k, rfl, gb, ho, hm, hc⟩ := hV
  refine FnS.of_body Tryz.func127 tr127 (by simp) (fun hf => ?_)
  dsimp only [argEnv]
  unfold ir127
  have hbn := getlt hf gb
  (refine zG ?_)
  refine RS.app (len := 0) (cap := 0) (len2 := 8) (cap2 := cap) (c := fun _ => .nil) (c2 := fun i => .int .u8 (L (i / 8) (i % 8))) (by exact rfl) (by exact rfl) (.inr ⟨n, 0, _, rfl, Hp.get_eq _ _ _, by (try dsimp only); omega, Nat.le_refl _, fun i hi => by omega⟩) (.inr ⟨b, o, k, rfl, by rw [Hp.get_ne _ _ (by omega)]; exact gb, ho, hm, fun i hi => by
    show _ = SV.int IntKind.u8 (L (i / 8) (i % 8))
    rw [← hc (i / 8) (i % 8) (by omega) (by omega), show i / 8 * 8 + i % 8 = i by omega]⟩) (by omega) (by omega) (fun h => by omega) (fun hlt cap' hcap => ?_)
  (refine zG ?_)
  exact ⟨.s (.slc (n + 1) 0 8 cap'), _, rfl, Drops.refl _ _, _, n + 1, rfl, ⟨0, cap', _, rfl, Hp.get_eq _ _ _, by (try dsimp only); omega, by omega, fun i x hi hx => by
    (try dsimp only)
    unfold joinC
    rw [Nat.zero_add, if_pos (by omega), if_neg (by omega)]
    show SV.int IntKind.u8 (L ((i * 8 + x - 0 * 8) / 8) ((i * 8 + x - 0 * 8) % 8)) = _
    rw [show (i * 8 + x - 0 * 8) / 8 = i by omega, show (i * 8 + x - 0 * 8) % 8 = x by omega]⟩, by omega, by omega, fun x hx => by simp (disch := omega) only [Hp.get_ne]; exact hf x (by omega), fun x hx => by simp (disch := omega) only [Hp.get_ne]⟩

/-- impl.legs -/
def ir104 : Cd := (.seq (.reg [⟨some 1,none,.box 34 (.t 0)⟩,⟨some 2,none,.mov (.c .nils)⟩]) (.seq (.reg [⟨some 4,none,.call 126 [(.t 1)]⟩,⟨some 3,none,.new 34 [(64,(.int .u8 0))]⟩,⟨none,none,.st 64 (.t 3) (.t 4)⟩]) (.seq (.drwn (.seg 0 (.seg 2 (.seg 1 (.seg 3 (.seg 4 .done))))) [⟨some 5,none,.sla 8 8 (.t 1) none none none⟩,⟨some 6,none,.call 127 [(.t 5)]⟩,⟨some 7,none,.sla 8 8 (.t 3) none none none⟩,⟨some 8,none,.app 32 8 8 [(8,(.int .u8 0))] (.t 6) (.t 7)⟩,⟨some 2,none,.mov (.t 8)⟩]) .ret)))

set_option maxRecDepth 100000 in
theorem tr104 : trFn Tryz.prog Tryz.f104 = some (9, ir104, [.tmp 2]) := by kernel_rfl

theorem impl_legs (M : Nat → Int) (H : Hp) (n : Nat) :
    FnS Tryz.prog 104 [.arr 64 (bys M)] H n (fun r H' n' => ∃ v b, r = .s v ∧ VL H' v 16 (l16 M) b ∧ n ≤ b ∧ b < n' ∧ (∀ x, n' ≤ x → H'.get x = none) ∧ ∀ x, x < n → H'.get x = H.get x) := by
  refine FnS.of_body Tryz.func104 tr104 (by simp) (fun hf => ?_)
  dsimp only [argEnv]
  unfold ir104
  (refine zG ?_)
  refine RS.call rfl ((impl_transposedI M n 0 _ _ _ (by exact zH) (by first | (simp; done) | (simp [Zs.size]; done) | (try dsimp only; omega)) (fun i hi => by rw [Nat.zero_add]; rfl)).mono ?_)
  rintro r H' n2 hn2 ⟨rfl, rfl⟩
  (refine zG ?_)
  obtain ⟨HX, hHX⟩ : ∃ HX : Hp, HX = (n2, ⟨64, bys (trn M), 34⟩) :: (n, ⟨64, bys M, 34⟩) :: H := ⟨_, rfl⟩
  refine CS.weak (e1 := [(1, ptr n 0), (3, ptr n2 0)]) (H1 := HX) (by (repeat first | exact trivial | refine And.intro rfl ?_)) (by rw [hHX]; exact Drops.keepc rfl rfl (fun q hq => by first | rfl | (unfold splice; rw [if_pos (by (try dsimp only at hq); (try simp [Zs.size] at hq); omega), Nat.sub_zero])) (Drops.refl _ _)) ?_
  have g1 : HX.get n = some ⟨64, bys M, 34⟩ := by rw [hHX, Hp.get_ne _ _ (by omega)]; exact Hp.get_eq _ _ _
  have g3 : HX.get n2 = some ⟨64, bys (trn M), 34⟩ := by rw [hHX]; exact Hp.get_eq _ _ _
  have lX : ∀ x, x < n → HX.get x = H.get x := fun x hx => by rw [hHX]; simp (disch := omega) only [Hp.get_ne]
  clear hHX
  refine CS.ordN HX (Ext.refl _) ?_
  refine FT.seg rfl (ST.slaAll (by exact rfl) (by omega) ?_)
  refine FT.seg rfl (ST.slaAll (by exact rfl) (by omega) ?_)
  refine FT.seg rfl (ST.call (R := fun r H' => ∃ v b, r = .s v ∧ VL H' v 8 (fun i x => M (8 * i + x)) b ∧ HX.get b = none ∧ n2 ≤ b ∧ Ext HX H' ∧ ∀ x, x < n2 → H'.get x = HX.get x) rfl (fun n' h1 h2 => (slices_CloneV (fun i x => M (8 * i + x)) (.slc n 0 8 8) n HX n' ⟨0, 8, _, rfl, g1, by (try dsimp only); omega, Nat.le_refl _, fun i x hi hx => by rw [Nat.zero_add, Nat.mul_comm]; rfl⟩).mono (fun r H' _ _ q => by
    obtain ⟨v, b, q1, q2, q3, q4, q5, q6⟩ := q
    have hEx : Ext HX H' := fun b k hb => by rw [q6 b (getlt h2 hb)]; exact hb
    exact ⟨⟨v, b, q1, q2, h2 b q3, by omega, hEx, fun x hx => q6 x (by omega)⟩, hEx⟩)) ?_)
  rintro r HA ⟨v, b, rfl, VA, gA, hbA, exA, loA⟩ hEA
  refine FT.seg rfl (ST.appL (I2 := fun i x => trn M (8 * i + x)) (m2 := 8) (b2 := n2) hEA (by exact rfl) (by exact rfl) VA ⟨0, 8, _, rfl, exA _ _ g3, by (try dsimp only); omega, Nat.le_refl _, fun i x hi hx => by rw [Nat.zero_add, Nat.mul_comm]; rfl⟩ (by omega) gA ?_)
  intro v' b' HB VB hb' loB hEB
  refine FT.seg rfl (ST.mov (by exact rfl) ?_)
  refine FT.done ?_
  intro n3 hn3 hlt3
  dsimp only [Ex.then, Ex.inBlock, putD, Env.put]
  have hfr3 : ∀ x, n3 ≤ x → HB.get x = none := fun x hx => by
    cases e : HB.get x with
    | none => rfl
    | some k => exact absurd (hlt3 x k e) (by omega)
  (refine zG ?_)
  have hbn := VB.bound hfr3
  have hbge : n2 ≤ b' := by rcases hb' with e | ⟨e, _⟩ <;> omega
  exact ⟨.s v', HB, rfl, Drops.refl _ _, v', b', rfl, VB.same (fun i x hi hx => by
    rcases Nat.lt_or_ge i 8 with q | q
    · rw [l16_row M q]; unfold joinL; rw [if_pos q]
    · rw [show i = 8 + (i - 8) by omega, l16_col]; unfold joinL; rw [if_neg (by omega)]
      show trn M (8 * (8 + (i - 8) - 8) + x) = _
      unfold trn
      rw [show (8 * (8 + (i - 8) - 8) + x) % 8 = x by omega, show (8 * (8 + (i - 8) - 8) + x) / 8 = i - 8 by omega]), by omega, hbn, hfr3, fun x hx => by rw [loB x (by omega), loA x (by omega), lX x hx]⟩

end Go.Proofs.YtideblodkkgodaaGreat

/- What a sub Hopf algebra is closed under, the program's. -/

namespace Go.Proofs.YtideblodkkgodaaGreat

open Go.V

variable [BW]

set_option linter.unusedSimpArgs false

set_option linter.unusedVariables false

set_option maxHeartbeats 4000000

/-- (*impl.Hopf).closing -/
def ir70 : Cd := (.seq (.reg [⟨some 4,none,.mov (.c .nils)⟩]) (.seq (.reg [⟨some 10,none,.mov (.t 0)⟩,⟨some 11,none,.ck (.t 10)⟩,⟨some 12,none,.fa 2 (.t 11)⟩,⟨some 13,none,.ld (some 8) (.t 12)⟩,⟨some 14,none,.bsl 32 1 8 [(8,(.int .u8 0))] [(0,8,(.t 13))]⟩,⟨some 5,none,.mov (.t 14)⟩]) (.seq (.seq (.reg [⟨some 15,none,.mov (.t 1)⟩,⟨some 16,none,.len (.t 15)⟩,⟨some 17,none,.mov (.c (.int .i64 0))⟩]) (.block 0 (.loop (.seq (.reg [⟨some 18,none,.bin .lss (.t 17) (.t 16)⟩]) (.seq (.cond (.t 18) .skip (.exit 0)) (.seq (.block 1 (.seq (.reg [⟨some 19,none,.isl 8 (.t 15) (.t 17)⟩,⟨some 20,none,.ld (some 8) (.t 19)⟩,⟨some 7,none,.new 32 [(8,(.int .u8 0))]⟩,⟨none,none,.st 8 (.t 7) (.t 20)⟩]) (.seq (.seq (.reg [⟨some 21,none,.mov (.t 1)⟩,⟨some 22,none,.len (.t 21)⟩,⟨some 23,none,.mov (.c (.int .i64 0))⟩]) (.block 2 (.loop (.seq (.reg [⟨some 24,none,.bin .lss (.t 23) (.t 22)⟩]) (.seq (.cond (.t 24) .skip (.exit 2)) (.seq (.block 3 (.seq (.reg [⟨some 25,none,.isl 8 (.t 21) (.t 23)⟩,⟨some 26,none,.ld (some 8) (.t 25)⟩,⟨some 9,none,.new 32 [(8,(.int .u8 0))]⟩,⟨none,none,.st 8 (.t 9) (.t 26)⟩]) (.reg [⟨some 27,none,.mov (.t 5)⟩,⟨some 28,none,.mov (.t 0)⟩,⟨some 29,none,.ld (some 8) (.t 7)⟩,⟨some 30,none,.ld (some 8) (.t 9)⟩,⟨some 31,none,.call 32 [(.t 28),(.t 29),(.t 30)]⟩,⟨some 32,none,.bsl 32 1 8 [(8,(.int .u8 0))] [(0,8,(.t 31))]⟩,⟨some 33,none,.app 32 8 8 [(8,(.int .u8 0))] (.t 27) (.t 32)⟩,⟨some 5,none,.mov (.t 33)⟩]))) (.reg [⟨some 34,none,.bin .add (.t 23) (.c (.int .i64 1))⟩,⟨some 23,none,.mov (.t 34)⟩]))))))) (.drwo true [8,9,10] [0,1,2,6,7,3,4,5,8,9,10,11] [⟨some 35,none,.mov (.t 5)⟩,⟨some 36,none,.mov (.t 0)⟩,⟨some 37,none,.ld (some 8) (.t 7)⟩,⟨some 38,none,.call 72 [(.t 36),(.t 37)]⟩,⟨some 39,none,.call 104 [(.t 38)]⟩,⟨some 40,none,.app 32 8 8 [(8,(.int .u8 0))] (.t 35) (.t 39)⟩,⟨some 41,none,.mov (.t 0)⟩,⟨some 42,none,.ld (some 8) (.t 7)⟩,⟨some 43,none,.call 105 [(.t 41),(.t 42)]⟩,⟨some 44,none,.bsl 32 1 8 [(8,(.int .u8 0))] [(0,8,(.t 43))]⟩,⟨some 45,none,.app 32 8 8 [(8,(.int .u8 0))] (.t 40) (.t 44)⟩,⟨some 5,none,.mov (.t 45)⟩])))) (.reg [⟨some 46,none,.bin .add (.t 17) (.c (.int .i64 1))⟩,⟨some 17,none,.mov (.t 46)⟩]))))))) (.seq (.reg [⟨some 47,none,.mov (.t 5)⟩,⟨some 4,none,.mov (.t 47)⟩]) .ret))))

set_option maxRecDepth 100000 in
theorem tr70 : trFn Tryz.prog Tryz.f70 = some (48, ir70, [.tmp 4]) := by kernel_rfl

theorem Hopf_closing (h : HT) (a : Nat) (A : Nat → Nat → Int) (d b bh : Nat) (P : Nat → Nat) (sv : SV) (Kh : Blk) (H : Hp) (n : Nat) (hS : HS h a) (gh : H.get bh = some Kh) (sh : Kh.size = 1106) (hK : h.At Kh.c) (hB : h.By) (hu : isRes h.p 8 h.u) (hV : VL H sv d A b) (rr : RR h.p A d P) :
    FnS Tryz.prog 70 [ptr bh 0, .s sv] H n (fun r H' n' => ∃ v m L b', r = .s v ∧ VL H' v m L b' ∧ m ≤ 300 ∧ (∀ i, i < m → isRes h.p 8 (L i)) ∧ ((∀ i, i < m → spn h.p A d (L i)) ↔ subH h a A d) ∧ n ≤ b' ∧ b' < n' ∧ (∀ x, n' ≤ x → H'.get x = none) ∧ ∀ x, x < n → H'.get x = H.get x) := by
  have hp := hS.hp
  have ha := hS.ha
  have hd8 := rr.d8
  have ku : ∀ q, q < 8 → Kh.c (0 + 2 + q) = .int .u8 (h.u q) := fun q hq => by rw [Nat.zero_add]; exact hK.u q hq
  obtain ⟨o, cap, K, rfl, gb, ho, hmc, hc⟩ := id hV
  refine FnS.of_body Tryz.func70 tr70 (by simp) (fun hf => ?_)
  dsimp only [argEnv]
  unfold ir70
  have hbh := getlt hf gh
  have hbb := getlt hf gb
  (refine zG ?_)
  refine CS.weak (e1 := [(17, i64 (((0 : Nat) : Int))), (16, i64 (d : Nat)), (15, .s (.slc b o d cap)), (0, ptr bh 0), (1, .s (.slc b o d cap)), (5, .s (.slc n 0 1 1))]) (by (repeat first | exact trivial | refine And.intro rfl ?_)) (Drops.refl _ _) ?_
  refine CS.loop (fun kx e H1 n1 => ∃ i v5 m L b5, i ≤ d ∧ kx = d - i ∧ e = [(17, i64 ((i : Nat))), (16, i64 (d : Nat)), (15, .s (.slc b o d cap)), (0, ptr bh 0), (1, .s (.slc b o d cap)), (5, .s v5)] ∧ VL H1 v5 m L b5 ∧ m ≤ 1 + 25 * i ∧ (∀ j, j < m → isRes h.p 8 (L j)) ∧ ((∀ j, j < m → spn h.p A d (L j)) ↔ spn h.p A d h.u ∧ ∀ j, j < i → gdi h a A d j) ∧ n ≤ b5 ∧ b5 < n1 ∧ (∀ x, x < n → H1.get x = H.get x) ∧ ∀ x, n1 ≤ x → H1.get x = none) d ?_ ?_
  · refine ⟨0, _, 1, fun _ => h.u, n, by omega, rfl, rfl, ⟨0, 1, _, rfl, Hp.get_eq _ _ _, by (try dsimp only); omega, Nat.le_refl _, fun i x hi hx => ?_⟩, by omega, fun j hj => hu, ⟨fun q => ⟨q 0 (by omega), fun j hj => by omega⟩, fun q j hj => q.1⟩, by omega, by omega, fun x hx => Hp.get_ne _ _ (by omega), fun x hx => by rw [Hp.get_ne _ _ (by omega)]; exact hf x (by omega)⟩
    (try dsimp only)
    unfold splice
    rw [if_pos (by omega), show 0 + (i * 8 + x) - 0 = x by omega]
    first | rfl | exact ku x hx
  rintro kx e H1 n1 hn1 ⟨i, v5, m, L, b5, hi, rfl, rfl, V5, hm5, hr5, iff5, hb5, hb5n, lo1, hfr1⟩
  have gb1 : H1.get b = some K := by rw [lo1 b hbb]; exact gb
  (refine zG ?_)
  refine zI ?_ ?_<;>intro h1
  · have hi' : i < d := by omega
    have e9 : ∀ q, q < 8 → K.c (o + i * 8 + q) = .int .u8 (A i q) := fun q hq => by rw [Nat.add_assoc]; exact hc i q hi' hq
    have hAb : isBy 8 (A i) := isRes.by (rr.res i hi') hp.2
    (refine zG ?_)
    obtain ⟨H2, hH2⟩ : ∃ H2 : Hp, H2 = (n1, ⟨8, bys (A i), 32⟩) :: H1 := ⟨_, rfl⟩
    have gv2 : H2.get n1 = some ⟨8, bys (A i), 32⟩ := by rw [hH2]; exact Hp.get_eq _ _ _
    have lo2 : ∀ x, x < n1 → H2.get x = H1.get x := fun x hx => by rw [hH2, Hp.get_ne _ _ (by omega)]
    have fr2 : ∀ x, n1 + 1 ≤ x → H2.get x = none := fun x hx => by rw [hH2, Hp.get_ne _ _ (by omega)]; exact hfr1 x (by omega)
    refine CS.weak (e1 := [(23, i64 (((0 : Nat) : Int))), (22, i64 (d : Nat)), (21, .s (.slc b o d cap)), (7, ptr n1 0), (17, i64 ((i : Nat))), (16, i64 (d : Nat)), (15, .s (.slc b o d cap)), (0, ptr bh 0), (1, .s (.slc b o d cap)), (5, .s v5)]) (H1 := H2) (by (repeat first | exact trivial | refine And.intro rfl ?_)) (by rw [hH2]; exact Drops.keepc rfl rfl (fun q hq => by first | rfl | (unfold splice; rw [if_pos (by (try dsimp only at hq); (try simp [Zs.size] at hq); omega), Nat.sub_zero])) (Drops.refl _ _)) ?_
    clear hH2
    refine CS.loop (fun kx e H3 n3 => ∃ k v5 m L b5, k ≤ d ∧ kx = d - k ∧ e = [(23, i64 ((k : Nat))), (22, i64 (d : Nat)), (21, .s (.slc b o d cap)), (7, ptr n1 0), (17, i64 ((i : Nat))), (16, i64 (d : Nat)), (15, .s (.slc b o d cap)), (0, ptr bh 0), (1, .s (.slc b o d cap)), (5, .s v5)] ∧ VL H3 v5 m L b5 ∧ m ≤ 1 + 25 * i + k ∧ (∀ j, j < m → isRes h.p 8 (L j)) ∧ ((∀ j, j < m → spn h.p A d (L j)) ↔ (spn h.p A d h.u ∧ ∀ j, j < i → gdi h a A d j) ∧ ∀ j, j < k → spn h.p A d (pr h.p h.m (A i) (A j) a)) ∧ n ≤ b5 ∧ b5 ≠ n1 ∧ b5 < n3 ∧ H3.get n1 = some ⟨8, bys (A i), 32⟩ ∧ (∀ x, x < n → H3.get x = H.get x) ∧ ∀ x, n3 ≤ x → H3.get x = none) d ?_ ?_
    · exact ⟨0, v5, m, L, b5, by omega, rfl, rfl, V5.keep (lo2 b5 hb5n), by omega, hr5, iff5.trans ⟨fun q => ⟨q, fun j hj => by omega⟩, fun q => q.1⟩, hb5, by omega, by omega, gv2, fun x hx => by rw [lo2 x (by omega)]; exact lo1 x hx, fun x hx => fr2 x (by omega)⟩
    clear V5 hm5 hr5 iff5 hb5 hb5n gv2 lo2 fr2
    rintro kx e H3 n3 hn3 ⟨k, v5, m, L, b5, hk, rfl, rfl, V5, hm5, hr5, iff5, hb5, hb5v, hb5n, gv3, lo3, hfr3⟩
    have gb3 : H3.get b = some K := by rw [lo3 b hbb]; exact gb
    have gh3 : H3.get bh = some Kh := by rw [lo3 bh hbh]; exact gh
    have hn13 := getlt hfr3 gv3
    (refine zG ?_)
    refine zI ?_ ?_<;>intro h2
    · have hk' : k < d := by omega
      have e10 : ∀ q, q < 8 → K.c (o + k * 8 + q) = .int .u8 (A k q) := fun q hq => by rw [Nat.add_assoc]; exact hc k q hk' hq
      have hAk : isBy 8 (A k) := isRes.by (rr.res k hk') hp.2
      (refine zG ?_)
      refine RS.call rfl ((FnS.args (concs_cons rfl (concs_cons (conc_arr (fun q hq => by first | rfl | (simp only [Nat.zero_add]; done) | (simp only [Nat.zero_add]; rfl))) (concs_cons (conc_arr (fun q hq => by first | rfl | (simp only [Nat.zero_add]; done) | (simp only [Nat.zero_add]; rfl) | (unfold splice; rw [if_pos (by omega)]; simp; done))) rfl))) (Hopf_product h a (A i) (A k) bh Kh _ _ hS (by exact zH) sh hK hB hAb hAk)).mono ?_)
      rintro r H' n4 hn4 ⟨rfl, rfl⟩
      (refine zG ?_)
      refine RS.appV (I := L) (m := m) (b := b5) (w := pr h.p h.m (A i) (A k) a) (by exact rfl) (by exact rfl) (V5.keep (by simp (disch := omega) only [Hp.get_ne])) (by exact zH) rfl (fun q hq => by (try dsimp only); unfold splice; rw [if_pos (by omega), Nat.sub_zero]; rfl) (by omega) (by simp (disch := omega) only [Hp.get_ne]; exact hfr3 _ (by omega)) (by omega) ?_
      intro v' b' H5 n5 V' hb' hlt' hn5 hn5' hg'
      (refine zG ?_)
      have hb'' : b' ≠ n1 ∧ n ≤ b' := by rcases hb' with e | e <;> omega
      exact ⟨d - (k + 1), [(23, i64 (((k + 1 : Nat) : Int))), (22, i64 (d : Nat)), (21, .s (.slc b o d cap)), (7, ptr n1 0), (17, i64 ((i : Nat))), (16, i64 (d : Nat)), (15, .s (.slc b o d cap)), (0, ptr bh 0), (1, .s (.slc b o d cap)), (5, .s v')], H5, by omega, by (repeat first | exact trivial | refine And.intro rfl ?_), Drops.refl _ _, k + 1, v', m + 1, snc L m (pr h.p h.m (A i) (A k) a), b', by omega, rfl, rfl, V', by omega, all_snc.2 ⟨hr5, pr_res hp.1 _ _ _ _ 8⟩, all_snc.trans ⟨fun q => ⟨(iff5.1 q.1).1, fun j hj => by
        by_cases e : j = k
        · rw [e]; exact q.2
        · exact (iff5.1 q.1).2 j (by omega)⟩, fun q => ⟨iff5.2 ⟨q.1, fun j hj => q.2 j (by omega)⟩, q.2 k (by omega)⟩⟩, hb''.2, hb''.1, hlt', by rw [hg' n1 (fun q => hb''.1 q.symm)]; simp (disch := omega) only [Hp.get_ne]; exact gv3, fun x hx => by rw [hg' x (by omega)]; simp (disch := omega) only [Hp.get_ne]; exact lo3 x hx, fun x hx => by rw [hg' x (by omega)]; simp (disch := omega) only [Hp.get_ne]; exact hfr3 x (by omega)⟩
    obtain rfl : d = k := by omega
    (refine zG ?_)
    have hEX := Ext.one gv3
    refine CS.ordK [(n1, ⟨8, bys (A i), 32⟩)] hEX ?_
    dsimp only [pick, List.filterMap_cons, List.getElem?_cons_zero, List.getElem?_cons_succ, List.filterMap_nil]
    refine FL.step (ST.mov (by exact rfl) ?_)
    refine FL.step (ST.mov (by exact rfl) ?_)
    refine FL.step (ST.ldn (c := bys (A i)) (by exact rfl) (Hp.get_eq _ _ _) (by (try dsimp only); omega) (by funext x; rw [Nat.zero_add]) ?_)
    refine FL.step (ST.mov (by exact rfl) ?_)
    refine FL.step (ST.ldn (c := bys (A i)) (by exact rfl) (Hp.get_eq _ _ _) (by (try dsimp only); omega) (by funext x; rw [Nat.zero_add]) ?_)
    obtain ⟨M, hM⟩ : ∃ M, M = cps h.p h.c (A i) 8 := ⟨_, rfl⟩
    have hMr : isRes h.p 64 M := by rw [hM]; exact cps_res hp.1 _ _ _ _
    have hMz : ∀ x y, x < 8 → y < 8 → (a ≤ x ∨ a ≤ y) → M (8 * x + y) = 0 := fun x y hx hy q => by rw [hM]; exact cps_z hS.cm hx hy q
    refine FL.step (ST.callq (.arr 64 (bys M)) hEX rfl (fun n' h1 h2 => by rw [hM]; exact Hopf_coproduct h a (A i) bh Kh _ _ hS gh3 sh hK hB hAb) ?_)
    refine FL.step (ST.call (R := fun r H' => ∃ v bL, r = .s v ∧ VL H' v 16 (l16 M) bL ∧ n3 ≤ bL ∧ H3.get bL = none ∧ Ext H3 H' ∧ ∀ x, x < n3 → H'.get x = H3.get x) rfl (fun n' h1 h2 => (impl_legs M H3 n').mono (fun r H' _ _ q => by
      obtain ⟨v, bL, q1, q2, q3, q4, q5, q6⟩ := q
      have hEx : Ext H3 H' := fun b k hb => by rw [q6 b (getlt h2 hb)]; exact hb
      exact ⟨⟨v, bL, q1, q2, by omega, h2 bL q3, hEx, fun x hx => q6 x (by omega)⟩, hEX.trans hEx⟩)) ?_)
    rintro r H4 ⟨vL, bL, rfl, VL4, hbL, gL, ex4, lo4⟩ hE4
    refine FL.step (ST.appL (I := L) (I2 := l16 M) (m := m) (m2 := 16) (b := b5) (b2 := bL) hE4 (by exact rfl) (by exact rfl) (V5.keep (lo4 b5 hb5n)) VL4 (by omega) (by rw [Hp.get_ne _ _ (by omega)]; rfl) ?_)
    intro v6 b6 H6 V6 hb6 lo6 hE6
    have hb6' : b6 ≠ n1 ∧ n ≤ b6 ∧ b6 ≠ bh := by
      rcases hb6 with e | ⟨e, _⟩
      · omega
      · omega
    have gh6 : H6.get bh = some Kh := by rw [lo6 bh (fun q => hb6'.2.2 q.symm), lo4 bh (by omega)]; exact gh3
    refine FL.step (ST.callq (.arr 8 (bys (app h.p h.s (A i)))) hE6 rfl (fun n' h1 h2 => Hopf_antipodeI h a (A i) bh Kh _ _ hS gh6 sh hK hB hAb) ?_)
    refine FL.step (ST.bsl hE6 rfl ?_)
    intro b7 hb7 hf7
    refine FL.step (ST.appV (I := joinL m L (l16 M)) (m := m + 16) (b := b6) (b2 := b7) (w := app h.p h.s (A i)) (hE6.push _ (hf7 b7 (Nat.le_refl _))) (by exact rfl) (by exact rfl) (V6.keep (Hp.get_ne _ _ (by have := V6.bound hf7; omega))) (Hp.get_eq _ _ _) rfl (fun q hq => by (try dsimp only); unfold splice; rw [if_pos (by omega), Nat.sub_zero]; rfl) (by omega) (by rw [Hp.get_ne _ _ (fun q => hb6'.1 q.symm)]; rfl) ?_)
    intro v8 b8 H8 V8 hb8 lo8 hE8
    refine FL.step (ST.mov (by exact rfl) ?_)
    refine FL.nil ?_
    intro n9 hn9 hlt9
    dsimp only [Ex.then, Ex.inBlock, putD, Env.put]
    (refine zG ?_)
    have hfr9 : ∀ x, n9 ≤ x → H8.get x = none := fun x hx => by
      cases e : H8.get x with
      | none => rfl
      | some k => exact absurd (hlt9 x k e) (by omega)
    have hb8' : n ≤ b8 := by rcases hb8 with e | ⟨e, _⟩ <;> omega
    have lo : ∀ x, x < n → H8.get x = H.get x := fun x hx => by rw [lo8 x (by omega), Hp.get_ne _ _ (by omega), lo6 x (by omega), lo4 x (by omega)]; exact lo3 x hx
    have eq : gdi h a A d i ↔ (∀ k, k < d → spn h.p A d (pr h.p h.m (A i) (A k) a)) ∧ (∀ q, q < 16 → spn h.p A d (l16 M q)) ∧ spn h.p A d (app h.p h.s (A i)) := by
      unfold gdi; rw [l16_iff ha hMz, hM]
    exact ⟨d - (i + 1), [(17, i64 (((i + 1 : Nat) : Int))), (16, i64 (d : Nat)), (15, .s (.slc b o d cap)), (0, ptr bh 0), (1, .s (.slc b o d cap)), (5, .s v8)], H8, by omega, by (repeat first | exact trivial | refine And.intro rfl ?_), Drops.refl _ _, i + 1, v8, m + 16 + 1, snc (joinL m L (l16 M)) (m + 16) (app h.p h.s (A i)), b8, by omega, rfl, rfl, V8, by omega, all_snc.2 ⟨all_join.2 ⟨hr5, fun q hq => l16_res hMr hq⟩, fun x hx => modB _ hp.1⟩, all_snc.trans ⟨fun q => by
      obtain ⟨q1, q2⟩ := q
      obtain ⟨q3, q4⟩ := all_join.1 q1
      obtain ⟨⟨q5, q6⟩, q7⟩ := iff5.1 q3
      refine ⟨q5, fun j hj => ?_⟩
      by_cases e : j = i
      · rw [e]; exact eq.2 ⟨q7, q4, q2⟩
      · exact q6 j (by omega), fun q => by
      obtain ⟨q1, q2⟩ := q
      obtain ⟨q3, q4, q5⟩ := eq.1 (q2 i (by omega))
      exact ⟨all_join.2 ⟨iff5.2 ⟨⟨q1, fun j hj => q2 j (by omega)⟩, q3⟩, q4⟩, q5⟩⟩, hb8', V8.bound hfr9, lo, hfr9⟩
  obtain rfl : d = i := by omega
  (refine zG ?_)
  exact ⟨.s v5, H1, rfl, Drops.refl _ _, v5, m, L, b5, rfl, V5, by omega, hr5, iff5.trans subH_iff.symm, hb5, hb5n, hfr1, lo1⟩

/-- (*impl.Hopf).holds -/
def ir52 : Cd := (.seq (.reg [⟨some 6,none,.mov (.c (.bool false))⟩]) (.seq (.reg [⟨some 7,none,.mov (.t 0)⟩,⟨some 8,none,.ck (.t 7)⟩,⟨some 9,none,.fa 0 (.t 8)⟩,⟨some 10,none,.ld none (.t 9)⟩,⟨some 11,none,.mov (.t 1)⟩,⟨some 12,none,.mov (.t 2)⟩,⟨some 13,none,.call 71 [(.t 10),(.t 11),(.t 12)]⟩,⟨some 6,none,.mov (.t 13)⟩]) .ret))

set_option maxRecDepth 100000 in
theorem tr52 : trFn Tryz.prog Tryz.f52 = some (14, ir52, [.tmp 6]) := by kernel_rfl

theorem Hopf_holds (h : HT) (A L : Nat → Nat → Int) (m k b lb bh : Nat) (sv lv : SV) (Kh : Blk) (H : Hp) (n : Nat) (hp : 2 ≤ h.p ∧ h.p ≤ 31) (gh : H.get bh = some Kh) (sh : Kh.size = 1106) (hK : h.At Kh.c) (hm : m ≤ 4000000) (hk : k ≤ 4000000) (hV : VL H sv m A b) (hL : VL H lv k L lb) (hA : ∀ i, i < m → isRes h.p 8 (A i)) (hlt : ∀ i, i < m → fsn (A i) 8 < 8) (hLr : ∀ i, i < k → isRes h.p 8 (L i)) :
    FnS Tryz.prog 52 [ptr bh 0, .s sv, .s lv] H n (fun r H' _ => r = bl (tb (∀ i, i < k → isIn h.p A m (L i))) ∧ H' = H) := by
  have k0 := hK.p
  refine FnS.of_body Tryz.func52 tr52 (by simp) (fun hf => ?_)
  dsimp only [argEnv]
  unfold ir52
  have hbh := getlt hf gh
  (refine zG ?_)
  refine RS.call rfl ((impl_within h.p A L m k b lb sv lv _ _ hp hm hk hV hL hA hlt hLr).mono ?_)
  rintro r H' n2 hn2 ⟨rfl, rfl⟩
  (refine zG ?_)
  exact ⟨_, _, rfl, Drops.refl _ _, rfl, rfl⟩

/-- (*impl.Hopf).isSub -/
def ir51 : Cd := (.seq (.reg [⟨some 4,none,.mov (.c (.bool false))⟩]) (.seq (.reg [⟨some 5,none,.mov (.t 0)⟩,⟨some 6,none,.mov (.t 1)⟩,⟨some 7,none,.mov (.t 0)⟩,⟨some 8,none,.mov (.t 1)⟩,⟨some 9,none,.call 70 [(.t 7),(.t 8)]⟩,⟨some 10,none,.call 52 [(.t 5),(.t 6),(.t 9)]⟩,⟨some 4,none,.mov (.t 10)⟩]) .ret))

set_option maxRecDepth 100000 in
theorem tr51 : trFn Tryz.prog Tryz.f51 = some (11, ir51, [.tmp 4]) := by kernel_rfl

theorem Hopf_isSub (h : HT) (a : Nat) (A : Nat → Nat → Int) (d b bh : Nat) (P : Nat → Nat) (sv : SV) (Kh : Blk) (H : Hp) (n : Nat) (hS : HS h a) (gh : H.get bh = some Kh) (sh : Kh.size = 1106) (hK : h.At Kh.c) (hB : h.By) (hu : isRes h.p 8 h.u) (hV : VL H sv d A b) (rr : RR h.p A d P) :
    FnS Tryz.prog 51 [ptr bh 0, .s sv] H n (fun r H' _ => r = bl (tb (subH h a A d)) ∧ H' = H) := by
  have hp := hS.hp
  have hd8 := rr.d8
  refine FnS.of_body Tryz.func51 tr51 (by simp) (fun hf => ?_)
  dsimp only [argEnv]
  unfold ir51
  have hbh := getlt hf gh
  have hbb := hV.bound hf
  (refine zG ?_)
  refine RS.call rfl ((Hopf_closing h a A d b bh P sv Kh _ _ hS gh sh hK hB hu hV rr).mono ?_)
  rintro r H2 n2 hn2 ⟨v, m, L, b', rfl, VL2, hm, hr, hiff, hb', hbn', hfr2, lo2⟩
  (repeat first|refine zG ?_|(refine LS.nilO ?_;intro nq hnq hltq;try refine zU ?_)|(refine MS.new ?_;intro bq hbq hbqf;try refine zU ?_)|(refine MS.nil ?_;intro nq hnq hltq;have hlq:=hltq _ _ (Hp.get_eq _ _ _);clear hltq;try refine zU ?_)|(refine LS.nilQ ?_;try with_reducible intro nq hnq;try refine zU ?_))
  refine RS.call rfl ((Hopf_holds h A L d m b b' bh sv v Kh _ _ hp (by rw [lo2 bh hbh]; exact gh) sh hK (by omega) (by omega) (hV.keep (lo2 b hbb)) VL2 (fun i hi => rr.res i hi) (fun i hi => by rw [rr.fsn hi]; exact rr.lt i hi) hr).mono ?_)
  rintro r H' n3 hn3 ⟨rfl, rfl⟩
  (refine zG ?_)
  exact ⟨_, H, rfl, Drops.low hf (fun x hx => lo2 x hx), congrArg bl (tb_iff ((forall_congr' fun i => imp_congr_right fun hi => rdk_iff hp.1 rr.img (hr i hi)).trans hiff)), rfl⟩

/-- (*impl.Hopf).span -/
def ir27 : Cd := (.seq (.reg [⟨some 4,none,.mov (.c .nils)⟩]) (.seq (.reg [⟨some 5,none,.mov (.t 0)⟩,⟨some 6,none,.ck (.t 5)⟩,⟨some 7,none,.fa 0 (.t 6)⟩,⟨some 8,none,.ld none (.t 7)⟩,⟨some 9,none,.mov (.t 1)⟩,⟨some 10,none,.call 50 [(.t 8),(.t 9)]⟩,⟨some 4,none,.mov (.t 10)⟩]) .ret))

set_option maxRecDepth 100000 in
theorem tr27 : trFn Tryz.prog Tryz.f27 = some (11, ir27, [.tmp 4]) := by kernel_rfl

theorem Hopf_span (h : HT) (L : Nat → Nat → Int) (k lb bh : Nat) (lv : SV) (Kh : Blk) (H : Hp) (n : Nat) (hp : isP h.p = true) (gh : H.get bh = some Kh) (sh : Kh.size = 1106) (hK : h.At Kh.c) (hk : k ≤ 1000000) (hL : VL H lv k L lb) (hLr : ∀ i, i < k → isRes h.p 8 (L i)) :
    FnS Tryz.prog 27 [ptr bh 0, .s lv] H n (fun r H' n' => ∃ sv' A' d' P' b', r = .s sv' ∧ VL H' sv' d' A' b' ∧ RR h.p A' d' P' ∧ same h.p A' d' L k ∧ n ≤ b' ∧ b' < n' ∧ (∀ x, n' ≤ x → H'.get x = none) ∧ ∀ x, x < n → H'.get x = H.get x) := by
  have k0 := hK.p
  refine FnS.of_body Tryz.func27 tr27 (by simp) (fun hf => ?_)
  dsimp only [argEnv]
  unfold ir27
  have hbh := getlt hf gh
  (refine zG ?_)
  refine RS.call rfl ((impl_reduced h.p L k lb lv _ _ hp hk hL hLr).mono ?_)
  rintro r H2 n2 hn2 ⟨sv, A, d, P, b, rfl, V, rr, sm, hb, hbn, hfr2, lo2⟩
  (refine zG ?_)
  exact ⟨.s sv, H2, rfl, Drops.refl _ _, sv, A, d, P, b, rfl, V, rr, sm, hb, hbn, hfr2, lo2⟩

theorem Hopf_span_nil (h : HT) (L : Nat → Nat → Int) (bh : Nat) (Kh : Blk) (H : Hp) (n : Nat) (hp : isP h.p = true) (gh : H.get bh = some Kh) (sh : Kh.size = 1106) (hK : h.At Kh.c) :
    FnS Tryz.prog 27 [ptr bh 0, .s .nils] H n (fun r H' n' => ∃ sv' A' d' P' b', r = .s sv' ∧ VL H' sv' d' A' b' ∧ RR h.p A' d' P' ∧ same h.p A' d' L 0 ∧ n ≤ b' ∧ b' < n' ∧ (∀ x, n' ≤ x → H'.get x = none) ∧ ∀ x, x < n → H'.get x = H.get x) := by
  have k0 := hK.p
  refine FnS.of_body Tryz.func27 tr27 (by simp) (fun hf => ?_)
  dsimp only [argEnv]
  unfold ir27
  have hbh := getlt hf gh
  (refine zG ?_)
  refine RS.call rfl ((impl_reduced_nil h.p L _ _ hp).mono ?_)
  rintro r H2 n2 hn2 ⟨sv, A, d, P, b, rfl, V, rr, sm, hb, hbn, hfr2, lo2⟩
  (refine zG ?_)
  exact ⟨.s sv, H2, rfl, Drops.refl _ _, sv, A, d, P, b, rfl, V, rr, sm, hb, hbn, hfr2, lo2⟩

end Go.Proofs.YtideblodkkgodaaGreat

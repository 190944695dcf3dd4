/- Modules on the program's side: shape, what a vector does, whether maps are a module. -/
import Derived.Test.YtkmfdhicjaccaaaGreatJbo
set_option linter.unusedSectionVars false
set_option linter.unusedVariables false
set_option linter.unusedSimpArgs false

namespace Go.V

set_option linter.unusedSimpArgs false

set_option linter.unusedVariables false

/-- The identity on the first d basis elements. -/
def idl : Nat → Int := fun q => bas (q / 8) (q % 8)

def idm (d : Nat) : Nat → Int := rowsTo (fun _ => 0) idl d

/-- First B, then A. -/
def afm (p : Int) (A B : Nat → Int) : Nat → Int := fun q => app p A (fun y => B (8 * (q / 8) + y)) (q % 8)

/-- What a does by its first i entries, and by one more for the first v rows. -/
def acs (p : Int) (t a : Nat → Int) (d i : Nat) : Nat → Int := rowsTo (fun _ => 0) (cps p t a i) d

theorem acs_zero (p : Int) (t a : Nat → Int) (d : Nat) : acs p t a d 0 = fun _ => 0 := by
  funext q; unfold acs rowsTo cps; (try dsimp only); split
  · simp [sm]
  · rfl

theorem acs_at {p : Int} {t a : Nat → Int} {d i v y : Nat} (hv : v < d) (hy : y < 8) : acs p t a d i (8 * v + y) = cps p t a i (8 * v + y) := by
  unfold acs rowsTo; rw [if_pos (by omega)]

theorem cps_more (p : Int) (t a : Nat → Int) (i q : Nat) : (cps p t a i q + a i * t (64 * i + q)) % p = cps p t a (i + 1) q := by
  unfold cps; rw [modAddL, sm]

theorem acs_end {p : Int} {t a : Nat → Int} {d i : Nat} : rowsTo (acs p t a d i) (acs p t a d (i + 1)) d = acs p t a d (i + 1) := by
  funext q; unfold rowsTo; split
  · rfl
  · rename_i h; unfold acs rowsTo; rw [if_neg h, if_neg h]

theorem idm_iff {p : Int} {t u : Nat → Int} {d : Nat} (hd : d ≤ 8) : (∀ q, q < 64 → acs p t u d 8 q = idm d q) ↔ ∀ k, k < d → ∀ x, x < 8 → cps p t u 8 (8 * k + x) = bas k x := by
  constructor
  · intro h k hk x hx
    have := h (8 * k + x) (by omega)
    unfold acs idm rowsTo idl at this
    rwa [if_pos (by omega), if_pos (by omega), show (8 * k + x) / 8 = k by omega, show (8 * k + x) % 8 = x by omega] at this
  · intro h q hq
    unfold acs idm rowsTo idl
    by_cases e : q < 8 * d
    · have := h (q / 8) (by omega) (q % 8) (by omega)
      rw [show 8 * (q / 8) + q % 8 = q by omega] at this
      rw [if_pos e, if_pos e]; exact this
    · rw [if_neg e, if_neg e]

theorem afm_iff {p : Int} {t u A B : Nat → Int} {d : Nat} (hd : d ≤ 8) (hB : ∀ j x, j < 8 → d ≤ j → x < 8 → B (8 * j + x) = 0) : (∀ q, q < 64 → acs p t u d 8 q = afm p A B q) ↔ ∀ k, k < d → ∀ x, x < 8 → cps p t u 8 (8 * k + x) = app p A (fun y => B (8 * k + y)) x := by
  constructor
  · intro h k hk x hx
    have := h (8 * k + x) (by omega)
    unfold acs afm rowsTo at this
    rwa [if_pos (by omega), show (8 * k + x) / 8 = k by omega, show (8 * k + x) % 8 = x by omega] at this
  · intro h q hq
    unfold acs afm rowsTo
    by_cases e : q < 8 * d
    · have := h (q / 8) (by omega) (q % 8) (by omega)
      rw [show 8 * (q / 8) + q % 8 = q by omega] at this
      rw [if_pos e]; exact this
    · rw [if_neg e]
      unfold app
      rw [sm_zero fun i hi => by (try dsimp only); rw [hB (q / 8) i (by omega) (by omega) hi, Int.zero_mul]]
      rfl

theorem isMod_iff {p : Int} {d N : Nat} {u m t : Nat → Int} (hd : d ≤ 8) (hN : N ≤ 8) (hs : mshp p d N t) : ((∀ q, q < 64 → acs p t u d 8 q = idm d q) ∧ ∀ i j, i < N → j < N → ∀ q, q < 64 → acs p t (fun y => m (64 * i + 8 * j + y)) d 8 q = afm p (fun y => t (64 * i + y)) (fun y => t (64 * j + y)) q) ↔ isMod p d N u m t := by
  have e1 := idm_iff (p := p) (t := t) (u := u) hd
  have e2 : ∀ i j, i < N → j < N → _ := fun i j (hi : i < N) (hj : j < N) => afm_iff (p := p) (t := t) (u := fun y => m (64 * i + 8 * j + y)) (A := fun y => t (64 * i + y)) (B := fun y => t (64 * j + y)) hd (fun j' x h1 h2 h3 => by
    have := hs.zero (show j < 8 by omega) h1 h3 (.inr (.inl h2))
    rwa [Nat.add_assoc] at this)
  constructor
  · rintro ⟨h1, h2⟩
    refine ⟨e1.1 h1, fun i j hi hj k hk x hx => ?_⟩
    have := (e2 i j hi hj).1 (h2 i j hi hj) k hk x hx
    simp only [← Nat.add_assoc] at this ⊢
    exact this
  · rintro ⟨h1, h2⟩
    refine ⟨e1.2 h1, fun i j hi hj => (e2 i j hi hj).2 fun k hk x hx => ?_⟩
    have := h2 i j hi hj k hk x hx
    simp only [← Nat.add_assoc] at this ⊢
    exact this

end Go.V

namespace Go.Proofs.YtkmfdhicjaccaaaGreat

open Go.V

variable [BW]

set_option linter.unusedSimpArgs false

set_option linter.unusedVariables false

set_option maxHeartbeats 4000000

/-- (impl.field).identity -/
def ir92 : Cd := (.seq (.reg [⟨some 1,none,.box 71 (.t 0)⟩,⟨some 2,none,.new 33 [(64,(.int .u8 0))]⟩]) (.seq (.reg [⟨some 5,none,.build 64 [(64,(.int .u8 0))] []⟩,⟨some 3,none,.new 33 [(64,(.int .u8 0))]⟩,⟨none,none,.st 64 (.t 3) (.t 5)⟩]) (.seq (.seq (.reg [⟨some 6,none,.fa 1 (.t 1)⟩,⟨some 7,none,.ld none (.t 6)⟩,⟨some 8,none,.mov (.c (.int .i64 0))⟩]) (.block 0 (.loop (.seq (.reg [⟨some 9,none,.bin .lss (.t 8) (.t 7)⟩]) (.seq (.cond (.t 9) .skip (.exit 0)) (.seq (.block 1 (.seq (.reg [⟨some 10,none,.mov (.t 8)⟩,⟨some 4,none,.mov (.t 10)⟩]) (.reg [⟨some 11,none,.mov (.t 4)⟩,⟨some 12,none,.mov (.t 4)⟩,⟨some 13,none,.call 53 [(.t 12)]⟩,⟨some 14,none,.ia 8 8 (.t 3) (.t 11)⟩,⟨none,none,.st 8 (.t 14) (.t 13)⟩]))) (.reg [⟨some 15,none,.bin .add (.t 8) (.c (.int .i64 1))⟩,⟨some 8,none,.mov (.t 15)⟩]))))))) (.seq (.reg [⟨some 16,none,.ld (some 64) (.t 3)⟩,⟨none,none,.st 64 (.t 2) (.t 16)⟩]) .ret))))

set_option maxRecDepth 100000 in
theorem tr92 : trFn Tryz.prog Tryz.f92 = some (17, ir92, [.cell (some 64) 2]) := by kernel_rfl

theorem field_identity (p : Int) (d : Nat) (H : Hp) (n : Nat) (hd : d ≤ 8) :
    FnS Tryz.prog 92 [fld p d] H n (fun r H' _ => r = .arr 64 (bys (idm d)) ∧ H' = H) := by
  refine FnS.of_body Tryz.func92 tr92 (by simp) (fun hf => ?_)
  dsimp only [argEnv]
  unfold ir92
  (refine zG ?_)
  refine CS.iter d (fun i => [(8, i64 (i : Nat)), (7, i64 (d : Nat)), (3, ptr (n + 2) 0), (2, ptr (n + 1) 0)])
    (fun i => (n + 2, ⟨64, bys (rowsTo (fun _ => 0) idl i), 33⟩) :: (n + 1, ⟨64, bys (fun _ => 0), 33⟩) :: (n, ⟨2, fldC p d, 71⟩) :: H) (fun _ => True) (by (repeat first | exact trivial | refine And.intro rfl ?_))
    (Drops.keepc rfl rfl (fun _ _ => by rw [rowsTo_zero]; rfl) (Drops.keepc rfl rfl (fun _ _ => rfl) (Drops.refl _ _))) trivial ?_
  intro i n1 hi hn _
  (refine zG ?_)
  refine zI ?_ ?_<;>intro h1
  · (refine zG ?_)
    refine RS.call rfl ((impl_basis i _ _ (by omega)).mono ?_)
    rintro r H' n2 hn2 ⟨rfl, rfl⟩
    (refine zG ?_)
    exact ⟨by omega, by (repeat first | exact trivial | refine And.intro rfl ?_), Drops.keepc rfl rfl (fun q hq => rowsTo_step (fun y hy => by unfold idl; rw [show (8 * i + y) / 8 = i by omega, show (8 * i + y) % 8 = y by omega]) q) (Drops.refl _ _), trivial⟩
  · obtain rfl : d = i := by omega
    (refine zG ?_)
    exact ⟨.arr 64 (bys (idm d)), H, conc_arr (fun q hq => by simp only [Nat.zero_add]; rfl), by exact zD, rfl, rfl⟩

/-- (impl.field).after -/
def ir93 : Cd := (.seq (.reg [⟨some 3,none,.box 71 (.t 0)⟩,⟨some 6,none,.new 33 [(64,(.int .u8 0))]⟩]) (.seq (.reg [⟨some 9,none,.build 64 [(64,(.int .u8 0))] []⟩,⟨some 7,none,.new 33 [(64,(.int .u8 0))]⟩,⟨none,none,.st 64 (.t 7) (.t 9)⟩]) (.seq (.seq (.reg [⟨some 10,none,.mov (.c (.int .i64 0))⟩]) (.block 0 (.loop (.seq (.reg [⟨some 11,none,.bin .lss (.t 10) (.c (.int .i64 8))⟩]) (.seq (.cond (.t 11) .skip (.exit 0)) (.seq (.block 1 (.seq (.reg [⟨some 12,none,.mov (.t 10)⟩,⟨some 8,none,.mov (.t 12)⟩]) (.drw true [10] [⟨some 13,none,.mov (.t 8)⟩,⟨some 14,none,.ld (some 2) (.t 3)⟩,⟨some 15,none,.mov (.t 1)⟩,⟨some 16,none,.mov (.t 2)⟩,⟨some 17,none,.mov (.t 8)⟩,⟨some 18,none,.ck (.t 16)⟩,⟨some 19,none,.ia 8 8 (.t 18) (.t 17)⟩,⟨some 20,none,.ld (some 8) (.t 19)⟩,⟨some 21,none,.call 105 [(.t 14),(.t 15),(.t 20)]⟩,⟨some 22,none,.ia 8 8 (.t 7) (.t 13)⟩,⟨none,none,.st 8 (.t 22) (.t 21)⟩]))) (.reg [⟨some 23,none,.bin .add (.t 10) (.c (.int .i64 1))⟩,⟨some 10,none,.mov (.t 23)⟩]))))))) (.seq (.reg [⟨some 24,none,.ld (some 64) (.t 7)⟩,⟨none,none,.st 64 (.t 6) (.t 24)⟩]) .ret))))

set_option maxRecDepth 100000 in
theorem tr93 : trFn Tryz.prog Tryz.f93 = some (25, ir93, [.cell (some 64) 6]) := by kernel_rfl

theorem field_after (p n' : Int) (A B : Nat → Int) (ba oa bb ob : Nat) (Ka Kb : Blk) (H : Hp) (n : Nat) (hp : 2 ≤ p ∧ p ≤ 31) (ga : H.get ba = some Ka) (ha : oa + 64 ≤ Ka.size) (ca : ∀ i, i < 64 → Ka.c (oa + i) = .int .u8 (A i)) (hA : isBy 64 A)
    (gb : H.get bb = some Kb) (hb : ob + 64 ≤ Kb.size) (cb : ∀ i, i < 64 → Kb.c (ob + i) = .int .u8 (B i)) (hB : isBy 64 B) :
    FnS Tryz.prog 93 [fld p n', ptr ba oa, ptr bb ob] H n (fun r H' _ => r = .arr 64 (bys (afm p A B)) ∧ H' = H) := by
  refine FnS.of_body Tryz.func93 tr93 (by simp) (fun hf => ?_)
  dsimp only [argEnv]
  unfold ir93
  have hba := getlt hf ga
  have hbb := getlt hf gb
  (refine zG ?_)
  refine CS.iter 8 (fun i => [(10, i64 (i : Nat)), (7, ptr (n + 2) 0), (6, ptr (n + 1) 0), (3, ptr n 0), (1, ptr ba oa), (2, ptr bb ob)])
    (fun i => (n + 2, ⟨64, bys (rowsTo (fun _ => 0) (afm p A B) i), 33⟩) :: (n + 1, ⟨64, bys (fun _ => 0), 33⟩) :: (n, ⟨2, fldC p n', 71⟩) :: H) (fun _ => True) (by (repeat first | exact trivial | refine And.intro rfl ?_))
    (Drops.keepc rfl rfl (fun _ _ => by rw [rowsTo_zero]; rfl) (Drops.keepc rfl rfl (fun _ _ => rfl) (Drops.refl _ _))) trivial ?_
  intro i n1 hi hn _
  (refine zG ?_)
  refine zI ?_ ?_<;>intro h1
  · have hr : ∀ q, q < 8 → Kb.c (ob + i * 8 + q) = .int .u8 (B (8 * i + q)) := fun q hq => by rw [show ob + i * 8 + q = ob + (8 * i + q) by omega]; exact cb _ (by omega)
    have hr2 : ∀ q, q < 8 → Kb.c (ob + 8 * i + q) = .int .u8 (B (8 * i + q)) := fun q hq => by rw [show ob + 8 * i + q = ob + (8 * i + q) by omega]; exact cb _ (by omega)
    (refine zG ?_)
    refine LS.callQ (.arr 8 (bys (app p A (fun y => B (8 * i + y))))) rfl (fun n3 hn3 => field_apply p n' A (fun y => B (8 * i + y)) ba oa Ka _ _ hp (by exact zH) ha ca hA (fun x hx => hB _ (by omega))) ?_
    (repeat first|refine zG ?_|(refine LS.nilO ?_;intro nq hnq hltq;try refine zU ?_)|(refine MS.new ?_;intro bq hbq hbqf;try refine zU ?_)|(refine MS.nil ?_;intro nq hnq hltq;have hlq:=hltq _ _ (Hp.get_eq _ _ _);clear hltq;try refine zU ?_)|(refine LS.nilQ ?_;try with_reducible intro nq hnq;try refine zU ?_))
    exact ⟨by omega, by (repeat first | exact trivial | refine And.intro rfl ?_), Drops.keepc rfl rfl (fun q hq => rowsTo_step (fun y hy => by unfold afm; rw [show (8 * i + y) / 8 = i by omega, show (8 * i + y) % 8 = y by omega]) q) (Drops.refl _ _), trivial⟩
  · obtain rfl : i = 8 := by omega
    (refine zG ?_)
    exact ⟨.arr 64 (bys (afm p A B)), H, conc_arr (fun q hq => by simp only [Nat.zero_add]; unfold bys rowsTo; rw [if_pos (by omega)]), by exact zD, rfl, rfl⟩

/-- (*impl.Module).isShaped -/
def ir90 : Cd := (.seq (.reg [⟨some 4,none,.mov (.c (.bool false))⟩]) (.seq (.seq (.reg [⟨some 6,none,.mov (.c (.int .i64 0))⟩]) (.block 0 (.loop (.seq (.reg [⟨some 7,none,.bin .lss (.t 6) (.c (.int .i64 8))⟩]) (.seq (.cond (.t 7) .skip (.exit 0)) (.seq (.block 1 (.seq (.reg [⟨some 8,none,.mov (.t 6)⟩,⟨some 5,none,.mov (.t 8)⟩]) (.seq (.drw true [] [⟨some 9,none,.mov (.t 1)⟩,⟨some 10,none,.ck (.t 9)⟩,⟨some 11,none,.fa 0 (.t 10)⟩,⟨some 12,none,.ld none (.t 11)⟩,⟨some 13,none,.mov (.t 0)⟩,⟨some 14,none,.ck (.t 13)⟩,⟨some 15,none,.fa 0 (.t 14)⟩,⟨some 16,none,.ld none (.t 15)⟩,⟨some 17,none,.mov (.t 0)⟩,⟨some 18,none,.ck (.t 17)⟩,⟨some 19,none,.fa 0 (.t 18)⟩,⟨some 20,none,.ld none (.t 19)⟩,⟨some 21,none,.mov (.t 0)⟩,⟨some 22,none,.mov (.t 5)⟩,⟨some 23,none,.ck (.t 21)⟩,⟨some 24,none,.fa 1 (.t 23)⟩,⟨some 25,none,.ia 8 64 (.t 24) (.t 22)⟩,⟨some 26,none,.call 123 [(.t 12),(.t 16),(.t 20),(.t 25)]⟩,⟨some 27,none,.un .not (.t 26)⟩,⟨some 28,none,.mov (.t 27)⟩,⟨some 29,(some (28,false)),.mov (.t 5)⟩,⟨some 30,(some (28,false)),.mov (.t 1)⟩,⟨some 31,(some (28,false)),.ck (.t 30)⟩,⟨some 32,(some (28,false)),.fa 1 (.t 31)⟩,⟨some 33,(some (28,false)),.ld none (.t 32)⟩,⟨some 34,(some (28,false)),.bin .geq (.t 29) (.t 33)⟩,⟨some 35,(some (28,false)),.mov (.t 34)⟩,⟨some 36,(some (35,true)),.mov (.t 0)⟩,⟨some 37,(some (35,true)),.mov (.t 5)⟩,⟨some 38,(some (35,true)),.ck (.t 36)⟩,⟨some 39,(some (35,true)),.fa 1 (.t 38)⟩,⟨some 40,(some (35,true)),.ia 8 64 (.t 39) (.t 37)⟩,⟨some 41,(some (35,true)),.ld (some 64) (.t 40)⟩,⟨some 42,(some (35,true)),.build 64 [(64,(.int .u8 0))] []⟩,⟨some 43,(some (35,true)),.eqa true 64 (.t 41) (.t 42)⟩,⟨some 44,(some (28,false)),.pick (.t 35) (.t 43) (.c (.bool false))⟩,⟨some 45,none,.pick (.t 28) (.c (.bool true)) (.t 44)⟩]) (.cond (.t 45) (.seq (.reg [⟨some 4,none,.mov (.c (.bool false))⟩]) .ret) .skip)))) (.reg [⟨some 46,none,.bin .add (.t 6) (.c (.int .i64 1))⟩,⟨some 6,none,.mov (.t 46)⟩]))))))) (.seq (.reg [⟨some 4,none,.mov (.c (.bool true))⟩]) .ret)))

set_option maxRecDepth 100000 in
theorem tr90 : trFn Tryz.prog Tryz.f90 = some (47, ir90, [.tmp 4]) := by kernel_rfl

theorem Module_isShaped (p d : Int) (N : Nat) (t : Nat → Int) (bm bh : Nat) (Km Kh : Blk) (H : Hp) (n : Nat) (hp : isP p = true) (gm : H.get bm = some Km) (sm : Km.size = 513) (km : Km.c 0 = .int .i64 d) (cm : ∀ q, q < 512 → Km.c (1 + q) = .int .u8 (t q)) (ht : isBy 512 t)
    (gh : H.get bh = some Kh) (sh : Kh.size = 1106) (kp : Kh.c 0 = .int .i64 p) (kn : Kh.c 1 = .int .i64 (N : Nat)) :
    FnS Tryz.prog 90 [ptr bm 0, ptr bh 0] H n (fun r H' _ => r = bl (tb (mshp p d N t)) ∧ H' = H) := by
  have kn' : Kh.c (0 + 1) = .int .i64 (N : Nat) := kn
  have cm' : ∀ q, q < 512 → Km.c (0 + 1 + q) = .int .u8 (t q) := cm
  refine FnS.of_body Tryz.func90 tr90 (by simp) (fun hf => ?_)
  dsimp only [argEnv]
  unfold ir90
  have hbm := getlt hf gm
  have hbh := getlt hf gh
  (refine zG ?_)
  refine CS.iter 8 (fun i => [(6, i64 (i : Nat)), (0, ptr bm 0), (1, ptr bh 0)]) (fun _ => H) (fun i => ∀ j : Nat, j < i → (sz p d ∧ isLin p d d (fun x => t (64 * j + x))) ∧ (N ≤ j → ∀ x, x < 64 → t (64 * j + x) = 0)) (by (repeat first | exact trivial | refine And.intro rfl ?_)) (Drops.refl _ _) (fun j hj => by omega) ?_
  intro i n1 hi hn hJ
  (refine zG ?_)
  refine zI ?_ ?_<;>intro h1
  · have hi' : i < 8 := by omega
    (refine zG ?_)
    refine LS.callQ (bl (tb (sz p d ∧ isLin p d d (fun x => t (64 * i + x))))) rfl (fun n' hn' => impl_isLinear p d d (fun x => t (64 * i + x)) bm (1 + 64 * i) Km _ _ gm (by omega) (fun x hx => by rw [Nat.add_assoc]; exact cm _ (by omega)) (fun x hx => ht _ (by omega))) ?_
    (refine zG ?_)
    refine RS.sp (t := 28) rfl (fun h2 => ?_) (fun h2 => ?_) <;> (try simp only [tb_eq, tb_eqF, decide_eq_true_eq, decide_eq_false_iff_not, beq_iff_eq, bne_iff_ne, ne_eq, Decidable.not_not, beq_eq_false_iff_ne, bne_eq_false_iff_eq, Bool.not_eq_true', Bool.not_eq_false', Bool.not_eq_eq_eq_not, Bool.not_true, Bool.not_false] at h2)
    · (repeat first|refine zG ?_|(refine LS.nilO ?_;intro nq hnq hltq;try refine zU ?_)|(refine MS.new ?_;intro bq hbq hbqf;try refine zU ?_)|(refine MS.nil ?_;intro nq hnq hltq;have hlq:=hltq _ _ (Hp.get_eq _ _ _);clear hltq;try refine zU ?_)|(refine LS.nilQ ?_;try with_reducible intro nq hnq;try refine zU ?_))
      exact ⟨_, H, rfl, by exact zD, by rw [tb_false (fun q => h2 ⟨⟨hp, q.1⟩, (q.2 i hi').1⟩)], rfl⟩
    · (refine zG ?_)
      refine RS.sp (t := 35) rfl (fun h3 => ?_) (fun h3 => ?_) <;> (try simp only [tb_eq, tb_eqF, decide_eq_true_eq, decide_eq_false_iff_not, beq_iff_eq, bne_iff_ne, ne_eq, Decidable.not_not, beq_eq_false_iff_ne, bne_eq_false_iff_eq, Bool.not_eq_true', Bool.not_eq_false', Bool.not_eq_eq_eq_not, Bool.not_true, Bool.not_false] at h3)
      · (repeat first|refine zG ?_|(refine LS.nilO ?_;intro nq hnq hltq;try refine zU ?_)|(refine MS.new ?_;intro bq hbq hbqf;try refine zU ?_)|(refine MS.nil ?_;intro nq hnq hltq;have hlq:=hltq _ _ (Hp.get_eq _ _ _);clear hltq;try refine zU ?_)|(refine LS.nilQ ?_;try with_reducible intro nq hnq;try refine zU ?_))
        refine zI ?_ ?_<;>intro h4
        · (refine zG ?_)
          exact ⟨_, H, rfl, by exact zD, by rw [tb_false (fun q => h4 (fun x hx => (q.2 i hi').2 (by omega) x hx))], rfl⟩
        · (refine zG ?_)
          refine ⟨by omega, by (repeat first | exact trivial | refine And.intro rfl ?_), by exact zD, fun j hj => ?_⟩
          by_cases e : j = i
          · subst e; exact ⟨h2, fun _ => h4⟩
          · exact hJ j (by omega)
      · (repeat first|refine zG ?_|(refine LS.nilO ?_;intro nq hnq hltq;try refine zU ?_)|(refine MS.new ?_;intro bq hbq hbqf;try refine zU ?_)|(refine MS.nil ?_;intro nq hnq hltq;have hlq:=hltq _ _ (Hp.get_eq _ _ _);clear hltq;try refine zU ?_)|(refine LS.nilQ ?_;try with_reducible intro nq hnq;try refine zU ?_))
        refine ⟨by omega, by (repeat first | exact trivial | refine And.intro rfl ?_), by exact zD, fun j hj => ?_⟩
        by_cases e : j = i
        · subst e; exact ⟨h2, fun h => by omega⟩
        · exact hJ j (by omega)
  · obtain rfl : i = 8 := by omega
    (refine zG ?_)
    exact ⟨_, H, rfl, by exact zD, by rw [tb_true (show mshp p d N t from ⟨(hJ 0 (by omega)).1.1.2, fun j hj => ⟨(hJ j hj).1.2, (hJ j hj).2⟩⟩)], rfl⟩

end Go.Proofs.YtkmfdhicjaccaaaGreat

/- What a vector does, and whether maps are a module, on the program's side. -/

namespace Go.V

set_option linter.unusedSimpArgs false

set_option linter.unusedVariables false

/-- What has been seen of two truths. -/
noncomputable def okv (Q R : Prop) : Nat → Bool
  | 0 => tb Q
  | _ + 1 => tb (Q ∧ R)

end Go.V

namespace Go.Proofs.YtkmfdhicjaccaaaGreat

open Go.V

variable [BW]

set_option linter.unusedSimpArgs false

set_option linter.unusedVariables false

set_option maxHeartbeats 4000000

/-- (*impl.Module).acts -/
def ir91 : Cd := (.seq (.reg [⟨some 5,none,.box 31 (.t 2)⟩,⟨some 6,none,.new 33 [(64,(.int .u8 0))]⟩]) (.seq (.reg [⟨some 12,none,.mov (.t 0)⟩,⟨some 13,none,.mov (.t 1)⟩,⟨some 14,none,.call 31 [(.t 12),(.t 13)]⟩,⟨some 15,none,.build 64 [(64,(.int .u8 0))] []⟩,⟨some 7,none,.new 71 [(2,(.int .i64 0))]⟩,⟨some 8,none,.new 33 [(64,(.int .u8 0))]⟩,⟨none,none,.st 2 (.t 7) (.t 14)⟩,⟨none,none,.st 64 (.t 8) (.t 15)⟩]) (.seq (.seq (.reg [⟨some 16,none,.ld (some 8) (.t 5)⟩,⟨some 17,none,.mov (.c (.int .i64 0))⟩]) (.block 0 (.loop (.seq (.reg [⟨some 18,none,.bin .lss (.t 17) (.c (.int .i64 8))⟩]) (.seq (.cond (.t 18) .skip (.exit 0)) (.seq (.block 1 (.seq (.reg [⟨some 19,none,.mov (.t 17)⟩,⟨some 20,none,.ix 8 1 none (.t 16) (.t 17)⟩,⟨some 9,none,.mov (.t 19)⟩,⟨some 10,none,.mov (.t 20)⟩]) (.seq (.reg [⟨some 21,none,.fa 1 (.t 7)⟩,⟨some 22,none,.ld none (.t 21)⟩,⟨some 23,none,.mov (.c (.int .i64 0))⟩]) (.block 2 (.loop (.seq (.reg [⟨some 24,none,.bin .lss (.t 23) (.t 22)⟩]) (.seq (.cond (.t 24) .skip (.exit 2)) (.seq (.block 3 (.seq (.reg [⟨some 25,none,.mov (.t 23)⟩,⟨some 11,none,.mov (.t 25)⟩]) (.drw true [13] [⟨some 26,none,.ld (some 2) (.t 7)⟩,⟨some 27,none,.mov (.t 11)⟩,⟨some 28,none,.ia 8 8 (.t 8) (.t 27)⟩,⟨some 29,none,.mov (.t 10)⟩,⟨some 30,none,.cv .i64 (.t 29)⟩,⟨some 31,none,.mov (.t 0)⟩,⟨some 32,none,.mov (.t 9)⟩,⟨some 33,none,.mov (.t 11)⟩,⟨some 34,none,.ck (.t 31)⟩,⟨some 35,none,.fa 1 (.t 34)⟩,⟨some 36,none,.ia 8 64 (.t 35) (.t 32)⟩,⟨some 37,none,.ia 8 8 (.t 36) (.t 33)⟩,⟨some 38,none,.ld (some 8) (.t 37)⟩,⟨some 39,none,.call 50 [(.t 26),(.t 28),(.t 30),(.t 38)]⟩]))) (.reg [⟨some 40,none,.bin .add (.t 23) (.c (.int .i64 1))⟩,⟨some 23,none,.mov (.t 40)⟩]))))))))) (.reg [⟨some 41,none,.bin .add (.t 17) (.c (.int .i64 1))⟩,⟨some 17,none,.mov (.t 41)⟩]))))))) (.seq (.reg [⟨some 42,none,.ld (some 64) (.t 8)⟩,⟨none,none,.st 64 (.t 6) (.t 42)⟩]) .ret))))

set_option maxRecDepth 100000 in
theorem tr91 : trFn Tryz.prog Tryz.f91 = some (43, ir91, [.cell (some 64) 6]) := by kernel_rfl

theorem Module_acts (p : Int) (d : Nat) (t a : Nat → Int) (bm bh : Nat) (Km Kh : Blk) (H : Hp) (n : Nat) (hp : 2 ≤ p ∧ p ≤ 31) (hd : d ≤ 8) (gm : H.get bm = some Km) (sm : Km.size = 513) (km : Km.c 0 = .int .i64 (d : Nat)) (cm : ∀ q, q < 512 → Km.c (1 + q) = .int .u8 (t q)) (ht : isBy 512 t)
    (gh : H.get bh = some Kh) (sh : Kh.size = 1106) (kp : Kh.c 0 = .int .i64 p) (ha : isBy 8 a) :
    FnS Tryz.prog 91 [ptr bm 0, ptr bh 0, .arr 8 (bys a)] H n (fun r H' _ => r = .arr 64 (bys (acs p t a d 8)) ∧ H' = H) := by
  refine FnS.of_body Tryz.func91 tr91 (by simp) (fun hf => ?_)
  dsimp only [argEnv]
  unfold ir91
  have hbm := getlt hf gm
  have hbh := getlt hf gh
  (refine zG ?_)
  refine RS.call rfl ((Module_field p (d : Nat) bm bh Km Kh _ _ (by exact zH) (by exact zH) (by omega) (by omega) km kp).mono ?_)
  rintro r H' n2 hn2 ⟨rfl, rfl⟩
  (refine zG ?_)
  refine CS.iter 8 (fun i => [(17, i64 (i : Nat)), (16, .arr 8 (bys a)), (7, ptr n2 0), (8, ptr (n2 + 1) 0), (5, ptr n 0), (6, ptr (n + 1) 0), (0, ptr bm 0)])
    (fun i => (n2 + 1, ⟨64, bys (acs p t a d i), 33⟩) :: (n2, ⟨2, fldC p d, 71⟩) :: (n + 1, ⟨64, bys (fun _ => 0), 33⟩) :: (n, ⟨8, bys a, 31⟩) :: H) (fun _ => True) (by (repeat first | exact trivial | refine And.intro rfl ?_))
    (Drops.keepc rfl rfl (fun _ _ => by rw [acs_zero]; rfl) (Drops.keepc rfl rfl (fun q hq => ?_) (Drops.keepc rfl rfl (fun _ _ => rfl) (Drops.refl _ _)))) trivial ?_
  · rcases (show q = 0 ∨ q = 1 by (simp only [Zs.size] at hq; omega)) with rfl | rfl <;> rfl
  intro i n1 hi hn _
  (refine zG ?_)
  refine zI ?_ ?_<;>intro h1
  · have hi' : i < 8 := by omega
    have hai := ha i hi'
    (refine zG ?_)
    refine CS.iter d (fun v => [(23, i64 (v : Nat)), (22, i64 (d : Nat)), (9, i64 (i : Nat)), (10, u8 (a i)), (17, i64 (i : Nat)), (16, .arr 8 (bys a)), (7, ptr n2 0), (8, ptr (n2 + 1) 0), (5, ptr n 0), (6, ptr (n + 1) 0), (0, ptr bm 0)])
      (fun v => (n2 + 1, ⟨64, bys (rowsTo (acs p t a d i) (acs p t a d (i + 1)) v), 33⟩) :: (n2, ⟨2, fldC p d, 71⟩) :: (n + 1, ⟨64, bys (fun _ => 0), 33⟩) :: (n, ⟨8, bys a, 31⟩) :: H) (fun _ => True) (by (repeat first | exact trivial | refine And.intro rfl ?_))
      (by rw [rowsTo_zero]; exact Drops.refl _ _) trivial ?_
    intro v n3 hv hn3 _
    (refine zG ?_)
    refine zI ?_ ?_<;>intro h2
    · have hv' : v < d := by omega
      (repeat first|refine zG ?_|(refine LS.nilO ?_;intro nq hnq hltq;try refine zU ?_)|(refine MS.new ?_;intro bq hbq hbqf;try refine zU ?_)|(refine MS.nil ?_;intro nq hnq hltq;have hlq:=hltq _ _ (Hp.get_eq _ _ _);clear hltq;try refine zU ?_)|(refine LS.nilQ ?_;try with_reducible intro nq hnq;try refine zU ?_))
      refine RS.call rfl ((field_plus p d (a i) (fun y => cps p t a i (8 * v + y)) (fun y => t (64 * i + 8 * v + y)) (n2 + 1) (8 * v) ⟨64, bys (rowsTo (acs p t a d i) (acs p t a d (i + 1)) v), 33⟩ _ _ hp (by exact zH) (by simp; omega) (fun y hy => by
        show SV.int .u8 (rowsTo (acs p t a d i) (acs p t a d (i + 1)) v (8 * v + y)) = _
        unfold rowsTo
        rw [if_neg (by omega), acs_at hv' hy]) (fun y hy => modB _ hp.1) (fun y hy => ht _ (by omega)) (by omega)).mono ?_)
      rintro r H' n4 hn4 ⟨rfl, rfl⟩
      simp (disch := omega) only [Hp.set_eq, Hp.set_ne]
      (refine zG ?_)
      refine ⟨by omega, by (repeat first | exact trivial | refine And.intro rfl ?_), Drops.keepc rfl rfl (fun q hq => rowsTo_step (fun y hy => ?_) q) (Drops.refl _ _), trivial⟩
      rw [acs_at hv' hy, ← cps_more]
      unfold pl
      (try dsimp only)
      rw [Nat.add_assoc (64 * i)]
    · obtain rfl : d = v := by omega
      (refine zG ?_)
      exact ⟨by omega, by (repeat first | exact trivial | refine And.intro rfl ?_), by rw [acs_end]; exact Drops.refl _ _, trivial⟩
  · obtain rfl : i = 8 := by omega
    (refine zG ?_)
    exact ⟨.arr 64 (bys (acs p t a d 8)), H, conc_arr (fun q hq => by simp only [Nat.zero_add]), by exact zD, rfl, rfl⟩

/-- (*impl.Module).isModule -/
def ir61 : Cd := (.seq (.reg [⟨some 4,none,.mov (.c (.bool false))⟩]) (.seq (.reg [⟨some 8,none,.mov (.t 0)⟩,⟨some 9,none,.mov (.t 1)⟩,⟨some 10,none,.call 31 [(.t 8),(.t 9)]⟩,⟨some 5,none,.new 71 [(2,(.int .i64 0))]⟩,⟨none,none,.st 2 (.t 5) (.t 10)⟩]) (.seq (.seq (.drw true [13] [⟨some 11,none,.mov (.t 0)⟩,⟨some 12,none,.mov (.t 1)⟩,⟨some 13,none,.call 90 [(.t 11),(.t 12)]⟩,⟨some 14,none,.un .not (.t 13)⟩,⟨some 15,none,.mov (.t 14)⟩,⟨some 16,(some (15,false)),.mov (.t 0)⟩,⟨some 17,(some (15,false)),.mov (.t 1)⟩,⟨some 18,(some (15,false)),.mov (.t 1)⟩,⟨some 19,(some (15,false)),.ck (.t 18)⟩,⟨some 20,(some (15,false)),.fa 2 (.t 19)⟩,⟨some 21,(some (15,false)),.ld (some 8) (.t 20)⟩,⟨some 22,(some (15,false)),.call 91 [(.t 16),(.t 17),(.t 21)]⟩,⟨some 23,(some (15,false)),.ld (some 2) (.t 5)⟩,⟨some 24,(some (15,false)),.call 92 [(.t 23)]⟩,⟨some 25,(some (15,false)),.eqa true 64 (.t 22) (.t 24)⟩,⟨some 26,none,.pick (.t 15) (.c (.bool true)) (.t 25)⟩]) (.cond (.t 26) (.seq (.reg [⟨some 4,none,.mov (.c (.bool false))⟩]) .ret) .skip)) (.seq (.seq (.reg [⟨some 27,none,.mov (.t 1)⟩,⟨some 28,none,.ck (.t 27)⟩,⟨some 29,none,.fa 1 (.t 28)⟩,⟨some 30,none,.ld none (.t 29)⟩,⟨some 31,none,.mov (.c (.int .i64 0))⟩]) (.block 0 (.loop (.seq (.reg [⟨some 32,none,.bin .lss (.t 31) (.t 30)⟩]) (.seq (.cond (.t 32) .skip (.exit 0)) (.seq (.block 1 (.seq (.reg [⟨some 33,none,.mov (.t 31)⟩,⟨some 6,none,.mov (.t 33)⟩]) (.seq (.reg [⟨some 34,none,.mov (.t 1)⟩,⟨some 35,none,.ck (.t 34)⟩,⟨some 36,none,.fa 1 (.t 35)⟩,⟨some 37,none,.ld none (.t 36)⟩,⟨some 38,none,.mov (.c (.int .i64 0))⟩]) (.block 2 (.loop (.seq (.reg [⟨some 39,none,.bin .lss (.t 38) (.t 37)⟩]) (.seq (.cond (.t 39) .skip (.exit 2)) (.seq (.block 3 (.seq (.reg [⟨some 40,none,.mov (.t 38)⟩,⟨some 7,none,.mov (.t 40)⟩]) (.seq (.drw true [22] [⟨some 41,none,.mov (.t 0)⟩,⟨some 42,none,.mov (.t 1)⟩,⟨some 43,none,.mov (.t 1)⟩,⟨some 44,none,.mov (.t 6)⟩,⟨some 45,none,.mov (.t 7)⟩,⟨some 46,none,.ck (.t 43)⟩,⟨some 47,none,.fa 10 (.t 46)⟩,⟨some 48,none,.ia 8 64 (.t 47) (.t 44)⟩,⟨some 49,none,.ia 8 8 (.t 48) (.t 45)⟩,⟨some 50,none,.ld (some 8) (.t 49)⟩,⟨some 51,none,.call 91 [(.t 41),(.t 42),(.t 50)]⟩,⟨some 52,none,.ld (some 2) (.t 5)⟩,⟨some 53,none,.mov (.t 0)⟩,⟨some 54,none,.mov (.t 6)⟩,⟨some 55,none,.ck (.t 53)⟩,⟨some 56,none,.fa 1 (.t 55)⟩,⟨some 57,none,.ia 8 64 (.t 56) (.t 54)⟩,⟨some 58,none,.mov (.t 0)⟩,⟨some 59,none,.mov (.t 7)⟩,⟨some 60,none,.ck (.t 58)⟩,⟨some 61,none,.fa 1 (.t 60)⟩,⟨some 62,none,.ia 8 64 (.t 61) (.t 59)⟩,⟨some 63,none,.call 93 [(.t 52),(.t 57),(.t 62)]⟩,⟨some 64,none,.eqa true 64 (.t 51) (.t 63)⟩]) (.cond (.t 64) (.seq (.reg [⟨some 4,none,.mov (.c (.bool false))⟩]) .ret) .skip)))) (.reg [⟨some 65,none,.bin .add (.t 38) (.c (.int .i64 1))⟩,⟨some 38,none,.mov (.t 65)⟩]))))))))) (.reg [⟨some 66,none,.bin .add (.t 31) (.c (.int .i64 1))⟩,⟨some 31,none,.mov (.t 66)⟩]))))))) (.seq (.reg [⟨some 4,none,.mov (.c (.bool true))⟩]) .ret)))))

set_option maxRecDepth 100000 in
theorem tr61 : trFn Tryz.prog Tryz.f61 = some (67, ir61, [.tmp 4]) := by kernel_rfl

theorem Module_isModule (h : HT) (N : Nat) (d : Int) (t : Nat → Int) (bm bh : Nat) (Km Kh : Blk) (H : Hp) (n : Nat) (hisP : isP h.p = true) (hS : HS h N) (hK : h.At Kh.c) (hB : h.By) (gm : H.get bm = some Km) (sm : Km.size = 513) (km : Km.c 0 = .int .i64 d) (cm : ∀ q, q < 512 → Km.c (1 + q) = .int .u8 (t q)) (ht : isBy 512 t)
    (gh : H.get bh = some Kh) (sh : Kh.size = 1106) :
    FnS Tryz.prog 61 [ptr bm 0, ptr bh 0] H n (fun r H' _ => r = bl (tb (isModule h N d t)) ∧ H' = H) := by
  have hp := hS.hp
  have hN := hS.ha
  have hk0 := hK.p
  have hk1 := hK.n
  have hku := hK.u
  have hkm := hK.m
  rw [hS.hn] at hk1
  have hk1' : Kh.c (0 + 1) = .int .i64 (N : Nat) := hk1
  have cm' : ∀ q, q < 512 → Km.c (0 + 1 + q) = .int .u8 (t q) := cm
  refine FnS.of_body Tryz.func61 tr61 (by simp) (fun hf => ?_)
  dsimp only [argEnv]
  unfold ir61
  have hbm := getlt hf gm
  have hbh := getlt hf gh
  (refine zG ?_)
  refine RS.call rfl ((Module_field h.p d bm bh Km Kh _ _ (by exact zH) (by exact zH) (by omega) (by omega) km hk0).mono ?_)
  rintro r H n2 hn2 ⟨rfl, rfl⟩
  (refine zG ?_)
  refine LS.callQ (bl (tb (mshp h.p d N t))) rfl (fun n' hn' => Module_isShaped h.p d N t bm bh Km Kh _ _ hisP (by exact zH) sm km cm ht (by exact zH) sh hk0 hk1) ?_
  (refine zG ?_)
  refine RS.sp (t := 15) rfl (fun h1 => ?_) (fun h1 => ?_) <;> (try simp only [tb_eq, tb_eqF, decide_eq_true_eq, decide_eq_false_iff_not, beq_iff_eq, bne_iff_ne, ne_eq, Decidable.not_not, beq_eq_false_iff_ne, bne_eq_false_iff_eq, Bool.not_eq_true', Bool.not_eq_false', Bool.not_eq_eq_eq_not, Bool.not_true, Bool.not_false] at h1)
  · (repeat first|refine zG ?_|(refine LS.nilO ?_;intro nq hnq hltq;try refine zU ?_)|(refine MS.new ?_;intro bq hbq hbqf;try refine zU ?_)|(refine MS.nil ?_;intro nq hnq hltq;have hlq:=hltq _ _ (Hp.get_eq _ _ _);clear hltq;try refine zU ?_)|(refine LS.nilQ ?_;try with_reducible intro nq hnq;try refine zU ?_))
    exact ⟨_, H, rfl, by exact zD, by rw [tb_false (fun q => h1 q.1)], rfl⟩
  obtain ⟨d, rfl⟩ := Int.eq_ofNat_of_zero_le (show 0 ≤ d by have := h1.1; omega)
  have hd : d ≤ 8 := by have := h1.1; omega
  have hiff := isMod_iff (u := h.u) (m := h.m) hd hN h1
  (refine zG ?_)
  refine LS.callQ (.arr 64 (bys (acs h.p t h.u d 8))) rfl (fun n' hn' => Module_acts h.p d t h.u bm bh Km Kh _ _ hp hd (by exact zH) sm km cm ht (by exact zH) sh hk0 hB.u) ?_
  (repeat first|refine zG ?_|(refine LS.nilO ?_;intro nq hnq hltq;try refine zU ?_)|(refine MS.new ?_;intro bq hbq hbqf;try refine zU ?_)|(refine MS.nil ?_;intro nq hnq hltq;have hlq:=hltq _ _ (Hp.get_eq _ _ _);clear hltq;try refine zU ?_)|(refine LS.nilQ ?_;try with_reducible intro nq hnq;try refine zU ?_))
  refine RS.call rfl ((FnS.args (concs_cons (conc_arr (fun q hq => rfl)) rfl) (field_identity h.p d _ _ hd)).mono ?_)
  rintro r H' n3 hn3 ⟨rfl, rfl⟩
  (refine zG ?_)
  refine zI ?_ ?_<;>intro h2
  · (refine zG ?_)
    exact ⟨_, H, rfl, by exact zD, by rw [tb_false (fun q => h2 (hiff.2 q.2).1)], rfl⟩
  (refine zG ?_)
  refine CS.iter N (fun i => [(31, i64 (i : Nat)), (30, i64 (N : Nat)), (5, ptr n2 0), (0, ptr bm 0), (1, ptr bh 0)]) (fun _ => (n2, ⟨2, fldC h.p d, 71⟩) :: H)
    (fun i => ∀ i' j, i' < i → j < N → ∀ q, q < 64 → acs h.p t (fun y => h.m (64 * i' + 8 * j + y)) d 8 q = afm h.p (fun y => t (64 * i' + y)) (fun y => t (64 * j + y)) q) (by (repeat first | exact trivial | refine And.intro rfl ?_)) (Drops.refl _ _) (fun i' j hj => by omega) ?_
  intro i n5 hi hn5 hJi
  (refine zG ?_)
  refine zI ?_ ?_<;>intro h4
  · have hi' : i < N := by omega
    (refine zG ?_)
    refine CS.iter N (fun j => [(38, i64 (j : Nat)), (37, i64 (N : Nat)), (6, i64 (i : Nat)), (31, i64 (i : Nat)), (30, i64 (N : Nat)), (5, ptr n2 0), (0, ptr bm 0), (1, ptr bh 0)]) (fun _ => (n2, ⟨2, fldC h.p d, 71⟩) :: H)
      (fun j => ∀ j', j' < j → ∀ q, q < 64 → acs h.p t (fun y => h.m (64 * i + 8 * j' + y)) d 8 q = afm h.p (fun y => t (64 * i + y)) (fun y => t (64 * j' + y)) q) (by (repeat first | exact trivial | refine And.intro rfl ?_)) (Drops.refl _ _) (fun j hj => by omega) ?_
    intro j n6 hj hn6 hJj
    (refine zG ?_)
    refine zI ?_ ?_<;>intro h5
    · have hj' : j < N := by omega
      (refine zG ?_)
      refine LS.callQ (.arr 64 (bys (acs h.p t (fun y => h.m (64 * i + 8 * j + y)) d 8))) rfl (fun n' hn' => Module_acts h.p d t (fun y => h.m (64 * i + 8 * j + y)) bm bh Km Kh _ _ hp hd (by exact zH) sm km cm ht (by exact zH) sh hk0 (fun x hx => hB.m _ (by omega))) ?_
      (repeat first|refine zG ?_|(refine LS.nilO ?_;intro nq hnq hltq;try refine zU ?_)|(refine MS.new ?_;intro bq hbq hbqf;try refine zU ?_)|(refine MS.nil ?_;intro nq hnq hltq;have hlq:=hltq _ _ (Hp.get_eq _ _ _);clear hltq;try refine zU ?_)|(refine LS.nilQ ?_;try with_reducible intro nq hnq;try refine zU ?_))
      refine RS.call rfl ((FnS.args (concs_cons (conc_arr (fun q hq => rfl)) rfl) (field_after h.p d (fun y => t (64 * i + y)) (fun y => t (64 * j + y)) bm (1 + 64 * i) bm (1 + 64 * j) Km Km _ _ hp (by exact zH) (by omega) (fun x hx => by rw [Nat.add_assoc]; exact cm _ (by omega)) (fun x hx => ht _ (by omega)) (by exact zH) (by omega) (fun x hx => by rw [Nat.add_assoc]; exact cm _ (by omega)) (fun x hx => ht _ (by omega)))).mono ?_)
      rintro r H' n7 hn7 ⟨rfl, rfl⟩
      (refine zG ?_)
      refine zI ?_ ?_<;>intro h6
      · (refine zG ?_)
        exact ⟨_, H, rfl, by exact zD, by rw [tb_false (fun q => h6 ((hiff.2 q.2).2 i j hi' hj'))], rfl⟩
      · (refine zG ?_)
        refine ⟨by omega, by (repeat first | exact trivial | refine And.intro rfl ?_), Drops.refl _ _, fun j' hj2 x hx => ?_⟩
        by_cases e : j' = j
        · subst e; exact h6 x hx
        · exact hJj j' (by omega) x hx
    · obtain rfl : N = j := by omega
      (refine zG ?_)
      refine ⟨by omega, by (repeat first | exact trivial | refine And.intro rfl ?_), Drops.refl _ _, fun i' j hi2 hj2 x hx => ?_⟩
      by_cases e : i' = i
      · subst e; exact hJj j hj2 x hx
      · exact hJi i' j (by omega) hj2 x hx
  · obtain rfl : N = i := by omega
    (refine zG ?_)
    exact ⟨_, H, rfl, by exact zD, by rw [tb_true (show isModule h N d t from ⟨h1, hiff.1 ⟨h2, hJi⟩⟩)], rfl⟩

/-- impl.modulesCode -/
def ir28 : Cd := (.seq (.reg [⟨some 4,none,.mov (.c (.int .i64 0))⟩]) (.seq (.reg [⟨some 8,none,.mov (.t 0)⟩,⟨some 9,none,.ck (.t 8)⟩,⟨some 10,none,.ld (some 1106) (.t 9)⟩,⟨some 11,none,.call 60 [(.t 10)]⟩,⟨some 5,none,.mov (.t 11)⟩]) (.seq (.seq (.reg [⟨some 12,none,.mov (.t 1)⟩,⟨some 13,none,.len (.t 12)⟩,⟨some 14,none,.mov (.c (.int .i64 0))⟩]) (.block 0 (.loop (.seq (.reg [⟨some 15,none,.bin .lss (.t 14) (.t 13)⟩]) (.seq (.cond (.t 15) .skip (.exit 0)) (.seq (.block 1 (.seq (.reg [⟨some 16,none,.isl 1 (.t 12) (.t 14)⟩,⟨some 17,none,.ld none (.t 16)⟩,⟨some 7,none,.mov (.t 17)⟩]) (.reg [⟨some 18,none,.mov (.t 5)⟩,⟨some 19,none,.mov (.t 18)⟩,⟨some 20,(some (19,true)),.mov (.t 7)⟩,⟨some 21,(some (19,true)),.mov (.t 0)⟩,⟨some 22,(some (19,true)),.call 61 [(.t 20),(.t 21)]⟩,⟨some 23,none,.pick (.t 19) (.t 22) (.c (.bool false))⟩,⟨some 5,none,.mov (.t 23)⟩]))) (.reg [⟨some 24,none,.bin .add (.t 14) (.c (.int .i64 1))⟩,⟨some 14,none,.mov (.t 24)⟩]))))))) (.seq (.reg [⟨some 25,none,.mov (.t 5)⟩,⟨some 26,none,.call 62 [(.t 25),(.c (.int .i64 1))]⟩,⟨some 4,none,.mov (.t 26)⟩]) .ret))))

set_option maxRecDepth 100000 in
theorem tr28 : trFn Tryz.prog Tryz.f28 = some (27, ir28, [.tmp 4]) := by kernel_rfl

/-- The code of a Hopf algebra and one module. -/
theorem impl_modulesCode (h : HT) (d : Int) (t : Nat → Int) (bm bh bl' : Nat) (Km Kh Kl : Blk) (H : Hp) (n : Nat) (hK : h.At Kh.c) (hB : h.By) (gm : H.get bm = some Km) (sm : Km.size = 513) (km : Km.c 0 = .int .i64 d) (cm : ∀ q, q < 512 → Km.c (1 + q) = .int .u8 (t q)) (ht : isBy 512 t)
    (gh : H.get bh = some Kh) (sh : Kh.size = 1106) (gl : H.get bl' = some Kl) (sl : Kl.size = 1) (cl : Kl.c 0 = .ptr bm 0) :
    FnS Tryz.prog 28 [ptr bh 0, .s (.slc bl' 0 1 1)] H n (fun r H' _ => r = i64 (cd (isHopf h ∧ isModule h h.N d t)) ∧ H' = H) := by
  have hk0 := hK.p
  refine FnS.of_body Tryz.func28 tr28 (by simp) (fun hf => ?_)
  dsimp only [argEnv]
  unfold ir28
  have hbm := getlt hf gm
  have hbh := getlt hf gh
  have hbl := getlt hf gl
  (refine zG ?_)
  refine RS.call rfl ((FnS.args (concs_cons (conc_arr (fun q hq => rfl)) rfl) (impl_IsHopf h Kh.c _ _ hK hB)).mono ?_)
  rintro r H n2 hn2 ⟨rfl, rfl⟩
  (refine zG ?_)
  refine CS.iter 1 (fun i => [(14, i64 (i : Nat)), (13, i64 1), (12, .s (.slc bl' 0 1 1)), (5, bl (okv (isHopf h) (isModule h h.N d t) i)), (0, ptr bh 0)]) (fun _ => H) (fun _ => True) (by (repeat first | exact trivial | refine And.intro rfl ?_)) (Drops.refl _ _) trivial ?_
  intro i n3 hi hn3 _
  rcases (show i = 0 ∨ i = 1 by omega) with rfl | rfl
  · have e0 : okv (isHopf h) (isModule h h.N d t) 0 = tb (isHopf h) := rfl
    have e1 : okv (isHopf h) (isModule h h.N d t) (0 + 1) = tb (isHopf h ∧ isModule h h.N d t) := rfl
    have cl' : Kl.c (0 + 0 * 1) = .ptr bm 0 := cl
    rw [e0, e1]
    (refine zG ?_)
    refine RS.sp (t := 19) rfl (fun h1 => ?_) (fun h1 => ?_) <;> (try simp only [tb_eq, tb_eqF, decide_eq_true_eq, decide_eq_false_iff_not, beq_iff_eq, bne_iff_ne, ne_eq, Decidable.not_not, beq_eq_false_iff_ne, bne_eq_false_iff_eq, Bool.not_eq_true', Bool.not_eq_false', Bool.not_eq_eq_eq_not, Bool.not_true, Bool.not_false] at h1)
    · obtain ⟨N, hS⟩ := h1.1.hs
      (refine zG ?_)
      refine RS.call rfl ((Module_isModule h N d t bm bh Km Kh _ _ h1.1.1.1.1 hS hK hB (by exact zH) sm km cm ht (by exact zH) sh).mono ?_)
      rintro r H n5 hn5 ⟨rfl, rfl⟩
      rw [← hS.N]
      (refine zG ?_)
      exact ⟨by omega, ⟨rfl, rfl, rfl, congrArg (fun b => some (bl b)) (tb_iff ⟨fun q => q.2, fun q => ⟨h1, q⟩⟩).symm, rfl, trivial⟩, Drops.refl _ _, trivial⟩
    · rw [tb_false (show ¬(isHopf h ∧ isModule h h.N d t) from fun q => h1 q.1)]
      (refine zG ?_)
      exact ⟨by omega, by (repeat first | exact trivial | refine And.intro rfl ?_), Drops.refl _ _, trivial⟩
  · have e1 : okv (isHopf h) (isModule h h.N d t) 1 = tb (isHopf h ∧ isModule h h.N d t) := rfl
    rw [e1]
    (refine zG ?_)
    refine RS.call rfl ((impl_unless _ _ _).mono ?_)
    rintro r H n4 hn4 ⟨rfl, rfl⟩
    (refine zG ?_)
    exact ⟨_, H, rfl, by exact zD, rfl, rfl⟩

end Go.Proofs.YtkmfdhicjaccaaaGreat

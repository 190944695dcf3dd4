/- Normal sub Hopf algebras and their ideals, the reference's. -/
import Derived.Test.YtideblodkkgodaaGreatJbt
import Derived.Test.YtideblodkkgodaaGreatJbu
set_option linter.unusedSectionVars false
set_option linter.unusedVariables false
set_option linter.unusedSimpArgs false

namespace Go.V

variable [BW]

set_option linter.unusedSimpArgs false

set_option linter.unusedVariables false

section

variable {P : Program}

/-- A region in an open order: reads keep to blocks that stay. -/
theorem CS.ordNt {N m : Nat} {t : OT} {l : List Ins} {e : Env} {H : Hp} {n : Nat} {Q : Ex → Env → Hp → Nat → Prop} (F : Hp) (hF : Ext F H)
    (h : FT P N m l t e H F n fun e2 H2 => ∀ n', n ≤ n' → (∀ b k, H2.get b = some k → b < n') → Q .normal e2 H2 n') : CS P N m (.drwt t l) e H n Q := by
  intro code hc w0 w a Q' hm hw hag hQ
  obtain ⟨id, ops, rfl, hl, hf, hB⟩ := inv_drwt hc
  simp only [treeOk, Bool.and_eq_true, decide_eq_true_eq] at hB
  obtain ⟨⟨⟨h1, h2⟩, h3⟩, h4⟩ := hB
  have hlr : l.length = ops.size := by rw [mapM_some_length hl]; simp
  refine wp_region_treeF (F := F) (K := fun a Hc => ∃ e2, Ag N e2 a ∧ ∀ n', n ≤ n' → (∀ b k, Hc.get b = some k → b < n') → Q .normal e2 Hc n') hF hf h1 h2 h3 hm hw
    (fun a Hc n' w ⟨e2, hag2, hk⟩ hn hw' => hQ .normal e2 Hc n' a w (hk n' hn fun b k hb => hw'.lt hb) hn hag2 hw') ?_
  exact h.h ops (effL l) (fun os hos => omatch_of hl os fun k hk => by rw [← hlr]; exact hos k hk) h4 a _ hag hF fun e2 a2 H2 hk2 hag2 _ => ⟨e2, hag2, hk2⟩

end

/-- The space of a reduced list is a normal sub Hopf algebra. -/
def nrm (h : HT) (a : Nat) (R : Nat → Nat → Int) (c : Nat) : Prop :=
  subH h a R c ∧ ∀ i k, i < c → k < a → isIn h.p R c (adj h a False (bas k) (R i)) ∧ isIn h.p R c (adj h a True (bas k) (R i))

/-- The vectors less their counits times the Unit; the products of basis elements with these. -/
def ioV (h : HT) (R : Nat → Nat → Int) : Nat → Nat → Int := fun j => pl h.p (R j) (-(dotk h.p h.e (R j) 8)) h.u

def iogd (h : HT) (L : Nat → Nat → Int) (k : Nat) : Prop := nrm h h.N (rdA h.p L k).1 (rdA h.p L k).2.1

noncomputable def ioA (h : HT) (L : Nat → Nat → Int) (k : Nat) : (Nat → Nat → Int) × Nat × (Nat → Nat) := rdA h.p (prl h.p h.m h.N (ioV h (rdA h.p L k).1)) (h.N * (rdA h.p L k).2.1)

/-- What both functions return: a list and a code. -/
def IOP (h : HT) (L : Nat → Nat → Int) (k : Nat) (r : AV) (H' : Hp) (n n' : Nat) : Prop :=
  ∃ sv, r = .tup [.s sv, i64 (k5 (hok h L k) (iogd h L k))] ∧ (¬(hok h L k ∧ iogd h L k) → sv = .nils) ∧ (hok h L k ∧ iogd h L k → (ioA h L k).2.1 ≤ 8 ∧ ∃ b, VL H' sv (ioA h L k).2.1 (ioA h L k).1 b ∧ n ≤ b ∧ b < n')

theorem firstNot_nil {A : Nat → Prop} : ∀ {j k : Nat}, firstNot A k j = 0 → ∀ i, k ≤ i → i < k + j → A i
  | 0, k, _, i, h1, h2 => by omega
  | j + 1, k, h, i, h1, h2 => by
    unfold firstNot at h
    by_cases q : A k
    · rw [if_pos (tb_true q)] at h
      by_cases e : i = k
      · rw [e]; exact q
      · exact firstNot_nil h i (by omega) (by omega)
    · rw [tb_false q, if_neg (by simp)] at h; omega

theorem spn_vz {p : Int} {A : Nat → Nat → Int} {d N : Nat} (hA : ∀ i x, i < d → x < 8 → N ≤ x → A i x = 0) {x : Nat} (hx : x < 8) (hn : N ≤ x) {v : Nat → Int} (hv : isRes p 8 v) (h : spn p A d v) : v x = 0 := by
  obtain ⟨g, hg⟩ := h
  have e := hg x hx
  rw [modSelf (hv x hx), sm_zero (fun l hl => by rw [hA l x hl hx hn, Int.mul_zero])] at e
  rw [e]; rfl

end Go.V

namespace Go.Proofs.YtideblodkkgodaaGreat

open Go.V

variable [BW]

set_option linter.unusedSimpArgs false

set_option linter.unusedVariables false

set_option maxHeartbeats 4000000

/-- spec.l07Normal -/
def ir15 : Cd := (.seq (.reg [⟨some 2,none,.box 38 (.t 0)⟩,⟨some 4,none,.mov (.c (.bool false))⟩]) (.seq (.seq (.reg [⟨some 7,none,.ld (some 1106) (.t 2)⟩,⟨some 8,none,.mov (.t 1)⟩,⟨some 9,none,.call 37 [(.t 7),(.t 8)]⟩,⟨some 10,none,.un .not (.t 9)⟩]) (.cond (.t 10) (.seq (.reg [⟨some 4,none,.mov (.c (.bool false))⟩]) .ret) .skip)) (.seq (.seq (.reg [⟨some 5,none,.mov (.c (.int .i64 0))⟩]) (.block 0 (.loop (.seq (.seq (.reg [⟨some 11,none,.mov (.t 5)⟩,⟨some 12,none,.mov (.t 1)⟩,⟨some 13,none,.len (.t 12)⟩,⟨some 14,none,.bin .lss (.t 11) (.t 13)⟩]) (.cond (.t 14) .skip (.exit 0))) (.seq (.block 1 (.seq (.reg [⟨some 6,none,.mov (.c (.int .i64 0))⟩]) (.block 2 (.loop (.seq (.seq (.reg [⟨some 17,none,.mov (.t 6)⟩,⟨some 18,none,.fa 1 (.t 2)⟩,⟨some 19,none,.ld none (.t 18)⟩,⟨some 20,none,.bin .lss (.t 17) (.t 19)⟩]) (.cond (.t 20) .skip (.exit 2))) (.seq (.block 3 (.seq (.drwo true [25] [0,1,2,3,5,6,7,8,10,4,9,11,12,13,14,15,16,17,19,20,21,22,24,18,23,25,26,27] [⟨some 23,none,.fa 0 (.t 2)⟩,⟨some 24,none,.ld none (.t 23)⟩,⟨some 25,none,.ld (some 1106) (.t 2)⟩,⟨some 26,none,.mov (.t 6)⟩,⟨some 27,none,.call 21 [(.t 26)]⟩,⟨some 28,none,.mov (.t 1)⟩,⟨some 29,none,.mov (.t 5)⟩,⟨some 30,none,.isl 8 (.t 28) (.t 29)⟩,⟨some 31,none,.ld (some 8) (.t 30)⟩,⟨some 32,none,.call 39 [(.t 25),(.t 27),(.t 31),(.c (.bool false))]⟩,⟨some 33,none,.mov (.t 1)⟩,⟨some 34,none,.call 38 [(.t 24),(.t 32),(.t 33)]⟩,⟨some 35,none,.un .not (.t 34)⟩,⟨some 36,none,.mov (.t 35)⟩,⟨some 37,(some (36,false)),.fa 0 (.t 2)⟩,⟨some 38,(some (36,false)),.ld none (.t 37)⟩,⟨some 39,(some (36,false)),.ld (some 1106) (.t 2)⟩,⟨some 40,(some (36,false)),.mov (.t 6)⟩,⟨some 41,(some (36,false)),.call 21 [(.t 40)]⟩,⟨some 42,(some (36,false)),.mov (.t 1)⟩,⟨some 43,(some (36,false)),.mov (.t 5)⟩,⟨some 44,(some (36,false)),.isl 8 (.t 42) (.t 43)⟩,⟨some 45,(some (36,false)),.ld (some 8) (.t 44)⟩,⟨some 46,(some (36,false)),.call 39 [(.t 39),(.t 41),(.t 45),(.c (.bool true))]⟩,⟨some 47,(some (36,false)),.mov (.t 1)⟩,⟨some 48,(some (36,false)),.call 38 [(.t 38),(.t 46),(.t 47)]⟩,⟨some 49,(some (36,false)),.un .not (.t 48)⟩,⟨some 50,none,.pick (.t 36) (.c (.bool true)) (.t 49)⟩]) (.cond (.t 50) (.seq (.reg [⟨some 4,none,.mov (.c (.bool false))⟩]) .ret) .skip))) (.reg [⟨some 21,none,.mov (.t 6)⟩,⟨some 22,none,.bin .add (.t 21) (.c (.int .i64 1))⟩,⟨some 6,none,.mov (.t 22)⟩]))))))) (.reg [⟨some 15,none,.mov (.t 5)⟩,⟨some 16,none,.bin .add (.t 15) (.c (.int .i64 1))⟩,⟨some 5,none,.mov (.t 16)⟩])))))) (.seq (.reg [⟨some 4,none,.mov (.c (.bool true))⟩]) .ret))))

set_option maxRecDepth 100000 in
theorem tr15 : trFn Tryz.prog Tryz.f15 = some (51, ir15, [.tmp 4]) := by kernel_rfl

theorem spec_l07Normal (h : HT) (a : Nat) (R : Nat → Nat → Int) (c rb : Nat) (P : Nat → Nat) (rv : SV) (K : Nat → SV) (H : Hp) (n : Nat) (hS : HS h a) (hp : isP h.p = true) (hK : h.At K) (hB : h.By) (hu : isRes h.p 8 h.u) (hV : VL H rv c R rb) (rr : RR h.p R c P) :
    FnS Tryz.prog 15 [.arr 1106 K, .s rv] H n (fun r H' _ => r = bl (tb (nrm h a R c)) ∧ H' = H) := by
  have hb := hS.hp
  have ha := hS.ha
  have hc8 := rr.d8
  have k0 := hK.p
  have k1 := hK.n
  rw [hS.hn] at k1
  have k1' : K (0 + 1) = .int .i64 (a : Nat) := k1
  have hRr : ∀ i, i < c → isRes h.p 8 (R i) := fun i hi => rr.res i hi
  have hRl : ∀ i, i < c → fsn (R i) 8 < 8 := fun i hi => by rw [rr.fsn hi]; exact rr.lt i hi
  obtain ⟨o, cap, Kr, rfl, gr, ho, hm, hc⟩ := id hV
  refine FnS.of_body Tryz.func15 tr15 (by simp) (fun hf => ?_)
  dsimp only [argEnv]
  unfold ir15
  have hrb := getlt hf gr
  (refine zG ?_)
  refine RS.call rfl ((FnS.args (concs_cons (conc_arr (fun q hq => by first | rfl | (simp only [Nat.zero_add]; done) | (simp only [Nat.zero_add]; rfl))) rfl) (spec_l07Sub h a R c rb P _ K _ _ hS hp hK hB hu (hV.keep (by simp (disch := omega) only [Hp.get_ne])) rr)).mono ?_)
  rintro r H' n2 hn2 ⟨rfl, rfl⟩
  (refine zG ?_)
  refine zI ?_ ?_<;>intro h1
  · (refine zG ?_)
    exact ⟨_, H, rfl, by exact zD, by rw [tb_false (fun q => h1 q.1)], rfl⟩
  (refine zG ?_)
  refine CS.iter c (fun i => [(5, i64 (i : Nat)), (1, .s (.slc rb o c cap)), (2, ptr n 0)]) (fun _ => (n, ⟨1106, K, 38⟩) :: H) (fun i => Fx (∀ i' k, i' < i → k < a → isIn h.p R c (adj h a False (bas k) (R i')) ∧ isIn h.p R c (adj h a True (bas k) (R i')))) (by (repeat first | exact trivial | refine And.intro rfl ?_)) (by first | exact Drops.refl _ _ | exact zD) ⟨fun i k hi => by omega⟩ ?_
  intro i n3 hi hn3 hJ
  (refine zG ?_)
  refine zI ?_ ?_<;>intro h2
  · have hi' : i < c := by omega
    (refine zG ?_)
    refine CS.iter a (fun k => [(6, i64 (k : Nat)), (5, i64 (i : Nat)), (1, .s (.slc rb o c cap)), (2, ptr n 0)]) (fun _ => (n, ⟨1106, K, 38⟩) :: H) (fun k => Fx (∀ k', k' < k → isIn h.p R c (adj h a False (bas k') (R i)) ∧ isIn h.p R c (adj h a True (bas k') (R i)))) (by (repeat first | exact trivial | refine And.intro rfl ?_)) (Drops.refl _ _) ⟨fun k hk => by omega⟩ ?_
    intro k n4 hk hn4 hJk
    (refine zG ?_)
    refine zI ?_ ?_<;>intro h3
    · have hk' : k < a := by omega
      have e9 : ∀ q, q < 8 → Kr.c (o + i * 8 + q) = .int .u8 (R i q) := fun q hq => by rw [Nat.add_assoc]; exact hc i q hi' hq
      have hRb : isBy 8 (R i) := isRes.by (hRr i hi') hb.2
      have hbk : isBy 8 (bas k) := isRes.by (bas_res hb.1 k 8) hb.2
      (refine zG ?_)
      refine CS.quietLo ?_
      (refine zG ?_)
      refine LS.callQ (.arr 8 (bys (bas k))) rfl (fun n' hn' => spec_l01Basis k _ _ (by omega)) ?_
      (refine zG ?_)
      refine LS.callQ (.arr 8 (bys (adj h a False (bas k) (R i)))) rfl (fun n' hn' => by
        have := fun H n => spec_l07Adjoint h a False (bas k) (R i) K H n hS hK hB hbk hRb
        rw [tb_false (fun q => q)] at this
        exact FnS.args (concs_cons (conc_arr (fun q hq => by first | rfl | (simp only [Nat.zero_add]; done) | (simp only [Nat.zero_add]; rfl))) (concs_cons (conc_arr (fun q hq => by first | rfl | (simp only [Nat.zero_add]; done) | (simp only [Nat.zero_add]; rfl))) (concs_cons (conc_arr (fun q hq => by first | rfl | (simp only [Nat.zero_add]; done) | (simp only [Nat.zero_add]; rfl))) rfl))) (this _ _)) ?_
      (refine zG ?_)
      refine LS.callQ (bl (tb (isIn h.p R c (adj h a False (bas k) (R i))))) rfl (fun n' hn' => spec_l07In h.p R c rb _ _ _ _ hb (by omega) (hV.keep (by simp (disch := omega) only [Hp.get_ne])) hRr hRl (adk_res hb.1 _ _ _ 8)) ?_
      (refine zG ?_)
      refine RS.sp (t := 36) rfl (fun h4 => ?_) (fun h4 => ?_) <;> (try simp only [tb_eq, tb_eqF, decide_eq_true_eq, decide_eq_false_iff_not, beq_iff_eq, bne_iff_ne, ne_eq, Decidable.not_not, beq_eq_false_iff_ne, bne_eq_false_iff_eq, Bool.not_eq_true', Bool.not_eq_false', Bool.not_eq_eq_eq_not, Bool.not_true, Bool.not_false] at h4)
      · (repeat first|refine zG ?_|(refine LS.nilQ ?_;try with_reducible intro nq hnq;try refine zU ?_))
        exact ⟨_, H, rfl, by exact zD, by rw [tb_false (fun q => h4 (q.2 i k hi' hk').1)], rfl⟩
      · (refine zG ?_)
        refine LS.callQ (.arr 8 (bys (bas k))) rfl (fun n' hn' => spec_l01Basis k _ _ (by omega)) ?_
        (refine zG ?_)
        refine LS.callQ (.arr 8 (bys (adj h a True (bas k) (R i)))) rfl (fun n' hn' => by
          have := fun H n => spec_l07Adjoint h a True (bas k) (R i) K H n hS hK hB hbk hRb
          rw [tb_true trivial] at this
          exact FnS.args (concs_cons (conc_arr (fun q hq => by first | rfl | (simp only [Nat.zero_add]; done) | (simp only [Nat.zero_add]; rfl))) (concs_cons (conc_arr (fun q hq => by first | rfl | (simp only [Nat.zero_add]; done) | (simp only [Nat.zero_add]; rfl))) (concs_cons (conc_arr (fun q hq => by first | rfl | (simp only [Nat.zero_add]; done) | (simp only [Nat.zero_add]; rfl))) rfl))) (this _ _)) ?_
        (refine zG ?_)
        refine LS.callQ (bl (tb (isIn h.p R c (adj h a True (bas k) (R i))))) rfl (fun n' hn' => spec_l07In h.p R c rb _ _ _ _ hb (by omega) (hV.keep (by simp (disch := omega) only [Hp.get_ne])) hRr hRl (adk_res hb.1 _ _ _ 8)) ?_
        (repeat first|refine zG ?_|(refine LS.nilQ ?_;try with_reducible intro nq hnq;try refine zU ?_))
        refine zI ?_ ?_<;>intro h5
        · (refine zG ?_)
          exact ⟨_, H, rfl, by exact zD, by rw [tb_false (fun q => h5 (q.2 i k hi' hk').2)], rfl⟩
        · (refine zG ?_)
          refine ⟨by omega, by (repeat first | exact trivial | refine And.intro rfl ?_), Drops.refl _ _, ⟨fun k2 hk2 => ?_⟩⟩
          by_cases e : k2 = k
          · rw [e]; exact ⟨h4, h5⟩
          · exact hJk.out k2 (by omega)
    · obtain rfl : a = k := by omega
      (refine zG ?_)
      refine ⟨by omega, by (repeat first | exact trivial | refine And.intro rfl ?_), Drops.refl _ _, ⟨fun i2 k2 hi2 hk2 => ?_⟩⟩
      by_cases e : i2 = i
      · rw [e]; exact hJk.out k2 hk2
      · exact hJ.out i2 k2 (by omega) hk2
  · obtain rfl : c = i := by omega
    (refine zG ?_)
    exact ⟨_, H, rfl, by exact zD, by rw [tb_true (show nrm h a R c from ⟨h1, hJ.out⟩)], rfl⟩

/-- spec.IdealOfSub -/
def ir5 : Cd := (.seq (.reg [⟨some 2,none,.box 38 (.t 0)⟩,⟨some 4,none,.mov (.c .nils)⟩,⟨some 5,none,.mov (.c (.int .i64 0))⟩]) (.seq (.seq (.reg [⟨some 12,none,.ld (some 1106) (.t 2)⟩,⟨some 13,none,.mov (.t 1)⟩,⟨some 14,none,.call 13 [(.t 12),(.t 13)]⟩,⟨some 6,none,.mov (.t 14)⟩]) (.seq (.reg [⟨some 15,none,.mov (.t 6)⟩,⟨some 16,none,.bin .neq (.t 15) (.c (.int .i64 0))⟩]) (.cond (.t 16) (.seq (.reg [⟨some 17,none,.mov (.t 6)⟩,⟨some 4,none,.mov (.c .nils)⟩,⟨some 5,none,.mov (.t 17)⟩]) .ret) .skip))) (.seq (.reg [⟨some 18,none,.fa 0 (.t 2)⟩,⟨some 19,none,.ld none (.t 18)⟩,⟨some 20,none,.mov (.t 1)⟩,⟨some 21,none,.call 14 [(.t 19),(.t 20)]⟩,⟨some 7,none,.mov (.t 21)⟩]) (.seq (.seq (.reg [⟨some 22,none,.ld (some 1106) (.t 2)⟩,⟨some 23,none,.mov (.t 7)⟩,⟨some 24,none,.call 15 [(.t 22),(.t 23)]⟩,⟨some 25,none,.un .not (.t 24)⟩]) (.cond (.t 25) (.seq (.reg [⟨some 4,none,.mov (.c .nils)⟩,⟨some 5,none,.mov (.c (.int .i64 5))⟩]) .ret) .skip)) (.seq (.drwt (.seg 0 (.seg 1 (.seg 2 (.seg 3 (.fork (.seg 4 (.fork (.seg 5 (.seg 7 (.seg 6 (.seg 8 .done)))) (.seg 6 (.seg 5 (.seg 7 (.seg 8 .done)))))) (.seg 6 (.seg 4 (.seg 5 (.seg 7 (.seg 8 .done)))))))))) [⟨some 26,none,.fa 0 (.t 2)⟩,⟨some 27,none,.ld none (.t 26)⟩,⟨some 28,none,.mov (.t 7)⟩,⟨some 29,none,.ld (some 1106) (.t 2)⟩,⟨some 30,none,.call 17 [(.t 29)]⟩,⟨some 31,none,.call 16 [(.t 27),(.t 28),(.t 30)]⟩,⟨some 32,none,.bsl 32 0 8 [(8,(.int .u8 0))] []⟩,⟨some 8,none,.mov (.t 31)⟩,⟨some 9,none,.mov (.t 32)⟩]) (.seq (.seq (.reg [⟨some 10,none,.mov (.c (.int .i64 0))⟩]) (.block 0 (.loop (.seq (.seq (.reg [⟨some 33,none,.mov (.t 10)⟩,⟨some 34,none,.mov (.t 8)⟩,⟨some 35,none,.len (.t 34)⟩,⟨some 36,none,.bin .lss (.t 33) (.t 35)⟩]) (.cond (.t 36) .skip (.exit 0))) (.seq (.block 1 (.seq (.reg [⟨some 11,none,.mov (.c (.int .i64 0))⟩]) (.block 2 (.loop (.seq (.seq (.reg [⟨some 39,none,.mov (.t 11)⟩,⟨some 40,none,.fa 1 (.t 2)⟩,⟨some 41,none,.ld none (.t 40)⟩,⟨some 42,none,.bin .lss (.t 39) (.t 41)⟩]) (.cond (.t 42) .skip (.exit 2))) (.seq (.block 3 (.drwo true [12] [0,1,2,3,5,7,8,9,10,4,6,11,12,13] [⟨some 45,none,.fa 0 (.t 2)⟩,⟨some 46,none,.ld none (.t 45)⟩,⟨some 47,none,.mov (.t 9)⟩,⟨some 48,none,.ld (some 1106) (.t 2)⟩,⟨some 49,none,.call 20 [(.t 48)]⟩,⟨some 50,none,.mov (.t 11)⟩,⟨some 51,none,.call 21 [(.t 50)]⟩,⟨some 52,none,.mov (.t 8)⟩,⟨some 53,none,.mov (.t 10)⟩,⟨some 54,none,.isl 8 (.t 52) (.t 53)⟩,⟨some 55,none,.ld (some 8) (.t 54)⟩,⟨some 56,none,.call 19 [(.t 49),(.t 51),(.t 55)]⟩,⟨some 57,none,.call 18 [(.t 46),(.t 47),(.t 56)]⟩,⟨some 9,none,.mov (.t 57)⟩])) (.reg [⟨some 43,none,.mov (.t 11)⟩,⟨some 44,none,.bin .add (.t 43) (.c (.int .i64 1))⟩,⟨some 11,none,.mov (.t 44)⟩]))))))) (.reg [⟨some 37,none,.mov (.t 10)⟩,⟨some 38,none,.bin .add (.t 37) (.c (.int .i64 1))⟩,⟨some 10,none,.mov (.t 38)⟩])))))) (.seq (.reg [⟨some 58,none,.mov (.t 9)⟩,⟨some 4,none,.mov (.t 58)⟩,⟨some 5,none,.mov (.c (.int .i64 0))⟩]) .ret)))))))

set_option maxRecDepth 100000 in
theorem tr5 : trFn Tryz.prog Tryz.f5 = some (59, ir5, [.tmp 4, .tmp 5]) := by kernel_rfl

theorem spec_IdealOfSub (h : HT) (L : Nat → Nat → Int) (k lb : Nat) (lv : SV) (Kh : Nat → SV) (H : Hp) (n : Nat) (hK : h.At Kh) (hB : h.By) (hk : k ≤ 1000000) (hL : VL H lv k L lb) (hLb : ∀ i, i < k → isBy 8 (L i)) :
    FnS Tryz.prog 5 [.arr 1106 Kh, .s lv] H n (fun r H' n' => IOP h L k r H' n n' ∧ (∀ x, n' ≤ x → H'.get x = none) ∧ ∀ x, x < n → H'.get x = H.get x) := by
  have hk0 := hK.p
  have hk1 := hK.n
  refine FnS.of_body Tryz.func5 tr5 (by simp) (fun hf => ?_)
  dsimp only [argEnv]
  unfold ir5
  have hlb := hL.bound hf
  (refine zG ?_)
  refine RS.call rfl ((FnS.args (concs_cons (conc_arr (fun q hq => by first | rfl | (simp only [Nat.zero_add]; done) | (simp only [Nat.zero_add]; rfl))) rfl) (spec_l03Code h L k lb lv Kh _ _ hK hB hk (hL.keep (by simp (disch := omega) only [Hp.get_ne])) hLb)).mono ?_)
  rintro r H' n2 hn2 ⟨rfl, rfl⟩
  by_cases hq : hok h L k
  · rw [cd_true hq]
    obtain ⟨hh, hvec⟩ := id hq
    obtain ⟨N, hS⟩ := hh.1.hs
    have hN := hS.N
    have hisP : isP h.p = true := hh.1.1.1.1
    have hp := hS.hp
    have hLr : ∀ i, i < k → isRes h.p 8 (L i) := fun i hi => (hvec i hi).res (hLb i hi)
    have huR : isRes h.p 8 h.u := hh.1.1.2.1.res hB.u
    have heR : isRes h.p 8 h.e := hh.1.2.1.2.1.res hB.e
    have hk1' : Kh 1 = .int .i64 (N : Nat) := by rw [← hS.hn]; exact hk1
    have hk1'' : Kh (0 + 1) = .int .i64 (N : Nat) := hk1'
    have hN8 := hS.ha
    have hN1 := hS.ha1
    have hax : ax h 4 := firstNot_nil hh.2 4 (by omega) (by omega)
    have heu : dotk h.p h.e h.u 8 = 1 := hax.2
    (refine zG ?_)
    refine RS.call rfl ((spec_l01Reduce h.p L k lb lv _ _ hisP hk (hL.keep (by simp (disch := omega) only [Hp.get_ne])) hLr).mono ?_)
    rintro r H2 n3 hn3 ⟨sv, A', c, P', bs, rfl, V', rr', sm', hbs, hbsn, hfr2, hlow2⟩
    obtain ⟨R, P, hrd, rr, smm, e4⟩ := rdA_is hp.1 rr' sm'
    have V : VL H2 sv c R bs := V'.same e4
    clear V' rr' sm' e4
    have g0 : H2.get n = some ⟨1106, Kh, 38⟩ := by rw [hlow2 n (by omega)]; exact zH
    have lo2 : ∀ x, x < n → H2.get x = H.get x := fun x hx => by rw [hlow2 x (by omega)]; simp (disch := omega) only [Hp.get_ne]
    have hc8 := rr.d8
    have hRv : ∀ i x, i < c → x < 8 → N ≤ x → R i x = 0 := fun i x hi hx hnx => spn_vz (fun j y hj hy hny => (hvec j hj y hy).2 (by rw [hS.hn]; omega)) hx hnx (rr.res i hi) (smm.1 i hi)
    have hRz : ∀ x, x < 8 → N ≤ x → ∀ v, isRes h.p 8 v → spn h.p R c v → v x = 0 := fun x hx hnx v hv q => spn_vz hRv hx hnx hv q
    clear hlow2
    (refine zG ?_)
    refine RS.call rfl ((FnS.args (concs_cons (conc_arr (fun q hq => by first | rfl | (simp only [Nat.zero_add]; done) | (simp only [Nat.zero_add]; rfl))) rfl) (spec_l07Normal h N R c bs P sv Kh _ _ hS hisP hK hB huR V rr)).mono ?_)
    rintro r H2 n4 hn4 ⟨rfl, rfl⟩
    (refine zG ?_)
    refine zI ?_ ?_<;>intro h1
    · have hgd : ¬iogd h L k := fun z => h1 (by unfold iogd at z; rw [hrd, hN] at z; exact z)
      (refine zG ?_)
      exact ⟨.tup [.s .nils, i64 5], H2, rfl, Drops.refl _ _, ⟨.nils, by rw [k5_5 hq hgd], fun _ => rfl, fun z => absurd z.2 hgd⟩, fun x hx => hfr2 x (by omega), lo2⟩
    have hgd : iogd h L k := by unfold iogd; rw [hrd, hN]; exact h1
    have hUR : spn h.p R c h.u := h1.1.1
    (refine zG ?_)
    refine CS.weak (e1 := [(2, ptr n 0), (7, .s sv)]) (H1 := H2) (by (repeat first | exact trivial | refine And.intro rfl ?_)) (Drops.refl _ _) ?_
    have hbs4 : bs < n4 := by omega
    have frX : ∀ x, n4 ≤ x → H2.get x = none := fun x hx => hfr2 x (by omega)
    generalize H2 = HX at *
    refine CS.ordNt HX (Ext.refl _) ?_
    refine FT.mono (K := fun e' H' => ∃ v8 M e PM bM b9, EnvLe [(2, ptr n 0), (8, .s v8), (9, .s (.slc b9 0 0 0))] e' ∧ VL H' v8 e M bM ∧ RR h.p M e PM ∧ (∀ v, isRes h.p 8 v → (spn h.p M e v ↔ spn h.p R c v ∧ dotk h.p h.e v 8 = 0)) ∧ (∃ cc ty, H'.get b9 = some ⟨0 * 8, cc, ty⟩) ∧ bM ≠ b9 ∧ n4 ≤ bM ∧ n4 ≤ b9 ∧ ∀ x, x < n4 → H'.get x = HX.get x) ?_ ?_
    refine FT.seg rfl (ST.fa (by exact rfl) ?_)
    refine FT.seg rfl (ST.ld1 (by exact rfl) g0 (by (try dsimp only); omega) hk0 ?_)
    refine FT.seg rfl (ST.mov (by exact rfl) ?_)
    refine FT.seg rfl (ST.ldn (c := Kh) (by exact rfl) g0 (by (try dsimp only); omega) (by funext x; rw [Nat.zero_add]) ?_)
    refine FT.fork ?_ ?_
    · refine FT.seg rfl (ST.call (R := fun r H' => ∃ sv T d P b, r = .s sv ∧ VL H' sv d T b ∧ RR h.p T d P ∧ KER h.p (colf h.e) N T d ∧ HX.get b = none ∧ n4 ≤ b ∧ Ext HX H' ∧ ∀ x, x < n4 → H'.get x = HX.get x) rfl (fun n' h1 h2 => (FnS.args (concs_cons (conc_arr (fun q hq => by first | rfl | (simp only [Nat.zero_add]; done) | (simp only [Nat.zero_add]; rfl))) rfl) (spec_l07Augmentation h N Kh HX n' hS hisP hK heR)).mono (fun r H' _ _ q => by
        obtain ⟨sv, T, d, P, b, q1, q2, q3, q4, q5, q6, q7, q8⟩ := q
        have hEx : Ext HX H' := fun b k hb => by rw [q8 b (getlt h2 hb)]; exact hb
        exact ⟨⟨sv, T, d, P, b, q1, q2, q3, q4, h2 b q5, by omega, hEx, fun x hx => q8 x (by omega)⟩, (Ext.refl _).trans hEx⟩)) ?_)
      rintro r HA ⟨svT, T, dT, PT, bT, rfl, VT, rrT, kerT, gT, hbT, exT, loT⟩ hET
      have hdT := rrT.d8
      refine FT.fork ?_ ?_
      · refine FT.seg rfl (ST.call (R := fun r H' => ∃ sv M e P b, r = .s sv ∧ VL H' sv e M b ∧ RR h.p M e P ∧ (∀ v, isRes h.p 8 v → (spn h.p M e v ↔ spn h.p R c v ∧ spn h.p T dT v)) ∧ HA.get b = none ∧ n4 ≤ b ∧ Ext HA H' ∧ ∀ x, x < n4 → H'.get x = HA.get x) rfl (fun n' h1 h2 => (spec_l01Meet h.p R T c dT bs bT P PT sv svT HA n' hisP hc8 hdT ((V.keep (loT bs hbs4))) (VT) (fun i hi => rr.res i hi) rrT).mono (fun r H' _ _ q => by
          obtain ⟨sv, T, d, P, b, q1, q2, q3, q4, q5, q6, q7, q8⟩ := q
          have hEx : Ext HA H' := fun b k hb => by rw [q8 b (getlt h2 hb)]; exact hb
          exact ⟨⟨sv, T, d, P, b, q1, q2, q3, q4, h2 b q5, by omega, hEx, fun x hx => q8 x (by omega)⟩, hET.trans hEx⟩)) ?_)
        rintro r HB ⟨svM, M, e, PM, bM, rfl, VM, rrM, hMm, gM, hbM, exM, loM⟩ hEM
        refine FT.seg rfl (ST.mov (by exact rfl) ?_)
        refine FT.seg rfl (ST.bsl hEM rfl ?_)
        intro b9 hb9 hf9
        refine FT.seg rfl (ST.mov (by exact rfl) ?_)
        have hne : bM ≠ b9 := fun q => by
          have := VM.bound hf9
          omega
        exact FT.done ⟨svM, M, e, PM, bM, b9, by (repeat first | exact trivial | refine And.intro rfl ?_), VM.keep (Hp.get_ne _ _ (fun q => hne q.symm)), rrM, fun v hv => by rw [hMm v hv, kerT.aug hv]; exact ⟨fun q => ⟨q.1, q.2.2⟩, fun q => ⟨q.1, fun x hx hnx => hRz x hx hnx v hv q.1, q.2⟩⟩, ⟨_, _, Hp.get_eq _ _ _⟩, hne, hbM, hb9, fun x hx => by rw [Hp.get_ne _ _ (by omega), loM x hx, loT x hx]⟩
      · refine FT.seg rfl (ST.bsl hET rfl ?_)
        intro b9 hb9 hf9
        obtain ⟨HC, hHC⟩ : ∃ HC : Hp, HC = (b9, ⟨0 * 8, fun i => Zs.c [(8, SV.int .u8 0)] (i % 8), 32⟩) :: HA := ⟨_, rfl⟩
        rw [← hHC]
        have hEC : Ext HX HC := by rw [hHC]; exact hET.push _ (hf9 b9 (Nat.le_refl _))
        have loC : ∀ x, x < n4 → HC.get x = HX.get x := fun x hx => by rw [hHC, Hp.get_ne _ _ (by omega)]; exact loT x hx
        have g9 : HC.get b9 = some ⟨0 * 8, fun i => Zs.c [(8, SV.int .u8 0)] (i % 8), 32⟩ := by rw [hHC]; exact Hp.get_eq _ _ _
        have hTb := VT.bound hf9
        have VT' : VL HC svT dT T bT := VT.keep (by rw [hHC, Hp.get_ne _ _ (by omega)])
        refine FT.seg rfl (ST.call (R := fun r H' => ∃ sv M e P b, r = .s sv ∧ VL H' sv e M b ∧ RR h.p M e P ∧ (∀ v, isRes h.p 8 v → (spn h.p M e v ↔ spn h.p R c v ∧ spn h.p T dT v)) ∧ HC.get b = none ∧ n4 ≤ b ∧ Ext HC H' ∧ ∀ x, x < n4 → H'.get x = HC.get x) rfl (fun n' h1 h2 => (spec_l01Meet h.p R T c dT bs bT P PT sv svT HC n' hisP hc8 hdT ((V.keep (loC bs hbs4))) (VT') (fun i hi => rr.res i hi) rrT).mono (fun r H' _ _ q => by
          obtain ⟨sv, T, d, P, b, q1, q2, q3, q4, q5, q6, q7, q8⟩ := q
          have hEx : Ext HC H' := fun b k hb => by rw [q8 b (getlt h2 hb)]; exact hb
          exact ⟨⟨sv, T, d, P, b, q1, q2, q3, q4, h2 b q5, by omega, hEx, fun x hx => q8 x (by omega)⟩, hEC.trans hEx⟩)) ?_)
        rintro r HB ⟨svM, M, e, PM, bM, rfl, VM, rrM, hMm, gM, hbM, exM, loM⟩ hEM
        refine FT.seg rfl (ST.mov (by exact rfl) ?_)
        refine FT.seg rfl (ST.mov (by exact rfl) ?_)
        have hne : bM ≠ b9 := fun q => by rw [q, g9] at gM; cases gM
        exact FT.done ⟨svM, M, e, PM, bM, b9, by (repeat first | exact trivial | refine And.intro rfl ?_), VM, rrM, fun v hv => by rw [hMm v hv, kerT.aug hv]; exact ⟨fun q => ⟨q.1, q.2.2⟩, fun q => ⟨q.1, fun x hx hnx => hRz x hx hnx v hv q.1, q.2⟩⟩, ⟨_, _, exM _ _ g9⟩, hne, hbM, hb9, fun x hx => by rw [loM x hx, loC x hx]⟩
    · refine FT.seg rfl (ST.bsl (Ext.refl _) rfl ?_)
      intro b9 hb9 hf9
      obtain ⟨HC, hHC⟩ : ∃ HC : Hp, HC = (b9, ⟨0 * 8, fun i => Zs.c [(8, SV.int .u8 0)] (i % 8), 32⟩) :: HX := ⟨_, rfl⟩
      rw [← hHC]
      have hEC : Ext HX HC := by rw [hHC]; exact (Ext.refl _).push _ (hf9 b9 (Nat.le_refl _))
      have loC : ∀ x, x < n4 → HC.get x = HX.get x := fun x hx => by rw [hHC, Hp.get_ne _ _ (by omega)]
      have g9 : HC.get b9 = some ⟨0 * 8, fun i => Zs.c [(8, SV.int .u8 0)] (i % 8), 32⟩ := by rw [hHC]; exact Hp.get_eq _ _ _
      refine FT.seg rfl (ST.call (R := fun r H' => ∃ sv T d P b, r = .s sv ∧ VL H' sv d T b ∧ RR h.p T d P ∧ KER h.p (colf h.e) N T d ∧ HC.get b = none ∧ n4 ≤ b ∧ Ext HC H' ∧ ∀ x, x < n4 → H'.get x = HC.get x) rfl (fun n' h1 h2 => (FnS.args (concs_cons (conc_arr (fun q hq => by first | rfl | (simp only [Nat.zero_add]; done) | (simp only [Nat.zero_add]; rfl))) rfl) (spec_l07Augmentation h N Kh HC n' hS hisP hK heR)).mono (fun r H' _ _ q => by
        obtain ⟨sv, T, d, P, b, q1, q2, q3, q4, q5, q6, q7, q8⟩ := q
        have hEx : Ext HC H' := fun b k hb => by rw [q8 b (getlt h2 hb)]; exact hb
        exact ⟨⟨sv, T, d, P, b, q1, q2, q3, q4, h2 b q5, by omega, hEx, fun x hx => q8 x (by omega)⟩, hEC.trans hEx⟩)) ?_)
      rintro r HA ⟨svT, T, dT, PT, bT, rfl, VT, rrT, kerT, gT, hbT, exT, loT⟩ hET
      have hdT := rrT.d8
      refine FT.seg rfl (ST.call (R := fun r H' => ∃ sv M e P b, r = .s sv ∧ VL H' sv e M b ∧ RR h.p M e P ∧ (∀ v, isRes h.p 8 v → (spn h.p M e v ↔ spn h.p R c v ∧ spn h.p T dT v)) ∧ HA.get b = none ∧ n4 ≤ b ∧ Ext HA H' ∧ ∀ x, x < n4 → H'.get x = HA.get x) rfl (fun n' h1 h2 => (spec_l01Meet h.p R T c dT bs bT P PT sv svT HA n' hisP hc8 hdT ((V.keep (by rw [loT bs hbs4, loC bs hbs4]))) (VT) (fun i hi => rr.res i hi) rrT).mono (fun r H' _ _ q => by
        obtain ⟨sv, T, d, P, b, q1, q2, q3, q4, q5, q6, q7, q8⟩ := q
        have hEx : Ext HA H' := fun b k hb => by rw [q8 b (getlt h2 hb)]; exact hb
        exact ⟨⟨sv, T, d, P, b, q1, q2, q3, q4, h2 b q5, by omega, hEx, fun x hx => q8 x (by omega)⟩, hET.trans hEx⟩)) ?_)
      rintro r HB ⟨svM, M, e, PM, bM, rfl, VM, rrM, hMm, gM, hbM, exM, loM⟩ hEM
      refine FT.seg rfl (ST.mov (by exact rfl) ?_)
      refine FT.seg rfl (ST.mov (by exact rfl) ?_)
      have g9A := exT _ _ g9
      have hne : bM ≠ b9 := fun q => by rw [q, g9A] at gM; cases gM
      exact FT.done ⟨svM, M, e, PM, bM, b9, by (repeat first | exact trivial | refine And.intro rfl ?_), VM, rrM, fun v hv => by rw [hMm v hv, kerT.aug hv]; exact ⟨fun q => ⟨q.1, q.2.2⟩, fun q => ⟨q.1, fun x hx hnx => hRz x hx hnx v hv q.1, q.2⟩⟩, ⟨_, _, exM _ _ g9A⟩, hne, hbM, hb9, fun x hx => by rw [loM x hx, loT x hx, loC x hx]⟩
    rintro e' H5 ⟨v8, M, e, PM, bM, b9, hle, VM, rrM, hMm, ⟨cc, ty, g9⟩, hne, hbM, hb9, lo5⟩ n5 hn5 hlt5
    dsimp only [Ex.then, Ex.inBlock]
    refine CS.weak (H1 := H5) hle (Drops.refl _ _) ?_
    have hfr5 : ∀ x, n5 ≤ x → H5.get x = none := fun x hx => by
      cases e : H5.get x with
      | none => rfl
      | some k => exact absurd (hlt5 x k e) (by omega)
    have he8 := rrM.d8
    have t0 : H5.get n = some ⟨1106, Kh, 38⟩ := by rw [lo5 n (by omega)]; exact g0
    have hb95 := getlt hfr5 g9
    obtain ⟨oM, cM, KM, rfl, gM, hoM, hmM, hcM⟩ := VM
    have hbM5 := getlt hfr5 gM
    (refine zG ?_)
    refine CS.weak (e1 := [(10, i64 (((0 : Nat) : Int))), (2, ptr n 0), (8, .s (.slc bM oM e cM)), (9, .s (.slc b9 0 0 0))]) (H1 := H5) (by (repeat first | exact trivial | refine And.intro rfl ?_)) (Drops.refl _ _) ?_
    refine CS.loop (fun kx en H6 n6 => ∃ i v9 O d9 P9 bO, i ≤ e ∧ kx = e - i ∧ en = [(10, i64 ((i : Nat))), (2, ptr n 0), (8, .s (.slc bM oM e cM)), (9, .s v9)] ∧ VL H6 v9 d9 O bO ∧ RR h.p O d9 P9 ∧ same h.p O d9 (prl h.p h.m N M) (i * N) ∧ n ≤ bO ∧ bO < n6 ∧ bO ≠ bM ∧ bO ≠ n ∧ H6.get n = some ⟨1106, Kh, 38⟩ ∧ H6.get bM = some KM ∧ (∀ x, x < n → H6.get x = H.get x) ∧ ∀ x, n6 ≤ x → H6.get x = none) e ?_ ?_
    · exact ⟨0, _, fun _ _ => 0, 0, fun _ => 0, b9, by omega, rfl, rfl, ⟨0, 0, _, rfl, g9, by (try dsimp only); omega, Nat.le_refl _, fun i x hi => by omega⟩, RR.nil _ _ _, by rw [Nat.zero_mul]; exact same_nil _ _ _, by omega, hb95, fun q => hne q.symm, by omega, t0, gM, fun x hx => by rw [lo5 x (by omega)]; exact lo2 x hx, hfr5⟩
    rintro kx en H6 n6 hn6 ⟨i, v9, O, d9, P9, bO, hi, rfl, rfl, V9, rr9, sm9, hbO, hbOn, hbOM, hbOh, u0, uM, lo6, hfr6⟩
    have hbM6 := getlt hfr6 uM
    have hn6n := getlt hfr6 u0
    (refine zG ?_)
    refine zI ?_ ?_<;>intro h2
    · have hi' : i < e := by omega
      (refine zG ?_)
      refine CS.weak (e1 := [(11, i64 (((0 : Nat) : Int))), (10, i64 ((i : Nat))), (2, ptr n 0), (8, .s (.slc bM oM e cM)), (9, .s v9)]) (H1 := H6) (by (repeat first | exact trivial | refine And.intro rfl ?_)) (Drops.refl _ _) ?_
      refine CS.loop (fun kx en H7 n7 => ∃ j v9 O d9 P9 bO, j ≤ N ∧ kx = N - j ∧ en = [(11, i64 ((j : Nat))), (10, i64 ((i : Nat))), (2, ptr n 0), (8, .s (.slc bM oM e cM)), (9, .s v9)] ∧ VL H7 v9 d9 O bO ∧ RR h.p O d9 P9 ∧ same h.p O d9 (prl h.p h.m N M) (i * N + j) ∧ n ≤ bO ∧ bO < n7 ∧ bO ≠ bM ∧ bO ≠ n ∧ H7.get n = some ⟨1106, Kh, 38⟩ ∧ H7.get bM = some KM ∧ (∀ x, x < n → H7.get x = H.get x) ∧ ∀ x, n7 ≤ x → H7.get x = none) N ?_ ?_
      · exact ⟨0, v9, O, d9, P9, bO, by omega, rfl, rfl, V9, rr9, sm9, hbO, by omega, hbOM, hbOh, u0, uM, lo6, fun x hx => hfr6 x (by omega)⟩
      clear V9 rr9 sm9 hbO hbOn hbOM hbOh u0 uM lo6 hfr6
      rintro kx en H7 n7 hn7 ⟨j, v9, O, d9, P9, bO, hj, rfl, rfl, V9, rr9, sm9, hbO, hbOn, hbOM, hbOh, u0, uM, lo6, hfr6⟩
      have hbM6 := getlt hfr6 uM
      have hn6n := getlt hfr6 u0
      (refine zG ?_)
      refine zI ?_ ?_<;>intro h3
      · have hj' : j < N := by omega
        have e9 : ∀ q, q < 8 → KM.c (oM + i * 8 + q) = .int .u8 (M i q) := fun q hq => by rw [Nat.add_assoc]; exact hcM i q hi' hq
        have hMb : isBy 8 (M i) := isRes.by (rrM.res i hi') hp.2
        have eW : prl h.p h.m N M (i * N + j) = pr h.p h.m (bas j) (M i) N := by
          unfold prl
          rw [show (i * N + j) / N = i by rw [Nat.mul_comm, Nat.mul_add_div (by omega), Nat.div_eq_of_lt hj', Nat.add_zero], show (i * N + j) % N = j by rw [Nat.mul_comm, Nat.mul_add_mod, Nat.mod_eq_of_lt hj']]
        (refine zG ?_)
        refine CS.tailLo _ (List.Mem.head _) ?_; dsimp only [List.take, List.drop]
        (refine zG ?_)
        refine LS.callQ (.arr 522 Kh) rfl (fun n' hn' => FnS.args (concs_cons (conc_arr (fun q hq => by first | rfl | (simp only [Nat.zero_add]; done) | (simp only [Nat.zero_add]; rfl))) rfl) (spec_l03Algebra Kh h _ _ hK)) ?_
        (refine zG ?_)
        refine LS.callQ (.arr 8 (bys (bas j))) rfl (fun n' hn' => spec_l01Basis j _ _ (by omega)) ?_
        (refine zG ?_)
        refine LS.callQ (.arr 8 (bys (prl h.p h.m N M (i * N + j)))) rfl (fun n' hn' => by rw [eW]; exact FnS.args (concs_cons (conc_arr (fun q hq => by first | rfl | (simp only [Nat.zero_add]; done) | (simp only [Nat.zero_add]; rfl))) (concs_cons (conc_arr (fun q hq => by first | rfl | (simp only [Nat.zero_add]; done) | (simp only [Nat.zero_add]; rfl))) (concs_cons (conc_arr (fun q hq => by first | rfl | (simp only [Nat.zero_add]; done) | (simp only [Nat.zero_add]; rfl))) rfl))) (spec_l01Times h.p N h.m (bas j) (M i) Kh _ _ hp hN8 hk0 hk1' hK.m hB.m (isRes.by (bas_res hp.1 j 8) hp.2) hMb)) ?_
        (repeat first|refine zG ?_|(refine LS.nilQ ?_;try with_reducible intro nq hnq;try refine zU ?_))
        refine RS.call rfl ((spec_l01Put h.p O d9 bO P9 v9 (prl h.p h.m N M (i * N + j)) _ _ hisP V9 rr9 (by rw [eW]; exact pr_res hp.1 _ _ _ _ 8)).mono ?_)
        rintro r H8 n8 hn8 ⟨v10, O2, d10, P10, b10, rfl, V10, rr10, sm10, hb10, hb10n, hfr8, lo8⟩
        (refine zG ?_)
        exact ⟨N - (j + 1), [(11, i64 (((j + 1 : Nat) : Int))), (10, i64 ((i : Nat))), (2, ptr n 0), (8, .s (.slc bM oM e cM)), (9, .s v10)], H8, by omega, by (repeat first | exact trivial | refine And.intro rfl ?_), Drops.refl _ _, j + 1, v10, O2, d10, P10, b10, by omega, rfl, rfl, V10, rr10, same_put sm10 sm9, by rcases hb10 with e | e <;> omega, hb10n, by rcases hb10 with e | e <;> omega, by rcases hb10 with e | e <;> omega, by rw [lo8 n (by omega)]; exact u0, by rw [lo8 bM (by omega)]; exact uM, fun x hx => by rw [lo8 x (by omega)]; exact lo6 x hx, hfr8⟩
      obtain rfl : N = j := by omega
      (refine zG ?_)
      exact ⟨e - (i + 1), [(10, i64 (((i + 1 : Nat) : Int))), (2, ptr n 0), (8, .s (.slc bM oM e cM)), (9, .s v9)], H7, by omega, by (repeat first | exact trivial | refine And.intro rfl ?_), Drops.refl _ _, i + 1, v9, O, d9, P9, bO, by omega, rfl, rfl, V9, rr9, by rw [Nat.succ_mul]; exact sm9, hbO, hbOn, hbOM, hbOh, u0, uM, lo6, hfr6⟩
    obtain rfl : e = i := by omega
    (refine zG ?_)
    have hMz : ∀ i x, i < e → x < 8 → N ≤ x → M i x = 0 := fun i x hi hx hnx => hRz x hx hnx (M i) (rrM.res i hi) ((hMm _ (rrM.res i hi)).1 (spn_one hi)).1
    have sMV : Go.V.same h.p M e (ioV h R) c := aug_same hp.1 (fun i hi => rr.res i hi) (fun i hi => rrM.res i hi) hUR heu hMm
    have hVz : ∀ i x, i < c → x < 8 → N ≤ x → ioV h R i x = 0 := fun i x hi hx hnx => by
      unfold ioV pl
      rw [hRv i x hi hx hnx, hS.um x hx hnx, Int.mul_zero]; rfl
    have s9 : Go.V.same h.p O d9 (prl h.p h.m N (ioV h R)) (N * c) := by
      rw [Nat.mul_comm e N] at sm9
      exact ⟨sub_trans sm9.1 (sub_prl hN1 hN8 hMz hVz sMV.1), sub_trans (sub_prl hN1 hN8 hVz hMz sMV.2) sm9.2⟩
    obtain ⟨A1, P1, hr1, rr1, sm1, e1⟩ := rdA_is hp.1 rr9 s9
    have hio : ioA h L k = (A1, d9, P1) := by unfold ioA; rw [hrd, hN]; exact hr1
    exact ⟨.tup [.s v9, i64 0], H6, rfl, Drops.refl _ _, ⟨v9, by rw [k5_0 hq hgd], fun z => absurd ⟨hq, hgd⟩ z, fun _ => by rw [hio]; exact ⟨rr9.d8, bO, V9.same e1, hbO, hbOn⟩⟩, hfr6, lo6⟩
  · rw [cd_false hq]
    (refine zG ?_)
    exact ⟨.tup [.s .nils, i64 1], H, rfl, by exact zD, ⟨.nils, by rw [k5_1 hq], fun _ => rfl, fun z => absurd z.1 hq⟩, fun x hx => hf x (by omega), fun x hx => rfl⟩

end Go.Proofs.YtideblodkkgodaaGreat

/- Quotients of modules on the program's side: the places that are left, and the maps at them. -/
import Derived.Test.YtkmfdhicjaccaaaGreatJbq
import Derived.Test.YtkmfdhicjaccaaaGreatJbr
set_option linter.unusedSectionVars false
set_option linter.unusedVariables false
set_option linter.unusedSimpArgs false

namespace Go.V

set_option linter.unusedSimpArgs false

set_option linter.unusedVariables false

/-- The places before c that are no first ones. -/
noncomputable def frp (pl : Nat → Nat) (d : Nat) : Nat → Nat → Nat
  | 0 => fun _ => 0
  | c + 1 => if tb (∃ k, k < d ∧ pl k = c) = true then frp pl d c else fun k => if k = fre pl d c then c else frp pl d c k

theorem fre_yes {pl : Nat → Nat} {d c : Nat} (h : ∃ k, k < d ∧ pl k = c) : fre pl d (c + 1) = fre pl d c := by rw [fre_succ, if_pos (tb_true h)]; rfl

theorem fre_no {pl : Nat → Nat} {d c : Nat} (h : ¬∃ k, k < d ∧ pl k = c) : fre pl d (c + 1) = fre pl d c + 1 := by rw [fre_succ, if_neg (fun q => h (tb_eq.1 q))]

theorem frp_yes {pl : Nat → Nat} {d c : Nat} (h : ∃ k, k < d ∧ pl k = c) : frp pl d (c + 1) = frp pl d c := by
  show (if _ then _ else _) = _
  rw [if_pos (tb_true h)]

theorem frp_no {pl : Nat → Nat} {d c : Nat} (h : ¬∃ k, k < d ∧ pl k = c) : frp pl d (c + 1) = fun k => if k = fre pl d c then c else frp pl d c k := by
  show (if _ then _ else _) = _
  rw [if_neg (fun q => h (tb_eq.1 q))]

theorem frp_lt (pl : Nat → Nat) (d : Nat) : ∀ c k, k < fre pl d c → frp pl d c k < c
  | 0, k, h => by unfold fre at h; omega
  | c + 1, k, h => by
    rw [fre_succ] at h
    unfold frp
    by_cases e : tb (∃ k, k < d ∧ pl k = c) = true
    · rw [if_pos e] at h ⊢
      have := frp_lt pl d c k (by omega)
      omega
    · rw [if_neg e] at h ⊢
      (try dsimp only)
      by_cases e2 : k = fre pl d c
      · rw [if_pos e2]; omega
      · rw [if_neg e2]
        have := frp_lt pl d c k (by omega)
        omega

/-- The entries of v at some places. -/
def pck (v : Nat → Int) (pl : Nat → Nat) (k : Nat) : Nat → Int := fun j => if j < k then v (pl j) else 0

end Go.V

namespace Go.Proofs.YtkmfdhicjaccaaaGreat

open Go.V

variable [BW]

set_option linter.unusedSimpArgs false

set_option linter.unusedVariables false

set_option maxHeartbeats 4000000

/-- impl.others$1 -/
def ir69 : Cd := (.seq (.reg [⟨some 2,none,.box 31 (.t 0)⟩,⟨some 3,none,.mov (.c (.bool false))⟩]) (.seq (.drw true [] [⟨some 4,none,.ld (some 8) (.t 2)⟩,⟨some 5,none,.call 70 [(.t 4)]⟩,⟨some 6,none,.ld none (.t 1)⟩,⟨some 7,none,.bin .eql (.t 5) (.t 6)⟩,⟨some 3,none,.mov (.t 7)⟩]) .ret))

set_option maxRecDepth 100000 in
theorem tr69 : trFn Tryz.prog Tryz.f69 = some (8, ir69, [.tmp 3]) := by kernel_rfl

theorem impl_others_1 (w : Nat → Int) (c ib : Nat) (Ki : Blk) (H : Hp) (n : Nat) (hw : isBy 8 w) (hq : fsn w 8 < 8) (gi : H.get ib = some Ki) (si : Ki.size = 1) (ci : Ki.c 0 = .int .i64 (c : Nat)) :
    FnS Tryz.prog 69 [.arr 8 (bys w), ptr ib 0] H n (fun r H' _ => r = bl (tb (fsn w 8 = c)) ∧ H' = H) := by
  refine FnS.of_body Tryz.func69 tr69 (by simp) (fun hf => ?_)
  dsimp only [argEnv]
  unfold ir69
  have h1 := getlt hf gi
  (repeat first|refine zG ?_|(refine LS.nilO ?_;intro nq hnq hltq;try refine zU ?_)|(refine MS.new ?_;intro bq hbq hbqf;try refine zU ?_)|(refine MS.nil ?_;intro nq hnq hltq;have hlq:=hltq _ _ (Hp.get_eq _ _ _);clear hltq;try refine zU ?_)|(refine LS.nilQ ?_;try with_reducible intro nq hnq;try refine zU ?_))
  refine LS.callQ (i64 (fsn w 8 : Nat)) rfl (fun n' hn' => impl_lead w _ _ hw hq) ?_
  (repeat first|refine zG ?_|(refine LS.nilO ?_;intro nq hnq hltq;try refine zU ?_)|(refine MS.new ?_;intro bq hbq hbqf;try refine zU ?_)|(refine MS.nil ?_;intro nq hnq hltq;have hlq:=hltq _ _ (Hp.get_eq _ _ _);clear hltq;try refine zU ?_)|(refine LS.nilQ ?_;try with_reducible intro nq hnq;try refine zU ?_))
  refine ⟨_, H, rfl, by exact zD, ?_, rfl⟩
  rw [tb_dec]
  have e : ((fsn w 8 : Int) == (c : Int)) = decide (fsn w 8 = c) := by
    rw [Bool.eq_iff_iff]
    simp only [beq_iff_eq, decide_eq_true_eq]
    omega
  exact congrArg (fun b => AV.s (SV.bool b)) e

/-- impl.others -/
def ir33 : Cd := (.seq (.reg [⟨some 4,none,.mov (.c .nils)⟩]) (.seq (.reg [⟨some 7,none,.bsl 3 0 1 [(1,(.int .i64 0))] []⟩,⟨some 5,none,.mov (.t 7)⟩]) (.seq (.seq (.reg [⟨some 8,none,.mov (.t 0)⟩,⟨some 9,none,.mov (.c (.int .i64 0))⟩]) (.block 0 (.loop (.seq (.reg [⟨some 10,none,.bin .lss (.t 9) (.t 8)⟩]) (.seq (.cond (.t 10) .skip (.exit 0)) (.seq (.block 1 (.seq (.reg [⟨some 11,none,.mov (.t 9)⟩,⟨some 6,none,.new 3 [(1,(.int .i64 0))]⟩,⟨none,none,.st 1 (.t 6) (.t 11)⟩]) (.seq (.reg [⟨some 12,none,.mov (.t 1)⟩,⟨some 13,none,.mkf 69 [] [(.t 6)]⟩,⟨some 14,none,.call 63 [(.t 12),(.t 13)]⟩,⟨some 15,none,.un .not (.t 14)⟩]) (.cond (.t 15) (.reg [⟨some 16,none,.mov (.t 5)⟩,⟨some 17,none,.ld none (.t 6)⟩,⟨some 18,none,.bsl 3 1 1 [(1,(.int .i64 0))] [(0,1,(.t 17))]⟩,⟨some 19,none,.app 3 1 8 [(1,(.int .i64 0))] (.t 16) (.t 18)⟩,⟨some 5,none,.mov (.t 19)⟩]) .skip)))) (.reg [⟨some 20,none,.bin .add (.t 9) (.c (.int .i64 1))⟩,⟨some 9,none,.mov (.t 20)⟩]))))))) (.seq (.reg [⟨some 21,none,.mov (.t 5)⟩,⟨some 4,none,.mov (.t 21)⟩]) .ret))))

set_option maxRecDepth 100000 in
theorem tr33 : trFn Tryz.prog Tryz.f33 = some (22, ir33, [.tmp 4]) := by kernel_rfl

theorem impl_others (a m b : Nat) (A : Nat → Nat → Int) (P : Nat → Nat) (p : Int) (sv : SV) (H : Hp) (n : Nat) (hp : 2 ≤ p ∧ p ≤ 31) (ha : a ≤ 8) (hV : VL H sv m A b) (hR : RR p A m P) :
    FnS Tryz.prog 33 [i64 (a : Nat), .s sv] H n (fun r H' n' => ∃ pv pb, r = .s pv ∧ SL H' pv (fre P m a) (fun k => .int .i64 (frp P m a k : Nat)) pb ∧ n ≤ pb ∧ pb < n' ∧ (∀ x, n' ≤ x → H'.get x = none) ∧ ∀ x, x < n → H'.get x = H.get x) := by
  have hm8 := hR.d8
  refine FnS.of_body Tryz.func33 tr33 (by simp) (fun hf => ?_)
  dsimp only [argEnv]
  unfold ir33
  have hbb := hV.bound hf
  (repeat first|refine zG ?_|(refine LS.nilO ?_;intro nq hnq hltq;try refine zU ?_)|(refine MS.new ?_;intro bq hbq hbqf;try refine zU ?_)|(refine MS.nil ?_;intro nq hnq hltq;have hlq:=hltq _ _ (Hp.get_eq _ _ _);clear hltq;try refine zU ?_)|(refine LS.nilQ ?_;try with_reducible intro nq hnq;try refine zU ?_))
  refine CS.weak (e1 := [(9, i64 ((0 : Nat) : Int)), (8, i64 (a : Nat)), (1, .s sv), (5, .s (.slc n 0 0 0))]) (by (repeat first | exact trivial | refine And.intro rfl ?_)) (Drops.refl _ _) ?_
  refine CS.loop (fun k e H1 n1 => ∃ c v5 b5, c ≤ a ∧ k = a - c ∧ e = [(9, i64 (c : Nat)), (8, i64 (a : Nat)), (1, .s sv), (5, .s v5)] ∧ SL H1 v5 (fre P m c) (fun k => .int .i64 (frp P m c k : Nat)) b5 ∧ n ≤ b5 ∧ b5 < n1 ∧ (∀ x, x < n → H1.get x = H.get x) ∧ ∀ x, n1 ≤ x → H1.get x = none) a ?_ ?_
  · exact ⟨0, _, n, by omega, rfl, rfl, .inr ⟨0, 0, _, rfl, Hp.get_eq _ _ _, by simp, by unfold fre; omega, fun i hi => by unfold fre at hi; omega⟩, by omega, by omega, fun x hx => Hp.get_ne _ _ (by omega), fun x hx => by rw [Hp.get_ne _ _ (by omega)]; exact hf x (by omega)⟩
  rintro k e H1 n1 hn1 ⟨c, v5, b5, hc, rfl, rfl, hS, hb5, hb5n, hlow, hfr⟩
  have hfl := fre_le P m c
  (repeat first|refine zG ?_|(refine LS.nilO ?_;intro nq hnq hltq;try refine zU ?_)|(refine MS.new ?_;intro bq hbq hbqf;try refine zU ?_)|(refine MS.nil ?_;intro nq hnq hltq;have hlq:=hltq _ _ (Hp.get_eq _ _ _);clear hltq;try refine zU ?_)|(refine LS.nilQ ?_;try with_reducible intro nq hnq;try refine zU ?_))
  refine zI ?_ ?_<;>intro h1
  · have hc' : c < a := by omega
    have hV1 : VL H1 sv m A b := hV.keep (hlow b hbb)
    (repeat first|refine zG ?_|(refine LS.nilO ?_;intro nq hnq hltq;try refine zU ?_)|(refine MS.new ?_;intro bq hbq hbqf;try refine zU ?_)|(refine MS.nil ?_;intro nq hnq hltq;have hlq:=hltq _ _ (Hp.get_eq _ _ _);clear hltq;try refine zU ?_)|(refine LS.nilQ ?_;try with_reducible intro nq hnq;try refine zU ?_))
    refine RS.call rfl ((slices_ContainsFunc (fun i => fsn (A i) 8 = c) 69 [.ptr n1 0] sv m (by omega) (fun q => A (q / 8) (q % 8)) _ _ ((hV1.keep (by simp (disch := omega) only [Hp.get_ne])).lst) (fun i n' hi hn' =>
      FnS.args (concs_cons (conc_arr (fun q hq => by show SV.int .u8 (A ((i * 8 + q) / 8) ((i * 8 + q) % 8)) = _; rw [VL.row A i q hq]; rfl)) rfl) (impl_others_1 (A i) c n1 _ _ _ (isRes.by (hR.res i hi) hp.2) (by rw [hR.fsn hi]; exact hR.lt i hi) (by exact zH) rfl rfl))).mono ?_)
    rintro r H' n2 hn2 ⟨rfl, rfl⟩
    have e1 : (∃ i, i < m ∧ fsn (A i) 8 = c) ↔ ∃ k, k < m ∧ P k = c := ⟨fun ⟨i, h1, h2⟩ => ⟨i, h1, by rw [← hR.fsn h1]; exact h2⟩, fun ⟨i, h1, h2⟩ => ⟨i, h1, by rw [hR.fsn h1]; exact h2⟩⟩
    rw [tb_iff e1]
    have hb1 : n1 < n2 := by omega
    (repeat first|refine zG ?_|(refine LS.nilO ?_;intro nq hnq hltq;try refine zU ?_)|(refine MS.new ?_;intro bq hbq hbqf;try refine zU ?_)|(refine MS.nil ?_;intro nq hnq hltq;have hlq:=hltq _ _ (Hp.get_eq _ _ _);clear hltq;try refine zU ?_)|(refine LS.nilQ ?_;try with_reducible intro nq hnq;try refine zU ?_))
    refine zI ?_ ?_<;>intro h4
    · (repeat first|refine zG ?_|(refine LS.nilO ?_;intro nq hnq hltq;try refine zU ?_)|(refine MS.new ?_;intro bq hbq hbqf;try refine zU ?_)|(refine MS.nil ?_;intro nq hnq hltq;have hlq:=hltq _ _ (Hp.get_eq _ _ _);clear hltq;try refine zU ?_)|(refine LS.nilQ ?_;try with_reducible intro nq hnq;try refine zU ?_))
      refine RS.appS (w := .int .i64 (c : Nat)) (b2 := n2) (by exact rfl) (by exact rfl) (hS.keep (by simp (disch := omega) only [Hp.get_ne])) (Hp.get_eq _ _ _) rfl rfl (by omega) (by omega) (by omega) ?_
      intro vB bB HB nB hSB0 hbB hltB hnB hnB' hgB
      have hSB : SL HB vB (fre P m (c + 1)) (fun k => .int .i64 (frp P m (c + 1) k : Nat)) bB := by
        rw [fre_no h4, frp_no h4]
        refine hSB0.same (fun k hk => ?_)
        unfold snS
        (try dsimp only)
        by_cases e : k = fre P m c
        · rw [if_pos e, if_pos e]
        · rw [if_neg e, if_neg e]
      (repeat first|refine zG ?_|(refine LS.nilO ?_;intro nq hnq hltq;try refine zU ?_)|(refine MS.new ?_;intro bq hbq hbqf;try refine zU ?_)|(refine MS.nil ?_;intro nq hnq hltq;have hlq:=hltq _ _ (Hp.get_eq _ _ _);clear hltq;try refine zU ?_)|(refine LS.nilQ ?_;try with_reducible intro nq hnq;try refine zU ?_))
      exact ⟨a - (c + 1), [(9, i64 ((c + 1 : Nat) : Int)), (8, i64 (a : Nat)), (1, .s sv), (5, .s vB)], HB, by omega, by (repeat first | exact trivial | refine And.intro rfl ?_), Drops.refl _ _, c + 1, vB, bB, by omega, rfl, rfl, hSB, by rcases hbB with q | q <;> omega, by omega, fun x hx => by rw [hgB x (by rcases hbB with q | q <;> omega), Hp.get_ne _ _ (by omega), Hp.get_ne _ _ (by omega)]; exact hlow x hx, fun x hx => by rw [hgB x (by omega), Hp.get_ne _ _ (by omega), Hp.get_ne _ _ (by omega)]; exact hfr x (by omega)⟩
    · (repeat first|refine zG ?_|(refine LS.nilO ?_;intro nq hnq hltq;try refine zU ?_)|(refine MS.new ?_;intro bq hbq hbqf;try refine zU ?_)|(refine MS.nil ?_;intro nq hnq hltq;have hlq:=hltq _ _ (Hp.get_eq _ _ _);clear hltq;try refine zU ?_)|(refine LS.nilQ ?_;try with_reducible intro nq hnq;try refine zU ?_))
      exact ⟨a - (c + 1), [(9, i64 ((c + 1 : Nat) : Int)), (8, i64 (a : Nat)), (1, .s sv), (5, .s v5)], H1, by omega, by (repeat first | exact trivial | refine And.intro rfl ?_), Drops.drop (by omega) (hfr n1 (Nat.le_refl _)) (Drops.refl _ _), c + 1, v5, b5, by omega, rfl, rfl, by rw [fre_yes h4, frp_yes h4]; exact hS, hb5, by omega, hlow, fun x hx => hfr x (by omega)⟩
  · obtain rfl : a = c := by omega
    (repeat first|refine zG ?_|(refine LS.nilO ?_;intro nq hnq hltq;try refine zU ?_)|(refine MS.new ?_;intro bq hbq hbqf;try refine zU ?_)|(refine MS.nil ?_;intro nq hnq hltq;have hlq:=hltq _ _ (Hp.get_eq _ _ _);clear hltq;try refine zU ?_)|(refine LS.nilQ ?_;try with_reducible intro nq hnq;try refine zU ?_))
    exact ⟨.s v5, H1, rfl, Drops.refl _ _, v5, b5, rfl, hS, hb5, hb5n, hfr, hlow⟩

end Go.Proofs.YtkmfdhicjaccaaaGreat

/- Quotients of modules on the program's side: picked entries, codes of vectors, the quotient. -/

namespace Go.V

set_option linter.unusedSimpArgs false

set_option linter.unusedVariables false

theorem pck_step (v : Nat → Int) (pl : Nat → Nat) (i q : Nat) : put1 (bys (pck v pl i)) i (.int .u8 (v (pl i))) q = bys (pck v pl (i + 1)) q := by
  unfold put1 bys pck
  (try dsimp only)
  by_cases e : q = i
  · rw [if_pos e, if_pos (by omega), e]
  · rw [if_neg e]
    by_cases e2 : q < i
    · rw [if_pos e2, if_pos (by omega)]
    · rw [if_neg e2, if_neg (by omega)]

/-- A list of vectors, or no list. -/
def VN (H : Hp) (v : SV) (m : Nat) (I : Nat → Nat → Int) (b : Nat) : Prop := (v = .nils ∧ m = 0) ∨ VL H v m I b

theorem VN.keep {H H' : Hp} {v : SV} {m : Nat} {I : Nat → Nat → Int} {b : Nat} (h : VN H v m I b) (hg : H'.get b = H.get b) : VN H' v m I b := by
  rcases h with h | h
  · exact .inl h
  · exact .inr (h.keep hg)

theorem VN.lst {H : Hp} {v : SV} {m : Nat} {I : Nat → Nat → Int} {b : Nat} (h : VN H v m I b) : lst H v m (fun q => I (q / 8) (q % 8)) := by
  rcases h with ⟨rfl, rfl⟩ | h
  · exact .inl ⟨rfl, rfl⟩
  · exact VL.lst h

end Go.V

namespace Go.Proofs.YtkmfdhicjaccaaaGreat

open Go.V

variable [BW]

set_option linter.unusedSimpArgs false

set_option linter.unusedVariables false

set_option maxHeartbeats 4000000

/-- impl.picked -/
def ir35 : Cd := (.seq (.reg [⟨some 2,none,.box 31 (.t 0)⟩,⟨some 4,none,.new 31 [(8,(.int .u8 0))]⟩]) (.seq (.reg [⟨some 8,none,.build 8 [(8,(.int .u8 0))] []⟩,⟨some 5,none,.new 31 [(8,(.int .u8 0))]⟩,⟨none,none,.st 8 (.t 5) (.t 8)⟩]) (.seq (.seq (.reg [⟨some 9,none,.mov (.t 1)⟩,⟨some 10,none,.len (.t 9)⟩,⟨some 11,none,.mov (.c (.int .i64 0))⟩]) (.block 0 (.loop (.seq (.reg [⟨some 12,none,.bin .lss (.t 11) (.t 10)⟩]) (.seq (.cond (.t 12) .skip (.exit 0)) (.seq (.block 1 (.seq (.reg [⟨some 13,none,.mov (.t 11)⟩,⟨some 14,none,.isl 1 (.t 9) (.t 11)⟩,⟨some 15,none,.ld none (.t 14)⟩,⟨some 6,none,.mov (.t 13)⟩,⟨some 7,none,.mov (.t 15)⟩]) (.reg [⟨some 16,none,.mov (.t 6)⟩,⟨some 17,none,.mov (.t 7)⟩,⟨some 18,none,.ia 8 1 (.t 2) (.t 17)⟩,⟨some 19,none,.ld none (.t 18)⟩,⟨some 20,none,.ia 8 1 (.t 5) (.t 16)⟩,⟨none,none,.st 1 (.t 20) (.t 19)⟩]))) (.reg [⟨some 21,none,.bin .add (.t 11) (.c (.int .i64 1))⟩,⟨some 11,none,.mov (.t 21)⟩]))))))) (.seq (.reg [⟨some 22,none,.ld (some 8) (.t 5)⟩,⟨none,none,.st 8 (.t 4) (.t 22)⟩]) .ret))))

set_option maxRecDepth 100000 in
theorem tr35 : trFn Tryz.prog Tryz.f35 = some (23, ir35, [.cell (some 8) 4]) := by kernel_rfl

theorem impl_picked (v : Nat → Int) (pl : Nat → Nat) (k pb : Nat) (pv : SV) (H : Hp) (n : Nat) (hk : k ≤ 8) (hv : isBy 8 v) (hS : SL H pv k (fun j => .int .i64 (pl j : Nat)) pb) (hpl : ∀ j, j < k → pl j < 8) (hpb : pb < n) :
    FnS Tryz.prog 35 [.arr 8 (bys v), .s pv] H n (fun r H' _ => r = .arr 8 (bys (pck v pl k)) ∧ H' = H) := by
  refine FnS.of_body Tryz.func35 tr35 (by simp) (fun hf => ?_)
  dsimp only [argEnv]
  unfold ir35
  (repeat first|refine zG ?_|(refine LS.nilO ?_;intro nq hnq hltq;try refine zU ?_)|(refine MS.new ?_;intro bq hbq hbqf;try refine zU ?_)|(refine MS.nil ?_;intro nq hnq hltq;have hlq:=hltq _ _ (Hp.get_eq _ _ _);clear hltq;try refine zU ?_)|(refine LS.nilQ ?_;try with_reducible intro nq hnq;try refine zU ?_))
  refine RS.lenSL (by exact rfl) (hS.keep (H' := _) (by simp (disch := omega) only [Hp.get_ne])) ?_
  (repeat first|refine zG ?_|(refine LS.nilO ?_;intro nq hnq hltq;try refine zU ?_)|(refine MS.new ?_;intro bq hbq hbqf;try refine zU ?_)|(refine MS.nil ?_;intro nq hnq hltq;have hlq:=hltq _ _ (Hp.get_eq _ _ _);clear hltq;try refine zU ?_)|(refine LS.nilQ ?_;try with_reducible intro nq hnq;try refine zU ?_))
  refine CS.iter k (fun i => [(11, i64 (i : Nat)), (10, i64 (k : Nat)), (9, .s pv), (5, ptr (n + 2) 0), (4, ptr (n + 1) 0), (2, ptr n 0)])
    (fun i => (n + 2, ⟨8, bys (pck v pl i), 31⟩) :: (n + 1, ⟨8, Zs.c [(8, SV.int .u8 0)], 31⟩) :: (n, ⟨8, bys v, 31⟩) :: H) (fun _ => True) (by (repeat first | exact trivial | refine And.intro rfl ?_))
    (Drops.keepc rfl rfl (fun q hq => ?_) (Drops.keepc rfl rfl (fun _ _ => rfl) (Drops.refl _ _))) trivial ?_
  · rcases (show q = 0 ∨ q = 1 ∨ q = 2 ∨ q = 3 ∨ q = 4 ∨ q = 5 ∨ q = 6 ∨ q = 7 by (simp only [Zs.size] at hq; omega)) with rfl | rfl | rfl | rfl | rfl | rfl | rfl | rfl <;> rfl
  intro i n1 hi hn _
  (repeat first|refine zG ?_|(refine LS.nilO ?_;intro nq hnq hltq;try refine zU ?_)|(refine MS.new ?_;intro bq hbq hbqf;try refine zU ?_)|(refine MS.nil ?_;intro nq hnq hltq;have hlq:=hltq _ _ (Hp.get_eq _ _ _);clear hltq;try refine zU ?_)|(refine LS.nilQ ?_;try with_reducible intro nq hnq;try refine zU ?_))
  refine zI ?_ ?_<;>intro h1
  · have hi' : i < k := by omega
    rcases hS with ⟨_, q0⟩ | ⟨po, pcap, kp, rfl, gp, sp, pm, cq⟩
    · omega
    have pc1 : kp.c (po + i * 1) = .int .i64 (pl i : Nat) := by rw [Nat.mul_one]; exact cq i hi'
    have hPi := hpl i hi'
    have hvi := hv (pl i) hPi
    have hr1 : (bys v) (pl i) = .int .u8 (v (pl i)) := rfl
    (repeat first|refine zG ?_|(refine LS.nilO ?_;intro nq hnq hltq;try refine zU ?_)|(refine MS.new ?_;intro bq hbq hbqf;try refine zU ?_)|(refine MS.nil ?_;intro nq hnq hltq;have hlq:=hltq _ _ (Hp.get_eq _ _ _);clear hltq;try refine zU ?_)|(refine LS.nilQ ?_;try with_reducible intro nq hnq;try refine zU ?_))
    exact ⟨by omega, by (repeat first | exact trivial | refine And.intro rfl ?_), Drops.keepc rfl rfl (fun q hq => pck_step v pl i q) (Drops.refl _ _), trivial⟩
  · obtain rfl : k = i := by omega
    (repeat first|refine zG ?_|(refine LS.nilO ?_;intro nq hnq hltq;try refine zU ?_)|(refine MS.new ?_;intro bq hbq hbqf;try refine zU ?_)|(refine MS.nil ?_;intro nq hnq hltq;have hlq:=hltq _ _ (Hp.get_eq _ _ _);clear hltq;try refine zU ?_)|(refine LS.nilQ ?_;try with_reducible intro nq hnq;try refine zU ?_))
    exact ⟨.arr 8 (bys (pck v pl k)), H, conc_arr (fun q hq => by first | rfl | (simp only [Nat.zero_add]; done) | (simp only [Nat.zero_add]; rfl)), by exact zD, rfl, rfl⟩

/-- (*impl.Module).vectorsCode$1 -/
def ir64 : Cd := (.seq (.reg [⟨some 3,none,.box 31 (.t 0)⟩,⟨some 4,none,.mov (.c (.bool false))⟩]) (.seq (.drw true [9] [⟨some 5,none,.ld none (.t 1)⟩,⟨some 6,none,.ck (.t 5)⟩,⟨some 7,none,.fa 0 (.t 6)⟩,⟨some 8,none,.ld none (.t 7)⟩,⟨some 9,none,.ld none (.t 2)⟩,⟨some 10,none,.ck (.t 9)⟩,⟨some 11,none,.fa 0 (.t 10)⟩,⟨some 12,none,.ld none (.t 11)⟩,⟨some 13,none,.ld (some 8) (.t 3)⟩,⟨some 14,none,.call 65 [(.t 8),(.t 12),(.t 13)]⟩,⟨some 15,none,.un .not (.t 14)⟩,⟨some 4,none,.mov (.t 15)⟩]) .ret))

set_option maxRecDepth 100000 in
theorem tr64 : trFn Tryz.prog Tryz.f64 = some (16, ir64, [.tmp 4]) := by kernel_rfl

theorem Module_vectorsCode_1 (p d : Int) (w : Nat → Int) (hx mx bh bm : Nat) (Khx Kmx Kh Km : Blk) (H : Hp) (n : Nat) (hw : isBy 8 w) (gx : H.get hx = some Khx) (sx : Khx.size = 1) (cx : Khx.c 0 = .ptr bh 0) (gy : H.get mx = some Kmx) (sy : Kmx.size = 1) (cy : Kmx.c 0 = .ptr bm 0)
    (gh : H.get bh = some Kh) (sh : Kh.size = 1106) (kp : Kh.c 0 = .int .i64 p) (gm : H.get bm = some Km) (sm : Km.size = 513) (km : Km.c 0 = .int .i64 d) :
    FnS Tryz.prog 64 [.arr 8 (bys w), ptr hx 0, ptr mx 0] H n (fun r H' _ => r = bl (tb (¬(sz p d ∧ isVec p d w))) ∧ H' = H) := by
  refine FnS.of_body Tryz.func64 tr64 (by simp) (fun hf => ?_)
  dsimp only [argEnv]
  unfold ir64
  have h1 := getlt hf gx
  have h2 := getlt hf gy
  have h3 := getlt hf gh
  have h4 := getlt hf gm
  (repeat first|refine zG ?_|(refine LS.nilO ?_;intro nq hnq hltq;try refine zU ?_)|(refine MS.new ?_;intro bq hbq hbqf;try refine zU ?_)|(refine MS.nil ?_;intro nq hnq hltq;have hlq:=hltq _ _ (Hp.get_eq _ _ _);clear hltq;try refine zU ?_)|(refine LS.nilQ ?_;try with_reducible intro nq hnq;try refine zU ?_))
  refine RS.call rfl ((impl_IsVector p d w _ _ hw).mono ?_)
  rintro r H' n2 hn2 ⟨rfl, rfl⟩
  (repeat first|refine zG ?_|(refine LS.nilO ?_;intro nq hnq hltq;try refine zU ?_)|(refine MS.new ?_;intro bq hbq hbqf;try refine zU ?_)|(refine MS.nil ?_;intro nq hnq hltq;have hlq:=hltq _ _ (Hp.get_eq _ _ _);clear hltq;try refine zU ?_)|(refine LS.nilQ ?_;try with_reducible intro nq hnq;try refine zU ?_))
  exact ⟨_, H, rfl, by exact zD, by rw [tb_not], rfl⟩

/-- (*impl.Module).vectorsCode -/
def ir30 : Cd := (.seq (.reg [⟨some 3,none,.box 67 (.t 0)⟩,⟨some 4,none,.box 66 (.t 1)⟩,⟨some 6,none,.mov (.c (.int .i64 0))⟩]) (.seq (.reg [⟨some 7,none,.mov (.t 2)⟩,⟨some 8,none,.mkf 64 [] [(.t 4),(.t 3)]⟩,⟨some 9,none,.call 63 [(.t 7),(.t 8)]⟩,⟨some 10,none,.un .not (.t 9)⟩,⟨some 11,none,.call 62 [(.t 10),(.c (.int .i64 1))]⟩,⟨some 6,none,.mov (.t 11)⟩]) .ret))

set_option maxRecDepth 100000 in
theorem tr30 : trFn Tryz.prog Tryz.f30 = some (12, ir30, [.tmp 6]) := by kernel_rfl

theorem Module_vectorsCode (p d : Int) (L : Nat → Nat → Int) (k lb bh bm : Nat) (lv : SV) (Kh Km : Blk) (H : Hp) (n : Nat) (hk : k ≤ 4000000) (hL : VN H lv k L lb) (h1 : lb < n) (hLb : ∀ i, i < k → isBy 8 (L i)) (gh : H.get bh = some Kh) (sh : Kh.size = 1106) (kp : Kh.c 0 = .int .i64 p) (gm : H.get bm = some Km) (sm : Km.size = 513) (km : Km.c 0 = .int .i64 d) :
    FnS Tryz.prog 30 [ptr bm 0, ptr bh 0, .s lv] H n (fun r H' _ => r = i64 (cd (∀ i, i < k → sz p d ∧ isVec p d (L i))) ∧ H' = H) := by
  refine FnS.of_body Tryz.func30 tr30 (by simp) (fun hf => ?_)
  dsimp only [argEnv]
  unfold ir30
  have h3 := getlt hf gh
  have h4 := getlt hf gm
  (repeat first|refine zG ?_|(refine LS.nilO ?_;intro nq hnq hltq;try refine zU ?_)|(refine MS.new ?_;intro bq hbq hbqf;try refine zU ?_)|(refine MS.nil ?_;intro nq hnq hltq;have hlq:=hltq _ _ (Hp.get_eq _ _ _);clear hltq;try refine zU ?_)|(refine LS.nilQ ?_;try with_reducible intro nq hnq;try refine zU ?_))
  refine RS.call rfl ((slices_ContainsFunc (fun i => ¬(sz p d ∧ isVec p d (L i))) 64 [.ptr (n + 1) 0, .ptr n 0] lv k hk (fun q => L (q / 8) (q % 8)) _ _ ((hL.keep (by simp (disch := omega) only [Hp.get_ne])).lst) (fun i n' hi hn' =>
    FnS.args (concs_cons (conc_arr (fun q hq => by show SV.int .u8 (L ((i * 8 + q) / 8) ((i * 8 + q) % 8)) = _; rw [VL.row L i q hq]; rfl)) rfl) (Module_vectorsCode_1 p d (L i) (n + 1) n bh bm _ _ Kh Km _ _ (hLb i hi) (by exact zH) rfl rfl (by exact zH) rfl rfl (by exact zH) sh kp (by exact zH) sm km))).mono ?_)
  rintro r H' n2 hn2 ⟨rfl, rfl⟩
  (repeat first|refine zG ?_|(refine LS.nilO ?_;intro nq hnq hltq;try refine zU ?_)|(refine MS.new ?_;intro bq hbq hbqf;try refine zU ?_)|(refine MS.nil ?_;intro nq hnq hltq;have hlq:=hltq _ _ (Hp.get_eq _ _ _);clear hltq;try refine zU ?_)|(refine LS.nilQ ?_;try with_reducible intro nq hnq;try refine zU ?_))
  have e1 : (!tb (∃ i, i < k ∧ ¬(sz p d ∧ isVec p d (L i)))) = tb (∀ i, i < k → sz p d ∧ isVec p d (L i)) := by
    rw [tb_not]
    exact tb_iff ⟨fun q i hi => Classical.byContradiction fun h1 => q ⟨i, hi, h1⟩, fun q ⟨i, hi, h1⟩ => h1 (q i hi)⟩
  rw [e1]
  refine RS.call rfl ((impl_unless _ _ _).mono ?_)
  rintro r H' n3 hn3 ⟨rfl, rfl⟩
  (repeat first|refine zG ?_|(refine LS.nilO ?_;intro nq hnq hltq;try refine zU ?_)|(refine MS.new ?_;intro bq hbq hbqf;try refine zU ?_)|(refine MS.nil ?_;intro nq hnq hltq;have hlq:=hltq _ _ (Hp.get_eq _ _ _);clear hltq;try refine zU ?_)|(refine LS.nilQ ?_;try with_reducible intro nq hnq;try refine zU ?_))
  exact ⟨_, H, rfl, by exact zD, rfl, rfl⟩

end Go.Proofs.YtkmfdhicjaccaaaGreat

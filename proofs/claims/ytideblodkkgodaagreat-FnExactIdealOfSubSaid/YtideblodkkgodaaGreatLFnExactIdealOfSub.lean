/-
  It is proved that FnExactIdealOfSub returns true for every input, and that each argument reads afterwards as it read before.
  Conditions: none beyond those of the given statement.
-/
import Derived.Test.YtideblodkkgodaaGreatRows
import Derived.Test.YtideblodkkgodaaGreatJby
import Derived.Test.YtideblodkkgodaaGreatJam
namespace Go.Proofs.YtideblodkkgodaaGreat.fnExactIdealOfSub
open Go.ChangeShapes Go.WideShapes Go.ChangeAt Go.RowKit Go.V
set_option linter.unusedVariables false
set_option linter.unusedSimpArgs false

theorem own : ownKnob Tryz.prog.godebug = none := by kernel_rfl
theorem flat26 : flatK Tryz.prog 6 26 = some (.i64 :: .i64 :: List.replicate 1104 .u8) := by kernel_rfl
theorem agg26 : Go.V.isAgg Tryz.prog 26 = true := by kernel_rfl
theorem cel26 : Tryz.prog.cellsOf 26 = (.i64 :: .i64 :: List.replicate 1104 .u8 : List IntKind).length := by kernel_rfl
set_option maxRecDepth 100000 in
theorem ct26 : ctOk Tryz.prog 26 (.i64 :: .i64 :: List.replicate 1104 .u8) = true := by kernel_rfl
theorem flatE22 : flatK Tryz.prog 6 22 = some (List.replicate 8 .u8) := by kernel_rfl
theorem celE22 : Tryz.prog.cellsOf 22 = 8 := by kernel_rfl
theorem laidOut : laidOutB Tryz.prog = true := by kernel_rfl

def args0 : Array Value := #[.agg ((.i64 :: .i64 :: List.replicate 1104 .u8 : List IntKind).map zeroV).toArray, .slice none 0 0]
theorem wit_v (os : Os) : (World.plainHolding Tryz.checked.prog os ⟨#[], args0, []⟩).variablesB Tryz.checked.prog = true := by kernel_rfl
theorem wit_r (os : Os) : ((World.plainHolding Tryz.checked.prog os ⟨#[], args0, []⟩).heap.toList.drop Tryz.checked.prog.globals.size).take ((begin Tryz.checked.prog (fun _ _ => 0) default).world.heap.size - Tryz.checked.prog.globals.size) =
    (begin Tryz.checked.prog (fun _ _ => 0) default).world.heap.toList.drop Tryz.checked.prog.globals.size := by kernel_rfl
set_option maxRecDepth 100000 in
theorem walk (z0 : Nat → Int) (w0 : ∀ i, (Lit.int ((.i64 :: .i64 :: List.replicate 1104 .u8 : List IntKind).getD i .u8) (z0 i)).wf = true) (I : BW) (s1 : SV) (l1 : Nat) (g1 : Nat → Int) (w : World) (hI : ∀ b off x, I.cell b off = some x → w.cell? ⟨b, off, none⟩ = some x.conc) (R1 : @RA I w.heap.size 8 s1 l1 g1) (b1 : ∀ i, i < 8 * l1 → 0 ≤ g1 i ∧ g1 i ≤ 255) (c1 : l1 ≤ 9223372036854775807) :
    Calls Tryz.prog 3 #[(AV.arr 1106 fun i => .int ((.i64 :: .i64 :: List.replicate 1104 .u8 : List IntKind).getD i .u8) (z0 i)).conc, (AV.s s1).conc] w fun e w' => e = .returned (.bool true) ∧ Below w.heap.size w w' ∧ (∀ a, w'.frozen? a = w.frozen? a) :=
  by
  have k := law_walkR I w hI (@law_FnExactIdealOfSub I w.heap.size z0 w0 s1 l1 g1 R1 b1 c1 w.heap.size (Nat.le_refl _))
  simp only [AV.concs] at k
  exact k

set_option maxRecDepth 100000 in
theorem lifted (os : Os) (started : os.Started) (H : Type) (enc : TypeId × Value → H) :
    ReturnsInHanded {} Tryz.checked os 3 .any (Rows.fnExactIdealOfSubSpec.pre6 enc Tryz.prog Tryz.f3 Rows.fnExactIdealOfSubRow.domain false) (Rows.fnExactIdealOfSubSpec.post enc Tryz.prog Tryz.f3 false true false false) := by
  refine returnsInHanded_of_change (C := Tryz.checked) own started (by kernel_rfl) Tryz.func3
    (flat_witness (enc := enc) (C := Tryz.checked) (os := os) args0 (wit_v os) (wit_r os) ⟨FA.flat 6 flat26 agg26 cel26 ct26 (by decide), ⟨FA.nils Tryz.underlying27, trivial⟩⟩ Tryz.func3 (by kernel_rfl) rfl rfl rfl rfl rfl (by kernel_rfl) rfl) ?_
  intro W base args ds gs before hval0 hW hcnd _
  have hval : ∀ (j : Nat) t v, Tryz.f3.params[j]? = some t → args[j]? = some v → Value.okWide Tryz.prog W .any base t v := hval0
  have hW' := hW
  obtain ⟨p, q, hA0, hV, rfl, hfz, hnd⟩ := hW
  have hA : DataW.TrodAll enc Tryz.prog W 0 (fun _ => true) true Tryz.f3.params.toList args.toList ds p := hA0
  rw [Tryz.params3] at hA hval
  obtain ⟨v0, vs0, d0, ds0, p0, q0, hargs, rfl, rfl, h0, r0⟩ := trodAll_cons hA
  obtain ⟨v1, vs1, d1, ds1, p1, q1, rfl, rfl, rfl, h1, r1⟩ := trodAll_cons r0
  obtain ⟨rfl, rfl, rfl⟩ := trodAll_nil r1
  obtain rfl : args = #[v0, v1] := by cases args; simp_all
  obtain ⟨rfl, rfl⟩ := trodVars_none hV
  obtain ⟨z0, rfl, w0, rfl, m0⟩ := open_flat 6 flat26 agg26 cel26 (hval 0 26 v0 rfl rfl) h0
  have hk1 := h1
  obtain ⟨I, s1, l1, g1, e1, hI, R1, b1, c1⟩ := open_rows 6 Tryz.underlying27 flatE22 celE22 (by decide) (hval 1 27 v1 rfl rfl) h1
  obtain rfl : v1 = (AV.s s1).conc := e1
  clear hA0 hval0
  simp only [List.append_nil, List.nil_append] at hW'
  have hlt : ∀ x ∈ p1, x.block < W.heap.size := fun x hx => by have := hW'.lt x (by simpa using hx); simpa using this
  refine (walk z0 w0 I s1 l1 g1 W hI R1 b1 c1).mono fun e W' ⟨he, hb, hg⟩ => ?_
  subst he
  exact ⟨_, rfl, post_of_same (pa := [] ++ (p1 ++ ([]))) (pv := []) hW' (fun _ _ _ => (trodAll_cons_mk (shut_bool Tryz.underlying4 _) trodAll_mk0)) (fun sp hsp => (trodAll_cons_mk (m0 _ _ _ _) (trodAll_cons_mk (Go.WideElems.Trod_stays laidOut (by kernel_rfl) (of_decide_eq_true (by kernel_rfl)) hk1 (fun x hx => hb.same (hlt x hx)) (fun x hx => hsp x hx)) trodAll_mk0))) (fun _ _ => rfl) (by simp)
    (hb.frame _) hg (ok_one (by kernel_rfl) rfl (okWide_bool_mk Tryz.underlying4 _))⟩

theorem over : Rows.fnExactIdealOfSubRow.holds Tryz.pinned (OpenSpec.ofChange Rows.fnExactIdealOfSubSpec) :=
  OpenClaim.holds_of_wide 3 Tryz.f3 rfl rfl rfl rfl rfl rfl rfl ⟨rfl, rfl, rfl, rfl, rfl⟩ rfl rfl rfl rfl rfl (by kernel_rfl) Tryz.func3 (by kernel_rfl)
    (of_decide_eq_true (by kernel_rfl)) (by unfold Func.isWrapper; first | (rw [if_pos (by decide +kernel)]; kernel_rfl) | (rw [if_neg (by decide +kernel)]; exact ⟨rfl, rfl⟩))
    (fun os started H enc _ => lifted os started H enc)

theorem proved : Rows.FnExactIdealOfSubSaid :=
  over
end Go.Proofs.YtideblodkkgodaaGreat.fnExactIdealOfSub
namespace Go.Proofs.YtideblodkkgodaaGreat
theorem provedFnExactIdealOfSub : Rows.FnExactIdealOfSubSaid := fnExactIdealOfSub.proved
end Go.Proofs.YtideblodkkgodaaGreat
#print axioms Go.Proofs.YtideblodkkgodaaGreat.provedFnExactIdealOfSub

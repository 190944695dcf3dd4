/-
  It is proved that FnExactConstantsOf returns true for every input, and that each argument reads afterwards as it read before.
  Conditions: none beyond those of the given statement.
-/
import Derived.Test.YtmkegkpabifpfaaGreatRows
import Derived.Test.YtmkegkpabifpfaaGreatJbi
import Derived.Test.YtmkegkpabifpfaaGreatJam
namespace Go.Proofs.YtmkegkpabifpfaaGreat.fnExactConstantsOf
open Go.ChangeShapes Go.WideShapes Go.ChangeAt Go.RowKit Go.V
set_option linter.unusedVariables false
set_option linter.unusedSimpArgs false

theorem own : ownKnob Tryz.prog.godebug = none := by kernel_rfl
theorem flat26 : flatK Tryz.prog 6 26 = some (.i64 :: .i64 :: List.replicate 1104 .u8) := by kernel_rfl
theorem agg26 : Go.V.isAgg Tryz.prog 26 = true := by kernel_rfl
theorem cel26 : Tryz.prog.cellsOf 26 = (.i64 :: .i64 :: List.replicate 1104 .u8 : List IntKind).length := by kernel_rfl
set_option maxRecDepth 100000 in
theorem ct26 : ctOk Tryz.prog 26 (.i64 :: .i64 :: List.replicate 1104 .u8) = true := by kernel_rfl
theorem flat28 : flatK Tryz.prog 6 28 = some (.i64 :: .i64 :: List.replicate 520 .u8) := by kernel_rfl
theorem agg28 : Go.V.isAgg Tryz.prog 28 = true := by kernel_rfl
theorem cel28 : Tryz.prog.cellsOf 28 = (.i64 :: .i64 :: List.replicate 520 .u8 : List IntKind).length := by kernel_rfl
set_option maxRecDepth 100000 in
theorem ct28 : ctOk Tryz.prog 28 (.i64 :: .i64 :: List.replicate 520 .u8) = true := by kernel_rfl
theorem flat30 : flatK Tryz.prog 6 30 = some (.i64 :: List.replicate 512 .u8) := by kernel_rfl
theorem agg30 : Go.V.isAgg Tryz.prog 30 = true := by kernel_rfl
theorem cel30 : Tryz.prog.cellsOf 30 = (.i64 :: List.replicate 512 .u8 : List IntKind).length := by kernel_rfl
set_option maxRecDepth 100000 in
theorem ct30 : ctOk Tryz.prog 30 (.i64 :: List.replicate 512 .u8) = true := by kernel_rfl

def args0 : Array Value := #[.agg ((.i64 :: .i64 :: List.replicate 1104 .u8 : List IntKind).map zeroV).toArray, .agg ((.i64 :: .i64 :: List.replicate 520 .u8 : List IntKind).map zeroV).toArray, .agg ((.i64 :: List.replicate 512 .u8 : List IntKind).map zeroV).toArray]
theorem wit_v (os : Os) : (World.plainHolding Tryz.checked.prog os ⟨#[], args0, []⟩).variablesB Tryz.checked.prog = true := by kernel_rfl
theorem wit_r (os : Os) : ((World.plainHolding Tryz.checked.prog os ⟨#[], args0, []⟩).heap.toList.drop Tryz.checked.prog.globals.size).take ((begin Tryz.checked.prog (fun _ _ => 0) default).world.heap.size - Tryz.checked.prog.globals.size) =
    (begin Tryz.checked.prog (fun _ _ => 0) default).world.heap.toList.drop Tryz.checked.prog.globals.size := by kernel_rfl
theorem walk (z0 : Nat → Int) (w0 : ∀ i, (Lit.int ((.i64 :: .i64 :: List.replicate 1104 .u8 : List IntKind).getD i .u8) (z0 i)).wf = true) (z1 : Nat → Int) (w1 : ∀ i, (Lit.int ((.i64 :: .i64 :: List.replicate 520 .u8 : List IntKind).getD i .u8) (z1 i)).wf = true) (z2 : Nat → Int) (w2 : ∀ i, (Lit.int ((.i64 :: List.replicate 512 .u8 : List IntKind).getD i .u8) (z2 i)).wf = true) (w : World) :
    Calls Tryz.prog 3 #[(AV.arr 1106 fun i => .int ((.i64 :: .i64 :: List.replicate 1104 .u8 : List IntKind).getD i .u8) (z0 i)).conc, (AV.arr 522 fun i => .int ((.i64 :: .i64 :: List.replicate 520 .u8 : List IntKind).getD i .u8) (z1 i)).conc, (AV.arr 513 fun i => .int ((.i64 :: List.replicate 512 .u8 : List IntKind).getD i .u8) (z2 i)).conc] w fun e w' => e = .returned (.bool true) ∧ Below w.heap.size w w' ∧ (∀ a, w'.frozen? a = w.frozen? a) :=
  law_walk (fun n => law_FnExactConstantsOf z0 w0 z1 w1 z2 w2 n) w

set_option maxRecDepth 100000 in
theorem lifted (os : Os) (started : os.Started) (H : Type) (enc : TypeId × Value → H) :
    ReturnsInHanded {} Tryz.checked os 3 .any (Rows.fnExactConstantsOfSpec.pre6 enc Tryz.prog Tryz.f3 Rows.fnExactConstantsOfRow.domain false) (Rows.fnExactConstantsOfSpec.post enc Tryz.prog Tryz.f3 false true false false) := by
  refine returnsInHanded_of_change (C := Tryz.checked) own started (by kernel_rfl) Tryz.func3
    (flat_witness (enc := enc) (C := Tryz.checked) (os := os) args0 (wit_v os) (wit_r os) ⟨FA.flat 6 flat26 agg26 cel26 ct26 (by decide), ⟨FA.flat 6 flat28 agg28 cel28 ct28 (by decide), ⟨FA.flat 6 flat30 agg30 cel30 ct30 (by decide), trivial⟩⟩⟩ Tryz.func3 (by kernel_rfl) rfl rfl rfl rfl rfl (by kernel_rfl) rfl) ?_
  intro W base args ds gs before hval0 hW hcnd _
  have hval : ∀ (j : Nat) t v, Tryz.f3.params[j]? = some t → args[j]? = some v → Value.okWide Tryz.prog W .any base t v := hval0
  have hW' := hW
  obtain ⟨p, q, hA0, hV, rfl, hfz, hnd⟩ := hW
  have hA : DataW.TrodAll enc Tryz.prog W 0 (fun _ => true) true Tryz.f3.params.toList args.toList ds p := hA0
  rw [Tryz.params3] at hA hval
  obtain ⟨v0, vs0, d0, ds0, p0, q0, hargs, rfl, rfl, h0, r0⟩ := trodAll_cons hA
  obtain ⟨v1, vs1, d1, ds1, p1, q1, rfl, rfl, rfl, h1, r1⟩ := trodAll_cons r0
  obtain ⟨v2, vs2, d2, ds2, p2, q2, rfl, rfl, rfl, h2, r2⟩ := trodAll_cons r1
  obtain ⟨rfl, rfl, rfl⟩ := trodAll_nil r2
  obtain rfl : args = #[v0, v1, v2] := by cases args; simp_all
  obtain ⟨rfl, rfl⟩ := trodVars_none hV
  obtain ⟨z0, rfl, w0, rfl, m0⟩ := open_flat 6 flat26 agg26 cel26 (hval 0 26 v0 rfl rfl) h0
  obtain ⟨z1, rfl, w1, rfl, m1⟩ := open_flat 6 flat28 agg28 cel28 (hval 1 28 v1 rfl rfl) h1
  obtain ⟨z2, rfl, w2, rfl, m2⟩ := open_flat 6 flat30 agg30 cel30 (hval 2 30 v2 rfl rfl) h2
  clear hA0 hval0
  simp only [List.append_nil] at hW'
  refine (walk z0 w0 z1 w1 z2 w2 W).mono fun e W' ⟨he, hb, hg⟩ => ?_
  subst he
  exact ⟨_, rfl, post_of_same (pa := []) (pv := []) hW' (fun _ _ _ => (trodAll_cons_mk (shut_bool Tryz.underlying4 _) trodAll_mk0)) (fun sp _ => (trodAll_cons_mk (m0 _ _ _ _) (trodAll_cons_mk (m1 _ _ _ _) (trodAll_cons_mk (m2 _ _ _ _) trodAll_mk0)))) (fun _ _ => rfl) rfl
    (hb.frame _) hg (ok_one (by kernel_rfl) rfl (okWide_bool_mk Tryz.underlying4 _))⟩

theorem over : Rows.fnExactConstantsOfRow.holds Tryz.pinned (OpenSpec.ofChange Rows.fnExactConstantsOfSpec) :=
  OpenClaim.holds_of_wide 3 Tryz.f3 rfl rfl rfl rfl rfl rfl rfl ⟨rfl, rfl, rfl, rfl, rfl⟩ rfl rfl rfl rfl rfl (by kernel_rfl) Tryz.func3 (by kernel_rfl)
    (of_decide_eq_true (by kernel_rfl)) (by unfold Func.isWrapper; first | (rw [if_pos (by decide +kernel)]; kernel_rfl) | (rw [if_neg (by decide +kernel)]; exact ⟨rfl, rfl⟩))
    (fun os started H enc _ => lifted os started H enc)

theorem proved : Rows.FnExactConstantsOfSaid :=
  over
end Go.Proofs.YtmkegkpabifpfaaGreat.fnExactConstantsOf
namespace Go.Proofs.YtmkegkpabifpfaaGreat
theorem provedFnExactConstantsOf : Rows.FnExactConstantsOfSaid := fnExactConstantsOf.proved
end Go.Proofs.YtmkegkpabifpfaaGreat
#print axioms Go.Proofs.YtmkegkpabifpfaaGreat.provedFnExactConstantsOf

/-
  It is proved that FnExactInverseOf returns true for every input, and that each argument reads afterwards as it read before.
  Conditions: none beyond those of the given statement.
-/
import Derived.Test.YtdellpnmbgjofaaRows
import Derived.Test.YtdellpnmbgjofaaC61
import Derived.Test.YtdellpnmbgjofaaLX
namespace Go.Proofs.Ytdellpnmbgjofaa.fnExactInverseOf
open Go.ChangeShapes Go.WideShapes Go.ChangeAt Go.RowKit Go.V
set_option linter.unusedVariables false
set_option linter.unusedSimpArgs false

theorem own : ownKnob Try.prog.godebug = none := by kernel_rfl
theorem flat26 : flatK Try.prog 6 26 = some (.i64 :: .i64 :: List.replicate 520 .u8) := by kernel_rfl
theorem agg26 : Go.V.isAgg Try.prog 26 = true := by kernel_rfl
theorem cel26 : Try.prog.cellsOf 26 = (.i64 :: .i64 :: List.replicate 520 .u8 : List IntKind).length := by kernel_rfl
set_option maxRecDepth 100000 in
theorem ct26 : ctOk Try.prog 26 (.i64 :: .i64 :: List.replicate 520 .u8) = true := by kernel_rfl
theorem flat22 : flatK Try.prog 6 22 = some (List.replicate 8 .u8) := by kernel_rfl
theorem agg22 : Go.V.isAgg Try.prog 22 = true := by kernel_rfl
theorem cel22 : Try.prog.cellsOf 22 = (List.replicate 8 .u8 : List IntKind).length := by kernel_rfl
set_option maxRecDepth 100000 in
theorem ct22 : ctOk Try.prog 22 (List.replicate 8 .u8) = true := by kernel_rfl

def args0 : Array Value := #[.agg ((.i64 :: .i64 :: List.replicate 520 .u8 : List IntKind).map zeroV).toArray, .agg ((List.replicate 8 .u8 : List IntKind).map zeroV).toArray]
theorem wit_v (os : Os) : (World.plainHolding Try.checked.prog os ⟨#[], args0, []⟩).variablesB Try.checked.prog = true := by kernel_rfl
theorem wit_r (os : Os) : ((World.plainHolding Try.checked.prog os ⟨#[], args0, []⟩).heap.toList.drop Try.checked.prog.globals.size).take ((begin Try.checked.prog (fun _ _ => 0) default).world.heap.size - Try.checked.prog.globals.size) =
    (begin Try.checked.prog (fun _ _ => 0) default).world.heap.toList.drop Try.checked.prog.globals.size := by kernel_rfl
theorem walk (z0 : Nat → Int) (w0 : ∀ i, (Lit.int ((.i64 :: .i64 :: List.replicate 520 .u8 : List IntKind).getD i .u8) (z0 i)).wf = true) (z1 : Nat → Int) (w1 : ∀ i, (Lit.int ((List.replicate 8 .u8 : List IntKind).getD i .u8) (z1 i)).wf = true) (w : World) :
    Calls Try.prog 3 #[(AV.arr 522 fun i => .int ((.i64 :: .i64 :: List.replicate 520 .u8 : List IntKind).getD i .u8) (z0 i)).conc, (AV.arr 8 fun i => .int ((List.replicate 8 .u8 : List IntKind).getD i .u8) (z1 i)).conc] w fun e w' => e = .returned (.bool true) ∧ Below w.heap.size w w' ∧ (∀ a, w'.frozen? a = w.frozen? a) :=
  law_walk (fun n => law_FnExactInverseOf z0 w0 z1 w1 n) w

set_option maxRecDepth 100000 in
theorem lifted (os : Os) (started : os.Started) (H : Type) (enc : TypeId × Value → H) :
    ReturnsInHanded {} Try.checked os 3 .any (Rows.fnExactInverseOfSpec.pre6 enc Try.prog Try.f3 Rows.fnExactInverseOfRow.domain false) (Rows.fnExactInverseOfSpec.post enc Try.prog Try.f3 false true false false) := by
  refine returnsInHanded_of_change (C := Try.checked) own started (by kernel_rfl) Try.func3
    (flat_witness (enc := enc) (C := Try.checked) (os := os) args0 (wit_v os) (wit_r os) ⟨FA.flat 6 flat26 agg26 cel26 ct26 (by decide), ⟨FA.flat 6 flat22 agg22 cel22 ct22 (by decide), trivial⟩⟩ Try.func3 (by kernel_rfl) rfl rfl rfl rfl rfl (by kernel_rfl) rfl) ?_
  intro W base args ds gs before hval0 hW hcnd _
  have hval : ∀ (j : Nat) t v, Try.f3.params[j]? = some t → args[j]? = some v → Value.okWide Try.prog W .any base t v := hval0
  have hW' := hW
  obtain ⟨p, q, hA0, hV, rfl, hfz, hnd⟩ := hW
  have hA : DataW.TrodAll enc Try.prog W 0 (fun _ => true) true Try.f3.params.toList args.toList ds p := hA0
  rw [Try.params3] at hA hval
  obtain ⟨v0, vs0, d0, ds0, p0, q0, hargs, rfl, rfl, h0, r0⟩ := trodAll_cons hA
  obtain ⟨v1, vs1, d1, ds1, p1, q1, rfl, rfl, rfl, h1, r1⟩ := trodAll_cons r0
  obtain ⟨rfl, rfl, rfl⟩ := trodAll_nil r1
  obtain rfl : args = #[v0, v1] := by cases args; simp_all
  obtain ⟨rfl, rfl⟩ := trodVars_none hV
  obtain ⟨z0, rfl, w0, rfl, m0⟩ := open_flat 6 flat26 agg26 cel26 (hval 0 26 v0 rfl rfl) h0
  obtain ⟨z1, rfl, w1, rfl, m1⟩ := open_flat 6 flat22 agg22 cel22 (hval 1 22 v1 rfl rfl) h1
  clear hA0 hval0
  simp only [List.append_nil] at hW'
  refine (walk z0 w0 z1 w1 W).mono fun e W' ⟨he, hb, hg⟩ => ?_
  subst he
  exact ⟨_, rfl, post_of_same (pa := []) (pv := []) hW' (fun _ _ _ => (trodAll_cons_mk (shut_bool Try.underlying4 _) trodAll_mk0)) (fun sp _ => (trodAll_cons_mk (m0 _ _ _ _) (trodAll_cons_mk (m1 _ _ _ _) trodAll_mk0))) (fun _ _ => rfl) rfl
    (hb.frame _) hg (ok_one (by kernel_rfl) rfl (okWide_bool_mk Try.underlying4 _))⟩

theorem over : Rows.fnExactInverseOfRow.holds Try.pinned (OpenSpec.ofChange Rows.fnExactInverseOfSpec) :=
  OpenClaim.holds_of_wide 3 Try.f3 rfl rfl rfl rfl rfl rfl rfl ⟨rfl, rfl, rfl, rfl, rfl⟩ rfl rfl rfl rfl rfl (by kernel_rfl) Try.func3 (by kernel_rfl)
    (of_decide_eq_true (by kernel_rfl)) (by unfold Func.isWrapper; first | (rw [if_pos (by decide +kernel)]; kernel_rfl) | (rw [if_neg (by decide +kernel)]; exact ⟨rfl, rfl⟩))
    (fun os started H enc _ => lifted os started H enc)

theorem proved : Rows.FnExactInverseOfSaid :=
  over
end Go.Proofs.Ytdellpnmbgjofaa.fnExactInverseOf
namespace Go.Proofs.Ytdellpnmbgjofaa
theorem provedFnExactInverseOf : Rows.FnExactInverseOfSaid := fnExactInverseOf.proved
end Go.Proofs.Ytdellpnmbgjofaa
#print axioms Go.Proofs.Ytdellpnmbgjofaa.provedFnExactInverseOf

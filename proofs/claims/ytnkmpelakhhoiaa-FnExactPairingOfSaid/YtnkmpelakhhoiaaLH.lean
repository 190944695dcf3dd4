/- From the cells of a law's arguments to tables and matrices. -/
import Derived.Test.YtnkmpelakhhoiaaC20
import Derived.Test.YtnkmpelakhhoiaaLW
namespace Go.V
/-- f if Q holds, zeros if not. -/
noncomputable def val (Q : Prop) (f : Nat → Int) : Nat → Int := fun q => if tb Q = true then f q else 0
theorem val_true {Q : Prop} (h : Q) (f : Nat → Int) : val Q f = f := by funext q; unfold val; rw [if_pos (tb_true h)]
theorem val_false {Q : Prop} (h : ¬Q) (f : Nat → Int) : val Q f = fun _ => 0 := by funext q; unfold val; rw [tb_false h, if_neg (by simp)]

theorem rep_getD (n q : Nat) : (List.replicate n IntKind.u8).getD q .u8 = .u8 := by
  rw [List.getD_eq_getElem?_getD, List.getElem?_replicate]; split <;> rfl
theorem u8_bounds {x : Int} (h : (Lit.int .u8 x).wf = true) : 0 ≤ x ∧ x ≤ 255 := by
  simp only [Lit.wf, Bool.and_eq_true, decide_eq_true_eq] at h
  exact h
theorem flat_bys (n : Nat) (z : Nat → Int) : (fun i => SV.int ((List.replicate n IntKind.u8).getD i .u8) (z i)) = bys z := by
  funext i; rw [rep_getD]; rfl
theorem flat_by {n N : Nat} {z : Nat → Int} (w : ∀ i, (Lit.int ((List.replicate n IntKind.u8).getD i .u8) (z i)).wf = true) : isBy N z := fun i _ => by
  have := w i; rw [rep_getD] at this; exact u8_bounds this

abbrev hopfKs : List IntKind := .i64 :: .i64 :: List.replicate 1104 .u8
theorem hopfKs_u8 (q : Nat) : hopfKs.getD (2 + q) .u8 = .u8 := by
  rw [show 2 + q = q + 1 + 1 by omega]
  show (List.replicate 1104 IntKind.u8).getD q .u8 = .u8
  exact rep_getD _ _
/-- The table in a row of cells. -/
def hOf (z : Nat → Int) : HT := ⟨z 0, z 1, fun q => z (2 + q), fun q => z (10 + q), fun q => z (522 + q), fun q => z (530 + q), fun q => z (1042 + q)⟩
theorem hOf_at (z : Nat → Int) : (hOf z).At (fun i => .int (hopfKs.getD i .u8) (z i)) where
  p := rfl
  n := rfl
  u := fun q _ => by show SV.int (hopfKs.getD (2 + q) .u8) _ = _; rw [hopfKs_u8]; rfl
  m := fun q _ => by show SV.int (hopfKs.getD (10 + q) .u8) _ = _; rw [show 10 + q = 2 + (8 + q) by omega, hopfKs_u8, show 2 + (8 + q) = 10 + q by omega]; rfl
  e := fun q _ => by show SV.int (hopfKs.getD (522 + q) .u8) _ = _; rw [show 522 + q = 2 + (520 + q) by omega, hopfKs_u8, show 2 + (520 + q) = 522 + q by omega]; rfl
  c := fun q _ => by show SV.int (hopfKs.getD (530 + q) .u8) _ = _; rw [show 530 + q = 2 + (528 + q) by omega, hopfKs_u8, show 2 + (528 + q) = 530 + q by omega]; rfl
  s := fun q _ => by show SV.int (hopfKs.getD (1042 + q) .u8) _ = _; rw [show 1042 + q = 2 + (1040 + q) by omega, hopfKs_u8, show 2 + (1040 + q) = 1042 + q by omega]; rfl
theorem hOf_u8 {z : Nat → Int} (w : ∀ i, (Lit.int (hopfKs.getD i .u8) (z i)).wf = true) (q : Nat) : 0 ≤ z (2 + q) ∧ z (2 + q) ≤ 255 := by
  have := w (2 + q); rw [hopfKs_u8] at this; exact u8_bounds this
theorem hOf_by {z : Nat → Int} (w : ∀ i, (Lit.int (hopfKs.getD i .u8) (z i)).wf = true) : (hOf z).By where
  u := fun q _ => hOf_u8 w q
  m := fun q _ => by have := hOf_u8 w (8 + q); rwa [show 2 + (8 + q) = 10 + q by omega] at this
  e := fun q _ => by have := hOf_u8 w (520 + q); rwa [show 2 + (520 + q) = 522 + q by omega] at this
  c := fun q _ => by have := hOf_u8 w (528 + q); rwa [show 2 + (528 + q) = 530 + q by omega] at this
  s := fun q _ => by have := hOf_u8 w (1040 + q); rwa [show 2 + (1040 + q) = 1042 + q by omega] at this
theorem lst_nil (H : Hp) (w : Nat → Int) : lst H .nils 0 w := .inl ⟨rfl, rfl⟩
theorem cd_nil {Q : Prop} {R : Nat → Prop} : cd (Q ∧ ∀ i, i < 0 → R i) = cd Q := cd_iff ⟨fun q => q.1, fun q => ⟨q, fun i hi => by omega⟩⟩
theorem splice_at (c d : Nat → SV) (o m q : Nat) (h : q < m) : splice c o m d (o + q) = d q := by
  unfold splice; rw [if_pos (by omega), Nat.add_sub_cancel_left]
/-- One or two matrices. -/
def two (s t : Nat → Int) : Nat → Nat → Int := fun i => if i = 0 then s else t
end Go.V

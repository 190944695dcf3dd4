/-
  It is proved that FnVectors returns true for every input, and that its argument reads afterwards as it read before; the row's listed package variables are tied to the program's text by the given tie.
  Conditions: none beyond those of the given statement.
-/
import Derived.Test.YtgnphaopeplfbaaGreatDoorRows
import Derived.Test.YtgnphaopeplfbaaGreatDoorCards
import Derived.Test.YtgnphaopeplfbaaGreatDoorTie
import Derived.Test.YtgnphaopeplfbaaGreatDoorJbe
import Derived.Test.YtgnphaopeplfbaaGreatDoorJam
import Derived.LaidMore
import Derived.Lay
import Derived.HandedShaped
import Derived.Shelf.Vars
import Derived.SevenTiedAt
import Derived.Stop.Joined
namespace Go.Proofs.YtgnphaopeplfbaaGreatDoor.fnVectors
open Go.ChangeShapes Go.WideShapes Go.ChangeAt Go.RowKit Go.V
set_option linter.unusedVariables false
set_option linter.unusedSimpArgs false

theorem own : ownKnob Tryz.prog.godebug = none := by kernel_rfl
theorem flatE5 : flatK Tryz.prog 6 5 = some (List.replicate 1 .u8) := by kernel_rfl
theorem celE5 : Tryz.prog.cellsOf 5 = 1 := by kernel_rfl
theorem laidOut : laidOutB Tryz.prog = true := by kernel_rfl

/-- A row's step that keeps a condition on the world and the world's shape. -/
theorem step_and_shaped {H : Type} {enc : TypeId × Value → H} {a : Assume} {C : Checked} {os : Os} {f : FuncId} {fn : Func} {s : ChangeSpec} {conds : List PathCond} {apart fresh handsOn again : Bool} {X : World → Array Value → Prop}
    (hX : ∀ (w w' : World) (args : Array Value), w.heap = w'.heap → X w args → X w' args)
    (own : ownKnob C.prog.godebug = none) (started : os.Started) (noInit : C.prog.inits.idxOf? f = none) (hfn : C.prog.funcs[f]? = some fn)
    (witness : ∃ (w : World) (tape : Tape) (i : Input), w.os = os ∧ (w.forCall tape i).Shaped C.prog ∧ i.vars = [] ∧ Input.okWide C.prog (w.forCall tape i) .any w.heap.size f i ∧
      ((s.pre enc C.prog fn conds apart (w.forCall tape i).memory i.args ∧ X (w.forCall tape i).memory i.args) ∧ sizedMet enc C.prog fn (OpenSpec.ofChange s) apart (w.forCall tape i).memory i.args) ∧ a.holds C.prog (lone (Frame.enter C.prog f i.args .normal) [] (w.forCall tape i)))
    (contract : ∀ (W : World) (base : Nat) (args : Array Value) (ds gs : List (DataW H)) (before : List MemPlace),
      (∀ (j : Nat) t v, fn.params[j]? = some t → args[j]? = some v → Value.okWide C.prog W .any base t v) →
      DataW.Whole enc C.prog fn.params.toList s.vars apart W args.toList ds gs before → X W args → W.ShapedOpen C.prog →
      Calls C.prog f args W fun e W' => ∃ v, e = .returned v ∧ s.post enc C.prog fn apart fresh handsOn again W args v W') :
    ReturnsInHanded a C os f .any (fun w args => (s.pre enc C.prog fn conds apart w args ∧ X w args) ∧ sizedMet enc C.prog fn (OpenSpec.ofChange s) apart w args) (s.post enc C.prog fn apart fresh handsOn again) := by
  refine returnsInHanded_of_calls own started noInit witness ?_
  intro w tape i _ hsh _ hok hpre hholds
  obtain ⟨_, _, _, fn', hfn', _, _, _, _, hval⟩ := hok
  have e : fn' = fn := Option.some.inj (hfn'.symm.trans hfn)
  subst e
  obtain ⟨⟨⟨ds, gs, before, hw, hc⟩, hx⟩, hz⟩ := hpre
  refine (contract (w.forCall tape i) w.heap.size i.args ds gs before hval (DataW.Whole.of_heap (w' := w.forCall tape i) (by rfl) hw) (hX _ _ _ (by rfl) hx) hsh).mono fun e W' ⟨v, he, hp⟩ => ?_
  subst he
  exact ChangeSpec.post_blind hp

/-- A call that leaves what was there: only blocks that were there must not freeze. -/
theorem post_low {H : Type} {enc : TypeId × Value → H} {P : Program} {f : Func} {s : ChangeSpec} {apart fresh handsOn again : Bool} {W W' : World} {args : Array Value} {v : Value} {ds gs : List (DataW H)} {before pa pv : List MemPlace}
    (hW : DataW.Whole enc P f.params.toList s.vars apart W args.toList ds gs before)
    (hres : ∀ (b : Nat) (sp : Nat → Bool) (hd : Bool), DataW.TrodAll enc P W' b sp hd f.resultTypes.toList (v.resultList f.resultTypes.size) (s.fn H (ds ++ gs)).results [])
    (hargs : ∀ sp : Nat → Bool, (∀ p ∈ before, sp p.block = true) → DataW.TrodAll enc P W' 0 sp true f.params.toList args.toList (s.fn H (ds ++ gs)).args pa)
    (hvars : ∀ sp : Nat → Bool, (∀ p ∈ before, sp p.block = true) → DataW.TrodVars enc P W' sp s.vars (s.fn H (ds ++ gs)).vars pv)
    (hps : before = pa ++ pv) (hk : W.keptBut W' (· ∈ before)) (hfz : ∀ a : Addr, a.block < W.heap.size → W'.frozen? a = W.frozen? a)
    (hok : ∀ (j : Nat) (t : TypeId) (r : Value), f.resultTypes[j]? = some t → (v.resultList f.resultTypes.size)[j]? = some r → Value.okWide P W' .any 0 t r) :
    s.post enc P f apart fresh handsOn again W args v W' := by
  have hlt : ∀ p ∈ before, p.block < W.heap.size := fun p hp => hW.lt p hp
  refine ⟨ds, gs, before, [], pa, pv, hW, hres _ _ _, hargs _ (fun p hp => by simpa using hlt p hp), hvars _ (fun p hp => by simpa using hlt p hp), World.keptBut_mono (fun p hp => ⟨hp, by rw [hps, List.mem_append] at hp; exact Or.inr hp⟩) hk, fun _ => ?_⟩
  obtain ⟨_, _, _, _, _, hz, hn⟩ := hW
  refine ⟨hok, _, _, ([] ++ pa) ++ pv, ⟨[] ++ pa, pv, trodAll_append (hargs _ (fun _ _ => rfl)) (hres _ _ _), hvars _ (fun _ _ => rfl), rfl, fun b off hp => ?_, fun ha => ?_⟩, fun p hp _ => ?_⟩
  · have hb := (List.mem_append.1 (show _ ∈ pa ++ pv by simpa using hp))
    have hb' : MemPlace.cell b off ∈ before := by rw [hps]; exact List.mem_append.2 hb
    rw [hfz _ (hlt _ hb')]
    exact hz b off hb'
  · have := hn ha
    rw [hps] at this
    simpa using this
  · rw [hps]; simpa using hp

/-- What is known of the slice's cells, and of one variable's cell beside it. -/
theorem open_more {P : Program} {W : World} {len g : Nat} {sv : SV} {f : Nat → Int} {m : Int} {M : Nat} (I : BW) (hI : ∀ b off x, I.cell b off = some x → W.cell? ⟨b, off, none⟩ = some x.conc) (hR : @RA I M 1 sv len f) (hm : W.cell? ⟨g, 0, none⟩ = some (.int .i64 m)) :
    ∃ I' : BW, (∀ b off x, I'.cell b off = some x → W.cell? ⟨b, off, none⟩ = some x.conc) ∧ @RA I' M 1 sv len f ∧ I'.cell g 0 = some (.int .i64 m) := by
  refine ⟨⟨fun b off => if b = g ∧ off = 0 then some (.int .i64 m) else I.cell b off⟩, fun b off x h => ?_, ?_, if_pos ⟨rfl, rfl⟩⟩
  · (try dsimp only at h)
    split at h
    · rename_i hc
      obtain ⟨rfl, rfl⟩ := hc
      cases h
      exact hm
    · exact hI b off x h
  · rcases hR with q | ⟨b, o, cap, h1, h2, h3, h4⟩
    · exact .inl q
    · refine .inr ⟨b, o, cap, h1, h2, h3, fun i hi => ?_⟩
      have h5 := h4 i hi
      show (if b = g ∧ o + i = 0 then _ else _) = _
      rw [if_neg]
      · exact h5
      · rintro ⟨rfl, h6⟩
        have h7 := hI _ _ _ h5
        rw [h6, hm] at h7
        simp [SV.conc] at h7

theorem walk (I : BW) (sv : SV) (len : Nat) (g : Nat → Int) (m : Int) (w : World) (hI : ∀ b off x, I.cell b off = some x → w.cell? ⟨b, off, none⟩ = some x.conc) (R : @RA I w.heap.size 1 sv len g) (hb : ∀ i, i < 1 * len → 0 ≤ g i ∧ g i ≤ 255) (hc : len ≤ 9223372036854775807) (hm : I.cell 2 0 = some (.int .i64 m)) :
    Calls Tryz.prog 3 #[(AV.s sv).conc] w fun e w' => e = .returned (.bool true) ∧ Below w.heap.size w w' ∧ (∀ a : Addr, a.block < w.heap.size → w'.frozen? a = w.frozen? a) := by
  have k := law_walkR I w hI (@law_FnVectors I w.heap.size sv len g R hb hc m hm w.heap.size (Nat.le_refl _))
  simp only [AV.concs] at k
  exact k

set_option maxRecDepth 100000 in
theorem lifted (os : Os) (started : os.Started) (H : Type) (enc : TypeId × Value → H) :
    ReturnsInHanded {} Tryz.checked os 3 .any (fun w args => (Rows.fnVectorsSpec.pre enc Tryz.prog Tryz.f3 Rows.fnVectorsRow.domain false w args ∧ laidMetH Tryz.prog Rows.fnVectorsRow.laid w) ∧ sizedMet enc Tryz.prog Tryz.f3 (OpenSpec.ofChange Rows.fnVectorsSpec) false w args)
      (Rows.fnVectorsSpec.post enc Tryz.prog Tryz.f3 false true false false) := by
  refine step_and_shaped (C := Tryz.checked) (X := fun w _ => laidMetH Tryz.prog Rows.fnVectorsRow.laid w) (fun _ _ _ hh h => h.of_heap hh) own started (by kernel_rfl) Tryz.func3
    (ChangeSpec.witness_shaped (enc := enc) (C := Tryz.checked) (os := os) (X := fun w _ => laidMetH Tryz.prog Rows.fnVectorsRow.laid w) false (World.laidAll Tryz.prog os Rows.fnVectorsRow.laid) #[.slice none 0 0] 8 (World.laidAll_os _ _ _)
      (World.shaped_of_ZipB (by kernel_rfl) (by kernel_rfl)) (by kernel_rfl) (by kernel_rfl) (by kernel_rfl)
      (by rw [MakeChecks.laidMetH_plain _ _ _ (by kernel_rfl)]; exact laidMet_laidAll _ (by kernel_rfl) (by kernel_rfl))) ?_
  intro W base args ds gs before hval0 hW hL hsh
  have hval : ∀ (j : Nat) t v, Tryz.f3.params[j]? = some t → args[j]? = some v → Value.okWide Tryz.prog W .any base t v := hval0
  have hW' := hW
  obtain ⟨p, q, hA0, hV, rfl, hfz, hnd⟩ := hW
  have hA : DataW.TrodAll enc Tryz.prog W 0 (fun _ => true) true Tryz.f3.params.toList args.toList ds p := hA0
  rw [Tryz.params3] at hA hval
  obtain ⟨v0, vs0, d0, ds0, p0, q0, hargs, rfl, rfl, h0, r0⟩ := trodAll_cons hA
  obtain ⟨rfl, rfl, rfl⟩ := trodAll_nil r0
  obtain rfl : args = #[v0] := by cases args; simp_all
  obtain ⟨rfl, rfl⟩ := trodVars_none hV
  have hk0 := h0
  obtain ⟨I, s0, l0, g0, e0, hI, R0, b0, c0⟩ := open_rows 6 Tryz.underlying22 flatE5 celE5 (by decide) (hval 0 22 v0 rfl rfl) h0
  obtain rfl : v0 = (AV.s s0).conc := e0
  obtain ⟨m, hm⟩ := cell_of_shapedOpen_int (P := Tryz.prog) (g := 2) (t := 3) (zero := #[.int .i64 0]) hsh (of_decide_eq_true (by kernel_rfl)) (by kernel_rfl) rfl (by kernel_rfl) (by kernel_rfl) Tryz.underlying3
  obtain ⟨I', hI', R', hm'⟩ := open_more (P := Tryz.prog) I hI R0 hm
  clear hA0 hval0 hI R0
  simp only [List.append_nil, List.nil_append] at hW'
  have hlt : ∀ x ∈ p0, x.block < W.heap.size := fun x hx => by have := hW'.lt x (by simpa using hx); simpa using this
  refine (walk I' s0 l0 g0 m W hI' R' b0 c0 hm').mono fun e W' ⟨he, hb, hg⟩ => ?_
  subst he
  exact ⟨_, rfl, post_low (pa := p0 ++ ([])) (pv := []) hW' (fun _ _ _ => (trodAll_cons_mk (shut_bool Tryz.underlying4 _) trodAll_mk0)) (fun sp hsp => (trodAll_cons_mk (Go.WideElems.Trod_stays laidOut (by kernel_rfl) (of_decide_eq_true (by kernel_rfl)) hk0 (fun x hx => hb.same (hlt x hx)) (fun x hx => hsp x hx)) trodAll_mk0)) (fun _ _ => rfl) (by simp)
    (hb.frame _) hg (ok_one (by kernel_rfl) rfl (okWide_bool_mk Tryz.underlying4 _))⟩

theorem over : Rows.FnVectorsSaid :=
  OpenClaim.holds_of_wide 3 Tryz.f3 rfl rfl rfl rfl rfl rfl rfl ⟨rfl, rfl, rfl, rfl, rfl⟩ rfl rfl rfl rfl rfl (by kernel_rfl) Tryz.func3 (by kernel_rfl)
    (of_decide_eq_true (by kernel_rfl)) (by unfold Func.isWrapper; first | (rw [if_pos (by decide +kernel)]; kernel_rfl) | (rw [if_neg (by decide +kernel)]; exact ⟨rfl, rfl⟩))
    (fun os started H enc _ => lifted os started H enc)

theorem card : Rows.FnVectorsCardSaid :=
  Claim7.holds_tied_plain_at .later [] [.data, .data, .data, .data, .sentinel, .sentinel, .pinned] true (true, "955fb0e8146722452ef59740e5565499a38d9912f54cf6b8b71bd8739f4eca7b") true over (fun _ h => by cases h) (by kernel_rfl) (fun _ h => by cases h) fnVectors_row_tie rfl ⟨rfl, rfl⟩ (by kernel_rfl) rfl
    (fun f fn hf hfn => by
      obtain rfl : f = 3 := Option.some.inj ((show Tryz.prog.funcNamed "loop.example/g01230/laws.FnVectors" = some 3 by kernel_rfl).symm.trans hf) |>.symm
      obtain rfl : fn = Tryz.f3 := (Option.some.inj (Tryz.func3.symm.trans hfn)).symm
      exact ⟨by kernel_rfl, fun j t ht => by
        rw [Tryz.params3] at ht
        have hm : t ∈ [22] := by simpa using Array.mem_of_getElem? ht
        have hall : ([22].all fun u => !Tryz.prog.wantsStandIn u) = true := by kernel_rfl
        exact (show Tryz.prog.wantsStandIn t = false by simpa using List.all_eq_true.1 hall t hm)⟩)
    (by kernel_rfl)
end Go.Proofs.YtgnphaopeplfbaaGreatDoor.fnVectors
namespace Go.Proofs.YtgnphaopeplfbaaGreatDoor
theorem provedFnVectors : Rows.FnVectorsCardSaid := fnVectors.card
end Go.Proofs.YtgnphaopeplfbaaGreatDoor
#print axioms Go.Proofs.YtgnphaopeplfbaaGreatDoor.provedFnVectors

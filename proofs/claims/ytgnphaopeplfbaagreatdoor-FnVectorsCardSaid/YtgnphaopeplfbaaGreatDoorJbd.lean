/- Small numbers as texts, joined by commas and split again. -/
import Derived.Lib.SplitLaws
import Derived.Lib.Join
import Derived.Lib.ParseIntBCases
import Derived.Lib.ItoaNum
import Derived.Shelf.Strings.Builder1
import Derived.Shelf.Strings.Builder2
import Derived.Shelf.Strings.OnBuilder
import Derived.Shelf.Strconv.Itoa0
import Derived.Shelf.Strconv.Itoa1
import Derived.Shelf.LaysM
import Derived.Shelf.Strconv.Itoa2
import Derived.Shelf.Strconv.Itoa3
import Derived.Ground.MpProg
import Derived.Shelf.Pu.ParseUintPublic10
import Derived.Shelf.Strings.Search1
import Derived.Shelf.Strings.Search2
import Derived.Shelf.Strings.Search3
import Derived.Shelf.Strings.Count
import Derived.Shelf.Strings.Shaped
import Derived.Shelf.Strings.Split
import Derived.Shelf.Unicode.DecodeSlow
import Derived.Test.YtgnphaopeplfbaaGreatDoorProg
import Derived.Test.YtgnphaopeplfbaaGreatDoorJar
import Derived.Test.YtgnphaopeplfbaaGreatDoorJax
import Derived.Test.YtgnphaopeplfbaaGreatDoorJaz
import Derived.Test.YtgnphaopeplfbaaGreatDoorJbc
set_option linter.unusedSectionVars false
set_option linter.unusedVariables false
set_option linter.unusedSimpArgs false

namespace Go.V

open Go.Lib

set_option linter.unusedSimpArgs false

set_option linter.unusedVariables false

theorem dig_toNat (u : Nat) (h : u < 10) : (UInt8.ofNat (48 + u)).toNat = 48 + u := by
  rw [UInt8.toNat_ofNat']; omega

theorem dec_comma (u : Nat) (h : u < 100) : (44 : UInt8) ∉ decDigits u := by
  intro m
  by_cases h1 : u < 10
  · rw [decDigits_one h1] at m
    simp only [List.mem_cons, List.not_mem_nil, or_false] at m
    have := congrArg UInt8.toNat m
    rw [dig_toNat _ h1] at this
    have e : (44 : UInt8).toNat = 44 := rfl
    omega
  · rw [decDigits_two h1 h] at m
    simp only [List.mem_cons, List.not_mem_nil, or_false] at m
    have e : (44 : UInt8).toNat = 44 := rfl
    rcases m with m | m
    · have := congrArg UInt8.toNat m
      rw [dig_toNat _ (by omega)] at this
      omega
    · have := congrArg UInt8.toNat m
      rw [dig_toNat _ (by omega)] at this
      omega

theorem dec_parse (u : Nat) (h : u < 100) : parseUintB 8 (decDigits u) = .ok u := by
  by_cases h1 : u < 10
  · rw [decDigits_one h1]
    unfold parseUintB
    rw [if_neg (by simp)]
    unfold parseUintM
    rw [dig_toNat _ h1, if_pos (by omega), if_neg (by omega), if_neg (by omega)]
    unfold parseUintM
    congr 1; omega
  · rw [decDigits_two h1 h]
    unfold parseUintB
    rw [if_neg (by simp)]
    unfold parseUintM
    rw [dig_toNat _ (by omega), if_pos (by omega), if_neg (by omega), if_neg (by omega)]
    unfold parseUintM
    rw [dig_toNat _ (by omega), if_pos (by omega), if_neg (by omega), if_neg (by omega)]
    unfold parseUintM
    congr 1; omega

theorem index_hit (c : UInt8) : ∀ (x r : List UInt8), c ∉ x → index (x ++ c :: r) [c] = x.length
  | [], r, _ => by
    rw [index_one]; simp [indexByte]
  | b :: x, r, h => by
    have hb : b ≠ c := fun e => h (by rw [e]; exact List.mem_cons_self)
    have ih := index_hit c x r (fun m => h (List.mem_cons_of_mem _ m))
    rw [index_one] at ih ⊢
    show indexByte (b :: (x ++ c :: r)) c = _
    unfold indexByte
    rw [if_neg (by simpa using hb), ih, if_neg (by simp)]
    simp

theorem splitK_join (c : UInt8) : ∀ (l : List (List UInt8)) (x : List UInt8), (∀ y ∈ x :: l, c ∉ y) → splitK [c] 0 l.length (join (x :: l) [c]) = x :: l
  | [], x, _ => by rw [join_one]; rfl
  | y :: l, x, h => by
    have ih := splitK_join c l y (fun z hz => h z (List.mem_cons_of_mem _ hz))
    have e : join (x :: y :: l) [c] = x ++ c :: join (y :: l) [c] := by
      rw [join_cons, join_cons]
      simp [joinTail]
    have hi := index_hit c x (join (y :: l) [c]) (h x List.mem_cons_self)
    rw [e]
    show splitK [c] 0 (l.length + 1) _ = _
    unfold splitK
    rw [hi, if_neg (by simp), Int.toNat_natCast]
    have e1 : (x ++ c :: join (y :: l) [c]).take (x.length + 0) = x := by rw [Nat.add_zero, List.take_left]
    have e2 : (x ++ c :: join (y :: l) [c]).drop (x.length + [c].length) = join (y :: l) [c] := by
      rw [show x ++ c :: join (y :: l) [c] = (x ++ [c]) ++ join (y :: l) [c] by simp, show x.length + [c].length = (x ++ [c]).length by simp, List.drop_left]
    rw [e1, e2, ih]

theorem count_join (c : UInt8) : ∀ (l : List (List UInt8)) (x : List UInt8), (∀ y ∈ x :: l, c ∉ y) → count (join (x :: l) [c]) [c] = l.length
  | [], x, h => by rw [join_one, count_one, List.count_eq_zero.2 (h x List.mem_cons_self)]; rfl
  | y :: l, x, h => by
    have ih := count_join c l y (fun z hz => h z (List.mem_cons_of_mem _ hz))
    have e : join (x :: y :: l) [c] = x ++ c :: join (y :: l) [c] := by
      rw [join_cons, join_cons]
      simp [joinTail]
    rw [count_one] at ih ⊢
    rw [e, List.count_append, List.count_eq_zero.2 (h x List.mem_cons_self), List.count_cons_self, ih]
    simp

/-- The text of n numbers. -/
def txt (n : Nat) (v : Nat → Int) : ByteArray := ⟨(join ((List.range n).map fun i => decDigits (v i).toNat) [44]).toArray⟩

def cma : ByteArray := ⟨#[44]⟩

theorem txt_data (n : Nat) (v : Nat → Int) : (txt n v).data.toList = join ((List.range n).map fun i => decDigits (v i).toNat) [44] := by simp [txt]

theorem txt_pieces (n : Nat) (v : Nat → Int) : ∃ x l, (List.range (n + 1)).map (fun i => decDigits (v i).toNat) = x :: l ∧ l.length = n := by
  cases e : (List.range (n + 1)).map (fun i => decDigits (v i).toNat) with
  | nil => simp at e
  | cons x l => exact ⟨x, l, rfl, by have := congrArg List.length e; simp at this; omega⟩

theorem txt_free {n : Nat} {v : Nat → Int} (hv : ∀ i, i < n → 0 ≤ v i ∧ v i < 100) : ∀ y ∈ (List.range n).map (fun i => decDigits (v i).toNat), (44 : UInt8) ∉ y := by
  intro y hy
  obtain ⟨i, hi, rfl⟩ := List.mem_map.1 hy
  have := hv i (List.mem_range.1 hi)
  exact dec_comma _ (by omega)

theorem txt_count {n : Nat} {v : Nat → Int} (hn : 1 ≤ n) (hv : ∀ i, i < n → 0 ≤ v i ∧ v i < 100) : countB (txt n v) cma + 1 = n := by
  obtain ⟨m, rfl⟩ : ∃ m, n = m + 1 := ⟨n - 1, by omega⟩
  obtain ⟨x, l, e, hl⟩ := txt_pieces m v
  have hf := txt_free hv
  show count (txt (m + 1) v).data.toList [44] + 1 = _
  rw [txt_data]
  rw [e] at hf ⊢
  rw [count_join _ _ _ hf, hl]

theorem txt_split {n : Nat} {v : Nat → Int} (hn : 1 ≤ n) (hv : ∀ i, i < n → 0 ≤ v i ∧ v i < 100) : (splitB cma 0 (countB (txt n v) cma) (txt n v)).map (·.data.toList) = (List.range n).map (fun i => decDigits (v i).toNat) := by
  have hc := txt_count hn hv
  obtain ⟨m, rfl⟩ : ∃ m, n = m + 1 := ⟨n - 1, by omega⟩
  obtain ⟨x, l, e, hl⟩ := txt_pieces m v
  have hf := txt_free hv
  rw [splitB_data]
  show splitK [44] 0 _ _ = _
  rw [txt_data, show countB (txt (m + 1) v) cma = l.length by omega]
  rw [e] at hf ⊢
  exact splitK_join _ _ _ hf

theorem txt_piece {n : Nat} {v : Nat → Int} (hn : 1 ≤ n) (hv : ∀ i, i < n → 0 ≤ v i ∧ v i < 100) (i : Nat) (hi : i < n) : (splitB cma 0 (countB (txt n v) cma) (txt n v))[i]? = some ⟨(decDigits (v i).toNat).toArray⟩ := by
  have h := congrArg (fun l => l[i]?) (txt_split hn hv)
  simp only [List.getElem?_map, List.getElem?_range hi, Option.map_some] at h
  cases e : (splitB cma 0 (countB (txt n v) cma) (txt n v))[i]? with
  | none => rw [e] at h; cases h
  | some y =>
    rw [e] at h
    simp only [Option.map_some, Option.some.injEq] at h
    congr 1
    obtain ⟨d⟩ := y
    simp only at h
    rw [← h]

theorem decDigits_short (u : Nat) (h : u < 100) : (decDigits u).length ≤ 2 := by
  by_cases h1 : u < 10
  · rw [decDigits_one h1]; simp
  · rw [decDigits_two h1 h]; simp

theorem txt_size {n : Nat} {v : Nat → Int} (hv : ∀ i, i < n → 0 ≤ v i ∧ v i < 100) : (txt n v).size ≤ 3 * n := by
  have key : ∀ (L : List (List UInt8)), (∀ y ∈ L, y.length ≤ 2) → (join L [44]).length ≤ 3 * L.length := by
    intro L hL
    cases L with
    | nil => simp [join_nil]
    | cons x r =>
      rw [join_length]
      have hx := hL x List.mem_cons_self
      have : lens r ≤ 2 * r.length := by
        have hr : ∀ y ∈ r, y.length ≤ 2 := fun y hy => hL y (List.mem_cons_of_mem _ hy)
        clear hL
        induction r with
        | nil => simp [lens]
        | cons y r ih =>
          have h1 := hr y List.mem_cons_self
          have h2 := ih (fun z hz => hr z (List.mem_cons_of_mem _ hz))
          simp only [lens, List.map_cons, List.sum_cons, List.length_cons] at h2 ⊢
          omega
      have e : lens (x :: r) = x.length + lens r := by simp [lens]
      rw [e]
      simp only [List.length_cons, List.length_nil]
      omega
  have h := key ((List.range n).map fun i => decDigits (v i).toNat) (by
    intro y hy
    obtain ⟨i, hi, rfl⟩ := List.mem_map.1 hy
    have := hv i (List.mem_range.1 hi)
    exact decDigits_short _ (by omega))
  rw [List.length_map, List.length_range] at h
  rw [show (txt n v).size = (txt n v).data.toList.length from rfl, txt_data]
  exact h

end Go.V

/-
  DERIVED: THE SHELF's CONTRACTS AT THIS DUMP, IN PLAIN WORDS (tools/lay-plain.mjs out of 'TryzSh.lean', which tools/lay-shelf.mjs wrote): THE SAME DECLARATIONS UNDER THE SAME NAMES: 'import', 'namespace', 'open', 'def', 'theorem' AND NOTHING ELSE: no command of the shelf's: FOR A HAND-IN. Each laying: the table of numbers ('.._ren') and one theorem, a field a fact of the dump's own or the kernel's comparison; each contract: ONE APPLICATION.
-/

namespace Go.Proofs

open Go.Shelf

def Tryz.lays156_ren : Go.Shelf.Ren := ⟨fun | 156 => 67 | 165 => 94 | 166 => 95 | 169 => 96 | 240 => 113 | 241 => 114 | 276 => 128 | 277 => 129 | n => n, fun | 31 => 68 | 9 => 9 | 3 => 3 | 4 => 4 | 0 => 0 | 20 => 20 | 72 => 138 | 76 => 140 | 70 => 136 | 37 => 22 | 75 => 71 | 127 => 159 | 164 => 176 | 5 => 5 | 80 => 142 | n => n, fun | n => n⟩

theorem Tryz.lays156 : Go.Proofs.Lays.n156 Tryz.prog Tryz.lays156_ren := {
  mixed := by kernel_rfl
  f156 := Tryz.func67.trans (congrArg some (by kernel_rfl))
  f165 := Tryz.func94.trans (congrArg some (by kernel_rfl))
  f166 := Tryz.func95.trans (congrArg some (by kernel_rfl))
  f169 := Tryz.func96.trans (congrArg some (by kernel_rfl))
  f240 := Tryz.func113.trans (congrArg some (by kernel_rfl))
  f241 := Tryz.func114.trans (congrArg some (by kernel_rfl))
  f276 := Tryz.func128.trans (congrArg some (by kernel_rfl))
  f277 := Tryz.func129.trans (congrArg some (by kernel_rfl))
  t0 := Tryz.underlying0
  a0 := Tryz.isAgg0
  z0 := Tryz.sizeOf0
  v0 := Tryz.zeroValue0
  t3 := Tryz.underlying3
  a3 := Tryz.isAgg3
  z3 := Tryz.sizeOf3
  v3 := Tryz.zeroValue3
  t4 := Tryz.underlying4
  a4 := Tryz.isAgg4
  z4 := Tryz.sizeOf4
  v4 := Tryz.zeroValue4
  t9 := Tryz.underlying9
  a9 := Tryz.isAgg9
  z9 := Tryz.sizeOf9
  v9 := Tryz.zeroValue9
  t20 := Tryz.underlying20
  a20 := Tryz.isAgg20
  z20 := Tryz.sizeOf20
  v20 := Tryz.zeroValue20
  t31 := Tryz.underlying68
  a31 := Tryz.isAgg68
  z31 := Tryz.sizeOf68
  v31 := Tryz.zeroValue68
  t37 := Tryz.underlying22
  a37 := Tryz.isAgg22
  z37 := Tryz.sizeOf22
  v37 := Tryz.zeroValue22
  t70 := Tryz.underlying136
  a70 := Tryz.isAgg136
  z70 := Tryz.sizeOf136
  v70 := Tryz.zeroValue136
  t72 := Tryz.underlying138
  a72 := Tryz.isAgg138
  z72 := Tryz.sizeOf138
  v72 := Tryz.zeroValue138
  t75 := Tryz.underlying71
  a75 := Tryz.isAgg71
  z75 := Tryz.sizeOf71
  v75 := Tryz.zeroValue71
  t76 := Tryz.underlying140
  a76 := Tryz.isAgg140
  z76 := Tryz.sizeOf140
  v76 := Tryz.zeroValue140
  t127 := Tryz.underlying159
  a127 := Tryz.isAgg159
  z127 := Tryz.sizeOf159
  v127 := Tryz.zeroValue159
  t164 := Tryz.underlying176
  a164 := Tryz.isAgg176
  z164 := Tryz.sizeOf176
  v164 := Tryz.zeroValue176 }

theorem Tryz.Builder_Extra_156 : Builder.Extra Tryz.prog Tryz.lays156_ren := {
  sizeBuilder := by kernel_rfl
  liesBuilder := by kernel_rfl
  t5 := Tryz.underlying5
  a5 := Tryz.isAgg5
  z5 := Tryz.sizeOf5
  v5 := Tryz.zeroValue5
  infoByte := by kernel_rfl
  cellsByte := by kernel_rfl
  sizeByte := by kernel_rfl
  neB5 := by decide }

open Go.RowKit in

/-- strings.Join: "Join concatenates the elements of its first argument to create a single string. The separator string sep is placed between elements in the resulting string.": HOWEVER MANY ELEMENTS. Below the heap's end the world is as it was. (LAID: no walk: one application.) -/
theorem Tryz.strings_Join (bk o c : Nat) (xs : List ByteArray) (sep : ByteArray) (w : World) (hcells : ∀ (j : Nat) x, xs[j]? = some x → w.cell? ⟨bk, o + j, none⟩ = some (.string x)) (hbk : bk < w.heap.size) (hN : xs.length ≤ 140737488355328) (hcap : xs.length ≤ c) (hlen : (Lib.join (xs.map (·.data.toList)) sep.data.toList).length ≤ 140737488355328) :
    Calls Tryz.prog 67 #[.slice (some ⟨bk, o, none⟩) xs.length c, .string sep] w fun e w' => e = .returned (.string ⟨(Lib.join (xs.map (·.data.toList)) sep.data.toList).toArray⟩) ∧ Below w.heap.size w w' := Any.strings_Join Tryz.lays156 Tryz.Builder_Extra_156 bk o c xs sep w hcells hbk hN hcap hlen

def Tryz.lays171_ren : Go.Shelf.Ren := ⟨fun | 171 => 66 | 243 => 93 | 246 => 112 | 283 => 124 | 284 => 125 | 285 => 126 | 286 => 127 | 129 => 136 | 317 => 135 | 318 => 137 | 319 => 138 | 320 => 139 | 337 => 142 | 338 => 143 | n => n, fun | 3 => 3 | 9 => 9 | 2 => 2 | 4 => 4 | 171 => 171 | 0 => 0 | 53 => 39 | 37 => 22 | 5 => 5 | 173 => 174 | 212 => 184 | 51 => 185 | 20 => 20 | 213 => 186 | 46 => 107 | 232 => 196 | 233 => 197 | n => n, fun | 17 => 3 | 18 => 6 | 19 => 7 | n => n⟩

theorem Tryz.lays171 : Go.Proofs.Lays.n171 Tryz.prog Tryz.lays171_ren := {
  mixed := by kernel_rfl
  f129 := Tryz.func136.trans (congrArg some (by kernel_rfl))
  f171 := Tryz.func66.trans (congrArg some (by kernel_rfl))
  f243 := Tryz.func93.trans (congrArg some (by kernel_rfl))
  f246 := Tryz.func112.trans (congrArg some (by kernel_rfl))
  f283 := Tryz.func124.trans (congrArg some (by kernel_rfl))
  f284 := Tryz.func125.trans (congrArg some (by kernel_rfl))
  f285 := Tryz.func126.trans (congrArg some (by kernel_rfl))
  f286 := Tryz.func127.trans (congrArg some (by kernel_rfl))
  f317 := Tryz.func135.trans (congrArg some (by kernel_rfl))
  f318 := Tryz.func137.trans (congrArg some (by kernel_rfl))
  f319 := Tryz.func138.trans (congrArg some (by kernel_rfl))
  f320 := Tryz.func139.trans (congrArg some (by kernel_rfl))
  f337 := Tryz.func142.trans (congrArg some (by kernel_rfl))
  f338 := Tryz.func143.trans (congrArg some (by kernel_rfl))
  t0 := Tryz.underlying0
  a0 := Tryz.isAgg0
  z0 := Tryz.sizeOf0
  v0 := Tryz.zeroValue0
  t2 := Tryz.underlying2
  a2 := Tryz.isAgg2
  z2 := Tryz.sizeOf2
  v2 := Tryz.zeroValue2
  t3 := Tryz.underlying3
  a3 := Tryz.isAgg3
  z3 := Tryz.sizeOf3
  v3 := Tryz.zeroValue3
  t4 := Tryz.underlying4
  a4 := Tryz.isAgg4
  z4 := Tryz.sizeOf4
  v4 := Tryz.zeroValue4
  t5 := Tryz.underlying5
  a5 := Tryz.isAgg5
  z5 := Tryz.sizeOf5
  v5 := Tryz.zeroValue5
  t9 := Tryz.underlying9
  a9 := Tryz.isAgg9
  z9 := Tryz.sizeOf9
  v9 := Tryz.zeroValue9
  t20 := Tryz.underlying20
  a20 := Tryz.isAgg20
  z20 := Tryz.sizeOf20
  v20 := Tryz.zeroValue20
  t37 := Tryz.underlying22
  a37 := Tryz.isAgg22
  z37 := Tryz.sizeOf22
  v37 := Tryz.zeroValue22
  t46 := Tryz.underlying107
  a46 := Tryz.isAgg107
  z46 := Tryz.sizeOf107
  v46 := Tryz.zeroValue107
  t51 := Tryz.underlying185
  a51 := Tryz.isAgg185
  z51 := Tryz.sizeOf185
  v51 := Tryz.zeroValue185
  t53 := Tryz.underlying39
  a53 := Tryz.isAgg39
  z53 := Tryz.sizeOf39
  v53 := Tryz.zeroValue39
  t171 := Tryz.underlying171
  a171 := Tryz.isAgg171
  z171 := Tryz.sizeOf171
  v171 := Tryz.zeroValue171
  t173 := Tryz.underlying174
  a173 := Tryz.isAgg174
  z173 := Tryz.sizeOf174
  v173 := Tryz.zeroValue174
  t212 := Tryz.underlying184
  a212 := Tryz.isAgg184
  z212 := Tryz.sizeOf184
  v212 := Tryz.zeroValue184
  t213 := Tryz.underlying186
  a213 := Tryz.isAgg186
  z213 := Tryz.sizeOf186
  t232 := Tryz.underlying196
  a232 := Tryz.isAgg196
  z232 := Tryz.sizeOf196
  v232 := Tryz.zeroValue196
  t233 := Tryz.underlying197
  a233 := Tryz.isAgg197
  z233 := Tryz.sizeOf197
  v233 := Tryz.zeroValue197
  g17 := by kernel_rfl
  g18 := by kernel_rfl
  g19 := by kernel_rfl }

open Go.RowKit Go.Sort Go.Lib in

/-- THE ROAD WITHOUT THE TABLE: 0 <= i < 100: NO PREMISE ON THE WORLD, AND THE WORLD IS AS IT WAS: a row that keeps its argument in that range need list no table ('laid = []'). (LAID: no walk: one application.) -/
theorem Tryz.strconv_Itoa_small (i : Nat) (hi : i < 100) (w : World) :
    Calls Tryz.prog 66 #[.int .i64 i] w fun e w' => e = .returned (.string ⟨(Lib.decDigits i).toArray⟩) ∧ w' = w := Any.strconv_Itoa_small Tryz.lays171 i hi w

def Tryz.laysPu14_ren : Go.Shelf.Ren := ⟨fun | 14 => 36 | 16 => 69 | 17 => 70 | 19 => 100 | 20 => 101 | 21 => 102 | 22 => 103 | 23 => 104 | 24 => 105 | 25 => 119 | 27 => 66 | 26 => 120 | 28 => 93 | 29 => 112 | 30 => 124 | 31 => 125 | 32 => 126 | 33 => 127 | 35 => 136 | 34 => 135 | 36 => 137 | 37 => 138 | 38 => 139 | 39 => 142 | 40 => 143 | n => n, fun | 9 => 9 | 3 => 3 | 22 => 39 | 24 => 71 | 25 => 72 | 4 => 4 | 34 => 145 | 5 => 5 | 36 => 107 | 37 => 22 | 0 => 0 | 39 => 148 | 21 => 21 | 44 => 166 | 47 => 159 | 50 => 182 | 48 => 180 | 2 => 2 | 52 => 171 | 55 => 174 | 59 => 184 | 60 => 185 | 20 => 20 | 61 => 186 | 65 => 196 | 66 => 197 | 67 => 142 | n => n, fun | 0 => 0 | 1 => 1 | 2 => 3 | 3 => 6 | 4 => 7 | n => n⟩

theorem Tryz.laysPu14 : Go.Proofs.LaysPu.n14 Tryz.prog Tryz.laysPu14_ren := {
  mixed := by kernel_rfl
  f14 := Tryz.func36.trans (congrArg some (by kernel_rfl))
  f16 := Tryz.func69.trans (congrArg some (by kernel_rfl))
  f17 := Tryz.func70.trans (congrArg some (by kernel_rfl))
  f19 := Tryz.func100.trans (congrArg some (by kernel_rfl))
  f20 := Tryz.func101.trans (congrArg some (by kernel_rfl))
  f21 := Tryz.func102.trans (congrArg some (by kernel_rfl))
  f22 := Tryz.func103.trans (congrArg some (by kernel_rfl))
  f23 := Tryz.func104.trans (congrArg some (by kernel_rfl))
  f24 := Tryz.func105.trans (congrArg some (by kernel_rfl))
  f25 := Tryz.func119.trans (congrArg some (by kernel_rfl))
  f26 := Tryz.func120.trans (congrArg some (by kernel_rfl))
  f27 := Tryz.func66.trans (congrArg some (by kernel_rfl))
  f28 := Tryz.func93.trans (congrArg some (by kernel_rfl))
  f29 := Tryz.func112.trans (congrArg some (by kernel_rfl))
  f30 := Tryz.func124.trans (congrArg some (by kernel_rfl))
  f31 := Tryz.func125.trans (congrArg some (by kernel_rfl))
  f32 := Tryz.func126.trans (congrArg some (by kernel_rfl))
  f33 := Tryz.func127.trans (congrArg some (by kernel_rfl))
  f34 := Tryz.func135.trans (congrArg some (by kernel_rfl))
  f35 := Tryz.func136.trans (congrArg some (by kernel_rfl))
  f36 := Tryz.func137.trans (congrArg some (by kernel_rfl))
  f37 := Tryz.func138.trans (congrArg some (by kernel_rfl))
  f38 := Tryz.func139.trans (congrArg some (by kernel_rfl))
  f39 := Tryz.func142.trans (congrArg some (by kernel_rfl))
  f40 := Tryz.func143.trans (congrArg some (by kernel_rfl))
  t0 := Tryz.underlying0
  a0 := Tryz.isAgg0
  z0 := Tryz.sizeOf0
  v0 := Tryz.zeroValue0
  i0 := by kernel_rfl
  t2 := Tryz.underlying2
  a2 := Tryz.isAgg2
  z2 := Tryz.sizeOf2
  v2 := Tryz.zeroValue2
  i2 := by kernel_rfl
  t3 := Tryz.underlying3
  a3 := Tryz.isAgg3
  z3 := Tryz.sizeOf3
  v3 := Tryz.zeroValue3
  i3 := by kernel_rfl
  t4 := Tryz.underlying4
  a4 := Tryz.isAgg4
  z4 := Tryz.sizeOf4
  v4 := Tryz.zeroValue4
  i4 := by kernel_rfl
  t5 := Tryz.underlying5
  a5 := Tryz.isAgg5
  z5 := Tryz.sizeOf5
  v5 := Tryz.zeroValue5
  i5 := by kernel_rfl
  t9 := Tryz.underlying9
  a9 := Tryz.isAgg9
  z9 := Tryz.sizeOf9
  v9 := Tryz.zeroValue9
  i9 := by kernel_rfl
  t20 := Tryz.underlying20
  a20 := Tryz.isAgg20
  z20 := Tryz.sizeOf20
  v20 := Tryz.zeroValue20
  i20 := by kernel_rfl
  t21 := Tryz.underlying21
  a21 := Tryz.isAgg21
  z21 := Tryz.sizeOf21
  v21 := Tryz.zeroValue21
  i21 := by kernel_rfl
  t22 := Tryz.underlying39
  a22 := Tryz.isAgg39
  z22 := Tryz.sizeOf39
  v22 := Tryz.zeroValue39
  i22 := by kernel_rfl
  t24 := Tryz.underlying71
  a24 := Tryz.isAgg71
  z24 := Tryz.sizeOf71
  v24 := Tryz.zeroValue71
  i24 := by kernel_rfl
  t25 := Tryz.underlying72
  a25 := Tryz.isAgg72
  z25 := Tryz.sizeOf72
  v25 := Tryz.zeroValue72
  i25 := by kernel_rfl
  t34 := Tryz.underlying145
  a34 := Tryz.isAgg145
  z34 := Tryz.sizeOf145
  v34 := Tryz.zeroValue145
  i34 := by kernel_rfl
  c34 := by kernel_rfl
  t36 := Tryz.underlying107
  a36 := Tryz.isAgg107
  z36 := Tryz.sizeOf107
  v36 := Tryz.zeroValue107
  i36 := by kernel_rfl
  t37 := Tryz.underlying22
  a37 := Tryz.isAgg22
  z37 := Tryz.sizeOf22
  v37 := Tryz.zeroValue22
  i37 := by kernel_rfl
  t39 := Tryz.underlying148
  a39 := Tryz.isAgg148
  z39 := Tryz.sizeOf148
  v39 := Tryz.zeroValue148
  i39 := by kernel_rfl
  t44 := Tryz.underlying166
  a44 := Tryz.isAgg166
  z44 := Tryz.sizeOf166
  v44 := Tryz.zeroValue166
  i44 := by kernel_rfl
  t47 := Tryz.underlying159
  a47 := Tryz.isAgg159
  z47 := Tryz.sizeOf159
  v47 := Tryz.zeroValue159
  i47 := by kernel_rfl
  t48 := Tryz.underlying180
  a48 := Tryz.isAgg180
  z48 := Tryz.sizeOf180
  v48 := Tryz.zeroValue180
  i48 := by kernel_rfl
  t50 := Tryz.underlying182
  a50 := Tryz.isAgg182
  z50 := Tryz.sizeOf182
  v50 := Tryz.zeroValue182
  i50 := by kernel_rfl
  t52 := Tryz.underlying171
  a52 := Tryz.isAgg171
  z52 := Tryz.sizeOf171
  v52 := Tryz.zeroValue171
  i52 := by kernel_rfl
  t55 := Tryz.underlying174
  a55 := Tryz.isAgg174
  z55 := Tryz.sizeOf174
  v55 := Tryz.zeroValue174
  i55 := by kernel_rfl
  t59 := Tryz.underlying184
  a59 := Tryz.isAgg184
  z59 := Tryz.sizeOf184
  v59 := Tryz.zeroValue184
  i59 := by kernel_rfl
  t60 := Tryz.underlying185
  a60 := Tryz.isAgg185
  z60 := Tryz.sizeOf185
  v60 := Tryz.zeroValue185
  i60 := by kernel_rfl
  t61 := Tryz.underlying186
  a61 := Tryz.isAgg186
  z61 := Tryz.sizeOf186
  t65 := Tryz.underlying196
  a65 := Tryz.isAgg196
  z65 := Tryz.sizeOf196
  v65 := Tryz.zeroValue196
  i65 := by kernel_rfl
  t66 := Tryz.underlying197
  a66 := Tryz.isAgg197
  z66 := Tryz.sizeOf197
  v66 := Tryz.zeroValue197
  i66 := by kernel_rfl
  t67 := Tryz.underlying142
  a67 := Tryz.isAgg142
  z67 := Tryz.sizeOf142
  v67 := Tryz.zeroValue142
  i67 := by kernel_rfl
  g0 := by kernel_rfl
  m0 := by kernel_rfl
  g1 := by kernel_rfl
  m1 := by kernel_rfl
  g2 := by kernel_rfl
  m2 := by kernel_rfl
  g3 := by kernel_rfl
  m3 := by kernel_rfl
  g4 := by kernel_rfl
  m4 := by kernel_rfl }

open Go.RowKit in

/-- strconv.ParseUint(s, 10, 8), AT EVERY STRING THAT SPELLS A uint8 ('Lib.parseUintB 8 s.data.toList = .ok u'): u, AND NO ERROR. (LAID: no walk: one application.) -/
theorem Tryz.strconv_ParseUint_10_at8_ok (s : ByteArray) (hmax : s.size ≤ 9223372036854775806) (u : Nat) (h : Lib.parseUintB 8 s.data.toList = .ok u) (w : World) :
    Calls Tryz.prog 36 #[.string s, .int .i64 10, .int .i64 8] w fun e w' => e = .returned (.tuple #[.int .u64 u, .nilIface]) ∧ (w' = w ∨ w' = Lib.bytesWorld w 5 s) := Any.strconv_ParseUint_10_at8_ok Tryz.laysPu14 s hmax u h w

def Tryz.lays146_ren : Go.Shelf.Ren := ⟨fun | 146 => 35 | 221 => 68 | 268 => 97 | 138 => 98 | 143 => 99 | 195 => 115 | 197 => 116 | 218 => 117 | 219 => 118 | 260 => 130 | 217 => 131 | 225 => 132 | 224 => 133 | 267 => 134 | 266 => 140 | 314 => 141 | n => n, fun | 9 => 9 | 31 => 68 | 3 => 3 | 4 => 4 | 0 => 0 | 105 => 161 | 21 => 21 | 5 => 5 | 46 => 107 | 119 => 189 | 139 => 192 | 138 => 191 | 146 => 193 | 51 => 185 | n => n, fun | 1 => 2 | 3 => 4 | 4 => 5 | n => n⟩

theorem Tryz.lays146 : Go.Proofs.Lays.n146 Tryz.prog Tryz.lays146_ren := {
  mixed := by kernel_rfl
  f138 := Tryz.func98.trans (congrArg some (by kernel_rfl))
  f143 := Tryz.func99.trans (congrArg some (by kernel_rfl))
  f146 := Tryz.func35.trans (congrArg some (by kernel_rfl))
  f195 := Tryz.func115.trans (congrArg some (by kernel_rfl))
  f197 := Tryz.func116.trans (congrArg some (by kernel_rfl))
  f217 := Tryz.func131.trans (congrArg some (by kernel_rfl))
  f218 := Tryz.func117.trans (congrArg some (by kernel_rfl))
  f219 := Tryz.func118.trans (congrArg some (by kernel_rfl))
  f221 := Tryz.func68.trans (congrArg some (by kernel_rfl))
  f224 := Tryz.func133.trans (congrArg some (by kernel_rfl))
  f225 := Tryz.func132.trans (congrArg some (by kernel_rfl))
  f260 := Tryz.func130.trans (congrArg some (by kernel_rfl))
  f266 := Tryz.func140.trans (congrArg some (by kernel_rfl))
  f267 := Tryz.func134.trans (congrArg some (by kernel_rfl))
  f268 := Tryz.func97.trans (congrArg some (by kernel_rfl))
  f314 := Tryz.func141.trans (congrArg some (by kernel_rfl))
  t0 := Tryz.underlying0
  a0 := Tryz.isAgg0
  z0 := Tryz.sizeOf0
  v0 := Tryz.zeroValue0
  t3 := Tryz.underlying3
  a3 := Tryz.isAgg3
  z3 := Tryz.sizeOf3
  v3 := Tryz.zeroValue3
  t4 := Tryz.underlying4
  a4 := Tryz.isAgg4
  z4 := Tryz.sizeOf4
  v4 := Tryz.zeroValue4
  t5 := Tryz.underlying5
  a5 := Tryz.isAgg5
  z5 := Tryz.sizeOf5
  v5 := Tryz.zeroValue5
  t9 := Tryz.underlying9
  a9 := Tryz.isAgg9
  z9 := Tryz.sizeOf9
  v9 := Tryz.zeroValue9
  t21 := Tryz.underlying21
  a21 := Tryz.isAgg21
  z21 := Tryz.sizeOf21
  v21 := Tryz.zeroValue21
  t31 := Tryz.underlying68
  a31 := Tryz.isAgg68
  z31 := Tryz.sizeOf68
  v31 := Tryz.zeroValue68
  t46 := Tryz.underlying107
  a46 := Tryz.isAgg107
  z46 := Tryz.sizeOf107
  v46 := Tryz.zeroValue107
  t51 := Tryz.underlying185
  a51 := Tryz.isAgg185
  z51 := Tryz.sizeOf185
  v51 := Tryz.zeroValue185
  t105 := Tryz.underlying161
  a105 := Tryz.isAgg161
  z105 := Tryz.sizeOf161
  v105 := Tryz.zeroValue161
  t119 := Tryz.underlying189
  a119 := Tryz.isAgg189
  z119 := Tryz.sizeOf189
  t138 := Tryz.underlying191
  a138 := Tryz.isAgg191
  z138 := Tryz.sizeOf191
  v138 := Tryz.zeroValue191
  t139 := Tryz.underlying192
  a139 := Tryz.isAgg192
  z139 := Tryz.sizeOf192
  v139 := Tryz.zeroValue192
  t146 := Tryz.underlying193
  a146 := Tryz.isAgg193
  z146 := Tryz.sizeOf193
  v146 := Tryz.zeroValue193
  g1 := by kernel_rfl
  g3 := by kernel_rfl
  g4 := by kernel_rfl }

open Go.RowKit Go.Lib in

/-- strings.Split. (LAID: no walk: one application.) -/
theorem Tryz.strings_Split (s sep : ByteArray) (m : Int) (w : World) (hs : s.size < 4294967281) (hm : w.cell? ⟨2, 0, none⟩ = some (.int .i64 m)) (h1 : 1 ≤ sep.size) :
    Calls Tryz.prog 35 #[.string s, .string sep] w fun e w' =>
      e = .returned (.slice (some ⟨w.heap.size, 0, none⟩) (Lib.countB s sep + 1) (Lib.countB s sep + 1)) ∧ w' = w.alloc (.cells ((Lib.splitB sep 0 (Lib.countB s sep) s).map Value.string).toArray 9) := Any.strings_Split Tryz.lays146 (by kernel_rfl) s sep m w hs hm h1

end Go.Proofs

/- The library's functions for texts, by the shelf's contracts (the seat's text Sh is laid by lay-shelf.mjs, shelf44.py and lay-plain.mjs). -/

namespace Go.V

variable [BW]

open Go.RowKit

set_option linter.unusedSimpArgs false

set_option linter.unusedVariables false

theorem Mem.beyond {w0 w w' : World} {H : Hp} {n : Nat} (h : Mem w0 H n w) (hb : Below w.heap.size w w') : Mem w0 H w'.heap.size w' := by
  have hs := h.size
  have hbs := h.base
  have hsz := hb.size
  refine ⟨rfl, by omega, hb.os.trans h.os, hb.tape.trans h.tape, hb.output.trans h.output, fun b k hbk => ?_, fun b hb' hn => ?_, fun a ha => ?_, fun b off v hv => ?_⟩
  · rw [hb.block b (by rw [hs]; exact h.lt hbk)]; exact h.blk b k hbk
  · rw [hb.block b (by omega)]; exact h.frame b hb' hn
  · rw [hb.frozen (show a.block < w.heap.size by omega)]; exact h.frz a ha
  · obtain ⟨h1, h2, h3⟩ := h.ro b off v hv
    exact ⟨h1, h2, (hb.cell (show (⟨b, off, none⟩ : Addr).block < w.heap.size by (try dsimp only); omega)).trans h3⟩

theorem FnS.same {P : Program} {f : FuncId} {args : List AV} {H : Hp} {n : Nat} (v : AV) (hc : Callable P f) (h : ∀ w, Calls P f (AV.concs args).toArray w fun e w' => e = .returned v.conc ∧ w' = w) : FnS P f args H n (fun r H' _ => r = v ∧ H' = H) :=
  ⟨hc, fun w0 w hw => (h w).mono fun e w' q => ⟨v, H, n, q.1, Nat.le_refl _, by rw [q.2]; exact hw, rfl, rfl⟩⟩

/-- A call that leaves all memory that was there. -/
theorem FnS.below {P : Program} {f : FuncId} {args : List AV} {H : Hp} {n : Nat} (v : AV) (hc : Callable P f) (h : ∀ w0 w, Mem w0 H n w → Calls P f (AV.concs args).toArray w fun e w' => e = .returned v.conc ∧ Below w.heap.size w w') : FnS P f args H n (fun r H' _ => r = v ∧ H' = H) :=
  ⟨hc, fun w0 w hw => (h w0 w hw).mono fun e w' q => ⟨v, H, w'.heap.size, q.1, by have := q.2.size; rw [hw.size] at this; exact this, hw.beyond q.2, rfl, rfl⟩⟩

/-- A call that makes one block. -/
theorem FnS.makes {P : Program} {f : FuncId} {args : List AV} {H : Hp} {n : Nat} (v : AV) (k : Blk) (hc : Callable P f) (h : ∀ w0 w, Mem w0 H n w → Calls P f (AV.concs args).toArray w fun e w' => e = .returned v.conc ∧ w' = w.alloc k.obj) : FnS P f args H n (fun r H' n' => r = v ∧ H' = (n, k) :: H ∧ n' = n + 1) :=
  ⟨hc, fun w0 w hw => (h w0 w hw).mono fun e w' q => ⟨v, (n, k) :: H, n + 1, q.1, Nat.le_succ _, by rw [q.2]; exact hw.push k, rfl, rfl, rfl⟩⟩

end Go.V

namespace Go.Proofs.YtgnphaopeplfbaaGreatDoor

open Go.V

variable [BW]

set_option linter.unusedSimpArgs false

set_option linter.unusedVariables false

set_option maxHeartbeats 4000000

theorem lib_Itoa (i : Nat) (H : Hp) (n : Nat) (hi : i < 100) :
    FnS Tryz.prog 66 [i64 (i : Nat)] H n (fun r H' _ => r = .s (.str ⟨(Lib.decDigits i).toArray⟩) ∧ H' = H) :=
  FnS.same _ ⟨_, Tryz.func66, rfl, by decide⟩ (fun w => Tryz.strconv_Itoa_small i hi w)

theorem lib_Join (b o cap m : Nat) (xs : List ByteArray) (k : Blk) (H : Hp) (n : Nat) (hb : H.get b = some k) (ho : o + cap ≤ k.size) (hm : xs.length = m) (hmc : m ≤ cap) (hm2 : m ≤ 1000) (hx : ∀ (j : Nat) x, xs[j]? = some x → k.c (o + j) = .str x) (hl : (Lib.join (xs.map (·.data.toList)) [44]).length ≤ 1000) :
    FnS Tryz.prog 67 [.s (.slc b o m cap), .s (.str ⟨⟨[44]⟩⟩)] H n (fun r H' _ => r = .s (.str ⟨(Lib.join (xs.map (·.data.toList)) [44]).toArray⟩) ∧ H' = H) := by
  subst hm
  exact FnS.below _ ⟨_, Tryz.func67, rfl, by decide⟩ (fun w0 w hw => Tryz.strings_Join b o cap xs ⟨⟨[44]⟩⟩ w (fun j x hj => by
    have hj' : j < xs.length := by
      rw [List.getElem?_eq_some_iff] at hj; exact hj.1
    have := hw.cell (off := o + j) hb (by omega)
    rw [hx j x hj] at this
    exact this) (by have := hw.lt hb; rw [hw.size]; exact this) (by omega) (by omega) (by show (Lib.join (xs.map (·.data.toList)) [44]).length ≤ _; omega))

theorem lib_ParseUint (s : ByteArray) (u : Nat) (H : Hp) (n : Nat) (hs : s.size ≤ 1000) (h : Lib.parseUintB 8 s.data.toList = .ok u) :
    FnS Tryz.prog 36 [.s (.str s), i64 10, i64 8] H n (fun r H' _ => r = .tup [.s (.int .u64 u), .s .nilifc] ∧ H' = H) :=
  FnS.below _ ⟨_, Tryz.func36, rfl, by decide⟩ (fun w0 w hw => (Tryz.strconv_ParseUint_10_at8_ok s (by omega) u h w).mono fun e w' q => ⟨q.1, by
    rcases q.2 with e1 | e1
    · rw [e1]; exact RowKit.Below.refl _ _
    · rw [e1]; exact Lib.bytesWorld_below _ _ _⟩)

theorem lib_Split (s : ByteArray) (m : Int) (H : Hp) (n : Nat) (hs : s.size ≤ 1000) (hm : BW.cell 2 0 = some (.int .i64 m)) :
    FnS Tryz.prog 35 [.s (.str s), .s (.str ⟨⟨[44]⟩⟩)] H n (fun r H' n' => r = .s (.slc n 0 (Lib.countB s cma + 1) (Lib.countB s cma + 1)) ∧ H' = (n, ⟨Lib.countB s cma + 1, fun j => .str ((Lib.splitB cma 0 (Lib.countB s cma) s).getD j ByteArray.empty), 9⟩) :: H ∧ n' = n + 1) :=
  FnS.makes _ _ ⟨_, Tryz.func35, rfl, by decide⟩ (fun w0 w hw => (Tryz.strings_Split s cma m w (by omega) ((hw.ro _ _ _ hm).2.2) (by decide)).mono fun e w' q => ⟨by rw [q.1, hw.size]; rfl, by
    rw [q.2]
    congr 1
    unfold Blk.obj
    (try dsimp only)
    congr 1
    have hl := Lib.splitB_all cma (by decide) 0 _ s rfl
    apply arrC_ext
    · simp [hl]
    · intro i hi
      (try dsimp only)
      simp only [List.getElem?_toArray, List.getElem?_map, List.getD_eq_getElem?_getD]
      rw [List.getElem?_eq_getElem (by omega)]
      rfl⟩)

end Go.Proofs.YtgnphaopeplfbaaGreatDoor

/- Texts of vectors, the program's. -/

namespace Go.V

variable [BW]

/-- The text of one number. -/
def txc (v : Nat → Int) (i : Nat) : SV := .str ⟨(Lib.decDigits (v i).toNat).toArray⟩

section

variable {P : Program} {N m : Nat} {D : Md} {d : Option Nat} {l : List Ins} {e : Env} {H : Hp} {n : Nat}

theorem RS.neqs {x y : X} {a b : ByteArray} (hx : x.ev e = some (.s (.str a))) (hy : y.ev e = some (.s (.str b))) (h : LS P N m D l (putD d (.s (.bool (!(a.toList == b.toList)))) e) H n) : LS P N m D (⟨d, none, .bin .neq x y⟩ :: l) e H n :=
  RS.bin hx hy h

end

end Go.V

namespace Go.Proofs.YtgnphaopeplfbaaGreatDoor

open Go.V

variable [BW]

set_option linter.unusedSimpArgs false

set_option linter.unusedVariables false

set_option maxHeartbeats 4000000

/-- impl.vectorText -/
def ir34 : Cd := (.seq (.reg [⟨some 3,none,.box 25 (.t 1)⟩,⟨some 4,none,.mov (.c (.str ⟨⟨[]⟩⟩))⟩]) (.seq (.reg [⟨some 8,none,.bsl 9 0 1 [(1,(.str ⟨⟨[]⟩⟩))] []⟩,⟨some 5,none,.mov (.t 8)⟩]) (.seq (.seq (.reg [⟨some 9,none,.mov (.t 0)⟩,⟨some 10,none,.sla 8 1 (.t 3) none (some (.t 9)) none⟩,⟨some 11,none,.len (.t 10)⟩,⟨some 12,none,.mov (.c (.int .i64 0))⟩]) (.block 0 (.loop (.seq (.reg [⟨some 13,none,.bin .lss (.t 12) (.t 11)⟩]) (.seq (.cond (.t 13) .skip (.exit 0)) (.seq (.block 1 (.seq (.reg [⟨some 14,none,.isl 1 (.t 10) (.t 12)⟩,⟨some 15,none,.ld none (.t 14)⟩,⟨some 7,none,.mov (.t 15)⟩]) (.reg [⟨some 16,none,.mov (.t 5)⟩,⟨some 17,none,.mov (.t 7)⟩,⟨some 18,none,.cv .i64 (.t 17)⟩,⟨some 19,none,.call 66 [(.t 18)]⟩,⟨some 20,none,.bsl 9 1 1 [(1,(.str ⟨⟨[]⟩⟩))] [(0,1,(.t 19))]⟩,⟨some 21,none,.app 9 1 16 [(1,(.str ⟨⟨[]⟩⟩))] (.t 16) (.t 20)⟩,⟨some 5,none,.mov (.t 21)⟩]))) (.reg [⟨some 22,none,.bin .add (.t 12) (.c (.int .i64 1))⟩,⟨some 12,none,.mov (.t 22)⟩]))))))) (.seq (.reg [⟨some 23,none,.mov (.t 5)⟩,⟨some 24,none,.call 67 [(.t 23),(.c (.str ⟨⟨[44]⟩⟩))]⟩,⟨some 4,none,.mov (.t 24)⟩]) .ret))))

set_option maxRecDepth 100000 in
theorem tr34 : trFn Tryz.prog Tryz.f34 = some (25, ir34, [.tmp 4]) := by kernel_rfl

theorem impl_vectorText (a : Nat) (v : Nat → Int) (H : Hp) (n : Nat) (ha1 : 1 ≤ a) (ha : a ≤ 8) (hv : ∀ i, i < a → 0 ≤ v i ∧ v i < 100) :
    FnS Tryz.prog 34 [i64 a, .arr 8 (bys v)] H n (fun r H' _ => r = .s (.str (txt a v)) ∧ H' = H) := by
  refine FnS.of_body Tryz.func34 tr34 (by simp) (fun hf => ?_)
  dsimp only [argEnv]
  unfold ir34
  (repeat first|refine zG ?_|(refine LS.nilO ?_;intro nq hnq hltq;try refine zU ?_)|(refine MS.new ?_;intro bq hbq hbqf;try refine zU ?_)|(refine MS.nil ?_;intro nq hnq hltq;have hlq:=hltq _ _ (Hp.get_eq _ _ _);clear hltq;try refine zU ?_)|(refine LS.nilQ ?_;try with_reducible intro nq hnq;try refine zU ?_))
  refine RS.slaTo (by exact rfl) (by exact rfl) rfl (by omega) (by omega) ?_
  (repeat first|refine zG ?_|(refine LS.nilO ?_;intro nq hnq hltq;try refine zU ?_)|(refine MS.new ?_;intro bq hbq hbqf;try refine zU ?_)|(refine MS.nil ?_;intro nq hnq hltq;have hlq:=hltq _ _ (Hp.get_eq _ _ _);clear hltq;try refine zU ?_)|(refine LS.nilQ ?_;try with_reducible intro nq hnq;try refine zU ?_))
  refine CS.weak (e1 := [(12, i64 ((0 : Nat) : Int)), (11, i64 (a : Nat)), (10, .s (.slc n 0 a 8)), (5, .s (.slc (n + 1) 0 0 0))]) (by (repeat first | exact trivial | refine And.intro rfl ?_)) (Drops.refl _ _) ?_
  refine CS.loop (fun kk e H1 n1 => ∃ i v5 b5, i ≤ a ∧ kk = a - i ∧ e = [(12, i64 (i : Nat)), (11, i64 (a : Nat)), (10, .s (.slc n 0 a 8)), (5, .s v5)] ∧ SL H1 v5 i (txc v) b5 ∧ n + 1 ≤ b5 ∧ b5 < n1 ∧ (∃ k, H1.get n = some k ∧ k.size = 8 ∧ ∀ q, q < 8 → k.c q = .int .u8 (v q)) ∧ (∀ x, x < n → H1.get x = H.get x) ∧ ∀ x, n1 ≤ x → H1.get x = none) a ?_ ?_
  · exact ⟨0, .slc (n + 1) 0 0 0, n + 1, by omega, rfl, rfl, .inr ⟨0, 0, _, rfl, by exact zH, by simp, by omega, fun i hi => by omega⟩, by omega, by omega, ⟨_, by exact zH, rfl, fun q hq => rfl⟩, fun x hx => by simp (disch := omega) only [Hp.get_ne], fun x hx => by simp (disch := omega) only [Hp.get_ne]; exact hf x (by omega)⟩
  rintro kk ee H1 n1 hn1 ⟨i, v5, b5, hi, rfl, rfl, hV5, hb5, hb5n, ⟨k, gk, sk, ck⟩, hlow, hfr⟩
  (repeat first|refine zG ?_|(refine LS.nilO ?_;intro nq hnq hltq;try refine zU ?_)|(refine MS.new ?_;intro bq hbq hbqf;try refine zU ?_)|(refine MS.nil ?_;intro nq hnq hltq;have hlq:=hltq _ _ (Hp.get_eq _ _ _);clear hltq;try refine zU ?_)|(refine LS.nilQ ?_;try with_reducible intro nq hnq;try refine zU ?_))
  refine zI ?_ ?_<;>intro h1
  · have hi' : i < a := by omega
    have hvi := hv i hi'
    have ck' : k.c (0 + i * 1) = .int .u8 (v i) := by rw [Nat.zero_add, Nat.mul_one]; exact ck i (by omega)
    (repeat first|refine zG ?_|(refine LS.nilO ?_;intro nq hnq hltq;try refine zU ?_)|(refine MS.new ?_;intro bq hbq hbqf;try refine zU ?_)|(refine MS.nil ?_;intro nq hnq hltq;have hlq:=hltq _ _ (Hp.get_eq _ _ _);clear hltq;try refine zU ?_)|(refine LS.nilQ ?_;try with_reducible intro nq hnq;try refine zU ?_))
    refine RS.call rfl ((FnS.args (by rw [show v i = ((v i).toNat : Int) by omega]; rfl) (lib_Itoa (v i).toNat _ _ (by omega))).mono ?_)
    rintro r H2 n2 hn2 ⟨rfl, rfl⟩
    (repeat first|refine zG ?_|(refine LS.nilO ?_;intro nq hnq hltq;try refine zU ?_)|(refine MS.new ?_;intro bq hbq hbqf;try refine zU ?_)|(refine MS.nil ?_;intro nq hnq hltq;have hlq:=hltq _ _ (Hp.get_eq _ _ _);clear hltq;try refine zU ?_)|(refine LS.nilQ ?_;try with_reducible intro nq hnq;try refine zU ?_))
    refine RS.appS (w := txc v i) (by exact rfl) (by exact rfl) (hV5.keep (by simp (disch := omega) only [Hp.get_ne])) (by exact zH) rfl (by simp [put1, txc]) (by omega) (by omega) (by omega) ?_
    intro v' b' H' n5 hV hb' hl' hn5 hn5' hg'
    (repeat first|refine zG ?_|(refine LS.nilO ?_;intro nq hnq hltq;try refine zU ?_)|(refine MS.new ?_;intro bq hbq hbqf;try refine zU ?_)|(refine MS.nil ?_;intro nq hnq hltq;have hlq:=hltq _ _ (Hp.get_eq _ _ _);clear hltq;try refine zU ?_)|(refine LS.nilQ ?_;try with_reducible intro nq hnq;try refine zU ?_))
    exact ⟨a - (i + 1), [(12, i64 ((i + 1 : Nat) : Int)), (11, i64 (a : Nat)), (10, .s (.slc n 0 a 8)), (5, .s v')], H', by omega, by (repeat first | exact trivial | refine And.intro rfl ?_), Drops.refl _ _, i + 1, v', b', by omega, rfl, rfl, hV.same (fun j hj => by
      unfold snS
      by_cases e : j = i
      · rw [if_pos e, e]
      · rw [if_neg e]), by omega, hl', ⟨k, by rw [hg' _ (by omega)]; simp (disch := omega) only [Hp.get_ne]; exact gk, sk, ck⟩, fun x hx => by rw [hg' x (by omega)]; simp (disch := omega) only [Hp.get_ne]; exact hlow x hx, fun x hx => by rw [hg' x (by omega)]; simp (disch := omega) only [Hp.get_ne]; exact hfr x (by omega)⟩
  · obtain rfl : i = a := by omega
    obtain ⟨o, cap, k5, rfl, g5, ho5, hc5, c5⟩ := hV5.resolve_left (by omega)
    have em : ((List.range i).map fun j => (⟨(Lib.decDigits (v j).toNat).toArray⟩ : ByteArray)).map (·.data.toList) = (List.range i).map fun j => Lib.decDigits (v j).toNat := by
      rw [List.map_map]
      exact List.map_congr_left (fun j _ => by simp)
    have hsz := txt_size hv
    rw [show (txt i v).size = (txt i v).data.toList.length from rfl, txt_data] at hsz
    (repeat first|refine zG ?_|(refine LS.nilO ?_;intro nq hnq hltq;try refine zU ?_)|(refine MS.new ?_;intro bq hbq hbqf;try refine zU ?_)|(refine MS.nil ?_;intro nq hnq hltq;have hlq:=hltq _ _ (Hp.get_eq _ _ _);clear hltq;try refine zU ?_)|(refine LS.nilQ ?_;try with_reducible intro nq hnq;try refine zU ?_))
    refine RS.call rfl ((lib_Join b5 o cap i ((List.range i).map fun j => ⟨(Lib.decDigits (v j).toNat).toArray⟩) k5 _ _ g5 ho5 (by simp) hc5 (by omega) (fun j x hj => ?_) (by rw [em]; omega)).mono ?_)
    · obtain ⟨hj1, hj2⟩ := List.getElem?_eq_some_iff.1 hj
      simp only [List.length_map, List.length_range] at hj1
      rw [c5 j hj1, ← hj2]
      simp [txc]
    rintro r H2 n2 hn2 ⟨rfl, rfl⟩
    rw [em]
    (repeat first|refine zG ?_|(refine LS.nilO ?_;intro nq hnq hltq;try refine zU ?_)|(refine MS.new ?_;intro bq hbq hbqf;try refine zU ?_)|(refine MS.nil ?_;intro nq hnq hltq;have hlq:=hltq _ _ (Hp.get_eq _ _ _);clear hltq;try refine zU ?_)|(refine LS.nilQ ?_;try with_reducible intro nq hnq;try refine zU ?_))
    exact ⟨_, H, rfl, Drops.low hf hlow, rfl, rfl⟩

theorem zq8 {q : Nat} (hq : q < 8) : Zs.c [(8, SV.int .u8 0)] q = bys (fun _ => 0) q := by
  rcases (show q = 0 ∨ q = 1 ∨ q = 2 ∨ q = 3 ∨ q = 4 ∨ q = 5 ∨ q = 6 ∨ q = 7 by omega) with rfl | rfl | rfl | rfl | rfl | rfl | rfl | rfl <;> rfl

/-- impl.VectorText -/
def ir12 : Cd := (.seq (.reg [⟨some 5,none,.box 25 (.t 2)⟩,⟨some 6,none,.mov (.c (.str ⟨⟨[]⟩⟩))⟩,⟨some 7,none,.mov (.c (.int .i64 0))⟩]) (.seq (.seq (.reg [⟨some 8,none,.mov (.t 0)⟩,⟨some 9,none,.mov (.t 1)⟩,⟨some 10,none,.ld (some 8) (.t 5)⟩,⟨some 11,none,.call 33 [(.t 8),(.t 9),(.t 10)]⟩,⟨some 12,none,.un .not (.t 11)⟩]) (.cond (.t 12) (.seq (.reg [⟨some 6,none,.mov (.c (.str ⟨⟨[]⟩⟩))⟩,⟨some 7,none,.mov (.c (.int .i64 1))⟩]) .ret) .skip)) (.seq (.reg [⟨some 13,none,.mov (.t 1)⟩,⟨some 14,none,.ld (some 8) (.t 5)⟩,⟨some 15,none,.call 34 [(.t 13),(.t 14)]⟩,⟨some 6,none,.mov (.t 15)⟩,⟨some 7,none,.mov (.c (.int .i64 0))⟩]) .ret)))

set_option maxRecDepth 100000 in
theorem tr12 : trFn Tryz.prog Tryz.f12 = some (16, ir12, [.tmp 6, .tmp 7]) := by kernel_rfl

theorem impl_VectorText (p : Int) (a : Nat) (v : Nat → Int) (H : Hp) (n : Nat) (hv : isBy 8 v) (hq : sz p a ∧ isVec p a v) :
    FnS Tryz.prog 12 [i64 p, i64 a, .arr 8 (bys v)] H n (fun r H' _ => r = .tup [.s (.str (txt a v)), i64 0] ∧ H' = H) := by
  have hs := hq.1
  have hp := isP_le hs.1
  refine FnS.of_body Tryz.func12 tr12 (by simp) (fun hf => ?_)
  dsimp only [argEnv]
  unfold ir12
  (repeat first|refine zG ?_|(refine LS.nilO ?_;intro nq hnq hltq;try refine zU ?_)|(refine MS.new ?_;intro bq hbq hbqf;try refine zU ?_)|(refine MS.nil ?_;intro nq hnq hltq;have hlq:=hltq _ _ (Hp.get_eq _ _ _);clear hltq;try refine zU ?_)|(refine LS.nilQ ?_;try with_reducible intro nq hnq;try refine zU ?_))
  refine RS.call rfl ((impl_IsVector p a v _ _ hv).mono ?_)
  rintro r H2 n2 hn2 ⟨rfl, rfl⟩
  rw [tb_true hq]
  (repeat first|refine zG ?_|(refine LS.nilO ?_;intro nq hnq hltq;try refine zU ?_)|(refine MS.new ?_;intro bq hbq hbqf;try refine zU ?_)|(refine MS.nil ?_;intro nq hnq hltq;have hlq:=hltq _ _ (Hp.get_eq _ _ _);clear hltq;try refine zU ?_)|(refine LS.nilQ ?_;try with_reducible intro nq hnq;try refine zU ?_))
  refine RS.call rfl ((impl_vectorText a v _ _ (by have := hs.2.1; omega) (by have := hs.2.2; omega) (fun i hi => ⟨(hv i (by have := hs.2.2; omega)).1, by have := (hq.2 i (by have := hs.2.2; omega)).1; omega⟩)).mono ?_)
  rintro r H2 n2 hn2 ⟨rfl, rfl⟩
  (repeat first|refine zG ?_|(refine LS.nilO ?_;intro nq hnq hltq;try refine zU ?_)|(refine MS.new ?_;intro bq hbq hbqf;try refine zU ?_)|(refine MS.nil ?_;intro nq hnq hltq;have hlq:=hltq _ _ (Hp.get_eq _ _ _);clear hltq;try refine zU ?_)|(refine LS.nilQ ?_;try with_reducible intro nq hnq;try refine zU ?_))
  exact ⟨_, H, rfl, by exact zD, rfl, rfl⟩

/-- impl.ParseVector -/
def ir13 : Cd := (.seq (.reg [⟨some 6,none,.new 25 [(8,(.int .u8 0))]⟩,⟨some 7,none,.mov (.c (.int .i64 0))⟩]) (.seq (.seq (.reg [⟨some 14,none,.mov (.t 0)⟩,⟨some 15,none,.mov (.t 1)⟩,⟨some 16,none,.build 8 [(8,(.int .u8 0))] []⟩,⟨some 17,none,.call 33 [(.t 14),(.t 15),(.t 16)]⟩,⟨some 18,none,.un .not (.t 17)⟩]) (.cond (.t 18) (.seq (.reg [⟨some 19,none,.build 8 [(8,(.int .u8 0))] []⟩,⟨none,none,.st 8 (.t 6) (.t 19)⟩,⟨some 7,none,.mov (.c (.int .i64 1))⟩]) .ret) .skip)) (.seq (.reg [⟨some 20,none,.build 8 [(8,(.int .u8 0))] []⟩,⟨some 21,none,.mov (.t 2)⟩,⟨some 22,none,.call 35 [(.t 21),(.c (.str ⟨⟨[44]⟩⟩))]⟩,⟨some 8,none,.new 25 [(8,(.int .u8 0))]⟩,⟨none,none,.st 8 (.t 8) (.t 20)⟩,⟨some 9,none,.mov (.t 22)⟩]) (.seq (.seq (.reg [⟨some 23,none,.mov (.t 9)⟩,⟨some 24,none,.len (.t 23)⟩,⟨some 25,none,.mov (.c (.int .i64 0))⟩]) (.block 0 (.loop (.seq (.reg [⟨some 26,none,.bin .lss (.t 25) (.t 24)⟩]) (.seq (.cond (.t 26) .skip (.exit 0)) (.seq (.block 1 (.seq (.reg [⟨some 27,none,.mov (.t 25)⟩,⟨some 28,none,.isl 1 (.t 23) (.t 25)⟩,⟨some 29,none,.ld none (.t 28)⟩,⟨some 10,none,.mov (.t 27)⟩,⟨some 11,none,.mov (.t 29)⟩]) (.seq (.reg [⟨some 31,none,.mov (.t 11)⟩,⟨some 32,none,.call 36 [(.t 31),(.c (.int .i64 10)),(.c (.int .i64 8))]⟩,⟨some 30,none,.mov (.t 32)⟩,⟨some 33,none,.ex (.t 30) 0⟩,⟨some 34,none,.ex (.t 30) 1⟩,⟨some 12,none,.mov (.t 33)⟩,⟨some 13,none,.mov (.t 34)⟩]) (.seq (.seq (.reg [⟨some 35,none,.mov (.t 13)⟩,⟨some 36,none,.inil true (.t 35)⟩,⟨some 37,none,.mov (.t 36)⟩,⟨some 38,(some (37,false)),.mov (.t 10)⟩,⟨some 39,(some (37,false)),.bin .geq (.t 38) (.c (.int .i64 8))⟩,⟨some 40,none,.pick (.t 37) (.c (.bool true)) (.t 39)⟩]) (.cond (.t 40) (.seq (.reg [⟨some 41,none,.build 8 [(8,(.int .u8 0))] []⟩,⟨none,none,.st 8 (.t 6) (.t 41)⟩,⟨some 7,none,.mov (.c (.int .i64 6))⟩]) .ret) .skip)) (.reg [⟨some 42,none,.mov (.t 10)⟩,⟨some 43,none,.mov (.t 12)⟩,⟨some 44,none,.cv .u8 (.t 43)⟩,⟨some 45,none,.ia 8 1 (.t 8) (.t 42)⟩,⟨none,none,.st 1 (.t 45) (.t 44)⟩]))))) (.reg [⟨some 46,none,.bin .add (.t 25) (.c (.int .i64 1))⟩,⟨some 25,none,.mov (.t 46)⟩]))))))) (.seq (.seq (.reg [⟨some 47,none,.mov (.t 0)⟩,⟨some 48,none,.mov (.t 1)⟩,⟨some 49,none,.ld (some 8) (.t 8)⟩,⟨some 50,none,.call 33 [(.t 47),(.t 48),(.t 49)]⟩,⟨some 51,none,.un .not (.t 50)⟩,⟨some 52,none,.mov (.t 51)⟩,⟨some 53,(some (52,false)),.mov (.t 1)⟩,⟨some 54,(some (52,false)),.ld (some 8) (.t 8)⟩,⟨some 55,(some (52,false)),.call 34 [(.t 53),(.t 54)]⟩,⟨some 56,(some (52,false)),.mov (.t 2)⟩,⟨some 57,(some (52,false)),.bin .neq (.t 55) (.t 56)⟩,⟨some 58,none,.pick (.t 52) (.c (.bool true)) (.t 57)⟩]) (.cond (.t 58) (.seq (.reg [⟨some 59,none,.build 8 [(8,(.int .u8 0))] []⟩,⟨none,none,.st 8 (.t 6) (.t 59)⟩,⟨some 7,none,.mov (.c (.int .i64 6))⟩]) .ret) .skip)) (.seq (.reg [⟨some 60,none,.ld (some 8) (.t 8)⟩,⟨none,none,.st 8 (.t 6) (.t 60)⟩,⟨some 7,none,.mov (.c (.int .i64 0))⟩]) .ret))))))

set_option maxRecDepth 100000 in
theorem tr13 : trFn Tryz.prog Tryz.f13 = some (61, ir13, [.cell (some 8) 6, .tmp 7]) := by kernel_rfl

theorem impl_ParseVector (p : Int) (a : Nat) (m : Int) (v : Nat → Int) (H : Hp) (n : Nat) (hv : isBy 8 v) (hq : sz p a ∧ isVec p a v) (hm : BW.cell 2 0 = some (.int .i64 m)) :
    FnS Tryz.prog 13 [i64 p, i64 a, .s (.str (txt a v))] H n (fun r H' _ => r = .tup [.arr 8 (bys v), i64 0] ∧ H' = H) := by
  have hs := hq.1
  have hp := isP_le hs.1
  have ha1 : 1 ≤ a := by have := hs.2.1; omega
  have ha8 : a ≤ 8 := by have := hs.2.2; omega
  have hvr : ∀ i, i < a → 0 ≤ v i ∧ v i < 100 := fun i hi => ⟨(hv i (by omega)).1, by have := (hq.2 i (by omega)).1; omega⟩
  have hsz := txt_size hvr
  have hcnt := txt_count ha1 hvr
  have hpc := txt_piece ha1 hvr
  refine FnS.of_body Tryz.func13 tr13 (by simp) (fun hf => ?_)
  dsimp only [argEnv]
  unfold ir13
  (repeat first|refine zG ?_|(refine LS.nilO ?_;intro nq hnq hltq;try refine zU ?_)|(refine MS.new ?_;intro bq hbq hbqf;try refine zU ?_)|(refine MS.nil ?_;intro nq hnq hltq;have hlq:=hltq _ _ (Hp.get_eq _ _ _);clear hltq;try refine zU ?_)|(refine LS.nilQ ?_;try with_reducible intro nq hnq;try refine zU ?_))
  refine RS.call rfl ((FnS.args (concs_cons rfl (concs_cons rfl (concs_cons (conc_arr (fun q hq => zq8 hq)) rfl))) (impl_IsVector p a (fun _ => 0) _ _ (fun i hi => ⟨by (try dsimp only); omega, by (try dsimp only); omega⟩))).mono ?_)
  rintro r H2 n2 hn2 ⟨rfl, rfl⟩
  rw [tb_true ⟨hs, isVec_zero (by omega)⟩]
  (repeat first|refine zG ?_|(refine LS.nilO ?_;intro nq hnq hltq;try refine zU ?_)|(refine MS.new ?_;intro bq hbq hbqf;try refine zU ?_)|(refine MS.nil ?_;intro nq hnq hltq;have hlq:=hltq _ _ (Hp.get_eq _ _ _);clear hltq;try refine zU ?_)|(refine LS.nilQ ?_;try with_reducible intro nq hnq;try refine zU ?_))
  refine RS.call rfl ((lib_Split (txt a v) m _ _ (by omega) hm).mono ?_)
  rintro r H2 n2 hn2 ⟨rfl, rfl, rfl⟩
  rw [hcnt]
  (repeat first|refine zG ?_|(refine LS.nilO ?_;intro nq hnq hltq;try refine zU ?_)|(refine MS.new ?_;intro bq hbq hbqf;try refine zU ?_)|(refine MS.nil ?_;intro nq hnq hltq;have hlq:=hltq _ _ (Hp.get_eq _ _ _);clear hltq;try refine zU ?_)|(refine LS.nilQ ?_;try with_reducible intro nq hnq;try refine zU ?_))
  refine CS.iter a (fun i => [(25, i64 (i : Nat)), (24, i64 (a : Nat)), (23, .s (.slc n2 0 a a)), (8, ptr (n2 + 1) 0), (6, ptr n 0), (7, i64 0), (0, i64 p), (1, i64 (a : Nat)), (2, .s (.str (txt a v)))])
    (fun i => (n2 + 1, ⟨8, fun q => if q < i then .int .u8 (v q) else .int .u8 0, 25⟩) :: (n2, ⟨a, fun j => if j < a then txc v j else .nil, 9⟩) :: (n, ⟨8, Zs.c [(8, SV.int .u8 0)], 25⟩) :: H) (fun _ => True) (by (repeat first | exact trivial | refine And.intro rfl ?_))
    (Drops.keepc rfl rfl (fun q hq => by (try dsimp only); rw [if_neg (by omega)]; exact zq8 hq) (Drops.keepc rfl rfl (fun j hj => by
      (try dsimp only)
      rw [if_pos hj, List.getD_eq_getElem?_getD, hpc j hj]; rfl) (Drops.refl _ _))) trivial ?_
  intro i n3 hi hn3 _
  (repeat first|refine zG ?_|(refine LS.nilO ?_;intro nq hnq hltq;try refine zU ?_)|(refine MS.new ?_;intro bq hbq hbqf;try refine zU ?_)|(refine MS.nil ?_;intro nq hnq hltq;have hlq:=hltq _ _ (Hp.get_eq _ _ _);clear hltq;try refine zU ?_)|(refine LS.nilQ ?_;try with_reducible intro nq hnq;try refine zU ?_))
  refine zI ?_ ?_<;>intro h1
  · have hi' : i < a := by omega
    have hvi := hvr i hi'
    (repeat first|refine zG ?_|(refine LS.nilO ?_;intro nq hnq hltq;try refine zU ?_)|(refine MS.new ?_;intro bq hbq hbqf;try refine zU ?_)|(refine MS.nil ?_;intro nq hnq hltq;have hlq:=hltq _ _ (Hp.get_eq _ _ _);clear hltq;try refine zU ?_)|(refine LS.nilQ ?_;try with_reducible intro nq hnq;try refine zU ?_))
    rw [if_pos (show 0 + i * 1 < a by omega), show txc v (0 + i * 1) = .str ⟨(Lib.decDigits (v i).toNat).toArray⟩ by rw [Nat.zero_add, Nat.mul_one]; rfl]
    refine RS.call rfl ((lib_ParseUint ⟨(Lib.decDigits (v i).toNat).toArray⟩ (v i).toNat _ _ (by
      have := decDigits_short (v i).toNat (by omega)
      show (Lib.decDigits (v i).toNat).toArray.size ≤ _
      simp; omega) (by have := dec_parse (v i).toNat (by omega); simpa using this)).mono ?_)
    rintro r H2 n4 hn4 ⟨rfl, rfl⟩
    rw [show ((v i).toNat : Int) = v i by omega]
    (repeat first|refine zG ?_|(refine LS.nilO ?_;intro nq hnq hltq;try refine zU ?_)|(refine MS.new ?_;intro bq hbq hbqf;try refine zU ?_)|(refine MS.nil ?_;intro nq hnq hltq;have hlq:=hltq _ _ (Hp.get_eq _ _ _);clear hltq;try refine zU ?_)|(refine LS.nilQ ?_;try with_reducible intro nq hnq;try refine zU ?_))
    refine zI ?_ ?_<;>intro h2
    · omega
    (repeat first|refine zG ?_|(refine LS.nilO ?_;intro nq hnq hltq;try refine zU ?_)|(refine MS.new ?_;intro bq hbq hbqf;try refine zU ?_)|(refine MS.nil ?_;intro nq hnq hltq;have hlq:=hltq _ _ (Hp.get_eq _ _ _);clear hltq;try refine zU ?_)|(refine LS.nilQ ?_;try with_reducible intro nq hnq;try refine zU ?_))
    refine ⟨hi', by (repeat first | exact trivial | refine And.intro rfl ?_), Drops.keepc rfl rfl (fun q hq => ?_) (Drops.refl _ _), trivial⟩
    (try dsimp only)
    unfold put1
    by_cases e : q = i
    · rw [if_pos e, if_pos (by omega), e]
    · rw [if_neg e]
      (try dsimp only)
      by_cases e2 : q < i
      · rw [if_pos e2, if_pos (by omega)]
      · rw [if_neg e2, if_neg (by omega)]
  · obtain rfl : i = a := by omega
    have hca : ∀ q, q < 8 → (if q < i then SV.int IntKind.u8 (v q) else SV.int IntKind.u8 0) = bys v q := fun q hq1 => by
      by_cases e : q < i
      · rw [if_pos e]; rfl
      · rw [if_neg e]; unfold bys; rw [(hq.2 q hq1).2 (by omega)]
    (repeat first|refine zG ?_|(refine LS.nilO ?_;intro nq hnq hltq;try refine zU ?_)|(refine MS.new ?_;intro bq hbq hbqf;try refine zU ?_)|(refine MS.nil ?_;intro nq hnq hltq;have hlq:=hltq _ _ (Hp.get_eq _ _ _);clear hltq;try refine zU ?_)|(refine LS.nilQ ?_;try with_reducible intro nq hnq;try refine zU ?_))
    refine RS.call rfl ((FnS.args (concs_cons rfl (concs_cons rfl (concs_cons (conc_arr hca) rfl))) (impl_IsVector p i v _ _ hv)).mono ?_)
    rintro r H2 n4 hn4 ⟨rfl, rfl⟩
    rw [tb_true hq]
    (repeat first|refine zG ?_|(refine LS.nilO ?_;intro nq hnq hltq;try refine zU ?_)|(refine MS.new ?_;intro bq hbq hbqf;try refine zU ?_)|(refine MS.nil ?_;intro nq hnq hltq;have hlq:=hltq _ _ (Hp.get_eq _ _ _);clear hltq;try refine zU ?_)|(refine LS.nilQ ?_;try with_reducible intro nq hnq;try refine zU ?_))
    refine RS.call rfl ((FnS.args (concs_cons rfl (concs_cons (conc_arr hca) rfl)) (impl_vectorText i v _ _ ha1 ha8 hvr)).mono ?_)
    rintro r H2 n5 hn5 ⟨rfl, rfl⟩
    (repeat first|refine zG ?_|(refine LS.nilO ?_;intro nq hnq hltq;try refine zU ?_)|(refine MS.new ?_;intro bq hbq hbqf;try refine zU ?_)|(refine MS.nil ?_;intro nq hnq hltq;have hlq:=hltq _ _ (Hp.get_eq _ _ _);clear hltq;try refine zU ?_)|(refine LS.nilQ ?_;try with_reducible intro nq hnq;try refine zU ?_))
    refine RS.neqs (by exact rfl) (by exact rfl) ?_
    rw [show ((txt i v).toList == (txt i v).toList) = true from beq_self_eq_true _]
    (repeat first|refine zG ?_|(refine LS.nilO ?_;intro nq hnq hltq;try refine zU ?_)|(refine MS.new ?_;intro bq hbq hbqf;try refine zU ?_)|(refine MS.nil ?_;intro nq hnq hltq;have hlq:=hltq _ _ (Hp.get_eq _ _ _);clear hltq;try refine zU ?_)|(refine LS.nilQ ?_;try with_reducible intro nq hnq;try refine zU ?_))
    exact ⟨.tup [.arr 8 (bys v), i64 0], H, conc_tup2 (conc_arr (fun q hq1 => by simp only [Nat.zero_add]; exact hca q hq1)) rfl, by exact zD, rfl, rfl⟩

end Go.Proofs.YtgnphaopeplfbaaGreatDoor

/- The plain law of FnVectors: products are associative, rows of left tables, inverses of inverses. -/

namespace Go.V

set_option linter.unusedSimpArgs false

set_option linter.unusedVariables false

/-- A fact in a box. -/
structure Bq (Q : Prop) : Prop where
  out : Q

theorem isVec.resz {p : Int} {a : Nat} {v : Nat → Int} (h : isVec p a v) (hb : isBy 8 v) : isRes p 8 v ∧ ∀ x, x < 8 → a ≤ x → v x = 0 :=
  ⟨fun q hq => ⟨(hb q hq).1, (h q hq).1⟩, fun x hx h1 => (h x hx).2 (by omega)⟩

theorem alg_sz {p s : Int} {u m : Nat → Int} (h : isAlg p s u m) : ∃ a : Nat, s = a ∧ 1 ≤ a ∧ a ≤ 8 := ⟨s.toNat, by have := h.1.1.2; omega, by have := h.1.1.2; omega, by have := h.1.1.2; omega⟩

theorem pr_vec {p : Int} {a : Nat} {u m : Nat → Int} (h : isAlg p a u m) (v w : Nat → Int) : isVec p a (pr p m v w a) ∧ isBy 8 (pr p m v w a) := by
  have hp := isP_le h.1.1.1
  have ha : a ≤ 8 := by have := h.1.1.2.2; omega
  have hr := pr_resQ hp.1 m v w a
  exact ⟨fun q hq => ⟨(hr q hq).2, fun h1 => pr_out ha h.1.2.2 v w hq (by omega)⟩, hr.by hp.2⟩

theorem bas_vec {p : Int} {a i : Nat} (hp : 2 ≤ p ∧ p ≤ 31) (hi : i < a) : isVec p a (bas i) ∧ isBy 8 (bas i) := by
  refine ⟨fun q hq => ⟨?_, fun h => ?_⟩, fun q hq => ?_⟩
  · unfold bas; split <;> omega
  · unfold bas; rw [if_neg (by omega)]
  · unfold bas; split <;> omega

/-- The inverse of the inverse. -/
theorem iv_back {p : Int} {a : Nat} {u m v w : Nat → Int} (h : isAlg p a u m) (hu : isBy 8 u) (hv : isVec p a v) (hb : isBy 8 v) (hw : isIv p u m v a w) :
    isVec p a w ∧ isBy 8 w ∧ isIv p u m w a v ∧ (∀ q, q < 8 → ivW p u m w a q = v q) ∧ ∀ q, q < 8 → pr p m w v a q = u q := by
  have hp := isP_le h.1.1.1
  have ha : a ≤ 8 := by have := h.1.1.2.2; omega
  obtain ⟨hr, hz⟩ := hv.resz hb
  have hi : isIv p u m w a v := ⟨hr, hz, hw.wv, hw.vw⟩
  refine ⟨fun q hq => ⟨(hw.r q hq).2, fun h1 => hw.z q hq (by omega)⟩, hw.r.by hp.2, hi, fun q hq => ?_, hw.wv⟩
  have h2 := ivW_is ⟨v, hi⟩
  exact hi.right ha h.2.1 h.2.2 h2.r h2.z h2.vw hq

theorem ivC_zero {A E : Prop} (h : ivC A E = 0) : A ∧ E := by
  by_cases hA : A
  · by_cases hE : E
    · exact ⟨hA, hE⟩
    · rw [ivC_4 hA hE] at h; cases h
  · rw [ivC_1 hA] at h; cases h

end Go.V

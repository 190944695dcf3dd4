/- The rules with their side conditions as default tactics, under short names. -/
import Derived.Test.YtgnphaopeplfbaaGreatDoorJai
set_option linter.unusedSectionVars false
set_option linter.unusedVariables false
set_option linter.unusedSimpArgs false
namespace Go.V
variable [BW]
set_option linter.unusedVariables false
section
variable {P : Program} {N m : Nat} {d : Option Nat} {l : List Ins} {e : Env} {H : Hp} {n : Nat} {K : Env → Hp → Nat → Prop} {Q : Ex → Env → Hp → Nat → Prop} {c c' : Cd} {x : X} {D : Md}
theorem z00 {x : X} {v : AV} (h : LS P N m D l (putD d v e) H n) (hx : x.ev e = some v := by exact rfl) : LS P N m D (⟨d, none, .mov x⟩ :: l) e H n :=
  RS.mov hx h
theorem z01 {x : X} {b off : Nat} {k : Blk} {v : SV} (h : LS P N m D l (putD d (.s v) e) H n) (hx : x.ev e = some (.s (.ptr b off)) := by exact rfl) (hb : H.get b = some k := by first | exact Hp.get_eq _ _ _ | assumption | (simp (disch := omega) only [Hp.get_eq, Hp.get_ne]; done) | (simp (disch := omega) only [Hp.get_eq, Hp.get_ne, Hp.get_set_other]; first | assumption | rfl) | exact Hp.get_set_self _ (by assumption) | (simp (disch := omega) only [Hp.get_ne]; first | assumption | exact Hp.get_set_self _ (by assumption))) (hv : k.c off = v := by assumption) (ho : off < k.size := by first | omega | (simp only [Zs.size]; omega)) : LS P N m D (⟨d, none, .ld none x⟩ :: l) e H n :=
  RS.lda hx hb hv ho h
theorem z02 {x : X} {z' b o q : Nat} {k : Blk} {f : Nat → Int} (h : LS P N m D l (putD d (.s (.int .u8 (f q))) e) H n) (hx : x.ev e = some (.s (.ptr b (o + q))) := by exact rfl) (hb : H.get b = some k := by first | exact Hp.get_eq _ _ _ | assumption | (simp (disch := omega) only [Hp.get_eq, Hp.get_ne]; done) | (simp (disch := omega) only [Hp.get_eq, Hp.get_ne, Hp.get_set_other]; first | assumption | rfl) | exact Hp.get_set_self _ (by assumption) | (simp (disch := omega) only [Hp.get_ne]; first | assumption | exact Hp.get_set_self _ (by assumption))) (hk : ∀ i, i < z' → k.c (o + i) = .int .u8 (f i) := by assumption) (hq : q < z' := by first | omega | (simp only [Zs.size]; omega)) (ho : o + z' ≤ k.size := by first | omega | (simp only [Zs.size]; omega)) : LS P N m D (⟨d, none, .ld none x⟩ :: l) e H n :=
  RS.ldb1 hx hb hk hq ho h
theorem z03 {x : X} {t z z' b o q : Nat} {k : Blk} {f : Nat → Int} (h : LS P N m D l (putD (some t) (.arr z (bys fun x => f (q + x))) e) H n) (hx : x.ev e = some (.s (.ptr b (o + q))) := by exact rfl) (hb : H.get b = some k := by first | exact Hp.get_eq _ _ _ | assumption | (simp (disch := omega) only [Hp.get_eq, Hp.get_ne]; done) | (simp (disch := omega) only [Hp.get_eq, Hp.get_ne, Hp.get_set_other]; first | assumption | rfl) | exact Hp.get_set_self _ (by assumption) | (simp (disch := omega) only [Hp.get_ne]; first | assumption | exact Hp.get_set_self _ (by assumption))) (hk : ∀ i, i < z' → k.c (o + i) = .int .u8 (f i) := by assumption) (hq : q + z ≤ z' := by first | omega | (simp only [Zs.size]; omega)) (ho : o + z' ≤ k.size := by first | omega | (simp only [Zs.size]; omega)) : LS P N m D (⟨some t, none, .ld (some z) x⟩ :: l) e H n :=
  RS.ldb hx hb hk hq ho h
theorem z04 {x : X} {t z z' b o : Nat} {k : Blk} {f : Nat → Int} (h : LS P N m D l (putD (some t) (.arr z (bys f)) e) H n) (hx : x.ev e = some (.s (.ptr b o)) := by exact rfl) (hb : H.get b = some k := by first | exact Hp.get_eq _ _ _ | assumption | (simp (disch := omega) only [Hp.get_eq, Hp.get_ne]; done) | (simp (disch := omega) only [Hp.get_eq, Hp.get_ne, Hp.get_set_other]; first | assumption | rfl) | exact Hp.get_set_self _ (by assumption) | (simp (disch := omega) only [Hp.get_ne]; first | assumption | exact Hp.get_set_self _ (by assumption))) (hk : ∀ i, i < z' → k.c (o + i) = .int .u8 (f i) := by assumption) (hq : z ≤ z' := by first | omega | (simp only [Zs.size]; omega)) (ho : o + z' ≤ k.size := by first | omega | (simp only [Zs.size]; omega)) : LS P N m D (⟨some t, none, .ld (some z) x⟩ :: l) e H n :=
  RS.ldb0 hx hb hk hq ho h
theorem z05 {x : X} {b off : Nat} {k : Blk} (h : LS P N m D l (putD d (.s (k.c off)) e) H n) (hx : x.ev e = some (.s (.ptr b off)) := by exact rfl) (hb : H.get b = some k := by first | exact Hp.get_eq _ _ _ | assumption | (simp (disch := omega) only [Hp.get_eq, Hp.get_ne]; done) | (simp (disch := omega) only [Hp.get_eq, Hp.get_ne, Hp.get_set_other]; first | assumption | rfl) | exact Hp.get_set_self _ (by assumption) | (simp (disch := omega) only [Hp.get_ne]; first | assumption | exact Hp.get_set_self _ (by assumption))) (ho : off < k.size := by first | omega | (simp only [Zs.size]; omega)) : LS P N m D (⟨d, none, .ld none x⟩ :: l) e H n :=
  RS.ld1 hx hb ho h
theorem z06 {x : X} {z b : Nat} {k : Blk} (h : LS P N m D l (putD d (.arr z k.c) e) H n) (hx : x.ev e = some (.s (.ptr b 0)) := by exact rfl) (hb : H.get b = some k := by first | exact Hp.get_eq _ _ _ | assumption | (simp (disch := omega) only [Hp.get_eq, Hp.get_ne]; done) | (simp (disch := omega) only [Hp.get_eq, Hp.get_ne, Hp.get_set_other]; first | assumption | rfl) | exact Hp.get_set_self _ (by assumption) | (simp (disch := omega) only [Hp.get_ne]; first | assumption | exact Hp.get_set_self _ (by assumption))) (ho : z ≤ k.size := by first | omega | (simp only [Zs.size]; omega)) : LS P N m D (⟨d, none, .ld (some z) x⟩ :: l) e H n :=
  RS.ldn0 hx hb ho h
theorem z07 {x : X} {z : Nat} {b off : Nat} {k : Blk} (h : LS P N m D l (putD d (.arr z (fun j => k.c (off + j))) e) H n) (hx : x.ev e = some (.s (.ptr b off)) := by exact rfl) (hb : H.get b = some k := by first | exact Hp.get_eq _ _ _ | assumption | (simp (disch := omega) only [Hp.get_eq, Hp.get_ne]; done) | (simp (disch := omega) only [Hp.get_eq, Hp.get_ne, Hp.get_set_other]; first | assumption | rfl) | exact Hp.get_set_self _ (by assumption) | (simp (disch := omega) only [Hp.get_ne]; first | assumption | exact Hp.get_set_self _ (by assumption))) (ho : off + z ≤ k.size := by first | omega | (simp only [Zs.size]; omega)) : LS P N m D (⟨d, none, .ld (some z) x⟩ :: l) e H n :=
  RS.ldn hx hb ho h
theorem z08 {x : X} {off b : Nat} (h : LS P N m D l (putD d (.s (.ptr b off)) e) H n) (hx : x.ev e = some (.s (.ptr b 0)) := by exact rfl) : LS P N m D (⟨d, none, .fa off x⟩ :: l) e H n :=
  RS.fa0 hx h
theorem z09 {x : X} {off b o : Nat} (h : LS P N m D l (putD d (.s (.ptr b (o + off))) e) H n) (hx : x.ev e = some (.s (.ptr b o)) := by exact rfl) : LS P N m D (⟨d, none, .fa off x⟩ :: l) e H n :=
  RS.fa hx h
theorem z10 {x i : X} {len b j : Nat} {k : IntKind} {q : Int} (h : LS P N m D l (putD d (.s (.ptr b j)) e) H n) (hx : x.ev e = some (.s (.ptr b 0)) := by exact rfl) (hi : i.ev e = some (.s (.int k q)) := by exact rfl) (hj : q = (j : Int) := by exact rfl) (hl : j < len := by first | omega | (simp only [Zs.size]; omega)) : LS P N m D (⟨d, none, .ia len 1 x i⟩ :: l) e H n :=
  RS.ia01 hx hi hj hl h
theorem z11 {x i : X} {len b o q j : Nat} {k : IntKind} {r : Int} (h : LS P N m D l (putD d (.s (.ptr b (o + (q + j)))) e) H n) (hx : x.ev e = some (.s (.ptr b (o + q))) := by exact rfl) (hi : i.ev e = some (.s (.int k r)) := by exact rfl) (hj : r = (j : Int) := by exact rfl) (hl : j < len := by first | omega | (simp only [Zs.size]; omega)) : LS P N m D (⟨d, none, .ia len 1 x i⟩ :: l) e H n :=
  RS.iaq1 hx hi hj hl h
theorem z12 {x i : X} {len b o j : Nat} {k : IntKind} {q : Int} (h : LS P N m D l (putD d (.s (.ptr b (o + j))) e) H n) (hx : x.ev e = some (.s (.ptr b o)) := by exact rfl) (hi : i.ev e = some (.s (.int k q)) := by exact rfl) (hj : q = (j : Int) := by exact rfl) (hl : j < len := by first | omega | (simp only [Zs.size]; omega)) : LS P N m D (⟨d, none, .ia len 1 x i⟩ :: l) e H n :=
  RS.ia1 hx hi hj hl h
theorem z13 {x i : X} {len sz b j : Nat} {k : IntKind} {q : Int} (h : LS P N m D l (putD d (.s (.ptr b (sz * j))) e) H n) (hx : x.ev e = some (.s (.ptr b 0)) := by exact rfl) (hi : i.ev e = some (.s (.int k q)) := by exact rfl) (hj : q = (j : Int) := by exact rfl) (hl : j < len := by first | omega | (simp only [Zs.size]; omega)) : LS P N m D (⟨d, none, .ia len sz x i⟩ :: l) e H n :=
  RS.ia0 hx hi hj hl h
theorem z14 {x i : X} {len sz b o q j : Nat} {k : IntKind} {r : Int} (h : LS P N m D l (putD d (.s (.ptr b (o + (q + sz * j)))) e) H n) (hx : x.ev e = some (.s (.ptr b (o + q))) := by exact rfl) (hi : i.ev e = some (.s (.int k r)) := by exact rfl) (hj : r = (j : Int) := by exact rfl) (hl : j < len := by first | omega | (simp only [Zs.size]; omega)) : LS P N m D (⟨d, none, .ia len sz x i⟩ :: l) e H n :=
  RS.iaq hx hi hj hl h
theorem z15 {x i : X} {len sz b o j : Nat} {k : IntKind} {q : Int} (h : LS P N m D l (putD d (.s (.ptr b (o + sz * j))) e) H n) (hx : x.ev e = some (.s (.ptr b o)) := by exact rfl) (hi : i.ev e = some (.s (.int k q)) := by exact rfl) (hj : q = (j : Int) := by exact rfl) (hl : j < len := by first | omega | (simp only [Zs.size]; omega)) : LS P N m D (⟨d, none, .ia len sz x i⟩ :: l) e H n :=
  RS.ias hx hi hj hl h
theorem z16 {x i : X} {sz b o j len cp : Nat} {k : IntKind} {q : Int} (h : LS P N m D l (putD d (.s (.ptr b (o + j * sz))) e) H n) (hx : x.ev e = some (.s (.slc b o len cp)) := by exact rfl) (hi : i.ev e = some (.s (.int k q)) := by exact rfl) (hj : q = (j : Int) := by exact rfl) (hl : j < len := by first | omega | (simp only [Zs.size]; omega)) : LS P N m D (⟨d, none, .isl sz x i⟩ :: l) e H n :=
  RS.isl hx hi hj hl h
theorem z17 {x : X} {k : IntKind} {a : Int} (h : LS P N m D l (putD d (.s (.int .i64 a)) e) H n) (hx : x.ev e = some (.s (.int k a)) := by exact rfl) (hr : -9223372036854775808 ≤ a ∧ a ≤ 9223372036854775807 := by first | omega | (dsimp only; omega)) : LS P N m D (⟨d, none, .cv .i64 x⟩ :: l) e H n :=
  RS.cv64 hx hr h
theorem z18 {x : X} {k : IntKind} {a : Int} (h : LS P N m D l (putD d (.s (.int .u8 a)) e) H n) (hx : x.ev e = some (.s (.int k a)) := by exact rfl) (hr : 0 ≤ a ∧ a ≤ 255 := by first | omega | (dsimp only; omega)) : LS P N m D (⟨d, none, .cv .u8 x⟩ :: l) e H n :=
  RS.cv8 hx hr h
theorem z19 {x y : X} {a b : Int} (h : LS P N m D l (putD d (.s (.int .i64 (a + b))) e) H n) (hx : x.ev e = some (.s (.int .i64 a)) := by exact rfl) (hy : y.ev e = some (.s (.int .i64 b)) := by exact rfl) (hr : -9223372036854775808 ≤ a + b ∧ a + b ≤ 9223372036854775807 := by first | omega | (dsimp only; omega)) : LS P N m D (⟨d, none, .bin .add x y⟩ :: l) e H n :=
  RS.add hx hy hr h
theorem z20 {x y : X} {a b : Int} (h : LS P N m D l (putD d (.s (.int .i64 (a - b))) e) H n) (hx : x.ev e = some (.s (.int .i64 a)) := by exact rfl) (hy : y.ev e = some (.s (.int .i64 b)) := by exact rfl) (hr : -9223372036854775808 ≤ a - b ∧ a - b ≤ 9223372036854775807 := by first | omega | (dsimp only; omega)) : LS P N m D (⟨d, none, .bin .sub x y⟩ :: l) e H n :=
  RS.sub hx hy hr h
theorem z21 {x y : X} {a b : Int} (h : LS P N m D l (putD d (.s (.int .i64 (a * b))) e) H n) (hx : x.ev e = some (.s (.int .i64 a)) := by exact rfl) (hy : y.ev e = some (.s (.int .i64 b)) := by exact rfl) (hr : -9223372036854775808 ≤ a * b ∧ a * b ≤ 9223372036854775807 := by first | omega | (dsimp only; omega)) : LS P N m D (⟨d, none, .bin .mul x y⟩ :: l) e H n :=
  RS.mul hx hy hr h
theorem z22 {x y : X} {k : IntKind} {a b : Int} (h : LS P N m D l (putD d (.s (.int k (a % b))) e) H n) (hx : x.ev e = some (.s (.int k a)) := by exact rfl) (hy : y.ev e = some (.s (.int k b)) := by exact rfl) (ha : 0 ≤ a := by first | omega | (dsimp only; omega)) (hb : 0 < b := by first | omega | (dsimp only; omega)) : LS P N m D (⟨d, none, .bin .rem x y⟩ :: l) e H n :=
  RS.rem hx hy ha hb h
theorem z23 {x y : X} {a b : Int} (h : LS P N m D l (putD d (.s (.int .i64 (a / b))) e) H n) (hx : x.ev e = some (.s (.int .i64 a)) := by exact rfl) (hy : y.ev e = some (.s (.int .i64 b)) := by exact rfl) (ha : 0 ≤ a ∧ a ≤ 9223372036854775807 ∧ 1 ≤ b := by first | omega | (dsimp only; omega)) : LS P N m D (⟨d, none, .bin .quo x y⟩ :: l) e H n :=
  RS.quo hx hy ha h
theorem z24 {x y : X} {k : IntKind} {a b : Int} (h : LS P N m D l (putD d (.s (.bool (decide (a < b)))) e) H n) (hx : x.ev e = some (.s (.int k a)) := by exact rfl) (hy : y.ev e = some (.s (.int k b)) := by exact rfl) : LS P N m D (⟨d, none, .bin .lss x y⟩ :: l) e H n :=
  RS.lss hx hy h
theorem z25 {x y : X} {k : IntKind} {a b : Int} (h : LS P N m D l (putD d (.s (.bool (decide (a ≤ b)))) e) H n) (hx : x.ev e = some (.s (.int k a)) := by exact rfl) (hy : y.ev e = some (.s (.int k b)) := by exact rfl) : LS P N m D (⟨d, none, .bin .leq x y⟩ :: l) e H n :=
  RS.leq hx hy h
theorem z26 {x y : X} {k : IntKind} {a b : Int} (h : LS P N m D l (putD d (.s (.bool (a == b))) e) H n) (hx : x.ev e = some (.s (.int k a)) := by exact rfl) (hy : y.ev e = some (.s (.int k b)) := by exact rfl) : LS P N m D (⟨d, none, .bin .eql x y⟩ :: l) e H n :=
  RS.eql hx hy h
theorem z27 {x y : X} {k : IntKind} {a b : Int} (h : LS P N m D l (putD d (.s (.bool (a != b))) e) H n) (hx : x.ev e = some (.s (.int k a)) := by exact rfl) (hy : y.ev e = some (.s (.int k b)) := by exact rfl) : LS P N m D (⟨d, none, .bin .neq x y⟩ :: l) e H n :=
  RS.neq hx hy h
theorem z28 {x y : X} {k : IntKind} {a b : Int} (h : LS P N m D l (putD d (.s (.bool (decide (b < a)))) e) H n) (hx : x.ev e = some (.s (.int k a)) := by exact rfl) (hy : y.ev e = some (.s (.int k b)) := by exact rfl) : LS P N m D (⟨d, none, .bin .gtr x y⟩ :: l) e H n :=
  RS.gtr hx hy h
theorem z29 {x y : X} {k : IntKind} {a b : Int} (h : LS P N m D l (putD d (.s (.bool (decide (b ≤ a)))) e) H n) (hx : x.ev e = some (.s (.int k a)) := by exact rfl) (hy : y.ev e = some (.s (.int k b)) := by exact rfl) : LS P N m D (⟨d, none, .bin .geq x y⟩ :: l) e H n :=
  RS.geq hx hy h
theorem z30 {x : X} {b : Bool} (h : LS P N m D l (putD d (.s (.bool (!b))) e) H n) (hx : x.ev e = some (.s (.bool b)) := by exact rfl) : LS P N m D (⟨d, none, .un .not x⟩ :: l) e H n :=
  RS.not hx h
theorem z31 {g : Nat × Bool} {i : I} (h : LS P N m D (⟨d, none, i⟩ :: l) e H n) (hg : e.get g.1 = some (.s (.bool g.2)) := by exact rfl) : LS P N m D (⟨d, some g, i⟩ :: l) e H n :=
  RS.gyes hg h
theorem z32 {t : Nat} {b : Bool} {i : I} (h : LS P N m D l (putD d .undef e) H n) (hg : e.get t = some (.s (.bool (!b))) := by exact rfl) : LS P N m D (⟨d, some (t, b), i⟩ :: l) e H n :=
  RS.gno hg h
theorem z33 {t : Nat} {b : Bool} {i : I} (h : LS P N m D l (putD d .undef e) H n) (hg : e.get t = some .undef := by exact rfl) : LS P N m D (⟨d, some (t, b), i⟩ :: l) e H n :=
  RS.gun hg h
theorem z34 {c a b : X} {v : AV} (h : LS P N m D l (putD d v e) H n) (hc : c.ev e = some (.s (.bool true)) := by exact rfl) (hx : a.ev e = some v := by exact rfl) : LS P N m D (⟨d, none, .pick c a b⟩ :: l) e H n :=
  RS.pickT hc hx h
theorem z35 {c a b : X} {v : AV} (h : LS P N m D l (putD d v e) H n) (hc : c.ev e = some (.s (.bool false)) := by exact rfl) (hx : b.ev e = some v := by exact rfl) : LS P N m D (⟨d, none, .pick c a b⟩ :: l) e H n :=
  RS.pickF hc hx h
theorem z36 {x : X} {k : Nat} {r : List AV} {v : AV} (h : LS P N m D l (putD d v e) H n) (hx : x.ev e = some (.tup r) := by exact rfl) (hv : r[k]? = some v := by exact rfl) : LS P N m D (⟨d, none, .ex x k⟩ :: l) e H n :=
  RS.ex hx hv h
theorem z37 {z : Zs} {k : Nat} {ps : List (Nat × Nat × X)} {c : Nat → SV} (h : LS P N m D l (putD d (.arr k c) e) H n) (hc : placeAll e ps z.c = some c := by exact rfl) : LS P N m D (⟨d, none, .build k z ps⟩ :: l) e H n :=
  RS.build hc h
theorem z38 {t : TypeId} {z : Zs} (h : LS P N m (.seq K) l (putD d (.s (.ptr n 0)) e) ((n, ⟨z.size, z.c, t⟩) :: H) (n + 1))  : LS P N m (.seq K) (⟨d, none, .new t z⟩ :: l) e H n :=
  RS.new h
theorem z39 {t : TypeId} {x : X} {v : AV} {k : Blk} (h : LS P N m (.seq K) l (putD d (.s (.ptr n 0)) e) ((n, k) :: H) (n + 1)) (hx : x.ev e = some v := by exact rfl) (hk : boxK t v = some k := by exact rfl) : LS P N m (.seq K) (⟨d, none, .box t x⟩ :: l) e H n :=
  RS.box hx hk h
theorem z40 {t : TypeId} {len sz : Nat} {z : Zs} {ps : List (Nat × Nat × X)} {c : Nat → SV} (h : LS P N m (.seq K) l (putD d (.s (.slc n 0 len len)) e) ((n, ⟨len * sz, c, t⟩) :: H) (n + 1)) (hp : placeAll e ps (fun i => z.c (i % sz)) = some c := by exact rfl) : LS P N m (.seq K) (⟨d, none, .bsl t len sz z ps⟩ :: l) e H n :=
  RS.bsl hp h
theorem z41 {z : Nat} {x y : X} {b : Nat} {k : Blk} {c : Nat → SV} {H1 : Hp} (h : LS P N m (.seq K) l e H1 n) (hx : x.ev e = some (.s (.ptr b 0)) := by exact rfl) (hy : y.ev e = some (.arr z c) := by exact rfl) (hb : H.get b = some k := by first | exact Hp.get_eq _ _ _ | assumption | (simp (disch := omega) only [Hp.get_eq, Hp.get_ne]; done) | (simp (disch := omega) only [Hp.get_eq, Hp.get_ne, Hp.get_set_other]; first | assumption | rfl) | exact Hp.get_set_self _ (by assumption) | (simp (disch := omega) only [Hp.get_ne]; first | assumption | exact Hp.get_set_self _ (by assumption))) (ho : k.size = z := by rfl) (hs : H.set b c = H1 := by first | (simp (disch := omega) only [Hp.set_eq, Hp.set_ne, Hp.set_set]; exact rfl) | (simp (disch := omega) only [Hp.set_eq, Hp.set_ne, Hp.set_set]; done) | exact rfl) : LS P N m (.seq K) (⟨none, none, .st z x y⟩ :: l) e H n :=
  RS.stw hx hy hb ho hs h
theorem z42 {x y : X} {b off : Nat} {k : Blk} {v : SV} {H1 : Hp} (h : LS P N m (.seq K) l e H1 n) (hx : x.ev e = some (.s (.ptr b off)) := by exact rfl) (hy : y.ev e = some (.s v) := by exact rfl) (hb : H.get b = some k := by first | exact Hp.get_eq _ _ _ | assumption | (simp (disch := omega) only [Hp.get_eq, Hp.get_ne]; done) | (simp (disch := omega) only [Hp.get_eq, Hp.get_ne, Hp.get_set_other]; first | assumption | rfl) | exact Hp.get_set_self _ (by assumption) | (simp (disch := omega) only [Hp.get_ne]; first | assumption | exact Hp.get_set_self _ (by assumption))) (ho : off < k.size := by first | omega | (simp only [Zs.size]; omega)) (hs : H.set b (put1 k.c off v) = H1 := by first | (simp (disch := omega) only [Hp.set_eq, Hp.set_ne, Hp.set_set]; exact rfl) | (simp (disch := omega) only [Hp.set_eq, Hp.set_ne, Hp.set_set]; done) | exact rfl) : LS P N m (.seq K) (⟨none, none, .st 1 x y⟩ :: l) e H n :=
  RS.st1s hx hy hb ho hs h
theorem z43 {z : Nat} {x y : X} {b off : Nat} {k : Blk} {c : Nat → SV} {H1 : Hp} (h : LS P N m (.seq K) l e H1 n) (hx : x.ev e = some (.s (.ptr b off)) := by exact rfl) (hy : y.ev e = some (.arr z c) := by exact rfl) (hb : H.get b = some k := by first | exact Hp.get_eq _ _ _ | assumption | (simp (disch := omega) only [Hp.get_eq, Hp.get_ne]; done) | (simp (disch := omega) only [Hp.get_eq, Hp.get_ne, Hp.get_set_other]; first | assumption | rfl) | exact Hp.get_set_self _ (by assumption) | (simp (disch := omega) only [Hp.get_ne]; first | assumption | exact Hp.get_set_self _ (by assumption))) (ho : off + z ≤ k.size := by first | omega | (simp only [Zs.size]; omega)) (hs : H.set b (splice k.c off z c) = H1 := by first | (simp (disch := omega) only [Hp.set_eq, Hp.set_ne, Hp.set_set]; exact rfl) | (simp (disch := omega) only [Hp.set_eq, Hp.set_ne, Hp.set_set]; done) | exact rfl) : LS P N m (.seq K) (⟨none, none, .st z x y⟩ :: l) e H n :=
  RS.stns hx hy hb ho hs h
theorem z44 {x i : X} {len j z : Nat} {k : IntKind} {q : Int} {c : Nat → SV} (h : LS P N m D l (putD d (.s (c j)) e) H n) (hx : x.ev e = some (.arr z c) := by exact rfl) (hi : i.ev e = some (.s (.int k q)) := by exact rfl) (hj : q = (j : Int) := by exact rfl) (hl : j < len := by first | omega | (simp only [Zs.size]; omega)) (ho : j < z := by first | omega | (simp only [Zs.size]; omega)) : LS P N m D (⟨d, none, .ix len 1 none x i⟩ :: l) e H n :=
  RS.ix11 hx hi hj hl ho h
theorem z45 {x i : X} {len sz j z : Nat} {k : IntKind} {q : Int} {c : Nat → SV} (h : LS P N m D l (putD d (.s (c (j * sz))) e) H n) (hx : x.ev e = some (.arr z c) := by exact rfl) (hi : i.ev e = some (.s (.int k q)) := by exact rfl) (hj : q = (j : Int) := by exact rfl) (hl : j < len := by first | omega | (simp only [Zs.size]; omega)) (ho : j * sz < z := by first | omega | (simp only [Zs.size]; omega)) : LS P N m D (⟨d, none, .ix len sz none x i⟩ :: l) e H n :=
  RS.ix1 hx hi hj hl ho h
theorem z46 {x i : X} {len sz j z y : Nat} {k : IntKind} {q : Int} {c : Nat → SV} (h : LS P N m D l (putD d (.arr y (fun i => c (sz * j + i))) e) H n) (hx : x.ev e = some (.arr z c) := by exact rfl) (hi : i.ev e = some (.s (.int k q)) := by exact rfl) (hj : q = (j : Int) := by exact rfl) (hl : j < len := by first | omega | (simp only [Zs.size]; omega)) (ho : sz * j + y ≤ z := by first | omega | (simp only [Zs.size]; omega)) : LS P N m D (⟨d, none, .ix len sz (some y) x i⟩ :: l) e H n :=
  RS.ixs hx hi hj hl ho h
theorem z47 {x y : X} {k : Nat} {f g : Nat → Int} {c c' : Nat → SV} (h : LS P N m D l (putD d (.s (.bool (!tb (∀ i, i < k → f i = g i)))) e) H n) (hx : x.ev e = some (.arr k c) := by exact rfl) (hy : y.ev e = some (.arr k c') := by exact rfl) (hc : c = fun i => .int .u8 (f i) := by exact rfl) (hc' : c' = fun i => .int .u8 (g i) := by exact rfl) : LS P N m D (⟨d, none, .eqa true k x y⟩ :: l) e H n :=
  RS.eqbT hx hy hc hc' h
theorem z48 {x y : X} {k : Nat} {f g : Nat → Int} {c c' : Nat → SV} (h : LS P N m D l (putD d (.s (.bool (tb (∀ i, i < k → f i = g i)))) e) H n) (hx : x.ev e = some (.arr k c) := by exact rfl) (hy : y.ev e = some (.arr k c') := by exact rfl) (hc : c = fun i => .int .u8 (f i) := by exact rfl) (hc' : c' = fun i => .int .u8 (g i) := by exact rfl) : LS P N m D (⟨d, none, .eqa false k x y⟩ :: l) e H n :=
  RS.eqbF hx hy hc hc' h
theorem z49 {x : X} {off k : Nat} {c : Nat → SV} (h : LS P N m D l (putD d (.s (c off)) e) H n) (hx : x.ev e = some (.arr k c) := by exact rfl) (ho : off < k := by first | omega | (simp only [Zs.size]; omega)) : LS P N m D (⟨d, none, .fl off none x⟩ :: l) e H n :=
  RS.fl1 hx ho h
theorem z50 {x : X} {off k z : Nat} {c : Nat → SV} (h : LS P N m D l (putD d (.arr z (fun j => c (off + j))) e) H n) (hx : x.ev e = some (.arr k c) := by exact rfl) (ho : off + z ≤ k := by first | omega | (simp only [Zs.size]; omega)) : LS P N m D (⟨d, none, .fl off (some z) x⟩ :: l) e H n :=
  RS.fln hx ho h
theorem z51 {f : FuncId} {pre post : List X} {a b : List SV} (h : LS P N m D l (putD d (.s (.fn f a b)) e) H n) (h1 : svs e pre = some a := by exact rfl) (h2 : svs e post = some b := by exact rfl) : LS P N m D (⟨d, none, .mkf f pre post⟩ :: l) e H n :=
  RS.mkf h1 h2 h
theorem z52 {x : X} {b o len cp : Nat} (h : LS P N m D l (putD d (.s (.int .i64 len)) e) H n) (hx : x.ev e = some (.s (.slc b o len cp)) := by exact rfl) : LS P N m D (⟨d, none, .len x⟩ :: l) e H n :=
  RS.len hx h
theorem z53 {x : X} (h : LS P N m D l (putD d (.s (.int .i64 0)) e) H n) (hx : x.ev e = some (.s .nils) := by exact rfl) : LS P N m D (⟨d, none, .len x⟩ :: l) e H n :=
  RS.len0 hx h
theorem z54 {x : X} {s : ByteArray} (h : LS P N m D l (putD d (.s (.int .i64 s.size)) e) H n) (hx : x.ev e = some (.s (.str s)) := by exact rfl) : LS P N m D (⟨d, none, .lens x⟩ :: l) e H n :=
  RS.lens hx h
theorem z55 {k : Nat} (h : LS P N m D l (putD d (.s (.int .i64 k)) e) H n)  : LS P N m D (⟨d, none, .lenc k⟩ :: l) e H n :=
  RS.lenc h
theorem z56 {x : X} {neg : Bool} (h : LS P N m D l (putD d (.s (.bool (!neg))) e) H n) (hx : x.ev e = some (.s .nils) := by exact rfl) : LS P N m D (⟨d, none, .snil neg x⟩ :: l) e H n :=
  RS.snilT hx h
theorem z57 {x : X} {neg : Bool} {b o len cp : Nat} (h : LS P N m D l (putD d (.s (.bool neg)) e) H n) (hx : x.ev e = some (.s (.slc b o len cp)) := by exact rfl) : LS P N m D (⟨d, none, .snil neg x⟩ :: l) e H n :=
  RS.snilF hx h
theorem z58 {x : X} {neg : Bool} (h : LS P N m D l (putD d (.s (.bool (!neg))) e) H n) (hx : x.ev e = some (.s .nilifc) := by exact rfl) : LS P N m D (⟨d, none, .inil neg x⟩ :: l) e H n :=
  RS.inilT hx h
theorem z59 {x : X} {neg : Bool} {t : TypeId} {v : SV} (h : LS P N m D l (putD d (.s (.bool neg)) e) H n) (hx : x.ev e = some (.s (.ifc t v)) := by exact rfl) : LS P N m D (⟨d, none, .inil neg x⟩ :: l) e H n :=
  RS.inilF hx h
theorem z60 {x : X} {b off : Nat} (h : LS P N m D l (putD d (.s (.ptr b off)) e) H n) (hx : x.ev e = some (.s (.ptr b off)) := by exact rfl) : LS P N m D (⟨d, none, .ck x⟩ :: l) e H n :=
  RS.ck hx h
theorem z61 {x : X} {len sz b o : Nat} (h : LS P N m D l (putD d (.s (.slc b o len len)) e) H n) (hx : x.ev e = some (.s (.ptr b o)) := by exact rfl) (hl : 0 < len := by first | omega | (simp only [Zs.size]; omega)) : LS P N m D (⟨d, none, .sla len sz x none none none⟩ :: l) e H n :=
  RS.slaAll hx hl h
theorem z62 {Hs Hc : Hp} {x : X} {v : AV} {K : Env → Hp → Prop} (h : MS P N m Hs n l (putD d v e) Hc K) (hx : x.ev e = some v := by exact rfl) : MS P N m Hs n (⟨d, none, .mov x⟩ :: l) e Hc K :=
  MS.mov hx h
theorem z63 {Hs Hc : Hp} {z : Nat} {x y : X} {b : Nat} {k : Blk} {c : Nat → SV} {H1 : Hp} {K : Env → Hp → Prop} (h : MS P N m Hs n l e H1 K) (hx : x.ev e = some (.s (.ptr b 0)) := by exact rfl) (hy : y.ev e = some (.arr z c) := by exact rfl) (hb : Hc.get b = some k := by first | exact Hp.get_eq _ _ _ | assumption | (simp (disch := omega) only [Hp.get_eq, Hp.get_ne]; done) | (simp (disch := omega) only [Hp.get_eq, Hp.get_ne, Hp.get_set_other]; first | assumption | rfl) | exact Hp.get_set_self _ (by assumption) | (simp (disch := omega) only [Hp.get_ne]; first | assumption | exact Hp.get_set_self _ (by assumption))) (ho : k.size = z := by rfl) (hnb : n ≤ b := by first | omega | (dsimp only; omega)) (hs : Hc.set b c = H1 := by first | (simp (disch := omega) only [Hp.set_eq, Hp.set_ne, Hp.set_set]; exact rfl) | (simp (disch := omega) only [Hp.set_eq, Hp.set_ne, Hp.set_set]; done) | exact rfl) : MS P N m Hs n (⟨none, none, .st z x y⟩ :: l) e Hc K :=
  MS.stw hx hy hb ho hnb hs h
theorem z64 {Hs Hc : Hp} {z : Nat} {x y : X} {b off : Nat} {k : Blk} {c : Nat → SV} {H1 : Hp} {K : Env → Hp → Prop} (h : MS P N m Hs n l e H1 K) (hx : x.ev e = some (.s (.ptr b off)) := by exact rfl) (hy : y.ev e = some (.arr z c) := by exact rfl) (hb : Hc.get b = some k := by first | exact Hp.get_eq _ _ _ | assumption | (simp (disch := omega) only [Hp.get_eq, Hp.get_ne]; done) | (simp (disch := omega) only [Hp.get_eq, Hp.get_ne, Hp.get_set_other]; first | assumption | rfl) | exact Hp.get_set_self _ (by assumption) | (simp (disch := omega) only [Hp.get_ne]; first | assumption | exact Hp.get_set_self _ (by assumption))) (ho : off + z ≤ k.size := by first | omega | (simp only [Zs.size]; omega)) (hnb : n ≤ b := by first | omega | (dsimp only; omega)) (hs : Hc.set b (splice k.c off z c) = H1 := by first | (simp (disch := omega) only [Hp.set_eq, Hp.set_ne, Hp.set_set]; exact rfl) | (simp (disch := omega) only [Hp.set_eq, Hp.set_ne, Hp.set_set]; done) | exact rfl) : MS P N m Hs n (⟨none, none, .st z x y⟩ :: l) e Hc K :=
  MS.sts hx hy hb ho hnb hs h
theorem z65  (h1 : CS P N m c e H n Q) (hx : x.ev e = some (.s (.bool true)) := by exact rfl) : CS P N m (.cond x c c') e H n Q :=
  CS.condT hx h1
theorem z66  (h1 : CS P N m c' e H n Q) (hx : x.ev e = some (.s (.bool false)) := by exact rfl) : CS P N m (.cond x c c') e H n Q :=
  CS.condF hx h1
theorem z67 {K : List AV → Prop} {r : List R1} {t : Nat} {v : AV} (h : resK e H r fun q => K (v :: q)) (hg : e.get t = some v := by exact rfl) : resK e H (.tmp t :: r) K :=
  resK.tmp hg h
theorem z68 {K : List AV → Prop} {r : List R1} {t z b off : Nat} {k : Blk} (h : resK e H r fun q => K (.arr z (fun j => k.c (off + j)) :: q)) (hg : e.get t = some (.s (.ptr b off)) := by exact rfl) (hb : H.get b = some k := by first | exact Hp.get_eq _ _ _ | assumption | (simp (disch := omega) only [Hp.get_eq, Hp.get_ne]; done) | (simp (disch := omega) only [Hp.get_eq, Hp.get_ne, Hp.get_set_other]; first | assumption | rfl) | exact Hp.get_set_self _ (by assumption) | (simp (disch := omega) only [Hp.get_ne]; first | assumption | exact Hp.get_set_self _ (by assumption))) (ho : off + z ≤ k.size := by first | omega | (simp only [Zs.size]; omega)) : resK e H (.cell (some z) t :: r) K :=
  resK.cn hg hb ho h
theorem z69 {K : List AV → Prop} {r : List R1} {t b off : Nat} {k : Blk} (h : resK e H r fun q => K (.s (k.c off) :: q)) (hg : e.get t = some (.s (.ptr b off)) := by exact rfl) (hb : H.get b = some k := by first | exact Hp.get_eq _ _ _ | assumption | (simp (disch := omega) only [Hp.get_eq, Hp.get_ne]; done) | (simp (disch := omega) only [Hp.get_eq, Hp.get_ne, Hp.get_set_other]; first | assumption | rfl) | exact Hp.get_set_self _ (by assumption) | (simp (disch := omega) only [Hp.get_ne]; first | assumption | exact Hp.get_set_self _ (by assumption))) (ho : off < k.size := by first | omega | (simp only [Zs.size]; omega)) : resK e H (.cell none t :: r) K :=
  resK.c1 hg hb ho h
/-- One step by one of the rules. -/
theorem zA {G R : Prop} (r : R) (h : R → G := by intro r; first | exact z00 r | exact CS.seq r | exact CS.regL r | exact CS.block r | exact z01 r | exact z02 r | exact z03 r | exact z04 r | exact z05 r | exact z06 r | exact z07 r | exact z08 r | exact z09 r | exact z10 r | exact z11 r | exact z12 r | exact z13 r | exact z14 r | exact z15 r | exact z16 r | exact z17 r | exact z18 r | exact z19 r | exact z20 r | exact z21 r | exact z22 r | exact z23 r | exact z24 r | exact z25 r | exact z26 r | exact z27 r | exact z28 r | exact z29 r | exact z30 r | exact z31 r | exact z32 r | exact z33 r | exact z34 r | exact z35 r | exact z36 r | exact z37 r | exact z38 r | exact z39 r | exact z40 r | exact z41 r | exact z42 r | exact z43 r | exact z44 r | exact z45 r | exact z46 r | exact z47 r | exact z48 r | exact z49 r | exact z50 r | exact z51 r | exact z52 r | exact z53 r | exact z54 r | exact z55 r | exact z56 r | exact z57 r | exact z58 r | exact z59 r | exact z60 r | exact z61 r | exact z62 r | exact z63 r | exact z64 r | exact z65 r | exact z66 r | exact z67 r | exact z68 r | exact z69 r) : G := h r
theorem zB {G R : Prop} (r : R) (h : R → G := by intro r; first | exact LS.nil r | exact CS.skip r | exact CS.ret r) : G := h r
theorem zC {G R : Prop} (r : R) (h : R → G := by intro r; first | exact CS.quietL r | exact CS.mixL r | exact Fin.ret r | exact Fin.nor r) : G := h r
/-- Both ways of a condition. -/
theorem zI {G R S : Prop} (r : R) (s : S) (h : R → S → G := by intro r s; first | exact CS.condTb rfl r s | exact CS.condTn rfl r s | exact CS.condP rfl r s | exact CS.condPn rfl r s | exact CS.condE rfl r s | exact CS.condN rfl r s | exact CS.cond rfl r s) : G := h r s
/-- A block that is there. -/
theorem zH {b : Nat} {k : Blk} (h : H.get b = some k := by first | exact Hp.get_eq _ _ _ | assumption | (simp (disch := omega) only [Hp.get_eq, Hp.get_ne]; done) | (simp (disch := omega) only [Hp.get_eq, Hp.get_ne, Hp.get_set_other]; first | assumption | rfl) | exact Hp.get_set_self _ (by assumption) | (simp (disch := omega) only [Hp.get_ne]; first | assumption | exact Hp.get_set_self _ (by assumption))) : H.get b = some k := h
/-- Blocks that are forgotten. -/
theorem zD {H1 : Hp} (h : Drops m H H1 := by (repeat first | exact Drops.refl _ _ | (refine Drops.keepc rfl rfl (fun _ _ => rfl) ?_) | refine Drops.drop (by omega) (by first | exact hf _ (by omega) | exact Hp.get_set_none _ (hf _ (by omega)) | (simp (disch := omega) only [Hp.get_ne]; exact hf _ (by omega))) ?_)) : Drops m H H1 := h
/-- A goal put aside, so that nothing takes it for a fact. -/
structure Gx (Q : Prop) : Prop where
  h : Q
/-- All steps that make no name. -/
theorem zG {G R : Prop} (r : R) (h : Gx R → G := by intro r; (first|refine zA ?_|(refine CS.tailL _ (List.Mem.head _) ?_;dsimp only[List.take,List.drop])|refine zC ?_|(refine zB ?_;try dsimp only[Ex.then,Ex.inBlock,putD,Env.put])|(refine CS.exit ?_;try dsimp only[Ex.then,Ex.inBlock,↓reduceIte,Nat.reduceEqDiff];try simp only[↓reduceIte])|(refine resK.nil ?_;dsimp only[resV])); (repeat first|refine zA ?_|(refine CS.tailL _ (List.Mem.head _) ?_;dsimp only[List.take,List.drop])|refine zC ?_|(refine zB ?_;try dsimp only[Ex.then,Ex.inBlock,putD,Env.put])|(refine CS.exit ?_;try dsimp only[Ex.then,Ex.inBlock,↓reduceIte,Nat.reduceEqDiff];try simp only[↓reduceIte])|(refine resK.nil ?_;dsimp only[resV])); exact r.h) : G := h ⟨r⟩
/-- A goal said plainly. -/
theorem zU {G R : Prop} (r : R) (h : Gx R → G := by intro r; dsimp only[Ex.then,Ex.inBlock,putD,Env.put]; exact r.h) : G := h ⟨r⟩
end
end Go.V

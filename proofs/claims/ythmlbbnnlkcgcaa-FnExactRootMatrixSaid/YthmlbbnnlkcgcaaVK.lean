/- The rules with their side conditions as default tactics, under short names. -/
import Derived.Test.YthmlbbnnlkcgcaaVJ
namespace Go.V
set_option linter.unusedVariables false
section
variable {P : Program} {N m : Nat} {d : Option Nat} {l : List Ins} {e : Env} {H : Hp} {n : Nat} {K : Env → Hp → Nat → Prop} {Q : Ex → Env → Hp → Nat → Prop} {c c' : Cd} {x : X} {D : Md}
theorem z00 {x : X} {v : AV} (h : LS P N m D l (putD d v e) H n) (hx : x.ev e = some v := by exact rfl) : LS P N m D (⟨d, none, .mov x⟩ :: l) e H n :=
  RS.mov hx h
theorem z01 {x : X} {b off : Nat} {k : Blk} (h : LS P N m D l (putD d (.s (k.c off)) e) H n) (hx : x.ev e = some (.s (.ptr b off)) := by exact rfl) (hb : H.get b = some k := by first | exact Hp.get_eq _ _ _ | assumption | (simp (disch := omega) only [Hp.get_eq, Hp.get_ne]; done) | (simp (disch := omega) only [Hp.get_eq, Hp.get_ne, Hp.get_set_other]; first | assumption | rfl)) (ho : off < k.size := by first | omega | (simp only [Zs.size]; omega)) : LS P N m D (⟨d, none, .ld none x⟩ :: l) e H n :=
  RS.ld1 hx hb ho h
theorem z02 {x : X} {z : Nat} {b off : Nat} {k : Blk} (h : LS P N m D l (putD d (.arr z (fun j => k.c (off + j))) e) H n) (hx : x.ev e = some (.s (.ptr b off)) := by exact rfl) (hb : H.get b = some k := by first | exact Hp.get_eq _ _ _ | assumption | (simp (disch := omega) only [Hp.get_eq, Hp.get_ne]; done) | (simp (disch := omega) only [Hp.get_eq, Hp.get_ne, Hp.get_set_other]; first | assumption | rfl)) (ho : off + z ≤ k.size := by first | omega | (simp only [Zs.size]; omega)) : LS P N m D (⟨d, none, .ld (some z) x⟩ :: l) e H n :=
  RS.ldn hx hb ho h
theorem z03 {x : X} {off b o : Nat} (h : LS P N m D l (putD d (.s (.ptr b (o + off))) e) H n) (hx : x.ev e = some (.s (.ptr b o)) := by exact rfl) : LS P N m D (⟨d, none, .fa off x⟩ :: l) e H n :=
  RS.fa hx h
theorem z04 {x i : X} {len sz b o j : Nat} {k : IntKind} {q : Int} (h : LS P N m D l (putD d (.s (.ptr b (o + j * sz))) e) H n) (hx : x.ev e = some (.s (.ptr b o)) := by exact rfl) (hi : i.ev e = some (.s (.int k q)) := by exact rfl) (hj : q = (j : Int) := by exact rfl) (hl : j < len := by first | omega | (simp only [Zs.size]; omega)) : LS P N m D (⟨d, none, .ia len sz x i⟩ :: l) e H n :=
  RS.ia hx hi hj hl h
theorem z05 {x i : X} {sz b o j len cp : Nat} {k : IntKind} {q : Int} (h : LS P N m D l (putD d (.s (.ptr b (o + j * sz))) e) H n) (hx : x.ev e = some (.s (.slc b o len cp)) := by exact rfl) (hi : i.ev e = some (.s (.int k q)) := by exact rfl) (hj : q = (j : Int) := by exact rfl) (hl : j < len := by first | omega | (simp only [Zs.size]; omega)) : LS P N m D (⟨d, none, .isl sz x i⟩ :: l) e H n :=
  RS.isl hx hi hj hl h
theorem z06 {x : X} {k : IntKind} {a : Int} (h : LS P N m D l (putD d (.s (.int .i64 a)) e) H n) (hx : x.ev e = some (.s (.int k a)) := by exact rfl) (hr : -9223372036854775808 ≤ a ∧ a ≤ 9223372036854775807 := by omega) : LS P N m D (⟨d, none, .cv .i64 x⟩ :: l) e H n :=
  RS.cv64 hx hr h
theorem z07 {x : X} {k : IntKind} {a : Int} (h : LS P N m D l (putD d (.s (.int .u8 a)) e) H n) (hx : x.ev e = some (.s (.int k a)) := by exact rfl) (hr : 0 ≤ a ∧ a ≤ 255 := by omega) : LS P N m D (⟨d, none, .cv .u8 x⟩ :: l) e H n :=
  RS.cv8 hx hr h
theorem z08 {x y : X} {a b : Int} (h : LS P N m D l (putD d (.s (.int .i64 (a + b))) e) H n) (hx : x.ev e = some (.s (.int .i64 a)) := by exact rfl) (hy : y.ev e = some (.s (.int .i64 b)) := by exact rfl) (hr : -9223372036854775808 ≤ a + b ∧ a + b ≤ 9223372036854775807 := by omega) : LS P N m D (⟨d, none, .bin .add x y⟩ :: l) e H n :=
  RS.add hx hy hr h
theorem z09 {x y : X} {a b : Int} (h : LS P N m D l (putD d (.s (.int .i64 (a - b))) e) H n) (hx : x.ev e = some (.s (.int .i64 a)) := by exact rfl) (hy : y.ev e = some (.s (.int .i64 b)) := by exact rfl) (hr : -9223372036854775808 ≤ a - b ∧ a - b ≤ 9223372036854775807 := by omega) : LS P N m D (⟨d, none, .bin .sub x y⟩ :: l) e H n :=
  RS.sub hx hy hr h
theorem z10 {x y : X} {a b : Int} (h : LS P N m D l (putD d (.s (.int .i64 (a * b))) e) H n) (hx : x.ev e = some (.s (.int .i64 a)) := by exact rfl) (hy : y.ev e = some (.s (.int .i64 b)) := by exact rfl) (hr : -9223372036854775808 ≤ a * b ∧ a * b ≤ 9223372036854775807 := by omega) : LS P N m D (⟨d, none, .bin .mul x y⟩ :: l) e H n :=
  RS.mul hx hy hr h
theorem z11 {x y : X} {k : IntKind} {a b : Int} (h : LS P N m D l (putD d (.s (.int k (a % b))) e) H n) (hx : x.ev e = some (.s (.int k a)) := by exact rfl) (hy : y.ev e = some (.s (.int k b)) := by exact rfl) (ha : 0 ≤ a := by omega) (hb : 0 < b := by omega) : LS P N m D (⟨d, none, .bin .rem x y⟩ :: l) e H n :=
  RS.rem hx hy ha hb h
theorem z12 {x y : X} {a b : Int} (h : LS P N m D l (putD d (.s (.int .i64 (a / b))) e) H n) (hx : x.ev e = some (.s (.int .i64 a)) := by exact rfl) (hy : y.ev e = some (.s (.int .i64 b)) := by exact rfl) (ha : 0 ≤ a ∧ a ≤ 9223372036854775807 ∧ 1 ≤ b := by omega) : LS P N m D (⟨d, none, .bin .quo x y⟩ :: l) e H n :=
  RS.quo hx hy ha h
theorem z13 {x y : X} {k : IntKind} {a b : Int} (h : LS P N m D l (putD d (.s (.bool (decide (a < b)))) e) H n) (hx : x.ev e = some (.s (.int k a)) := by exact rfl) (hy : y.ev e = some (.s (.int k b)) := by exact rfl) : LS P N m D (⟨d, none, .bin .lss x y⟩ :: l) e H n :=
  RS.lss hx hy h
theorem z14 {x y : X} {k : IntKind} {a b : Int} (h : LS P N m D l (putD d (.s (.bool (decide (a ≤ b)))) e) H n) (hx : x.ev e = some (.s (.int k a)) := by exact rfl) (hy : y.ev e = some (.s (.int k b)) := by exact rfl) : LS P N m D (⟨d, none, .bin .leq x y⟩ :: l) e H n :=
  RS.leq hx hy h
theorem z15 {x y : X} {k : IntKind} {a b : Int} (h : LS P N m D l (putD d (.s (.bool (a == b))) e) H n) (hx : x.ev e = some (.s (.int k a)) := by exact rfl) (hy : y.ev e = some (.s (.int k b)) := by exact rfl) : LS P N m D (⟨d, none, .bin .eql x y⟩ :: l) e H n :=
  RS.eql hx hy h
theorem z16 {x y : X} {k : IntKind} {a b : Int} (h : LS P N m D l (putD d (.s (.bool (a != b))) e) H n) (hx : x.ev e = some (.s (.int k a)) := by exact rfl) (hy : y.ev e = some (.s (.int k b)) := by exact rfl) : LS P N m D (⟨d, none, .bin .neq x y⟩ :: l) e H n :=
  RS.neq hx hy h
theorem z17 {x y : X} {k : IntKind} {a b : Int} (h : LS P N m D l (putD d (.s (.bool (decide (b < a)))) e) H n) (hx : x.ev e = some (.s (.int k a)) := by exact rfl) (hy : y.ev e = some (.s (.int k b)) := by exact rfl) : LS P N m D (⟨d, none, .bin .gtr x y⟩ :: l) e H n :=
  RS.gtr hx hy h
theorem z18 {x y : X} {k : IntKind} {a b : Int} (h : LS P N m D l (putD d (.s (.bool (decide (b ≤ a)))) e) H n) (hx : x.ev e = some (.s (.int k a)) := by exact rfl) (hy : y.ev e = some (.s (.int k b)) := by exact rfl) : LS P N m D (⟨d, none, .bin .geq x y⟩ :: l) e H n :=
  RS.geq hx hy h
theorem z19 {x : X} {b : Bool} (h : LS P N m D l (putD d (.s (.bool (!b))) e) H n) (hx : x.ev e = some (.s (.bool b)) := by exact rfl) : LS P N m D (⟨d, none, .un .not x⟩ :: l) e H n :=
  RS.not hx h
theorem z20 {g : Nat × Bool} {i : I} (h : LS P N m D (⟨d, none, i⟩ :: l) e H n) (hg : e.get g.1 = some (.s (.bool g.2)) := by exact rfl) : LS P N m D (⟨d, some g, i⟩ :: l) e H n :=
  RS.gyes hg h
theorem z21 {t : Nat} {b : Bool} {i : I} (h : LS P N m D l (putD d .undef e) H n) (hg : e.get t = some (.s (.bool (!b))) := by exact rfl) : LS P N m D (⟨d, some (t, b), i⟩ :: l) e H n :=
  RS.gno hg h
theorem z22 {t : Nat} {b : Bool} {i : I} (h : LS P N m D l (putD d .undef e) H n) (hg : e.get t = some .undef := by exact rfl) : LS P N m D (⟨d, some (t, b), i⟩ :: l) e H n :=
  RS.gun hg h
theorem z23 {c a b : X} {v : AV} (h : LS P N m D l (putD d v e) H n) (hc : c.ev e = some (.s (.bool true)) := by exact rfl) (hx : a.ev e = some v := by exact rfl) : LS P N m D (⟨d, none, .pick c a b⟩ :: l) e H n :=
  RS.pickT hc hx h
theorem z24 {c a b : X} {v : AV} (h : LS P N m D l (putD d v e) H n) (hc : c.ev e = some (.s (.bool false)) := by exact rfl) (hx : b.ev e = some v := by exact rfl) : LS P N m D (⟨d, none, .pick c a b⟩ :: l) e H n :=
  RS.pickF hc hx h
theorem z25 {x : X} {k : Nat} {r : List AV} {v : AV} (h : LS P N m D l (putD d v e) H n) (hx : x.ev e = some (.tup r) := by exact rfl) (hv : r[k]? = some v := by exact rfl) : LS P N m D (⟨d, none, .ex x k⟩ :: l) e H n :=
  RS.ex hx hv h
theorem z26 {z : Zs} {k : Nat} {ps : List (Nat × Nat × X)} {c : Nat → SV} (h : LS P N m D l (putD d (.arr k c) e) H n) (hc : placeAll e ps z.c = some c := by exact rfl) : LS P N m D (⟨d, none, .build k z ps⟩ :: l) e H n :=
  RS.build hc h
theorem z27 {t : TypeId} {z : Zs} (h : LS P N m (.seq K) l (putD d (.s (.ptr n 0)) e) ((n, ⟨z.size, z.c, t⟩) :: H) (n + 1))  : LS P N m (.seq K) (⟨d, none, .new t z⟩ :: l) e H n :=
  RS.new h
theorem z28 {t : TypeId} {x : X} {v : AV} {k : Blk} (h : LS P N m (.seq K) l (putD d (.s (.ptr n 0)) e) ((n, k) :: H) (n + 1)) (hx : x.ev e = some v := by exact rfl) (hk : boxK t v = some k := by exact rfl) : LS P N m (.seq K) (⟨d, none, .box t x⟩ :: l) e H n :=
  RS.box hx hk h
theorem z29 {t : TypeId} {len sz : Nat} {z : Zs} {ps : List (Nat × Nat × X)} {c : Nat → SV} (h : LS P N m (.seq K) l (putD d (.s (.slc n 0 len len)) e) ((n, ⟨len * sz, c, t⟩) :: H) (n + 1)) (hp : placeAll e ps (fun i => z.c (i % sz)) = some c := by exact rfl) : LS P N m (.seq K) (⟨d, none, .bsl t len sz z ps⟩ :: l) e H n :=
  RS.bsl hp h
theorem z30 {z : Nat} {x y : X} {b : Nat} {k : Blk} {c : Nat → SV} {H1 : Hp} (h : LS P N m (.seq K) l e H1 n) (hx : x.ev e = some (.s (.ptr b 0)) := by exact rfl) (hy : y.ev e = some (.arr z c) := by exact rfl) (hb : H.get b = some k := by first | exact Hp.get_eq _ _ _ | assumption | (simp (disch := omega) only [Hp.get_eq, Hp.get_ne]; done) | (simp (disch := omega) only [Hp.get_eq, Hp.get_ne, Hp.get_set_other]; first | assumption | rfl)) (ho : k.size = z := by rfl) (hs : H.set b c = H1 := by first | (simp (disch := omega) only [Hp.set_eq, Hp.set_ne]; exact rfl) | (simp (disch := omega) only [Hp.set_eq, Hp.set_ne]; done) | exact rfl) : LS P N m (.seq K) (⟨none, none, .st z x y⟩ :: l) e H n :=
  RS.stw hx hy hb ho hs h
theorem z31 {x y : X} {b off : Nat} {k : Blk} {v : SV} {H1 : Hp} (h : LS P N m (.seq K) l e H1 n) (hx : x.ev e = some (.s (.ptr b off)) := by exact rfl) (hy : y.ev e = some (.s v) := by exact rfl) (hb : H.get b = some k := by first | exact Hp.get_eq _ _ _ | assumption | (simp (disch := omega) only [Hp.get_eq, Hp.get_ne]; done) | (simp (disch := omega) only [Hp.get_eq, Hp.get_ne, Hp.get_set_other]; first | assumption | rfl)) (ho : off < k.size := by first | omega | (simp only [Zs.size]; omega)) (hs : H.set b (put1 k.c off v) = H1 := by first | (simp (disch := omega) only [Hp.set_eq, Hp.set_ne]; exact rfl) | (simp (disch := omega) only [Hp.set_eq, Hp.set_ne]; done) | exact rfl) : LS P N m (.seq K) (⟨none, none, .st 1 x y⟩ :: l) e H n :=
  RS.st1s hx hy hb ho hs h
theorem z32 {z : Nat} {x y : X} {b off : Nat} {k : Blk} {c : Nat → SV} {H1 : Hp} (h : LS P N m (.seq K) l e H1 n) (hx : x.ev e = some (.s (.ptr b off)) := by exact rfl) (hy : y.ev e = some (.arr z c) := by exact rfl) (hb : H.get b = some k := by first | exact Hp.get_eq _ _ _ | assumption | (simp (disch := omega) only [Hp.get_eq, Hp.get_ne]; done) | (simp (disch := omega) only [Hp.get_eq, Hp.get_ne, Hp.get_set_other]; first | assumption | rfl)) (ho : off + z ≤ k.size := by first | omega | (simp only [Zs.size]; omega)) (hs : H.set b (splice k.c off z c) = H1 := by first | (simp (disch := omega) only [Hp.set_eq, Hp.set_ne]; exact rfl) | (simp (disch := omega) only [Hp.set_eq, Hp.set_ne]; done) | exact rfl) : LS P N m (.seq K) (⟨none, none, .st z x y⟩ :: l) e H n :=
  RS.stns hx hy hb ho hs h
theorem z33 {x i : X} {len sz j z : Nat} {k : IntKind} {q : Int} {c : Nat → SV} (h : LS P N m D l (putD d (.s (c (j * sz))) e) H n) (hx : x.ev e = some (.arr z c) := by exact rfl) (hi : i.ev e = some (.s (.int k q)) := by exact rfl) (hj : q = (j : Int) := by exact rfl) (hl : j < len := by first | omega | (simp only [Zs.size]; omega)) (ho : j * sz < z := by first | omega | (simp only [Zs.size]; omega)) : LS P N m D (⟨d, none, .ix len sz none x i⟩ :: l) e H n :=
  RS.ix1 hx hi hj hl ho h
theorem z34 {x i : X} {len sz j z y : Nat} {k : IntKind} {q : Int} {c : Nat → SV} (h : LS P N m D l (putD d (.arr y (fun i => c (j * sz + i))) e) H n) (hx : x.ev e = some (.arr z c) := by exact rfl) (hi : i.ev e = some (.s (.int k q)) := by exact rfl) (hj : q = (j : Int) := by exact rfl) (hl : j < len := by first | omega | (simp only [Zs.size]; omega)) (ho : j * sz + y ≤ z := by first | omega | (simp only [Zs.size]; omega)) : LS P N m D (⟨d, none, .ix len sz (some y) x i⟩ :: l) e H n :=
  RS.ixn hx hi hj hl ho h
theorem z35 {x : X} {off k : Nat} {c : Nat → SV} (h : LS P N m D l (putD d (.s (c off)) e) H n) (hx : x.ev e = some (.arr k c) := by exact rfl) (ho : off < k := by first | omega | (simp only [Zs.size]; omega)) : LS P N m D (⟨d, none, .fl off none x⟩ :: l) e H n :=
  RS.fl1 hx ho h
theorem z36 {x : X} {off k z : Nat} {c : Nat → SV} (h : LS P N m D l (putD d (.arr z (fun j => c (off + j))) e) H n) (hx : x.ev e = some (.arr k c) := by exact rfl) (ho : off + z ≤ k := by first | omega | (simp only [Zs.size]; omega)) : LS P N m D (⟨d, none, .fl off (some z) x⟩ :: l) e H n :=
  RS.fln hx ho h
theorem z37 {f : FuncId} {pre post : List X} {a b : List SV} (h : LS P N m D l (putD d (.s (.fn f a b)) e) H n) (h1 : svs e pre = some a := by exact rfl) (h2 : svs e post = some b := by exact rfl) : LS P N m D (⟨d, none, .mkf f pre post⟩ :: l) e H n :=
  RS.mkf h1 h2 h
theorem z38 {x : X} {b o len cp : Nat} (h : LS P N m D l (putD d (.s (.int .i64 len)) e) H n) (hx : x.ev e = some (.s (.slc b o len cp)) := by exact rfl) : LS P N m D (⟨d, none, .len x⟩ :: l) e H n :=
  RS.len hx h
theorem z39 {x : X} (h : LS P N m D l (putD d (.s (.int .i64 0)) e) H n) (hx : x.ev e = some (.s .nils) := by exact rfl) : LS P N m D (⟨d, none, .len x⟩ :: l) e H n :=
  RS.len0 hx h
theorem z40 {x : X} {s : ByteArray} (h : LS P N m D l (putD d (.s (.int .i64 s.size)) e) H n) (hx : x.ev e = some (.s (.str s)) := by exact rfl) : LS P N m D (⟨d, none, .lens x⟩ :: l) e H n :=
  RS.lens hx h
theorem z41 {k : Nat} (h : LS P N m D l (putD d (.s (.int .i64 k)) e) H n)  : LS P N m D (⟨d, none, .lenc k⟩ :: l) e H n :=
  RS.lenc h
theorem z42 {x : X} {neg : Bool} (h : LS P N m D l (putD d (.s (.bool (!neg))) e) H n) (hx : x.ev e = some (.s .nils) := by exact rfl) : LS P N m D (⟨d, none, .snil neg x⟩ :: l) e H n :=
  RS.snilT hx h
theorem z43 {x : X} {neg : Bool} {b o len cp : Nat} (h : LS P N m D l (putD d (.s (.bool neg)) e) H n) (hx : x.ev e = some (.s (.slc b o len cp)) := by exact rfl) : LS P N m D (⟨d, none, .snil neg x⟩ :: l) e H n :=
  RS.snilF hx h
theorem z44 {x : X} {neg : Bool} (h : LS P N m D l (putD d (.s (.bool (!neg))) e) H n) (hx : x.ev e = some (.s .nilifc) := by exact rfl) : LS P N m D (⟨d, none, .inil neg x⟩ :: l) e H n :=
  RS.inilT hx h
theorem z45 {x : X} {neg : Bool} {t : TypeId} {v : SV} (h : LS P N m D l (putD d (.s (.bool neg)) e) H n) (hx : x.ev e = some (.s (.ifc t v)) := by exact rfl) : LS P N m D (⟨d, none, .inil neg x⟩ :: l) e H n :=
  RS.inilF hx h
theorem z46 {x : X} {b off : Nat} (h : LS P N m D l (putD d (.s (.ptr b off)) e) H n) (hx : x.ev e = some (.s (.ptr b off)) := by exact rfl) : LS P N m D (⟨d, none, .ck x⟩ :: l) e H n :=
  RS.ck hx h
theorem z47 {x : X} {len sz b o : Nat} (h : LS P N m D l (putD d (.s (.slc b o len len)) e) H n) (hx : x.ev e = some (.s (.ptr b o)) := by exact rfl) (hl : 0 < len := by first | omega | (simp only [Zs.size]; omega)) : LS P N m D (⟨d, none, .sla len sz x none none none⟩ :: l) e H n :=
  RS.slaAll hx hl h
theorem z48  (h1 : CS P N m c e H n Q) (hx : x.ev e = some (.s (.bool true)) := by exact rfl) : CS P N m (.cond x c c') e H n Q :=
  CS.condT hx h1
theorem z49  (h1 : CS P N m c' e H n Q) (hx : x.ev e = some (.s (.bool false)) := by exact rfl) : CS P N m (.cond x c c') e H n Q :=
  CS.condF hx h1
theorem z50 {K : List AV → Prop} {r : List R1} {t : Nat} {v : AV} (h : resK e H r fun q => K (v :: q)) (hg : e.get t = some v := by exact rfl) : resK e H (.tmp t :: r) K :=
  resK.tmp hg h
theorem z51 {K : List AV → Prop} {r : List R1} {t z b off : Nat} {k : Blk} (h : resK e H r fun q => K (.arr z (fun j => k.c (off + j)) :: q)) (hg : e.get t = some (.s (.ptr b off)) := by exact rfl) (hb : H.get b = some k := by first | exact Hp.get_eq _ _ _ | assumption | (simp (disch := omega) only [Hp.get_eq, Hp.get_ne]; done) | (simp (disch := omega) only [Hp.get_eq, Hp.get_ne, Hp.get_set_other]; first | assumption | rfl)) (ho : off + z ≤ k.size := by first | omega | (simp only [Zs.size]; omega)) : resK e H (.cell (some z) t :: r) K :=
  resK.cn hg hb ho h
theorem z52 {K : List AV → Prop} {r : List R1} {t b off : Nat} {k : Blk} (h : resK e H r fun q => K (.s (k.c off) :: q)) (hg : e.get t = some (.s (.ptr b off)) := by exact rfl) (hb : H.get b = some k := by first | exact Hp.get_eq _ _ _ | assumption | (simp (disch := omega) only [Hp.get_eq, Hp.get_ne]; done) | (simp (disch := omega) only [Hp.get_eq, Hp.get_ne, Hp.get_set_other]; first | assumption | rfl)) (ho : off < k.size := by first | omega | (simp only [Zs.size]; omega)) : resK e H (.cell none t :: r) K :=
  resK.c1 hg hb ho h
end
end Go.V

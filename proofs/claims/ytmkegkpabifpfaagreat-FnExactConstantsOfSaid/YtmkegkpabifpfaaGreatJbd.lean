/- Kernels, the program's: the vectors for the free places. -/
import Derived.Test.YtmkegkpabifpfaaGreatJbc
namespace Go.V
set_option linter.unusedSimpArgs false
set_option linter.unusedVariables false
/-- A fact that no search takes for a content. -/
structure Bw (Q : Prop) : Prop where
  h : Q
section
variable {P : Program} {N m : Nat} {e : Env} {H : Hp} {n : Nat} {l : List Ins} {d : Option Nat} {D : Md}
theorem RS.lenSL {x : X} {v : SV} {k b : Nat} {F : Nat → SV} (hx : x.ev e = some (.s v)) (hV : SL H v k F b) (h : LS P N m D l (putD d (.s (.int .i64 k)) e) H n) : LS P N m D (⟨d, none, .len x⟩ :: l) e H n := by
  rcases hV with ⟨rfl, rfl⟩ | ⟨o, cap, kb, rfl, _⟩
  · exact RS.len0 hx h
  · exact RS.len hx h
end
end Go.V
namespace Go.Proofs.YtmkegkpabifpfaaGreat
open Go.V
set_option linter.unusedSimpArgs false
set_option linter.unusedVariables false
set_option maxHeartbeats 4000000

/-- slices.Index[[]int,int] -/
def ir102 : Cd := (.seq (.reg [⟨some 4,none,.mov (.c (.int .i64 0))⟩]) (.seq (.seq (.reg [⟨some 6,none,.mov (.t 0)⟩,⟨some 7,none,.len (.t 6)⟩,⟨some 8,none,.mov (.c (.int .i64 0))⟩]) (.block 0 (.loop (.seq (.reg [⟨some 9,none,.bin .lss (.t 8) (.t 7)⟩]) (.seq (.cond (.t 9) .skip (.exit 0)) (.seq (.block 1 (.seq (.reg [⟨some 10,none,.mov (.t 8)⟩,⟨some 5,none,.mov (.t 10)⟩]) (.seq (.reg [⟨some 11,none,.mov (.t 1)⟩,⟨some 12,none,.mov (.t 0)⟩,⟨some 13,none,.mov (.t 5)⟩,⟨some 14,none,.isl 1 (.t 12) (.t 13)⟩,⟨some 15,none,.ld none (.t 14)⟩,⟨some 16,none,.bin .eql (.t 11) (.t 15)⟩]) (.cond (.t 16) (.seq (.reg [⟨some 17,none,.mov (.t 5)⟩,⟨some 4,none,.mov (.t 17)⟩]) .ret) .skip)))) (.reg [⟨some 18,none,.bin .add (.t 8) (.c (.int .i64 1))⟩,⟨some 8,none,.mov (.t 18)⟩]))))))) (.seq (.reg [⟨some 4,none,.mov (.c (.int .i64 (-1)))⟩]) .ret)))
set_option maxRecDepth 100000 in
theorem tr102 : trFn Tryz.prog Tryz.f102 = some (19, ir102, [.tmp 4]) := by kernel_rfl

theorem slices_IndexI (P : Nat → Nat) (x d pb : Nat) (v : SV) (H : Hp) (n : Nat) (hd : d ≤ 500) (hV : SL H v d (fun k => .int .i64 (P k : Nat)) pb) :
    FnS Tryz.prog 102 [.s v, i64 (x : Nat)] H n (fun r H' _ => (∃ y, r = i64 y ∧ (0 ≤ y ↔ ∃ k, k < d ∧ P k = x)) ∧ H' = H) := by
  refine FnS.of_body Tryz.func102 tr102 (by simp) (fun hf => ?_)
  dsimp only [argEnv]
  unfold ir102
  (refine zG ?_)
  refine RS.lenSL (by exact rfl) hV ?_
  (refine zG ?_)
  refine CS.iter d (fun i => [(8, i64 (i : Nat)), (7, i64 (d : Nat)), (0, .s v), (1, i64 (x : Nat))]) (fun _ => H) (fun i => Bw (∀ k, k < i → P k ≠ x)) (by (repeat first | exact trivial | refine And.intro rfl ?_)) (Drops.refl _ _) ⟨fun k hk => by omega⟩ ?_
  intro i n1 hi hn ⟨hJ⟩
  (refine zG ?_)
  refine zI ?_ ?_<;>intro h1
  · rcases hV with ⟨_, rfl⟩ | ⟨o, cap, kb, rfl, gb, so, sm, sc⟩
    · omega
    have sc1 : kb.c (o + i * 1) = .int .i64 (P i : Nat) := by rw [Nat.mul_one]; exact sc i (by omega)
    (refine zG ?_)
    refine zI ?_ ?_<;>intro h2
    · (refine zG ?_)
      exact ⟨_, H, rfl, by exact zD, ⟨(i : Nat), rfl, fun _ => ⟨i, by omega, by omega⟩, fun _ => by omega⟩, rfl⟩
    · (refine zG ?_)
      refine ⟨by omega, by (repeat first | exact trivial | refine And.intro rfl ?_), Drops.refl _ _, ⟨fun k hk => ?_⟩⟩
      by_cases e : k = i
      · subst e; omega
      · exact hJ k (by omega)
  · obtain rfl : d = i := by omega
    (refine zG ?_)
    exact ⟨_, H, rfl, by exact zD, ⟨-1, rfl, fun h => by omega, fun ⟨k, h2, h3⟩ => absurd h3 (hJ k h2)⟩, rfl⟩

/-- slices.Contains[[]int,int] -/
def ir77 : Cd := (.seq (.reg [⟨some 4,none,.mov (.c (.bool false))⟩]) (.seq (.reg [⟨some 5,none,.mov (.t 0)⟩,⟨some 6,none,.mov (.t 1)⟩,⟨some 7,none,.call 102 [(.t 5),(.t 6)]⟩,⟨some 8,none,.bin .geq (.t 7) (.c (.int .i64 0))⟩,⟨some 4,none,.mov (.t 8)⟩]) .ret))
set_option maxRecDepth 100000 in
theorem tr77 : trFn Tryz.prog Tryz.f77 = some (9, ir77, [.tmp 4]) := by kernel_rfl

theorem slices_ContainsI (P : Nat → Nat) (x d pb : Nat) (v : SV) (H : Hp) (n : Nat) (hd : d ≤ 500) (hV : SL H v d (fun k => .int .i64 (P k : Nat)) pb) :
    FnS Tryz.prog 77 [.s v, i64 (x : Nat)] H n (fun r H' _ => r = bl (tb (∃ k, k < d ∧ P k = x)) ∧ H' = H) := by
  refine FnS.of_body Tryz.func77 tr77 (by simp) (fun hf => ?_)
  dsimp only [argEnv]
  unfold ir77
  (refine zG ?_)
  refine RS.call rfl ((slices_IndexI P x d pb v _ _ hd hV).mono ?_)
  rintro r H n2 hn2 ⟨⟨y, rfl, hy⟩, rfl⟩
  (refine zG ?_)
  exact ⟨_, H, rfl, by exact zD, by rw [← tb_iff hy, tb_dec], rfl⟩

/-- (*impl.system).spaces -/
def ir59 : Cd := (.seq (.reg [⟨some 2,none,.mov (.c .nils)⟩]) (.seq (.reg [⟨some 8,none,.bsl 34 0 8 [(8,(.int .u8 0))] []⟩,⟨some 3,none,.mov (.t 8)⟩]) (.seq (.seq (.reg [⟨some 9,none,.mov (.t 0)⟩,⟨some 10,none,.ck (.t 9)⟩,⟨some 11,none,.fa 2 (.t 10)⟩,⟨some 12,none,.ld none (.t 11)⟩,⟨some 13,none,.mov (.c (.int .i64 0))⟩]) (.block 0 (.loop (.seq (.reg [⟨some 14,none,.bin .lss (.t 13) (.t 12)⟩]) (.seq (.cond (.t 14) .skip (.exit 0)) (.seq (.block 1 (.seq (.reg [⟨some 15,none,.mov (.t 13)⟩,⟨some 4,none,.mov (.t 15)⟩]) (.seq (.seq (.reg [⟨some 16,none,.mov (.t 0)⟩,⟨some 17,none,.ck (.t 16)⟩,⟨some 18,none,.fa 4 (.t 17)⟩,⟨some 19,none,.ld none (.t 18)⟩,⟨some 20,none,.mov (.t 4)⟩,⟨some 21,none,.call 77 [(.t 19),(.t 20)]⟩]) (.cond (.t 21) (.exit 1) .skip)) (.seq (.reg [⟨some 22,none,.mov (.t 4)⟩,⟨some 23,none,.call 78 [(.t 22)]⟩,⟨some 5,none,.new 34 [(8,(.int .u8 0))]⟩,⟨none,none,.st 8 (.t 5) (.t 23)⟩]) (.seq (.seq (.reg [⟨some 24,none,.mov (.t 0)⟩,⟨some 25,none,.ck (.t 24)⟩,⟨some 26,none,.fa 4 (.t 25)⟩,⟨some 27,none,.ld none (.t 26)⟩,⟨some 28,none,.len (.t 27)⟩,⟨some 29,none,.mov (.c (.int .i64 0))⟩]) (.block 2 (.loop (.seq (.reg [⟨some 30,none,.bin .lss (.t 29) (.t 28)⟩]) (.seq (.cond (.t 30) .skip (.exit 2)) (.seq (.block 3 (.seq (.reg [⟨some 31,none,.mov (.t 29)⟩,⟨some 32,none,.isl 1 (.t 27) (.t 29)⟩,⟨some 33,none,.ld none (.t 32)⟩,⟨some 6,none,.mov (.t 31)⟩,⟨some 7,none,.mov (.t 33)⟩]) (.drw true [19] [⟨some 34,none,.mov (.t 7)⟩,⟨some 35,none,.mov (.t 0)⟩,⟨some 36,none,.ck (.t 35)⟩,⟨some 37,none,.fa 0 (.t 36)⟩,⟨some 38,none,.ld (some 2) (.t 37)⟩,⟨some 39,none,.mov (.t 0)⟩,⟨some 40,none,.ck (.t 39)⟩,⟨some 41,none,.fa 3 (.t 40)⟩,⟨some 42,none,.ld none (.t 41)⟩,⟨some 43,none,.mov (.t 6)⟩,⟨some 44,none,.isl 1 (.t 42) (.t 43)⟩,⟨some 45,none,.ld none (.t 44)⟩,⟨some 46,none,.mov (.t 4)⟩,⟨some 47,none,.isl 1 (.t 45) (.t 46)⟩,⟨some 48,none,.ld none (.t 47)⟩,⟨some 49,none,.cv .i64 (.t 48)⟩,⟨some 50,none,.un .neg (.t 49)⟩,⟨some 51,none,.call 71 [(.t 38),(.t 50)]⟩,⟨some 52,none,.ia 8 1 (.t 5) (.t 34)⟩,⟨none,none,.st 1 (.t 52) (.t 51)⟩]))) (.reg [⟨some 53,none,.bin .add (.t 29) (.c (.int .i64 1))⟩,⟨some 29,none,.mov (.t 53)⟩]))))))) (.reg [⟨some 54,none,.mov (.t 3)⟩,⟨some 55,none,.ld (some 8) (.t 5)⟩,⟨some 56,none,.bsl 34 1 8 [(8,(.int .u8 0))] [(0,8,(.t 55))]⟩,⟨some 57,none,.app 34 8 8 [(8,(.int .u8 0))] (.t 54) (.t 56)⟩,⟨some 3,none,.mov (.t 57)⟩])))))) (.reg [⟨some 58,none,.bin .add (.t 13) (.c (.int .i64 1))⟩,⟨some 13,none,.mov (.t 58)⟩]))))))) (.seq (.reg [⟨some 59,none,.mov (.t 0)⟩,⟨some 60,none,.ck (.t 59)⟩,⟨some 61,none,.fa 0 (.t 60)⟩,⟨some 62,none,.fa 0 (.t 61)⟩,⟨some 63,none,.ld none (.t 62)⟩,⟨some 64,none,.mov (.t 3)⟩,⟨some 65,none,.call 79 [(.t 63),(.t 64)]⟩,⟨some 2,none,.mov (.t 65)⟩]) .ret))))
set_option maxRecDepth 100000 in
theorem tr59 : trFn Tryz.prog Tryz.f59 = some (66, ir59, [.tmp 2]) := by kernel_rfl

theorem system_spaces (p : Int) (a d : Nat) (R : Nat → Nat → Int) (P : Nat → Nat) (sb rb pb : Nat) (bk cp : Nat → Nat) (ks : Blk) (H : Hp) (n : Nat) (hp : isP p = true) (ha : a ≤ 8) (hd : d ≤ 8)
    (hS : SY H sb p a d R rb bk cp ks) (hP : SL H (ks.c 4) d (fun k => .int .i64 (P k : Nat)) pb) (hpl : ∀ k, k < d → P k < a) (hR : ∀ k x, k < d → x ≤ a → 0 ≤ R k x ∧ R k x < p) :
    FnS Tryz.prog 59 [ptr sb 0] H n (fun r H' n' => ∃ sv' A' d' P' b', r = .s sv' ∧ VL H' sv' d' A' b' ∧ RR p A' d' P' ∧ same p A' d' (krn p R P d a) (fre P d a) ∧ n ≤ b' ∧ b' < n' ∧ (∀ x, n' ≤ x → H'.get x = none) ∧ ∀ x, x < n → H'.get x = H.get x) := by
  have hb := isP_le hp
  have gs := hS.g
  have ss := hS.s
  have s0 := hS.c0
  have hfld : ∀ q, q < 2 → ks.c q = fldC p 0 q := fun q hq => by
    rcases (show q = 0 ∨ q = 1 by omega) with rfl | rfl
    · exact hS.c0
    · exact hS.c1
  have s2' : ks.c (0 + 2) = .int .i64 (a : Nat) := hS.c2
  refine FnS.of_body Tryz.func59 tr59 (by simp) (fun hf => ?_)
  dsimp only [argEnv]
  unfold ir59
  have hsn := getlt hf gs
  (refine zG ?_)
  refine CS.weak (e1 := [(13, i64 ((0 : Nat) : Int)), (12, i64 (a : Nat)), (0, ptr sb 0), (3, .s (.slc n 0 0 0))]) (by (repeat first | exact trivial | refine And.intro rfl ?_)) (Drops.refl _ _) ?_
  refine CS.loop (fun k e H1 n1 => ∃ c v8 b8, c ≤ a ∧ k = a - c ∧ e = [(13, i64 (c : Nat)), (12, i64 (a : Nat)), (0, ptr sb 0), (3, .s v8)] ∧ VL H1 v8 (fre P d c) (krn p R P d c) b8 ∧ n ≤ b8 ∧ b8 < n1 ∧ (∀ x, x < n → H1.get x = H.get x) ∧ ∀ x, n1 ≤ x → H1.get x = none) a ?_ ?_
  · exact ⟨0, _, n, by omega, rfl, rfl, ⟨0, 0, _, rfl, by exact zH, by simp, Nat.le_refl _, fun i x hi => by unfold fre at hi; omega⟩, by omega, by omega, fun x hx => by simp (disch := omega) only [Hp.get_ne], fun x hx => by simp (disch := omega) only [Hp.get_ne]; exact hf x (by omega)⟩
  rintro k e H1 n5 hn5 ⟨c, v8, b8, hc, rfl, rfl, hV8, hb8, hb8n, hlow1, hfr1⟩
  have gs1 : H1.get sb = some ks := by rw [hlow1 sb hsn]; exact gs
  have hP1 : SL H1 (ks.c 4) d (fun k => .int .i64 (P k : Nat)) pb := by
    rcases hP with q | ⟨o, cap, kb, q1, q2, q3⟩
    · exact .inl q
    · exact .inr ⟨o, cap, kb, q1, by rw [hlow1 pb (getlt hf q2)]; exact q2, q3⟩
  have hfl := fre_le P d c
  (refine zG ?_)
  refine zI ?_ ?_<;>intro h2
  · have hc' : c < a := by omega
    (refine zG ?_)
    refine RS.call rfl ((slices_ContainsI P c d pb (ks.c 4) _ _ (by omega) hP1).mono ?_)
    rintro r H1 n6 hn6 ⟨rfl, rfl⟩
    (refine zG ?_)
    refine zI ?_ ?_<;>intro h4
    · (refine zG ?_)
      refine ⟨a - (c + 1), [(13, i64 ((c + 1 : Nat) : Int)), (12, i64 (a : Nat)), (0, ptr sb 0), (3, .s v8)], H1, by omega, by (repeat first | exact trivial | refine And.intro rfl ?_), Drops.refl _ _, c + 1, v8, b8, by omega, rfl, rfl, by rw [fre_succ, krn_succ, if_pos (tb_true h4), if_pos (tb_true h4)]; exact hV8, hb8, by omega, hlow1, fun x hx => hfr1 x (by omega)⟩
    · (refine zG ?_)
      refine RS.call rfl ((impl_basis c _ _ (by omega)).mono ?_)
      rintro r H1 n7 hn7 ⟨rfl, rfl⟩
      (refine zG ?_)
      refine RS.lenSL (by exact rfl) (hP1.push (hfr1 n7 (by omega))) ?_
      (refine zG ?_)
      refine CS.iter d (fun i => [(29, i64 (i : Nat)), (28, i64 (d : Nat)), (27, .s (ks.c 4)), (5, ptr n7 0), (4, i64 (c : Nat)), (13, i64 (c : Nat)), (12, i64 (a : Nat)), (0, ptr sb 0), (3, .s v8)])
        (fun i => (n7, ⟨8, bys (kvs p R P c i), 34⟩) :: H1) (fun _ => True) (by (repeat first | exact trivial | refine And.intro rfl ?_)) (Drops.keepc rfl rfl (fun _ _ => rfl) (Drops.refl _ _)) trivial ?_
      intro i n8 hi8 hn8 _
      have hV8f := hV8.bound hfr1
      (refine zG ?_)
      refine zI ?_ ?_<;>intro h5
      · have hi' : i < d := by omega
        rcases hP1 with ⟨_, q0⟩ | ⟨po, pcap, kp, q1, gp, sp, pm, cq⟩
        · omega
        rcases hS.rows with ⟨_, q0⟩ | ⟨ro, rcap, rk, r3, rg, rs, rm, rc⟩
        · omega
        obtain ⟨ki, gi, si, ci⟩ := hS.row i hi'
        have hqc := hS.qc i hi'
        have r3' : ks.c (0 + 3) = .slc rb ro d rcap := r3
        have pc1 : kp.c (po + i * 1) = .int .i64 (P i : Nat) := by rw [Nat.mul_one]; exact cq i hi'
        have rc1 : rk.c (ro + i * 1) = .slc (bk i) 0 (a + 1) (cp (bk i)) := by rw [Nat.mul_one]; exact rc i hi'
        have ci1 : ki.c (0 + c * 1) = .int .u8 (R i c) := by rw [Nat.zero_add, Nat.mul_one]; exact ci c (by omega)
        have rg1 : H1.get rb = some rk := by rw [hlow1 rb (getlt hf rg)]; exact rg
        have gi1 : H1.get (bk i) = some ki := by rw [hlow1 _ (getlt hf gi)]; exact gi
        have hRc := hR i c hi' (by omega)
        have hPi := hpl i hi'
        have hn1 := getlt hf rg
        have hn2 := getlt hf gi
        have hn3 := getlt hfr1 gp
        rw [q1]
        (refine zG ?_)
        refine RS.neg64 (by exact rfl) (by omega) ?_
        (repeat first|refine zG ?_|(refine LS.nilO ?_;intro nq hnq hltq;try refine zU ?_)|(refine MS.new ?_;intro bq hbq hbqf;try refine zU ?_)|(refine MS.nil ?_;intro nq hnq hltq;have hlq:=hltq _ _ (Hp.get_eq _ _ _);clear hltq;try refine zU ?_)|(refine LS.nilQ ?_;try with_reducible intro nq hnq;try refine zU ?_))
        refine LS.callQ (u8 ((-(R i c)) % p)) rfl (fun n' hn' => FnS.args (concs_cons (conc_arr hfld) rfl) (field_mod p 0 (-(R i c)) _ _ hb.1 hb.2 (by omega))) ?_
        (repeat first|refine zG ?_|(refine LS.nilO ?_;intro nq hnq hltq;try refine zU ?_)|(refine MS.new ?_;intro bq hbq hbqf;try refine zU ?_)|(refine MS.nil ?_;intro nq hnq hltq;have hlq:=hltq _ _ (Hp.get_eq _ _ _);clear hltq;try refine zU ?_)|(refine LS.nilQ ?_;try with_reducible intro nq hnq;try refine zU ?_))
        refine ⟨by omega, by (repeat first | exact trivial | refine And.intro rfl ?_), Drops.keepc rfl rfl (fun q hq => ?_) (Drops.refl _ _), trivial⟩
        (try dsimp only)
        (try rw [Nat.zero_add, Nat.mul_one])
        rw [kvs_succ]
        unfold put1
        show _ = SV.int IntKind.u8 (if q = P i then (-(R i c)) % p else kvs p R P c i q)
        by_cases e : q = P i
        · rw [if_pos e, if_pos e]
        · rw [if_neg e, if_neg e]; rfl
      · obtain rfl : d = i := by omega
        (refine zG ?_)
        refine RS.appV (w := kvs p R P c d) (by exact rfl) (by exact rfl) (hV8.keep (by simp (disch := omega) only [Hp.get_ne])) (Hp.get_eq _ _ _) rfl (fun q hq => by (try dsimp only); unfold splice; rw [if_pos (by omega), Nat.sub_zero]; rfl) (by omega) (by simp (disch := omega) only [Hp.get_ne]; exact hfr1 _ (by omega)) (by omega) ?_
        intro vB bB HB nB hVB hbB hltB hnB hnB' hgB
        (refine zG ?_)
        refine ⟨a - (c + 1), [(13, i64 ((c + 1 : Nat) : Int)), (12, i64 (a : Nat)), (0, ptr sb 0), (3, .s vB)], HB, by omega, by (repeat first | exact trivial | refine And.intro rfl ?_), Drops.refl _ _, c + 1, vB, bB, by omega, rfl, rfl, by rw [fre_succ, krn_succ, if_neg (by rw [tb_false h4]; simp), if_neg (by rw [tb_false h4]; simp)]; exact hVB, by omega, hltB, fun x hx => by rw [hgB x (by omega)]; simp (disch := omega) only [Hp.get_ne]; exact hlow1 x hx, fun x hx => by rw [hgB x (by omega)]; simp (disch := omega) only [Hp.get_ne]; exact hfr1 x (by omega)⟩
  · obtain rfl : a = c := by omega
    (refine zG ?_)
    refine RS.call rfl ((impl_reduced p (krn p R P d a) (fre P d a) b8 v8 _ _ hp (by omega) hV8 (fun i _ x _ => krn_res hb.1 R P d a i x)).mono ?_)
    rintro r H3 n6 hn6 ⟨v9, A', d', P', b9, rfl, hV9, hR9, hsm9, hb9, hb9n, hfr9, hlow9⟩
    (refine zG ?_)
    exact ⟨.s v9, H3, rfl, Drops.refl _ _, v9, A', d', P', b9, rfl, hV9, hR9, hsm9, by omega, by omega, fun x hx => hfr9 x (by omega), fun x hx => by rw [hlow9 x (by omega)]; exact hlow1 x hx⟩

end Go.Proofs.YtmkegkpabifpfaaGreat

/- Kernels, the program's. -/
namespace Go.V
set_option linter.unusedSimpArgs false
set_option linter.unusedVariables false
/-- The rows of a system of forms. -/
def krw (p : Int) (a : Nat) (W : Nat → Nat → Int) : Nat → Nat → Int := fun k x => if x < a then W k x % p else 0 % p
theorem krw_res {p : Int} (hp : 2 ≤ p) (a : Nat) (W : Nat → Nat → Int) (k x : Nat) : 0 ≤ krw p a W k x ∧ krw p a W k x < p := by
  unfold krw; split <;> exact modB _ hp
end Go.V
namespace Go.Proofs.YtmkegkpabifpfaaGreat
open Go.V
set_option linter.unusedSimpArgs false
set_option linter.unusedVariables false
set_option maxHeartbeats 4000000

/-- impl.kernel -/
def ir35 : Cd := (.seq (.reg [⟨some 3,none,.box 76 (.t 0)⟩,⟨some 6,none,.mov (.c .nils)⟩]) (.seq (.reg [⟨some 11,none,.fa 0 (.t 3)⟩,⟨some 12,none,.ld none (.t 11)⟩,⟨some 13,none,.fa 1 (.t 3)⟩,⟨some 14,none,.ld none (.t 13)⟩,⟨some 15,none,.call 56 [(.t 12),(.t 14)]⟩,⟨some 7,none,.mov (.t 15)⟩]) (.seq (.seq (.reg [⟨some 16,none,.mov (.t 1)⟩,⟨some 17,none,.mov (.c (.int .i64 0))⟩]) (.block 0 (.loop (.seq (.reg [⟨some 18,none,.bin .lss (.t 17) (.t 16)⟩]) (.seq (.cond (.t 18) .skip (.exit 0)) (.seq (.block 1 (.seq (.reg [⟨some 19,none,.mov (.t 17)⟩,⟨some 8,none,.mov (.t 19)⟩]) (.seq (.reg [⟨some 20,none,.fa 1 (.t 3)⟩,⟨some 21,none,.ld none (.t 20)⟩,⟨some 22,none,.mks 3 1 8 [(1,(.int .i64 0))] (.t 21) (.t 21)⟩,⟨some 9,none,.mov (.t 22)⟩]) (.seq (.seq (.reg [⟨some 23,none,.mov (.t 9)⟩,⟨some 24,none,.len (.t 23)⟩,⟨some 25,none,.mov (.c (.int .i64 0))⟩]) (.block 2 (.loop (.seq (.reg [⟨some 26,none,.bin .lss (.t 25) (.t 24)⟩]) (.seq (.cond (.t 26) .skip (.exit 2)) (.seq (.block 3 (.seq (.reg [⟨some 27,none,.mov (.t 25)⟩,⟨some 10,none,.mov (.t 27)⟩]) (.reg [⟨some 28,none,.mov (.t 9)⟩,⟨some 29,none,.mov (.t 10)⟩,⟨some 30,none,.mov (.t 2)⟩,⟨some 31,none,.mov (.t 8)⟩,⟨some 32,none,.mov (.t 10)⟩,⟨some 33,none,.callv (.t 30) [(.t 31),(.t 32)]⟩,⟨some 34,none,.isl 1 (.t 28) (.t 29)⟩,⟨none,none,.st 1 (.t 34) (.t 33)⟩]))) (.reg [⟨some 35,none,.bin .add (.t 25) (.c (.int .i64 1))⟩,⟨some 25,none,.mov (.t 35)⟩]))))))) (.reg [⟨some 36,none,.mov (.t 7)⟩,⟨some 37,none,.mov (.t 9)⟩,⟨some 38,none,.call 57 [(.t 36),(.t 37),(.c (.int .i64 0))]⟩]))))) (.reg [⟨some 39,none,.bin .add (.t 17) (.c (.int .i64 1))⟩,⟨some 17,none,.mov (.t 39)⟩]))))))) (.seq (.reg [⟨some 40,none,.mov (.t 7)⟩,⟨some 41,none,.call 58 [(.t 40)]⟩]) (.seq (.reg [⟨some 42,none,.mov (.t 7)⟩,⟨some 43,none,.call 59 [(.t 42)]⟩,⟨some 6,none,.mov (.t 43)⟩]) .ret)))))
set_option maxRecDepth 100000 in
theorem tr35 : trFn Tryz.prog Tryz.f35 = some (44, ir35, [.tmp 6]) := by kernel_rfl

theorem impl_kernel (p : Int) (a forms : Nat) (W : Nat → Nat → Int) (F : FuncId) (post : List SV) (C : Nat → SV) (H : Hp) (n : Nat) (hp : isP p = true) (ha : a ≤ 8) (hf1 : 1 ≤ forms) (hf2 : forms ≤ 100) (h0 : C 0 = .int .i64 p) (h1 : C 1 = .int .i64 a)
    (hW : ∀ k c, k < forms → c < a → -1000000 ≤ W k c ∧ W k c ≤ 1000000)
    (hF : ∀ (Hx : Hp) (k c n' : Nat), k < forms → c < a → n ≤ n' → (∀ x, x < n → Hx.get x = H.get x) → FnS Tryz.prog F ([i64 (k : Nat), i64 (c : Nat)] ++ post.map .s) Hx n' (fun r H' _ => r = i64 (W k c) ∧ H' = Hx)) :
    FnS Tryz.prog 35 [.arr 2 C, i64 (forms : Nat), .s (.fn F [] post)] H n (fun r H' n' => ∃ sv' A' d' P' b' R d P, r = .s sv' ∧ VL H' sv' d' A' b' ∧ RR p A' d' P' ∧ same p A' d' (krn p R P d a) (fre P d a) ∧ RR p (zc a R) d P ∧ same p (zc a R) d (zc a (krw p a W)) forms ∧ n ≤ b' ∧ b' < n' ∧ (∀ x, n' ≤ x → H'.get x = none) ∧ ∀ x, x < n → H'.get x = H.get x) := by
  have hb := isP_le hp
  have h0' : C (0 + 0) = .int .i64 p := h0
  have h1' : C (0 + 1) = .int .i64 a := h1
  refine FnS.of_body Tryz.func35 tr35 (by simp) (fun hf => ?_)
  dsimp only [argEnv]
  unfold ir35
  (refine zG ?_)
  refine RS.call rfl ((impl_newSystem p a _ _).mono ?_)
  rintro r H' n1 hn1 ⟨rfl, hn1', ks0, rfl, k5, k0, k1, k2, k3, k4⟩
  (refine zG ?_)
  refine CS.iterJ forms (fun i => [(17, i64 (i : Nat)), (16, i64 (forms : Nat)), (7, ptr (n + 1) 0), (3, ptr n 0), (2, .s (.fn F [] post))])
    (fun i H1 n2 => ∃ rb bk cp ks, SY H1 (n + 1) p a i (krw p a W) rb bk cp ks ∧ (i ≠ 0 → n + 1 < rb ∧ rb < n2) ∧ (i = 0 → ks.c 3 = .nils) ∧ (∀ j, j < i → n + 1 < bk j) ∧ H1.get n = some ⟨2, C, 76⟩ ∧ (∀ x, x < n → H1.get x = H.get x) ∧ ∀ x, n2 ≤ x → H1.get x = none) (by (repeat first | exact trivial | refine And.intro rfl ?_)) ?_ ?_
  · exact ⟨n + 2, fun _ => n + 2, fun _ => 0, ks0, { g := Hp.get_eq _ _ _, s := k5, c0 := k0, c1 := k1, c2 := k2, rows := .inl ⟨k3, rfl⟩, row := fun i hi => by omega, qc := fun i hi => by omega, d1 := by omega, d2 := fun i hi => by omega, d3 := fun i j hi => by omega }, fun q => absurd rfl q, fun _ => k3, fun j hj => by omega, by exact zH, fun x hx => by simp (disch := omega) only [Hp.get_ne], fun x hx => by simp (disch := omega) only [Hp.get_ne]; exact hf x (by omega)⟩
  rintro i n4 H1 hi hn4 ⟨rb0, bk, cp, ks, hS0, hrb0, hnil, hbk, gF, hlow, hfr⟩
  have gs0 := hS0.g
  have hsn4 := getlt hfr gs0
  (refine zG ?_)
  refine zI ?_ ?_<;>intro h4
  · have hi' : i < forms := by omega
    (refine zG ?_)
    refine RS.mks (len := a) (cap := a) (by exact rfl) (by exact rfl) rfl rfl (by omega) (by omega) (by omega) ?_
    (refine zG ?_)
    refine CS.iter a (fun j => [(25, i64 (j : Nat)), (24, i64 (a : Nat)), (9, .s (.slc n4 0 a a)), (8, i64 (i : Nat)), (17, i64 (i : Nat)), (16, i64 (forms : Nat)), (7, ptr (n + 1) 0), (3, ptr n 0), (2, .s (.fn F [] post))])
      (fun j => (n4, ⟨a, fun x => if x < j then .int .i64 (W i x) else .int .i64 0, 3⟩) :: H1) (fun _ => True) (by (repeat first | exact trivial | refine And.intro rfl ?_)) (Drops.keepc (by (try dsimp only); omega) rfl (fun q hq => by (try dsimp only); rw [if_neg (by omega), Nat.mod_one]; rfl) (Drops.refl _ _)) trivial ?_
    intro j n5 hj hn5 _
    (refine zG ?_)
    refine zI ?_ ?_<;>intro h5
    · (refine zG ?_)
      refine RS.callv (f := F) (pre := []) (post := post) (vs := [i64 (i : Nat), i64 (j : Nat)]) (by exact rfl) (by exact rfl) ?_
      refine FnS.mono (hF _ i j n5 hi' (by omega) (by omega) (fun x hx => by rw [Hp.get_ne _ _ (by omega)]; exact hlow x hx)) ?_
      rintro r H' n6 hn6 ⟨rfl, rfl⟩
      (refine zG ?_)
      refine ⟨by omega, by (repeat first | exact trivial | refine And.intro rfl ?_), Drops.keepc rfl rfl (fun q hq => ?_) (Drops.refl _ _), trivial⟩
      (try dsimp only)
      rw [Nat.zero_add, Nat.mul_one]
      unfold put1
      by_cases e : q = j
      · rw [if_pos e, if_pos (by omega), e]
      · rw [if_neg e]
        (try dsimp only)
        by_cases e2 : q < j
        · rw [if_pos e2, if_pos (by omega)]
        · rw [if_neg e2, if_neg (by omega)]
    · obtain rfl : a = j := by omega
      (refine zG ?_)
      obtain ⟨rb, hS, hrb1, hrb2⟩ : ∃ rb, SY H1 (n + 1) p a i (krw p a W) rb bk cp ks ∧ n + 1 < rb ∧ rb < n4 + 1 := by
        by_cases e : i = 0
        · subst e
          exact ⟨n4, { g := hS0.g, s := hS0.s, c0 := hS0.c0, c1 := hS0.c1, c2 := hS0.c2, rows := .inl ⟨hnil rfl, rfl⟩, row := fun i hi => by omega, qc := fun i hi => by omega, d1 := by omega, d2 := fun i hi => by omega, d3 := fun i j hi => by omega }, by omega, by omega⟩
        · exact ⟨rb0, hS0, (hrb0 e).1, by have := (hrb0 e).2; omega⟩
      refine RS.call rfl ((system_add p a i (krw p a W) (n + 1) rb n4 bk cp ks ⟨a, fun x => if x < a then .int .i64 (W i x) else .int .i64 0, 3⟩ (fun x => W i x) 0 _ _ hb ha (by omega) (hS.push (hfr n4 (Nat.le_refl _))) (by omega) (Hp.get_eq _ _ _) (Nat.le_refl _) (fun q hq => by (try dsimp only); rw [if_pos hq]) (fun q hq => hW i q hi' hq) (by omega)).mono ?_)
      rintro r H2 n6 hn6 ⟨rfl, rb', ks', hS', _, hrb', hrb'', hfr', hlow'⟩
      (refine zG ?_)
      refine ⟨by omega, by (repeat first | exact trivial | refine And.intro rfl ?_), H2, Drops.refl _ _, rb', _, _, ks', hS'.same (fun k x hk hx => ?_), fun _ => ⟨by omega, hrb'⟩, fun q => by omega, fun j hj => ?_, by rw [hlow' n (by omega) (by omega) (by omega), Hp.get_ne _ _ (by omega)]; exact gF, fun x hx => by rw [hlow' x (by omega) (by omega) (by omega), Hp.get_ne _ _ (by omega)]; exact hlow x hx, hfr'⟩
      · unfold snc krw
        by_cases e : k = i
        · rw [if_pos e, e]
        · rw [if_neg e]
      · (try dsimp only)
        by_cases e : j = i
        · rw [if_pos e]; omega
        · rw [if_neg e]; exact hbk j (by omega)
  · obtain rfl : forms = i := by omega
    (refine zG ?_)
    have hrb := hrb0 (by omega)
    have hbkn : ∀ j, j < forms → bk j < n4 := fun j hj => by
      obtain ⟨kj, gj, _⟩ := hS0.row j hj
      exact getlt hfr gj
    refine RS.call rfl ((system_solve p a forms (krw p a W) (n + 1) rb0 bk cp ks _ _ hp ha (by omega) hf1 (fun R => same p (zc a R) forms (zc a (krw p a W)) forms) (same_refl _ _ _) (fun R x y hx hy q => zc_same_swp hx hy q) (fun R d c hd hc h0 q => zc_same_clr hp hd hc h0 q) hS0 (fun k x _ _ => krw_res hb.1 a W k x)).mono ?_)
    rintro r H3 n6 hn6 ⟨R, P, d, bk', ks', pb, rfl, hdm, hrf, hJ, hS3, hSL3, hpb, hfr3, hlow3⟩
    have hRR := hrf.rrz hb.1 ha
    (refine zG ?_)
    refine RS.call rfl ((system_spaces p a d R P (n + 1) rb0 pb bk' cp ks' _ _ hp ha hRR.d8 hS3 hSL3 (fun k hk => hrf.pc k hk) (fun k x hk hx => hrf.res k x (by omega) hx)).mono ?_)
    rintro r H4 n7 hn7 ⟨sv', A', d', P', b', rfl, hV', hR', hsm', hb', hb'n, hfr', hlow4⟩
    (refine zG ?_)
    exact ⟨.s sv', H4, rfl, Drops.refl _ _, sv', A', d', P', b', R, d, P, rfl, hV', hR', hsm', hRR, same_trans hrf.samez hJ, by omega, by omega, fun x hx => hfr' x (by omega), fun x hx => by rw [hlow4 x (by omega), hlow3 x (by omega) (by omega) (by omega) (fun k hk => by have := hbk k hk; omega)]; exact hlow x hx⟩

end Go.Proofs.YtmkegkpabifpfaaGreat

/- The invariants of a module. -/
namespace Go.V
set_option linter.unusedSimpArgs false
set_option linter.unusedVariables false
/-- The numbers of the forms whose kernel are the invariants: form i a + k takes e(c) to the entry k of e(i) e(c), less the counit of e(i) if k is c. -/
def ivf (a : Nat) (t e : Nat → Int) : Nat → Nat → Int := fun f c => t (64 * (f / a) + 8 * c + f % a) - (if f % a = c then e (f / a) else 0)
theorem ivf_b {a f c : Nat} {t e : Nat → Int} (ha1 : 1 ≤ a) (ha : a ≤ 8) (hf : f < 8 * a) (hc : c < a) (ht : isBy 512 t) (he : isBy 8 e) : -1000000 ≤ ivf a t e f c ∧ ivf a t e f c ≤ 1000000 := by
  have hi8 : f / a < 8 := Nat.div_lt_of_lt_mul (by rw [Nat.mul_comm]; exact hf)
  have hka : f % a < a := Nat.mod_lt _ (by omega)
  unfold ivf
  generalize f / a = i at *
  generalize f % a = k at *
  have h1 := ht (64 * i + 8 * c + k) (by omega)
  have h2 := he i hi8
  split <;> omega
end Go.V
namespace Go.Proofs.YtmkegkpabifpfaaGreat
open Go.V
set_option linter.unusedSimpArgs false
set_option linter.unusedVariables false
set_option maxHeartbeats 4000000

/-- (*impl.Module).field -/
def ir34 : Cd := (.seq (.reg [⟨some 4,none,.new 76 [(2,(.int .i64 0))]⟩]) (.seq (.drw true [9] [⟨some 5,none,.mov (.t 1)⟩,⟨some 6,none,.ck (.t 5)⟩,⟨some 7,none,.fa 0 (.t 6)⟩,⟨some 8,none,.ld none (.t 7)⟩,⟨some 9,none,.mov (.t 0)⟩,⟨some 10,none,.ck (.t 9)⟩,⟨some 11,none,.fa 0 (.t 10)⟩,⟨some 12,none,.ld none (.t 11)⟩,⟨some 13,none,.build 2 [(2,(.int .i64 0))] [(0,1,(.t 8)),(1,1,(.t 12))]⟩,⟨none,none,.st 2 (.t 4) (.t 13)⟩]) .ret))
set_option maxRecDepth 100000 in
theorem tr34 : trFn Tryz.prog Tryz.f34 = some (14, ir34, [.cell (some 2) 4]) := by kernel_rfl

theorem Module_field (p n' : Int) (bm bh : Nat) (Km Kh : Blk) (H : Hp) (n : Nat) (gm : H.get bm = some Km) (gh : H.get bh = some Kh) (sm : 1 ≤ Km.size) (sh : 1 ≤ Kh.size) (hm : Km.c 0 = .int .i64 n') (hh : Kh.c 0 = .int .i64 p) :
    FnS Tryz.prog 34 [ptr bm 0, ptr bh 0] H n (fun r H' _ => r = .arr 2 (fldC p n') ∧ H' = H) := by
  refine FnS.of_body Tryz.func34 tr34 (by simp) (fun hf => ?_)
  dsimp only [argEnv]
  unfold ir34
  have h1 := getlt hf gm
  have h2 := getlt hf gh
  (repeat first|refine zG ?_|(refine LS.nilO ?_;intro nq hnq hltq;try refine zU ?_)|(refine MS.new ?_;intro bq hbq hbqf;try refine zU ?_)|(refine MS.nil ?_;intro nq hnq hltq;have hlq:=hltq _ _ (Hp.get_eq _ _ _);clear hltq;try refine zU ?_)|(refine LS.nilQ ?_;try with_reducible intro nq hnq;try refine zU ?_))
  exact ⟨.arr 2 (fldC p n'), H, conc_arr (fun q hq => by rcases (show q = 0 ∨ q = 1 by omega) with rfl | rfl <;> rfl), by exact zD, rfl, rfl⟩

/-- (*impl.Module).invariants$1 -/
def ir36 : Cd := (.seq (.reg [⟨some 7,none,.mov (.c (.int .i64 0))⟩]) (.seq (.drw true [] [⟨some 11,none,.mov (.t 0)⟩,⟨some 12,none,.fa 1 (.t 2)⟩,⟨some 13,none,.ld none (.t 12)⟩,⟨some 14,none,.bin .quo (.t 11) (.t 13)⟩,⟨some 15,none,.mov (.t 0)⟩,⟨some 16,none,.fa 1 (.t 2)⟩,⟨some 17,none,.ld none (.t 16)⟩,⟨some 18,none,.bin .rem (.t 15) (.t 17)⟩,⟨some 8,none,.mov (.t 14)⟩,⟨some 9,none,.mov (.t 18)⟩]) (.seq (.reg [⟨some 19,none,.ld none (.t 3)⟩,⟨some 20,none,.mov (.t 8)⟩,⟨some 21,none,.mov (.t 1)⟩,⟨some 22,none,.mov (.t 9)⟩,⟨some 23,none,.ck (.t 19)⟩,⟨some 24,none,.fa 1 (.t 23)⟩,⟨some 25,none,.ia 8 64 (.t 24) (.t 20)⟩,⟨some 26,none,.ia 8 8 (.t 25) (.t 21)⟩,⟨some 27,none,.ia 8 1 (.t 26) (.t 22)⟩,⟨some 28,none,.ld none (.t 27)⟩,⟨some 29,none,.cv .i64 (.t 28)⟩,⟨some 10,none,.mov (.t 29)⟩]) (.seq (.seq (.reg [⟨some 30,none,.mov (.t 9)⟩,⟨some 31,none,.mov (.t 1)⟩,⟨some 32,none,.bin .eql (.t 30) (.t 31)⟩]) (.cond (.t 32) (.reg [⟨some 33,none,.mov (.t 10)⟩,⟨some 34,none,.ld none (.t 4)⟩,⟨some 35,none,.mov (.t 8)⟩,⟨some 36,none,.ck (.t 34)⟩,⟨some 37,none,.fa 522 (.t 36)⟩,⟨some 38,none,.ia 8 1 (.t 37) (.t 35)⟩,⟨some 39,none,.ld none (.t 38)⟩,⟨some 40,none,.cv .i64 (.t 39)⟩,⟨some 41,none,.bin .sub (.t 33) (.t 40)⟩,⟨some 10,none,.mov (.t 41)⟩]) .skip)) (.seq (.reg [⟨some 42,none,.mov (.t 10)⟩,⟨some 7,none,.mov (.t 42)⟩]) .ret)))))
set_option maxRecDepth 100000 in
theorem tr36 : trFn Tryz.prog Tryz.f36 = some (43, ir36, [.tmp 7]) := by kernel_rfl

theorem Module_invariants_1 (a f c : Nat) (t e : Nat → Int) (fb mb hb bm bh : Nat) (Kf Kmb Khb Km Kh : Blk) (H : Hp) (n : Nat) (ha1 : 1 ≤ a) (ha : a ≤ 8) (hf8 : f < 8 * a) (hc : c < a)
    (gf : H.get fb = some Kf) (sf : Kf.size = 2) (cf : Kf.c 1 = .int .i64 (a : Nat)) (gmb : H.get mb = some Kmb) (smb : Kmb.size = 1) (cmb : Kmb.c 0 = .ptr bm 0) (ghb : H.get hb = some Khb) (shb : Khb.size = 1) (chb : Khb.c 0 = .ptr bh 0)
    (gm : H.get bm = some Km) (sm : Km.size = 513) (cm : ∀ q, q < 512 → Km.c (1 + q) = .int .u8 (t q)) (gh : H.get bh = some Kh) (sh : Kh.size = 1106) (ch : ∀ q, q < 8 → Kh.c (522 + q) = .int .u8 (e q)) (ht : isBy 512 t) (he : isBy 8 e) :
    FnS Tryz.prog 36 [i64 (f : Nat), i64 (c : Nat), ptr fb 0, ptr mb 0, ptr hb 0] H n (fun r H' _ => r = i64 (ivf a t e f c) ∧ H' = H) := by
  have cf' : Kf.c (0 + 1) = .int .i64 (a : Nat) := cf
  have e1 : (f : Int) / (a : Int) = ((f / a : Nat) : Int) := (Int.natCast_ediv f a).symm
  have e2 : (f : Int) % (a : Int) = ((f % a : Nat) : Int) := (Int.natCast_emod f a).symm
  have hi8 : f / a < 8 := Nat.div_lt_of_lt_mul (by rw [Nat.mul_comm]; exact hf8)
  have hka : f % a < a := Nat.mod_lt _ (by omega)
  refine FnS.of_body Tryz.func36 tr36 (by simp) (fun hf => ?_)
  dsimp only [argEnv]
  unfold ir36
  (repeat first|refine zG ?_|(refine LS.nilO ?_;intro nq hnq hltq;try refine zU ?_)|(refine MS.new ?_;intro bq hbq hbqf;try refine zU ?_)|(refine MS.nil ?_;intro nq hnq hltq;have hlq:=hltq _ _ (Hp.get_eq _ _ _);clear hltq;try refine zU ?_)|(refine LS.nilQ ?_;try with_reducible intro nq hnq;try refine zU ?_))
  rw [e1, e2]
  unfold ivf
  generalize f / a = i at *
  generalize f % a = k at *
  have hti := ht (64 * i + 8 * c + k) (by omega)
  have hei := he i hi8
  (refine zG ?_)
  refine zI ?_ ?_<;>intro h5
  · (refine zG ?_)
    exact ⟨_, H, rfl, by exact zD, by rw [if_pos (by omega)], rfl⟩
  · (refine zG ?_)
    exact ⟨_, H, rfl, by exact zD, by rw [if_neg (by omega), Int.sub_zero], rfl⟩

/-- (*impl.Module).invariants -/
def ir20 : Cd := (.seq (.reg [⟨some 2,none,.box 61 (.t 0)⟩,⟨some 3,none,.box 59 (.t 1)⟩,⟨some 4,none,.mov (.c .nils)⟩]) (.seq (.reg [⟨some 6,none,.ld none (.t 2)⟩,⟨some 7,none,.ld none (.t 3)⟩,⟨some 8,none,.call 34 [(.t 6),(.t 7)]⟩,⟨some 5,none,.new 76 [(2,(.int .i64 0))]⟩,⟨none,none,.st 2 (.t 5) (.t 8)⟩]) (.seq (.drw true [9] [⟨some 9,none,.ld (some 2) (.t 5)⟩,⟨some 10,none,.ld none (.t 3)⟩,⟨some 11,none,.ck (.t 10)⟩,⟨some 12,none,.fa 1 (.t 11)⟩,⟨some 13,none,.ld none (.t 12)⟩,⟨some 14,none,.fa 1 (.t 5)⟩,⟨some 15,none,.ld none (.t 14)⟩,⟨some 16,none,.bin .mul (.t 13) (.t 15)⟩,⟨some 17,none,.mkf 36 [] [(.t 5),(.t 2),(.t 3)]⟩,⟨some 18,none,.call 35 [(.t 9),(.t 16),(.t 17)]⟩,⟨some 4,none,.mov (.t 18)⟩]) .ret)))
set_option maxRecDepth 100000 in
theorem tr20 : trFn Tryz.prog Tryz.f20 = some (19, ir20, [.tmp 4]) := by kernel_rfl

theorem Module_invariants (p : Int) (a N : Nat) (t e : Nat → Int) (bm bh : Nat) (Km Kh : Blk) (H : Hp) (n : Nat) (hp : isP p = true) (ha1 : 1 ≤ a) (ha : a ≤ 8) (hN1 : 1 ≤ N) (hN : N ≤ 8)
    (gm : H.get bm = some Km) (sm : Km.size = 513) (km : Km.c 0 = .int .i64 (a : Nat)) (cm : ∀ q, q < 512 → Km.c (1 + q) = .int .u8 (t q)) (gh : H.get bh = some Kh) (sh : Kh.size = 1106) (kp : Kh.c 0 = .int .i64 p) (kn : Kh.c 1 = .int .i64 (N : Nat)) (ch : ∀ q, q < 8 → Kh.c (522 + q) = .int .u8 (e q)) (ht : isBy 512 t) (he : isBy 8 e) :
    FnS Tryz.prog 20 [ptr bm 0, ptr bh 0] H n (fun r H' n' => ∃ sv' A' d' P' b' R d P, r = .s sv' ∧ VL H' sv' d' A' b' ∧ RR p A' d' P' ∧ same p A' d' (krn p R P d a) (fre P d a) ∧ RR p (zc a R) d P ∧ same p (zc a R) d (zc a (krw p a (ivf a t e))) (N * a) ∧ n ≤ b' ∧ b' < n' ∧ (∀ x, n' ≤ x → H'.get x = none) ∧ ∀ x, x < n → H'.get x = H.get x) := by
  have hb := isP_le hp
  have kn' : Kh.c (0 + 1) = .int .i64 (N : Nat) := kn
  have hNa : N * a ≤ 64 := Nat.le_trans (Nat.mul_le_mul hN ha) (by decide)
  have hNa1 : 1 ≤ N * a := Nat.mul_le_mul hN1 ha1
  refine FnS.of_body Tryz.func20 tr20 (by simp) (fun hf => ?_)
  dsimp only [argEnv]
  unfold ir20
  have hbm := getlt hf gm
  have hbh := getlt hf gh
  (refine zG ?_)
  refine RS.call rfl ((Module_field p (a : Nat) bm bh Km Kh _ _ (by exact zH) (by exact zH) (by omega) (by omega) km kp).mono ?_)
  rintro r H' n1 hn1 ⟨rfl, rfl⟩
  (repeat first|refine zG ?_|(refine LS.nilO ?_;intro nq hnq hltq;try refine zU ?_)|(refine MS.new ?_;intro bq hbq hbqf;try refine zU ?_)|(refine MS.nil ?_;intro nq hnq hltq;have hlq:=hltq _ _ (Hp.get_eq _ _ _);clear hltq;try refine zU ?_)|(refine LS.nilQ ?_;try with_reducible intro nq hnq;try refine zU ?_))
  rw [show (N : Int) * (a : Int) = ((N * a : Nat) : Int) from (Int.natCast_mul N a).symm]
  refine RS.call rfl ((impl_kernel p a (N * a) (ivf a t e) 36 [.ptr n1 0, .ptr n 0, .ptr (n + 1) 0] (fldC p a) _ _ hp ha hNa1 (by omega) rfl rfl (fun k c hk hc => ivf_b ha1 ha (Nat.lt_of_lt_of_le hk (Nat.mul_le_mul_right a hN)) hc ht he) (fun Hx k c n' hk hc hn' hx => ?_)).mono ?_)
  · exact Module_invariants_1 a k c t e n1 n (n + 1) bm bh _ _ _ Km Kh Hx n' ha1 ha (Nat.lt_of_lt_of_le hk (Nat.mul_le_mul_right a hN)) hc
      (by rw [hx n1 (by omega)]; exact Hp.get_eq _ _ _) rfl rfl (by rw [hx n (by omega), Hp.get_ne _ _ (by omega), Hp.get_ne _ _ (by omega)]; exact Hp.get_eq _ _ _) rfl rfl (by rw [hx (n + 1) (by omega), Hp.get_ne _ _ (by omega)]; exact Hp.get_eq _ _ _) rfl rfl
      (by rw [hx bm (by omega), Hp.get_ne _ _ (by omega), Hp.get_ne _ _ (by omega), Hp.get_ne _ _ (by omega)]; exact gm) sm cm (by rw [hx bh (by omega), Hp.get_ne _ _ (by omega), Hp.get_ne _ _ (by omega), Hp.get_ne _ _ (by omega)]; exact gh) sh ch ht he
  rintro r H3 n3 hn3 ⟨sv', A', d', P', b', R, d, P, rfl, hV', hR', hsm', hRR, hsm, hb', hb'n, hfr', hlow'⟩
  (refine zG ?_)
  exact ⟨.s sv', H3, rfl, Drops.refl _ _, sv', A', d', P', b', R, d, P, rfl, hV', hR', hsm', hRR, hsm, by omega, by omega, fun x hx => hfr' x (by omega), fun x hx => by rw [hlow' x (by omega), Hp.get_ne _ _ (by omega), Hp.get_ne _ _ (by omega), Hp.get_ne _ _ (by omega)]⟩

end Go.Proofs.YtmkegkpabifpfaaGreat

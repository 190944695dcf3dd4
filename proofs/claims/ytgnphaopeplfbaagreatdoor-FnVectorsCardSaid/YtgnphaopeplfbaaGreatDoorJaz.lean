/- Inverses of vectors: the program's function. -/
import Derived.Test.YtgnphaopeplfbaaGreatDoorJay
set_option linter.unusedSectionVars false
set_option linter.unusedVariables false
set_option linter.unusedSimpArgs false

namespace Go.V

variable [BW]

set_option linter.unusedSimpArgs false

set_option linter.unusedVariables false

section

variable {P : Program} {N m : Nat} {e : Env} {H : Hp} {n : Nat} {l : List Ins} {d : Option Nat}

theorem OE.mov {K : Env → Hp → Prop} {x : X} {v : AV} (hx : x.ev e = some v) (h : OE P N m l (putD d v e) H n K) : OE P N m (⟨d, none, .mov x⟩ :: l) e H n K :=
  OE.pure (by simp only [PV, hx]; exact h)

theorem OE.slaAll {K : Env → Hp → Prop} {x : X} {len sz b o : Nat} (hx : x.ev e = some (.s (.ptr b o))) (hl : 0 < len) (h : OE P N m l (putD d (.s (.slc b o len len)) e) H n K) : OE P N m (⟨d, none, .sla len sz x none none none⟩ :: l) e H n K :=
  OE.pure (by simp only [PV, hx, bndV]; exact ⟨by simp, by rw [if_neg (by omega)]; simpa using h⟩)

end

theorem spl8 {c d : Nat → SV} {q : Nat} (hq : q < 8) : splice c 0 8 d q = d q := by unfold splice; rw [if_pos (by omega), Nat.sub_zero]

theorem zc8 {q : Nat} (hq : q < 8) : Zs.c [(8, SV.int .u8 0)] q = .int .u8 0 := by
  rcases (show q = 0 ∨ q = 1 ∨ q = 2 ∨ q = 3 ∨ q = 4 ∨ q = 5 ∨ q = 6 ∨ q = 7 by omega) with rfl | rfl | rfl | rfl | rfl | rfl | rfl | rfl <;> rfl

end Go.V

namespace Go.Proofs.YtgnphaopeplfbaaGreatDoor

open Go.V

variable [BW]

set_option linter.unusedSimpArgs false

set_option linter.unusedVariables false

set_option maxHeartbeats 4000000

/-- impl.InverseOf -/
def ir16 : Cd := (.seq (.reg [⟨some 2,none,.box 31 (.t 0)⟩,⟨some 3,none,.box 25 (.t 1)⟩,⟨some 4,none,.new 25 [(8,(.int .u8 0))]⟩,⟨some 5,none,.mov (.c (.int .i64 0))⟩]) (.seq (.seq (.reg [⟨some 13,none,.ld (some 8) (.t 3)⟩,⟨some 14,none,.bsl 25 1 8 [(8,(.int .u8 0))] [(0,8,(.t 13))]⟩,⟨some 15,none,.call 29 [(.t 2),(.t 14)]⟩,⟨some 6,none,.mov (.t 15)⟩]) (.seq (.reg [⟨some 16,none,.mov (.t 6)⟩,⟨some 17,none,.bin .neq (.t 16) (.c (.int .i64 0))⟩]) (.cond (.t 17) (.seq (.reg [⟨some 18,none,.build 8 [(8,(.int .u8 0))] []⟩,⟨some 19,none,.mov (.t 6)⟩,⟨none,none,.st 8 (.t 4) (.t 18)⟩,⟨some 5,none,.mov (.t 19)⟩]) .ret) .skip))) (.seq (.reg [⟨some 20,none,.fa 1 (.t 2)⟩,⟨some 21,none,.ld none (.t 20)⟩,⟨some 7,none,.mov (.t 21)⟩]) (.seq (.reg [⟨some 22,none,.fa 0 (.t 2)⟩,⟨some 23,none,.ld none (.t 22)⟩,⟨some 24,none,.mov (.t 7)⟩,⟨some 25,none,.call 39 [(.t 23),(.t 24)]⟩,⟨some 8,none,.mov (.t 25)⟩]) (.seq (.seq (.reg [⟨some 26,none,.mov (.t 7)⟩,⟨some 27,none,.mov (.c (.int .i64 0))⟩]) (.block 0 (.loop (.seq (.reg [⟨some 28,none,.bin .lss (.t 27) (.t 26)⟩]) (.seq (.cond (.t 28) .skip (.exit 0)) (.seq (.block 1 (.seq (.reg [⟨some 29,none,.mov (.t 27)⟩,⟨some 9,none,.mov (.t 29)⟩]) (.seq (.reg [⟨some 30,none,.mov (.t 7)⟩,⟨some 31,none,.mks 3 1 8 [(1,(.int .i64 0))] (.t 30) (.t 30)⟩,⟨some 10,none,.mov (.t 31)⟩]) (.seq (.seq (.reg [⟨some 32,none,.mov (.t 7)⟩,⟨some 33,none,.mov (.c (.int .i64 0))⟩]) (.block 2 (.loop (.seq (.reg [⟨some 34,none,.bin .lss (.t 33) (.t 32)⟩]) (.seq (.cond (.t 34) .skip (.exit 2)) (.seq (.block 3 (.seq (.reg [⟨some 35,none,.mov (.t 33)⟩,⟨some 11,none,.mov (.t 35)⟩]) (.drwo true [10] [0,1,2,3,6,4,5,7,8,9,10] [⟨some 36,none,.mov (.t 10)⟩,⟨some 37,none,.mov (.t 11)⟩,⟨some 38,none,.ld (some 8) (.t 3)⟩,⟨some 39,none,.mov (.t 11)⟩,⟨some 40,none,.call 40 [(.t 39)]⟩,⟨some 41,none,.call 30 [(.t 2),(.t 38),(.t 40)]⟩,⟨some 42,none,.mov (.t 9)⟩,⟨some 43,none,.ix 8 1 none (.t 41) (.t 42)⟩,⟨some 44,none,.cv .i64 (.t 43)⟩,⟨some 45,none,.isl 1 (.t 36) (.t 37)⟩,⟨none,none,.st 1 (.t 45) (.t 44)⟩]))) (.reg [⟨some 46,none,.bin .add (.t 33) (.c (.int .i64 1))⟩,⟨some 33,none,.mov (.t 46)⟩]))))))) (.reg [⟨some 47,none,.mov (.t 8)⟩,⟨some 48,none,.mov (.t 10)⟩,⟨some 49,none,.mov (.t 9)⟩,⟨some 50,none,.fa 2 (.t 2)⟩,⟨some 51,none,.ia 8 1 (.t 50) (.t 49)⟩,⟨some 52,none,.ld none (.t 51)⟩,⟨some 53,none,.cv .i64 (.t 52)⟩,⟨some 54,none,.call 41 [(.t 47),(.t 48),(.t 53)]⟩]))))) (.reg [⟨some 55,none,.bin .add (.t 27) (.c (.int .i64 1))⟩,⟨some 27,none,.mov (.t 55)⟩]))))))) (.seq (.reg [⟨some 56,none,.build 8 [(8,(.int .u8 0))] []⟩,⟨some 12,none,.new 25 [(8,(.int .u8 0))]⟩,⟨none,none,.st 8 (.t 12) (.t 56)⟩]) (.seq (.seq (.reg [⟨some 57,none,.mov (.t 8)⟩,⟨some 58,none,.call 42 [(.t 57)]⟩]) (.cond (.t 58) (.drwo true [3] [0,1,2,3] [⟨some 59,none,.sla 8 1 (.t 12) none none none⟩,⟨some 60,none,.mov (.t 8)⟩,⟨some 61,none,.call 43 [(.t 60)]⟩,⟨some 62,none,.cpy 1 (.t 59) (.t 61)⟩]) .skip)) (.seq (.seq (.drw true [] [⟨some 63,none,.ld (some 8) (.t 3)⟩,⟨some 64,none,.ld (some 8) (.t 12)⟩,⟨some 65,none,.call 30 [(.t 2),(.t 63),(.t 64)]⟩,⟨some 66,none,.fa 2 (.t 2)⟩,⟨some 67,none,.ld (some 8) (.t 66)⟩,⟨some 68,none,.eqa true 8 (.t 65) (.t 67)⟩,⟨some 69,none,.mov (.t 68)⟩,⟨some 70,(some (69,false)),.ld (some 8) (.t 12)⟩,⟨some 71,(some (69,false)),.ld (some 8) (.t 3)⟩,⟨some 72,(some (69,false)),.call 30 [(.t 2),(.t 70),(.t 71)]⟩,⟨some 73,(some (69,false)),.fa 2 (.t 2)⟩,⟨some 74,(some (69,false)),.ld (some 8) (.t 73)⟩,⟨some 75,(some (69,false)),.eqa true 8 (.t 72) (.t 74)⟩,⟨some 76,none,.pick (.t 69) (.c (.bool true)) (.t 75)⟩]) (.cond (.t 76) (.seq (.reg [⟨some 77,none,.build 8 [(8,(.int .u8 0))] []⟩,⟨none,none,.st 8 (.t 4) (.t 77)⟩,⟨some 5,none,.mov (.c (.int .i64 4))⟩]) .ret) .skip)) (.seq (.reg [⟨some 78,none,.ld (some 8) (.t 12)⟩,⟨none,none,.st 8 (.t 4) (.t 78)⟩,⟨some 5,none,.mov (.c (.int .i64 0))⟩]) .ret)))))))))

set_option maxRecDepth 100000 in
theorem tr16 : trFn Tryz.prog Tryz.f16 = some (79, ir16, [.cell (some 8) 4, .tmp 5]) := by kernel_rfl

theorem impl_InverseOf (p n' : Int) (u m v : Nat → Int) (K : Nat → SV) (H : Hp) (n : Nat) (h0 : K 0 = .int .i64 p) (h1 : K 1 = .int .i64 n')
    (hU : ∀ q, q < 8 → K (2 + q) = .int .u8 (u q)) (hK : ∀ q, q < 512 → K (10 + q) = .int .u8 (m q)) (hu : isBy 8 u) (hm : isBy 512 m) (hv : isBy 8 v) :
    FnS Tryz.prog 16 [.arr 522 K, .arr 8 (bys v)] H n (fun r H' _ => r = .tup [.arr 8 (bys (ivX (isAlg p n' u m ∧ isVec p n' v) (ivW p u m v n'.toNat))), i64 (ivC (isAlg p n' u m ∧ isVec p n' v) (∃ w, isIv p u m v n'.toNat w))] ∧ H' = H) := by
  refine FnS.of_body Tryz.func16 tr16 (by simp) (fun hf => ?_)
  dsimp only [argEnv]
  unfold ir16
  (repeat first|refine zG ?_|(refine LS.nilO ?_;intro nq hnq hltq;try refine zU ?_)|(refine MS.new ?_;intro bq hbq hbqf;try refine zU ?_)|(refine MS.nil ?_;intro nq hnq hltq;have hlq:=hltq _ _ (Hp.get_eq _ _ _);clear hltq;try refine zU ?_)|(refine LS.nilQ ?_;try with_reducible intro nq hnq;try refine zU ?_))
  have hA : (isAlg p n' u m ∧ ∀ i, i < 1 → isVec p n' (fun x => v (i * 8 + x))) ↔ isAlg p n' u m ∧ isVec p n' v := by
    refine ⟨fun q => ⟨q.1, ?_⟩, fun q => ⟨q.1, fun i hi => ?_⟩⟩
    · have := q.2 0 (by omega)
      simpa only [Nat.zero_mul, Nat.zero_add] using this
    · obtain rfl : i = 0 := by omega
      simpa only [Nat.zero_mul, Nat.zero_add] using q.2
  refine RS.call rfl ((Algebra_code p n' u m n (.slc (n + 3) 0 1 1) 1 (by omega) v _ _ _ (by exact zH) rfl h0 h1 hU hK hu hm (.inr ⟨n + 3, 0, 1, _, rfl, by exact zH, by simp, fun q hq => by (try dsimp only); unfold splice; rw [if_pos (by omega)]; simp only [Nat.sub_zero, Nat.zero_add]; rfl⟩) hv).mono ?_)
  rintro r H' n2 hn2 ⟨rfl, rfl⟩
  rw [cdI hA]
  (repeat first|refine zG ?_|(refine LS.nilO ?_;intro nq hnq hltq;try refine zU ?_)|(refine MS.new ?_;intro bq hbq hbqf;try refine zU ?_)|(refine MS.nil ?_;intro nq hnq hltq;have hlq:=hltq _ _ (Hp.get_eq _ _ _);clear hltq;try refine zU ?_)|(refine LS.nilQ ?_;try with_reducible intro nq hnq;try refine zU ?_))
  refine zI ?_ ?_<;>intro h2
  · have h3 : ¬(isAlg p n' u m ∧ isVec p n' v) := fun q => h2 (cdz.2 q)
    (repeat first|refine zG ?_|(refine LS.nilO ?_;intro nq hnq hltq;try refine zU ?_)|(refine MS.new ?_;intro bq hbq hbqf;try refine zU ?_)|(refine MS.nil ?_;intro nq hnq hltq;have hlq:=hltq _ _ (Hp.get_eq _ _ _);clear hltq;try refine zU ?_)|(refine LS.nilQ ?_;try with_reducible intro nq hnq;try refine zU ?_))
    exact ⟨.tup [.arr 8 (bys (ivX (isAlg p n' u m ∧ isVec p n' v) (ivW p u m v n'.toNat))), i64 (ivC (isAlg p n' u m ∧ isVec p n' v) (∃ w, isIv p u m v n'.toNat w))], H, conc_tup2 (conc_arr (fun q hq => by rw [ivX_f h3]; first | rfl | (simp only [Nat.zero_add]; rfl))) (by rw [ivC_1 h3, cd_false h3]), by exact zD, rfl, rfl⟩
  · have h3 : isAlg p n' u m ∧ isVec p n' v := cdz.1 h2
    obtain ⟨a, rfl, hW⟩ := algW_of h3 hu hv
    rw [Int.toNat_natCast]
    have hb := isP_le hW.hp
    have ha := hW.ha
    have ha1 := hW.ha1
    (repeat first|refine zG ?_|(refine LS.nilO ?_;intro nq hnq hltq;try refine zU ?_)|(refine MS.new ?_;intro bq hbq hbqf;try refine zU ?_)|(refine MS.nil ?_;intro nq hnq hltq;have hlq:=hltq _ _ (Hp.get_eq _ _ _);clear hltq;try refine zU ?_)|(refine LS.nilQ ?_;try with_reducible intro nq hnq;try refine zU ?_))
    refine RS.call rfl ((impl_newSystem p a _ _).mono ?_)
    rintro r H' n3 hn3 ⟨rfl, hn3', ks0, rfl, k5, k0, k1, k2, k3, k4⟩
    (repeat first|refine zG ?_|(refine LS.nilO ?_;intro nq hnq hltq;try refine zU ?_)|(refine MS.new ?_;intro bq hbq hbqf;try refine zU ?_)|(refine MS.nil ?_;intro nq hnq hltq;have hlq:=hltq _ _ (Hp.get_eq _ _ _);clear hltq;try refine zU ?_)|(refine LS.nilQ ?_;try with_reducible intro nq hnq;try refine zU ?_))
    refine CS.iterJ a (fun i => [(27, i64 (i : Nat)), (26, i64 (a : Nat)), (2, ptr n 0), (3, ptr (n + 1) 0), (4, ptr (n + 2) 0), (7, i64 (a : Nat)), (8, ptr n2 0)])
      (fun i H1 n1 => ∃ rb bk cp ks, SY H1 n2 p a i (irow p u m v a) rb bk cp ks ∧ n + 3 ≤ rb ∧ rb < n1 ∧ (∀ j, j < i → n + 3 ≤ bk j) ∧ H1.get n = some ⟨522, K, 31⟩ ∧ H1.get (n + 1) = some ⟨8, bys v, 25⟩ ∧ (∃ kr, H1.get (n + 2) = some kr ∧ kr.size = 8) ∧ (∀ x, x < n → H1.get x = H.get x) ∧ ∀ x, n1 ≤ x → H1.get x = none) (by (repeat first | exact trivial | refine And.intro rfl ?_)) ?_ ?_
    · have ge3 : ∀ x, x ≠ n → x ≠ n + 1 → x ≠ n + 2 → x ≠ n + 3 → x ≠ n2 → Hp.get ((n2, ks0) :: (n + 1 + 1 + 1, ⟨1 * 8, splice (fun i => Zs.c [(8, SV.int IntKind.u8 0)] (i % 8)) 0 8 (bys v), 25⟩) :: (n + 1 + 1, ⟨Zs.size [(8, SV.int IntKind.u8 0)], Zs.c [(8, SV.int IntKind.u8 0)], 25⟩) :: (n + 1, ⟨8, bys v, 25⟩) :: (n, ⟨522, K, 31⟩) :: H) x = H.get x := fun x q1 q2 q3 q4 q5 => by
        rw [Hp.get_ne _ _ (by omega), Hp.get_ne _ _ (by omega), Hp.get_ne _ _ (by omega), Hp.get_ne _ _ (by omega), Hp.get_ne _ _ (by omega)]
      refine ⟨n + 3, fun _ => n + 3, fun _ => 0, ks0, { g := Hp.get_eq _ _ _, s := k5, c0 := k0, c1 := k1, c2 := k2, rows := .inl ⟨k3, rfl⟩, row := fun i hi => by omega, qc := fun i hi => by omega, d1 := by omega, d2 := fun i hi => by omega, d3 := fun i j hi => by omega }, by omega, by omega, fun j hj => by omega, by exact zH, by exact zH, ⟨_, by exact zH, rfl⟩,
        fun x hx => ge3 x (by omega) (by omega) (by omega) (by omega) (by omega), fun x hx => by rw [ge3 x (by omega) (by omega) (by omega) (by omega) (by omega)]; exact hf x (by omega)⟩
    rintro i n4 H1 hi hn4 ⟨rb, bk, cp, ks, hS, hrb, hrb2, hbk, gA, gv, ⟨kr, gr, krs⟩, hlow, hfr⟩
    have gs := hS.g
    (repeat first|refine zG ?_|(refine LS.nilO ?_;intro nq hnq hltq;try refine zU ?_)|(refine MS.new ?_;intro bq hbq hbqf;try refine zU ?_)|(refine MS.nil ?_;intro nq hnq hltq;have hlq:=hltq _ _ (Hp.get_eq _ _ _);clear hltq;try refine zU ?_)|(refine LS.nilQ ?_;try with_reducible intro nq hnq;try refine zU ?_))
    refine zI ?_ ?_<;>intro h4
    · (repeat first|refine zG ?_|(refine LS.nilO ?_;intro nq hnq hltq;try refine zU ?_)|(refine MS.new ?_;intro bq hbq hbqf;try refine zU ?_)|(refine MS.nil ?_;intro nq hnq hltq;have hlq:=hltq _ _ (Hp.get_eq _ _ _);clear hltq;try refine zU ?_)|(refine LS.nilQ ?_;try with_reducible intro nq hnq;try refine zU ?_))
      refine RS.mks (len := a) (cap := a) (by exact rfl) (by exact rfl) rfl rfl (by omega) (by omega) (by omega) ?_
      (repeat first|refine zG ?_|(refine LS.nilO ?_;intro nq hnq hltq;try refine zU ?_)|(refine MS.new ?_;intro bq hbq hbqf;try refine zU ?_)|(refine MS.nil ?_;intro nq hnq hltq;have hlq:=hltq _ _ (Hp.get_eq _ _ _);clear hltq;try refine zU ?_)|(refine LS.nilQ ?_;try with_reducible intro nq hnq;try refine zU ?_))
      refine CS.iter a (fun j => [(33, i64 (j : Nat)), (32, i64 (a : Nat)), (10, .s (.slc n4 0 a a)), (9, i64 (i : Nat)), (27, i64 (i : Nat)), (26, i64 (a : Nat)), (2, ptr n 0), (3, ptr (n + 1) 0), (4, ptr (n + 2) 0), (7, i64 (a : Nat)), (8, ptr n2 0)])
        (fun j => (n4, ⟨a, fun x => if x < j then .int .i64 (pr p m v (bas x) a i) else .int .i64 0, 3⟩) :: H1) (fun _ => True) (by (repeat first | exact trivial | refine And.intro rfl ?_)) (Drops.keepc (by (try dsimp only); omega) rfl (fun q hq => by (try dsimp only); rw [if_neg (by omega), Nat.mod_one]; rfl) (Drops.refl _ _)) trivial ?_
      intro j n5 hj hn5 _
      (repeat first|refine zG ?_|(refine LS.nilO ?_;intro nq hnq hltq;try refine zU ?_)|(refine MS.new ?_;intro bq hbq hbqf;try refine zU ?_)|(refine MS.nil ?_;intro nq hnq hltq;have hlq:=hltq _ _ (Hp.get_eq _ _ _);clear hltq;try refine zU ?_)|(refine LS.nilQ ?_;try with_reducible intro nq hnq;try refine zU ?_))
      refine zI ?_ ?_<;>intro h5
      · (repeat first|refine zG ?_|(refine LS.nilO ?_;intro nq hnq hltq;try refine zU ?_)|(refine MS.new ?_;intro bq hbq hbqf;try refine zU ?_)|(refine MS.nil ?_;intro nq hnq hltq;have hlq:=hltq _ _ (Hp.get_eq _ _ _);clear hltq;try refine zU ?_)|(refine LS.nilQ ?_;try with_reducible intro nq hnq;try refine zU ?_))
        refine CS.tailLo _ (List.Mem.head _) ?_; dsimp only [List.take, List.drop]
        (repeat first|refine zG ?_|(refine LS.nilO ?_;intro nq hnq hltq;try refine zU ?_)|(refine MS.new ?_;intro bq hbq hbqf;try refine zU ?_)|(refine MS.nil ?_;intro nq hnq hltq;have hlq:=hltq _ _ (Hp.get_eq _ _ _);clear hltq;try refine zU ?_)|(refine LS.nilQ ?_;try with_reducible intro nq hnq;try refine zU ?_))
        refine LS.callQ (.arr 8 (bys (bas j))) rfl (fun n' hn' => impl_basis j _ _ (by omega)) ?_
        (repeat first|refine zG ?_|(refine LS.nilO ?_;intro nq hnq hltq;try refine zU ?_)|(refine MS.new ?_;intro bq hbq hbqf;try refine zU ?_)|(refine MS.nil ?_;intro nq hnq hltq;have hlq:=hltq _ _ (Hp.get_eq _ _ _);clear hltq;try refine zU ?_)|(refine LS.nilQ ?_;try with_reducible intro nq hnq;try refine zU ?_))
        obtain ⟨g, hg⟩ : ∃ g, g = pr p m v (bas j) a := ⟨_, rfl⟩
        have hgi : 0 ≤ g i ∧ g i ≤ 31 := by have : 0 ≤ g i ∧ g i < p := (by rw [hg]; exact modB _ hb.1); omega
        refine LS.callQ (.arr 8 (bys g)) rfl (fun n' hn' => by rw [hg]; exact Algebra_product p a m v (bas j) n _ _ _ hb ha (by exact zH) rfl h0 h1 hK hm hv (bas_by _ _)) ?_
        (repeat first|refine zG ?_|(refine LS.nilO ?_;intro nq hnq hltq;try refine zU ?_)|(refine MS.new ?_;intro bq hbq hbqf;try refine zU ?_)|(refine MS.nil ?_;intro nq hnq hltq;have hlq:=hltq _ _ (Hp.get_eq _ _ _);clear hltq;try refine zU ?_)|(refine LS.nilQ ?_;try with_reducible intro nq hnq;try refine zU ?_))
        refine ⟨by omega, by (repeat first | exact trivial | refine And.intro rfl ?_), Drops.keepc rfl rfl (fun q hq => ?_) (Drops.refl _ _), trivial⟩
        (try dsimp only)
        rw [Nat.zero_add, Nat.mul_one]
        unfold put1
        by_cases e : q = j
        · rw [if_pos e, if_pos (by omega), e, hg]
        · rw [if_neg e]
          (try dsimp only)
          by_cases e2 : q < j
          · rw [if_pos e2, if_pos (by omega)]
          · rw [if_neg e2, if_neg (by omega)]
      · obtain rfl : a = j := by omega
        have hui := hu i (by omega)
        (repeat first|refine zG ?_|(refine LS.nilO ?_;intro nq hnq hltq;try refine zU ?_)|(refine MS.new ?_;intro bq hbq hbqf;try refine zU ?_)|(refine MS.nil ?_;intro nq hnq hltq;have hlq:=hltq _ _ (Hp.get_eq _ _ _);clear hltq;try refine zU ?_)|(refine LS.nilQ ?_;try with_reducible intro nq hnq;try refine zU ?_))
        refine RS.call rfl ((system_add p a i (irow p u m v a) n2 rb n4 bk cp ks ⟨a, fun x => if x < a then .int .i64 (pr p m v (bas x) a i) else .int .i64 0, 3⟩ (fun x => pr p m v (bas x) a i) (u i) _ _ hb ha (by omega) (hS.push (hfr n4 (Nat.le_refl _))) (by omega) (Hp.get_eq _ _ _) (Nat.le_refl _) (fun q hq => by (try dsimp only); rw [if_pos hq]) (fun q hq => by have : 0 ≤ pr p m v (bas q) a i ∧ pr p m v (bas q) a i < p := modB _ hb.1; omega) (by omega)).mono ?_)
        rintro r H2 n6 hn6 ⟨rfl, rb', ks', hS', _, hrb', hrb'', hfr', hlow'⟩
        have hl2 : ∀ x, x < n + 3 → H2.get x = H1.get x := fun x hx => by rw [hlow' x (by omega) (by omega) (by omega), Hp.get_ne _ _ (by omega)]
        (repeat first|refine zG ?_|(refine LS.nilO ?_;intro nq hnq hltq;try refine zU ?_)|(refine MS.new ?_;intro bq hbq hbqf;try refine zU ?_)|(refine MS.nil ?_;intro nq hnq hltq;have hlq:=hltq _ _ (Hp.get_eq _ _ _);clear hltq;try refine zU ?_)|(refine LS.nilQ ?_;try with_reducible intro nq hnq;try refine zU ?_))
        refine ⟨by omega, by (repeat first | exact trivial | refine And.intro rfl ?_), H2, Drops.refl _ _, rb', _, _, ks', hS'.same (fun k x hk hx => ?_), by omega, hrb', fun j hj => ?_, by rw [hl2 n (by omega)]; exact gA, by rw [hl2 (n + 1) (by omega)]; exact gv, ⟨kr, by rw [hl2 (n + 2) (by omega)]; exact gr, krs⟩, fun x hx => by rw [hl2 x (by omega)]; exact hlow x hx, hfr'⟩
        · unfold snc irow
          by_cases e : k = i
          · rw [if_pos e, e]
          · rw [if_neg e]
        · (try dsimp only)
          by_cases e : j = i
          · rw [if_pos e]; omega
          · rw [if_neg e]; exact hbk j (by omega)
    · obtain rfl : a = i := by omega
      (repeat first|refine zG ?_|(refine LS.nilO ?_;intro nq hnq hltq;try refine zU ?_)|(refine MS.new ?_;intro bq hbq hbqf;try refine zU ?_)|(refine MS.nil ?_;intro nq hnq hltq;have hlq:=hltq _ _ (Hp.get_eq _ _ _);clear hltq;try refine zU ?_)|(refine LS.nilQ ?_;try with_reducible intro nq hnq;try refine zU ?_))
      have hrn : ∀ j, j < a → bk j < n4 := fun j hj => by
        obtain ⟨kj, gj, _⟩ := hS.row j hj
        exact getlt hfr gj
      refine RS.call rfl ((system_solve p a a (irow p u m v a) n2 rb bk cp ks _ _ hW.hp ha (by omega) ha1 (fun R => ∀ z, sat p R a a z ↔ sat p (irow p u m v a) a a z) (fun z => Iff.rfl) (fun R x y hx hy q z => (sat_swp hx hy).trans (q z)) (fun R x y hx _ h0 q z => (sat_clr hW.hp hx h0).trans (q z)) (hS.push (hfr n4 (Nat.le_refl _))) (fun k x _ _ => irow_res hb.1 u m v a k x)).mono ?_)
      rintro r H3 n6 hn6 ⟨R, pl, d, bk', ks', pb, rfl, hdm, hrf, heqv, hS3, hSL3, hpb, hfr3, hlow3⟩
      have gA3 : H3.get n = some ⟨522, K, 31⟩ := by rw [hlow3 n (by omega) (by omega) (by omega) (fun k hk => by have := hbk k hk; omega), Hp.get_ne _ _ (by omega)]; exact gA
      have gv3 : H3.get (n + 1) = some ⟨8, bys v, 25⟩ := by rw [hlow3 (n + 1) (by omega) (by omega) (by omega) (fun k hk => by have := hbk k hk; omega), Hp.get_ne _ _ (by omega)]; exact gv
      have gr3 : H3.get (n + 2) = some kr := by rw [hlow3 (n + 2) (by omega) (by omega) (by omega) (fun k hk => by have := hbk k hk; omega), Hp.get_ne _ _ (by omega)]; exact gr
      obtain ⟨ko, go3, kos, koz⟩ : ∃ ko, H3.get n4 = some ko ∧ ko.size = 8 ∧ ∀ q, q < 8 → ko.c q = .int .u8 0 :=
        ⟨_, by rw [hlow3 n4 (by omega) (by have := getlt hfr hS.g; omega) (by omega) (fun k hk => by have := hrn k hk; omega), Hp.get_eq], rfl, fun q hq => zc8 hq⟩
      have hl3 : ∀ x, x < n → H3.get x = H.get x := fun x hx => by rw [hlow3 x (by omega) (by omega) (by omega) (fun k hk => by have := hbk k hk; omega), Hp.get_ne _ _ (by omega)]; exact hlow x hx
      (repeat first|refine zG ?_|(refine LS.nilO ?_;intro nq hnq hltq;try refine zU ?_)|(refine MS.new ?_;intro bq hbq hbqf;try refine zU ?_)|(refine MS.nil ?_;intro nq hnq hltq;have hlq:=hltq _ _ (Hp.get_eq _ _ _);clear hltq;try refine zU ?_)|(refine LS.nilQ ?_;try with_reducible intro nq hnq;try refine zU ?_))
      have hsw : ∀ o, ((∀ j, d ≤ j → j < a → R j a = 0) → o = sol R a pl d) → (¬(∀ j, d ≤ j → j < a → R j a = 0) → o = fun _ => 0) → solW p u m v a R pl d o := fun o q1 q2 =>
        { hp := hW.hp, ha := ha, hu := hW.hu, has := hW.has, ru := hW.ru, uz := fun q hq hq2 => (h3.1.1.2.1 q hq).2 (by omega), mt := h3.1.1.2.2, rf := hrf, eqv := heqv, yes := q1, no := q2 }
      refine zI ?_ ?_<;>intro h6
      · (repeat first|refine zG ?_|(refine LS.nilO ?_;intro nq hnq hltq;try refine zU ?_)|(refine MS.new ?_;intro bq hbq hbqf;try refine zU ?_)|(refine MS.nil ?_;intro nq hnq hltq;have hlq:=hltq _ _ (Hp.get_eq _ _ _);clear hltq;try refine zU ?_)|(refine LS.nilQ ?_;try with_reducible intro nq hnq;try refine zU ?_))
        refine CS.ordE ?_
        dsimp only [pick, List.filterMap_cons, List.getElem?_cons_zero, List.getElem?_cons_succ, List.filterMap_nil]
        refine OE.slaAll (by exact rfl) (by omega) ?_
        refine OE.mov (by exact rfl) ?_
        refine OE.call (R := fun r H' => ∃ nn, (∀ b k, H3.get b = some k → b < nn) ∧ r = .s (.slc nn 0 a a) ∧ ∃ k : Blk, H' = (nn, k) :: H3 ∧ k.size = a ∧ ∀ x, x < a → k.c x = .int .u8 (sol R a pl d x)) rfl (fun n' hn' hlt => (system_one p a d R pl n2 rb pb bk' cp ks' _ _ ha (by omega) hS3 hSL3 (fun k hk => hrf.pc k hk)).mono (fun r H' n'' hn'' hh => ⟨n', hlt, hh⟩)) ?_
        rintro r H4 ⟨nn, hlt, rfl, k, rfl, hks, hkc⟩
        have hnn := hlt n4 ko go3
        refine OE.cpy (k := ko) (c2 := fun x => .int .u8 (sol R a pl d x)) (by exact rfl) (by exact rfl) (by rw [Hp.get_ne _ _ (by omega)]; exact go3) (by omega) (.inr ⟨nn, 0, k, rfl, Hp.get_eq _ _ _, by omega, Nat.le_refl _, fun q hq => by rw [Nat.zero_add]; exact hkc q (by omega)⟩) ?_
        refine OE.nil ?_
        intro n7 hn7 hlt7
        obtain ⟨H5, hH5⟩ : ∃ H5, H5 = Hp.set ((nn, k) :: H3) n4 (splice ko.c 0 (min a 8 * 1) (fun x => .int .u8 (sol R a pl d x))) := ⟨_, rfl⟩
        (try dsimp only at hlt7 ⊢)
        rw [← hH5] at hlt7 ⊢
        have l5 : ∀ x, x ≠ n4 → x ≠ nn → H5.get x = H3.get x := fun x q1 q2 => by rw [hH5, Hp.get_set_other _ (fun q => q1 q.symm), Hp.get_ne _ _ (fun q => q2 q.symm)]
        have gA5 : H5.get n = some ⟨522, K, 31⟩ := by rw [l5 n (by omega) (by omega)]; exact gA3
        have gv5 : H5.get (n + 1) = some ⟨8, bys v, 25⟩ := by rw [l5 (n + 1) (by omega) (by omega)]; exact gv3
        have gr5 : H5.get (n + 2) = some kr := by rw [l5 (n + 2) (by omega) (by omega)]; exact gr3
        have low5 : ∀ x, x < n → H5.get x = H.get x := fun x hx => by rw [l5 x (by omega) (by omega)]; exact hl3 x hx
        obtain ⟨o, hoo⟩ : ∃ o, o = sol R a pl d := ⟨_, rfl⟩
        obtain ⟨k2, go5, k2s, k2c⟩ : ∃ k2, H5.get n4 = some k2 ∧ k2.size = 8 ∧ ∀ q, q < 8 → k2.c (0 + q) = .int .u8 (o q) := by
          have q0 : Hp.get ((nn, k) :: H3) n4 = some ko := by rw [Hp.get_ne _ _ (by omega)]; exact go3
          have q1 := Hp.get_set_self (splice ko.c 0 (min a 8 * 1) (fun x => .int .u8 (sol R a pl d x))) q0
          rw [← hH5] at q1
          refine ⟨_, q1, kos, fun q hq => ?_⟩
          rw [Nat.zero_add]
          (try dsimp only)
          unfold splice
          by_cases e : q < a
          · rw [if_pos (by omega), hoo, Nat.sub_zero]
          · rw [if_neg (by omega), koz q hq, hoo, sol_else (fun k hk => by have := hrf.pc k hk; omega)]
        have hsw := hsw o (fun _ => hoo) (fun q => absurd h6 q)
        have ho : isBy 8 o := hsw.res.1.by hb.2
        have hEo : (∃ w, isIv p u m v a w) → isIv p u m v a o := fun ⟨w, hw⟩ => hw.cong ha (fun x hx => hsw.all hw x hx)
        (repeat first|refine zG ?_|(refine LS.nilO ?_;intro nq hnq hltq;try refine zU ?_)|(refine MS.new ?_;intro bq hbq hbqf;try refine zU ?_)|(refine MS.nil ?_;intro nq hnq hltq;have hlq:=hltq _ _ (Hp.get_eq _ _ _);clear hltq;try refine zU ?_)|(refine LS.nilQ ?_;try with_reducible intro nq hnq;try refine zU ?_))
        obtain ⟨g1, hg1⟩ : ∃ g, g = pr p m v o a := ⟨_, rfl⟩
        refine LS.callQ (.arr 8 (bys g1)) rfl (fun n' hn' => by rw [hg1]; exact Algebra_product p a m v o n _ _ _ hb ha gA5 rfl h0 h1 hK hm hv ho) ?_
        (repeat first|refine zG ?_|(refine LS.nilO ?_;intro nq hnq hltq;try refine zU ?_)|(refine MS.new ?_;intro bq hbq hbqf;try refine zU ?_)|(refine MS.nil ?_;intro nq hnq hltq;have hlq:=hltq _ _ (Hp.get_eq _ _ _);clear hltq;try refine zU ?_)|(refine LS.nilQ ?_;try with_reducible intro nq hnq;try refine zU ?_))
        refine RS.sp (t := 69) rfl (fun h7 => ?_) (fun h7 => ?_) <;> (try simp only [tb_eq, tb_eqF, decide_eq_true_eq, decide_eq_false_iff_not, beq_iff_eq, bne_iff_ne, ne_eq, Decidable.not_not, beq_eq_false_iff_ne, bne_eq_false_iff_eq, Bool.not_eq_true', Bool.not_eq_false', Bool.not_eq_eq_eq_not, Bool.not_true, Bool.not_false] at h7)
        · have hE : ¬∃ w, isIv p u m v a w := fun q => h7 (fun i hi => by rw [hg1]; exact (hEo q).vw i hi)
          (repeat first|refine zG ?_|(refine LS.nilO ?_;intro nq hnq hltq;try refine zU ?_)|(refine MS.new ?_;intro bq hbq hbqf;try refine zU ?_)|(refine MS.nil ?_;intro nq hnq hltq;have hlq:=hltq _ _ (Hp.get_eq _ _ _);clear hltq;try refine zU ?_)|(refine LS.nilQ ?_;try with_reducible intro nq hnq;try refine zU ?_))
          exact ⟨.tup [.arr 8 (bys (ivX (isAlg p a u m ∧ isVec p a v) (ivW p u m v a))), i64 (ivC (isAlg p a u m ∧ isVec p a v) (∃ w, isIv p u m v a w))], H, conc_tup2 (conc_arr (fun q hq => by rw [ivX_t h3, ivW_no hE]; simp only [Nat.zero_add]; rw [spl8 hq, zc8 hq]; rfl)) (by rw [ivC_4 h3 hE]), Drops.low hf (fun x hx => by rw [Hp.get_set_other _ (by omega)]; exact low5 x hx), rfl, rfl⟩
        · (repeat first|refine zG ?_|(refine LS.nilO ?_;intro nq hnq hltq;try refine zU ?_)|(refine MS.new ?_;intro bq hbq hbqf;try refine zU ?_)|(refine MS.nil ?_;intro nq hnq hltq;have hlq:=hltq _ _ (Hp.get_eq _ _ _);clear hltq;try refine zU ?_)|(refine LS.nilQ ?_;try with_reducible intro nq hnq;try refine zU ?_))
          obtain ⟨g2, hg2⟩ : ∃ g, g = pr p m o v a := ⟨_, rfl⟩
          refine LS.callQ (.arr 8 (bys g2)) rfl (fun n' hn' => by rw [hg2]; exact Algebra_product p a m o v n _ _ _ hb ha gA5 rfl h0 h1 hK hm ho hv) ?_
          (repeat first|refine zG ?_|(refine LS.nilO ?_;intro nq hnq hltq;try refine zU ?_)|(refine MS.new ?_;intro bq hbq hbqf;try refine zU ?_)|(refine MS.nil ?_;intro nq hnq hltq;have hlq:=hltq _ _ (Hp.get_eq _ _ _);clear hltq;try refine zU ?_)|(refine LS.nilQ ?_;try with_reducible intro nq hnq;try refine zU ?_))
          refine zI ?_ ?_<;>intro h8
          · have hE : ¬∃ w, isIv p u m v a w := fun q => h8 (fun i hi => by rw [hg2]; exact (hEo q).wv i hi)
            (repeat first|refine zG ?_|(refine LS.nilO ?_;intro nq hnq hltq;try refine zU ?_)|(refine MS.new ?_;intro bq hbq hbqf;try refine zU ?_)|(refine MS.nil ?_;intro nq hnq hltq;have hlq:=hltq _ _ (Hp.get_eq _ _ _);clear hltq;try refine zU ?_)|(refine LS.nilQ ?_;try with_reducible intro nq hnq;try refine zU ?_))
            exact ⟨.tup [.arr 8 (bys (ivX (isAlg p a u m ∧ isVec p a v) (ivW p u m v a))), i64 (ivC (isAlg p a u m ∧ isVec p a v) (∃ w, isIv p u m v a w))], H, conc_tup2 (conc_arr (fun q hq => by rw [ivX_t h3, ivW_no hE]; simp only [Nat.zero_add]; rw [spl8 hq, zc8 hq]; rfl)) (by rw [ivC_4 h3 hE]), Drops.low hf (fun x hx => by rw [Hp.get_set_other _ (by omega)]; exact low5 x hx), rfl, rfl⟩
          · have hE : ∃ w, isIv p u m v a w := ⟨o, hsw.is (fun q hq => by rw [← hg1]; exact h7 q hq) (fun q hq => by rw [← hg2]; exact h8 q hq)⟩
            (repeat first|refine zG ?_|(refine LS.nilO ?_;intro nq hnq hltq;try refine zU ?_)|(refine MS.new ?_;intro bq hbq hbqf;try refine zU ?_)|(refine MS.nil ?_;intro nq hnq hltq;have hlq:=hltq _ _ (Hp.get_eq _ _ _);clear hltq;try refine zU ?_)|(refine LS.nilQ ?_;try with_reducible intro nq hnq;try refine zU ?_))
            exact ⟨.tup [.arr 8 (bys (ivX (isAlg p a u m ∧ isVec p a v) (ivW p u m v a))), i64 (ivC (isAlg p a u m ∧ isVec p a v) (∃ w, isIv p u m v a w))], H, conc_tup2 (conc_arr (fun q hq => by rw [ivX_t h3]; simp only [Nat.zero_add]; rw [spl8 hq]; exact congrArg (SV.int .u8) (hsw.all (ivW_is hE) q hq))) (by rw [ivC_0 h3 hE]), Drops.low hf (fun x hx => by rw [Hp.get_set_other _ (by omega)]; exact low5 x hx), rfl, rfl⟩
      · obtain ⟨o, hoo⟩ : ∃ o : Nat → Int, o = fun _ => 0 := ⟨_, rfl⟩
        have gA5 := gA3
        have gv5 := gv3
        have gr5 := gr3
        have low5 := hl3
        have k2c : ∀ q, q < 8 → ko.c (0 + q) = .int .u8 (o q) := fun q hq => by rw [Nat.zero_add, koz q hq, hoo]
        have hsw := hsw o (fun q => absurd q h6) (fun _ => hoo)
        have ho : isBy 8 o := hsw.res.1.by hb.2
        have hEo : (∃ w, isIv p u m v a w) → isIv p u m v a o := fun ⟨w, hw⟩ => hw.cong ha (fun x hx => hsw.all hw x hx)
        (repeat first|refine zG ?_|(refine LS.nilO ?_;intro nq hnq hltq;try refine zU ?_)|(refine MS.new ?_;intro bq hbq hbqf;try refine zU ?_)|(refine MS.nil ?_;intro nq hnq hltq;have hlq:=hltq _ _ (Hp.get_eq _ _ _);clear hltq;try refine zU ?_)|(refine LS.nilQ ?_;try with_reducible intro nq hnq;try refine zU ?_))
        obtain ⟨g1, hg1⟩ : ∃ g, g = pr p m v o a := ⟨_, rfl⟩
        refine LS.callQ (.arr 8 (bys g1)) rfl (fun n' hn' => by rw [hg1]; exact Algebra_product p a m v o n _ _ _ hb ha gA5 rfl h0 h1 hK hm hv ho) ?_
        (repeat first|refine zG ?_|(refine LS.nilO ?_;intro nq hnq hltq;try refine zU ?_)|(refine MS.new ?_;intro bq hbq hbqf;try refine zU ?_)|(refine MS.nil ?_;intro nq hnq hltq;have hlq:=hltq _ _ (Hp.get_eq _ _ _);clear hltq;try refine zU ?_)|(refine LS.nilQ ?_;try with_reducible intro nq hnq;try refine zU ?_))
        refine RS.sp (t := 69) rfl (fun h7 => ?_) (fun h7 => ?_) <;> (try simp only [tb_eq, tb_eqF, decide_eq_true_eq, decide_eq_false_iff_not, beq_iff_eq, bne_iff_ne, ne_eq, Decidable.not_not, beq_eq_false_iff_ne, bne_eq_false_iff_eq, Bool.not_eq_true', Bool.not_eq_false', Bool.not_eq_eq_eq_not, Bool.not_true, Bool.not_false] at h7)
        · have hE : ¬∃ w, isIv p u m v a w := fun q => h7 (fun i hi => by rw [hg1]; exact (hEo q).vw i hi)
          (repeat first|refine zG ?_|(refine LS.nilO ?_;intro nq hnq hltq;try refine zU ?_)|(refine MS.new ?_;intro bq hbq hbqf;try refine zU ?_)|(refine MS.nil ?_;intro nq hnq hltq;have hlq:=hltq _ _ (Hp.get_eq _ _ _);clear hltq;try refine zU ?_)|(refine LS.nilQ ?_;try with_reducible intro nq hnq;try refine zU ?_))
          exact ⟨.tup [.arr 8 (bys (ivX (isAlg p a u m ∧ isVec p a v) (ivW p u m v a))), i64 (ivC (isAlg p a u m ∧ isVec p a v) (∃ w, isIv p u m v a w))], H, conc_tup2 (conc_arr (fun q hq => by rw [ivX_t h3, ivW_no hE]; simp only [Nat.zero_add]; rw [spl8 hq, zc8 hq]; rfl)) (by rw [ivC_4 h3 hE]), Drops.low hf (fun x hx => by rw [Hp.get_set_other _ (by omega)]; exact low5 x hx), rfl, rfl⟩
        · (repeat first|refine zG ?_|(refine LS.nilO ?_;intro nq hnq hltq;try refine zU ?_)|(refine MS.new ?_;intro bq hbq hbqf;try refine zU ?_)|(refine MS.nil ?_;intro nq hnq hltq;have hlq:=hltq _ _ (Hp.get_eq _ _ _);clear hltq;try refine zU ?_)|(refine LS.nilQ ?_;try with_reducible intro nq hnq;try refine zU ?_))
          obtain ⟨g2, hg2⟩ : ∃ g, g = pr p m o v a := ⟨_, rfl⟩
          refine LS.callQ (.arr 8 (bys g2)) rfl (fun n' hn' => by rw [hg2]; exact Algebra_product p a m o v n _ _ _ hb ha gA5 rfl h0 h1 hK hm ho hv) ?_
          (repeat first|refine zG ?_|(refine LS.nilO ?_;intro nq hnq hltq;try refine zU ?_)|(refine MS.new ?_;intro bq hbq hbqf;try refine zU ?_)|(refine MS.nil ?_;intro nq hnq hltq;have hlq:=hltq _ _ (Hp.get_eq _ _ _);clear hltq;try refine zU ?_)|(refine LS.nilQ ?_;try with_reducible intro nq hnq;try refine zU ?_))
          refine zI ?_ ?_<;>intro h8
          · have hE : ¬∃ w, isIv p u m v a w := fun q => h8 (fun i hi => by rw [hg2]; exact (hEo q).wv i hi)
            (repeat first|refine zG ?_|(refine LS.nilO ?_;intro nq hnq hltq;try refine zU ?_)|(refine MS.new ?_;intro bq hbq hbqf;try refine zU ?_)|(refine MS.nil ?_;intro nq hnq hltq;have hlq:=hltq _ _ (Hp.get_eq _ _ _);clear hltq;try refine zU ?_)|(refine LS.nilQ ?_;try with_reducible intro nq hnq;try refine zU ?_))
            exact ⟨.tup [.arr 8 (bys (ivX (isAlg p a u m ∧ isVec p a v) (ivW p u m v a))), i64 (ivC (isAlg p a u m ∧ isVec p a v) (∃ w, isIv p u m v a w))], H, conc_tup2 (conc_arr (fun q hq => by rw [ivX_t h3, ivW_no hE]; simp only [Nat.zero_add]; rw [spl8 hq, zc8 hq]; rfl)) (by rw [ivC_4 h3 hE]), Drops.low hf (fun x hx => by rw [Hp.get_set_other _ (by omega)]; exact low5 x hx), rfl, rfl⟩
          · have hE : ∃ w, isIv p u m v a w := ⟨o, hsw.is (fun q hq => by rw [← hg1]; exact h7 q hq) (fun q hq => by rw [← hg2]; exact h8 q hq)⟩
            (repeat first|refine zG ?_|(refine LS.nilO ?_;intro nq hnq hltq;try refine zU ?_)|(refine MS.new ?_;intro bq hbq hbqf;try refine zU ?_)|(refine MS.nil ?_;intro nq hnq hltq;have hlq:=hltq _ _ (Hp.get_eq _ _ _);clear hltq;try refine zU ?_)|(refine LS.nilQ ?_;try with_reducible intro nq hnq;try refine zU ?_))
            exact ⟨.tup [.arr 8 (bys (ivX (isAlg p a u m ∧ isVec p a v) (ivW p u m v a))), i64 (ivC (isAlg p a u m ∧ isVec p a v) (∃ w, isIv p u m v a w))], H, conc_tup2 (conc_arr (fun q hq => by rw [ivX_t h3]; simp only [Nat.zero_add]; rw [spl8 hq]; exact congrArg (SV.int .u8) (hsw.all (ivW_is hE) q hq))) (by rw [ivC_0 h3 hE]), Drops.low hf (fun x hx => by rw [Hp.get_set_other _ (by omega)]; exact low5 x hx), rfl, rfl⟩

end Go.Proofs.YtgnphaopeplfbaaGreatDoor

/- Products, left tables, powers and traces: the reference's and the program's. -/

namespace Go.V

set_option linter.unusedSimpArgs false

set_option linter.unusedVariables false

/-- Two vectors in a row. -/
def two (v w : Nat → Int) : Nat → Int := fun q => if q < 8 then v q else w (q - 8)

theorem two_by {v w : Nat → Int} (hv : isBy 8 v) (hw : isBy 8 w) : isBy 16 (two v w) := fun q hq => by
  unfold two
  by_cases e : q < 8
  · rw [if_pos e]; exact hv q e
  · rw [if_neg e]; exact hw (q - 8) (by omega)

theorem two_iff {p n' : Int} {u m v w : Nat → Int} : (isAlg p n' u m ∧ ∀ i, i < 2 → isVec p n' (fun x => two v w (i * 8 + x))) ↔ isAlg p n' u m ∧ isVec p n' v ∧ isVec p n' w := by
  have e0 : isVec p n' (fun x => two v w (0 * 8 + x)) ↔ isVec p n' v := forall_congr' fun x => imp_congr_right fun hx => by
    (try dsimp only); unfold two; rw [if_pos (by omega), show 0 * 8 + x = x by omega]
  have e1 : isVec p n' (fun x => two v w (1 * 8 + x)) ↔ isVec p n' w := forall_congr' fun x => imp_congr_right fun hx => by
    (try dsimp only); unfold two; rw [if_neg (by omega), show 1 * 8 + x - 8 = x by omega]
  refine and_congr_right fun _ => ⟨fun q => ⟨e0.1 (q 0 (by omega)), e1.1 (q 1 (by omega))⟩, fun q i hi => ?_⟩
  rcases (show i = 0 ∨ i = 1 by omega) with rfl | rfl
  · exact e0.2 q.1
  · exact e1.2 q.2

theorem one_iff {p n' : Int} {u m v : Nat → Int} : (isAlg p n' u m ∧ ∀ i, i < 1 → isVec p n' (fun x => v (i * 8 + x))) ↔ isAlg p n' u m ∧ isVec p n' v := by
  refine ⟨fun q => ⟨q.1, ?_⟩, fun q => ⟨q.1, fun i hi => ?_⟩⟩
  · have := q.2 0 (by omega)
    simpa only [Nat.zero_mul, Nat.zero_add] using this
  · obtain rfl : i = 0 := by omega
    simpa only [Nat.zero_mul, Nat.zero_add] using q.2

/-- Powers, and what is left over the diagonal. -/
def pw (p : Int) (m u v : Nat → Int) (a : Nat) : Nat → Nat → Int
  | 0 => u
  | k + 1 => pr p m (pw p m u v a k) v a

theorem pr_resQ {p : Int} (hp : 2 ≤ p) (m v w : Nat → Int) (a : Nat) : isRes p 8 (pr p m v w a) := fun q _ => by
  rw [pr_eq]; exact modB _ hp

theorem pw_res {p : Int} (hp : 2 ≤ p) {m u v : Nat → Int} {a : Nat} (hu : isRes p 8 u) : ∀ k, isRes p 8 (pw p m u v a k)
  | 0 => hu
  | k + 1 => pr_resQ hp m _ v a

def dg (f : Nat → Int) : Nat → Int := fun i => f (9 * i)

def trcN (p : Int) (f : Nat → Int) (n : Nat) : Int := sm (dg f) n % p

end Go.V

namespace Go.Proofs.YtgnphaopeplfbaaGreatDoor

open Go.V

variable [BW]

set_option linter.unusedSimpArgs false

set_option linter.unusedVariables false

set_option maxHeartbeats 4000000

theorem spec_l01CodeL (p n' : Int) (u m w : Nat → Int) (len b : Nat) (Kb : Blk) (K : Nat → SV) (H : Hp) (n : Nat) (hl : len ≤ 1000) (h0 : K 0 = .int .i64 p) (h1 : K 1 = .int .i64 n')
    (hU : ∀ q, q < 8 → K (2 + q) = .int .u8 (u q)) (hK : ∀ q, q < 512 → K (10 + q) = .int .u8 (m q)) (hu : isBy 8 u) (hm : isBy 512 m) (hw : isBy (8 * len) w) (gb : H.get b = some Kb) (sb : 8 * len ≤ Kb.size) (cb : ∀ q, q < 8 * len → Kb.c q = .int .u8 (w q)) :
    FnS Tryz.prog 27 [.arr 522 K, .s (.slc b 0 len len)] H n (fun r H' _ => r = i64 (cd (isAlg p n' u m ∧ ∀ i, i < len → isVec p n' (fun x => w (i * 8 + x)))) ∧ H' = H) := by
  refine FnS.of_body Tryz.func27 tr27 (by simp) (fun hf => ?_)
  dsimp only [argEnv]
  unfold ir27
  have hbn := getlt hf gb
  (repeat first|refine zG ?_|(refine LS.nilO ?_;intro nq hnq hltq;try refine zU ?_)|(refine MS.new ?_;intro bq hbq hbqf;try refine zU ?_)|(refine MS.nil ?_;intro nq hnq hltq;have hlq:=hltq _ _ (Hp.get_eq _ _ _);clear hltq;try refine zU ?_)|(refine LS.nilQ ?_;try with_reducible intro nq hnq;try refine zU ?_))
  refine RS.call rfl ((FnS.args (concs_cons (conc_arr (fun q hq => rfl)) rfl) (spec_l01Is p n' u m K _ _ h0 h1 hU hK hu hm)).mono ?_)
  rintro r H' n2 hn2 ⟨rfl, rfl⟩
  (repeat first|refine zG ?_|(refine LS.nilO ?_;intro nq hnq hltq;try refine zU ?_)|(refine MS.new ?_;intro bq hbq hbqf;try refine zU ?_)|(refine MS.nil ?_;intro nq hnq hltq;have hlq:=hltq _ _ (Hp.get_eq _ _ _);clear hltq;try refine zU ?_)|(refine LS.nilQ ?_;try with_reducible intro nq hnq;try refine zU ?_))
  refine zI ?_ ?_<;>intro h2
  · (repeat first|refine zG ?_|(refine LS.nilO ?_;intro nq hnq hltq;try refine zU ?_)|(refine MS.new ?_;intro bq hbq hbqf;try refine zU ?_)|(refine MS.nil ?_;intro nq hnq hltq;have hlq:=hltq _ _ (Hp.get_eq _ _ _);clear hltq;try refine zU ?_)|(refine LS.nilQ ?_;try with_reducible intro nq hnq;try refine zU ?_))
    exact ⟨i64 1, H, rfl, by exact zD, by rw [cd_false (fun q => h2 q.1)], rfl⟩
  · (repeat first|refine zG ?_|(refine LS.nilO ?_;intro nq hnq hltq;try refine zU ?_)|(refine MS.new ?_;intro bq hbq hbqf;try refine zU ?_)|(refine MS.nil ?_;intro nq hnq hltq;have hlq:=hltq _ _ (Hp.get_eq _ _ _);clear hltq;try refine zU ?_)|(refine LS.nilQ ?_;try with_reducible intro nq hnq;try refine zU ?_))
    refine CS.iter len (fun i => [(5, i64 i), (2, ptr n 0), (1, .s (.slc b 0 len len))]) (fun _ => (n, ⟨522, K, 31⟩) :: H) (fun i => Fx (∀ j, j < i → isVec p n' (fun x => w (j * 8 + x)))) (by (repeat first | exact trivial | refine And.intro rfl ?_)) (Drops.refl _ _) ⟨fun j h => by omega⟩ ?_
    intro i n3 hi hn3 hJ
    (repeat first|refine zG ?_|(refine LS.nilO ?_;intro nq hnq hltq;try refine zU ?_)|(refine MS.new ?_;intro bq hbq hbqf;try refine zU ?_)|(refine MS.nil ?_;intro nq hnq hltq;have hlq:=hltq _ _ (Hp.get_eq _ _ _);clear hltq;try refine zU ?_)|(refine LS.nilQ ?_;try with_reducible intro nq hnq;try refine zU ?_))
    refine zI ?_ ?_<;>intro h4
    · have hi' : i < len := by omega
      have hwb : isBy 8 (fun x => w (i * 8 + x)) := fun x hx => hw _ (by omega)
      have cb0 : ∀ q, q < 8 → Kb.c (0 + i * 8 + q) = .int .u8 (w (i * 8 + q)) := fun q hq => by rw [Nat.zero_add]; exact cb _ (by omega)
      (repeat first|refine zG ?_|(refine LS.nilO ?_;intro nq hnq hltq;try refine zU ?_)|(refine MS.new ?_;intro bq hbq hbqf;try refine zU ?_)|(refine MS.nil ?_;intro nq hnq hltq;have hlq:=hltq _ _ (Hp.get_eq _ _ _);clear hltq;try refine zU ?_)|(refine LS.nilQ ?_;try with_reducible intro nq hnq;try refine zU ?_))
      refine RS.call rfl ((FnS.args (concs_cons rfl (concs_cons rfl (concs_cons (conc_arr (fun q hq => by first | rfl | (simp only [Nat.zero_add]; done) | (simp only [Nat.zero_add]; rfl))) rfl))) (spec_l01Vector p n' (fun x => w (i * 8 + x)) _ _ hwb)).mono ?_)
      rintro r H' n4 hn4 ⟨rfl, rfl⟩
      (repeat first|refine zG ?_|(refine LS.nilO ?_;intro nq hnq hltq;try refine zU ?_)|(refine MS.new ?_;intro bq hbq hbqf;try refine zU ?_)|(refine MS.nil ?_;intro nq hnq hltq;have hlq:=hltq _ _ (Hp.get_eq _ _ _);clear hltq;try refine zU ?_)|(refine LS.nilQ ?_;try with_reducible intro nq hnq;try refine zU ?_))
      refine zI ?_ ?_<;>intro h5
      · (repeat first|refine zG ?_|(refine LS.nilO ?_;intro nq hnq hltq;try refine zU ?_)|(refine MS.new ?_;intro bq hbq hbqf;try refine zU ?_)|(refine MS.nil ?_;intro nq hnq hltq;have hlq:=hltq _ _ (Hp.get_eq _ _ _);clear hltq;try refine zU ?_)|(refine LS.nilQ ?_;try with_reducible intro nq hnq;try refine zU ?_))
        exact ⟨i64 1, H, rfl, by exact zD, by rw [cd_false (fun q => h5 (q.2 i hi'))], rfl⟩
      · (repeat first|refine zG ?_|(refine LS.nilO ?_;intro nq hnq hltq;try refine zU ?_)|(refine MS.new ?_;intro bq hbq hbqf;try refine zU ?_)|(refine MS.nil ?_;intro nq hnq hltq;have hlq:=hltq _ _ (Hp.get_eq _ _ _);clear hltq;try refine zU ?_)|(refine LS.nilQ ?_;try with_reducible intro nq hnq;try refine zU ?_))
        refine ⟨by omega, by (repeat first | exact trivial | refine And.intro rfl ?_), Drops.refl _ _, ⟨fun j hj => ?_⟩⟩
        by_cases e : j = i
        · rw [e]; exact h5
        · exact hJ.out j (by omega)
    · obtain rfl : i = len := by omega
      (repeat first|refine zG ?_|(refine LS.nilO ?_;intro nq hnq hltq;try refine zU ?_)|(refine MS.new ?_;intro bq hbq hbqf;try refine zU ?_)|(refine MS.nil ?_;intro nq hnq hltq;have hlq:=hltq _ _ (Hp.get_eq _ _ _);clear hltq;try refine zU ?_)|(refine LS.nilQ ?_;try with_reducible intro nq hnq;try refine zU ?_))
      exact ⟨i64 0, H, rfl, by exact zD, by rw [cd_true ⟨h2, hJ.out⟩], rfl⟩

/-- spec.MultiplyVectors -/
def ir6 : Cd := (.seq (.reg [⟨some 3,none,.box 31 (.t 0)⟩,⟨some 4,none,.box 25 (.t 1)⟩,⟨some 5,none,.box 25 (.t 2)⟩,⟨some 6,none,.new 25 [(8,(.int .u8 0))]⟩,⟨some 7,none,.mov (.c (.int .i64 0))⟩]) (.seq (.seq (.reg [⟨some 9,none,.ld (some 522) (.t 3)⟩,⟨some 10,none,.ld (some 8) (.t 4)⟩,⟨some 11,none,.ld (some 8) (.t 5)⟩,⟨some 12,none,.bsl 25 2 8 [(8,(.int .u8 0))] [(0,8,(.t 10)),(8,8,(.t 11))]⟩,⟨some 13,none,.call 27 [(.t 9),(.t 12)]⟩,⟨some 8,none,.mov (.t 13)⟩]) (.seq (.reg [⟨some 14,none,.mov (.t 8)⟩,⟨some 15,none,.bin .neq (.t 14) (.c (.int .i64 0))⟩]) (.cond (.t 15) (.seq (.reg [⟨some 16,none,.build 8 [(8,(.int .u8 0))] []⟩,⟨some 17,none,.mov (.t 8)⟩,⟨none,none,.st 8 (.t 6) (.t 16)⟩,⟨some 7,none,.mov (.t 17)⟩]) .ret) .skip))) (.seq (.reg [⟨some 18,none,.ld (some 522) (.t 3)⟩,⟨some 19,none,.ld (some 8) (.t 4)⟩,⟨some 20,none,.ld (some 8) (.t 5)⟩,⟨some 21,none,.call 28 [(.t 18),(.t 19),(.t 20)]⟩,⟨none,none,.st 8 (.t 6) (.t 21)⟩,⟨some 7,none,.mov (.c (.int .i64 0))⟩]) .ret)))

set_option maxRecDepth 100000 in
theorem tr6 : trFn Tryz.prog Tryz.f6 = some (22, ir6, [.cell (some 8) 6, .tmp 7]) := by kernel_rfl

theorem spec_MultiplyVectors (p n' : Int) (u m v w : Nat → Int) (K : Nat → SV) (H : Hp) (n : Nat) (h0 : K 0 = .int .i64 p) (h1 : K 1 = .int .i64 n')
    (hU : ∀ q, q < 8 → K (2 + q) = .int .u8 (u q)) (hK : ∀ q, q < 512 → K (10 + q) = .int .u8 (m q)) (hu : isBy 8 u) (hm : isBy 512 m) (hv : isBy 8 v) (hw : isBy 8 w) :
    FnS Tryz.prog 6 [.arr 522 K, .arr 8 (bys v), .arr 8 (bys w)] H n (fun r H' _ => r = .tup [.arr 8 (bys (ivX (isAlg p n' u m ∧ isVec p n' v ∧ isVec p n' w) (pr p m v w n'.toNat))), i64 (cd (isAlg p n' u m ∧ isVec p n' v ∧ isVec p n' w))] ∧ H' = H) := by
  refine FnS.of_body Tryz.func6 tr6 (by simp) (fun hf => ?_)
  dsimp only [argEnv]
  unfold ir6
  (repeat first|refine zG ?_|(refine LS.nilO ?_;intro nq hnq hltq;try refine zU ?_)|(refine MS.new ?_;intro bq hbq hbqf;try refine zU ?_)|(refine MS.nil ?_;intro nq hnq hltq;have hlq:=hltq _ _ (Hp.get_eq _ _ _);clear hltq;try refine zU ?_)|(refine LS.nilQ ?_;try with_reducible intro nq hnq;try refine zU ?_))
  refine RS.call rfl ((FnS.args (concs_cons (conc_arr (fun q hq => rfl)) rfl) (spec_l01CodeL p n' u m (two v w) 2 (n + 4) _ K _ _ (by omega) h0 h1 hU hK hu hm (two_by hv hw) (by exact zH) (by simp) (fun q hq => by
    (try dsimp only)
    unfold splice two
    by_cases e : q < 8
    · rw [if_neg (by omega), if_pos (by omega), if_pos e, Nat.sub_zero]; rfl
    · rw [if_pos (by omega), if_neg e]; rfl))).mono ?_)
  rintro r H' n2 hn2 ⟨rfl, rfl⟩
  rw [cd_iff two_iff]
  (repeat first|refine zG ?_|(refine LS.nilO ?_;intro nq hnq hltq;try refine zU ?_)|(refine MS.new ?_;intro bq hbq hbqf;try refine zU ?_)|(refine MS.nil ?_;intro nq hnq hltq;have hlq:=hltq _ _ (Hp.get_eq _ _ _);clear hltq;try refine zU ?_)|(refine LS.nilQ ?_;try with_reducible intro nq hnq;try refine zU ?_))
  refine zI ?_ ?_<;>intro h2
  · have h3 : ¬(isAlg p n' u m ∧ isVec p n' v ∧ isVec p n' w) := fun q => h2 (cdz.2 q)
    (repeat first|refine zG ?_|(refine LS.nilO ?_;intro nq hnq hltq;try refine zU ?_)|(refine MS.new ?_;intro bq hbq hbqf;try refine zU ?_)|(refine MS.nil ?_;intro nq hnq hltq;have hlq:=hltq _ _ (Hp.get_eq _ _ _);clear hltq;try refine zU ?_)|(refine LS.nilQ ?_;try with_reducible intro nq hnq;try refine zU ?_))
    exact ⟨.tup [.arr 8 (bys (ivX (isAlg p n' u m ∧ isVec p n' v ∧ isVec p n' w) (pr p m v w n'.toNat))), i64 (cd (isAlg p n' u m ∧ isVec p n' v ∧ isVec p n' w))], H, conc_tup2 (conc_arr (fun q hq => by rw [ivX_f h3]; first | rfl | (simp only [Nat.zero_add]; rfl))) rfl, by exact zD, rfl, rfl⟩
  · have h3 : isAlg p n' u m ∧ isVec p n' v ∧ isVec p n' w := cdz.1 h2
    obtain ⟨a, rfl, hW⟩ := algW_of ⟨h3.1, h3.2.1⟩ hu hv
    rw [Int.toNat_natCast]
    have hb := isP_le hW.hp
    have ha := hW.ha
    (repeat first|refine zG ?_|(refine LS.nilO ?_;intro nq hnq hltq;try refine zU ?_)|(refine MS.new ?_;intro bq hbq hbqf;try refine zU ?_)|(refine MS.nil ?_;intro nq hnq hltq;have hlq:=hltq _ _ (Hp.get_eq _ _ _);clear hltq;try refine zU ?_)|(refine LS.nilQ ?_;try with_reducible intro nq hnq;try refine zU ?_))
    refine RS.call rfl ((FnS.args (concs_cons (conc_arr (fun q hq => rfl)) (concs_cons (conc_arr (fun q hq => rfl)) (concs_cons (conc_arr (fun q hq => rfl)) rfl))) (spec_l01Times p a m v w K _ _ hb hW.ha h0 h1 hK hm hv hw)).mono ?_)
    rintro r H' n3 hn3 ⟨rfl, rfl⟩
    (repeat first|refine zG ?_|(refine LS.nilO ?_;intro nq hnq hltq;try refine zU ?_)|(refine MS.new ?_;intro bq hbq hbqf;try refine zU ?_)|(refine MS.nil ?_;intro nq hnq hltq;have hlq:=hltq _ _ (Hp.get_eq _ _ _);clear hltq;try refine zU ?_)|(refine LS.nilQ ?_;try with_reducible intro nq hnq;try refine zU ?_))
    exact ⟨.tup [.arr 8 (bys (ivX (isAlg p (a : Nat) u m ∧ isVec p (a : Nat) v ∧ isVec p (a : Nat) w) (pr p m v w a))), i64 (cd (isAlg p (a : Nat) u m ∧ isVec p (a : Nat) v ∧ isVec p (a : Nat) w))], H, conc_tup2 (conc_arr (fun q hq => by rw [ivX_t h3, Nat.zero_add])) (by rw [cd_true h3]), by exact zD, rfl, rfl⟩

/-- impl.MultiplyVectors -/
def ir7 : Cd := (.seq (.reg [⟨some 3,none,.box 31 (.t 0)⟩,⟨some 4,none,.box 25 (.t 1)⟩,⟨some 5,none,.box 25 (.t 2)⟩,⟨some 6,none,.new 25 [(8,(.int .u8 0))]⟩,⟨some 7,none,.mov (.c (.int .i64 0))⟩]) (.seq (.seq (.reg [⟨some 9,none,.ld (some 8) (.t 4)⟩,⟨some 10,none,.ld (some 8) (.t 5)⟩,⟨some 11,none,.bsl 25 2 8 [(8,(.int .u8 0))] [(0,8,(.t 9)),(8,8,(.t 10))]⟩,⟨some 12,none,.call 29 [(.t 3),(.t 11)]⟩,⟨some 8,none,.mov (.t 12)⟩]) (.seq (.reg [⟨some 13,none,.mov (.t 8)⟩,⟨some 14,none,.bin .neq (.t 13) (.c (.int .i64 0))⟩]) (.cond (.t 14) (.seq (.reg [⟨some 15,none,.build 8 [(8,(.int .u8 0))] []⟩,⟨some 16,none,.mov (.t 8)⟩,⟨none,none,.st 8 (.t 6) (.t 15)⟩,⟨some 7,none,.mov (.t 16)⟩]) .ret) .skip))) (.seq (.reg [⟨some 17,none,.ld (some 8) (.t 4)⟩,⟨some 18,none,.ld (some 8) (.t 5)⟩,⟨some 19,none,.call 30 [(.t 3),(.t 17),(.t 18)]⟩,⟨none,none,.st 8 (.t 6) (.t 19)⟩,⟨some 7,none,.mov (.c (.int .i64 0))⟩]) .ret)))

set_option maxRecDepth 100000 in
theorem tr7 : trFn Tryz.prog Tryz.f7 = some (20, ir7, [.cell (some 8) 6, .tmp 7]) := by kernel_rfl

theorem impl_MultiplyVectors (p n' : Int) (u m v w : Nat → Int) (K : Nat → SV) (H : Hp) (n : Nat) (h0 : K 0 = .int .i64 p) (h1 : K 1 = .int .i64 n')
    (hU : ∀ q, q < 8 → K (2 + q) = .int .u8 (u q)) (hK : ∀ q, q < 512 → K (10 + q) = .int .u8 (m q)) (hu : isBy 8 u) (hm : isBy 512 m) (hv : isBy 8 v) (hw : isBy 8 w) :
    FnS Tryz.prog 7 [.arr 522 K, .arr 8 (bys v), .arr 8 (bys w)] H n (fun r H' _ => r = .tup [.arr 8 (bys (ivX (isAlg p n' u m ∧ isVec p n' v ∧ isVec p n' w) (pr p m v w n'.toNat))), i64 (cd (isAlg p n' u m ∧ isVec p n' v ∧ isVec p n' w))] ∧ H' = H) := by
  refine FnS.of_body Tryz.func7 tr7 (by simp) (fun hf => ?_)
  dsimp only [argEnv]
  unfold ir7
  (repeat first|refine zG ?_|(refine LS.nilO ?_;intro nq hnq hltq;try refine zU ?_)|(refine MS.new ?_;intro bq hbq hbqf;try refine zU ?_)|(refine MS.nil ?_;intro nq hnq hltq;have hlq:=hltq _ _ (Hp.get_eq _ _ _);clear hltq;try refine zU ?_)|(refine LS.nilQ ?_;try with_reducible intro nq hnq;try refine zU ?_))
  refine RS.call rfl ((Algebra_code p n' u m n (.slc (n + 4) 0 2 2) 2 (by omega) (two v w) _ _ _ (by exact zH) rfl h0 h1 hU hK hu hm (.inr ⟨n + 4, 0, 2, _, rfl, by exact zH, by simp, (fun q hq => by
    (try dsimp only)
    rw [Nat.zero_add]
    unfold splice two
    by_cases e : q < 8
    · rw [if_neg (by omega), if_pos (by omega), if_pos e, Nat.sub_zero]; rfl
    · rw [if_pos (by omega), if_neg e]; rfl)⟩) (two_by hv hw)).mono ?_)
  rintro r H' n2 hn2 ⟨rfl, rfl⟩
  rw [cd_iff two_iff]
  (repeat first|refine zG ?_|(refine LS.nilO ?_;intro nq hnq hltq;try refine zU ?_)|(refine MS.new ?_;intro bq hbq hbqf;try refine zU ?_)|(refine MS.nil ?_;intro nq hnq hltq;have hlq:=hltq _ _ (Hp.get_eq _ _ _);clear hltq;try refine zU ?_)|(refine LS.nilQ ?_;try with_reducible intro nq hnq;try refine zU ?_))
  refine zI ?_ ?_<;>intro h2
  · have h3 : ¬(isAlg p n' u m ∧ isVec p n' v ∧ isVec p n' w) := fun q => h2 (cdz.2 q)
    (repeat first|refine zG ?_|(refine LS.nilO ?_;intro nq hnq hltq;try refine zU ?_)|(refine MS.new ?_;intro bq hbq hbqf;try refine zU ?_)|(refine MS.nil ?_;intro nq hnq hltq;have hlq:=hltq _ _ (Hp.get_eq _ _ _);clear hltq;try refine zU ?_)|(refine LS.nilQ ?_;try with_reducible intro nq hnq;try refine zU ?_))
    exact ⟨.tup [.arr 8 (bys (ivX (isAlg p n' u m ∧ isVec p n' v ∧ isVec p n' w) (pr p m v w n'.toNat))), i64 (cd (isAlg p n' u m ∧ isVec p n' v ∧ isVec p n' w))], H, conc_tup2 (conc_arr (fun q hq => by rw [ivX_f h3]; first | rfl | (simp only [Nat.zero_add]; rfl))) rfl, by exact zD, rfl, rfl⟩
  · have h3 : isAlg p n' u m ∧ isVec p n' v ∧ isVec p n' w := cdz.1 h2
    obtain ⟨a, rfl, hW⟩ := algW_of ⟨h3.1, h3.2.1⟩ hu hv
    rw [Int.toNat_natCast]
    have hb := isP_le hW.hp
    have ha := hW.ha
    (repeat first|refine zG ?_|(refine LS.nilO ?_;intro nq hnq hltq;try refine zU ?_)|(refine MS.new ?_;intro bq hbq hbqf;try refine zU ?_)|(refine MS.nil ?_;intro nq hnq hltq;have hlq:=hltq _ _ (Hp.get_eq _ _ _);clear hltq;try refine zU ?_)|(refine LS.nilQ ?_;try with_reducible intro nq hnq;try refine zU ?_))
    refine RS.call rfl ((FnS.args (concs_cons rfl (concs_cons (conc_arr (fun q hq => rfl)) (concs_cons (conc_arr (fun q hq => rfl)) rfl))) (Algebra_product p a m v w n _ _ _ hb hW.ha (by exact zH) rfl h0 h1 hK hm hv hw)).mono ?_)
    rintro r H' n3 hn3 ⟨rfl, rfl⟩
    (repeat first|refine zG ?_|(refine LS.nilO ?_;intro nq hnq hltq;try refine zU ?_)|(refine MS.new ?_;intro bq hbq hbqf;try refine zU ?_)|(refine MS.nil ?_;intro nq hnq hltq;have hlq:=hltq _ _ (Hp.get_eq _ _ _);clear hltq;try refine zU ?_)|(refine LS.nilQ ?_;try with_reducible intro nq hnq;try refine zU ?_))
    exact ⟨.tup [.arr 8 (bys (ivX (isAlg p (a : Nat) u m ∧ isVec p (a : Nat) v ∧ isVec p (a : Nat) w) (pr p m v w a))), i64 (cd (isAlg p (a : Nat) u m ∧ isVec p (a : Nat) v ∧ isVec p (a : Nat) w))], H, conc_tup2 (conc_arr (fun q hq => by rw [ivX_t h3, Nat.zero_add])) (by rw [cd_true h3]), by exact zD, rfl, rfl⟩

end Go.Proofs.YtgnphaopeplfbaaGreatDoor

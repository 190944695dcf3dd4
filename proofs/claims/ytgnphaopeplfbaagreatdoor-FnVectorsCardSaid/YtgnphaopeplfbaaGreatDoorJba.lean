/- A source from a code; what the reference draws. -/
import Derived.Test.YtgnphaopeplfbaaGreatDoorJav
import Derived.Test.YtgnphaopeplfbaaGreatDoorJaz
set_option linter.unusedSectionVars false
set_option linter.unusedVariables false
set_option linter.unusedSimpArgs false

namespace Go.V

theorem conc_tup3 {a b c a' b' c' : AV} (h1 : a.conc = a'.conc) (h2 : b.conc = b'.conc) (h3 : c.conc = c'.conc) : (AV.tup [a, b, c]).conc = (AV.tup [a', b', c']).conc := by
  simp only [AV.conc, AV.concs, h1, h2, h3]

end Go.V

namespace Go.Proofs.YtgnphaopeplfbaaGreatDoor

open Go.V

variable [BW]

set_option linter.unusedSimpArgs false

set_option linter.unusedVariables false

set_option maxHeartbeats 4000000

/-- spec.l01From -/
def ir24 : Cd := (.seq (.reg [⟨some 2,none,.mov (.c .nil)⟩]) (.seq (.reg [⟨some 5,none,.mov (.t 0)⟩,⟨some 6,none,.mov (.t 0)⟩,⟨some 7,none,.len (.t 6)⟩,⟨some 8,none,.cv .u64 (.t 7)⟩,⟨some 9,none,.bin .add (.c (.int .u64 11071)) (.t 8)⟩,⟨some 10,none,.build 3 [(1,.nils),(1,(.int .i64 0)),(1,(.int .u64 0))] [(0,1,(.t 5)),(2,1,(.t 9))]⟩,⟨some 11,none,.box 96 (.t 10)⟩,⟨some 3,none,.mov (.t 11)⟩]) (.seq (.seq (.reg [⟨some 4,none,.mov (.c (.int .i64 0))⟩]) (.block 0 (.loop (.seq (.seq (.reg [⟨some 12,none,.mov (.t 4)⟩,⟨some 13,none,.mov (.t 0)⟩,⟨some 14,none,.len (.t 13)⟩,⟨some 15,none,.bin .lss (.t 12) (.t 14)⟩,⟨some 16,none,.mov (.t 15)⟩,⟨some 17,(some (16,true)),.mov (.t 4)⟩,⟨some 18,(some (16,true)),.bin .lss (.t 17) (.c (.int .i64 4096))⟩,⟨some 19,none,.pick (.t 16) (.t 18) (.c (.bool false))⟩]) (.cond (.t 19) .skip (.exit 0))) (.seq (.block 1 (.drw true [15] [⟨some 22,none,.mov (.t 3)⟩,⟨some 23,none,.mov (.t 3)⟩,⟨some 24,none,.ck (.t 23)⟩,⟨some 25,none,.fa 2 (.t 24)⟩,⟨some 26,none,.ld none (.t 25)⟩,⟨some 27,none,.bin .mul (.t 26) (.c (.int .u64 1099511628211))⟩,⟨some 28,none,.mov (.t 0)⟩,⟨some 29,none,.mov (.t 4)⟩,⟨some 30,none,.isl 1 (.t 28) (.t 29)⟩,⟨some 31,none,.ld none (.t 30)⟩,⟨some 32,none,.cv .u64 (.t 31)⟩,⟨some 33,none,.bin .add (.t 27) (.t 32)⟩,⟨some 34,none,.bin .add (.t 33) (.c (.int .u64 47))⟩,⟨some 35,none,.ck (.t 22)⟩,⟨some 36,none,.fa 2 (.t 35)⟩,⟨none,none,.st 1 (.t 36) (.t 34)⟩])) (.reg [⟨some 20,none,.mov (.t 4)⟩,⟨some 21,none,.bin .add (.t 20) (.c (.int .i64 1))⟩,⟨some 4,none,.mov (.t 21)⟩])))))) (.seq (.reg [⟨some 37,none,.mov (.t 3)⟩,⟨some 2,none,.mov (.t 37)⟩]) .ret))))

set_option maxRecDepth 100000 in
theorem tr24 : trFn Tryz.prog Tryz.f24 = some (38, ir24, [.tmp 2]) := by kernel_rfl

theorem spec_l01From (m0 : Nat) (sv : SV) (len : Nat) (f : Nat → Int) (H : Hp) (n : Nat) (hR : RA m0 1 sv len f) (hfb : ∀ i, i < 1 * len → 0 ≤ f i ∧ f i ≤ 255) (hlen : len ≤ 4096) (hm : ∀ x, x < m0 → H.get x = none) (hmn : m0 ≤ n) :
    FnS Tryz.prog 24 [.s sv] H n (fun r H' n' => ∃ b, r = ptr b 0 ∧ n ≤ b ∧ b < n' ∧ SRQ H' b 96 sv len ∧ ∀ y, y < n → H'.get y = H.get y) := by
  refine FnS.of_body Tryz.func24 tr24 (by simp) (fun hf => ?_)
  dsimp only [argEnv]
  unfold ir24
  (repeat first|refine zG ?_|(refine LS.nilO ?_;intro nq hnq hltq;try refine zU ?_)|(refine MS.new ?_;intro bq hbq hbqf;try refine zU ?_)|(refine MS.nil ?_;intro nq hnq hltq;have hlq:=hltq _ _ (Hp.get_eq _ _ _);clear hltq;try refine zU ?_)|(refine LS.nilQ ?_;try with_reducible intro nq hnq;try refine zU ?_))
  refine RS.lenR1 (by exact rfl) hR ?_
  (repeat first|refine zG ?_|(refine LS.nilO ?_;intro nq hnq hltq;try refine zU ?_)|(refine MS.new ?_;intro bq hbq hbqf;try refine zU ?_)|(refine MS.nil ?_;intro nq hnq hltq;have hlq:=hltq _ _ (Hp.get_eq _ _ _);clear hltq;try refine zU ?_)|(refine LS.nilQ ?_;try with_reducible intro nq hnq;try refine zU ?_))
  refine RS.cvw (by exact rfl) ?_
  (repeat first|refine zG ?_|(refine LS.nilO ?_;intro nq hnq hltq;try refine zU ?_)|(refine MS.new ?_;intro bq hbq hbqf;try refine zU ?_)|(refine MS.nil ?_;intro nq hnq hltq;have hlq:=hltq _ _ (Hp.get_eq _ _ _);clear hltq;try refine zU ?_)|(refine LS.nilQ ?_;try with_reducible intro nq hnq;try refine zU ?_))
  refine RS.addw (by exact rfl) (by exact rfl) ?_
  generalize IntKind.u64.wrap (11071 + IntKind.u64.wrap (len : Int)) = hash
  (repeat first|refine zG ?_|(refine LS.nilO ?_;intro nq hnq hltq;try refine zU ?_)|(refine MS.new ?_;intro bq hbq hbqf;try refine zU ?_)|(refine MS.nil ?_;intro nq hnq hltq;have hlq:=hltq _ _ (Hp.get_eq _ _ _);clear hltq;try refine zU ?_)|(refine LS.nilQ ?_;try with_reducible intro nq hnq;try refine zU ?_))
  refine CS.iterJ len (fun i => [(4, i64 (i : Nat)), (3, ptr n 0), (0, .s sv)]) (fun i H1 n1 => ∃ K, H1.get n = some K ∧ K.size = 3 ∧ K.ty = 96 ∧ K.c 0 = sv ∧ K.c 1 = .int .i64 0 ∧ (∃ h, K.c 2 = .int .u64 h) ∧ (∀ y, y < n → H1.get y = H.get y) ∧ ∀ x, n1 ≤ x → H1.get x = none) (by (repeat first | exact trivial | refine And.intro rfl ?_)) ⟨_, Hp.get_eq _ _ _, rfl, rfl, rfl, rfl, ⟨_, rfl⟩, fun y hy => Hp.get_ne _ _ (by omega), fun x hx => by rw [Hp.get_ne _ _ (by omega)]; exact hf x (by omega)⟩ ?_
  rintro i n1 H1 hi hn1 ⟨K, gK, sK, tK, c0, c1, ⟨h0, c2⟩, lo1, hfr1⟩
  have c2' : K.c (0 + 2) = .int .u64 h0 := c2
  have hnl := getlt hfr1 gK
  (repeat first|refine zG ?_|(refine LS.nilO ?_;intro nq hnq hltq;try refine zU ?_)|(refine MS.new ?_;intro bq hbq hbqf;try refine zU ?_)|(refine MS.nil ?_;intro nq hnq hltq;have hlq:=hltq _ _ (Hp.get_eq _ _ _);clear hltq;try refine zU ?_)|(refine LS.nilQ ?_;try with_reducible intro nq hnq;try refine zU ?_))
  refine RS.lenR1 (by exact rfl) hR ?_
  (repeat first|refine zG ?_|(refine LS.nilO ?_;intro nq hnq hltq;try refine zU ?_)|(refine MS.new ?_;intro bq hbq hbqf;try refine zU ?_)|(refine MS.nil ?_;intro nq hnq hltq;have hlq:=hltq _ _ (Hp.get_eq _ _ _);clear hltq;try refine zU ?_)|(refine LS.nilQ ?_;try with_reducible intro nq hnq;try refine zU ?_))
  refine RS.sp (t := 16) rfl (fun h1 => ?_) (fun h1 => ?_) <;> (try simp only [tb_eq, tb_eqF, decide_eq_true_eq, decide_eq_false_iff_not, beq_iff_eq, bne_iff_ne, ne_eq, Decidable.not_not, beq_eq_false_iff_ne, bne_eq_false_iff_eq, Bool.not_eq_true', Bool.not_eq_false', Bool.not_eq_eq_eq_not, Bool.not_true, Bool.not_false] at h1)
  · have hi' : i < len := by omega
    obtain ⟨cb, co, cap, rfl, hcap, hcb, hcell⟩ : ∃ cb co cap, sv = .slc cb co len cap ∧ len ≤ cap ∧ cb < m0 ∧ ∀ i, i < 1 * len → BW.cell cb (co + i) = some (.int .u8 (f i)) := by
      rcases hR with ⟨_, q⟩ | ⟨b, o, cap, q⟩
      · omega
      · exact ⟨b, o, cap, q⟩
    have hfi := hfb (i * 1) (by omega)
    (first|first|refine zA ?_|(refine CS.tailL _ (List.Mem.head _) ?_;dsimp only[List.take,List.drop])|refine zC ?_|(refine zB ?_;try dsimp only[Ex.then,Ex.inBlock,putD,Env.put])|(refine CS.exit ?_;try dsimp only[Ex.then,Ex.inBlock,↓reduceIte,Nat.reduceEqDiff];try simp only[↓reduceIte])|(refine resK.nil ?_;dsimp only[resV])|(refine LS.nilO ?_;intro nq hnq hltq;try refine zU ?_)|(refine MS.new ?_;intro bq hbq hbqf;try refine zU ?_)|(refine MS.nil ?_;intro nq hnq hltq;have hlq:=hltq _ _ (Hp.get_eq _ _ _);clear hltq;try refine zU ?_)|(refine LS.nilQ ?_;try with_reducible intro nq hnq;try refine zU ?_))
    (first|first|refine zA ?_|(refine CS.tailL _ (List.Mem.head _) ?_;dsimp only[List.take,List.drop])|refine zC ?_|(refine zB ?_;try dsimp only[Ex.then,Ex.inBlock,putD,Env.put])|(refine CS.exit ?_;try dsimp only[Ex.then,Ex.inBlock,↓reduceIte,Nat.reduceEqDiff];try simp only[↓reduceIte])|(refine resK.nil ?_;dsimp only[resV])|(refine LS.nilO ?_;intro nq hnq hltq;try refine zU ?_)|(refine MS.new ?_;intro bq hbq hbqf;try refine zU ?_)|(refine MS.nil ?_;intro nq hnq hltq;have hlq:=hltq _ _ (Hp.get_eq _ _ _);clear hltq;try refine zU ?_)|(refine LS.nilQ ?_;try with_reducible intro nq hnq;try refine zU ?_))
    (first|first|refine zA ?_|(refine CS.tailL _ (List.Mem.head _) ?_;dsimp only[List.take,List.drop])|refine zC ?_|(refine zB ?_;try dsimp only[Ex.then,Ex.inBlock,putD,Env.put])|(refine CS.exit ?_;try dsimp only[Ex.then,Ex.inBlock,↓reduceIte,Nat.reduceEqDiff];try simp only[↓reduceIte])|(refine resK.nil ?_;dsimp only[resV])|(refine LS.nilO ?_;intro nq hnq hltq;try refine zU ?_)|(refine MS.new ?_;intro bq hbq hbqf;try refine zU ?_)|(refine MS.nil ?_;intro nq hnq hltq;have hlq:=hltq _ _ (Hp.get_eq _ _ _);clear hltq;try refine zU ?_)|(refine LS.nilQ ?_;try with_reducible intro nq hnq;try refine zU ?_))
    (first|first|refine zA ?_|(refine CS.tailL _ (List.Mem.head _) ?_;dsimp only[List.take,List.drop])|refine zC ?_|(refine zB ?_;try dsimp only[Ex.then,Ex.inBlock,putD,Env.put])|(refine CS.exit ?_;try dsimp only[Ex.then,Ex.inBlock,↓reduceIte,Nat.reduceEqDiff];try simp only[↓reduceIte])|(refine resK.nil ?_;dsimp only[resV])|(refine LS.nilO ?_;intro nq hnq hltq;try refine zU ?_)|(refine MS.new ?_;intro bq hbq hbqf;try refine zU ?_)|(refine MS.nil ?_;intro nq hnq hltq;have hlq:=hltq _ _ (Hp.get_eq _ _ _);clear hltq;try refine zU ?_)|(refine LS.nilQ ?_;try with_reducible intro nq hnq;try refine zU ?_))
    (first|first|refine zA ?_|(refine CS.tailL _ (List.Mem.head _) ?_;dsimp only[List.take,List.drop])|refine zC ?_|(refine zB ?_;try dsimp only[Ex.then,Ex.inBlock,putD,Env.put])|(refine CS.exit ?_;try dsimp only[Ex.then,Ex.inBlock,↓reduceIte,Nat.reduceEqDiff];try simp only[↓reduceIte])|(refine resK.nil ?_;dsimp only[resV])|(refine LS.nilO ?_;intro nq hnq hltq;try refine zU ?_)|(refine MS.new ?_;intro bq hbq hbqf;try refine zU ?_)|(refine MS.nil ?_;intro nq hnq hltq;have hlq:=hltq _ _ (Hp.get_eq _ _ _);clear hltq;try refine zU ?_)|(refine LS.nilQ ?_;try with_reducible intro nq hnq;try refine zU ?_))
    rw [show decide ((i : Int) < 4096) = true from decide_eq_true (by omega)]
    (repeat first|refine zG ?_|(refine LS.nilO ?_;intro nq hnq hltq;try refine zU ?_)|(refine MS.new ?_;intro bq hbq hbqf;try refine zU ?_)|(refine MS.nil ?_;intro nq hnq hltq;have hlq:=hltq _ _ (Hp.get_eq _ _ _);clear hltq;try refine zU ?_)|(refine LS.nilQ ?_;try with_reducible intro nq hnq;try refine zU ?_))
    refine RS.mulw (by exact rfl) (by exact rfl) ?_
    (repeat first|refine zG ?_|(refine LS.nilO ?_;intro nq hnq hltq;try refine zU ?_)|(refine MS.new ?_;intro bq hbq hbqf;try refine zU ?_)|(refine MS.nil ?_;intro nq hnq hltq;have hlq:=hltq _ _ (Hp.get_eq _ _ _);clear hltq;try refine zU ?_)|(refine LS.nilQ ?_;try with_reducible intro nq hnq;try refine zU ?_))
    refine RS.rd1 (q := i * 1) (z' := 1 * len) (f := f) (by exact rfl) (by rw [lo1 _ (by omega)]; exact hm _ hcb) hcell (by omega) ?_
    (repeat first|refine zG ?_|(refine LS.nilO ?_;intro nq hnq hltq;try refine zU ?_)|(refine MS.new ?_;intro bq hbq hbqf;try refine zU ?_)|(refine MS.nil ?_;intro nq hnq hltq;have hlq:=hltq _ _ (Hp.get_eq _ _ _);clear hltq;try refine zU ?_)|(refine LS.nilQ ?_;try with_reducible intro nq hnq;try refine zU ?_))
    refine RS.cvw (by exact rfl) ?_
    (repeat first|refine zG ?_|(refine LS.nilO ?_;intro nq hnq hltq;try refine zU ?_)|(refine MS.new ?_;intro bq hbq hbqf;try refine zU ?_)|(refine MS.nil ?_;intro nq hnq hltq;have hlq:=hltq _ _ (Hp.get_eq _ _ _);clear hltq;try refine zU ?_)|(refine LS.nilQ ?_;try with_reducible intro nq hnq;try refine zU ?_))
    refine RS.addw (by exact rfl) (by exact rfl) ?_
    (repeat first|refine zG ?_|(refine LS.nilO ?_;intro nq hnq hltq;try refine zU ?_)|(refine MS.new ?_;intro bq hbq hbqf;try refine zU ?_)|(refine MS.nil ?_;intro nq hnq hltq;have hlq:=hltq _ _ (Hp.get_eq _ _ _);clear hltq;try refine zU ?_)|(refine LS.nilQ ?_;try with_reducible intro nq hnq;try refine zU ?_))
    refine RS.addw (by exact rfl) (by exact rfl) ?_
    generalize IntKind.u64.wrap (IntKind.u64.wrap (IntKind.u64.wrap (h0 * 1099511628211) + IntKind.u64.wrap (f (i * 1))) + 47) = hash2
    (repeat first|refine zG ?_|(refine LS.nilO ?_;intro nq hnq hltq;try refine zU ?_)|(refine MS.new ?_;intro bq hbq hbqf;try refine zU ?_)|(refine MS.nil ?_;intro nq hnq hltq;have hlq:=hltq _ _ (Hp.get_eq _ _ _);clear hltq;try refine zU ?_)|(refine LS.nilQ ?_;try with_reducible intro nq hnq;try refine zU ?_))
    exact ⟨by omega, by (repeat first | exact trivial | refine And.intro rfl ?_), _, Drops.refl _ _, _, Hp.get_set_self _ gK, sK, tK, c0, c1, ⟨_, rfl⟩, fun y hy => by rw [Hp.get_set_other _ (by omega)]; exact lo1 y hy, fun x hx => by rw [Hp.get_set_other _ (by omega)]; exact hfr1 x (by omega)⟩
  · obtain rfl : i = len := by omega
    (repeat first|refine zG ?_|(refine LS.nilO ?_;intro nq hnq hltq;try refine zU ?_)|(refine MS.new ?_;intro bq hbq hbqf;try refine zU ?_)|(refine MS.nil ?_;intro nq hnq hltq;have hlq:=hltq _ _ (Hp.get_eq _ _ _);clear hltq;try refine zU ?_)|(refine LS.nilQ ?_;try with_reducible intro nq hnq;try refine zU ?_))
    exact ⟨ptr n 0, H1, rfl, Drops.refl _ _, n, rfl, by omega, by omega, ⟨K, gK, sK, tK, c0, ⟨0, c1, by omega⟩, h0, c2⟩, lo1⟩

/-- spec.DrawInverseOf -/
def ir14 : Cd := (.seq (.reg [⟨some 2,none,.new 31 [(2,(.int .i64 0)),(520,(.int .u8 0))]⟩,⟨some 3,none,.new 25 [(8,(.int .u8 0))]⟩]) (.seq (.reg [⟨some 6,none,.mov (.t 0)⟩,⟨some 7,none,.call 24 [(.t 6)]⟩,⟨some 4,none,.mov (.t 7)⟩]) (.seq (.reg [⟨some 8,none,.mov (.t 4)⟩,⟨some 9,none,.call 25 [(.t 8)]⟩,⟨some 5,none,.new 31 [(2,(.int .i64 0)),(520,(.int .u8 0))]⟩,⟨none,none,.st 522 (.t 5) (.t 9)⟩]) (.seq (.drwn (.seg 0 (.seg 1 (.seg 2 (.seg 3 (.seg 4 (.seg 5 .done)))))) [⟨some 10,none,.ld (some 522) (.t 5)⟩,⟨some 11,none,.mov (.t 4)⟩,⟨some 12,none,.ld (some 522) (.t 5)⟩,⟨some 13,none,.call 26 [(.t 11),(.t 12)]⟩,⟨none,none,.st 522 (.t 2) (.t 10)⟩,⟨none,none,.st 8 (.t 3) (.t 13)⟩]) .ret))))

set_option maxRecDepth 100000 in
theorem tr14 : trFn Tryz.prog Tryz.f14 = some (14, ir14, [.cell (some 522) 2, .cell (some 8) 3]) := by kernel_rfl

theorem spec_DrawInverseOf (m0 : Nat) (sv : SV) (len : Nat) (f : Nat → Int) (H : Hp) (n : Nat) (hR : RA m0 1 sv len f) (hfb : ∀ i, i < 1 * len → 0 ≤ f i ∧ f i ≤ 255) (hlen : len ≤ 4096) (hm : ∀ x, x < m0 → H.get x = none) (hmn : m0 ≤ n) :
    FnS Tryz.prog 14 [.s sv] H n (fun r H' _ => ∃ K p s v, r = .tup [.arr 522 K, .arr 8 (bys v)] ∧ ALB K p s ∧ -100 ≤ p ∧ p ≤ 255 ∧ -100 ≤ s ∧ s ≤ 255 ∧ isBy 8 v ∧ ∀ y, y < n → H'.get y = H.get y) := by
  refine FnS.of_body Tryz.func14 tr14 (by simp) (fun hf => ?_)
  dsimp only [argEnv]
  unfold ir14
  (repeat first|refine zG ?_|(refine LS.nilO ?_;intro nq hnq hltq;try refine zU ?_)|(refine MS.new ?_;intro bq hbq hbqf;try refine zU ?_)|(refine MS.nil ?_;intro nq hnq hltq;have hlq:=hltq _ _ (Hp.get_eq _ _ _);clear hltq;try refine zU ?_)|(refine LS.nilQ ?_;try with_reducible intro nq hnq;try refine zU ?_))
  refine RS.call rfl ((spec_l01From m0 sv len f _ _ hR hfb hlen (fun x hx => by rw [Hp.get_ne _ _ (by omega), Hp.get_ne _ _ (by omega)]; exact hm x hx) (by omega)).mono ?_)
  rintro r H1 n1 hn1 ⟨b, rfl, hb, hbn, hS1, lo1⟩
  have hbm : m0 ≤ b := by omega
  have lo1' : ∀ y, y < n → H1.get y = H.get y := fun y hy => by rw [lo1 y (by omega), Hp.get_ne _ _ (by omega), Hp.get_ne _ _ (by omega)]
  obtain ⟨ka, ga1, sa⟩ : ∃ k, H1.get n = some k ∧ k.size = 522 := ⟨_, by rw [lo1 n (by omega), Hp.get_ne _ _ (by omega)]; exact Hp.get_eq _ _ _, rfl⟩
  obtain ⟨kv, gv1, sv1⟩ : ∃ k, H1.get (n + 1) = some k ∧ k.size = 8 := ⟨_, by rw [lo1 (n + 1) (by omega)]; exact Hp.get_eq _ _ _, rfl⟩
  clear lo1
  (repeat first|refine zG ?_|(refine LS.nilO ?_;intro nq hnq hltq;try refine zU ?_)|(refine MS.new ?_;intro bq hbq hbqf;try refine zU ?_)|(refine MS.nil ?_;intro nq hnq hltq;have hlq:=hltq _ _ (Hp.get_eq _ _ _);clear hltq;try refine zU ?_)|(refine LS.nilQ ?_;try with_reducible intro nq hnq;try refine zU ?_))
  refine RS.call rfl ((spec_l01Spoil m0 sv len f b _ _ _ hR hfb hlen (fun x hx => by rw [lo1' x (by omega)]; exact hm x hx) hbm hS1).mono ?_)
  rintro r H2 n2 hn2 ⟨K, p, s, rfl, hK, hp1, hp2, hs1, hs2, hS2, lo2⟩
  have lo2' : ∀ y, y < n → H2.get y = H.get y := fun y hy => by rw [lo2 y (by omega) (by omega)]; exact lo1' y hy
  have ga2 : H2.get n = some ka := by rw [lo2 n (by omega) (by omega)]; exact ga1
  have gv2 : H2.get (n + 1) = some kv := by rw [lo2 (n + 1) (by omega) (by omega)]; exact gv1
  clear lo2
  (repeat first|refine zG ?_|(refine LS.nilO ?_;intro nq hnq hltq;try refine zU ?_)|(refine MS.new ?_;intro bq hbq hbqf;try refine zU ?_)|(refine MS.nil ?_;intro nq hnq hltq;have hlq:=hltq _ _ (Hp.get_eq _ _ _);clear hltq;try refine zU ?_)|(refine LS.nilQ ?_;try with_reducible intro nq hnq;try refine zU ?_))
  obtain ⟨H3, hH3⟩ : ∃ HN : Hp, HN = (n2, ⟨Zs.size [(2, SV.int .i64 0), (520, SV.int .u8 0)], K, 31⟩) :: H2 := ⟨_, rfl⟩
  rw [← hH3]
  have g3 : H3.get n2 = some ⟨Zs.size [(2, SV.int .i64 0), (520, SV.int .u8 0)], K, 31⟩ := by rw [hH3]; exact Hp.get_eq _ _ _
  have hb2 : b ≠ n2 := by omega
  have lo3 : ∀ y, y ≠ n2 → H3.get y = H2.get y := fun y hy => by rw [hH3, Hp.get_ne _ _ (fun q => hy q.symm)]
  have hS3 := hS2.keep (lo3 b hb2)
  have ga3 : H3.get n = some ka := by rw [lo3 n (by omega)]; exact ga2
  have gv3 : H3.get (n + 1) = some kv := by rw [lo3 (n + 1) (by omega)]; exact gv2
  have lo3' : ∀ y, y < n → H3.get y = H.get y := fun y hy => by rw [lo3 y (by omega)]; exact lo2' y hy
  have hEX := Ext.one g3
  clear hH3
  refine CS.ordN [(n2, ⟨Zs.size [(2, SV.int .i64 0), (520, SV.int .u8 0)], K, 31⟩)] hEX ?_
  refine FT.seg rfl (ST.ldn (c := K) (by exact rfl) (Hp.get_eq _ _ _) (by simp [Zs.size]) (by funext x; rw [Nat.zero_add]) ?_)
  refine FT.seg rfl (ST.mov (by exact rfl) ?_)
  refine FT.seg rfl (ST.ldn (c := K) (by exact rfl) (Hp.get_eq _ _ _) (by simp [Zs.size]) (by funext x; rw [Nat.zero_add]) ?_)
  refine FT.seg rfl (ST.call (R := fun r H' => ∃ v, r = .arr 8 (bys v) ∧ isBy 8 v ∧ ∀ y, y < n2 + 1 → y ≠ b → H'.get y = H3.get y) rfl (fun n' h1 h2 => (spec_l01Any m0 sv len f b _ p s K H3 n' hR hfb hlen (fun x hx => by rw [lo3' x (by omega)]; exact hm x hx) hbm hS3 hK).mono (by
    rintro r H' n'' hn'' ⟨v, rfl, hv, -, q⟩
    exact ⟨⟨v, rfl, hv, fun y hy hyb => q y (by omega) hyb⟩, by
      have := Ext.one (H := H') (b := n2) (k := ⟨Zs.size [(2, SV.int .i64 0), (520, SV.int .u8 0)], K, 31⟩) (by rw [q n2 (by omega) (fun z => hb2 z.symm)]; exact g3)
      exact this⟩)) ?_)
  rintro r H4 ⟨v, rfl, hv, lo4⟩ hE4
  have ga4 : H4.get n = some ka := by rw [lo4 n (by omega) (by omega)]; exact ga3
  have gv4 : H4.get (n + 1) = some kv := by rw [lo4 (n + 1) (by omega) (by omega)]; exact gv3
  refine FT.seg rfl (ST.sta (c := K) (by exact rfl) (by exact rfl) ga4 (by omega) (by rw [Hp.get_ne _ _ (by omega)]; rfl) hE4 ?_)
  have gv5 : (H4.set n (splice ka.c 0 522 K)).get (n + 1) = some kv := by rw [Hp.get_set_other _ (by omega)]; exact gv4
  have hE5 := hE4.setF (splice ka.c 0 522 K) (show Hp.get [(n2, (⟨Zs.size [(2, SV.int .i64 0), (520, SV.int .u8 0)], K, 31⟩ : Blk))] n = none by rw [Hp.get_ne _ _ (by omega)]; rfl)
  refine FT.seg rfl (ST.sta (c := bys v) (by exact rfl) (by exact rfl) gv5 (by omega) (by rw [Hp.get_ne _ _ (by omega)]; rfl) hE5 ?_)
  refine FT.done ?_
  intro n5 hn5 hlt5
  dsimp only [Ex.then, Ex.inBlock, putD, Env.put]
  have za : ((H4.set n (splice ka.c 0 522 K)).set (n + 1) (splice kv.c 0 8 (bys v))).get n = some ⟨ka.size, splice ka.c 0 522 K, ka.ty⟩ := by rw [Hp.get_set_other _ (by omega)]; exact Hp.get_set_self _ ga4
  have zv : ((H4.set n (splice ka.c 0 522 K)).set (n + 1) (splice kv.c 0 8 (bys v))).get (n + 1) = some ⟨kv.size, splice kv.c 0 8 (bys v), kv.ty⟩ := Hp.get_set_self _ gv5
  (repeat first|refine zG ?_|(refine LS.nilO ?_;intro nq hnq hltq;try refine zU ?_)|(refine MS.new ?_;intro bq hbq hbqf;try refine zU ?_)|(refine MS.nil ?_;intro nq hnq hltq;have hlq:=hltq _ _ (Hp.get_eq _ _ _);clear hltq;try refine zU ?_)|(refine LS.nilQ ?_;try with_reducible intro nq hnq;try refine zU ?_))
  exact ⟨.tup [.arr 522 K, .arr 8 (bys v)], _, conc_tup2 (conc_arr (fun q hq => by rw [Nat.zero_add q]; unfold splice; rw [if_pos (by omega), Nat.sub_zero])) (conc_arr (fun q hq => by rw [Nat.zero_add q]; unfold splice; rw [if_pos (by omega), Nat.sub_zero])), Drops.refl _ _, K, p, s, v, rfl, hK, hp1, hp2, hs1, hs2, hv, fun y hy => by rw [Hp.get_set_other _ (by omega), Hp.get_set_other _ (by omega), lo4 y (by omega) (by omega)]; exact lo3' y hy⟩

/-- spec.DrawLeftTable -/
def ir20 : Cd := (.seq (.reg [⟨some 2,none,.new 31 [(2,(.int .i64 0)),(520,(.int .u8 0))]⟩,⟨some 3,none,.new 25 [(8,(.int .u8 0))]⟩]) (.seq (.reg [⟨some 6,none,.mov (.t 0)⟩,⟨some 7,none,.call 24 [(.t 6)]⟩,⟨some 4,none,.mov (.t 7)⟩]) (.seq (.reg [⟨some 8,none,.mov (.t 4)⟩,⟨some 9,none,.call 25 [(.t 8)]⟩,⟨some 5,none,.new 31 [(2,(.int .i64 0)),(520,(.int .u8 0))]⟩,⟨none,none,.st 522 (.t 5) (.t 9)⟩]) (.seq (.drwn (.seg 0 (.seg 1 (.seg 2 (.seg 3 (.seg 4 (.seg 5 .done)))))) [⟨some 10,none,.ld (some 522) (.t 5)⟩,⟨some 11,none,.mov (.t 4)⟩,⟨some 12,none,.ld (some 522) (.t 5)⟩,⟨some 13,none,.call 26 [(.t 11),(.t 12)]⟩,⟨none,none,.st 522 (.t 2) (.t 10)⟩,⟨none,none,.st 8 (.t 3) (.t 13)⟩]) .ret))))

set_option maxRecDepth 100000 in
theorem tr20 : trFn Tryz.prog Tryz.f20 = some (14, ir20, [.cell (some 522) 2, .cell (some 8) 3]) := by kernel_rfl

theorem spec_DrawLeftTable (m0 : Nat) (sv : SV) (len : Nat) (f : Nat → Int) (H : Hp) (n : Nat) (hR : RA m0 1 sv len f) (hfb : ∀ i, i < 1 * len → 0 ≤ f i ∧ f i ≤ 255) (hlen : len ≤ 4096) (hm : ∀ x, x < m0 → H.get x = none) (hmn : m0 ≤ n) :
    FnS Tryz.prog 20 [.s sv] H n (fun r H' _ => ∃ K p s v, r = .tup [.arr 522 K, .arr 8 (bys v)] ∧ ALB K p s ∧ -100 ≤ p ∧ p ≤ 255 ∧ -100 ≤ s ∧ s ≤ 255 ∧ isBy 8 v ∧ ∀ y, y < n → H'.get y = H.get y) := by
  refine FnS.of_body Tryz.func20 tr20 (by simp) (fun hf => ?_)
  dsimp only [argEnv]
  unfold ir20
  (repeat first|refine zG ?_|(refine LS.nilO ?_;intro nq hnq hltq;try refine zU ?_)|(refine MS.new ?_;intro bq hbq hbqf;try refine zU ?_)|(refine MS.nil ?_;intro nq hnq hltq;have hlq:=hltq _ _ (Hp.get_eq _ _ _);clear hltq;try refine zU ?_)|(refine LS.nilQ ?_;try with_reducible intro nq hnq;try refine zU ?_))
  refine RS.call rfl ((spec_l01From m0 sv len f _ _ hR hfb hlen (fun x hx => by rw [Hp.get_ne _ _ (by omega), Hp.get_ne _ _ (by omega)]; exact hm x hx) (by omega)).mono ?_)
  rintro r H1 n1 hn1 ⟨b, rfl, hb, hbn, hS1, lo1⟩
  have hbm : m0 ≤ b := by omega
  have lo1' : ∀ y, y < n → H1.get y = H.get y := fun y hy => by rw [lo1 y (by omega), Hp.get_ne _ _ (by omega), Hp.get_ne _ _ (by omega)]
  obtain ⟨ka, ga1, sa⟩ : ∃ k, H1.get n = some k ∧ k.size = 522 := ⟨_, by rw [lo1 n (by omega), Hp.get_ne _ _ (by omega)]; exact Hp.get_eq _ _ _, rfl⟩
  obtain ⟨kv, gv1, sv1⟩ : ∃ k, H1.get (n + 1) = some k ∧ k.size = 8 := ⟨_, by rw [lo1 (n + 1) (by omega)]; exact Hp.get_eq _ _ _, rfl⟩
  clear lo1
  (repeat first|refine zG ?_|(refine LS.nilO ?_;intro nq hnq hltq;try refine zU ?_)|(refine MS.new ?_;intro bq hbq hbqf;try refine zU ?_)|(refine MS.nil ?_;intro nq hnq hltq;have hlq:=hltq _ _ (Hp.get_eq _ _ _);clear hltq;try refine zU ?_)|(refine LS.nilQ ?_;try with_reducible intro nq hnq;try refine zU ?_))
  refine RS.call rfl ((spec_l01Spoil m0 sv len f b _ _ _ hR hfb hlen (fun x hx => by rw [lo1' x (by omega)]; exact hm x hx) hbm hS1).mono ?_)
  rintro r H2 n2 hn2 ⟨K, p, s, rfl, hK, hp1, hp2, hs1, hs2, hS2, lo2⟩
  have lo2' : ∀ y, y < n → H2.get y = H.get y := fun y hy => by rw [lo2 y (by omega) (by omega)]; exact lo1' y hy
  have ga2 : H2.get n = some ka := by rw [lo2 n (by omega) (by omega)]; exact ga1
  have gv2 : H2.get (n + 1) = some kv := by rw [lo2 (n + 1) (by omega) (by omega)]; exact gv1
  clear lo2
  (repeat first|refine zG ?_|(refine LS.nilO ?_;intro nq hnq hltq;try refine zU ?_)|(refine MS.new ?_;intro bq hbq hbqf;try refine zU ?_)|(refine MS.nil ?_;intro nq hnq hltq;have hlq:=hltq _ _ (Hp.get_eq _ _ _);clear hltq;try refine zU ?_)|(refine LS.nilQ ?_;try with_reducible intro nq hnq;try refine zU ?_))
  obtain ⟨H3, hH3⟩ : ∃ HN : Hp, HN = (n2, ⟨Zs.size [(2, SV.int .i64 0), (520, SV.int .u8 0)], K, 31⟩) :: H2 := ⟨_, rfl⟩
  rw [← hH3]
  have g3 : H3.get n2 = some ⟨Zs.size [(2, SV.int .i64 0), (520, SV.int .u8 0)], K, 31⟩ := by rw [hH3]; exact Hp.get_eq _ _ _
  have hb2 : b ≠ n2 := by omega
  have lo3 : ∀ y, y ≠ n2 → H3.get y = H2.get y := fun y hy => by rw [hH3, Hp.get_ne _ _ (fun q => hy q.symm)]
  have hS3 := hS2.keep (lo3 b hb2)
  have ga3 : H3.get n = some ka := by rw [lo3 n (by omega)]; exact ga2
  have gv3 : H3.get (n + 1) = some kv := by rw [lo3 (n + 1) (by omega)]; exact gv2
  have lo3' : ∀ y, y < n → H3.get y = H.get y := fun y hy => by rw [lo3 y (by omega)]; exact lo2' y hy
  have hEX := Ext.one g3
  clear hH3
  refine CS.ordN [(n2, ⟨Zs.size [(2, SV.int .i64 0), (520, SV.int .u8 0)], K, 31⟩)] hEX ?_
  refine FT.seg rfl (ST.ldn (c := K) (by exact rfl) (Hp.get_eq _ _ _) (by simp [Zs.size]) (by funext x; rw [Nat.zero_add]) ?_)
  refine FT.seg rfl (ST.mov (by exact rfl) ?_)
  refine FT.seg rfl (ST.ldn (c := K) (by exact rfl) (Hp.get_eq _ _ _) (by simp [Zs.size]) (by funext x; rw [Nat.zero_add]) ?_)
  refine FT.seg rfl (ST.call (R := fun r H' => ∃ v, r = .arr 8 (bys v) ∧ isBy 8 v ∧ ∀ y, y < n2 + 1 → y ≠ b → H'.get y = H3.get y) rfl (fun n' h1 h2 => (spec_l01Any m0 sv len f b _ p s K H3 n' hR hfb hlen (fun x hx => by rw [lo3' x (by omega)]; exact hm x hx) hbm hS3 hK).mono (by
    rintro r H' n'' hn'' ⟨v, rfl, hv, -, q⟩
    exact ⟨⟨v, rfl, hv, fun y hy hyb => q y (by omega) hyb⟩, by
      have := Ext.one (H := H') (b := n2) (k := ⟨Zs.size [(2, SV.int .i64 0), (520, SV.int .u8 0)], K, 31⟩) (by rw [q n2 (by omega) (fun z => hb2 z.symm)]; exact g3)
      exact this⟩)) ?_)
  rintro r H4 ⟨v, rfl, hv, lo4⟩ hE4
  have ga4 : H4.get n = some ka := by rw [lo4 n (by omega) (by omega)]; exact ga3
  have gv4 : H4.get (n + 1) = some kv := by rw [lo4 (n + 1) (by omega) (by omega)]; exact gv3
  refine FT.seg rfl (ST.sta (c := K) (by exact rfl) (by exact rfl) ga4 (by omega) (by rw [Hp.get_ne _ _ (by omega)]; rfl) hE4 ?_)
  have gv5 : (H4.set n (splice ka.c 0 522 K)).get (n + 1) = some kv := by rw [Hp.get_set_other _ (by omega)]; exact gv4
  have hE5 := hE4.setF (splice ka.c 0 522 K) (show Hp.get [(n2, (⟨Zs.size [(2, SV.int .i64 0), (520, SV.int .u8 0)], K, 31⟩ : Blk))] n = none by rw [Hp.get_ne _ _ (by omega)]; rfl)
  refine FT.seg rfl (ST.sta (c := bys v) (by exact rfl) (by exact rfl) gv5 (by omega) (by rw [Hp.get_ne _ _ (by omega)]; rfl) hE5 ?_)
  refine FT.done ?_
  intro n5 hn5 hlt5
  dsimp only [Ex.then, Ex.inBlock, putD, Env.put]
  have za : ((H4.set n (splice ka.c 0 522 K)).set (n + 1) (splice kv.c 0 8 (bys v))).get n = some ⟨ka.size, splice ka.c 0 522 K, ka.ty⟩ := by rw [Hp.get_set_other _ (by omega)]; exact Hp.get_set_self _ ga4
  have zv : ((H4.set n (splice ka.c 0 522 K)).set (n + 1) (splice kv.c 0 8 (bys v))).get (n + 1) = some ⟨kv.size, splice kv.c 0 8 (bys v), kv.ty⟩ := Hp.get_set_self _ gv5
  (repeat first|refine zG ?_|(refine LS.nilO ?_;intro nq hnq hltq;try refine zU ?_)|(refine MS.new ?_;intro bq hbq hbqf;try refine zU ?_)|(refine MS.nil ?_;intro nq hnq hltq;have hlq:=hltq _ _ (Hp.get_eq _ _ _);clear hltq;try refine zU ?_)|(refine LS.nilQ ?_;try with_reducible intro nq hnq;try refine zU ?_))
  exact ⟨.tup [.arr 522 K, .arr 8 (bys v)], _, conc_tup2 (conc_arr (fun q hq => by rw [Nat.zero_add q]; unfold splice; rw [if_pos (by omega), Nat.sub_zero])) (conc_arr (fun q hq => by rw [Nat.zero_add q]; unfold splice; rw [if_pos (by omega), Nat.sub_zero])), Drops.refl _ _, K, p, s, v, rfl, hK, hp1, hp2, hs1, hs2, hv, fun y hy => by rw [Hp.get_set_other _ (by omega), Hp.get_set_other _ (by omega), lo4 y (by omega) (by omega)]; exact lo3' y hy⟩

/-- spec.DrawMultiplyVectors -/
def ir5 : Cd := (.seq (.reg [⟨some 2,none,.new 31 [(2,(.int .i64 0)),(520,(.int .u8 0))]⟩,⟨some 3,none,.new 25 [(8,(.int .u8 0))]⟩,⟨some 4,none,.new 25 [(8,(.int .u8 0))]⟩]) (.seq (.reg [⟨some 7,none,.mov (.t 0)⟩,⟨some 8,none,.call 24 [(.t 7)]⟩,⟨some 5,none,.mov (.t 8)⟩]) (.seq (.reg [⟨some 9,none,.mov (.t 5)⟩,⟨some 10,none,.call 25 [(.t 9)]⟩,⟨some 6,none,.new 31 [(2,(.int .i64 0)),(520,(.int .u8 0))]⟩,⟨none,none,.st 522 (.t 6) (.t 10)⟩]) (.seq (.drwn (.seg 0 (.seg 1 (.seg 2 (.seg 4 (.seg 5 (.seg 3 (.seg 6 (.seg 7 (.seg 8 (.seg 9 .done)))))))))) [⟨some 11,none,.ld (some 522) (.t 6)⟩,⟨some 12,none,.mov (.t 5)⟩,⟨some 13,none,.ld (some 522) (.t 6)⟩,⟨some 14,none,.call 26 [(.t 12),(.t 13)]⟩,⟨some 15,none,.mov (.t 5)⟩,⟨some 16,none,.ld (some 522) (.t 6)⟩,⟨some 17,none,.call 26 [(.t 15),(.t 16)]⟩,⟨none,none,.st 522 (.t 2) (.t 11)⟩,⟨none,none,.st 8 (.t 3) (.t 14)⟩,⟨none,none,.st 8 (.t 4) (.t 17)⟩]) .ret))))

set_option maxRecDepth 100000 in
theorem tr5 : trFn Tryz.prog Tryz.f5 = some (18, ir5, [.cell (some 522) 2, .cell (some 8) 3, .cell (some 8) 4]) := by kernel_rfl

theorem spec_DrawMultiplyVectors (m0 : Nat) (sv : SV) (len : Nat) (f : Nat → Int) (H : Hp) (n : Nat) (hR : RA m0 1 sv len f) (hfb : ∀ i, i < 1 * len → 0 ≤ f i ∧ f i ≤ 255) (hlen : len ≤ 4096) (hm : ∀ x, x < m0 → H.get x = none) (hmn : m0 ≤ n) :
    FnS Tryz.prog 5 [.s sv] H n (fun r H' _ => ∃ K p s v w, r = .tup [.arr 522 K, .arr 8 (bys v), .arr 8 (bys w)] ∧ ALB K p s ∧ -100 ≤ p ∧ p ≤ 255 ∧ -100 ≤ s ∧ s ≤ 255 ∧ isBy 8 v ∧ isBy 8 w ∧ ∀ y, y < n → H'.get y = H.get y) := by
  refine FnS.of_body Tryz.func5 tr5 (by simp) (fun hf => ?_)
  dsimp only [argEnv]
  unfold ir5
  (repeat first|refine zG ?_|(refine LS.nilO ?_;intro nq hnq hltq;try refine zU ?_)|(refine MS.new ?_;intro bq hbq hbqf;try refine zU ?_)|(refine MS.nil ?_;intro nq hnq hltq;have hlq:=hltq _ _ (Hp.get_eq _ _ _);clear hltq;try refine zU ?_)|(refine LS.nilQ ?_;try with_reducible intro nq hnq;try refine zU ?_))
  refine RS.call rfl ((spec_l01From m0 sv len f _ _ hR hfb hlen (fun x hx => by rw [Hp.get_ne _ _ (by omega), Hp.get_ne _ _ (by omega), Hp.get_ne _ _ (by omega)]; exact hm x hx) (by omega)).mono ?_)
  rintro r H1 n1 hn1 ⟨b, rfl, hb, hbn, hS1, lo1⟩
  have hbm : m0 ≤ b := by omega
  have lo1' : ∀ y, y < n → H1.get y = H.get y := fun y hy => by rw [lo1 y (by omega), Hp.get_ne _ _ (by omega), Hp.get_ne _ _ (by omega), Hp.get_ne _ _ (by omega)]
  obtain ⟨ka, ga1, sa⟩ : ∃ k, H1.get n = some k ∧ k.size = 522 := ⟨_, by rw [lo1 n (by omega), Hp.get_ne _ _ (by omega), Hp.get_ne _ _ (by omega)]; exact Hp.get_eq _ _ _, rfl⟩
  obtain ⟨kv, gv1, sv1⟩ : ∃ k, H1.get (n + 1) = some k ∧ k.size = 8 := ⟨_, by rw [lo1 (n + 1) (by omega), Hp.get_ne _ _ (by omega)]; exact Hp.get_eq _ _ _, rfl⟩
  obtain ⟨kw, gw1, sw1⟩ : ∃ k, H1.get (n + 2) = some k ∧ k.size = 8 := ⟨_, by rw [lo1 (n + 2) (by omega)]; exact Hp.get_eq _ _ _, rfl⟩
  clear lo1
  (repeat first|refine zG ?_|(refine LS.nilO ?_;intro nq hnq hltq;try refine zU ?_)|(refine MS.new ?_;intro bq hbq hbqf;try refine zU ?_)|(refine MS.nil ?_;intro nq hnq hltq;have hlq:=hltq _ _ (Hp.get_eq _ _ _);clear hltq;try refine zU ?_)|(refine LS.nilQ ?_;try with_reducible intro nq hnq;try refine zU ?_))
  refine RS.call rfl ((spec_l01Spoil m0 sv len f b _ _ _ hR hfb hlen (fun x hx => by rw [lo1' x (by omega)]; exact hm x hx) hbm hS1).mono ?_)
  rintro r H2 n2 hn2 ⟨K, p, s, rfl, hK, hp1, hp2, hs1, hs2, hS2, lo2⟩
  have lo2' : ∀ y, y < n → H2.get y = H.get y := fun y hy => by rw [lo2 y (by omega) (by omega)]; exact lo1' y hy
  have ga2 : H2.get n = some ka := by rw [lo2 n (by omega) (by omega)]; exact ga1
  have gv2 : H2.get (n + 1) = some kv := by rw [lo2 (n + 1) (by omega) (by omega)]; exact gv1
  have gw2 : H2.get (n + 2) = some kw := by rw [lo2 (n + 2) (by omega) (by omega)]; exact gw1
  clear lo2
  (repeat first|refine zG ?_|(refine LS.nilO ?_;intro nq hnq hltq;try refine zU ?_)|(refine MS.new ?_;intro bq hbq hbqf;try refine zU ?_)|(refine MS.nil ?_;intro nq hnq hltq;have hlq:=hltq _ _ (Hp.get_eq _ _ _);clear hltq;try refine zU ?_)|(refine LS.nilQ ?_;try with_reducible intro nq hnq;try refine zU ?_))
  obtain ⟨H3, hH3⟩ : ∃ HN : Hp, HN = (n2, ⟨Zs.size [(2, SV.int .i64 0), (520, SV.int .u8 0)], K, 31⟩) :: H2 := ⟨_, rfl⟩
  rw [← hH3]
  have g3 : H3.get n2 = some ⟨Zs.size [(2, SV.int .i64 0), (520, SV.int .u8 0)], K, 31⟩ := by rw [hH3]; exact Hp.get_eq _ _ _
  have hb2 : b ≠ n2 := by omega
  have lo3 : ∀ y, y ≠ n2 → H3.get y = H2.get y := fun y hy => by rw [hH3, Hp.get_ne _ _ (fun q => hy q.symm)]
  have hS3 := hS2.keep (lo3 b hb2)
  have ga3 : H3.get n = some ka := by rw [lo3 n (by omega)]; exact ga2
  have gv3 : H3.get (n + 1) = some kv := by rw [lo3 (n + 1) (by omega)]; exact gv2
  have gw3 : H3.get (n + 2) = some kw := by rw [lo3 (n + 2) (by omega)]; exact gw2
  have lo3' : ∀ y, y < n → H3.get y = H.get y := fun y hy => by rw [lo3 y (by omega)]; exact lo2' y hy
  have hEX := Ext.one g3
  clear hH3
  refine CS.ordN [(n2, ⟨Zs.size [(2, SV.int .i64 0), (520, SV.int .u8 0)], K, 31⟩)] hEX ?_
  refine FT.seg rfl (ST.ldn (c := K) (by exact rfl) (Hp.get_eq _ _ _) (by simp [Zs.size]) (by funext x; rw [Nat.zero_add]) ?_)
  refine FT.seg rfl (ST.mov (by exact rfl) ?_)
  refine FT.seg rfl (ST.ldn (c := K) (by exact rfl) (Hp.get_eq _ _ _) (by simp [Zs.size]) (by funext x; rw [Nat.zero_add]) ?_)
  refine FT.seg rfl (ST.mov (by exact rfl) ?_)
  refine FT.seg rfl (ST.ldn (c := K) (by exact rfl) (Hp.get_eq _ _ _) (by simp [Zs.size]) (by funext x; rw [Nat.zero_add]) ?_)
  refine FT.seg rfl (ST.call (R := fun r H' => ∃ v, r = .arr 8 (bys v) ∧ isBy 8 v ∧ SRQ H' b 96 sv len ∧ ∀ y, y < n2 + 1 → y ≠ b → H'.get y = H3.get y) rfl (fun n' h1 h2 => (spec_l01Any m0 sv len f b _ p s K H3 n' hR hfb hlen (fun x hx => by rw [lo3' x (by omega)]; exact hm x hx) hbm hS3 hK).mono (by
    rintro r H' n'' hn'' ⟨v, rfl, hv, qS, q⟩
    exact ⟨⟨v, rfl, hv, qS, fun y hy hyb => q y (by omega) hyb⟩, by
      have := Ext.one (H := H') (b := n2) (k := ⟨Zs.size [(2, SV.int .i64 0), (520, SV.int .u8 0)], K, 31⟩) (by rw [q n2 (by omega) (fun z => hb2 z.symm)]; exact g3)
      exact this⟩)) ?_)
  rintro r H4 ⟨v, rfl, hv, hS4, lo4⟩ hE4
  have ga4 : H4.get n = some ka := by rw [lo4 n (by omega) (by omega)]; exact ga3
  have gv4 : H4.get (n + 1) = some kv := by rw [lo4 (n + 1) (by omega) (by omega)]; exact gv3
  have gw4 : H4.get (n + 2) = some kw := by rw [lo4 (n + 2) (by omega) (by omega)]; exact gw3
  have g4 : H4.get n2 = some ⟨Zs.size [(2, SV.int .i64 0), (520, SV.int .u8 0)], K, 31⟩ := by rw [lo4 n2 (by omega) (fun z => hb2 z.symm)]; exact g3
  have lo4' : ∀ y, y < n → H4.get y = H.get y := fun y hy => by rw [lo4 y (by omega) (by omega)]; exact lo3' y hy
  refine FT.seg rfl (ST.call (R := fun r H' => ∃ v, r = .arr 8 (bys v) ∧ isBy 8 v ∧ SRQ H' b 96 sv len ∧ ∀ y, y < n2 + 1 → y ≠ b → H'.get y = H4.get y) rfl (fun n' h1 h2 => (spec_l01Any m0 sv len f b _ p s K H4 n' hR hfb hlen (fun x hx => by rw [lo4' x (by omega)]; exact hm x hx) hbm hS4 hK).mono (by
    rintro r H' n'' hn'' ⟨v, rfl, hv, qS, q⟩
    exact ⟨⟨v, rfl, hv, qS, fun y hy hyb => q y (by omega) hyb⟩, by
      have := Ext.one (H := H') (b := n2) (k := ⟨Zs.size [(2, SV.int .i64 0), (520, SV.int .u8 0)], K, 31⟩) (by rw [q n2 (by omega) (fun z => hb2 z.symm)]; exact g4)
      exact this⟩)) ?_)
  rintro r H5 ⟨w, rfl, hw, hS5, lo5⟩ hE5
  have ga5 : H5.get n = some ka := by rw [lo5 n (by omega) (by omega)]; exact ga4
  have gv5 : H5.get (n + 1) = some kv := by rw [lo5 (n + 1) (by omega) (by omega)]; exact gv4
  have gw5 : H5.get (n + 2) = some kw := by rw [lo5 (n + 2) (by omega) (by omega)]; exact gw4
  have g5 : H5.get n2 = some ⟨Zs.size [(2, SV.int .i64 0), (520, SV.int .u8 0)], K, 31⟩ := by rw [lo5 n2 (by omega) (fun z => hb2 z.symm)]; exact g4
  have lo5' : ∀ y, y < n → H5.get y = H.get y := fun y hy => by rw [lo5 y (by omega) (by omega)]; exact lo4' y hy
  refine FT.seg rfl (ST.sta (c := K) (by exact rfl) (by exact rfl) ga5 (by omega) (by rw [Hp.get_ne _ _ (by omega)]; rfl) hE5 ?_)
  have gv6 : (H5.set n (splice ka.c 0 522 K)).get (n + 1) = some kv := by rw [Hp.get_set_other _ (by omega)]; exact gv5
  have hE6 := hE5.setF (splice ka.c 0 522 K) (show Hp.get [(n2, (⟨Zs.size [(2, SV.int .i64 0), (520, SV.int .u8 0)], K, 31⟩ : Blk))] n = none by rw [Hp.get_ne _ _ (by omega)]; rfl)
  refine FT.seg rfl (ST.sta (c := bys v) (by exact rfl) (by exact rfl) gv6 (by omega) (by rw [Hp.get_ne _ _ (by omega)]; rfl) hE6 ?_)
  have gw7 : ((H5.set n (splice ka.c 0 522 K)).set (n + 1) (splice kv.c 0 8 (bys v))).get (n + 2) = some kw := by rw [Hp.get_set_other _ (by omega), Hp.get_set_other _ (by omega)]; exact gw5
  have hE7 := hE6.setF (splice kv.c 0 8 (bys v)) (show Hp.get [(n2, (⟨Zs.size [(2, SV.int .i64 0), (520, SV.int .u8 0)], K, 31⟩ : Blk))] (n + 1) = none by rw [Hp.get_ne _ _ (by omega)]; rfl)
  refine FT.seg rfl (ST.sta (c := bys w) (by exact rfl) (by exact rfl) gw7 (by omega) (by rw [Hp.get_ne _ _ (by omega)]; rfl) hE7 ?_)
  refine FT.done ?_
  intro n8 hn8 hlt8
  dsimp only [Ex.then, Ex.inBlock, putD, Env.put]
  have za : (((H5.set n (splice ka.c 0 522 K)).set (n + 1) (splice kv.c 0 8 (bys v))).set (n + 2) (splice kw.c 0 8 (bys w))).get n = some ⟨ka.size, splice ka.c 0 522 K, ka.ty⟩ := by rw [Hp.get_set_other _ (by omega), Hp.get_set_other _ (by omega)]; exact Hp.get_set_self _ ga5
  have zv : (((H5.set n (splice ka.c 0 522 K)).set (n + 1) (splice kv.c 0 8 (bys v))).set (n + 2) (splice kw.c 0 8 (bys w))).get (n + 1) = some ⟨kv.size, splice kv.c 0 8 (bys v), kv.ty⟩ := by rw [Hp.get_set_other _ (by omega)]; exact Hp.get_set_self _ gv6
  have zw : (((H5.set n (splice ka.c 0 522 K)).set (n + 1) (splice kv.c 0 8 (bys v))).set (n + 2) (splice kw.c 0 8 (bys w))).get (n + 2) = some ⟨kw.size, splice kw.c 0 8 (bys w), kw.ty⟩ := Hp.get_set_self _ gw7
  (repeat first|refine zG ?_|(refine LS.nilO ?_;intro nq hnq hltq;try refine zU ?_)|(refine MS.new ?_;intro bq hbq hbqf;try refine zU ?_)|(refine MS.nil ?_;intro nq hnq hltq;have hlq:=hltq _ _ (Hp.get_eq _ _ _);clear hltq;try refine zU ?_)|(refine LS.nilQ ?_;try with_reducible intro nq hnq;try refine zU ?_))
  exact ⟨.tup [.arr 522 K, .arr 8 (bys v), .arr 8 (bys w)], _, conc_tup3 (conc_arr (fun q hq => by rw [Nat.zero_add q]; unfold splice; rw [if_pos (by omega), Nat.sub_zero])) (conc_arr (fun q hq => by rw [Nat.zero_add q]; unfold splice; rw [if_pos (by omega), Nat.sub_zero])) (conc_arr (fun q hq => by rw [Nat.zero_add q]; unfold splice; rw [if_pos (by omega), Nat.sub_zero])), Drops.refl _ _, K, p, s, v, w, rfl, hK, hp1, hp2, hs1, hs2, hv, hw, fun y hy => by rw [Hp.get_set_other _ (by omega), Hp.get_set_other _ (by omega), Hp.get_set_other _ (by omega)]; exact lo5' y hy⟩

/-- spec.DrawPowerOf -/
def ir17 : Cd := (.seq (.reg [⟨some 2,none,.new 31 [(2,(.int .i64 0)),(520,(.int .u8 0))]⟩,⟨some 3,none,.new 25 [(8,(.int .u8 0))]⟩,⟨some 4,none,.mov (.c (.int .i64 0))⟩]) (.seq (.reg [⟨some 7,none,.mov (.t 0)⟩,⟨some 8,none,.call 24 [(.t 7)]⟩,⟨some 5,none,.mov (.t 8)⟩]) (.seq (.reg [⟨some 9,none,.mov (.t 5)⟩,⟨some 10,none,.call 25 [(.t 9)]⟩,⟨some 6,none,.new 31 [(2,(.int .i64 0)),(520,(.int .u8 0))]⟩,⟨none,none,.st 522 (.t 6) (.t 10)⟩]) (.seq (.drwn (.seg 0 (.seg 1 (.seg 2 (.seg 4 (.seg 5 (.seg 7 (.seg 3 (.seg 6 (.seg 8 (.seg 9 (.seg 10 (.seg 11 (.seg 12 (.seg 13 .done)))))))))))))) [⟨some 11,none,.ld (some 522) (.t 6)⟩,⟨some 12,none,.mov (.t 5)⟩,⟨some 13,none,.ld (some 522) (.t 6)⟩,⟨some 14,none,.call 26 [(.t 12),(.t 13)]⟩,⟨some 15,none,.mov (.t 5)⟩,⟨some 16,none,.mov (.t 5)⟩,⟨some 17,none,.call 45 [(.t 16),(.c (.int .i64 5))]⟩,⟨some 18,none,.mov (.t 5)⟩,⟨some 19,none,.call 46 [(.t 18),(.c (.int .i64 100))]⟩,⟨some 20,none,.bsl 2 2 1 [(1,(.int .i64 0))] [(0,1,(.t 17)),(1,1,(.t 19))]⟩,⟨some 21,none,.call 44 [(.t 15),(.t 20)]⟩,⟨none,none,.st 522 (.t 2) (.t 11)⟩,⟨none,none,.st 8 (.t 3) (.t 14)⟩,⟨some 4,none,.mov (.t 21)⟩]) .ret))))

set_option maxRecDepth 100000 in
theorem tr17 : trFn Tryz.prog Tryz.f17 = some (22, ir17, [.cell (some 522) 2, .cell (some 8) 3, .tmp 4]) := by kernel_rfl

theorem spec_DrawPowerOf (m0 : Nat) (sv : SV) (len : Nat) (f : Nat → Int) (H : Hp) (n : Nat) (hR : RA m0 1 sv len f) (hfb : ∀ i, i < 1 * len → 0 ≤ f i ∧ f i ≤ 255) (hlen : len ≤ 4096) (hm : ∀ x, x < m0 → H.get x = none) (hmn : m0 ≤ n) :
    FnS Tryz.prog 17 [.s sv] H n (fun r H' _ => ∃ K p s v k, r = .tup [.arr 522 K, .arr 8 (bys v), i64 k] ∧ ALB K p s ∧ -100 ≤ p ∧ p ≤ 255 ∧ -100 ≤ s ∧ s ≤ 255 ∧ isBy 8 v ∧ -4611686018427387904 ≤ k ∧ k ≤ 1099511627776 ∧ ∀ y, y < n → H'.get y = H.get y) := by
  refine FnS.of_body Tryz.func17 tr17 (by simp) (fun hf => ?_)
  dsimp only [argEnv]
  unfold ir17
  (repeat first|refine zG ?_|(refine LS.nilO ?_;intro nq hnq hltq;try refine zU ?_)|(refine MS.new ?_;intro bq hbq hbqf;try refine zU ?_)|(refine MS.nil ?_;intro nq hnq hltq;have hlq:=hltq _ _ (Hp.get_eq _ _ _);clear hltq;try refine zU ?_)|(refine LS.nilQ ?_;try with_reducible intro nq hnq;try refine zU ?_))
  refine RS.call rfl ((spec_l01From m0 sv len f _ _ hR hfb hlen (fun x hx => by rw [Hp.get_ne _ _ (by omega), Hp.get_ne _ _ (by omega)]; exact hm x hx) (by omega)).mono ?_)
  rintro r H1 n1 hn1 ⟨b, rfl, hb, hbn, hS1, lo1⟩
  have hbm : m0 ≤ b := by omega
  have lo1' : ∀ y, y < n → H1.get y = H.get y := fun y hy => by rw [lo1 y (by omega), Hp.get_ne _ _ (by omega), Hp.get_ne _ _ (by omega)]
  obtain ⟨ka, ga1, sa⟩ : ∃ k, H1.get n = some k ∧ k.size = 522 := ⟨_, by rw [lo1 n (by omega), Hp.get_ne _ _ (by omega)]; exact Hp.get_eq _ _ _, rfl⟩
  obtain ⟨kv, gv1, sv1⟩ : ∃ k, H1.get (n + 1) = some k ∧ k.size = 8 := ⟨_, by rw [lo1 (n + 1) (by omega)]; exact Hp.get_eq _ _ _, rfl⟩
  clear lo1
  (repeat first|refine zG ?_|(refine LS.nilO ?_;intro nq hnq hltq;try refine zU ?_)|(refine MS.new ?_;intro bq hbq hbqf;try refine zU ?_)|(refine MS.nil ?_;intro nq hnq hltq;have hlq:=hltq _ _ (Hp.get_eq _ _ _);clear hltq;try refine zU ?_)|(refine LS.nilQ ?_;try with_reducible intro nq hnq;try refine zU ?_))
  refine RS.call rfl ((spec_l01Spoil m0 sv len f b _ _ _ hR hfb hlen (fun x hx => by rw [lo1' x (by omega)]; exact hm x hx) hbm hS1).mono ?_)
  rintro r H2 n2 hn2 ⟨K, p, s, rfl, hK, hp1, hp2, hs1, hs2, hS2, lo2⟩
  have lo2' : ∀ y, y < n → H2.get y = H.get y := fun y hy => by rw [lo2 y (by omega) (by omega)]; exact lo1' y hy
  have ga2 : H2.get n = some ka := by rw [lo2 n (by omega) (by omega)]; exact ga1
  have gv2 : H2.get (n + 1) = some kv := by rw [lo2 (n + 1) (by omega) (by omega)]; exact gv1
  clear lo2
  (repeat first|refine zG ?_|(refine LS.nilO ?_;intro nq hnq hltq;try refine zU ?_)|(refine MS.new ?_;intro bq hbq hbqf;try refine zU ?_)|(refine MS.nil ?_;intro nq hnq hltq;have hlq:=hltq _ _ (Hp.get_eq _ _ _);clear hltq;try refine zU ?_)|(refine LS.nilQ ?_;try with_reducible intro nq hnq;try refine zU ?_))
  obtain ⟨H3, hH3⟩ : ∃ HN : Hp, HN = (n2, ⟨Zs.size [(2, SV.int .i64 0), (520, SV.int .u8 0)], K, 31⟩) :: H2 := ⟨_, rfl⟩
  rw [← hH3]
  have g3 : H3.get n2 = some ⟨Zs.size [(2, SV.int .i64 0), (520, SV.int .u8 0)], K, 31⟩ := by rw [hH3]; exact Hp.get_eq _ _ _
  have hb2 : b ≠ n2 := by omega
  have lo3 : ∀ y, y ≠ n2 → H3.get y = H2.get y := fun y hy => by rw [hH3, Hp.get_ne _ _ (fun q => hy q.symm)]
  have hS3 := hS2.keep (lo3 b hb2)
  have ga3 : H3.get n = some ka := by rw [lo3 n (by omega)]; exact ga2
  have gv3 : H3.get (n + 1) = some kv := by rw [lo3 (n + 1) (by omega)]; exact gv2
  have lo3' : ∀ y, y < n → H3.get y = H.get y := fun y hy => by rw [lo3 y (by omega)]; exact lo2' y hy
  have hEX := Ext.one g3
  clear hH3
  refine CS.ordN [(n2, ⟨Zs.size [(2, SV.int .i64 0), (520, SV.int .u8 0)], K, 31⟩)] hEX ?_
  refine FT.seg rfl (ST.ldn (c := K) (by exact rfl) (Hp.get_eq _ _ _) (by simp [Zs.size]) (by funext x; rw [Nat.zero_add]) ?_)
  refine FT.seg rfl (ST.mov (by exact rfl) ?_)
  refine FT.seg rfl (ST.ldn (c := K) (by exact rfl) (Hp.get_eq _ _ _) (by simp [Zs.size]) (by funext x; rw [Nat.zero_add]) ?_)
  refine FT.seg rfl (ST.mov (by exact rfl) ?_)
  refine FT.seg rfl (ST.mov (by exact rfl) ?_)
  refine FT.seg rfl (ST.mov (by exact rfl) ?_)
  refine FT.seg rfl (ST.call (R := fun r H' => (∃ v, r = .arr 8 (bys v) ∧ isBy 8 v) ∧ SRQ H' b 96 sv len ∧ ∀ y, y < n2 + 1 → y ≠ b → H'.get y = H3.get y) rfl (fun n' h1 h2 => (spec_l01Any m0 sv len f b _ p s K H3 n' hR hfb hlen (fun x hx => by rw [lo3' x (by omega)]; exact hm x hx) hbm hS3 hK).mono (by
    rintro r H' n'' hn'' ⟨v, rfl, hv, qS, q⟩
    exact ⟨⟨⟨v, rfl, hv⟩, qS, fun y hy hyb => q y (by omega) hyb⟩, by
      have := Ext.one (H := H') (b := n2) (k := ⟨Zs.size [(2, SV.int .i64 0), (520, SV.int .u8 0)], K, 31⟩) (by rw [q n2 (by omega) (fun z => hb2 z.symm)]; exact g3)
      exact this⟩)) ?_)
  rintro r H4 ⟨⟨v, rfl, hv⟩, hS4, lo4⟩ hE4
  have ga4 : H4.get n = some ka := by rw [lo4 n (by omega) (by omega)]; exact ga3
  have gv4 : H4.get (n + 1) = some kv := by rw [lo4 (n + 1) (by omega) (by omega)]; exact gv3
  have g4 : H4.get n2 = some ⟨Zs.size [(2, SV.int .i64 0), (520, SV.int .u8 0)], K, 31⟩ := by rw [lo4 n2 (by omega) (fun z => hb2 z.symm)]; exact g3
  have lo4' : ∀ y, y < n → H4.get y = H.get y := fun y hy => by rw [lo4 y (by omega) (by omega)]; exact lo3' y hy
  refine FT.seg rfl (ST.call (R := fun r H' => (∃ x : Int, r = i64 x ∧ 0 ≤ x ∧ x < 5) ∧ SRQ H' b 96 sv len ∧ ∀ y, y < n2 + 1 → y ≠ b → H'.get y = H4.get y) rfl (fun n' h1 h2 => (spec_l01Next m0 sv len f b _ 5 H4 n' hR hfb hlen (fun x hx => by rw [lo4' x (by omega)]; exact hm x hx) hbm hS4).mono (by
    rintro r H' n'' hn'' ⟨x, rfl, x0, x1, -, qS, q⟩
    exact ⟨⟨⟨x, rfl, x0, x1 (by omega)⟩, qS, fun y hy hyb => q y hyb⟩, by
      have := Ext.one (H := H') (b := n2) (k := ⟨Zs.size [(2, SV.int .i64 0), (520, SV.int .u8 0)], K, 31⟩) (by rw [q n2 (fun z => hb2 z.symm)]; exact g4)
      exact this⟩)) ?_)
  rintro r H5 ⟨⟨x, rfl, x0, x1⟩, hS5, lo5⟩ hE5
  have ga5 : H5.get n = some ka := by rw [lo5 n (by omega) (by omega)]; exact ga4
  have gv5 : H5.get (n + 1) = some kv := by rw [lo5 (n + 1) (by omega) (by omega)]; exact gv4
  have g5 : H5.get n2 = some ⟨Zs.size [(2, SV.int .i64 0), (520, SV.int .u8 0)], K, 31⟩ := by rw [lo5 n2 (by omega) (fun z => hb2 z.symm)]; exact g4
  have lo5' : ∀ y, y < n → H5.get y = H.get y := fun y hy => by rw [lo5 y (by omega) (by omega)]; exact lo4' y hy
  refine FT.seg rfl (ST.call (R := fun r H' => (∃ z : Int, r = i64 z ∧ -4611686018427387904 ≤ z ∧ z ≤ 1099511627776) ∧ SRQ H' b 96 sv len ∧ ∀ y, y < n2 + 1 → y ≠ b → H'.get y = H5.get y) rfl (fun n' h1 h2 => (spec_l01Near m0 sv len f b _ H5 n' hR hfb hlen (fun x hx => by rw [lo5' x (by omega)]; exact hm x hx) hbm hS5).mono (by
    rintro r H' n'' hn'' ⟨x, rfl, x0, x1, qS, q⟩
    exact ⟨⟨⟨x, rfl, x0, x1⟩, qS, fun y hy hyb => q y (by omega) hyb⟩, by
      have := Ext.one (H := H') (b := n2) (k := ⟨Zs.size [(2, SV.int .i64 0), (520, SV.int .u8 0)], K, 31⟩) (by rw [q n2 (by omega) (fun z => hb2 z.symm)]; exact g5)
      exact this⟩)) ?_)
  rintro r H6 ⟨⟨z, rfl, z0, z1⟩, hS6, lo6⟩ hE6
  have ga6 : H6.get n = some ka := by rw [lo6 n (by omega) (by omega)]; exact ga5
  have gv6 : H6.get (n + 1) = some kv := by rw [lo6 (n + 1) (by omega) (by omega)]; exact gv5
  have g6 : H6.get n2 = some ⟨Zs.size [(2, SV.int .i64 0), (520, SV.int .u8 0)], K, 31⟩ := by rw [lo6 n2 (by omega) (fun z => hb2 z.symm)]; exact g5
  have lo6' : ∀ y, y < n → H6.get y = H.get y := fun y hy => by rw [lo6 y (by omega) (by omega)]; exact lo5' y hy
  refine FT.seg rfl (ST.bsl hE6 rfl ?_)
  intro bL hbL hfL
  have hbLb : bL ≠ b := by omega
  obtain ⟨H7, hH7⟩ : ∃ HN : Hp, HN = (bL, ⟨2 * 1, put1 (put1 (fun i => Zs.c [(1, SV.int .i64 0)] (i % 1)) 0 (.int .i64 x)) 1 (.int .i64 z), 2⟩) :: H6 := ⟨_, rfl⟩
  have gL7 : H7.get bL = some ⟨2 * 1, put1 (put1 (fun i => Zs.c [(1, SV.int .i64 0)] (i % 1)) 0 (.int .i64 x)) 1 (.int .i64 z), 2⟩ := by rw [hH7]; exact Hp.get_eq _ _ _
  have lo7 : ∀ y, y ≠ bL → H7.get y = H6.get y := fun y hy => by rw [hH7, Hp.get_ne _ _ (fun q => hy q.symm)]
  rw [← hH7]
  have hS7 := hS6.keep (lo7 b (fun q => hbLb q.symm))
  have ga7 : H7.get n = some ka := by rw [lo7 n (by omega)]; exact ga6
  have gv7 : H7.get (n + 1) = some kv := by rw [lo7 (n + 1) (by omega)]; exact gv6
  have g7 : H7.get n2 = some ⟨Zs.size [(2, SV.int .i64 0), (520, SV.int .u8 0)], K, 31⟩ := by rw [lo7 n2 (by omega)]; exact g6
  have lo7' : ∀ y, y < n → H7.get y = H.get y := fun y hy => by rw [lo7 y (by omega)]; exact lo6' y hy
  clear hH7 lo7
  refine FT.seg rfl (ST.call (R := fun r H' => (∃ k : Int, r = i64 k ∧ -4611686018427387904 ≤ k ∧ k ≤ 1099511627776) ∧ SRQ H' b 96 sv len ∧ ∀ y, y < n2 + 1 → y ≠ b → H'.get y = H7.get y) rfl (fun n' h1 h2 => (spec_l01Pick m0 sv len f b _ (fun i => if i = 0 then x else z) 2 bL _ H7 n' hR hfb hlen (fun x hx => by rw [lo7' x (by omega)]; exact hm x hx) hbm hS7 (by omega) (by omega) hbLb gL7 (by simp) (fun i hi => by
    rcases (show i = 0 ∨ i = 1 by omega) with rfl | rfl <;> rfl)).mono (by
    rintro r H' n'' hn'' ⟨i, hi, rfl, qS, q⟩
    exact ⟨⟨⟨_, rfl, by (try dsimp only); split <;> omega, by (try dsimp only); split <;> omega⟩, qS, fun y hy hyb => q y hyb⟩, by
      have := Ext.one (H := H') (b := n2) (k := ⟨Zs.size [(2, SV.int .i64 0), (520, SV.int .u8 0)], K, 31⟩) (by rw [q n2 (fun z => hb2 z.symm)]; exact g7)
      exact this⟩)) ?_)
  rintro r H8 ⟨⟨k, rfl, k0, k1⟩, hS8, lo8⟩ hE8
  have ga8 : H8.get n = some ka := by rw [lo8 n (by omega) (by omega)]; exact ga7
  have gv8 : H8.get (n + 1) = some kv := by rw [lo8 (n + 1) (by omega) (by omega)]; exact gv7
  have g8 : H8.get n2 = some ⟨Zs.size [(2, SV.int .i64 0), (520, SV.int .u8 0)], K, 31⟩ := by rw [lo8 n2 (by omega) (fun z => hb2 z.symm)]; exact g7
  have lo8' : ∀ y, y < n → H8.get y = H.get y := fun y hy => by rw [lo8 y (by omega) (by omega)]; exact lo7' y hy
  refine FT.seg rfl (ST.sta (c := K) (by exact rfl) (by exact rfl) ga8 (by omega) (by rw [Hp.get_ne _ _ (by omega)]; rfl) hE8 ?_)
  have gv9 : (H8.set n (splice ka.c 0 522 K)).get (n + 1) = some kv := by rw [Hp.get_set_other _ (by omega)]; exact gv8
  have hE9 := hE8.setF (splice ka.c 0 522 K) (show Hp.get [(n2, (⟨Zs.size [(2, SV.int .i64 0), (520, SV.int .u8 0)], K, 31⟩ : Blk))] n = none by rw [Hp.get_ne _ _ (by omega)]; rfl)
  refine FT.seg rfl (ST.sta (c := bys v) (by exact rfl) (by exact rfl) gv9 (by omega) (by rw [Hp.get_ne _ _ (by omega)]; rfl) hE9 ?_)
  refine FT.seg rfl (ST.mov (by exact rfl) ?_)
  refine FT.done ?_
  intro n5 hn5 hlt5
  dsimp only [Ex.then, Ex.inBlock, putD, Env.put]
  have za : ((H8.set n (splice ka.c 0 522 K)).set (n + 1) (splice kv.c 0 8 (bys v))).get n = some ⟨ka.size, splice ka.c 0 522 K, ka.ty⟩ := by rw [Hp.get_set_other _ (by omega)]; exact Hp.get_set_self _ ga8
  have zv : ((H8.set n (splice ka.c 0 522 K)).set (n + 1) (splice kv.c 0 8 (bys v))).get (n + 1) = some ⟨kv.size, splice kv.c 0 8 (bys v), kv.ty⟩ := Hp.get_set_self _ gv9
  (repeat first|refine zG ?_|(refine LS.nilO ?_;intro nq hnq hltq;try refine zU ?_)|(refine MS.new ?_;intro bq hbq hbqf;try refine zU ?_)|(refine MS.nil ?_;intro nq hnq hltq;have hlq:=hltq _ _ (Hp.get_eq _ _ _);clear hltq;try refine zU ?_)|(refine LS.nilQ ?_;try with_reducible intro nq hnq;try refine zU ?_))
  exact ⟨.tup [.arr 522 K, .arr 8 (bys v), i64 k], _, conc_tup3 (conc_arr (fun q hq => by rw [Nat.zero_add q]; unfold splice; rw [if_pos (by omega), Nat.sub_zero])) (conc_arr (fun q hq => by rw [Nat.zero_add q]; unfold splice; rw [if_pos (by omega), Nat.sub_zero])) rfl, Drops.refl _ _, K, p, s, v, k, rfl, hK, hp1, hp2, hs1, hs2, hv, k0, k1, fun y hy => by rw [Hp.get_set_other _ (by omega), Hp.get_set_other _ (by omega), lo8' y hy]⟩

end Go.Proofs.YtgnphaopeplfbaaGreatDoor

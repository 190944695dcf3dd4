/- Whether a table is a Hopf algebra, on both sides. -/
import Derived.Test.YtnkmpelakhhoiaaC17
namespace Go.V
theorem ax_fold6 {h : HT} {a : Nat} (hS : HS h a) : ax h 5 ↔ ∀ i : Nat, i < a → ∀ q, q < 8 → fold h.p h.c i (g6 h.p h.m h.s a) 64 q = pl h.p (fun _ => 0) (h.e i) h.u q := by
  show ax6 h ↔ _
  unfold ax6; rw [hS.N]
theorem ax_fold7 {h : HT} {a : Nat} (hS : HS h a) : ax h 6 ↔ ∀ i : Nat, i < a → ∀ q, q < 8 → fold h.p h.c i (g7 h.p h.m h.s a) 64 q = pl h.p (fun _ => 0) (h.e i) h.u q := by
  show ax7 h ↔ _
  unfold ax7; rw [hS.N]
end Go.V
namespace Go.Proofs.Ytnkmpelakhhoiaa
open Go.V
set_option linter.unusedSimpArgs false
set_option linter.unusedVariables false
set_option maxHeartbeats 4000000

theorem spec_l03Bialgebra (h : HT) (a : Nat) (K : Nat → SV) (H : Hp) (n : Nat) (hS : HS h a) (hK : h.At K) (hB : h.By) :
    FnS Try.prog 70 [.arr 1106 K] H n (fun r H' _ => r = i64 (firstNot (ax h) 0 5) ∧ H' = H) := by
  have hp := hS.hp
  have ha := hS.ha
  have hk0 := hK.p
  have hk1 := hK.n
  rw [hS.hn] at hk1
  have hk2 := hK.u
  have hk3 := hK.m
  have hk4 := hK.e
  have hk5 := hK.c
  refine FnS.of_body Try.func70 tr70 (by simp) (fun hf => ?_)
  dsimp only [argEnv]
  unfold ir70
  (repeat first|refine zA ?_|(refine CS.tailL _ (List.Mem.head _) ?_;dsimp only[List.take,List.drop])|refine zC ?_|((first|refine zB ?_|(refine LS.nilO ?_;intro nq hnq hltq)|(refine MS.new ?_;intro bq hbq hbqf)|(refine MS.nil ?_;intro nq hnq hltq;have hlq:=hltq _ _ (Hp.get_eq _ _ _);clear hltq)|(refine LS.nilQ ?_;try with_reducible intro nq hnq));try dsimp only[Ex.then,Ex.inBlock,putD,Env.put])|(refine CS.exit ?_;try dsimp only[Ex.then,Ex.inBlock,↓reduceIte,Nat.reduceEqDiff];try simp only[↓reduceIte])|(refine resK.nil ?_;dsimp only[resV]))
  refine LS.callQ (.arr 522 K) rfl (fun n' hn' => FnS.args (concs_cons (conc_arr (fun q hq => rfl)) rfl) (spec_l03Algebra K h _ _ hK)) ?_
  (repeat first|refine zA ?_|(refine CS.tailL _ (List.Mem.head _) ?_;dsimp only[List.take,List.drop])|refine zC ?_|((first|refine zB ?_|(refine LS.nilO ?_;intro nq hnq hltq)|(refine MS.new ?_;intro bq hbq hbqf)|(refine MS.nil ?_;intro nq hnq hltq;have hlq:=hltq _ _ (Hp.get_eq _ _ _);clear hltq)|(refine LS.nilQ ?_;try with_reducible intro nq hnq));try dsimp only[Ex.then,Ex.inBlock,putD,Env.put])|(refine CS.exit ?_;try dsimp only[Ex.then,Ex.inBlock,↓reduceIte,Nat.reduceEqDiff];try simp only[↓reduceIte])|(refine resK.nil ?_;dsimp only[resV]))
  refine RS.call rfl ((FnS.args (concs_cons (conc_arr (fun q hq => rfl)) rfl) (spec_l01Is h.p h.n h.u h.m K _ _ hk0 hK.n hk2 hk3 hB.u hB.m)).mono ?_)
  rintro r H n2 hn2 ⟨rfl, rfl⟩
  (repeat first|refine zA ?_|(refine CS.tailL _ (List.Mem.head _) ?_;dsimp only[List.take,List.drop])|refine zC ?_|((first|refine zB ?_|(refine LS.nilO ?_;intro nq hnq hltq)|(refine MS.new ?_;intro bq hbq hbqf)|(refine MS.nil ?_;intro nq hnq hltq;have hlq:=hltq _ _ (Hp.get_eq _ _ _);clear hltq)|(refine LS.nilQ ?_;try with_reducible intro nq hnq));try dsimp only[Ex.then,Ex.inBlock,putD,Env.put])|(refine CS.exit ?_;try dsimp only[Ex.then,Ex.inBlock,↓reduceIte,Nat.reduceEqDiff];try simp only[↓reduceIte])|(refine resK.nil ?_;dsimp only[resV]))
  refine zI ?_ ?_<;>intro h1
  · (repeat first|refine zA ?_|(refine CS.tailL _ (List.Mem.head _) ?_;dsimp only[List.take,List.drop])|refine zC ?_|((first|refine zB ?_|(refine LS.nilO ?_;intro nq hnq hltq)|(refine MS.new ?_;intro bq hbq hbqf)|(refine MS.nil ?_;intro nq hnq hltq;have hlq:=hltq _ _ (Hp.get_eq _ _ _);clear hltq)|(refine LS.nilQ ?_;try with_reducible intro nq hnq));try dsimp only[Ex.then,Ex.inBlock,putD,Env.put])|(refine CS.exit ?_;try dsimp only[Ex.then,Ex.inBlock,↓reduceIte,Nat.reduceEqDiff];try simp only[↓reduceIte])|(refine resK.nil ?_;dsimp only[resV]))
    exact ⟨_, H, rfl, by exact zD, by rw [firstNot_end (A := ax h) (k := 0) h1]; rfl, rfl⟩
  (repeat first|refine zA ?_|(refine CS.tailL _ (List.Mem.head _) ?_;dsimp only[List.take,List.drop])|refine zC ?_|((first|refine zB ?_|(refine LS.nilO ?_;intro nq hnq hltq)|(refine MS.new ?_;intro bq hbq hbqf)|(refine MS.nil ?_;intro nq hnq hltq;have hlq:=hltq _ _ (Hp.get_eq _ _ _);clear hltq)|(refine LS.nilQ ?_;try with_reducible intro nq hnq));try dsimp only[Ex.then,Ex.inBlock,putD,Env.put])|(refine CS.exit ?_;try dsimp only[Ex.then,Ex.inBlock,↓reduceIte,Nat.reduceEqDiff];try simp only[↓reduceIte])|(refine resK.nil ?_;dsimp only[resV]))
  refine RS.call rfl ((FnS.args (concs_cons (conc_arr (fun q hq => rfl)) rfl) (spec_l03Coalgebra K h _ _ hK)).mono ?_)
  rintro r H n3 hn3 ⟨rfl, rfl⟩
  (repeat first|refine zA ?_|(refine CS.tailL _ (List.Mem.head _) ?_;dsimp only[List.take,List.drop])|refine zC ?_|((first|refine zB ?_|(refine LS.nilO ?_;intro nq hnq hltq)|(refine MS.new ?_;intro bq hbq hbqf)|(refine MS.nil ?_;intro nq hnq hltq;have hlq:=hltq _ _ (Hp.get_eq _ _ _);clear hltq)|(refine LS.nilQ ?_;try with_reducible intro nq hnq));try dsimp only[Ex.then,Ex.inBlock,putD,Env.put])|(refine CS.exit ?_;try dsimp only[Ex.then,Ex.inBlock,↓reduceIte,Nat.reduceEqDiff];try simp only[↓reduceIte])|(refine resK.nil ?_;dsimp only[resV]))
  refine RS.call rfl ((spec_l02Is h.p h.n h.e h.c (coC K) _ _ hk0 hK.n (coC_e hK) (coC_c hK) hB.e hB.c).mono ?_)
  rintro r H n4 hn4 ⟨rfl, rfl⟩
  (repeat first|refine zA ?_|(refine CS.tailL _ (List.Mem.head _) ?_;dsimp only[List.take,List.drop])|refine zC ?_|((first|refine zB ?_|(refine LS.nilO ?_;intro nq hnq hltq)|(refine MS.new ?_;intro bq hbq hbqf)|(refine MS.nil ?_;intro nq hnq hltq;have hlq:=hltq _ _ (Hp.get_eq _ _ _);clear hltq)|(refine LS.nilQ ?_;try with_reducible intro nq hnq));try dsimp only[Ex.then,Ex.inBlock,putD,Env.put])|(refine CS.exit ?_;try dsimp only[Ex.then,Ex.inBlock,↓reduceIte,Nat.reduceEqDiff];try simp only[↓reduceIte])|(refine resK.nil ?_;dsimp only[resV]))
  refine zI ?_ ?_<;>intro h2
  · (repeat first|refine zA ?_|(refine CS.tailL _ (List.Mem.head _) ?_;dsimp only[List.take,List.drop])|refine zC ?_|((first|refine zB ?_|(refine LS.nilO ?_;intro nq hnq hltq)|(refine MS.new ?_;intro bq hbq hbqf)|(refine MS.nil ?_;intro nq hnq hltq;have hlq:=hltq _ _ (Hp.get_eq _ _ _);clear hltq)|(refine LS.nilQ ?_;try with_reducible intro nq hnq));try dsimp only[Ex.then,Ex.inBlock,putD,Env.put])|(refine CS.exit ?_;try dsimp only[Ex.then,Ex.inBlock,↓reduceIte,Nat.reduceEqDiff];try simp only[↓reduceIte])|(refine resK.nil ?_;dsimp only[resV]))
    exact ⟨_, H, rfl, by exact zD, by rw [firstNot_go (A := ax h) (k := 0) h1, firstNot_end (A := ax h) (k := 1) h2]; rfl, rfl⟩
  (repeat first|refine zA ?_|(refine CS.tailL _ (List.Mem.head _) ?_;dsimp only[List.take,List.drop])|refine zC ?_|((first|refine zB ?_|(refine LS.nilO ?_;intro nq hnq hltq)|(refine MS.new ?_;intro bq hbq hbqf)|(refine MS.nil ?_;intro nq hnq hltq;have hlq:=hltq _ _ (Hp.get_eq _ _ _);clear hltq)|(refine LS.nilQ ?_;try with_reducible intro nq hnq));try dsimp only[Ex.then,Ex.inBlock,putD,Env.put])|(refine CS.exit ?_;try dsimp only[Ex.then,Ex.inBlock,↓reduceIte,Nat.reduceEqDiff];try simp only[↓reduceIte])|(refine resK.nil ?_;dsimp only[resV]))
  refine CS.iter a (fun i => [(5, i64 i), (1, ptr n 0), (3, i64 a)]) (fun _ => (n, ⟨1106, K, 36⟩) :: H)
    (fun i => ∀ i' j : Nat, i' < i → j < a → ∀ q, q < 64 → cps h.p h.c (fun x => h.m (64 * i' + 8 * j + x)) 8 q = ten h.p h.m (fun q => h.c (64 * i' + q)) (fun q => h.c (64 * j + q)) q) (by (repeat first | exact trivial | refine And.intro rfl ?_)) (by exact zD) (fun _ _ h => by omega) ?_
  intro i n1 hi hn hJ
  (repeat first|refine zA ?_|(refine CS.tailL _ (List.Mem.head _) ?_;dsimp only[List.take,List.drop])|refine zC ?_|((first|refine zB ?_|(refine LS.nilO ?_;intro nq hnq hltq)|(refine MS.new ?_;intro bq hbq hbqf)|(refine MS.nil ?_;intro nq hnq hltq;have hlq:=hltq _ _ (Hp.get_eq _ _ _);clear hltq)|(refine LS.nilQ ?_;try with_reducible intro nq hnq));try dsimp only[Ex.then,Ex.inBlock,putD,Env.put])|(refine CS.exit ?_;try dsimp only[Ex.then,Ex.inBlock,↓reduceIte,Nat.reduceEqDiff];try simp only[↓reduceIte])|(refine resK.nil ?_;dsimp only[resV]))
  refine zI ?_ ?_<;>intro h3
  · (repeat first|refine zA ?_|(refine CS.tailL _ (List.Mem.head _) ?_;dsimp only[List.take,List.drop])|refine zC ?_|((first|refine zB ?_|(refine LS.nilO ?_;intro nq hnq hltq)|(refine MS.new ?_;intro bq hbq hbqf)|(refine MS.nil ?_;intro nq hnq hltq;have hlq:=hltq _ _ (Hp.get_eq _ _ _);clear hltq)|(refine LS.nilQ ?_;try with_reducible intro nq hnq));try dsimp only[Ex.then,Ex.inBlock,putD,Env.put])|(refine CS.exit ?_;try dsimp only[Ex.then,Ex.inBlock,↓reduceIte,Nat.reduceEqDiff];try simp only[↓reduceIte])|(refine resK.nil ?_;dsimp only[resV]))
    refine CS.iter a (fun j => [(6, i64 j), (5, i64 i), (1, ptr n 0), (3, i64 a)]) (fun _ => (n, ⟨1106, K, 36⟩) :: H)
      (fun j => ∀ j' : Nat, j' < j → ∀ q, q < 64 → cps h.p h.c (fun x => h.m (64 * i + 8 * j' + x)) 8 q = ten h.p h.m (fun q => h.c (64 * i + q)) (fun q => h.c (64 * j' + q)) q) (by (repeat first | exact trivial | refine And.intro rfl ?_)) (Drops.refl _ _) (fun _ h => by omega) ?_
    intro j n5 hj hn5 hJ2
    (repeat first|refine zA ?_|(refine CS.tailL _ (List.Mem.head _) ?_;dsimp only[List.take,List.drop])|refine zC ?_|((first|refine zB ?_|(refine LS.nilO ?_;intro nq hnq hltq)|(refine MS.new ?_;intro bq hbq hbqf)|(refine MS.nil ?_;intro nq hnq hltq;have hlq:=hltq _ _ (Hp.get_eq _ _ _);clear hltq)|(refine LS.nilQ ?_;try with_reducible intro nq hnq));try dsimp only[Ex.then,Ex.inBlock,putD,Env.put])|(refine CS.exit ?_;try dsimp only[Ex.then,Ex.inBlock,↓reduceIte,Nat.reduceEqDiff];try simp only[↓reduceIte])|(refine resK.nil ?_;dsimp only[resV]))
    refine zI ?_ ?_<;>intro h4
    · (repeat first|refine zA ?_|(refine CS.tailL _ (List.Mem.head _) ?_;dsimp only[List.take,List.drop])|refine zC ?_|((first|refine zB ?_|(refine LS.nilO ?_;intro nq hnq hltq)|(refine MS.new ?_;intro bq hbq hbqf)|(refine MS.nil ?_;intro nq hnq hltq;have hlq:=hltq _ _ (Hp.get_eq _ _ _);clear hltq)|(refine LS.nilQ ?_;try with_reducible intro nq hnq));try dsimp only[Ex.then,Ex.inBlock,putD,Env.put])|(refine CS.exit ?_;try dsimp only[Ex.then,Ex.inBlock,↓reduceIte,Nat.reduceEqDiff];try simp only[↓reduceIte])|(refine resK.nil ?_;dsimp only[resV]))
      refine LS.callQ (.arr 64 (bys (cps h.p h.c (fun x => h.m (64 * i + 8 * j + x)) 8))) rfl (fun n' hn' => FnS.args (concs_cons (conc_arr (fun q hq => rfl)) rfl) (spec_l03Coproduct h a (fun x => h.m (64 * i + 8 * j + x)) K _ _ hS hK hB (hB.rowm (by omega) (by omega)))) ?_
      (repeat first|refine zA ?_|(refine CS.tailL _ (List.Mem.head _) ?_;dsimp only[List.take,List.drop])|refine zC ?_|((first|refine zB ?_|(refine LS.nilO ?_;intro nq hnq hltq)|(refine MS.new ?_;intro bq hbq hbqf)|(refine MS.nil ?_;intro nq hnq hltq;have hlq:=hltq _ _ (Hp.get_eq _ _ _);clear hltq)|(refine LS.nilQ ?_;try with_reducible intro nq hnq));try dsimp only[Ex.then,Ex.inBlock,putD,Env.put])|(refine CS.exit ?_;try dsimp only[Ex.then,Ex.inBlock,↓reduceIte,Nat.reduceEqDiff];try simp only[↓reduceIte])|(refine resK.nil ?_;dsimp only[resV]))
      refine RS.call rfl ((FnS.args (concs_cons (conc_arr (fun q hq => rfl)) rfl) (spec_l03Pairs h a (fun q => h.c (64 * i + q)) (fun q => h.c (64 * j + q)) K _ _ hS hK hB (hB.rowc (by omega)) (hB.rowc (by omega)))).mono ?_)
      rintro r H6 n6 hn6 ⟨rfl, rfl⟩
      (repeat first|refine zA ?_|(refine CS.tailL _ (List.Mem.head _) ?_;dsimp only[List.take,List.drop])|refine zC ?_|((first|refine zB ?_|(refine LS.nilO ?_;intro nq hnq hltq)|(refine MS.new ?_;intro bq hbq hbqf)|(refine MS.nil ?_;intro nq hnq hltq;have hlq:=hltq _ _ (Hp.get_eq _ _ _);clear hltq)|(refine LS.nilQ ?_;try with_reducible intro nq hnq));try dsimp only[Ex.then,Ex.inBlock,putD,Env.put])|(refine CS.exit ?_;try dsimp only[Ex.then,Ex.inBlock,↓reduceIte,Nat.reduceEqDiff];try simp only[↓reduceIte])|(refine resK.nil ?_;dsimp only[resV]))
      refine zI ?_ ?_<;>intro h5
      · (repeat first|refine zA ?_|(refine CS.tailL _ (List.Mem.head _) ?_;dsimp only[List.take,List.drop])|refine zC ?_|((first|refine zB ?_|(refine LS.nilO ?_;intro nq hnq hltq)|(refine MS.new ?_;intro bq hbq hbqf)|(refine MS.nil ?_;intro nq hnq hltq;have hlq:=hltq _ _ (Hp.get_eq _ _ _);clear hltq)|(refine LS.nilQ ?_;try with_reducible intro nq hnq));try dsimp only[Ex.then,Ex.inBlock,putD,Env.put])|(refine CS.exit ?_;try dsimp only[Ex.then,Ex.inBlock,↓reduceIte,Nat.reduceEqDiff];try simp only[↓reduceIte])|(refine resK.nil ?_;dsimp only[resV]))
        exact ⟨_, H, rfl, by exact zD, by rw [firstNot_go (A := ax h) (k := 0) h1, firstNot_go (A := ax h) (k := 1) h2, firstNot_end (A := ax h) (k := 2) (fun q : ax3 h => h5 (q i j (by rw [hS.N]; omega) (by rw [hS.N]; omega)))]; rfl, rfl⟩
      · (repeat first|refine zA ?_|(refine CS.tailL _ (List.Mem.head _) ?_;dsimp only[List.take,List.drop])|refine zC ?_|((first|refine zB ?_|(refine LS.nilO ?_;intro nq hnq hltq)|(refine MS.new ?_;intro bq hbq hbqf)|(refine MS.nil ?_;intro nq hnq hltq;have hlq:=hltq _ _ (Hp.get_eq _ _ _);clear hltq)|(refine LS.nilQ ?_;try with_reducible intro nq hnq));try dsimp only[Ex.then,Ex.inBlock,putD,Env.put])|(refine CS.exit ?_;try dsimp only[Ex.then,Ex.inBlock,↓reduceIte,Nat.reduceEqDiff];try simp only[↓reduceIte])|(refine resK.nil ?_;dsimp only[resV]))
        refine ⟨by omega, by (repeat first | exact trivial | refine And.intro rfl ?_), Drops.refl _ _, fun j' hj' => ?_⟩
        by_cases e : j' = j
        · subst e; exact h5
        · exact hJ2 j' (by omega)
    · have : j = a := by omega
      subst this
      (repeat first|refine zA ?_|(refine CS.tailL _ (List.Mem.head _) ?_;dsimp only[List.take,List.drop])|refine zC ?_|((first|refine zB ?_|(refine LS.nilO ?_;intro nq hnq hltq)|(refine MS.new ?_;intro bq hbq hbqf)|(refine MS.nil ?_;intro nq hnq hltq;have hlq:=hltq _ _ (Hp.get_eq _ _ _);clear hltq)|(refine LS.nilQ ?_;try with_reducible intro nq hnq));try dsimp only[Ex.then,Ex.inBlock,putD,Env.put])|(refine CS.exit ?_;try dsimp only[Ex.then,Ex.inBlock,↓reduceIte,Nat.reduceEqDiff];try simp only[↓reduceIte])|(refine resK.nil ?_;dsimp only[resV]))
      refine ⟨by omega, by (repeat first | exact trivial | refine And.intro rfl ?_), Drops.refl _ _, fun i' j' hi' => ?_⟩
      by_cases e : i' = i
      · subst e; exact fun hj' => hJ2 j' hj'
      · exact hJ i' j' (by omega)
  have : i = a := by omega
  subst this
  have hA3 : ax h 2 := fun i' j' h1 h2 => by rw [hS.N] at h1 h2; exact hJ i' j' h1 h2
  (repeat first|refine zA ?_|(refine CS.tailL _ (List.Mem.head _) ?_;dsimp only[List.take,List.drop])|refine zC ?_|((first|refine zB ?_|(refine LS.nilO ?_;intro nq hnq hltq)|(refine MS.new ?_;intro bq hbq hbqf)|(refine MS.nil ?_;intro nq hnq hltq;have hlq:=hltq _ _ (Hp.get_eq _ _ _);clear hltq)|(refine LS.nilQ ?_;try with_reducible intro nq hnq));try dsimp only[Ex.then,Ex.inBlock,putD,Env.put])|(refine CS.exit ?_;try dsimp only[Ex.then,Ex.inBlock,↓reduceIte,Nat.reduceEqDiff];try simp only[↓reduceIte])|(refine resK.nil ?_;dsimp only[resV]))
  refine RS.call rfl ((FnS.args (concs_cons (conc_arr (fun q hq => rfl)) rfl) (spec_l03Coproduct h i h.u K _ _ hS hK hB hB.u)).mono ?_)
  rintro r H5 n5 hn5 ⟨rfl, rfl⟩
  (repeat first|refine zA ?_|(refine CS.tailL _ (List.Mem.head _) ?_;dsimp only[List.take,List.drop])|refine zC ?_|((first|refine zB ?_|(refine LS.nilO ?_;intro nq hnq hltq)|(refine MS.new ?_;intro bq hbq hbqf)|(refine MS.nil ?_;intro nq hnq hltq;have hlq:=hltq _ _ (Hp.get_eq _ _ _);clear hltq)|(refine LS.nilQ ?_;try with_reducible intro nq hnq));try dsimp only[Ex.then,Ex.inBlock,putD,Env.put])|(refine CS.exit ?_;try dsimp only[Ex.then,Ex.inBlock,↓reduceIte,Nat.reduceEqDiff];try simp only[↓reduceIte])|(refine resK.nil ?_;dsimp only[resV]))
  have hrr : ∀ q, q < 64 → (bys (cps h.p h.c h.u 8)) (0 + q) = .int .u8 (cps h.p h.c h.u 8 q) := fun q hq => by rw [Nat.zero_add]; rfl
  refine CS.iter i (fun j => [(8, i64 j), (7, ptr n5 0), (1, ptr n 0), (3, i64 i)]) (fun _ => (n5, ⟨64, bys (cps h.p h.c h.u 8), 32⟩) :: (n, ⟨1106, K, 36⟩) :: H)
    (fun j => ∀ j', j' < j → ∀ q, q < 8 → cps h.p h.c h.u 8 (8 * j' + q) = pl h.p (fun _ => 0) (h.u j') h.u q) (by (repeat first | exact trivial | refine And.intro rfl ?_)) (by exact zD) (fun _ h => by omega) ?_
  intro j n6 hj hn6 hJ4
  (repeat first|refine zA ?_|(refine CS.tailL _ (List.Mem.head _) ?_;dsimp only[List.take,List.drop])|refine zC ?_|((first|refine zB ?_|(refine LS.nilO ?_;intro nq hnq hltq)|(refine MS.new ?_;intro bq hbq hbqf)|(refine MS.nil ?_;intro nq hnq hltq;have hlq:=hltq _ _ (Hp.get_eq _ _ _);clear hltq)|(refine LS.nilQ ?_;try with_reducible intro nq hnq));try dsimp only[Ex.then,Ex.inBlock,putD,Env.put])|(refine CS.exit ?_;try dsimp only[Ex.then,Ex.inBlock,↓reduceIte,Nat.reduceEqDiff];try simp only[↓reduceIte])|(refine resK.nil ?_;dsimp only[resV]))
  refine zI ?_ ?_<;>intro h4
  · have huj := hB.u j (by omega)
    have hr : ∀ q, q < 8 → (bys (cps h.p h.c h.u 8)) (8 * j + q) = .int .u8 (cps h.p h.c h.u 8 (8 * j + q)) := fun q hq => rfl
    (repeat first|refine zA ?_|(refine CS.tailL _ (List.Mem.head _) ?_;dsimp only[List.take,List.drop])|refine zC ?_|((first|refine zB ?_|(refine LS.nilO ?_;intro nq hnq hltq)|(refine MS.new ?_;intro bq hbq hbqf)|(refine MS.nil ?_;intro nq hnq hltq;have hlq:=hltq _ _ (Hp.get_eq _ _ _);clear hltq)|(refine LS.nilQ ?_;try with_reducible intro nq hnq));try dsimp only[Ex.then,Ex.inBlock,putD,Env.put])|(refine CS.exit ?_;try dsimp only[Ex.then,Ex.inBlock,↓reduceIte,Nat.reduceEqDiff];try simp only[↓reduceIte])|(refine resK.nil ?_;dsimp only[resV]))
    refine LS.callQ (.arr 8 (bys (pl h.p (fun _ => 0) (h.u j) h.u))) rfl (fun n' hn' => spec_l01Add h.p (h.u j) (fun _ => 0) h.u _ _ hp ((isRes_zero hp.1 8).by hp.2) hB.u (by omega)) ?_
    (repeat first|refine zA ?_|(refine CS.tailL _ (List.Mem.head _) ?_;dsimp only[List.take,List.drop])|refine zC ?_|((first|refine zB ?_|(refine LS.nilO ?_;intro nq hnq hltq)|(refine MS.new ?_;intro bq hbq hbqf)|(refine MS.nil ?_;intro nq hnq hltq;have hlq:=hltq _ _ (Hp.get_eq _ _ _);clear hltq)|(refine LS.nilQ ?_;try with_reducible intro nq hnq));try dsimp only[Ex.then,Ex.inBlock,putD,Env.put])|(refine CS.exit ?_;try dsimp only[Ex.then,Ex.inBlock,↓reduceIte,Nat.reduceEqDiff];try simp only[↓reduceIte])|(refine resK.nil ?_;dsimp only[resV]))
    refine zI ?_ ?_<;>intro h5
    · (repeat first|refine zA ?_|(refine CS.tailL _ (List.Mem.head _) ?_;dsimp only[List.take,List.drop])|refine zC ?_|((first|refine zB ?_|(refine LS.nilO ?_;intro nq hnq hltq)|(refine MS.new ?_;intro bq hbq hbqf)|(refine MS.nil ?_;intro nq hnq hltq;have hlq:=hltq _ _ (Hp.get_eq _ _ _);clear hltq)|(refine LS.nilQ ?_;try with_reducible intro nq hnq));try dsimp only[Ex.then,Ex.inBlock,putD,Env.put])|(refine CS.exit ?_;try dsimp only[Ex.then,Ex.inBlock,↓reduceIte,Nat.reduceEqDiff];try simp only[↓reduceIte])|(refine resK.nil ?_;dsimp only[resV]))
      exact ⟨_, H, rfl, by exact zD, by rw [firstNot_go (A := ax h) (k := 0) h1, firstNot_go (A := ax h) (k := 1) h2, firstNot_go (A := ax h) hA3, firstNot_end (A := ax h) (k := 3) (fun q => h5 ((ax4_rows hS).1 q j (by omega)))]; rfl, rfl⟩
    · (repeat first|refine zA ?_|(refine CS.tailL _ (List.Mem.head _) ?_;dsimp only[List.take,List.drop])|refine zC ?_|((first|refine zB ?_|(refine LS.nilO ?_;intro nq hnq hltq)|(refine MS.new ?_;intro bq hbq hbqf)|(refine MS.nil ?_;intro nq hnq hltq;have hlq:=hltq _ _ (Hp.get_eq _ _ _);clear hltq)|(refine LS.nilQ ?_;try with_reducible intro nq hnq));try dsimp only[Ex.then,Ex.inBlock,putD,Env.put])|(refine CS.exit ?_;try dsimp only[Ex.then,Ex.inBlock,↓reduceIte,Nat.reduceEqDiff];try simp only[↓reduceIte])|(refine resK.nil ?_;dsimp only[resV]))
      refine ⟨by omega, by (repeat first | exact trivial | refine And.intro rfl ?_), Drops.refl _ _, fun j' hj' => ?_⟩
      by_cases e : j' = j
      · subst e; exact h5
      · exact hJ4 j' (by omega)
  have : j = i := by omega
  subst this
  have hA4 : ax h 3 := (ax4_rows hS).2 hJ4
  (repeat first|refine zA ?_|(refine CS.tailL _ (List.Mem.head _) ?_;dsimp only[List.take,List.drop])|refine zC ?_|((first|refine zB ?_|(refine LS.nilO ?_;intro nq hnq hltq)|(refine MS.new ?_;intro bq hbq hbqf)|(refine MS.nil ?_;intro nq hnq hltq;have hlq:=hltq _ _ (Hp.get_eq _ _ _);clear hltq)|(refine LS.nilQ ?_;try with_reducible intro nq hnq));try dsimp only[Ex.then,Ex.inBlock,putD,Env.put])|(refine CS.exit ?_;try dsimp only[Ex.then,Ex.inBlock,↓reduceIte,Nat.reduceEqDiff];try simp only[↓reduceIte])|(refine resK.nil ?_;dsimp only[resV]))
  refine CS.iter j (fun i => [(9, i64 i), (1, ptr n 0), (3, i64 j)]) (fun _ => (n, ⟨1106, K, 36⟩) :: H)
    (fun i => ∀ i' k : Nat, i' < i → k < j → dotk h.p h.e (fun x => h.m (64 * i' + 8 * k + x)) 8 = h.e i' * h.e k % h.p) (by (repeat first | exact trivial | refine And.intro rfl ?_)) (by exact zD) (fun _ _ h => by omega) ?_
  intro i n7 hi hn7 hJ5
  (repeat first|refine zA ?_|(refine CS.tailL _ (List.Mem.head _) ?_;dsimp only[List.take,List.drop])|refine zC ?_|((first|refine zB ?_|(refine LS.nilO ?_;intro nq hnq hltq)|(refine MS.new ?_;intro bq hbq hbqf)|(refine MS.nil ?_;intro nq hnq hltq;have hlq:=hltq _ _ (Hp.get_eq _ _ _);clear hltq)|(refine LS.nilQ ?_;try with_reducible intro nq hnq));try dsimp only[Ex.then,Ex.inBlock,putD,Env.put])|(refine CS.exit ?_;try dsimp only[Ex.then,Ex.inBlock,↓reduceIte,Nat.reduceEqDiff];try simp only[↓reduceIte])|(refine resK.nil ?_;dsimp only[resV]))
  refine zI ?_ ?_<;>intro h6
  · (repeat first|refine zA ?_|(refine CS.tailL _ (List.Mem.head _) ?_;dsimp only[List.take,List.drop])|refine zC ?_|((first|refine zB ?_|(refine LS.nilO ?_;intro nq hnq hltq)|(refine MS.new ?_;intro bq hbq hbqf)|(refine MS.nil ?_;intro nq hnq hltq;have hlq:=hltq _ _ (Hp.get_eq _ _ _);clear hltq)|(refine LS.nilQ ?_;try with_reducible intro nq hnq));try dsimp only[Ex.then,Ex.inBlock,putD,Env.put])|(refine CS.exit ?_;try dsimp only[Ex.then,Ex.inBlock,↓reduceIte,Nat.reduceEqDiff];try simp only[↓reduceIte])|(refine resK.nil ?_;dsimp only[resV]))
    refine CS.iter j (fun k => [(10, i64 k), (9, i64 i), (1, ptr n 0), (3, i64 j)]) (fun _ => (n, ⟨1106, K, 36⟩) :: H)
      (fun k => ∀ k' : Nat, k' < k → dotk h.p h.e (fun x => h.m (64 * i + 8 * k' + x)) 8 = h.e i * h.e k' % h.p) (by (repeat first | exact trivial | refine And.intro rfl ?_)) (by exact zD) (fun _ h => by omega) ?_
    intro k n8 hk hn8 hJ6
    (repeat first|refine zA ?_|(refine CS.tailL _ (List.Mem.head _) ?_;dsimp only[List.take,List.drop])|refine zC ?_|((first|refine zB ?_|(refine LS.nilO ?_;intro nq hnq hltq)|(refine MS.new ?_;intro bq hbq hbqf)|(refine MS.nil ?_;intro nq hnq hltq;have hlq:=hltq _ _ (Hp.get_eq _ _ _);clear hltq)|(refine LS.nilQ ?_;try with_reducible intro nq hnq));try dsimp only[Ex.then,Ex.inBlock,putD,Env.put])|(refine CS.exit ?_;try dsimp only[Ex.then,Ex.inBlock,↓reduceIte,Nat.reduceEqDiff];try simp only[↓reduceIte])|(refine resK.nil ?_;dsimp only[resV]))
    refine zI ?_ ?_<;>intro h7
    · have hei := hB.e i (by omega)
      have hej := hB.e k (by omega)
      have hee := mulB hei.1 hei.2 hej.1 hej.2
      (repeat first|refine zA ?_|(refine CS.tailL _ (List.Mem.head _) ?_;dsimp only[List.take,List.drop])|refine zC ?_|((first|refine zB ?_|(refine LS.nilO ?_;intro nq hnq hltq)|(refine MS.new ?_;intro bq hbq hbqf)|(refine MS.nil ?_;intro nq hnq hltq;have hlq:=hltq _ _ (Hp.get_eq _ _ _);clear hltq)|(refine LS.nilQ ?_;try with_reducible intro nq hnq));try dsimp only[Ex.then,Ex.inBlock,putD,Env.put])|(refine CS.exit ?_;try dsimp only[Ex.then,Ex.inBlock,↓reduceIte,Nat.reduceEqDiff];try simp only[↓reduceIte])|(refine resK.nil ?_;dsimp only[resV]))
      refine LS.callQ (i64 (dotk h.p h.e (fun x => h.m (64 * i + 8 * k + x)) 8)) rfl (fun n' hn' => FnS.args (concs_cons (conc_arr (fun q hq => rfl)) rfl) (spec_l03Counit h j (fun x => h.m (64 * i + 8 * k + x)) K _ _ hS hK hB (hB.rowm (by omega) (by omega)))) ?_
      (repeat first|refine zA ?_|(refine CS.tailL _ (List.Mem.head _) ?_;dsimp only[List.take,List.drop])|refine zC ?_|((first|refine zB ?_|(refine LS.nilO ?_;intro nq hnq hltq)|(refine MS.new ?_;intro bq hbq hbqf)|(refine MS.nil ?_;intro nq hnq hltq;have hlq:=hltq _ _ (Hp.get_eq _ _ _);clear hltq)|(refine LS.nilQ ?_;try with_reducible intro nq hnq));try dsimp only[Ex.then,Ex.inBlock,putD,Env.put])|(refine CS.exit ?_;try dsimp only[Ex.then,Ex.inBlock,↓reduceIte,Nat.reduceEqDiff];try simp only[↓reduceIte])|(refine resK.nil ?_;dsimp only[resV]))
      refine zI ?_ ?_<;>intro h8
      · (repeat first|refine zA ?_|(refine CS.tailL _ (List.Mem.head _) ?_;dsimp only[List.take,List.drop])|refine zC ?_|((first|refine zB ?_|(refine LS.nilO ?_;intro nq hnq hltq)|(refine MS.new ?_;intro bq hbq hbqf)|(refine MS.nil ?_;intro nq hnq hltq;have hlq:=hltq _ _ (Hp.get_eq _ _ _);clear hltq)|(refine LS.nilQ ?_;try with_reducible intro nq hnq));try dsimp only[Ex.then,Ex.inBlock,putD,Env.put])|(refine CS.exit ?_;try dsimp only[Ex.then,Ex.inBlock,↓reduceIte,Nat.reduceEqDiff];try simp only[↓reduceIte])|(refine resK.nil ?_;dsimp only[resV]))
        exact ⟨_, H, rfl, by exact zD, by rw [firstNot_go (A := ax h) (k := 0) h1, firstNot_go (A := ax h) (k := 1) h2, firstNot_go (A := ax h) hA3, firstNot_go (A := ax h) hA4, firstNot_end (A := ax h) (k := 4) (fun q : ax5 h => h8 (q.1 i k (by rw [hS.N]; omega) (by rw [hS.N]; omega)))]; rfl, rfl⟩
      · (repeat first|refine zA ?_|(refine CS.tailL _ (List.Mem.head _) ?_;dsimp only[List.take,List.drop])|refine zC ?_|((first|refine zB ?_|(refine LS.nilO ?_;intro nq hnq hltq)|(refine MS.new ?_;intro bq hbq hbqf)|(refine MS.nil ?_;intro nq hnq hltq;have hlq:=hltq _ _ (Hp.get_eq _ _ _);clear hltq)|(refine LS.nilQ ?_;try with_reducible intro nq hnq));try dsimp only[Ex.then,Ex.inBlock,putD,Env.put])|(refine CS.exit ?_;try dsimp only[Ex.then,Ex.inBlock,↓reduceIte,Nat.reduceEqDiff];try simp only[↓reduceIte])|(refine resK.nil ?_;dsimp only[resV]))
        refine ⟨by omega, by (repeat first | exact trivial | refine And.intro rfl ?_), Drops.refl _ _, fun j' hj' => ?_⟩
        by_cases e : j' = k
        · subst e; exact h8
        · exact hJ6 j' (by omega)
    · have : k = j := by omega
      subst this
      (repeat first|refine zA ?_|(refine CS.tailL _ (List.Mem.head _) ?_;dsimp only[List.take,List.drop])|refine zC ?_|((first|refine zB ?_|(refine LS.nilO ?_;intro nq hnq hltq)|(refine MS.new ?_;intro bq hbq hbqf)|(refine MS.nil ?_;intro nq hnq hltq;have hlq:=hltq _ _ (Hp.get_eq _ _ _);clear hltq)|(refine LS.nilQ ?_;try with_reducible intro nq hnq));try dsimp only[Ex.then,Ex.inBlock,putD,Env.put])|(refine CS.exit ?_;try dsimp only[Ex.then,Ex.inBlock,↓reduceIte,Nat.reduceEqDiff];try simp only[↓reduceIte])|(refine resK.nil ?_;dsimp only[resV]))
      refine ⟨by omega, by (repeat first | exact trivial | refine And.intro rfl ?_), Drops.refl _ _, fun i' j' hi' => ?_⟩
      by_cases e : i' = i
      · subst e; exact fun hj' => hJ6 j' hj'
      · exact hJ5 i' j' (by omega)
  have : i = j := by omega
  subst this
  (repeat first|refine zA ?_|(refine CS.tailL _ (List.Mem.head _) ?_;dsimp only[List.take,List.drop])|refine zC ?_|((first|refine zB ?_|(refine LS.nilO ?_;intro nq hnq hltq)|(refine MS.new ?_;intro bq hbq hbqf)|(refine MS.nil ?_;intro nq hnq hltq;have hlq:=hltq _ _ (Hp.get_eq _ _ _);clear hltq)|(refine LS.nilQ ?_;try with_reducible intro nq hnq));try dsimp only[Ex.then,Ex.inBlock,putD,Env.put])|(refine CS.exit ?_;try dsimp only[Ex.then,Ex.inBlock,↓reduceIte,Nat.reduceEqDiff];try simp only[↓reduceIte])|(refine resK.nil ?_;dsimp only[resV]))
  refine RS.call rfl ((FnS.args (concs_cons (conc_arr (fun q hq => rfl)) rfl) (spec_l03Counit h i h.u K _ _ hS hK hB hB.u)).mono ?_)
  rintro r H7 n8 hn8 ⟨rfl, rfl⟩
  (repeat first|refine zA ?_|(refine CS.tailL _ (List.Mem.head _) ?_;dsimp only[List.take,List.drop])|refine zC ?_|((first|refine zB ?_|(refine LS.nilO ?_;intro nq hnq hltq)|(refine MS.new ?_;intro bq hbq hbqf)|(refine MS.nil ?_;intro nq hnq hltq;have hlq:=hltq _ _ (Hp.get_eq _ _ _);clear hltq)|(refine LS.nilQ ?_;try with_reducible intro nq hnq));try dsimp only[Ex.then,Ex.inBlock,putD,Env.put])|(refine CS.exit ?_;try dsimp only[Ex.then,Ex.inBlock,↓reduceIte,Nat.reduceEqDiff];try simp only[↓reduceIte])|(refine resK.nil ?_;dsimp only[resV]))
  refine zI ?_ ?_<;>intro h9
  · (repeat first|refine zA ?_|(refine CS.tailL _ (List.Mem.head _) ?_;dsimp only[List.take,List.drop])|refine zC ?_|((first|refine zB ?_|(refine LS.nilO ?_;intro nq hnq hltq)|(refine MS.new ?_;intro bq hbq hbqf)|(refine MS.nil ?_;intro nq hnq hltq;have hlq:=hltq _ _ (Hp.get_eq _ _ _);clear hltq)|(refine LS.nilQ ?_;try with_reducible intro nq hnq));try dsimp only[Ex.then,Ex.inBlock,putD,Env.put])|(refine CS.exit ?_;try dsimp only[Ex.then,Ex.inBlock,↓reduceIte,Nat.reduceEqDiff];try simp only[↓reduceIte])|(refine resK.nil ?_;dsimp only[resV]))
    exact ⟨_, H, rfl, by exact zD, by rw [firstNot_go (A := ax h) (k := 0) h1, firstNot_go (A := ax h) (k := 1) h2, firstNot_go (A := ax h) hA3, firstNot_go (A := ax h) hA4, firstNot_end (A := ax h) (k := 4) (fun q : ax5 h => h9 q.2)]; rfl, rfl⟩
  · have hA5 : ax h 4 := show ax5 h from ⟨fun i' j' h1 h2 => by rw [hS.N] at h1 h2; exact hJ5 i' j' h1 h2, h9⟩
    (repeat first|refine zA ?_|(refine CS.tailL _ (List.Mem.head _) ?_;dsimp only[List.take,List.drop])|refine zC ?_|((first|refine zB ?_|(refine LS.nilO ?_;intro nq hnq hltq)|(refine MS.new ?_;intro bq hbq hbqf)|(refine MS.nil ?_;intro nq hnq hltq;have hlq:=hltq _ _ (Hp.get_eq _ _ _);clear hltq)|(refine LS.nilQ ?_;try with_reducible intro nq hnq));try dsimp only[Ex.then,Ex.inBlock,putD,Env.put])|(refine CS.exit ?_;try dsimp only[Ex.then,Ex.inBlock,↓reduceIte,Nat.reduceEqDiff];try simp only[↓reduceIte])|(refine resK.nil ?_;dsimp only[resV]))
    exact ⟨_, H, rfl, by exact zD, by rw [firstNot_go (A := ax h) (k := 0) h1, firstNot_go (A := ax h) (k := 1) h2, firstNot_go (A := ax h) hA3, firstNot_go (A := ax h) hA4, firstNot_go (A := ax h) hA5]; rfl, rfl⟩

theorem spec_l03Fails (h : HT) (a : Nat) (K : Nat → SV) (H : Hp) (n : Nat) (hS : HS h a) (hK : h.At K) (hB : h.By) :
    FnS Try.prog 49 [.arr 1106 K] H n (fun r H' _ => r = i64 (firstNot (ax h) 0 7) ∧ H' = H) := by
  have e7 := firstNot_split (ax h) 2 5 0
  have hk6 := hK.s
  refine FnS.of_body Try.func49 tr49 (by simp) (fun hf => ?_)
  dsimp only [argEnv]
  unfold ir49
  (repeat first|refine zA ?_|(refine CS.tailL _ (List.Mem.head _) ?_;dsimp only[List.take,List.drop])|refine zC ?_|((first|refine zB ?_|(refine LS.nilO ?_;intro nq hnq hltq)|(refine MS.new ?_;intro bq hbq hbqf)|(refine MS.nil ?_;intro nq hnq hltq;have hlq:=hltq _ _ (Hp.get_eq _ _ _);clear hltq)|(refine LS.nilQ ?_;try with_reducible intro nq hnq));try dsimp only[Ex.then,Ex.inBlock,putD,Env.put])|(refine CS.exit ?_;try dsimp only[Ex.then,Ex.inBlock,↓reduceIte,Nat.reduceEqDiff];try simp only[↓reduceIte])|(refine resK.nil ?_;dsimp only[resV]))
  refine RS.call rfl ((FnS.args (concs_cons (conc_arr (fun q hq => rfl)) rfl) (spec_l03Bialgebra h a K _ _ hS hK hB)).mono ?_)
  rintro r H n2 hn2 ⟨rfl, rfl⟩
  (repeat first|refine zA ?_|(refine CS.tailL _ (List.Mem.head _) ?_;dsimp only[List.take,List.drop])|refine zC ?_|((first|refine zB ?_|(refine LS.nilO ?_;intro nq hnq hltq)|(refine MS.new ?_;intro bq hbq hbqf)|(refine MS.nil ?_;intro nq hnq hltq;have hlq:=hltq _ _ (Hp.get_eq _ _ _);clear hltq)|(refine LS.nilQ ?_;try with_reducible intro nq hnq));try dsimp only[Ex.then,Ex.inBlock,putD,Env.put])|(refine CS.exit ?_;try dsimp only[Ex.then,Ex.inBlock,↓reduceIte,Nat.reduceEqDiff];try simp only[↓reduceIte])|(refine resK.nil ?_;dsimp only[resV]))
  refine zI ?_ ?_<;>intro h1
  · (repeat first|refine zA ?_|(refine CS.tailL _ (List.Mem.head _) ?_;dsimp only[List.take,List.drop])|refine zC ?_|((first|refine zB ?_|(refine LS.nilO ?_;intro nq hnq hltq)|(refine MS.new ?_;intro bq hbq hbqf)|(refine MS.nil ?_;intro nq hnq hltq;have hlq:=hltq _ _ (Hp.get_eq _ _ _);clear hltq)|(refine LS.nilQ ?_;try with_reducible intro nq hnq));try dsimp only[Ex.then,Ex.inBlock,putD,Env.put])|(refine CS.exit ?_;try dsimp only[Ex.then,Ex.inBlock,↓reduceIte,Nat.reduceEqDiff];try simp only[↓reduceIte])|(refine resK.nil ?_;dsimp only[resV]))
    exact ⟨_, H, rfl, by exact zD, by rw [e7, if_neg h1], rfl⟩
  (repeat first|refine zA ?_|(refine CS.tailL _ (List.Mem.head _) ?_;dsimp only[List.take,List.drop])|refine zC ?_|((first|refine zB ?_|(refine LS.nilO ?_;intro nq hnq hltq)|(refine MS.new ?_;intro bq hbq hbqf)|(refine MS.nil ?_;intro nq hnq hltq;have hlq:=hltq _ _ (Hp.get_eq _ _ _);clear hltq)|(refine LS.nilQ ?_;try with_reducible intro nq hnq));try dsimp only[Ex.then,Ex.inBlock,putD,Env.put])|(refine CS.exit ?_;try dsimp only[Ex.then,Ex.inBlock,↓reduceIte,Nat.reduceEqDiff];try simp only[↓reduceIte])|(refine resK.nil ?_;dsimp only[resV]))
  refine RS.call rfl ((FnS.args (concs_cons (conc_arr (fun q hq => rfl)) rfl) (spec_l03Antipode h a false (g6 h.p h.m h.s a) rfl K _ _ hS hK hB)).mono ?_)
  rintro r H n3 hn3 ⟨rfl, rfl⟩
  (repeat first|refine zA ?_|(refine CS.tailL _ (List.Mem.head _) ?_;dsimp only[List.take,List.drop])|refine zC ?_|((first|refine zB ?_|(refine LS.nilO ?_;intro nq hnq hltq)|(refine MS.new ?_;intro bq hbq hbqf)|(refine MS.nil ?_;intro nq hnq hltq;have hlq:=hltq _ _ (Hp.get_eq _ _ _);clear hltq)|(refine LS.nilQ ?_;try with_reducible intro nq hnq));try dsimp only[Ex.then,Ex.inBlock,putD,Env.put])|(refine CS.exit ?_;try dsimp only[Ex.then,Ex.inBlock,↓reduceIte,Nat.reduceEqDiff];try simp only[↓reduceIte])|(refine resK.nil ?_;dsimp only[resV]))
  refine zI ?_ ?_<;>intro h2
  · (repeat first|refine zA ?_|(refine CS.tailL _ (List.Mem.head _) ?_;dsimp only[List.take,List.drop])|refine zC ?_|((first|refine zB ?_|(refine LS.nilO ?_;intro nq hnq hltq)|(refine MS.new ?_;intro bq hbq hbqf)|(refine MS.nil ?_;intro nq hnq hltq;have hlq:=hltq _ _ (Hp.get_eq _ _ _);clear hltq)|(refine LS.nilQ ?_;try with_reducible intro nq hnq));try dsimp only[Ex.then,Ex.inBlock,putD,Env.put])|(refine CS.exit ?_;try dsimp only[Ex.then,Ex.inBlock,↓reduceIte,Nat.reduceEqDiff];try simp only[↓reduceIte])|(refine resK.nil ?_;dsimp only[resV]))
    exact ⟨_, H, rfl, by exact zD, by rw [e7, if_pos h1, firstNot_end (A := ax h) (fun q => h2 ((ax_fold6 hS).1 q))]; rfl, rfl⟩
  (repeat first|refine zA ?_|(refine CS.tailL _ (List.Mem.head _) ?_;dsimp only[List.take,List.drop])|refine zC ?_|((first|refine zB ?_|(refine LS.nilO ?_;intro nq hnq hltq)|(refine MS.new ?_;intro bq hbq hbqf)|(refine MS.nil ?_;intro nq hnq hltq;have hlq:=hltq _ _ (Hp.get_eq _ _ _);clear hltq)|(refine LS.nilQ ?_;try with_reducible intro nq hnq));try dsimp only[Ex.then,Ex.inBlock,putD,Env.put])|(refine CS.exit ?_;try dsimp only[Ex.then,Ex.inBlock,↓reduceIte,Nat.reduceEqDiff];try simp only[↓reduceIte])|(refine resK.nil ?_;dsimp only[resV]))
  refine RS.call rfl ((FnS.args (concs_cons (conc_arr (fun q hq => rfl)) rfl) (spec_l03Antipode h a true (g7 h.p h.m h.s a) rfl K _ _ hS hK hB)).mono ?_)
  rintro r H n4 hn4 ⟨rfl, rfl⟩
  (repeat first|refine zA ?_|(refine CS.tailL _ (List.Mem.head _) ?_;dsimp only[List.take,List.drop])|refine zC ?_|((first|refine zB ?_|(refine LS.nilO ?_;intro nq hnq hltq)|(refine MS.new ?_;intro bq hbq hbqf)|(refine MS.nil ?_;intro nq hnq hltq;have hlq:=hltq _ _ (Hp.get_eq _ _ _);clear hltq)|(refine LS.nilQ ?_;try with_reducible intro nq hnq));try dsimp only[Ex.then,Ex.inBlock,putD,Env.put])|(refine CS.exit ?_;try dsimp only[Ex.then,Ex.inBlock,↓reduceIte,Nat.reduceEqDiff];try simp only[↓reduceIte])|(refine resK.nil ?_;dsimp only[resV]))
  refine zI ?_ ?_<;>intro h3
  · (repeat first|refine zA ?_|(refine CS.tailL _ (List.Mem.head _) ?_;dsimp only[List.take,List.drop])|refine zC ?_|((first|refine zB ?_|(refine LS.nilO ?_;intro nq hnq hltq)|(refine MS.new ?_;intro bq hbq hbqf)|(refine MS.nil ?_;intro nq hnq hltq;have hlq:=hltq _ _ (Hp.get_eq _ _ _);clear hltq)|(refine LS.nilQ ?_;try with_reducible intro nq hnq));try dsimp only[Ex.then,Ex.inBlock,putD,Env.put])|(refine CS.exit ?_;try dsimp only[Ex.then,Ex.inBlock,↓reduceIte,Nat.reduceEqDiff];try simp only[↓reduceIte])|(refine resK.nil ?_;dsimp only[resV]))
    exact ⟨_, H, rfl, by exact zD, by rw [e7, if_pos h1, firstNot_go (A := ax h) ((ax_fold6 hS).2 h2), firstNot_end (A := ax h) (fun q => h3 ((ax_fold7 hS).1 q))]; rfl, rfl⟩
  · (repeat first|refine zA ?_|(refine CS.tailL _ (List.Mem.head _) ?_;dsimp only[List.take,List.drop])|refine zC ?_|((first|refine zB ?_|(refine LS.nilO ?_;intro nq hnq hltq)|(refine MS.new ?_;intro bq hbq hbqf)|(refine MS.nil ?_;intro nq hnq hltq;have hlq:=hltq _ _ (Hp.get_eq _ _ _);clear hltq)|(refine LS.nilQ ?_;try with_reducible intro nq hnq));try dsimp only[Ex.then,Ex.inBlock,putD,Env.put])|(refine CS.exit ?_;try dsimp only[Ex.then,Ex.inBlock,↓reduceIte,Nat.reduceEqDiff];try simp only[↓reduceIte])|(refine resK.nil ?_;dsimp only[resV]))
    exact ⟨_, H, rfl, by exact zD, by rw [e7, if_pos h1, firstNot_go (A := ax h) ((ax_fold6 hS).2 h2), firstNot_go (A := ax h) ((ax_fold7 hS).2 h3)]; rfl, rfl⟩

theorem spec_l03Shape (h : HT) (K : Nat → SV) (H : Hp) (n : Nat) (hK : h.At K) (hB : h.By) :
    FnS Try.prog 48 [.arr 1106 K] H n (fun r H' _ => r = bl (tb (shH h)) ∧ H' = H) := by
  have hk0 := hK.p
  have hk1 := hK.n
  have hk2 := hK.u
  have hk3 := hK.m
  have hk4 := hK.e
  have hk5 := hK.c
  have hk6 := hK.s
  refine FnS.of_body Try.func48 tr48 (by simp) (fun hf => ?_)
  dsimp only [argEnv]
  unfold ir48
  (repeat first|refine zA ?_|(refine CS.tailL _ (List.Mem.head _) ?_;dsimp only[List.take,List.drop])|refine zC ?_|((first|refine zB ?_|(refine LS.nilO ?_;intro nq hnq hltq)|(refine MS.new ?_;intro bq hbq hbqf)|(refine MS.nil ?_;intro nq hnq hltq;have hlq:=hltq _ _ (Hp.get_eq _ _ _);clear hltq)|(refine LS.nilQ ?_;try with_reducible intro nq hnq));try dsimp only[Ex.then,Ex.inBlock,putD,Env.put])|(refine CS.exit ?_;try dsimp only[Ex.then,Ex.inBlock,↓reduceIte,Nat.reduceEqDiff];try simp only[↓reduceIte])|(refine resK.nil ?_;dsimp only[resV]))
  refine RS.call rfl ((FnS.args (concs_cons (conc_arr (fun q hq => rfl)) rfl) (spec_l03Algebra K h _ _ hK)).mono ?_)
  rintro r H n2 hn2 ⟨rfl, rfl⟩
  (repeat first|refine zA ?_|(refine CS.tailL _ (List.Mem.head _) ?_;dsimp only[List.take,List.drop])|refine zC ?_|((first|refine zB ?_|(refine LS.nilO ?_;intro nq hnq hltq)|(refine MS.new ?_;intro bq hbq hbqf)|(refine MS.nil ?_;intro nq hnq hltq;have hlq:=hltq _ _ (Hp.get_eq _ _ _);clear hltq)|(refine LS.nilQ ?_;try with_reducible intro nq hnq));try dsimp only[Ex.then,Ex.inBlock,putD,Env.put])|(refine CS.exit ?_;try dsimp only[Ex.then,Ex.inBlock,↓reduceIte,Nat.reduceEqDiff];try simp only[↓reduceIte])|(refine resK.nil ?_;dsimp only[resV]))
  refine RS.call rfl ((spec_l01Shape h.p h.n h.u h.m K _ _ hk0 hk1 hk2 hk3 hB.u hB.m).mono ?_)
  rintro r H n3 hn3 ⟨rfl, rfl⟩
  (repeat first|refine zA ?_|(refine CS.tailL _ (List.Mem.head _) ?_;dsimp only[List.take,List.drop])|refine zC ?_|((first|refine zB ?_|(refine LS.nilO ?_;intro nq hnq hltq)|(refine MS.new ?_;intro bq hbq hbqf)|(refine MS.nil ?_;intro nq hnq hltq;have hlq:=hltq _ _ (Hp.get_eq _ _ _);clear hltq)|(refine LS.nilQ ?_;try with_reducible intro nq hnq));try dsimp only[Ex.then,Ex.inBlock,putD,Env.put])|(refine CS.exit ?_;try dsimp only[Ex.then,Ex.inBlock,↓reduceIte,Nat.reduceEqDiff];try simp only[↓reduceIte])|(refine resK.nil ?_;dsimp only[resV]))
  refine RS.sp (t := 12) rfl (fun h1 => ?_) (fun h1 => ?_) <;> (try simp only [tb_eq, tb_eqF, decide_eq_true_eq, decide_eq_false_iff_not, beq_iff_eq, bne_iff_ne, ne_eq, Decidable.not_not, beq_eq_false_iff_ne, bne_eq_false_iff_eq, Bool.not_eq_true', Bool.not_eq_false', Bool.not_eq_eq_eq_not, Bool.not_true, Bool.not_false] at h1)
  · (repeat first|refine zA ?_|(refine CS.tailL _ (List.Mem.head _) ?_;dsimp only[List.take,List.drop])|refine zC ?_|((first|refine zB ?_|(refine LS.nilO ?_;intro nq hnq hltq)|(refine MS.new ?_;intro bq hbq hbqf)|(refine MS.nil ?_;intro nq hnq hltq;have hlq:=hltq _ _ (Hp.get_eq _ _ _);clear hltq)|(refine LS.nilQ ?_;try with_reducible intro nq hnq));try dsimp only[Ex.then,Ex.inBlock,putD,Env.put])|(refine CS.exit ?_;try dsimp only[Ex.then,Ex.inBlock,↓reduceIte,Nat.reduceEqDiff];try simp only[↓reduceIte])|(refine resK.nil ?_;dsimp only[resV]))
    refine RS.call rfl ((spec_l01Vector h.p h.n h.e _ _ hB.e).mono ?_)
    rintro r H n4 hn4 ⟨rfl, rfl⟩
    (repeat first|refine zA ?_|(refine CS.tailL _ (List.Mem.head _) ?_;dsimp only[List.take,List.drop])|refine zC ?_|((first|refine zB ?_|(refine LS.nilO ?_;intro nq hnq hltq)|(refine MS.new ?_;intro bq hbq hbqf)|(refine MS.nil ?_;intro nq hnq hltq;have hlq:=hltq _ _ (Hp.get_eq _ _ _);clear hltq)|(refine LS.nilQ ?_;try with_reducible intro nq hnq));try dsimp only[Ex.then,Ex.inBlock,putD,Env.put])|(refine CS.exit ?_;try dsimp only[Ex.then,Ex.inBlock,↓reduceIte,Nat.reduceEqDiff];try simp only[↓reduceIte])|(refine resK.nil ?_;dsimp only[resV]))
    refine RS.sp (t := 19) rfl (fun h2 => ?_) (fun h2 => ?_) <;> (try simp only [tb_eq, tb_eqF, decide_eq_true_eq, decide_eq_false_iff_not, beq_iff_eq, bne_iff_ne, ne_eq, Decidable.not_not, beq_eq_false_iff_ne, bne_eq_false_iff_eq, Bool.not_eq_true', Bool.not_eq_false', Bool.not_eq_eq_eq_not, Bool.not_true, Bool.not_false] at h2)
    · (repeat first|refine zA ?_|(refine CS.tailL _ (List.Mem.head _) ?_;dsimp only[List.take,List.drop])|refine zC ?_|((first|refine zB ?_|(refine LS.nilO ?_;intro nq hnq hltq)|(refine MS.new ?_;intro bq hbq hbqf)|(refine MS.nil ?_;intro nq hnq hltq;have hlq:=hltq _ _ (Hp.get_eq _ _ _);clear hltq)|(refine LS.nilQ ?_;try with_reducible intro nq hnq));try dsimp only[Ex.then,Ex.inBlock,putD,Env.put])|(refine CS.exit ?_;try dsimp only[Ex.then,Ex.inBlock,↓reduceIte,Nat.reduceEqDiff];try simp only[↓reduceIte])|(refine resK.nil ?_;dsimp only[resV]))
      refine RS.call rfl ((spec_l01Table h.p h.n h.c _ _ hB.c).mono ?_)
      rintro r H n5 hn5 ⟨rfl, rfl⟩
      (repeat first|refine zA ?_|(refine CS.tailL _ (List.Mem.head _) ?_;dsimp only[List.take,List.drop])|refine zC ?_|((first|refine zB ?_|(refine LS.nilO ?_;intro nq hnq hltq)|(refine MS.new ?_;intro bq hbq hbqf)|(refine MS.nil ?_;intro nq hnq hltq;have hlq:=hltq _ _ (Hp.get_eq _ _ _);clear hltq)|(refine LS.nilQ ?_;try with_reducible intro nq hnq));try dsimp only[Ex.then,Ex.inBlock,putD,Env.put])|(refine CS.exit ?_;try dsimp only[Ex.then,Ex.inBlock,↓reduceIte,Nat.reduceEqDiff];try simp only[↓reduceIte])|(refine resK.nil ?_;dsimp only[resV]))
      refine RS.sp (t := 26) rfl (fun h3 => ?_) (fun h3 => ?_) <;> (try simp only [tb_eq, tb_eqF, decide_eq_true_eq, decide_eq_false_iff_not, beq_iff_eq, bne_iff_ne, ne_eq, Decidable.not_not, beq_eq_false_iff_ne, bne_eq_false_iff_eq, Bool.not_eq_true', Bool.not_eq_false', Bool.not_eq_eq_eq_not, Bool.not_true, Bool.not_false] at h3)
      · (repeat first|refine zA ?_|(refine CS.tailL _ (List.Mem.head _) ?_;dsimp only[List.take,List.drop])|refine zC ?_|((first|refine zB ?_|(refine LS.nilO ?_;intro nq hnq hltq)|(refine MS.new ?_;intro bq hbq hbqf)|(refine MS.nil ?_;intro nq hnq hltq;have hlq:=hltq _ _ (Hp.get_eq _ _ _);clear hltq)|(refine LS.nilQ ?_;try with_reducible intro nq hnq));try dsimp only[Ex.then,Ex.inBlock,putD,Env.put])|(refine CS.exit ?_;try dsimp only[Ex.then,Ex.inBlock,↓reduceIte,Nat.reduceEqDiff];try simp only[↓reduceIte])|(refine resK.nil ?_;dsimp only[resV]))
        refine RS.call rfl ((spec_l01Linear h.p h.n h.s _ _ hB.s).mono ?_)
        rintro r H n6 hn6 ⟨rfl, rfl⟩
        (repeat first|refine zA ?_|(refine CS.tailL _ (List.Mem.head _) ?_;dsimp only[List.take,List.drop])|refine zC ?_|((first|refine zB ?_|(refine LS.nilO ?_;intro nq hnq hltq)|(refine MS.new ?_;intro bq hbq hbqf)|(refine MS.nil ?_;intro nq hnq hltq;have hlq:=hltq _ _ (Hp.get_eq _ _ _);clear hltq)|(refine LS.nilQ ?_;try with_reducible intro nq hnq));try dsimp only[Ex.then,Ex.inBlock,putD,Env.put])|(refine CS.exit ?_;try dsimp only[Ex.then,Ex.inBlock,↓reduceIte,Nat.reduceEqDiff];try simp only[↓reduceIte])|(refine resK.nil ?_;dsimp only[resV]))
        exact ⟨_, H, rfl, by exact zD, congrArg bl (tb_iff ⟨fun q => ⟨h1, ⟨h1.1, h2, h3⟩, q⟩, fun q => q.2.2⟩), rfl⟩
      · (repeat first|refine zA ?_|(refine CS.tailL _ (List.Mem.head _) ?_;dsimp only[List.take,List.drop])|refine zC ?_|((first|refine zB ?_|(refine LS.nilO ?_;intro nq hnq hltq)|(refine MS.new ?_;intro bq hbq hbqf)|(refine MS.nil ?_;intro nq hnq hltq;have hlq:=hltq _ _ (Hp.get_eq _ _ _);clear hltq)|(refine LS.nilQ ?_;try with_reducible intro nq hnq));try dsimp only[Ex.then,Ex.inBlock,putD,Env.put])|(refine CS.exit ?_;try dsimp only[Ex.then,Ex.inBlock,↓reduceIte,Nat.reduceEqDiff];try simp only[↓reduceIte])|(refine resK.nil ?_;dsimp only[resV]))
        exact ⟨_, H, rfl, by exact zD, by rw [tb_false (fun q => h3 q.2.1.2.2)], rfl⟩
    · (repeat first|refine zA ?_|(refine CS.tailL _ (List.Mem.head _) ?_;dsimp only[List.take,List.drop])|refine zC ?_|((first|refine zB ?_|(refine LS.nilO ?_;intro nq hnq hltq)|(refine MS.new ?_;intro bq hbq hbqf)|(refine MS.nil ?_;intro nq hnq hltq;have hlq:=hltq _ _ (Hp.get_eq _ _ _);clear hltq)|(refine LS.nilQ ?_;try with_reducible intro nq hnq));try dsimp only[Ex.then,Ex.inBlock,putD,Env.put])|(refine CS.exit ?_;try dsimp only[Ex.then,Ex.inBlock,↓reduceIte,Nat.reduceEqDiff];try simp only[↓reduceIte])|(refine resK.nil ?_;dsimp only[resV]))
      exact ⟨_, H, rfl, by exact zD, by rw [tb_false (fun q => h2 q.2.1.2.1)], rfl⟩
  · (repeat first|refine zA ?_|(refine CS.tailL _ (List.Mem.head _) ?_;dsimp only[List.take,List.drop])|refine zC ?_|((first|refine zB ?_|(refine LS.nilO ?_;intro nq hnq hltq)|(refine MS.new ?_;intro bq hbq hbqf)|(refine MS.nil ?_;intro nq hnq hltq;have hlq:=hltq _ _ (Hp.get_eq _ _ _);clear hltq)|(refine LS.nilQ ?_;try with_reducible intro nq hnq));try dsimp only[Ex.then,Ex.inBlock,putD,Env.put])|(refine CS.exit ?_;try dsimp only[Ex.then,Ex.inBlock,↓reduceIte,Nat.reduceEqDiff];try simp only[↓reduceIte])|(refine resK.nil ?_;dsimp only[resV]))
    exact ⟨_, H, rfl, by exact zD, by rw [tb_false (fun q => h1 q.1)], rfl⟩

theorem spec_l03Is (h : HT) (K : Nat → SV) (H : Hp) (n : Nat) (hK : h.At K) (hB : h.By) :
    FnS Try.prog 26 [.arr 1106 K] H n (fun r H' _ => r = bl (tb (isHopf h)) ∧ H' = H) := by
  refine FnS.of_body Try.func26 tr26 (by simp) (fun hf => ?_)
  dsimp only [argEnv]
  unfold ir26
  (repeat first|refine zA ?_|(refine CS.tailL _ (List.Mem.head _) ?_;dsimp only[List.take,List.drop])|refine zC ?_|((first|refine zB ?_|(refine LS.nilO ?_;intro nq hnq hltq)|(refine MS.new ?_;intro bq hbq hbqf)|(refine MS.nil ?_;intro nq hnq hltq;have hlq:=hltq _ _ (Hp.get_eq _ _ _);clear hltq)|(refine LS.nilQ ?_;try with_reducible intro nq hnq));try dsimp only[Ex.then,Ex.inBlock,putD,Env.put])|(refine CS.exit ?_;try dsimp only[Ex.then,Ex.inBlock,↓reduceIte,Nat.reduceEqDiff];try simp only[↓reduceIte])|(refine resK.nil ?_;dsimp only[resV]))
  refine RS.call rfl ((FnS.args (concs_cons (conc_arr (fun q hq => rfl)) rfl) (spec_l03Shape h K _ _ hK hB)).mono ?_)
  rintro r H n2 hn2 ⟨rfl, rfl⟩
  (repeat first|refine zA ?_|(refine CS.tailL _ (List.Mem.head _) ?_;dsimp only[List.take,List.drop])|refine zC ?_|((first|refine zB ?_|(refine LS.nilO ?_;intro nq hnq hltq)|(refine MS.new ?_;intro bq hbq hbqf)|(refine MS.nil ?_;intro nq hnq hltq;have hlq:=hltq _ _ (Hp.get_eq _ _ _);clear hltq)|(refine LS.nilQ ?_;try with_reducible intro nq hnq));try dsimp only[Ex.then,Ex.inBlock,putD,Env.put])|(refine CS.exit ?_;try dsimp only[Ex.then,Ex.inBlock,↓reduceIte,Nat.reduceEqDiff];try simp only[↓reduceIte])|(refine resK.nil ?_;dsimp only[resV]))
  refine RS.sp (t := 5) rfl (fun h1 => ?_) (fun h1 => ?_) <;> (try simp only [tb_eq, tb_eqF, decide_eq_true_eq, decide_eq_false_iff_not, beq_iff_eq, bne_iff_ne, ne_eq, Decidable.not_not, beq_eq_false_iff_ne, bne_eq_false_iff_eq, Bool.not_eq_true', Bool.not_eq_false', Bool.not_eq_eq_eq_not, Bool.not_true, Bool.not_false] at h1)
  · obtain ⟨a, hS⟩ := h1.hs
    (repeat first|refine zA ?_|(refine CS.tailL _ (List.Mem.head _) ?_;dsimp only[List.take,List.drop])|refine zC ?_|((first|refine zB ?_|(refine LS.nilO ?_;intro nq hnq hltq)|(refine MS.new ?_;intro bq hbq hbqf)|(refine MS.nil ?_;intro nq hnq hltq;have hlq:=hltq _ _ (Hp.get_eq _ _ _);clear hltq)|(refine LS.nilQ ?_;try with_reducible intro nq hnq));try dsimp only[Ex.then,Ex.inBlock,putD,Env.put])|(refine CS.exit ?_;try dsimp only[Ex.then,Ex.inBlock,↓reduceIte,Nat.reduceEqDiff];try simp only[↓reduceIte])|(refine resK.nil ?_;dsimp only[resV]))
    refine RS.call rfl ((FnS.args (concs_cons (conc_arr (fun q hq => rfl)) rfl) (spec_l03Fails h a K _ _ hS hK hB)).mono ?_)
    rintro r H n3 hn3 ⟨rfl, rfl⟩
    (repeat first|refine zA ?_|(refine CS.tailL _ (List.Mem.head _) ?_;dsimp only[List.take,List.drop])|refine zC ?_|((first|refine zB ?_|(refine LS.nilO ?_;intro nq hnq hltq)|(refine MS.new ?_;intro bq hbq hbqf)|(refine MS.nil ?_;intro nq hnq hltq;have hlq:=hltq _ _ (Hp.get_eq _ _ _);clear hltq)|(refine LS.nilQ ?_;try with_reducible intro nq hnq));try dsimp only[Ex.then,Ex.inBlock,putD,Env.put])|(refine CS.exit ?_;try dsimp only[Ex.then,Ex.inBlock,↓reduceIte,Nat.reduceEqDiff];try simp only[↓reduceIte])|(refine resK.nil ?_;dsimp only[resV]))
    exact ⟨_, H, rfl, by exact zD, by rw [tb_iff (R := firstNot (ax h) 0 7 = 0) ⟨fun q => q.2, fun q => ⟨h1, q⟩⟩, tb_dec]; rfl, rfl⟩
  · (repeat first|refine zA ?_|(refine CS.tailL _ (List.Mem.head _) ?_;dsimp only[List.take,List.drop])|refine zC ?_|((first|refine zB ?_|(refine LS.nilO ?_;intro nq hnq hltq)|(refine MS.new ?_;intro bq hbq hbqf)|(refine MS.nil ?_;intro nq hnq hltq;have hlq:=hltq _ _ (Hp.get_eq _ _ _);clear hltq)|(refine LS.nilQ ?_;try with_reducible intro nq hnq));try dsimp only[Ex.then,Ex.inBlock,putD,Env.put])|(refine CS.exit ?_;try dsimp only[Ex.then,Ex.inBlock,↓reduceIte,Nat.reduceEqDiff];try simp only[↓reduceIte])|(refine resK.nil ?_;dsimp only[resV]))
    exact ⟨_, H, rfl, by exact zD, by rw [tb_false (fun q => h1 q.1)], rfl⟩

end Go.Proofs.Ytnkmpelakhhoiaa

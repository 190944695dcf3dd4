/- The axioms of Hopf algebras, on the reference's side. -/
import Derived.Test.YtnkmpelakhhoiaaC16
namespace Go.V
theorem firstNot_split (A : Nat → Prop) (j : Nat) : ∀ (i k : Nat), firstNot A k (i + j) = if firstNot A k i = 0 then firstNot A (k + i) j else firstNot A k i
  | 0, k => by rw [Nat.zero_add, if_pos (show firstNot A k 0 = 0 from rfl)]; rfl
  | i + 1, k => by
    rw [show i + 1 + j = (i + j) + 1 by omega]
    by_cases h : A k
    · rw [firstNot_go h, firstNot_go h, firstNot_split A j i (k + 1), show k + 1 + i = k + (i + 1) by omega]
    · rw [firstNot_end h, firstNot_end h, if_neg (by omega)]

theorem ax4_rows {h : HT} {a : Nat} (hS : HS h a) : ax4 h ↔ ∀ j, j < a → ∀ q, q < 8 → cps h.p h.c h.u 8 (8 * j + q) = pl h.p (fun _ => 0) (h.u j) h.u q := by
  constructor
  · intro q j hj x hx
    rw [q (8 * j + x) (by have := hS.ha; omega), outer_row _ _ _ _ _ hx]
  · intro q x hx
    by_cases e : x < 8 * a
    · have := q (x / 8) (by omega) (x % 8) (by omega)
      rw [outer_row _ _ _ _ _ (by omega), show 8 * (x / 8) + x % 8 = x by omega] at this
      exact this
    · have h1 : cps h.p h.c h.u 8 x = 0 := by
        unfold cps
        rw [sm_zero fun i hi => by rw [hS.cm.at hi hx (.inr (by omega)), Int.mul_zero]]
        rfl
      have h2 : outer h.p h.u h.u x = 0 := by
        unfold outer
        rw [hS.um (x / 8) (by omega) (by omega), Int.zero_mul]
        rfl
      rw [h1, h2]
end Go.V
namespace Go.Proofs.Ytnkmpelakhhoiaa
open Go.V
set_option linter.unusedSimpArgs false
set_option linter.unusedVariables false
set_option maxHeartbeats 4000000

theorem spec_l03Counit (h : HT) (a : Nat) (v : Nat → Int) (K : Nat → SV) (H : Hp) (n : Nat) (hS : HS h a) (hK : h.At K) (hB : h.By) (hv : isBy 8 v) :
    FnS Try.prog 101 [.arr 1106 K, .arr 8 (bys v)] H n (fun r H' _ => r = i64 (dotk h.p h.e v 8) ∧ H' = H) := by
  have hp := hS.hp
  have ha := hS.ha
  have hk0 := hK.p
  have hk1 := hK.n
  rw [hS.hn] at hk1
  have hk5 := hK.e
  refine FnS.of_body Try.func101 tr101 (by simp) (fun hf => ?_)
  dsimp only [argEnv]
  unfold ir101
  (repeat first|refine zA ?_|(refine CS.tailL _ (List.Mem.head _) ?_;dsimp only[List.take,List.drop])|refine zC ?_|((first|refine zB ?_|(refine LS.nilO ?_;intro nq hnq hltq)|(refine MS.new ?_;intro bq hbq hbqf)|(refine MS.nil ?_;intro nq hnq hltq;have hlq:=hltq _ _ (Hp.get_eq _ _ _);clear hltq)|(refine LS.nilQ ?_;try with_reducible intro nq hnq));try dsimp only[Ex.then,Ex.inBlock,putD,Env.put])|(refine CS.exit ?_;try dsimp only[Ex.then,Ex.inBlock,↓reduceIte,Nat.reduceEqDiff];try simp only[↓reduceIte])|(refine resK.nil ?_;dsimp only[resV]))
  refine CS.iter a (fun i => [(6, i64 i), (5, i64 (sm (fun i => v i * h.e i) i)), (2, ptr n 0), (3, ptr (n + 1) 0)]) (fun _ => (n + 1, ⟨8, bys v, 30⟩) :: (n, ⟨1106, K, 36⟩) :: H) (fun _ => True) (by (repeat first | exact trivial | refine And.intro rfl ?_)) (Drops.refl _ _) trivial ?_
  intro i n1 hi hn _
  have hs := sm_b (f := fun i => v i * h.e i) (B := 65025) (n := i) (fun q hq => by
    have h1 := hv q (by omega)
    have h2 := hB.e q (by omega)
    exact mulB h1.1 h1.2 h2.1 h2.2)
  (repeat first|refine zA ?_|(refine CS.tailL _ (List.Mem.head _) ?_;dsimp only[List.take,List.drop])|refine zC ?_|((first|refine zB ?_|(refine LS.nilO ?_;intro nq hnq hltq)|(refine MS.new ?_;intro bq hbq hbqf)|(refine MS.nil ?_;intro nq hnq hltq;have hlq:=hltq _ _ (Hp.get_eq _ _ _);clear hltq)|(refine LS.nilQ ?_;try with_reducible intro nq hnq));try dsimp only[Ex.then,Ex.inBlock,putD,Env.put])|(refine CS.exit ?_;try dsimp only[Ex.then,Ex.inBlock,↓reduceIte,Nat.reduceEqDiff];try simp only[↓reduceIte])|(refine resK.nil ?_;dsimp only[resV]))
  refine zI ?_ ?_<;>intro h2
  · have hvi := hv i (by omega)
    have hei := hB.e i (by omega)
    have hve := mulB hvi.1 hvi.2 hei.1 hei.2
    (repeat first|refine zA ?_|(refine CS.tailL _ (List.Mem.head _) ?_;dsimp only[List.take,List.drop])|refine zC ?_|((first|refine zB ?_|(refine LS.nilO ?_;intro nq hnq hltq)|(refine MS.new ?_;intro bq hbq hbqf)|(refine MS.nil ?_;intro nq hnq hltq;have hlq:=hltq _ _ (Hp.get_eq _ _ _);clear hltq)|(refine LS.nilQ ?_;try with_reducible intro nq hnq));try dsimp only[Ex.then,Ex.inBlock,putD,Env.put])|(refine CS.exit ?_;try dsimp only[Ex.then,Ex.inBlock,↓reduceIte,Nat.reduceEqDiff];try simp only[↓reduceIte])|(refine resK.nil ?_;dsimp only[resV]))
    exact ⟨by omega, by (repeat first | exact trivial | refine And.intro rfl ?_), Drops.refl _ _, trivial⟩
  · have : i = a := by omega
    subst this
    (repeat first|refine zA ?_|(refine CS.tailL _ (List.Mem.head _) ?_;dsimp only[List.take,List.drop])|refine zC ?_|((first|refine zB ?_|(refine LS.nilO ?_;intro nq hnq hltq)|(refine MS.new ?_;intro bq hbq hbqf)|(refine MS.nil ?_;intro nq hnq hltq;have hlq:=hltq _ _ (Hp.get_eq _ _ _);clear hltq)|(refine LS.nilQ ?_;try with_reducible intro nq hnq));try dsimp only[Ex.then,Ex.inBlock,putD,Env.put])|(refine CS.exit ?_;try dsimp only[Ex.then,Ex.inBlock,↓reduceIte,Nat.reduceEqDiff];try simp only[↓reduceIte])|(refine resK.nil ?_;dsimp only[resV]))
    exact ⟨i64 (dotk h.p v h.e i), H, rfl, by exact zD, by rw [dotk_end ha (.inr hS.em), dotk_comm], rfl⟩

theorem spec_l03Folded (h : HT) (a : Nat) (i : Nat) (bh : Bool) (g : Nat → Nat → Int) (hg : g = if bh = true then g7 h.p h.m h.s a else g6 h.p h.m h.s a) (hi : i < a) (K : Nat → SV) (H : Hp) (n : Nat) (hS : HS h a) (hK : h.At K) (hB : h.By) :
    FnS Try.prog 102 [.arr 1106 K, i64 i, .arr 64 (bys h.s), bl bh] H n (fun r H' _ => r = .arr 8 (bys (fold h.p h.c i g 64)) ∧ H' = H) := by
  have hp := hS.hp
  have ha := hS.ha
  have hk0 := hK.p
  have hk1 := hK.n
  rw [hS.hn] at hk1
  have hk5 := hK.c
  have hk6 := hK.m
  refine FnS.of_body Try.func102 tr102 (by simp) (fun hf => ?_)
  dsimp only [argEnv]
  unfold ir102
  (repeat first|refine zA ?_|(refine CS.tailL _ (List.Mem.head _) ?_;dsimp only[List.take,List.drop])|refine zC ?_|((first|refine zB ?_|(refine LS.nilO ?_;intro nq hnq hltq)|(refine MS.new ?_;intro bq hbq hbqf)|(refine MS.nil ?_;intro nq hnq hltq;have hlq:=hltq _ _ (Hp.get_eq _ _ _);clear hltq)|(refine LS.nilQ ?_;try with_reducible intro nq hnq));try dsimp only[Ex.then,Ex.inBlock,putD,Env.put])|(refine CS.exit ?_;try dsimp only[Ex.then,Ex.inBlock,↓reduceIte,Nat.reduceEqDiff];try simp only[↓reduceIte])|(refine resK.nil ?_;dsimp only[resV]))
  refine RS.call rfl ((FnS.args (concs_cons (conc_arr (fun q hq => rfl)) rfl) (spec_l03Algebra K h _ _ hK)).mono ?_)
  rintro r H n2 hn2 ⟨rfl, rfl⟩
  (repeat first|refine zA ?_|(refine CS.tailL _ (List.Mem.head _) ?_;dsimp only[List.take,List.drop])|refine zC ?_|((first|refine zB ?_|(refine LS.nilO ?_;intro nq hnq hltq)|(refine MS.new ?_;intro bq hbq hbqf)|(refine MS.nil ?_;intro nq hnq hltq;have hlq:=hltq _ _ (Hp.get_eq _ _ _);clear hltq)|(refine LS.nilQ ?_;try with_reducible intro nq hnq));try dsimp only[Ex.then,Ex.inBlock,putD,Env.put])|(refine CS.exit ?_;try dsimp only[Ex.then,Ex.inBlock,↓reduceIte,Nat.reduceEqDiff];try simp only[↓reduceIte])|(refine resK.nil ?_;dsimp only[resV]))
  refine CS.iter a (fun j => [(11, i64 j), (4, ptr n 0), (6, ptr (n + 1) 0), (8, ptr (n + 2) 0), (9, ptr n2 0), (10, ptr (n2 + 1) 0), (1, i64 i), (3, bl bh)])
    (fun j => (n2 + 1, ⟨522, K, 102⟩) :: (n2, ⟨8, bys (fold h.p h.c i g (8 * j)), 30⟩) :: (n + 2, ⟨8, bys (fun _ => 0), 30⟩) :: (n + 1, ⟨64, bys h.s, 32⟩) :: (n, ⟨1106, K, 36⟩) :: H) (fun _ => True) (by (repeat first | exact trivial | refine And.intro rfl ?_))
    (Drops.keepc rfl rfl (fun _ _ => rfl) (Drops.keepc rfl rfl (fun _ _ => by rw [show fold h.p h.c i g (8 * 0) = fun _ => 0 from fold_zero _ _ _ _]; rfl) (Drops.keepc rfl rfl (fun _ _ => rfl) (Drops.refl _ _)))) trivial ?_
  intro j n3 hj hn _
  (repeat first|refine zA ?_|(refine CS.tailL _ (List.Mem.head _) ?_;dsimp only[List.take,List.drop])|refine zC ?_|((first|refine zB ?_|(refine LS.nilO ?_;intro nq hnq hltq)|(refine MS.new ?_;intro bq hbq hbqf)|(refine MS.nil ?_;intro nq hnq hltq;have hlq:=hltq _ _ (Hp.get_eq _ _ _);clear hltq)|(refine LS.nilQ ?_;try with_reducible intro nq hnq));try dsimp only[Ex.then,Ex.inBlock,putD,Env.put])|(refine CS.exit ?_;try dsimp only[Ex.then,Ex.inBlock,↓reduceIte,Nat.reduceEqDiff];try simp only[↓reduceIte])|(refine resK.nil ?_;dsimp only[resV]))
  refine zI ?_ ?_<;>intro h2
  · (repeat first|refine zA ?_|(refine CS.tailL _ (List.Mem.head _) ?_;dsimp only[List.take,List.drop])|refine zC ?_|((first|refine zB ?_|(refine LS.nilO ?_;intro nq hnq hltq)|(refine MS.new ?_;intro bq hbq hbqf)|(refine MS.nil ?_;intro nq hnq hltq;have hlq:=hltq _ _ (Hp.get_eq _ _ _);clear hltq)|(refine LS.nilQ ?_;try with_reducible intro nq hnq));try dsimp only[Ex.then,Ex.inBlock,putD,Env.put])|(refine CS.exit ?_;try dsimp only[Ex.then,Ex.inBlock,↓reduceIte,Nat.reduceEqDiff];try simp only[↓reduceIte])|(refine resK.nil ?_;dsimp only[resV]))
    refine CS.iter a (fun k => [(12, i64 k), (11, i64 j), (4, ptr n 0), (6, ptr (n + 1) 0), (8, ptr (n + 2) 0), (9, ptr n2 0), (10, ptr (n2 + 1) 0), (1, i64 i), (3, bl bh)])
      (fun k => (n2 + 1, ⟨522, K, 102⟩) :: (n2, ⟨8, bys (fold h.p h.c i g (8 * j + k)), 30⟩) :: (n + 2, ⟨8, bys (fun _ => 0), 30⟩) :: (n + 1, ⟨64, bys h.s, 32⟩) :: (n, ⟨1106, K, 36⟩) :: H) (fun _ => True) (by (repeat first | exact trivial | refine And.intro rfl ?_))
      (Drops.refl _ _) trivial ?_
    intro k n4 hk hn4 _
    (repeat first|refine zA ?_|(refine CS.tailL _ (List.Mem.head _) ?_;dsimp only[List.take,List.drop])|refine zC ?_|((first|refine zB ?_|(refine LS.nilO ?_;intro nq hnq hltq)|(refine MS.new ?_;intro bq hbq hbqf)|(refine MS.nil ?_;intro nq hnq hltq;have hlq:=hltq _ _ (Hp.get_eq _ _ _);clear hltq)|(refine LS.nilQ ?_;try with_reducible intro nq hnq));try dsimp only[Ex.then,Ex.inBlock,putD,Env.put])|(refine CS.exit ?_;try dsimp only[Ex.then,Ex.inBlock,↓reduceIte,Nat.reduceEqDiff];try simp only[↓reduceIte])|(refine resK.nil ?_;dsimp only[resV]))
    refine zI ?_ ?_<;>intro h3
    · have hct := hB.c (64 * i + 8 * j + k) (by omega)
      have ect : 64 * i + 8 * j + k = 64 * i + (8 * j + k) := by omega
      (repeat first|refine zA ?_|(refine CS.tailL _ (List.Mem.head _) ?_;dsimp only[List.take,List.drop])|refine zC ?_|((first|refine zB ?_|(refine LS.nilO ?_;intro nq hnq hltq)|(refine MS.new ?_;intro bq hbq hbqf)|(refine MS.nil ?_;intro nq hnq hltq;have hlq:=hltq _ _ (Hp.get_eq _ _ _);clear hltq)|(refine LS.nilQ ?_;try with_reducible intro nq hnq));try dsimp only[Ex.then,Ex.inBlock,putD,Env.put])|(refine CS.exit ?_;try dsimp only[Ex.then,Ex.inBlock,↓reduceIte,Nat.reduceEqDiff];try simp only[↓reduceIte])|(refine resK.nil ?_;dsimp only[resV]))
      refine zI ?_ ?_<;>intro h4
      · (repeat first|refine zA ?_|(refine CS.tailL _ (List.Mem.head _) ?_;dsimp only[List.take,List.drop])|refine zC ?_|((first|refine zB ?_|(refine LS.nilO ?_;intro nq hnq hltq)|(refine MS.new ?_;intro bq hbq hbqf)|(refine MS.nil ?_;intro nq hnq hltq;have hlq:=hltq _ _ (Hp.get_eq _ _ _);clear hltq)|(refine LS.nilQ ?_;try with_reducible intro nq hnq));try dsimp only[Ex.then,Ex.inBlock,putD,Env.put])|(refine CS.exit ?_;try dsimp only[Ex.then,Ex.inBlock,↓reduceIte,Nat.reduceEqDiff];try simp only[↓reduceIte])|(refine resK.nil ?_;dsimp only[resV]))
        refine LS.callQ (.arr 8 (bys (bas k))) rfl (fun n' hn' => spec_l01Basis k _ _ (by omega)) ?_
        (repeat first|refine zA ?_|(refine CS.tailL _ (List.Mem.head _) ?_;dsimp only[List.take,List.drop])|refine zC ?_|((first|refine zB ?_|(refine LS.nilO ?_;intro nq hnq hltq)|(refine MS.new ?_;intro bq hbq hbqf)|(refine MS.nil ?_;intro nq hnq hltq;have hlq:=hltq _ _ (Hp.get_eq _ _ _);clear hltq)|(refine LS.nilQ ?_;try with_reducible intro nq hnq));try dsimp only[Ex.then,Ex.inBlock,putD,Env.put])|(refine CS.exit ?_;try dsimp only[Ex.then,Ex.inBlock,↓reduceIte,Nat.reduceEqDiff];try simp only[↓reduceIte])|(refine resK.nil ?_;dsimp only[resV]))
        refine LS.callQ (.arr 8 (bys (g6 h.p h.m h.s a (8 * j + k)))) rfl (fun n' hn' => by
          unfold g6; rw [show (8 * j + k) / 8 = j by omega, show (8 * j + k) % 8 = k by omega]
          exact spec_l01Times h.p a h.m (fun y => h.s (8 * j + y)) (bas k) K _ _ hp ha hk0 hk1 hk6 hB.m (hB.rows (by omega)) (bas_by _ _)) ?_
        (repeat first|refine zA ?_|(refine CS.tailL _ (List.Mem.head _) ?_;dsimp only[List.take,List.drop])|refine zC ?_|((first|refine zB ?_|(refine LS.nilO ?_;intro nq hnq hltq)|(refine MS.new ?_;intro bq hbq hbqf)|(refine MS.nil ?_;intro nq hnq hltq;have hlq:=hltq _ _ (Hp.get_eq _ _ _);clear hltq)|(refine LS.nilQ ?_;try with_reducible intro nq hnq));try dsimp only[Ex.then,Ex.inBlock,putD,Env.put])|(refine CS.exit ?_;try dsimp only[Ex.then,Ex.inBlock,↓reduceIte,Nat.reduceEqDiff];try simp only[↓reduceIte])|(refine resK.nil ?_;dsimp only[resV]))
        cases bh
        · have hg6 : g = g6 h.p h.m h.s a := by rw [hg]; rfl
          (repeat first|refine zA ?_|(refine CS.tailL _ (List.Mem.head _) ?_;dsimp only[List.take,List.drop])|refine zC ?_|((first|refine zB ?_|(refine LS.nilO ?_;intro nq hnq hltq)|(refine MS.new ?_;intro bq hbq hbqf)|(refine MS.nil ?_;intro nq hnq hltq;have hlq:=hltq _ _ (Hp.get_eq _ _ _);clear hltq)|(refine LS.nilQ ?_;try with_reducible intro nq hnq));try dsimp only[Ex.then,Ex.inBlock,putD,Env.put])|(refine CS.exit ?_;try dsimp only[Ex.then,Ex.inBlock,↓reduceIte,Nat.reduceEqDiff];try simp only[↓reduceIte])|(refine resK.nil ?_;dsimp only[resV]))
          refine RS.call rfl ((spec_l01Add h.p (h.c (64 * i + 8 * j + k)) (fold h.p h.c i g (8 * j + k)) (g6 h.p h.m h.s a (8 * j + k)) _ _ hp ((fold_res hp.1 _ _ _ _ 8).by hp.2) ((g6_res hp.1 _ _ _ _ 8).by hp.2) (by omega)).mono ?_)
          rintro r H5 n5 hn5 ⟨rfl, rfl⟩
          (repeat first|refine zA ?_|(refine CS.tailL _ (List.Mem.head _) ?_;dsimp only[List.take,List.drop])|refine zC ?_|((first|refine zB ?_|(refine LS.nilO ?_;intro nq hnq hltq)|(refine MS.new ?_;intro bq hbq hbqf)|(refine MS.nil ?_;intro nq hnq hltq;have hlq:=hltq _ _ (Hp.get_eq _ _ _);clear hltq)|(refine LS.nilQ ?_;try with_reducible intro nq hnq));try dsimp only[Ex.then,Ex.inBlock,putD,Env.put])|(refine CS.exit ?_;try dsimp only[Ex.then,Ex.inBlock,↓reduceIte,Nat.reduceEqDiff];try simp only[↓reduceIte])|(refine resK.nil ?_;dsimp only[resV]))
          exact ⟨by omega, by (repeat first | exact trivial | refine And.intro rfl ?_), Drops.drop (by omega) (by simp (disch := omega) only [Hp.get_ne]; exact hf _ (by omega)) (Drops.keepc rfl rfl (fun _ _ => rfl) (Drops.keepc rfl rfl (fun q hq => by rw [ect, ← hg6, fold_step]; rfl) (Drops.refl _ _))), trivial⟩
        · have hg7 : g = g7 h.p h.m h.s a := by rw [hg]; rfl
          (repeat first|refine zA ?_|(refine CS.tailL _ (List.Mem.head _) ?_;dsimp only[List.take,List.drop])|refine zC ?_|((first|refine zB ?_|(refine LS.nilO ?_;intro nq hnq hltq)|(refine MS.new ?_;intro bq hbq hbqf)|(refine MS.nil ?_;intro nq hnq hltq;have hlq:=hltq _ _ (Hp.get_eq _ _ _);clear hltq)|(refine LS.nilQ ?_;try with_reducible intro nq hnq));try dsimp only[Ex.then,Ex.inBlock,putD,Env.put])|(refine CS.exit ?_;try dsimp only[Ex.then,Ex.inBlock,↓reduceIte,Nat.reduceEqDiff];try simp only[↓reduceIte])|(refine resK.nil ?_;dsimp only[resV]))
          refine CS.tailLo _ (List.Mem.head _) ?_; dsimp only [List.take, List.drop]
          (repeat first|refine zA ?_|(refine CS.tailL _ (List.Mem.head _) ?_;dsimp only[List.take,List.drop])|refine zC ?_|((first|refine zB ?_|(refine LS.nilO ?_;intro nq hnq hltq)|(refine MS.new ?_;intro bq hbq hbqf)|(refine MS.nil ?_;intro nq hnq hltq;have hlq:=hltq _ _ (Hp.get_eq _ _ _);clear hltq)|(refine LS.nilQ ?_;try with_reducible intro nq hnq));try dsimp only[Ex.then,Ex.inBlock,putD,Env.put])|(refine CS.exit ?_;try dsimp only[Ex.then,Ex.inBlock,↓reduceIte,Nat.reduceEqDiff];try simp only[↓reduceIte])|(refine resK.nil ?_;dsimp only[resV]))
          refine LS.callQ (.arr 8 (bys (bas j))) rfl (fun n' hn' => spec_l01Basis j _ _ (by omega)) ?_
          (repeat first|refine zA ?_|(refine CS.tailL _ (List.Mem.head _) ?_;dsimp only[List.take,List.drop])|refine zC ?_|((first|refine zB ?_|(refine LS.nilO ?_;intro nq hnq hltq)|(refine MS.new ?_;intro bq hbq hbqf)|(refine MS.nil ?_;intro nq hnq hltq;have hlq:=hltq _ _ (Hp.get_eq _ _ _);clear hltq)|(refine LS.nilQ ?_;try with_reducible intro nq hnq));try dsimp only[Ex.then,Ex.inBlock,putD,Env.put])|(refine CS.exit ?_;try dsimp only[Ex.then,Ex.inBlock,↓reduceIte,Nat.reduceEqDiff];try simp only[↓reduceIte])|(refine resK.nil ?_;dsimp only[resV]))
          refine RS.call rfl ((spec_l01Times h.p a h.m (bas j) (fun y => h.s (8 * k + y)) K _ _ hp ha hk0 hk1 hk6 hB.m (bas_by _ _) (hB.rows (by omega))).mono ?_)
          rintro r H5 n5 hn5 ⟨rfl, rfl⟩
          have e7 : pr h.p h.m (bas j) (fun y => h.s (8 * k + y)) a = g7 h.p h.m h.s a (8 * j + k) := by
            unfold g7; rw [show (8 * j + k) / 8 = j by omega, show (8 * j + k) % 8 = k by omega]
          rw [e7]
          (repeat first|refine zA ?_|(refine CS.tailL _ (List.Mem.head _) ?_;dsimp only[List.take,List.drop])|refine zC ?_|((first|refine zB ?_|(refine LS.nilO ?_;intro nq hnq hltq)|(refine MS.new ?_;intro bq hbq hbqf)|(refine MS.nil ?_;intro nq hnq hltq;have hlq:=hltq _ _ (Hp.get_eq _ _ _);clear hltq)|(refine LS.nilQ ?_;try with_reducible intro nq hnq));try dsimp only[Ex.then,Ex.inBlock,putD,Env.put])|(refine CS.exit ?_;try dsimp only[Ex.then,Ex.inBlock,↓reduceIte,Nat.reduceEqDiff];try simp only[↓reduceIte])|(refine resK.nil ?_;dsimp only[resV]))
          refine RS.call rfl ((spec_l01Add h.p (h.c (64 * i + 8 * j + k)) (fold h.p h.c i g (8 * j + k)) (g7 h.p h.m h.s a (8 * j + k)) _ _ hp ((fold_res hp.1 _ _ _ _ 8).by hp.2) ((g7_res hp.1 _ _ _ _ 8).by hp.2) (by omega)).mono ?_)
          rintro r H6 n6 hn6 ⟨rfl, rfl⟩
          (repeat first|refine zA ?_|(refine CS.tailL _ (List.Mem.head _) ?_;dsimp only[List.take,List.drop])|refine zC ?_|((first|refine zB ?_|(refine LS.nilO ?_;intro nq hnq hltq)|(refine MS.new ?_;intro bq hbq hbqf)|(refine MS.nil ?_;intro nq hnq hltq;have hlq:=hltq _ _ (Hp.get_eq _ _ _);clear hltq)|(refine LS.nilQ ?_;try with_reducible intro nq hnq));try dsimp only[Ex.then,Ex.inBlock,putD,Env.put])|(refine CS.exit ?_;try dsimp only[Ex.then,Ex.inBlock,↓reduceIte,Nat.reduceEqDiff];try simp only[↓reduceIte])|(refine resK.nil ?_;dsimp only[resV]))
          exact ⟨by omega, by (repeat first | exact trivial | refine And.intro rfl ?_), Drops.drop (by omega) (by simp (disch := omega) only [Hp.get_ne]; exact hf _ (by omega)) (Drops.keepc rfl rfl (fun _ _ => rfl) (Drops.keepc rfl rfl (fun q hq => by rw [ect, ← hg7, fold_step]; rfl) (Drops.refl _ _))), trivial⟩
      · (repeat first|refine zA ?_|(refine CS.tailL _ (List.Mem.head _) ?_;dsimp only[List.take,List.drop])|refine zC ?_|((first|refine zB ?_|(refine LS.nilO ?_;intro nq hnq hltq)|(refine MS.new ?_;intro bq hbq hbqf)|(refine MS.nil ?_;intro nq hnq hltq;have hlq:=hltq _ _ (Hp.get_eq _ _ _);clear hltq)|(refine LS.nilQ ?_;try with_reducible intro nq hnq));try dsimp only[Ex.then,Ex.inBlock,putD,Env.put])|(refine CS.exit ?_;try dsimp only[Ex.then,Ex.inBlock,↓reduceIte,Nat.reduceEqDiff];try simp only[↓reduceIte])|(refine resK.nil ?_;dsimp only[resV]))
        exact ⟨by omega, by (repeat first | exact trivial | refine And.intro rfl ?_), Drops.keepc rfl rfl (fun _ _ => rfl) (Drops.keepc rfl rfl (fun q hq => by
          rw [ect] at h4; rw [show 8 * j + (k + 1) = 8 * j + k + 1 from rfl, fold_skip h4]) (Drops.refl _ _)), trivial⟩
    · have : k = a := by omega
      subst this
      (repeat first|refine zA ?_|(refine CS.tailL _ (List.Mem.head _) ?_;dsimp only[List.take,List.drop])|refine zC ?_|((first|refine zB ?_|(refine LS.nilO ?_;intro nq hnq hltq)|(refine MS.new ?_;intro bq hbq hbqf)|(refine MS.nil ?_;intro nq hnq hltq;have hlq:=hltq _ _ (Hp.get_eq _ _ _);clear hltq)|(refine LS.nilQ ?_;try with_reducible intro nq hnq));try dsimp only[Ex.then,Ex.inBlock,putD,Env.put])|(refine CS.exit ?_;try dsimp only[Ex.then,Ex.inBlock,↓reduceIte,Nat.reduceEqDiff];try simp only[↓reduceIte])|(refine resK.nil ?_;dsimp only[resV]))
      exact ⟨by omega, by (repeat first | exact trivial | refine And.intro rfl ?_), Drops.keepc rfl rfl (fun _ _ => rfl) (Drops.keepc rfl rfl (fun q hq => by rw [fold_row hS.cm (by omega) ha (by omega)]; rfl) (Drops.refl _ _)), trivial⟩
  · have : j = a := by omega
    subst this
    (repeat first|refine zA ?_|(refine CS.tailL _ (List.Mem.head _) ?_;dsimp only[List.take,List.drop])|refine zC ?_|((first|refine zB ?_|(refine LS.nilO ?_;intro nq hnq hltq)|(refine MS.new ?_;intro bq hbq hbqf)|(refine MS.nil ?_;intro nq hnq hltq;have hlq:=hltq _ _ (Hp.get_eq _ _ _);clear hltq)|(refine LS.nilQ ?_;try with_reducible intro nq hnq));try dsimp only[Ex.then,Ex.inBlock,putD,Env.put])|(refine CS.exit ?_;try dsimp only[Ex.then,Ex.inBlock,↓reduceIte,Nat.reduceEqDiff];try simp only[↓reduceIte])|(refine resK.nil ?_;dsimp only[resV]))
    exact ⟨.arr 8 (bys (fold h.p h.c i g 64)), H, conc_arr (fun q hq => by simp only [Nat.zero_add]; rw [← fold_end hS.cm (by omega) ha]; rfl), by exact zD, rfl, rfl⟩

theorem spec_l03Antipode (h : HT) (a : Nat) (bh : Bool) (g : Nat → Nat → Int) (hg : g = if bh = true then g7 h.p h.m h.s a else g6 h.p h.m h.s a) (K : Nat → SV) (H : Hp) (n : Nat) (hS : HS h a) (hK : h.At K) (hB : h.By) :
    FnS Try.prog 71 [.arr 1106 K, .arr 64 (bys h.s), bl bh] H n (fun r H' _ => r = bl (tb (∀ i : Nat, i < a → ∀ q, q < 8 → fold h.p h.c i g 64 q = pl h.p (fun _ => 0) (h.e i) h.u q)) ∧ H' = H) := by
  have hp := hS.hp
  have ha := hS.ha
  have hk0 := hK.p
  have hk1 := hK.n
  rw [hS.hn] at hk1
  have hk5 := hK.e
  have hk6 := hK.u
  refine FnS.of_body Try.func71 tr71 (by simp) (fun hf => ?_)
  dsimp only [argEnv]
  unfold ir71
  (repeat first|refine zA ?_|(refine CS.tailL _ (List.Mem.head _) ?_;dsimp only[List.take,List.drop])|refine zC ?_|((first|refine zB ?_|(refine LS.nilO ?_;intro nq hnq hltq)|(refine MS.new ?_;intro bq hbq hbqf)|(refine MS.nil ?_;intro nq hnq hltq;have hlq:=hltq _ _ (Hp.get_eq _ _ _);clear hltq)|(refine LS.nilQ ?_;try with_reducible intro nq hnq));try dsimp only[Ex.then,Ex.inBlock,putD,Env.put])|(refine CS.exit ?_;try dsimp only[Ex.then,Ex.inBlock,↓reduceIte,Nat.reduceEqDiff];try simp only[↓reduceIte])|(refine resK.nil ?_;dsimp only[resV]))
  refine CS.iter a (fun i => [(7, i64 i), (3, ptr n 0), (4, ptr (n + 1) 0), (2, bl bh)]) (fun _ => (n + 1, ⟨64, bys h.s, 32⟩) :: (n, ⟨1106, K, 36⟩) :: H)
    (fun i => ∀ i' : Nat, i' < i → ∀ q, q < 8 → fold h.p h.c i' g 64 q = pl h.p (fun _ => 0) (h.e i') h.u q) (by (repeat first | exact trivial | refine And.intro rfl ?_)) (by exact zD) (fun _ h => by omega) ?_
  intro i n1 hi hn hJ
  (repeat first|refine zA ?_|(refine CS.tailL _ (List.Mem.head _) ?_;dsimp only[List.take,List.drop])|refine zC ?_|((first|refine zB ?_|(refine LS.nilO ?_;intro nq hnq hltq)|(refine MS.new ?_;intro bq hbq hbqf)|(refine MS.nil ?_;intro nq hnq hltq;have hlq:=hltq _ _ (Hp.get_eq _ _ _);clear hltq)|(refine LS.nilQ ?_;try with_reducible intro nq hnq));try dsimp only[Ex.then,Ex.inBlock,putD,Env.put])|(refine CS.exit ?_;try dsimp only[Ex.then,Ex.inBlock,↓reduceIte,Nat.reduceEqDiff];try simp only[↓reduceIte])|(refine resK.nil ?_;dsimp only[resV]))
  refine zI ?_ ?_<;>intro h2
  · have hei := hB.e i (by omega)
    (repeat first|refine zA ?_|(refine CS.tailL _ (List.Mem.head _) ?_;dsimp only[List.take,List.drop])|refine zC ?_|((first|refine zB ?_|(refine LS.nilO ?_;intro nq hnq hltq)|(refine MS.new ?_;intro bq hbq hbqf)|(refine MS.nil ?_;intro nq hnq hltq;have hlq:=hltq _ _ (Hp.get_eq _ _ _);clear hltq)|(refine LS.nilQ ?_;try with_reducible intro nq hnq));try dsimp only[Ex.then,Ex.inBlock,putD,Env.put])|(refine CS.exit ?_;try dsimp only[Ex.then,Ex.inBlock,↓reduceIte,Nat.reduceEqDiff];try simp only[↓reduceIte])|(refine resK.nil ?_;dsimp only[resV]))
    refine LS.callQ (.arr 8 (bys (fold h.p h.c i g 64))) rfl (fun n' hn' => spec_l03Folded h a i bh g hg (by omega) K _ _ hS hK hB) ?_
    (repeat first|refine zA ?_|(refine CS.tailL _ (List.Mem.head _) ?_;dsimp only[List.take,List.drop])|refine zC ?_|((first|refine zB ?_|(refine LS.nilO ?_;intro nq hnq hltq)|(refine MS.new ?_;intro bq hbq hbqf)|(refine MS.nil ?_;intro nq hnq hltq;have hlq:=hltq _ _ (Hp.get_eq _ _ _);clear hltq)|(refine LS.nilQ ?_;try with_reducible intro nq hnq));try dsimp only[Ex.then,Ex.inBlock,putD,Env.put])|(refine CS.exit ?_;try dsimp only[Ex.then,Ex.inBlock,↓reduceIte,Nat.reduceEqDiff];try simp only[↓reduceIte])|(refine resK.nil ?_;dsimp only[resV]))
    refine RS.call rfl ((spec_l01Add h.p (h.e i) (fun _ => 0) h.u _ _ hp ((isRes_zero hp.1 8).by hp.2) hB.u (by omega)).mono ?_)
    rintro r H4 n3 hn3 ⟨rfl, rfl⟩
    (repeat first|refine zA ?_|(refine CS.tailL _ (List.Mem.head _) ?_;dsimp only[List.take,List.drop])|refine zC ?_|((first|refine zB ?_|(refine LS.nilO ?_;intro nq hnq hltq)|(refine MS.new ?_;intro bq hbq hbqf)|(refine MS.nil ?_;intro nq hnq hltq;have hlq:=hltq _ _ (Hp.get_eq _ _ _);clear hltq)|(refine LS.nilQ ?_;try with_reducible intro nq hnq));try dsimp only[Ex.then,Ex.inBlock,putD,Env.put])|(refine CS.exit ?_;try dsimp only[Ex.then,Ex.inBlock,↓reduceIte,Nat.reduceEqDiff];try simp only[↓reduceIte])|(refine resK.nil ?_;dsimp only[resV]))
    refine zI ?_ ?_<;>intro h4
    · (repeat first|refine zA ?_|(refine CS.tailL _ (List.Mem.head _) ?_;dsimp only[List.take,List.drop])|refine zC ?_|((first|refine zB ?_|(refine LS.nilO ?_;intro nq hnq hltq)|(refine MS.new ?_;intro bq hbq hbqf)|(refine MS.nil ?_;intro nq hnq hltq;have hlq:=hltq _ _ (Hp.get_eq _ _ _);clear hltq)|(refine LS.nilQ ?_;try with_reducible intro nq hnq));try dsimp only[Ex.then,Ex.inBlock,putD,Env.put])|(refine CS.exit ?_;try dsimp only[Ex.then,Ex.inBlock,↓reduceIte,Nat.reduceEqDiff];try simp only[↓reduceIte])|(refine resK.nil ?_;dsimp only[resV]))
      exact ⟨_, H, rfl, by exact zD, by rw [tb_false (fun q => h4 (q i (by omega)))], rfl⟩
    · (repeat first|refine zA ?_|(refine CS.tailL _ (List.Mem.head _) ?_;dsimp only[List.take,List.drop])|refine zC ?_|((first|refine zB ?_|(refine LS.nilO ?_;intro nq hnq hltq)|(refine MS.new ?_;intro bq hbq hbqf)|(refine MS.nil ?_;intro nq hnq hltq;have hlq:=hltq _ _ (Hp.get_eq _ _ _);clear hltq)|(refine LS.nilQ ?_;try with_reducible intro nq hnq));try dsimp only[Ex.then,Ex.inBlock,putD,Env.put])|(refine CS.exit ?_;try dsimp only[Ex.then,Ex.inBlock,↓reduceIte,Nat.reduceEqDiff];try simp only[↓reduceIte])|(refine resK.nil ?_;dsimp only[resV]))
      refine ⟨by omega, by (repeat first | exact trivial | refine And.intro rfl ?_), by exact zD, fun j' hj' => ?_⟩
      by_cases e : j' = i
      · subst e; exact h4
      · exact hJ j' (by omega)
  · have : i = a := by omega
    subst this
    (repeat first|refine zA ?_|(refine CS.tailL _ (List.Mem.head _) ?_;dsimp only[List.take,List.drop])|refine zC ?_|((first|refine zB ?_|(refine LS.nilO ?_;intro nq hnq hltq)|(refine MS.new ?_;intro bq hbq hbqf)|(refine MS.nil ?_;intro nq hnq hltq;have hlq:=hltq _ _ (Hp.get_eq _ _ _);clear hltq)|(refine LS.nilQ ?_;try with_reducible intro nq hnq));try dsimp only[Ex.then,Ex.inBlock,putD,Env.put])|(refine CS.exit ?_;try dsimp only[Ex.then,Ex.inBlock,↓reduceIte,Nat.reduceEqDiff];try simp only[↓reduceIte])|(refine resK.nil ?_;dsimp only[resV]))
    exact ⟨_, H, rfl, by exact zD, by rw [tb_true hJ], rfl⟩

end Go.Proofs.Ytnkmpelakhhoiaa

/- Whether a table is a coalgebra, on both sides. -/
import Derived.Test.YtnkmpelakhhoiaaC12
namespace Go.V

theorem isCoalg_nat {p : Int} {a : Nat} {e c : Nat → Int} : isCoalg p a e c ↔ shp p a e c ∧ counits p a e c ∧ coassoc p a c := Iff.rfl
theorem dotk_res {p : Int} (hp : 2 ≤ p) (v w : Nat → Int) (k : Nat) : 0 ≤ dotk p v w k ∧ dotk p v w k < p := modB _ hp
theorem pow4 (a : Nat) (h1 : 1 ≤ a) (ha : a ≤ 8) : (1 ≤ (a : Int) * a ∧ (a : Int) * a ≤ 64) ∧ (1 ≤ (a : Int) * a * a ∧ (a : Int) * a * a ≤ 512) ∧ (1 ≤ (a : Int) * a * a * a ∧ (a : Int) * a * a * a ≤ 4096) := by
  have : a = 1 ∨ a = 2 ∨ a = 3 ∨ a = 4 ∨ a = 5 ∨ a = 6 ∨ a = 7 ∨ a = 8 := by omega
  rcases this with rfl | rfl | rfl | rfl | rfl | rfl | rfl | rfl <;> decide
theorem idx4 (a t : Nat) (h1 : 1 ≤ a) (ht : t < a * a * a * a) : t / (a * a * a) < a ∧ t / (a * a) % a < a ∧ t / a % a < a ∧ t % a < a :=
  ⟨Nat.div_lt_of_lt_mul ht, Nat.mod_lt _ h1, Nat.mod_lt _ h1, Nat.mod_lt _ h1⟩
end Go.V
namespace Go.Proofs.Ytnkmpelakhhoiaa
open Go.V
set_option linter.unusedSimpArgs false
set_option linter.unusedVariables false
set_option maxHeartbeats 4000000

theorem Coalgebra_isCounit (p : Int) (a : Nat) (e c : Nat → Int) (b : Nat) (K : Blk) (H : Hp) (n : Nat) (hp : 2 ≤ p ∧ p ≤ 31) (ha : a ≤ 8) (hb : H.get b = some K) (hsz : K.size = 522)
    (h0 : K.c 0 = .int .i64 p) (h1 : K.c 1 = .int .i64 a) (hE : ∀ q, q < 8 → K.c (2 + q) = .int .u8 (e q)) (hK : ∀ q, q < 512 → K.c (10 + q) = .int .u8 (c q)) (he : isBy 8 e) (hc : isBy 512 c) :
    FnS Try.prog 106 [ptr b 0] H n (fun r H' _ => r = bl (tb (counits p a e c)) ∧ H' = H) := by
  refine FnS.of_body Try.func106 tr106 (by simp) (fun hf => ?_)
  dsimp only [argEnv]
  unfold ir106
  have hbn := getlt hf hb
  (repeat first|refine zA ?_|(refine CS.tailL _ (List.Mem.head _) ?_;dsimp only[List.take,List.drop])|refine zC ?_|((first|refine zB ?_|(refine LS.nilO ?_;intro nq hnq hltq)|(refine MS.new ?_;intro bq hbq hbqf)|(refine MS.nil ?_;intro nq hnq hltq;have hlq:=hltq _ _ (Hp.get_eq _ _ _);clear hltq)|(refine LS.nilQ ?_;try with_reducible intro nq hnq));try dsimp only[Ex.then,Ex.inBlock,putD,Env.put])|(refine CS.exit ?_;try dsimp only[Ex.then,Ex.inBlock,↓reduceIte,Nat.reduceEqDiff];try simp only[↓reduceIte])|(refine resK.nil ?_;dsimp only[resV]))
  refine RS.call rfl ((Coalgebra_field p a b K _ _ (by exact zH) hsz h0 h1 (by omega)).mono ?_)
  rintro r H n2 hn2 ⟨rfl, rfl⟩
  (repeat first|refine zA ?_|(refine CS.tailL _ (List.Mem.head _) ?_;dsimp only[List.take,List.drop])|refine zC ?_|((first|refine zB ?_|(refine LS.nilO ?_;intro nq hnq hltq)|(refine MS.new ?_;intro bq hbq hbqf)|(refine MS.nil ?_;intro nq hnq hltq;have hlq:=hltq _ _ (Hp.get_eq _ _ _);clear hltq)|(refine LS.nilQ ?_;try with_reducible intro nq hnq));try dsimp only[Ex.then,Ex.inBlock,putD,Env.put])|(refine CS.exit ?_;try dsimp only[Ex.then,Ex.inBlock,↓reduceIte,Nat.reduceEqDiff];try simp only[↓reduceIte])|(refine resK.nil ?_;dsimp only[resV]))
  refine CS.iter a (fun i => [(12, i64 i), (11, i64 a), (3, ptr n2 0), (0, ptr b 0)]) (fun _ => (n2, ⟨2, fldC p a, 75⟩) :: H)
    (fun i => ∀ i' : Nat, i' < i → (∀ q, q < 8 → coL p e c i' a q = bas i' q) ∧ (∀ q, q < 8 → coR p e c i' a q = bas i' q)) (by (repeat first | exact trivial | refine And.intro rfl ?_)) (by exact zD) (fun _ h => by omega) ?_
  intro i n3 hi hn hJ
  (repeat first|refine zA ?_|(refine CS.tailL _ (List.Mem.head _) ?_;dsimp only[List.take,List.drop])|refine zC ?_|((first|refine zB ?_|(refine LS.nilO ?_;intro nq hnq hltq)|(refine MS.new ?_;intro bq hbq hbqf)|(refine MS.nil ?_;intro nq hnq hltq;have hlq:=hltq _ _ (Hp.get_eq _ _ _);clear hltq)|(refine LS.nilQ ?_;try with_reducible intro nq hnq));try dsimp only[Ex.then,Ex.inBlock,putD,Env.put])|(refine CS.exit ?_;try dsimp only[Ex.then,Ex.inBlock,↓reduceIte,Nat.reduceEqDiff];try simp only[↓reduceIte])|(refine resK.nil ?_;dsimp only[resV]))
  refine zI ?_ ?_<;>intro h2
  · (repeat first|refine zA ?_|(refine CS.tailL _ (List.Mem.head _) ?_;dsimp only[List.take,List.drop])|refine zC ?_|((first|refine zB ?_|(refine LS.nilO ?_;intro nq hnq hltq)|(refine MS.new ?_;intro bq hbq hbqf)|(refine MS.nil ?_;intro nq hnq hltq;have hlq:=hltq _ _ (Hp.get_eq _ _ _);clear hltq)|(refine LS.nilQ ?_;try with_reducible intro nq hnq));try dsimp only[Ex.then,Ex.inBlock,putD,Env.put])|(refine CS.exit ?_;try dsimp only[Ex.then,Ex.inBlock,↓reduceIte,Nat.reduceEqDiff];try simp only[↓reduceIte])|(refine resK.nil ?_;dsimp only[resV]))
    refine CS.iter a (fun j => [(19, i64 j), (18, i64 a), (4, i64 i), (5, ptr n3 0), (6, ptr (n3 + 1) 0), (12, i64 i), (11, i64 a), (3, ptr n2 0), (0, ptr b 0)])
      (fun j => (n3 + 1, ⟨8, bys (coR p e c i j), 30⟩) :: (n3, ⟨8, bys (coL p e c i j), 30⟩) :: (n2, ⟨2, fldC p a, 75⟩) :: H) (fun _ => True) (by (repeat first | exact trivial | refine And.intro rfl ?_))
      (Drops.keepc rfl rfl (fun _ _ => by rw [coR_zero]; rfl) (Drops.keepc rfl rfl (fun _ _ => by rw [coL_zero]; rfl) (Drops.refl _ _))) trivial ?_
    intro j n4 hj hn4 _
    (repeat first|refine zA ?_|(refine CS.tailL _ (List.Mem.head _) ?_;dsimp only[List.take,List.drop])|refine zC ?_|((first|refine zB ?_|(refine LS.nilO ?_;intro nq hnq hltq)|(refine MS.new ?_;intro bq hbq hbqf)|(refine MS.nil ?_;intro nq hnq hltq;have hlq:=hltq _ _ (Hp.get_eq _ _ _);clear hltq)|(refine LS.nilQ ?_;try with_reducible intro nq hnq));try dsimp only[Ex.then,Ex.inBlock,putD,Env.put])|(refine CS.exit ?_;try dsimp only[Ex.then,Ex.inBlock,↓reduceIte,Nat.reduceEqDiff];try simp only[↓reduceIte])|(refine resK.nil ?_;dsimp only[resV]))
    refine zI ?_ ?_<;>intro h3
    · have hej := he j (by omega)
      (repeat first|refine zA ?_|(refine CS.tailL _ (List.Mem.head _) ?_;dsimp only[List.take,List.drop])|refine zC ?_|((first|refine zB ?_|(refine LS.nilO ?_;intro nq hnq hltq)|(refine MS.new ?_;intro bq hbq hbqf)|(refine MS.nil ?_;intro nq hnq hltq;have hlq:=hltq _ _ (Hp.get_eq _ _ _);clear hltq)|(refine LS.nilQ ?_;try with_reducible intro nq hnq));try dsimp only[Ex.then,Ex.inBlock,putD,Env.put])|(refine CS.exit ?_;try dsimp only[Ex.then,Ex.inBlock,↓reduceIte,Nat.reduceEqDiff];try simp only[↓reduceIte])|(refine resK.nil ?_;dsimp only[resV]))
      refine RS.call rfl ((field_plus p a (e j) (coL p e c i j) (fun x => c (64 * i + 8 * j + x)) n3 0 ⟨8, bys (coL p e c i j), 30⟩ _ _ hp (by exact zH) (by simp) (fun _ _ => by rw [Nat.zero_add]; rfl) (coL_res hp.1 _ _ _ _ _) (fun x hx => hc _ (by omega)) (by omega)).mono ?_)
      rintro r H n5 hn5 ⟨rfl, rfl⟩
      simp (disch := omega) only [Hp.set_eq, Hp.set_ne]
      have hd := dotk_res hp.1 e (fun y => c (64 * i + 8 * j + y)) 8
      (repeat first|refine zA ?_|(refine CS.tailL _ (List.Mem.head _) ?_;dsimp only[List.take,List.drop])|refine zC ?_|((first|refine zB ?_|(refine LS.nilO ?_;intro nq hnq hltq)|(refine MS.new ?_;intro bq hbq hbqf)|(refine MS.nil ?_;intro nq hnq hltq;have hlq:=hltq _ _ (Hp.get_eq _ _ _);clear hltq)|(refine LS.nilQ ?_;try with_reducible intro nq hnq));try dsimp only[Ex.then,Ex.inBlock,putD,Env.put])|(refine CS.exit ?_;try dsimp only[Ex.then,Ex.inBlock,↓reduceIte,Nat.reduceEqDiff];try simp only[↓reduceIte])|(refine resK.nil ?_;dsimp only[resV]))
      refine LS.callQ (i64 (dotk p e (fun y => c (64 * i + 8 * j + y)) 8)) rfl (fun n' hn' => field_dot p a e (fun y => c (64 * i + 8 * j + y)) _ _ hp he (fun x hx => hc _ (by omega))) ?_
      (repeat first|refine zA ?_|(refine CS.tailL _ (List.Mem.head _) ?_;dsimp only[List.take,List.drop])|refine zC ?_|((first|refine zB ?_|(refine LS.nilO ?_;intro nq hnq hltq)|(refine MS.new ?_;intro bq hbq hbqf)|(refine MS.nil ?_;intro nq hnq hltq;have hlq:=hltq _ _ (Hp.get_eq _ _ _);clear hltq)|(refine LS.nilQ ?_;try with_reducible intro nq hnq));try dsimp only[Ex.then,Ex.inBlock,putD,Env.put])|(refine CS.exit ?_;try dsimp only[Ex.then,Ex.inBlock,↓reduceIte,Nat.reduceEqDiff];try simp only[↓reduceIte])|(refine resK.nil ?_;dsimp only[resV]))
      exact ⟨by omega, by (repeat first | exact trivial | refine And.intro rfl ?_), Drops.keepc rfl rfl (fun q hq => by simp only [put1, bys]; rw [← coR_step]; split <;> rfl) (Drops.keepc rfl rfl (fun q hq => (splice_all _ _ 8 q hq).trans (by rw [coL_step])) (Drops.refl _ _)), trivial⟩
    · have : j = a := by omega
      subst this
      (repeat first|refine zA ?_|(refine CS.tailL _ (List.Mem.head _) ?_;dsimp only[List.take,List.drop])|refine zC ?_|((first|refine zB ?_|(refine LS.nilO ?_;intro nq hnq hltq)|(refine MS.new ?_;intro bq hbq hbqf)|(refine MS.nil ?_;intro nq hnq hltq;have hlq:=hltq _ _ (Hp.get_eq _ _ _);clear hltq)|(refine LS.nilQ ?_;try with_reducible intro nq hnq));try dsimp only[Ex.then,Ex.inBlock,putD,Env.put])|(refine CS.exit ?_;try dsimp only[Ex.then,Ex.inBlock,↓reduceIte,Nat.reduceEqDiff];try simp only[↓reduceIte])|(refine resK.nil ?_;dsimp only[resV]))
      refine LS.callQ (.arr 8 (bys (bas i))) rfl (fun n' hn' => impl_basis i _ _ (by omega)) ?_
      (repeat first|refine zA ?_|(refine CS.tailL _ (List.Mem.head _) ?_;dsimp only[List.take,List.drop])|refine zC ?_|((first|refine zB ?_|(refine LS.nilO ?_;intro nq hnq hltq)|(refine MS.new ?_;intro bq hbq hbqf)|(refine MS.nil ?_;intro nq hnq hltq;have hlq:=hltq _ _ (Hp.get_eq _ _ _);clear hltq)|(refine LS.nilQ ?_;try with_reducible intro nq hnq));try dsimp only[Ex.then,Ex.inBlock,putD,Env.put])|(refine CS.exit ?_;try dsimp only[Ex.then,Ex.inBlock,↓reduceIte,Nat.reduceEqDiff];try simp only[↓reduceIte])|(refine resK.nil ?_;dsimp only[resV]))
      refine RS.sp (t := 61) rfl (fun h4 => ?_) (fun h4 => ?_) <;> (try simp only [tb_eq, tb_eqF, decide_eq_true_eq, decide_eq_false_iff_not, beq_iff_eq, bne_iff_ne, ne_eq, Decidable.not_not, beq_eq_false_iff_ne, bne_eq_false_iff_eq, Bool.not_eq_true', Bool.not_eq_false', Bool.not_eq_eq_eq_not, Bool.not_true, Bool.not_false] at h4)
      · (repeat first|refine zA ?_|(refine CS.tailL _ (List.Mem.head _) ?_;dsimp only[List.take,List.drop])|refine zC ?_|((first|refine zB ?_|(refine LS.nilO ?_;intro nq hnq hltq)|(refine MS.new ?_;intro bq hbq hbqf)|(refine MS.nil ?_;intro nq hnq hltq;have hlq:=hltq _ _ (Hp.get_eq _ _ _);clear hltq)|(refine LS.nilQ ?_;try with_reducible intro nq hnq));try dsimp only[Ex.then,Ex.inBlock,putD,Env.put])|(refine CS.exit ?_;try dsimp only[Ex.then,Ex.inBlock,↓reduceIte,Nat.reduceEqDiff];try simp only[↓reduceIte])|(refine resK.nil ?_;dsimp only[resV]))
        exact ⟨_, H, rfl, by exact zD, by rw [tb_false (fun h => h4 (h i (by omega)).1)], rfl⟩
      · (repeat first|refine zA ?_|(refine CS.tailL _ (List.Mem.head _) ?_;dsimp only[List.take,List.drop])|refine zC ?_|((first|refine zB ?_|(refine LS.nilO ?_;intro nq hnq hltq)|(refine MS.new ?_;intro bq hbq hbqf)|(refine MS.nil ?_;intro nq hnq hltq;have hlq:=hltq _ _ (Hp.get_eq _ _ _);clear hltq)|(refine LS.nilQ ?_;try with_reducible intro nq hnq));try dsimp only[Ex.then,Ex.inBlock,putD,Env.put])|(refine CS.exit ?_;try dsimp only[Ex.then,Ex.inBlock,↓reduceIte,Nat.reduceEqDiff];try simp only[↓reduceIte])|(refine resK.nil ?_;dsimp only[resV]))
        refine LS.callQ (.arr 8 (bys (bas i))) rfl (fun n' hn' => impl_basis i _ _ (by omega)) ?_
        (repeat first|refine zA ?_|(refine CS.tailL _ (List.Mem.head _) ?_;dsimp only[List.take,List.drop])|refine zC ?_|((first|refine zB ?_|(refine LS.nilO ?_;intro nq hnq hltq)|(refine MS.new ?_;intro bq hbq hbqf)|(refine MS.nil ?_;intro nq hnq hltq;have hlq:=hltq _ _ (Hp.get_eq _ _ _);clear hltq)|(refine LS.nilQ ?_;try with_reducible intro nq hnq));try dsimp only[Ex.then,Ex.inBlock,putD,Env.put])|(refine CS.exit ?_;try dsimp only[Ex.then,Ex.inBlock,↓reduceIte,Nat.reduceEqDiff];try simp only[↓reduceIte])|(refine resK.nil ?_;dsimp only[resV]))
        refine zI ?_ ?_<;>intro h5
        · (repeat first|refine zA ?_|(refine CS.tailL _ (List.Mem.head _) ?_;dsimp only[List.take,List.drop])|refine zC ?_|((first|refine zB ?_|(refine LS.nilO ?_;intro nq hnq hltq)|(refine MS.new ?_;intro bq hbq hbqf)|(refine MS.nil ?_;intro nq hnq hltq;have hlq:=hltq _ _ (Hp.get_eq _ _ _);clear hltq)|(refine LS.nilQ ?_;try with_reducible intro nq hnq));try dsimp only[Ex.then,Ex.inBlock,putD,Env.put])|(refine CS.exit ?_;try dsimp only[Ex.then,Ex.inBlock,↓reduceIte,Nat.reduceEqDiff];try simp only[↓reduceIte])|(refine resK.nil ?_;dsimp only[resV]))
          exact ⟨_, H, rfl, by exact zD, by rw [tb_false (fun h => h5 (h i (by omega)).2)], rfl⟩
        · (repeat first|refine zA ?_|(refine CS.tailL _ (List.Mem.head _) ?_;dsimp only[List.take,List.drop])|refine zC ?_|((first|refine zB ?_|(refine LS.nilO ?_;intro nq hnq hltq)|(refine MS.new ?_;intro bq hbq hbqf)|(refine MS.nil ?_;intro nq hnq hltq;have hlq:=hltq _ _ (Hp.get_eq _ _ _);clear hltq)|(refine LS.nilQ ?_;try with_reducible intro nq hnq));try dsimp only[Ex.then,Ex.inBlock,putD,Env.put])|(refine CS.exit ?_;try dsimp only[Ex.then,Ex.inBlock,↓reduceIte,Nat.reduceEqDiff];try simp only[↓reduceIte])|(refine resK.nil ?_;dsimp only[resV]))
          refine ⟨by omega, by (repeat first | exact trivial | refine And.intro rfl ?_), by exact zD, fun i' hi' => ?_⟩
          by_cases e : i' = i
          · subst e; exact ⟨h4, h5⟩
          · exact hJ i' (by omega)
  · have : i = a := by omega
    subst this
    (repeat first|refine zA ?_|(refine CS.tailL _ (List.Mem.head _) ?_;dsimp only[List.take,List.drop])|refine zC ?_|((first|refine zB ?_|(refine LS.nilO ?_;intro nq hnq hltq)|(refine MS.new ?_;intro bq hbq hbqf)|(refine MS.nil ?_;intro nq hnq hltq;have hlq:=hltq _ _ (Hp.get_eq _ _ _);clear hltq)|(refine LS.nilQ ?_;try with_reducible intro nq hnq));try dsimp only[Ex.then,Ex.inBlock,putD,Env.put])|(refine CS.exit ?_;try dsimp only[Ex.then,Ex.inBlock,↓reduceIte,Nat.reduceEqDiff];try simp only[↓reduceIte])|(refine resK.nil ?_;dsimp only[resV]))
    exact ⟨_, H, rfl, by exact zD, by rw [tb_true (show counits p i e c from fun i' h => hJ i' h)], rfl⟩

theorem spec_l02Counits (p : Int) (a : Nat) (e c : Nat → Int) (K : Nat → SV) (H : Hp) (n : Nat) (hp : 2 ≤ p ∧ p ≤ 31) (ha : a ≤ 8)
    (h0 : K 0 = .int .i64 p) (h1 : K 1 = .int .i64 a) (hE : ∀ q, q < 8 → K (2 + q) = .int .u8 (e q)) (hK : ∀ q, q < 512 → K (10 + q) = .int .u8 (c q)) (he : isBy 8 e) (hc : isBy 512 c) (hz : vz a e) :
    FnS Try.prog 118 [.arr 522 K] H n (fun r H' _ => r = bl (tb (counits p a e c)) ∧ H' = H) := by
  refine FnS.of_body Try.func118 tr118 (by simp) (fun hf => ?_)
  dsimp only [argEnv]
  unfold ir118
  (repeat first|refine zA ?_|(refine CS.tailL _ (List.Mem.head _) ?_;dsimp only[List.take,List.drop])|refine zC ?_|((first|refine zB ?_|(refine LS.nilO ?_;intro nq hnq hltq)|(refine MS.new ?_;intro bq hbq hbqf)|(refine MS.nil ?_;intro nq hnq hltq;have hlq:=hltq _ _ (Hp.get_eq _ _ _);clear hltq)|(refine LS.nilQ ?_;try with_reducible intro nq hnq));try dsimp only[Ex.then,Ex.inBlock,putD,Env.put])|(refine CS.exit ?_;try dsimp only[Ex.then,Ex.inBlock,↓reduceIte,Nat.reduceEqDiff];try simp only[↓reduceIte])|(refine resK.nil ?_;dsimp only[resV]))
  refine CS.iter a (fun i => [(3, i64 i), (1, ptr n 0)]) (fun _ => (n, ⟨522, K, 112⟩) :: H)
    (fun i => ∀ i' : Nat, i' < i → (∀ q, q < 8 → coL p e c i' a q = bas i' q) ∧ (∀ q, q < 8 → coR p e c i' a q = bas i' q)) (by (repeat first | exact trivial | refine And.intro rfl ?_)) (by exact zD) (fun _ h => by omega) ?_
  intro i n3 hi hn hJ
  (repeat first|refine zA ?_|(refine CS.tailL _ (List.Mem.head _) ?_;dsimp only[List.take,List.drop])|refine zC ?_|((first|refine zB ?_|(refine LS.nilO ?_;intro nq hnq hltq)|(refine MS.new ?_;intro bq hbq hbqf)|(refine MS.nil ?_;intro nq hnq hltq;have hlq:=hltq _ _ (Hp.get_eq _ _ _);clear hltq)|(refine LS.nilQ ?_;try with_reducible intro nq hnq));try dsimp only[Ex.then,Ex.inBlock,putD,Env.put])|(refine CS.exit ?_;try dsimp only[Ex.then,Ex.inBlock,↓reduceIte,Nat.reduceEqDiff];try simp only[↓reduceIte])|(refine resK.nil ?_;dsimp only[resV]))
  refine zI ?_ ?_<;>intro h2
  · (repeat first|refine zA ?_|(refine CS.tailL _ (List.Mem.head _) ?_;dsimp only[List.take,List.drop])|refine zC ?_|((first|refine zB ?_|(refine LS.nilO ?_;intro nq hnq hltq)|(refine MS.new ?_;intro bq hbq hbqf)|(refine MS.nil ?_;intro nq hnq hltq;have hlq:=hltq _ _ (Hp.get_eq _ _ _);clear hltq)|(refine LS.nilQ ?_;try with_reducible intro nq hnq));try dsimp only[Ex.then,Ex.inBlock,putD,Env.put])|(refine CS.exit ?_;try dsimp only[Ex.then,Ex.inBlock,↓reduceIte,Nat.reduceEqDiff];try simp only[↓reduceIte])|(refine resK.nil ?_;dsimp only[resV]))
    refine CS.iter a (fun j => [(6, i64 j), (4, ptr n3 0), (5, ptr (n3 + 1) 0), (3, i64 i), (1, ptr n 0)])
      (fun j => (n3 + 1, ⟨8, bys (coR p e c i j), 30⟩) :: (n3, ⟨8, bys (coL p e c i j), 30⟩) :: (n, ⟨522, K, 112⟩) :: H) (fun _ => True) (by (repeat first | exact trivial | refine And.intro rfl ?_))
      (Drops.keepc rfl rfl (fun _ _ => by rw [coR_zero]; rfl) (Drops.keepc rfl rfl (fun _ _ => by rw [coL_zero]; rfl) (Drops.refl _ _))) trivial ?_
    intro j n4 hj hn4 _
    (repeat first|refine zA ?_|(refine CS.tailL _ (List.Mem.head _) ?_;dsimp only[List.take,List.drop])|refine zC ?_|((first|refine zB ?_|(refine LS.nilO ?_;intro nq hnq hltq)|(refine MS.new ?_;intro bq hbq hbqf)|(refine MS.nil ?_;intro nq hnq hltq;have hlq:=hltq _ _ (Hp.get_eq _ _ _);clear hltq)|(refine LS.nilQ ?_;try with_reducible intro nq hnq));try dsimp only[Ex.then,Ex.inBlock,putD,Env.put])|(refine CS.exit ?_;try dsimp only[Ex.then,Ex.inBlock,↓reduceIte,Nat.reduceEqDiff];try simp only[↓reduceIte])|(refine resK.nil ?_;dsimp only[resV]))
    refine zI ?_ ?_<;>intro h3
    · have hej := he j (by omega)
      (repeat first|refine zA ?_|(refine CS.tailL _ (List.Mem.head _) ?_;dsimp only[List.take,List.drop])|refine zC ?_|((first|refine zB ?_|(refine LS.nilO ?_;intro nq hnq hltq)|(refine MS.new ?_;intro bq hbq hbqf)|(refine MS.nil ?_;intro nq hnq hltq;have hlq:=hltq _ _ (Hp.get_eq _ _ _);clear hltq)|(refine LS.nilQ ?_;try with_reducible intro nq hnq));try dsimp only[Ex.then,Ex.inBlock,putD,Env.put])|(refine CS.exit ?_;try dsimp only[Ex.then,Ex.inBlock,↓reduceIte,Nat.reduceEqDiff];try simp only[↓reduceIte])|(refine resK.nil ?_;dsimp only[resV]))
      refine RS.call rfl ((spec_l01Add p (e j) (coL p e c i j) (fun x => c (64 * i + 8 * j + x)) _ _ hp (fun q hq => by have := coL_res hp.1 e c i j 8 q hq; omega) (fun x hx => hc _ (by omega)) (by omega)).mono ?_)
      rintro r H n5 hn5 ⟨rfl, rfl⟩
      (repeat first|refine zA ?_|(refine CS.tailL _ (List.Mem.head _) ?_;dsimp only[List.take,List.drop])|refine zC ?_|((first|refine zB ?_|(refine LS.nilO ?_;intro nq hnq hltq)|(refine MS.new ?_;intro bq hbq hbqf)|(refine MS.nil ?_;intro nq hnq hltq;have hlq:=hltq _ _ (Hp.get_eq _ _ _);clear hltq)|(refine LS.nilQ ?_;try with_reducible intro nq hnq));try dsimp only[Ex.then,Ex.inBlock,putD,Env.put])|(refine CS.exit ?_;try dsimp only[Ex.then,Ex.inBlock,↓reduceIte,Nat.reduceEqDiff];try simp only[↓reduceIte])|(refine resK.nil ?_;dsimp only[resV]))
      refine CS.iter a (fun k => [(8, i64 k), (7, i64 (sm (fun y => e y * c (64 * i + 8 * j + y)) k)), (6, i64 j), (4, ptr n3 0), (5, ptr (n3 + 1) 0), (3, i64 i), (1, ptr n 0)])
        (fun _ => (n3 + 1, ⟨8, bys (coR p e c i j), 30⟩) :: (n3, ⟨8, bys (coL p e c i (j + 1)), 30⟩) :: (n, ⟨522, K, 112⟩) :: H) (fun _ => True) (by (repeat first | exact trivial | refine And.intro rfl ?_))
        (Drops.keepc rfl rfl (fun _ _ => rfl) (Drops.keepc rfl rfl (fun q hq => by rw [coL_step]) (Drops.refl _ _))) trivial ?_
      intro k n6 hk hn6 _
      have hs := sm_b (f := fun y => e y * c (64 * i + 8 * j + y)) (B := 65025) (n := k) (fun q hq => by
        have h1 := he q (by omega)
        have h2 := hc (64 * i + 8 * j + q) (by omega)
        exact mulB h1.1 h1.2 h2.1 h2.2)
      (repeat first|refine zA ?_|(refine CS.tailL _ (List.Mem.head _) ?_;dsimp only[List.take,List.drop])|refine zC ?_|((first|refine zB ?_|(refine LS.nilO ?_;intro nq hnq hltq)|(refine MS.new ?_;intro bq hbq hbqf)|(refine MS.nil ?_;intro nq hnq hltq;have hlq:=hltq _ _ (Hp.get_eq _ _ _);clear hltq)|(refine LS.nilQ ?_;try with_reducible intro nq hnq));try dsimp only[Ex.then,Ex.inBlock,putD,Env.put])|(refine CS.exit ?_;try dsimp only[Ex.then,Ex.inBlock,↓reduceIte,Nat.reduceEqDiff];try simp only[↓reduceIte])|(refine resK.nil ?_;dsimp only[resV]))
      refine zI ?_ ?_<;>intro h4
      · have hek := he k (by omega)
        have hck := hc (64 * i + 8 * j + k) (by omega)
        have hm := mulB hek.1 hek.2 hck.1 hck.2
        (repeat first|refine zA ?_|(refine CS.tailL _ (List.Mem.head _) ?_;dsimp only[List.take,List.drop])|refine zC ?_|((first|refine zB ?_|(refine LS.nilO ?_;intro nq hnq hltq)|(refine MS.new ?_;intro bq hbq hbqf)|(refine MS.nil ?_;intro nq hnq hltq;have hlq:=hltq _ _ (Hp.get_eq _ _ _);clear hltq)|(refine LS.nilQ ?_;try with_reducible intro nq hnq));try dsimp only[Ex.then,Ex.inBlock,putD,Env.put])|(refine CS.exit ?_;try dsimp only[Ex.then,Ex.inBlock,↓reduceIte,Nat.reduceEqDiff];try simp only[↓reduceIte])|(refine resK.nil ?_;dsimp only[resV]))
        exact ⟨by omega, by (repeat first | exact trivial | refine And.intro rfl ?_), Drops.refl _ _, trivial⟩
      · have : k = a := by omega
        subst this
        (repeat first|refine zA ?_|(refine CS.tailL _ (List.Mem.head _) ?_;dsimp only[List.take,List.drop])|refine zC ?_|((first|refine zB ?_|(refine LS.nilO ?_;intro nq hnq hltq)|(refine MS.new ?_;intro bq hbq hbqf)|(refine MS.nil ?_;intro nq hnq hltq;have hlq:=hltq _ _ (Hp.get_eq _ _ _);clear hltq)|(refine LS.nilQ ?_;try with_reducible intro nq hnq));try dsimp only[Ex.then,Ex.inBlock,putD,Env.put])|(refine CS.exit ?_;try dsimp only[Ex.then,Ex.inBlock,↓reduceIte,Nat.reduceEqDiff];try simp only[↓reduceIte])|(refine resK.nil ?_;dsimp only[resV]))
        refine RS.call rfl ((spec_l01Mod p (sm (fun y => e y * c (64 * i + 8 * j + y)) k) _ _ hp.1 hp.2 (by omega)).mono ?_)
        rintro r H n7 hn7 ⟨rfl, rfl⟩
        (repeat first|refine zA ?_|(refine CS.tailL _ (List.Mem.head _) ?_;dsimp only[List.take,List.drop])|refine zC ?_|((first|refine zB ?_|(refine LS.nilO ?_;intro nq hnq hltq)|(refine MS.new ?_;intro bq hbq hbqf)|(refine MS.nil ?_;intro nq hnq hltq;have hlq:=hltq _ _ (Hp.get_eq _ _ _);clear hltq)|(refine LS.nilQ ?_;try with_reducible intro nq hnq));try dsimp only[Ex.then,Ex.inBlock,putD,Env.put])|(refine CS.exit ?_;try dsimp only[Ex.then,Ex.inBlock,↓reduceIte,Nat.reduceEqDiff];try simp only[↓reduceIte])|(refine resK.nil ?_;dsimp only[resV]))
        refine ⟨by omega, by (repeat first | exact trivial | refine And.intro rfl ?_), Drops.keepc rfl rfl (fun q hq => ?_) (Drops.refl _ _), trivial⟩
        simp only [put1, bys]
        rw [← coR_step, ← dotk_end (show k ≤ 8 by omega) (.inl hz)]
        split <;> rfl
    · have : j = a := by omega
      subst this
      (repeat first|refine zA ?_|(refine CS.tailL _ (List.Mem.head _) ?_;dsimp only[List.take,List.drop])|refine zC ?_|((first|refine zB ?_|(refine LS.nilO ?_;intro nq hnq hltq)|(refine MS.new ?_;intro bq hbq hbqf)|(refine MS.nil ?_;intro nq hnq hltq;have hlq:=hltq _ _ (Hp.get_eq _ _ _);clear hltq)|(refine LS.nilQ ?_;try with_reducible intro nq hnq));try dsimp only[Ex.then,Ex.inBlock,putD,Env.put])|(refine CS.exit ?_;try dsimp only[Ex.then,Ex.inBlock,↓reduceIte,Nat.reduceEqDiff];try simp only[↓reduceIte])|(refine resK.nil ?_;dsimp only[resV]))
      refine LS.callQ (.arr 8 (bys (bas i))) rfl (fun n' hn' => spec_l01Basis i _ _ (by omega)) ?_
      (repeat first|refine zA ?_|(refine CS.tailL _ (List.Mem.head _) ?_;dsimp only[List.take,List.drop])|refine zC ?_|((first|refine zB ?_|(refine LS.nilO ?_;intro nq hnq hltq)|(refine MS.new ?_;intro bq hbq hbqf)|(refine MS.nil ?_;intro nq hnq hltq;have hlq:=hltq _ _ (Hp.get_eq _ _ _);clear hltq)|(refine LS.nilQ ?_;try with_reducible intro nq hnq));try dsimp only[Ex.then,Ex.inBlock,putD,Env.put])|(refine CS.exit ?_;try dsimp only[Ex.then,Ex.inBlock,↓reduceIte,Nat.reduceEqDiff];try simp only[↓reduceIte])|(refine resK.nil ?_;dsimp only[resV]))
      refine RS.sp (t := 71) rfl (fun h4 => ?_) (fun h4 => ?_) <;> (try simp only [tb_eq, tb_eqF, decide_eq_true_eq, decide_eq_false_iff_not, beq_iff_eq, bne_iff_ne, ne_eq, Decidable.not_not, beq_eq_false_iff_ne, bne_eq_false_iff_eq, Bool.not_eq_true', Bool.not_eq_false', Bool.not_eq_eq_eq_not, Bool.not_true, Bool.not_false] at h4)
      · (repeat first|refine zA ?_|(refine CS.tailL _ (List.Mem.head _) ?_;dsimp only[List.take,List.drop])|refine zC ?_|((first|refine zB ?_|(refine LS.nilO ?_;intro nq hnq hltq)|(refine MS.new ?_;intro bq hbq hbqf)|(refine MS.nil ?_;intro nq hnq hltq;have hlq:=hltq _ _ (Hp.get_eq _ _ _);clear hltq)|(refine LS.nilQ ?_;try with_reducible intro nq hnq));try dsimp only[Ex.then,Ex.inBlock,putD,Env.put])|(refine CS.exit ?_;try dsimp only[Ex.then,Ex.inBlock,↓reduceIte,Nat.reduceEqDiff];try simp only[↓reduceIte])|(refine resK.nil ?_;dsimp only[resV]))
        exact ⟨_, H, rfl, by exact zD, by rw [tb_false (fun h => h4 (h i (by omega)).1)], rfl⟩
      · (repeat first|refine zA ?_|(refine CS.tailL _ (List.Mem.head _) ?_;dsimp only[List.take,List.drop])|refine zC ?_|((first|refine zB ?_|(refine LS.nilO ?_;intro nq hnq hltq)|(refine MS.new ?_;intro bq hbq hbqf)|(refine MS.nil ?_;intro nq hnq hltq;have hlq:=hltq _ _ (Hp.get_eq _ _ _);clear hltq)|(refine LS.nilQ ?_;try with_reducible intro nq hnq));try dsimp only[Ex.then,Ex.inBlock,putD,Env.put])|(refine CS.exit ?_;try dsimp only[Ex.then,Ex.inBlock,↓reduceIte,Nat.reduceEqDiff];try simp only[↓reduceIte])|(refine resK.nil ?_;dsimp only[resV]))
        refine LS.callQ (.arr 8 (bys (bas i))) rfl (fun n' hn' => spec_l01Basis i _ _ (by omega)) ?_
        (repeat first|refine zA ?_|(refine CS.tailL _ (List.Mem.head _) ?_;dsimp only[List.take,List.drop])|refine zC ?_|((first|refine zB ?_|(refine LS.nilO ?_;intro nq hnq hltq)|(refine MS.new ?_;intro bq hbq hbqf)|(refine MS.nil ?_;intro nq hnq hltq;have hlq:=hltq _ _ (Hp.get_eq _ _ _);clear hltq)|(refine LS.nilQ ?_;try with_reducible intro nq hnq));try dsimp only[Ex.then,Ex.inBlock,putD,Env.put])|(refine CS.exit ?_;try dsimp only[Ex.then,Ex.inBlock,↓reduceIte,Nat.reduceEqDiff];try simp only[↓reduceIte])|(refine resK.nil ?_;dsimp only[resV]))
        refine zI ?_ ?_<;>intro h5
        · (repeat first|refine zA ?_|(refine CS.tailL _ (List.Mem.head _) ?_;dsimp only[List.take,List.drop])|refine zC ?_|((first|refine zB ?_|(refine LS.nilO ?_;intro nq hnq hltq)|(refine MS.new ?_;intro bq hbq hbqf)|(refine MS.nil ?_;intro nq hnq hltq;have hlq:=hltq _ _ (Hp.get_eq _ _ _);clear hltq)|(refine LS.nilQ ?_;try with_reducible intro nq hnq));try dsimp only[Ex.then,Ex.inBlock,putD,Env.put])|(refine CS.exit ?_;try dsimp only[Ex.then,Ex.inBlock,↓reduceIte,Nat.reduceEqDiff];try simp only[↓reduceIte])|(refine resK.nil ?_;dsimp only[resV]))
          exact ⟨_, H, rfl, by exact zD, by rw [tb_false (fun h => h5 (h i (by omega)).2)], rfl⟩
        · (repeat first|refine zA ?_|(refine CS.tailL _ (List.Mem.head _) ?_;dsimp only[List.take,List.drop])|refine zC ?_|((first|refine zB ?_|(refine LS.nilO ?_;intro nq hnq hltq)|(refine MS.new ?_;intro bq hbq hbqf)|(refine MS.nil ?_;intro nq hnq hltq;have hlq:=hltq _ _ (Hp.get_eq _ _ _);clear hltq)|(refine LS.nilQ ?_;try with_reducible intro nq hnq));try dsimp only[Ex.then,Ex.inBlock,putD,Env.put])|(refine CS.exit ?_;try dsimp only[Ex.then,Ex.inBlock,↓reduceIte,Nat.reduceEqDiff];try simp only[↓reduceIte])|(refine resK.nil ?_;dsimp only[resV]))
          refine ⟨by omega, by (repeat first | exact trivial | refine And.intro rfl ?_), by exact zD, fun i' hi' => ?_⟩
          by_cases e : i' = i
          · subst e; exact ⟨h4, h5⟩
          · exact hJ i' (by omega)
  · have : i = a := by omega
    subst this
    (repeat first|refine zA ?_|(refine CS.tailL _ (List.Mem.head _) ?_;dsimp only[List.take,List.drop])|refine zC ?_|((first|refine zB ?_|(refine LS.nilO ?_;intro nq hnq hltq)|(refine MS.new ?_;intro bq hbq hbqf)|(refine MS.nil ?_;intro nq hnq hltq;have hlq:=hltq _ _ (Hp.get_eq _ _ _);clear hltq)|(refine LS.nilQ ?_;try with_reducible intro nq hnq));try dsimp only[Ex.then,Ex.inBlock,putD,Env.put])|(refine CS.exit ?_;try dsimp only[Ex.then,Ex.inBlock,↓reduceIte,Nat.reduceEqDiff];try simp only[↓reduceIte])|(refine resK.nil ?_;dsimp only[resV]))
    exact ⟨_, H, rfl, by exact zD, by rw [tb_true (show counits p i e c from fun i' h => hJ i' h)], rfl⟩

theorem Coalgebra_isFault (p : Int) (a i j k l : Nat) (ii jj kk ll : Int) (c : Nat → Int) (b : Nat) (K : Blk) (H : Hp) (n : Nat) (hp : 2 ≤ p ∧ p ≤ 31) (ha : a ≤ 8) (hi : i < a ∧ ii = i) (hj : j < a ∧ jj = j) (hk : k < a ∧ kk = k) (hl : l < a ∧ ll = l)
    (hb : H.get b = some K) (hsz : K.size = 522) (h0 : K.c 0 = .int .i64 p) (h1 : K.c 1 = .int .i64 a) (hK : ∀ q, q < 512 → K.c (10 + q) = .int .u8 (c q)) (hc : isBy 512 c) :
    FnS Try.prog 121 [ptr b 0, i64 ii, i64 jj, i64 kk, i64 ll] H n (fun r H' _ => r = bl (!tb (cosum1 p c i j k l a = cosum2 p c i j k l a)) ∧ H' = H) := by
  obtain ⟨hi, rfl⟩ := hi
  obtain ⟨hj, rfl⟩ := hj
  obtain ⟨hk, rfl⟩ := hk
  obtain ⟨hl, rfl⟩ := hl
  refine FnS.of_body Try.func121 tr121 (by simp) (fun hf => ?_)
  dsimp only [argEnv]
  unfold ir121
  have hbn := getlt hf hb
  (repeat first|refine zA ?_|(refine CS.tailL _ (List.Mem.head _) ?_;dsimp only[List.take,List.drop])|refine zC ?_|((first|refine zB ?_|(refine LS.nilO ?_;intro nq hnq hltq)|(refine MS.new ?_;intro bq hbq hbqf)|(refine MS.nil ?_;intro nq hnq hltq;have hlq:=hltq _ _ (Hp.get_eq _ _ _);clear hltq)|(refine LS.nilQ ?_;try with_reducible intro nq hnq));try dsimp only[Ex.then,Ex.inBlock,putD,Env.put])|(refine CS.exit ?_;try dsimp only[Ex.then,Ex.inBlock,↓reduceIte,Nat.reduceEqDiff];try simp only[↓reduceIte])|(refine resK.nil ?_;dsimp only[resV]))
  refine RS.call rfl ((Coalgebra_field p a b K _ _ (by exact zH) hsz h0 h1 (by omega)).mono ?_)
  rintro r H n2 hn2 ⟨rfl, rfl⟩
  (repeat first|refine zA ?_|(refine CS.tailL _ (List.Mem.head _) ?_;dsimp only[List.take,List.drop])|refine zC ?_|((first|refine zB ?_|(refine LS.nilO ?_;intro nq hnq hltq)|(refine MS.new ?_;intro bq hbq hbqf)|(refine MS.nil ?_;intro nq hnq hltq;have hlq:=hltq _ _ (Hp.get_eq _ _ _);clear hltq)|(refine LS.nilQ ?_;try with_reducible intro nq hnq));try dsimp only[Ex.then,Ex.inBlock,putD,Env.put])|(refine CS.exit ?_;try dsimp only[Ex.then,Ex.inBlock,↓reduceIte,Nat.reduceEqDiff];try simp only[↓reduceIte])|(refine resK.nil ?_;dsimp only[resV]))
  refine CS.iter a (fun x => [(19, i64 x), (18, i64 a), (12, i64 (sm (fun a => c (64 * i + 8 * a + l) * c (64 * a + 8 * j + k)) x)), (13, i64 (sm (fun a => c (64 * i + 8 * j + a) * c (64 * a + 8 * k + l)) x)), (11, ptr n2 0), (0, ptr b 0), (1, i64 i), (2, i64 j), (3, i64 k), (4, i64 l)])
    (fun _ => (n2, ⟨2, fldC p a, 75⟩) :: H) (fun _ => True) (by (repeat first | exact trivial | refine And.intro rfl ?_)) (by exact zD) trivial ?_
  intro x n3 hx hn _
  have hs1 := sm_b (f := fun a => c (64 * i + 8 * a + l) * c (64 * a + 8 * j + k)) (B := 65025) (n := x) (fun q hq => by
    have h1 := hc (64 * i + 8 * q + l) (by omega)
    have h2 := hc (64 * q + 8 * j + k) (by omega)
    exact mulB h1.1 h1.2 h2.1 h2.2)
  have hs2 := sm_b (f := fun a => c (64 * i + 8 * j + a) * c (64 * a + 8 * k + l)) (B := 65025) (n := x) (fun q hq => by
    have h1 := hc (64 * i + 8 * j + q) (by omega)
    have h2 := hc (64 * q + 8 * k + l) (by omega)
    exact mulB h1.1 h1.2 h2.1 h2.2)
  (repeat first|refine zA ?_|(refine CS.tailL _ (List.Mem.head _) ?_;dsimp only[List.take,List.drop])|refine zC ?_|((first|refine zB ?_|(refine LS.nilO ?_;intro nq hnq hltq)|(refine MS.new ?_;intro bq hbq hbqf)|(refine MS.nil ?_;intro nq hnq hltq;have hlq:=hltq _ _ (Hp.get_eq _ _ _);clear hltq)|(refine LS.nilQ ?_;try with_reducible intro nq hnq));try dsimp only[Ex.then,Ex.inBlock,putD,Env.put])|(refine CS.exit ?_;try dsimp only[Ex.then,Ex.inBlock,↓reduceIte,Nat.reduceEqDiff];try simp only[↓reduceIte])|(refine resK.nil ?_;dsimp only[resV]))
  refine zI ?_ ?_<;>intro h2
  · have g1 := hc (64 * i + 8 * x + l) (by omega)
    have g2 := hc (64 * x + 8 * j + k) (by omega)
    have g3 := mulB g1.1 g1.2 g2.1 g2.2
    have g4 := hc (64 * i + 8 * j + x) (by omega)
    have g5 := hc (64 * x + 8 * k + l) (by omega)
    have g6 := mulB g4.1 g4.2 g5.1 g5.2
    (repeat first|refine zA ?_|(refine CS.tailL _ (List.Mem.head _) ?_;dsimp only[List.take,List.drop])|refine zC ?_|((first|refine zB ?_|(refine LS.nilO ?_;intro nq hnq hltq)|(refine MS.new ?_;intro bq hbq hbqf)|(refine MS.nil ?_;intro nq hnq hltq;have hlq:=hltq _ _ (Hp.get_eq _ _ _);clear hltq)|(refine LS.nilQ ?_;try with_reducible intro nq hnq));try dsimp only[Ex.then,Ex.inBlock,putD,Env.put])|(refine CS.exit ?_;try dsimp only[Ex.then,Ex.inBlock,↓reduceIte,Nat.reduceEqDiff];try simp only[↓reduceIte])|(refine resK.nil ?_;dsimp only[resV]))
    exact ⟨by omega, by (repeat first | exact trivial | refine And.intro rfl ?_), Drops.refl _ _, trivial⟩
  · have : x = a := by omega
    subst this
    (repeat first|refine zA ?_|(refine CS.tailL _ (List.Mem.head _) ?_;dsimp only[List.take,List.drop])|refine zC ?_|((first|refine zB ?_|(refine LS.nilO ?_;intro nq hnq hltq)|(refine MS.new ?_;intro bq hbq hbqf)|(refine MS.nil ?_;intro nq hnq hltq;have hlq:=hltq _ _ (Hp.get_eq _ _ _);clear hltq)|(refine LS.nilQ ?_;try with_reducible intro nq hnq));try dsimp only[Ex.then,Ex.inBlock,putD,Env.put])|(refine CS.exit ?_;try dsimp only[Ex.then,Ex.inBlock,↓reduceIte,Nat.reduceEqDiff];try simp only[↓reduceIte])|(refine resK.nil ?_;dsimp only[resV]))
    exact ⟨_, H, rfl, by exact zD, by rw [tb_dec]; rfl, rfl⟩

theorem spec_l02Sums (p : Int) (a i j k l : Nat) (ii jj kk ll : Int) (c : Nat → Int) (K : Nat → SV) (H : Hp) (n : Nat) (hp : 2 ≤ p ∧ p ≤ 31) (ha : a ≤ 8) (hi : i < a ∧ ii = i) (hj : j < a ∧ jj = j) (hk : k < a ∧ kk = k) (hl : l < a ∧ ll = l)
    (h0 : K 0 = .int .i64 p) (h1 : K 1 = .int .i64 a) (hK : ∀ q, q < 512 → K (10 + q) = .int .u8 (c q)) (hc : isBy 512 c) :
    FnS Try.prog 127 [.arr 522 K, i64 ii, i64 jj, i64 kk, i64 ll] H n (fun r H' _ => r = .tup [u8 (cosum1 p c i j k l a), u8 (cosum2 p c i j k l a)] ∧ H' = H) := by
  obtain ⟨hi, rfl⟩ := hi
  obtain ⟨hj, rfl⟩ := hj
  obtain ⟨hk, rfl⟩ := hk
  obtain ⟨hl, rfl⟩ := hl
  refine FnS.of_body Try.func127 tr127 (by simp) (fun hf => ?_)
  dsimp only [argEnv]
  unfold ir127
  (repeat first|refine zA ?_|(refine CS.tailL _ (List.Mem.head _) ?_;dsimp only[List.take,List.drop])|refine zC ?_|((first|refine zB ?_|(refine LS.nilO ?_;intro nq hnq hltq)|(refine MS.new ?_;intro bq hbq hbqf)|(refine MS.nil ?_;intro nq hnq hltq;have hlq:=hltq _ _ (Hp.get_eq _ _ _);clear hltq)|(refine LS.nilQ ?_;try with_reducible intro nq hnq));try dsimp only[Ex.then,Ex.inBlock,putD,Env.put])|(refine CS.exit ?_;try dsimp only[Ex.then,Ex.inBlock,↓reduceIte,Nat.reduceEqDiff];try simp only[↓reduceIte])|(refine resK.nil ?_;dsimp only[resV]))
  refine CS.iter a (fun x => [(14, i64 x), (12, i64 (sm (fun a => c (64 * i + 8 * a + l) * c (64 * a + 8 * j + k)) x)), (13, i64 (sm (fun a => c (64 * i + 8 * j + a) * c (64 * a + 8 * k + l)) x)), (5, ptr n 0), (1, i64 i), (2, i64 j), (3, i64 k), (4, i64 l)])
    (fun _ => (n, ⟨522, K, 112⟩) :: H) (fun _ => True) (by (repeat first | exact trivial | refine And.intro rfl ?_)) (by exact zD) trivial ?_
  intro x n3 hx hn _
  have hs1 := sm_b (f := fun a => c (64 * i + 8 * a + l) * c (64 * a + 8 * j + k)) (B := 65025) (n := x) (fun q hq => by
    have h1 := hc (64 * i + 8 * q + l) (by omega)
    have h2 := hc (64 * q + 8 * j + k) (by omega)
    exact mulB h1.1 h1.2 h2.1 h2.2)
  have hs2 := sm_b (f := fun a => c (64 * i + 8 * j + a) * c (64 * a + 8 * k + l)) (B := 65025) (n := x) (fun q hq => by
    have h1 := hc (64 * i + 8 * j + q) (by omega)
    have h2 := hc (64 * q + 8 * k + l) (by omega)
    exact mulB h1.1 h1.2 h2.1 h2.2)
  (repeat first|refine zA ?_|(refine CS.tailL _ (List.Mem.head _) ?_;dsimp only[List.take,List.drop])|refine zC ?_|((first|refine zB ?_|(refine LS.nilO ?_;intro nq hnq hltq)|(refine MS.new ?_;intro bq hbq hbqf)|(refine MS.nil ?_;intro nq hnq hltq;have hlq:=hltq _ _ (Hp.get_eq _ _ _);clear hltq)|(refine LS.nilQ ?_;try with_reducible intro nq hnq));try dsimp only[Ex.then,Ex.inBlock,putD,Env.put])|(refine CS.exit ?_;try dsimp only[Ex.then,Ex.inBlock,↓reduceIte,Nat.reduceEqDiff];try simp only[↓reduceIte])|(refine resK.nil ?_;dsimp only[resV]))
  refine zI ?_ ?_<;>intro h2
  · have g1 := hc (64 * i + 8 * x + l) (by omega)
    have g2 := hc (64 * x + 8 * j + k) (by omega)
    have g3 := mulB g1.1 g1.2 g2.1 g2.2
    have g4 := hc (64 * i + 8 * j + x) (by omega)
    have g5 := hc (64 * x + 8 * k + l) (by omega)
    have g6 := mulB g4.1 g4.2 g5.1 g5.2
    (repeat first|refine zA ?_|(refine CS.tailL _ (List.Mem.head _) ?_;dsimp only[List.take,List.drop])|refine zC ?_|((first|refine zB ?_|(refine LS.nilO ?_;intro nq hnq hltq)|(refine MS.new ?_;intro bq hbq hbqf)|(refine MS.nil ?_;intro nq hnq hltq;have hlq:=hltq _ _ (Hp.get_eq _ _ _);clear hltq)|(refine LS.nilQ ?_;try with_reducible intro nq hnq));try dsimp only[Ex.then,Ex.inBlock,putD,Env.put])|(refine CS.exit ?_;try dsimp only[Ex.then,Ex.inBlock,↓reduceIte,Nat.reduceEqDiff];try simp only[↓reduceIte])|(refine resK.nil ?_;dsimp only[resV]))
    exact ⟨by omega, by (repeat first | exact trivial | refine And.intro rfl ?_), Drops.refl _ _, trivial⟩
  · have : x = a := by omega
    subst this
    (repeat first|refine zA ?_|(refine CS.tailL _ (List.Mem.head _) ?_;dsimp only[List.take,List.drop])|refine zC ?_|((first|refine zB ?_|(refine LS.nilO ?_;intro nq hnq hltq)|(refine MS.new ?_;intro bq hbq hbqf)|(refine MS.nil ?_;intro nq hnq hltq;have hlq:=hltq _ _ (Hp.get_eq _ _ _);clear hltq)|(refine LS.nilQ ?_;try with_reducible intro nq hnq));try dsimp only[Ex.then,Ex.inBlock,putD,Env.put])|(refine CS.exit ?_;try dsimp only[Ex.then,Ex.inBlock,↓reduceIte,Nat.reduceEqDiff];try simp only[↓reduceIte])|(refine resK.nil ?_;dsimp only[resV]))
    refine LS.callQ (u8 (cosum1 p c i j k l x)) rfl (fun n' hn' => spec_l01Mod p _ _ _ hp.1 hp.2 (by omega)) ?_
    (repeat first|refine zA ?_|(refine CS.tailL _ (List.Mem.head _) ?_;dsimp only[List.take,List.drop])|refine zC ?_|((first|refine zB ?_|(refine LS.nilO ?_;intro nq hnq hltq)|(refine MS.new ?_;intro bq hbq hbqf)|(refine MS.nil ?_;intro nq hnq hltq;have hlq:=hltq _ _ (Hp.get_eq _ _ _);clear hltq)|(refine LS.nilQ ?_;try with_reducible intro nq hnq));try dsimp only[Ex.then,Ex.inBlock,putD,Env.put])|(refine CS.exit ?_;try dsimp only[Ex.then,Ex.inBlock,↓reduceIte,Nat.reduceEqDiff];try simp only[↓reduceIte])|(refine resK.nil ?_;dsimp only[resV]))
    refine RS.call rfl ((spec_l01Mod p _ _ _ hp.1 hp.2 (by omega)).mono ?_)
    rintro r H n7 hn7 ⟨rfl, rfl⟩
    (repeat first|refine zA ?_|(refine CS.tailL _ (List.Mem.head _) ?_;dsimp only[List.take,List.drop])|refine zC ?_|((first|refine zB ?_|(refine LS.nilO ?_;intro nq hnq hltq)|(refine MS.new ?_;intro bq hbq hbqf)|(refine MS.nil ?_;intro nq hnq hltq;have hlq:=hltq _ _ (Hp.get_eq _ _ _);clear hltq)|(refine LS.nilQ ?_;try with_reducible intro nq hnq));try dsimp only[Ex.then,Ex.inBlock,putD,Env.put])|(refine CS.exit ?_;try dsimp only[Ex.then,Ex.inBlock,↓reduceIte,Nat.reduceEqDiff];try simp only[↓reduceIte])|(refine resK.nil ?_;dsimp only[resV]))
    exact ⟨_, H, rfl, by exact zD, rfl, rfl⟩

theorem Coalgebra_fault (p : Int) (a : Nat) (c : Nat → Int) (b : Nat) (K : Blk) (H : Hp) (n : Nat) (hp : 2 ≤ p ∧ p ≤ 31) (ha1 : 1 ≤ a) (ha : a ≤ 8) (hb : H.get b = some K) (hsz : K.size = 522)
    (h0 : K.c 0 = .int .i64 p) (h1 : K.c 1 = .int .i64 a) (hK : ∀ q, q < 512 → K.c (10 + q) = .int .u8 (c q)) (hc : isBy 512 c) :
    FnS Try.prog 107 [ptr b 0] H n (fun r H' _ => ((r = .s .nils ∧ coassoc p a c) ∨ ((∃ b o l c, r = .s (.slc b o l c)) ∧ ¬coassoc p a c)) ∧ H' = H) := by
  refine FnS.of_body Try.func107 tr107 (by simp) (fun hf => ?_)
  dsimp only [argEnv]
  unfold ir107
  have hbn := getlt hf hb
  obtain ⟨p2, p3, p4⟩ := pow4 a ha1 ha
  (repeat first|refine zA ?_|(refine CS.tailL _ (List.Mem.head _) ?_;dsimp only[List.take,List.drop])|refine zC ?_|((first|refine zB ?_|(refine LS.nilO ?_;intro nq hnq hltq)|(refine MS.new ?_;intro bq hbq hbqf)|(refine MS.nil ?_;intro nq hnq hltq;have hlq:=hltq _ _ (Hp.get_eq _ _ _);clear hltq)|(refine LS.nilQ ?_;try with_reducible intro nq hnq));try dsimp only[Ex.then,Ex.inBlock,putD,Env.put])|(refine CS.exit ?_;try dsimp only[Ex.then,Ex.inBlock,↓reduceIte,Nat.reduceEqDiff];try simp only[↓reduceIte])|(refine resK.nil ?_;dsimp only[resV]))
  refine CS.iter (a * a * a * a) (fun t => [(20, i64 t), (19, i64 ((a : Int) * a * a * a)), (3, i64 a), (0, ptr b 0)]) (fun _ => H)
    (fun t => ∀ t' : Nat, t' < t → cosum1 p c (t' / (a * a * a)) (t' / (a * a) % a) (t' / a % a) (t' % a) a = cosum2 p c (t' / (a * a * a)) (t' / (a * a) % a) (t' / a % a) (t' % a) a) (by (repeat first | exact trivial | refine And.intro rfl ?_)) (Drops.refl _ _) (fun _ h => by omega) ?_
  intro t n1 ht hn hJ
  have ht' : (t : Int) ≤ (a : Int) * a * a * a := by have := Int.ofNat_le.2 ht; simpa only [Int.natCast_mul] using this
  have q1 : 0 ≤ (t : Int) / ((a : Int) * a) ∧ (t : Int) / ((a : Int) * a) ≤ t := ⟨Int.ediv_nonneg (by omega) (by omega), Int.ediv_le_self _ (by omega)⟩
  have q2 : 0 ≤ (t : Int) / (a : Int) ∧ (t : Int) / (a : Int) ≤ t := ⟨Int.ediv_nonneg (by omega) (by omega), Int.ediv_le_self _ (by omega)⟩
  (repeat first|refine zA ?_|(refine CS.tailL _ (List.Mem.head _) ?_;dsimp only[List.take,List.drop])|refine zC ?_|((first|refine zB ?_|(refine LS.nilO ?_;intro nq hnq hltq)|(refine MS.new ?_;intro bq hbq hbqf)|(refine MS.nil ?_;intro nq hnq hltq;have hlq:=hltq _ _ (Hp.get_eq _ _ _);clear hltq)|(refine LS.nilQ ?_;try with_reducible intro nq hnq));try dsimp only[Ex.then,Ex.inBlock,putD,Env.put])|(refine CS.exit ?_;try dsimp only[Ex.then,Ex.inBlock,↓reduceIte,Nat.reduceEqDiff];try simp only[↓reduceIte])|(refine resK.nil ?_;dsimp only[resV]))
  refine zI ?_ ?_<;>intro h2
  · have htl : t < a * a * a * a := by have h3 : (t : Int) < ((a * a * a * a : Nat) : Int) := by (simp only [Int.natCast_mul]; exact h2)
                                       exact Int.ofNat_lt.1 h3
    obtain ⟨i1, i2, i3, i4⟩ := idx4 a t ha1 htl
    (repeat first|refine zA ?_|(refine CS.tailL _ (List.Mem.head _) ?_;dsimp only[List.take,List.drop])|refine zC ?_|((first|refine zB ?_|(refine LS.nilO ?_;intro nq hnq hltq)|(refine MS.new ?_;intro bq hbq hbqf)|(refine MS.nil ?_;intro nq hnq hltq;have hlq:=hltq _ _ (Hp.get_eq _ _ _);clear hltq)|(refine LS.nilQ ?_;try with_reducible intro nq hnq));try dsimp only[Ex.then,Ex.inBlock,putD,Env.put])|(refine CS.exit ?_;try dsimp only[Ex.then,Ex.inBlock,↓reduceIte,Nat.reduceEqDiff];try simp only[↓reduceIte])|(refine resK.nil ?_;dsimp only[resV]))
    refine RS.call rfl ((Coalgebra_isFault p a (t / (a * a * a)) (t / (a * a) % a) (t / a % a) (t % a) _ _ _ _ c b K _ _ hp ha ⟨i1, by push_cast; rfl⟩ ⟨i2, by push_cast; rfl⟩ ⟨i3, by push_cast; rfl⟩ ⟨i4, by push_cast; rfl⟩ (by exact zH) hsz h0 h1 hK hc).mono ?_)
    rintro r H n2 hn2 ⟨rfl, rfl⟩
    (repeat first|refine zA ?_|(refine CS.tailL _ (List.Mem.head _) ?_;dsimp only[List.take,List.drop])|refine zC ?_|((first|refine zB ?_|(refine LS.nilO ?_;intro nq hnq hltq)|(refine MS.new ?_;intro bq hbq hbqf)|(refine MS.nil ?_;intro nq hnq hltq;have hlq:=hltq _ _ (Hp.get_eq _ _ _);clear hltq)|(refine LS.nilQ ?_;try with_reducible intro nq hnq));try dsimp only[Ex.then,Ex.inBlock,putD,Env.put])|(refine CS.exit ?_;try dsimp only[Ex.then,Ex.inBlock,↓reduceIte,Nat.reduceEqDiff];try simp only[↓reduceIte])|(refine resK.nil ?_;dsimp only[resV]))
    refine zI ?_ ?_<;>intro h3
    · (repeat first|refine zA ?_|(refine CS.tailL _ (List.Mem.head _) ?_;dsimp only[List.take,List.drop])|refine zC ?_|((first|refine zB ?_|(refine LS.nilO ?_;intro nq hnq hltq)|(refine MS.new ?_;intro bq hbq hbqf)|(refine MS.nil ?_;intro nq hnq hltq;have hlq:=hltq _ _ (Hp.get_eq _ _ _);clear hltq)|(refine LS.nilQ ?_;try with_reducible intro nq hnq));try dsimp only[Ex.then,Ex.inBlock,putD,Env.put])|(refine CS.exit ?_;try dsimp only[Ex.then,Ex.inBlock,↓reduceIte,Nat.reduceEqDiff];try simp only[↓reduceIte])|(refine resK.nil ?_;dsimp only[resV]))
      exact ⟨_, H, rfl, by exact zD, .inr ⟨⟨_, _, _, _, rfl⟩, fun h => h3 (h t htl)⟩, rfl⟩
    · (repeat first|refine zA ?_|(refine CS.tailL _ (List.Mem.head _) ?_;dsimp only[List.take,List.drop])|refine zC ?_|((first|refine zB ?_|(refine LS.nilO ?_;intro nq hnq hltq)|(refine MS.new ?_;intro bq hbq hbqf)|(refine MS.nil ?_;intro nq hnq hltq;have hlq:=hltq _ _ (Hp.get_eq _ _ _);clear hltq)|(refine LS.nilQ ?_;try with_reducible intro nq hnq));try dsimp only[Ex.then,Ex.inBlock,putD,Env.put])|(refine CS.exit ?_;try dsimp only[Ex.then,Ex.inBlock,↓reduceIte,Nat.reduceEqDiff];try simp only[↓reduceIte])|(refine resK.nil ?_;dsimp only[resV]))
      refine ⟨by omega, by (repeat first | exact trivial | refine And.intro rfl ?_), Drops.refl _ _, fun t' ht' => ?_⟩
      by_cases e : t' = t
      · subst e; exact h3
      · exact hJ t' (by omega)
  · have : t = a * a * a * a := by
      have h3 : ¬(t : Int) < ((a * a * a * a : Nat) : Int) := by (simp only [Int.natCast_mul]; exact h2)
      have : ¬ t < a * a * a * a := fun h => h3 (Int.ofNat_lt.2 h)
      omega
    subst this
    (repeat first|refine zA ?_|(refine CS.tailL _ (List.Mem.head _) ?_;dsimp only[List.take,List.drop])|refine zC ?_|((first|refine zB ?_|(refine LS.nilO ?_;intro nq hnq hltq)|(refine MS.new ?_;intro bq hbq hbqf)|(refine MS.nil ?_;intro nq hnq hltq;have hlq:=hltq _ _ (Hp.get_eq _ _ _);clear hltq)|(refine LS.nilQ ?_;try with_reducible intro nq hnq));try dsimp only[Ex.then,Ex.inBlock,putD,Env.put])|(refine CS.exit ?_;try dsimp only[Ex.then,Ex.inBlock,↓reduceIte,Nat.reduceEqDiff];try simp only[↓reduceIte])|(refine resK.nil ?_;dsimp only[resV]))
    exact ⟨_, H, rfl, by exact zD, .inl ⟨rfl, fun t' ht' => hJ t' ht'⟩, rfl⟩

theorem spec_l02Fault (p : Int) (a : Nat) (c : Nat → Int) (K : Nat → SV) (H : Hp) (n : Nat) (hp : 2 ≤ p ∧ p ≤ 31) (ha1 : 1 ≤ a) (ha : a ≤ 8)
    (h0 : K 0 = .int .i64 p) (h1 : K 1 = .int .i64 a) (hK : ∀ q, q < 512 → K (10 + q) = .int .u8 (c q)) (hc : isBy 512 c) :
    FnS Try.prog 117 [.arr 522 K] H n (fun r H' _ => (∃ s, r = .tup [.s s, bl (!tb (coassoc p a c))]) ∧ H' = H) := by
  refine FnS.of_body Try.func117 tr117 (by simp) (fun hf => ?_)
  dsimp only [argEnv]
  unfold ir117
  obtain ⟨p2, p3, p4⟩ := pow4 a ha1 ha
  (repeat first|refine zA ?_|(refine CS.tailL _ (List.Mem.head _) ?_;dsimp only[List.take,List.drop])|refine zC ?_|((first|refine zB ?_|(refine LS.nilO ?_;intro nq hnq hltq)|(refine MS.new ?_;intro bq hbq hbqf)|(refine MS.nil ?_;intro nq hnq hltq;have hlq:=hltq _ _ (Hp.get_eq _ _ _);clear hltq)|(refine LS.nilQ ?_;try with_reducible intro nq hnq));try dsimp only[Ex.then,Ex.inBlock,putD,Env.put])|(refine CS.exit ?_;try dsimp only[Ex.then,Ex.inBlock,↓reduceIte,Nat.reduceEqDiff];try simp only[↓reduceIte])|(refine resK.nil ?_;dsimp only[resV]))
  refine CS.iter (a * a * a * a) (fun t => [(5, i64 t), (4, i64 a), (1, ptr n 0)]) (fun _ => (n, ⟨522, K, 112⟩) :: H)
    (fun t => ∀ t' : Nat, t' < t → cosum1 p c (t' / (a * a * a)) (t' / (a * a) % a) (t' / a % a) (t' % a) a = cosum2 p c (t' / (a * a * a)) (t' / (a * a) % a) (t' / a % a) (t' % a) a) (by (repeat first | exact trivial | refine And.intro rfl ?_)) (Drops.refl _ _) (fun _ h => by omega) ?_
  intro t n1 ht hn hJ
  have ht' : (t : Int) ≤ (a : Int) * a * a * a := by have := Int.ofNat_le.2 ht; simpa only [Int.natCast_mul] using this
  have q1 : 0 ≤ (t : Int) / ((a : Int) * a) ∧ (t : Int) / ((a : Int) * a) ≤ t := ⟨Int.ediv_nonneg (by omega) (by omega), Int.ediv_le_self _ (by omega)⟩
  have q2 : 0 ≤ (t : Int) / (a : Int) ∧ (t : Int) / (a : Int) ≤ t := ⟨Int.ediv_nonneg (by omega) (by omega), Int.ediv_le_self _ (by omega)⟩
  (repeat first|refine zA ?_|(refine CS.tailL _ (List.Mem.head _) ?_;dsimp only[List.take,List.drop])|refine zC ?_|((first|refine zB ?_|(refine LS.nilO ?_;intro nq hnq hltq)|(refine MS.new ?_;intro bq hbq hbqf)|(refine MS.nil ?_;intro nq hnq hltq;have hlq:=hltq _ _ (Hp.get_eq _ _ _);clear hltq)|(refine LS.nilQ ?_;try with_reducible intro nq hnq));try dsimp only[Ex.then,Ex.inBlock,putD,Env.put])|(refine CS.exit ?_;try dsimp only[Ex.then,Ex.inBlock,↓reduceIte,Nat.reduceEqDiff];try simp only[↓reduceIte])|(refine resK.nil ?_;dsimp only[resV]))
  refine zI ?_ ?_<;>intro h2
  · have htl : t < a * a * a * a := by have h3 : (t : Int) < ((a * a * a * a : Nat) : Int) := by (simp only [Int.natCast_mul]; exact h2)
                                       exact Int.ofNat_lt.1 h3
    obtain ⟨i1, i2, i3, i4⟩ := idx4 a t ha1 htl
    (repeat first|refine zA ?_|(refine CS.tailL _ (List.Mem.head _) ?_;dsimp only[List.take,List.drop])|refine zC ?_|((first|refine zB ?_|(refine LS.nilO ?_;intro nq hnq hltq)|(refine MS.new ?_;intro bq hbq hbqf)|(refine MS.nil ?_;intro nq hnq hltq;have hlq:=hltq _ _ (Hp.get_eq _ _ _);clear hltq)|(refine LS.nilQ ?_;try with_reducible intro nq hnq));try dsimp only[Ex.then,Ex.inBlock,putD,Env.put])|(refine CS.exit ?_;try dsimp only[Ex.then,Ex.inBlock,↓reduceIte,Nat.reduceEqDiff];try simp only[↓reduceIte])|(refine resK.nil ?_;dsimp only[resV]))
    refine RS.call rfl ((FnS.args (concs_cons (conc_arr (fun q hq => rfl)) rfl) (spec_l02Sums p a (t / (a * a * a)) (t / (a * a) % a) (t / a % a) (t % a) _ _ _ _ c K _ _ hp ha ⟨i1, by push_cast; rfl⟩ ⟨i2, by push_cast; rfl⟩ ⟨i3, by push_cast; rfl⟩ ⟨i4, by push_cast; rfl⟩ h0 h1 hK hc)).mono ?_)
    rintro r H n2 hn2 ⟨rfl, rfl⟩
    (repeat first|refine zA ?_|(refine CS.tailL _ (List.Mem.head _) ?_;dsimp only[List.take,List.drop])|refine zC ?_|((first|refine zB ?_|(refine LS.nilO ?_;intro nq hnq hltq)|(refine MS.new ?_;intro bq hbq hbqf)|(refine MS.nil ?_;intro nq hnq hltq;have hlq:=hltq _ _ (Hp.get_eq _ _ _);clear hltq)|(refine LS.nilQ ?_;try with_reducible intro nq hnq));try dsimp only[Ex.then,Ex.inBlock,putD,Env.put])|(refine CS.exit ?_;try dsimp only[Ex.then,Ex.inBlock,↓reduceIte,Nat.reduceEqDiff];try simp only[↓reduceIte])|(refine resK.nil ?_;dsimp only[resV]))
    refine zI ?_ ?_<;>intro h3
    · (repeat first|refine zA ?_|(refine CS.tailL _ (List.Mem.head _) ?_;dsimp only[List.take,List.drop])|refine zC ?_|((first|refine zB ?_|(refine LS.nilO ?_;intro nq hnq hltq)|(refine MS.new ?_;intro bq hbq hbqf)|(refine MS.nil ?_;intro nq hnq hltq;have hlq:=hltq _ _ (Hp.get_eq _ _ _);clear hltq)|(refine LS.nilQ ?_;try with_reducible intro nq hnq));try dsimp only[Ex.then,Ex.inBlock,putD,Env.put])|(refine CS.exit ?_;try dsimp only[Ex.then,Ex.inBlock,↓reduceIte,Nat.reduceEqDiff];try simp only[↓reduceIte])|(refine resK.nil ?_;dsimp only[resV]))
      exact ⟨_, H, rfl, by exact zD, ⟨_, by rw [tb_false (fun h : coassoc p a c => h3 (h t htl))]; rfl⟩, rfl⟩
    · (repeat first|refine zA ?_|(refine CS.tailL _ (List.Mem.head _) ?_;dsimp only[List.take,List.drop])|refine zC ?_|((first|refine zB ?_|(refine LS.nilO ?_;intro nq hnq hltq)|(refine MS.new ?_;intro bq hbq hbqf)|(refine MS.nil ?_;intro nq hnq hltq;have hlq:=hltq _ _ (Hp.get_eq _ _ _);clear hltq)|(refine LS.nilQ ?_;try with_reducible intro nq hnq));try dsimp only[Ex.then,Ex.inBlock,putD,Env.put])|(refine CS.exit ?_;try dsimp only[Ex.then,Ex.inBlock,↓reduceIte,Nat.reduceEqDiff];try simp only[↓reduceIte])|(refine resK.nil ?_;dsimp only[resV]))
      refine ⟨by omega, by (repeat first | exact trivial | refine And.intro rfl ?_), Drops.refl _ _, fun t' ht' => ?_⟩
      by_cases e : t' = t
      · subst e; exact h3
      · exact hJ t' (by omega)
  · have : t = a * a * a * a := by
      have h3 : ¬(t : Int) < ((a * a * a * a : Nat) : Int) := by (simp only [Int.natCast_mul]; exact h2)
      have : ¬ t < a * a * a * a := fun h => h3 (Int.ofNat_lt.2 h)
      omega
    subst this
    (repeat first|refine zA ?_|(refine CS.tailL _ (List.Mem.head _) ?_;dsimp only[List.take,List.drop])|refine zC ?_|((first|refine zB ?_|(refine LS.nilO ?_;intro nq hnq hltq)|(refine MS.new ?_;intro bq hbq hbqf)|(refine MS.nil ?_;intro nq hnq hltq;have hlq:=hltq _ _ (Hp.get_eq _ _ _);clear hltq)|(refine LS.nilQ ?_;try with_reducible intro nq hnq));try dsimp only[Ex.then,Ex.inBlock,putD,Env.put])|(refine CS.exit ?_;try dsimp only[Ex.then,Ex.inBlock,↓reduceIte,Nat.reduceEqDiff];try simp only[↓reduceIte])|(refine resK.nil ?_;dsimp only[resV]))
    exact ⟨_, H, rfl, by exact zD, ⟨_, by rw [tb_true (show coassoc p a c from fun t' ht' => hJ t' ht')]; rfl⟩, rfl⟩

theorem spec_l02Shape (p n' : Int) (u m : Nat → Int) (K : Nat → SV) (H : Hp) (n : Nat) (h0 : K 0 = .int .i64 p) (h1 : K 1 = .int .i64 n')
    (hU : ∀ q, q < 8 → K (2 + q) = .int .u8 (u q)) (hK : ∀ q, q < 512 → K (10 + q) = .int .u8 (m q)) (hu : isBy 8 u) (hm : isBy 512 m) :
    FnS Try.prog 116 [.arr 522 K] H n (fun v H' _ => v = bl (tb (shp p n' u m)) ∧ H' = H) := by
  refine FnS.of_body Try.func116 tr116 (by simp) (fun hf => ?_)
  dsimp only [argEnv]
  unfold ir116
  (repeat first|refine zA ?_|(refine CS.tailL _ (List.Mem.head _) ?_;dsimp only[List.take,List.drop])|refine zC ?_|((first|refine zB ?_|(refine LS.nilO ?_;intro nq hnq hltq)|(refine MS.new ?_;intro bq hbq hbqf)|(refine MS.nil ?_;intro nq hnq hltq;have hlq:=hltq _ _ (Hp.get_eq _ _ _);clear hltq)|(refine LS.nilQ ?_;try with_reducible intro nq hnq));try dsimp only[Ex.then,Ex.inBlock,putD,Env.put])|(refine CS.exit ?_;try dsimp only[Ex.then,Ex.inBlock,↓reduceIte,Nat.reduceEqDiff];try simp only[↓reduceIte])|(refine resK.nil ?_;dsimp only[resV]))
  refine RS.call rfl ((spec_l01Sizes _ _ _ _).mono ?_)
  rintro r H n2 hn2 ⟨rfl, rfl⟩
  (repeat first|refine zA ?_|(refine CS.tailL _ (List.Mem.head _) ?_;dsimp only[List.take,List.drop])|refine zC ?_|((first|refine zB ?_|(refine LS.nilO ?_;intro nq hnq hltq)|(refine MS.new ?_;intro bq hbq hbqf)|(refine MS.nil ?_;intro nq hnq hltq;have hlq:=hltq _ _ (Hp.get_eq _ _ _);clear hltq)|(refine LS.nilQ ?_;try with_reducible intro nq hnq));try dsimp only[Ex.then,Ex.inBlock,putD,Env.put])|(refine CS.exit ?_;try dsimp only[Ex.then,Ex.inBlock,↓reduceIte,Nat.reduceEqDiff];try simp only[↓reduceIte])|(refine resK.nil ?_;dsimp only[resV]))
  refine RS.sp (t := 8) rfl (fun h2 => ?_) (fun h2 => ?_) <;> (try simp only [tb_eq, tb_eqF, decide_eq_true_eq, decide_eq_false_iff_not, beq_iff_eq, bne_iff_ne, ne_eq, Decidable.not_not, beq_eq_false_iff_ne, bne_eq_false_iff_eq, Bool.not_eq_true', Bool.not_eq_false', Bool.not_eq_eq_eq_not, Bool.not_true, Bool.not_false] at h2)
  · (repeat first|refine zA ?_|(refine CS.tailL _ (List.Mem.head _) ?_;dsimp only[List.take,List.drop])|refine zC ?_|((first|refine zB ?_|(refine LS.nilO ?_;intro nq hnq hltq)|(refine MS.new ?_;intro bq hbq hbqf)|(refine MS.nil ?_;intro nq hnq hltq;have hlq:=hltq _ _ (Hp.get_eq _ _ _);clear hltq)|(refine LS.nilQ ?_;try with_reducible intro nq hnq));try dsimp only[Ex.then,Ex.inBlock,putD,Env.put])|(refine CS.exit ?_;try dsimp only[Ex.then,Ex.inBlock,↓reduceIte,Nat.reduceEqDiff];try simp only[↓reduceIte])|(refine resK.nil ?_;dsimp only[resV]))
    refine RS.call rfl ((spec_l01Vector p n' u _ _ hu).mono ?_)
    rintro r H n3 hn3 ⟨rfl, rfl⟩
    (repeat first|refine zA ?_|(refine CS.tailL _ (List.Mem.head _) ?_;dsimp only[List.take,List.drop])|refine zC ?_|((first|refine zB ?_|(refine LS.nilO ?_;intro nq hnq hltq)|(refine MS.new ?_;intro bq hbq hbqf)|(refine MS.nil ?_;intro nq hnq hltq;have hlq:=hltq _ _ (Hp.get_eq _ _ _);clear hltq)|(refine LS.nilQ ?_;try with_reducible intro nq hnq));try dsimp only[Ex.then,Ex.inBlock,putD,Env.put])|(refine CS.exit ?_;try dsimp only[Ex.then,Ex.inBlock,↓reduceIte,Nat.reduceEqDiff];try simp only[↓reduceIte])|(refine resK.nil ?_;dsimp only[resV]))
    refine RS.sp (t := 17) rfl (fun h3 => ?_) (fun h3 => ?_) <;> (try simp only [tb_eq, tb_eqF, decide_eq_true_eq, decide_eq_false_iff_not, beq_iff_eq, bne_iff_ne, ne_eq, Decidable.not_not, beq_eq_false_iff_ne, bne_eq_false_iff_eq, Bool.not_eq_true', Bool.not_eq_false', Bool.not_eq_eq_eq_not, Bool.not_true, Bool.not_false] at h3)
    · (repeat first|refine zA ?_|(refine CS.tailL _ (List.Mem.head _) ?_;dsimp only[List.take,List.drop])|refine zC ?_|((first|refine zB ?_|(refine LS.nilO ?_;intro nq hnq hltq)|(refine MS.new ?_;intro bq hbq hbqf)|(refine MS.nil ?_;intro nq hnq hltq;have hlq:=hltq _ _ (Hp.get_eq _ _ _);clear hltq)|(refine LS.nilQ ?_;try with_reducible intro nq hnq));try dsimp only[Ex.then,Ex.inBlock,putD,Env.put])|(refine CS.exit ?_;try dsimp only[Ex.then,Ex.inBlock,↓reduceIte,Nat.reduceEqDiff];try simp only[↓reduceIte])|(refine resK.nil ?_;dsimp only[resV]))
      refine RS.call rfl ((spec_l01Table p n' m _ _ hm).mono ?_)
      rintro r H n4 hn4 ⟨rfl, rfl⟩
      (repeat first|refine zA ?_|(refine CS.tailL _ (List.Mem.head _) ?_;dsimp only[List.take,List.drop])|refine zC ?_|((first|refine zB ?_|(refine LS.nilO ?_;intro nq hnq hltq)|(refine MS.new ?_;intro bq hbq hbqf)|(refine MS.nil ?_;intro nq hnq hltq;have hlq:=hltq _ _ (Hp.get_eq _ _ _);clear hltq)|(refine LS.nilQ ?_;try with_reducible intro nq hnq));try dsimp only[Ex.then,Ex.inBlock,putD,Env.put])|(refine CS.exit ?_;try dsimp only[Ex.then,Ex.inBlock,↓reduceIte,Nat.reduceEqDiff];try simp only[↓reduceIte])|(refine resK.nil ?_;dsimp only[resV]))
      exact ⟨_, H, rfl, by exact zD, congrArg bl (tb_iff ⟨fun h => ⟨h2, h3, h⟩, fun h => h.2.2⟩), rfl⟩
    · (repeat first|refine zA ?_|(refine CS.tailL _ (List.Mem.head _) ?_;dsimp only[List.take,List.drop])|refine zC ?_|((first|refine zB ?_|(refine LS.nilO ?_;intro nq hnq hltq)|(refine MS.new ?_;intro bq hbq hbqf)|(refine MS.nil ?_;intro nq hnq hltq;have hlq:=hltq _ _ (Hp.get_eq _ _ _);clear hltq)|(refine LS.nilQ ?_;try with_reducible intro nq hnq));try dsimp only[Ex.then,Ex.inBlock,putD,Env.put])|(refine CS.exit ?_;try dsimp only[Ex.then,Ex.inBlock,↓reduceIte,Nat.reduceEqDiff];try simp only[↓reduceIte])|(refine resK.nil ?_;dsimp only[resV]))
      exact ⟨_, H, rfl, by exact zD, by rw [tb_false (fun h => h3 h.2.1)], rfl⟩
  · (repeat first|refine zA ?_|(refine CS.tailL _ (List.Mem.head _) ?_;dsimp only[List.take,List.drop])|refine zC ?_|((first|refine zB ?_|(refine LS.nilO ?_;intro nq hnq hltq)|(refine MS.new ?_;intro bq hbq hbqf)|(refine MS.nil ?_;intro nq hnq hltq;have hlq:=hltq _ _ (Hp.get_eq _ _ _);clear hltq)|(refine LS.nilQ ?_;try with_reducible intro nq hnq));try dsimp only[Ex.then,Ex.inBlock,putD,Env.put])|(refine CS.exit ?_;try dsimp only[Ex.then,Ex.inBlock,↓reduceIte,Nat.reduceEqDiff];try simp only[↓reduceIte])|(refine resK.nil ?_;dsimp only[resV]))
    exact ⟨_, H, rfl, by exact zD, by rw [tb_false (fun h => h2 h.1)], rfl⟩

theorem impl_IsCoalgebra (p n' : Int) (u m : Nat → Int) (K : Nat → SV) (H : Hp) (n : Nat) (h0 : K 0 = .int .i64 p) (h1 : K 1 = .int .i64 n')
    (hU : ∀ q, q < 8 → K (2 + q) = .int .u8 (u q)) (hK : ∀ q, q < 512 → K (10 + q) = .int .u8 (m q)) (hu : isBy 8 u) (hm : isBy 512 m) :
    FnS Try.prog 79 [.arr 522 K] H n (fun v H' _ => v = bl (tb (isCoalg p n' u m)) ∧ H' = H) := by
  refine FnS.of_body Try.func79 tr79 (by simp) (fun hf => ?_)
  dsimp only [argEnv]
  unfold ir79
  (repeat first|refine zA ?_|(refine CS.tailL _ (List.Mem.head _) ?_;dsimp only[List.take,List.drop])|refine zC ?_|((first|refine zB ?_|(refine LS.nilO ?_;intro nq hnq hltq)|(refine MS.new ?_;intro bq hbq hbqf)|(refine MS.nil ?_;intro nq hnq hltq;have hlq:=hltq _ _ (Hp.get_eq _ _ _);clear hltq)|(refine LS.nilQ ?_;try with_reducible intro nq hnq));try dsimp only[Ex.then,Ex.inBlock,putD,Env.put])|(refine CS.exit ?_;try dsimp only[Ex.then,Ex.inBlock,↓reduceIte,Nat.reduceEqDiff];try simp only[↓reduceIte])|(refine resK.nil ?_;dsimp only[resV]))
  refine RS.call rfl ((Coalgebra_isShaped p n' u m n _ _ _ (by exact zH) rfl h0 h1 hU hK hu hm).mono ?_)
  rintro r H n2 hn2 ⟨rfl, rfl⟩
  (repeat first|refine zA ?_|(refine CS.tailL _ (List.Mem.head _) ?_;dsimp only[List.take,List.drop])|refine zC ?_|((first|refine zB ?_|(refine LS.nilO ?_;intro nq hnq hltq)|(refine MS.new ?_;intro bq hbq hbqf)|(refine MS.nil ?_;intro nq hnq hltq;have hlq:=hltq _ _ (Hp.get_eq _ _ _);clear hltq)|(refine LS.nilQ ?_;try with_reducible intro nq hnq));try dsimp only[Ex.then,Ex.inBlock,putD,Env.put])|(refine CS.exit ?_;try dsimp only[Ex.then,Ex.inBlock,↓reduceIte,Nat.reduceEqDiff];try simp only[↓reduceIte])|(refine resK.nil ?_;dsimp only[resV]))
  refine RS.sp (t := 4) rfl (fun h2 => ?_) (fun h2 => ?_) <;> (try simp only [tb_eq, tb_eqF, decide_eq_true_eq, decide_eq_false_iff_not, beq_iff_eq, bne_iff_ne, ne_eq, Decidable.not_not, beq_eq_false_iff_ne, bne_eq_false_iff_eq, Bool.not_eq_true', Bool.not_eq_false', Bool.not_eq_eq_eq_not, Bool.not_true, Bool.not_false] at h2)
  · obtain ⟨hz1, hz2, hz3⟩ := h2.1
    obtain ⟨a, rfl⟩ := Int.eq_ofNat_of_zero_le (show 0 ≤ n' by omega)
    have hp := isP_le hz1
    have ha : a ≤ 8 := by omega
    (repeat first|refine zA ?_|(refine CS.tailL _ (List.Mem.head _) ?_;dsimp only[List.take,List.drop])|refine zC ?_|((first|refine zB ?_|(refine LS.nilO ?_;intro nq hnq hltq)|(refine MS.new ?_;intro bq hbq hbqf)|(refine MS.nil ?_;intro nq hnq hltq;have hlq:=hltq _ _ (Hp.get_eq _ _ _);clear hltq)|(refine LS.nilQ ?_;try with_reducible intro nq hnq));try dsimp only[Ex.then,Ex.inBlock,putD,Env.put])|(refine CS.exit ?_;try dsimp only[Ex.then,Ex.inBlock,↓reduceIte,Nat.reduceEqDiff];try simp only[↓reduceIte])|(refine resK.nil ?_;dsimp only[resV]))
    refine RS.call rfl ((Coalgebra_isCounit p a u m n _ _ _ hp ha (by exact zH) rfl h0 h1 hU hK hu hm).mono ?_)
    rintro r H n3 hn3 ⟨rfl, rfl⟩
    (repeat first|refine zA ?_|(refine CS.tailL _ (List.Mem.head _) ?_;dsimp only[List.take,List.drop])|refine zC ?_|((first|refine zB ?_|(refine LS.nilO ?_;intro nq hnq hltq)|(refine MS.new ?_;intro bq hbq hbqf)|(refine MS.nil ?_;intro nq hnq hltq;have hlq:=hltq _ _ (Hp.get_eq _ _ _);clear hltq)|(refine LS.nilQ ?_;try with_reducible intro nq hnq));try dsimp only[Ex.then,Ex.inBlock,putD,Env.put])|(refine CS.exit ?_;try dsimp only[Ex.then,Ex.inBlock,↓reduceIte,Nat.reduceEqDiff];try simp only[↓reduceIte])|(refine resK.nil ?_;dsimp only[resV]))
    refine RS.sp (t := 7) rfl (fun h3 => ?_) (fun h3 => ?_) <;> (try simp only [tb_eq, tb_eqF, decide_eq_true_eq, decide_eq_false_iff_not, beq_iff_eq, bne_iff_ne, ne_eq, Decidable.not_not, beq_eq_false_iff_ne, bne_eq_false_iff_eq, Bool.not_eq_true', Bool.not_eq_false', Bool.not_eq_eq_eq_not, Bool.not_true, Bool.not_false] at h3)
    · (repeat first|refine zA ?_|(refine CS.tailL _ (List.Mem.head _) ?_;dsimp only[List.take,List.drop])|refine zC ?_|((first|refine zB ?_|(refine LS.nilO ?_;intro nq hnq hltq)|(refine MS.new ?_;intro bq hbq hbqf)|(refine MS.nil ?_;intro nq hnq hltq;have hlq:=hltq _ _ (Hp.get_eq _ _ _);clear hltq)|(refine LS.nilQ ?_;try with_reducible intro nq hnq));try dsimp only[Ex.then,Ex.inBlock,putD,Env.put])|(refine CS.exit ?_;try dsimp only[Ex.then,Ex.inBlock,↓reduceIte,Nat.reduceEqDiff];try simp only[↓reduceIte])|(refine resK.nil ?_;dsimp only[resV]))
      refine RS.call rfl ((Coalgebra_fault p a m n _ _ _ hp (by omega) ha (by exact zH) rfl h0 h1 hK hm).mono ?_)
      rintro r H n4 hn4 ⟨⟨rfl, h6⟩ | ⟨⟨b1, o1, l1, c1, rfl⟩, h6⟩, rfl⟩
      · (repeat first|refine zA ?_|(refine CS.tailL _ (List.Mem.head _) ?_;dsimp only[List.take,List.drop])|refine zC ?_|((first|refine zB ?_|(refine LS.nilO ?_;intro nq hnq hltq)|(refine MS.new ?_;intro bq hbq hbqf)|(refine MS.nil ?_;intro nq hnq hltq;have hlq:=hltq _ _ (Hp.get_eq _ _ _);clear hltq)|(refine LS.nilQ ?_;try with_reducible intro nq hnq));try dsimp only[Ex.then,Ex.inBlock,putD,Env.put])|(refine CS.exit ?_;try dsimp only[Ex.then,Ex.inBlock,↓reduceIte,Nat.reduceEqDiff];try simp only[↓reduceIte])|(refine resK.nil ?_;dsimp only[resV]))
        exact ⟨_, H, rfl, by exact zD, by rw [tb_true (isCoalg_nat.2 ⟨h2, h3, h6⟩)]; rfl, rfl⟩
      · (repeat first|refine zA ?_|(refine CS.tailL _ (List.Mem.head _) ?_;dsimp only[List.take,List.drop])|refine zC ?_|((first|refine zB ?_|(refine LS.nilO ?_;intro nq hnq hltq)|(refine MS.new ?_;intro bq hbq hbqf)|(refine MS.nil ?_;intro nq hnq hltq;have hlq:=hltq _ _ (Hp.get_eq _ _ _);clear hltq)|(refine LS.nilQ ?_;try with_reducible intro nq hnq));try dsimp only[Ex.then,Ex.inBlock,putD,Env.put])|(refine CS.exit ?_;try dsimp only[Ex.then,Ex.inBlock,↓reduceIte,Nat.reduceEqDiff];try simp only[↓reduceIte])|(refine resK.nil ?_;dsimp only[resV]))
        exact ⟨_, H, rfl, by exact zD, by rw [tb_false (fun h => h6 h.2.2)], rfl⟩
    · (repeat first|refine zA ?_|(refine CS.tailL _ (List.Mem.head _) ?_;dsimp only[List.take,List.drop])|refine zC ?_|((first|refine zB ?_|(refine LS.nilO ?_;intro nq hnq hltq)|(refine MS.new ?_;intro bq hbq hbqf)|(refine MS.nil ?_;intro nq hnq hltq;have hlq:=hltq _ _ (Hp.get_eq _ _ _);clear hltq)|(refine LS.nilQ ?_;try with_reducible intro nq hnq));try dsimp only[Ex.then,Ex.inBlock,putD,Env.put])|(refine CS.exit ?_;try dsimp only[Ex.then,Ex.inBlock,↓reduceIte,Nat.reduceEqDiff];try simp only[↓reduceIte])|(refine resK.nil ?_;dsimp only[resV]))
      exact ⟨_, H, rfl, by exact zD, by rw [tb_false (fun h => h3 h.2.1)], rfl⟩
  · (repeat first|refine zA ?_|(refine CS.tailL _ (List.Mem.head _) ?_;dsimp only[List.take,List.drop])|refine zC ?_|((first|refine zB ?_|(refine LS.nilO ?_;intro nq hnq hltq)|(refine MS.new ?_;intro bq hbq hbqf)|(refine MS.nil ?_;intro nq hnq hltq;have hlq:=hltq _ _ (Hp.get_eq _ _ _);clear hltq)|(refine LS.nilQ ?_;try with_reducible intro nq hnq));try dsimp only[Ex.then,Ex.inBlock,putD,Env.put])|(refine CS.exit ?_;try dsimp only[Ex.then,Ex.inBlock,↓reduceIte,Nat.reduceEqDiff];try simp only[↓reduceIte])|(refine resK.nil ?_;dsimp only[resV]))
    exact ⟨_, H, rfl, by exact zD, by rw [tb_false (fun h => h2 h.1)], rfl⟩

theorem spec_l02Is (p n' : Int) (u m : Nat → Int) (K : Nat → SV) (H : Hp) (n : Nat) (h0 : K 0 = .int .i64 p) (h1 : K 1 = .int .i64 n')
    (hU : ∀ q, q < 8 → K (2 + q) = .int .u8 (u q)) (hK : ∀ q, q < 512 → K (10 + q) = .int .u8 (m q)) (hu : isBy 8 u) (hm : isBy 512 m) :
    FnS Try.prog 97 [.arr 522 K] H n (fun v H' _ => v = bl (tb (isCoalg p n' u m)) ∧ H' = H) := by
  refine FnS.of_body Try.func97 tr97 (by simp) (fun hf => ?_)
  dsimp only [argEnv]
  unfold ir97
  (repeat first|refine zA ?_|(refine CS.tailL _ (List.Mem.head _) ?_;dsimp only[List.take,List.drop])|refine zC ?_|((first|refine zB ?_|(refine LS.nilO ?_;intro nq hnq hltq)|(refine MS.new ?_;intro bq hbq hbqf)|(refine MS.nil ?_;intro nq hnq hltq;have hlq:=hltq _ _ (Hp.get_eq _ _ _);clear hltq)|(refine LS.nilQ ?_;try with_reducible intro nq hnq));try dsimp only[Ex.then,Ex.inBlock,putD,Env.put])|(refine CS.exit ?_;try dsimp only[Ex.then,Ex.inBlock,↓reduceIte,Nat.reduceEqDiff];try simp only[↓reduceIte])|(refine resK.nil ?_;dsimp only[resV]))
  refine RS.call rfl ((FnS.args (concs_cons (conc_arr (fun q hq => rfl)) rfl) (spec_l02Shape p n' u m K _ _ h0 h1 hU hK hu hm)).mono ?_)
  rintro r H n2 hn2 ⟨rfl, rfl⟩
  (repeat first|refine zA ?_|(refine CS.tailL _ (List.Mem.head _) ?_;dsimp only[List.take,List.drop])|refine zC ?_|((first|refine zB ?_|(refine LS.nilO ?_;intro nq hnq hltq)|(refine MS.new ?_;intro bq hbq hbqf)|(refine MS.nil ?_;intro nq hnq hltq;have hlq:=hltq _ _ (Hp.get_eq _ _ _);clear hltq)|(refine LS.nilQ ?_;try with_reducible intro nq hnq));try dsimp only[Ex.then,Ex.inBlock,putD,Env.put])|(refine CS.exit ?_;try dsimp only[Ex.then,Ex.inBlock,↓reduceIte,Nat.reduceEqDiff];try simp only[↓reduceIte])|(refine resK.nil ?_;dsimp only[resV]))
  refine zI ?_ ?_<;>intro h2
  · (repeat first|refine zA ?_|(refine CS.tailL _ (List.Mem.head _) ?_;dsimp only[List.take,List.drop])|refine zC ?_|((first|refine zB ?_|(refine LS.nilO ?_;intro nq hnq hltq)|(refine MS.new ?_;intro bq hbq hbqf)|(refine MS.nil ?_;intro nq hnq hltq;have hlq:=hltq _ _ (Hp.get_eq _ _ _);clear hltq)|(refine LS.nilQ ?_;try with_reducible intro nq hnq));try dsimp only[Ex.then,Ex.inBlock,putD,Env.put])|(refine CS.exit ?_;try dsimp only[Ex.then,Ex.inBlock,↓reduceIte,Nat.reduceEqDiff];try simp only[↓reduceIte])|(refine resK.nil ?_;dsimp only[resV]))
    exact ⟨_, H, rfl, by exact zD, by rw [tb_false (fun h => h2 h.1)], rfl⟩
  · obtain ⟨hz1, hz2, hz3⟩ := h2.1
    obtain ⟨a, rfl⟩ := Int.eq_ofNat_of_zero_le (show 0 ≤ n' by omega)
    have hp := isP_le hz1
    have ha : a ≤ 8 := by omega
    (repeat first|refine zA ?_|(refine CS.tailL _ (List.Mem.head _) ?_;dsimp only[List.take,List.drop])|refine zC ?_|((first|refine zB ?_|(refine LS.nilO ?_;intro nq hnq hltq)|(refine MS.new ?_;intro bq hbq hbqf)|(refine MS.nil ?_;intro nq hnq hltq;have hlq:=hltq _ _ (Hp.get_eq _ _ _);clear hltq)|(refine LS.nilQ ?_;try with_reducible intro nq hnq));try dsimp only[Ex.then,Ex.inBlock,putD,Env.put])|(refine CS.exit ?_;try dsimp only[Ex.then,Ex.inBlock,↓reduceIte,Nat.reduceEqDiff];try simp only[↓reduceIte])|(refine resK.nil ?_;dsimp only[resV]))
    refine RS.call rfl ((FnS.args (concs_cons (conc_arr (fun q hq => rfl)) rfl) (spec_l02Fault p a m K _ _ hp (by omega) ha h0 h1 hK hm)).mono ?_)
    rintro r H n3 hn3 ⟨⟨s, rfl⟩, rfl⟩
    (repeat first|refine zA ?_|(refine CS.tailL _ (List.Mem.head _) ?_;dsimp only[List.take,List.drop])|refine zC ?_|((first|refine zB ?_|(refine LS.nilO ?_;intro nq hnq hltq)|(refine MS.new ?_;intro bq hbq hbqf)|(refine MS.nil ?_;intro nq hnq hltq;have hlq:=hltq _ _ (Hp.get_eq _ _ _);clear hltq)|(refine LS.nilQ ?_;try with_reducible intro nq hnq));try dsimp only[Ex.then,Ex.inBlock,putD,Env.put])|(refine CS.exit ?_;try dsimp only[Ex.then,Ex.inBlock,↓reduceIte,Nat.reduceEqDiff];try simp only[↓reduceIte])|(refine resK.nil ?_;dsimp only[resV]))
    refine RS.sp (t := 15) rfl (fun h3 => ?_) (fun h3 => ?_) <;> (try simp only [tb_eq, tb_eqF, decide_eq_true_eq, decide_eq_false_iff_not, beq_iff_eq, bne_iff_ne, ne_eq, Decidable.not_not, beq_eq_false_iff_ne, bne_eq_false_iff_eq, Bool.not_eq_true', Bool.not_eq_false', Bool.not_eq_eq_eq_not, Bool.not_true, Bool.not_false] at h3)
    · (repeat first|refine zA ?_|(refine CS.tailL _ (List.Mem.head _) ?_;dsimp only[List.take,List.drop])|refine zC ?_|((first|refine zB ?_|(refine LS.nilO ?_;intro nq hnq hltq)|(refine MS.new ?_;intro bq hbq hbqf)|(refine MS.nil ?_;intro nq hnq hltq;have hlq:=hltq _ _ (Hp.get_eq _ _ _);clear hltq)|(refine LS.nilQ ?_;try with_reducible intro nq hnq));try dsimp only[Ex.then,Ex.inBlock,putD,Env.put])|(refine CS.exit ?_;try dsimp only[Ex.then,Ex.inBlock,↓reduceIte,Nat.reduceEqDiff];try simp only[↓reduceIte])|(refine resK.nil ?_;dsimp only[resV]))
      refine RS.call rfl ((FnS.args (concs_cons (conc_arr (fun q hq => rfl)) rfl) (spec_l02Counits p a u m K _ _ hp ha h0 h1 hU hK hu hm h2.2.1.vz)).mono ?_)
      rintro r H n4 hn4 ⟨rfl, rfl⟩
      (repeat first|refine zA ?_|(refine CS.tailL _ (List.Mem.head _) ?_;dsimp only[List.take,List.drop])|refine zC ?_|((first|refine zB ?_|(refine LS.nilO ?_;intro nq hnq hltq)|(refine MS.new ?_;intro bq hbq hbqf)|(refine MS.nil ?_;intro nq hnq hltq;have hlq:=hltq _ _ (Hp.get_eq _ _ _);clear hltq)|(refine LS.nilQ ?_;try with_reducible intro nq hnq));try dsimp only[Ex.then,Ex.inBlock,putD,Env.put])|(refine CS.exit ?_;try dsimp only[Ex.then,Ex.inBlock,↓reduceIte,Nat.reduceEqDiff];try simp only[↓reduceIte])|(refine resK.nil ?_;dsimp only[resV]))
      exact ⟨_, H, rfl, by exact zD, congrArg bl (tb_iff ⟨fun h => isCoalg_nat.2 ⟨h2, h, h3⟩, fun h => h.2.1⟩), rfl⟩
    · (repeat first|refine zA ?_|(refine CS.tailL _ (List.Mem.head _) ?_;dsimp only[List.take,List.drop])|refine zC ?_|((first|refine zB ?_|(refine LS.nilO ?_;intro nq hnq hltq)|(refine MS.new ?_;intro bq hbq hbqf)|(refine MS.nil ?_;intro nq hnq hltq;have hlq:=hltq _ _ (Hp.get_eq _ _ _);clear hltq)|(refine LS.nilQ ?_;try with_reducible intro nq hnq));try dsimp only[Ex.then,Ex.inBlock,putD,Env.put])|(refine CS.exit ?_;try dsimp only[Ex.then,Ex.inBlock,↓reduceIte,Nat.reduceEqDiff];try simp only[↓reduceIte])|(refine resK.nil ?_;dsimp only[resV]))
      exact ⟨_, H, rfl, by exact zD, by rw [tb_false (fun h => h3 h.2.2)], rfl⟩

end Go.Proofs.Ytnkmpelakhhoiaa

/- Whether a pairing is a bicharacter: the functions and the law. -/
import Derived.Test.YtnkmpelakhhoiabC24
import Derived.Test.YtnkmpelakhhoiabC31
namespace Go.Proofs.Ytnkmpelakhhoiab
open Go.V
set_option linter.unusedSimpArgs false
set_option linter.unusedVariables false
set_option maxHeartbeats 4000000

theorem impl_IsBicharacter (h : HT) (s : Nat → Int) (K : Nat → SV) (H : Hp) (n : Nat) (hK : h.At K) (hB : h.By) (hs : isBy 64 s) :
    FnS Try.prog 15 [.arr 1106 K, .arr 64 (bys s)] H n (fun r H' _ => r = .tup [bl (tb (mok h 1 (fun _ => s) ∧ (bich h.p h.m h.c s h.N ∧ normed h h.N s))), i64 (cd (mok h 1 (fun _ => s)))] ∧ H' = H) := by
  have hk0 := hK.p
  have hk1 := hK.n
  refine FnS.of_body Try.func15 tr15 (by simp) (fun hf => ?_)
  dsimp only [argEnv]
  unfold ir15
  (repeat first|refine zA ?_|(refine CS.tailL _ (List.Mem.head _) ?_;dsimp only[List.take,List.drop])|refine zC ?_|((first|refine zB ?_|(refine LS.nilO ?_;intro nq hnq hltq)|(refine MS.new ?_;intro bq hbq hbqf)|(refine MS.nil ?_;intro nq hnq hltq;have hlq:=hltq _ _ (Hp.get_eq _ _ _);clear hltq)|(refine LS.nilQ ?_;try with_reducible intro nq hnq));try dsimp only[Ex.then,Ex.inBlock,putD,Env.put])|(refine CS.exit ?_;try dsimp only[Ex.then,Ex.inBlock,↓reduceIte,Nat.reduceEqDiff];try simp only[↓reduceIte])|(refine resK.nil ?_;dsimp only[resV]))
  refine RS.call rfl ((impl_matricesCode h n (.slc (n + 2) 0 1 1) 1 (by omega) (fun _ => s) ⟨1106, K, 35⟩ _ _ (by exact zH) rfl hK hB ⟨n + 2, 1, _, rfl, by exact zH, (by simp), fun i hi => ⟨n + 1, ⟨64, bys s, 29⟩, by (obtain rfl : i = 0 := by omega); rfl, by exact zH, (by simp), fun q hq => by rw [Nat.zero_add]; rfl⟩⟩ (fun _ _ => hs)).mono ?_)
  rintro r H' n2 hn2 ⟨rfl, rfl⟩
  (repeat first|refine zA ?_|(refine CS.tailL _ (List.Mem.head _) ?_;dsimp only[List.take,List.drop])|refine zC ?_|((first|refine zB ?_|(refine LS.nilO ?_;intro nq hnq hltq)|(refine MS.new ?_;intro bq hbq hbqf)|(refine MS.nil ?_;intro nq hnq hltq;have hlq:=hltq _ _ (Hp.get_eq _ _ _);clear hltq)|(refine LS.nilQ ?_;try with_reducible intro nq hnq));try dsimp only[Ex.then,Ex.inBlock,putD,Env.put])|(refine CS.exit ?_;try dsimp only[Ex.then,Ex.inBlock,↓reduceIte,Nat.reduceEqDiff];try simp only[↓reduceIte])|(refine resK.nil ?_;dsimp only[resV]))
  refine zI ?_ ?_<;>intro h1
  · have h3 : ¬mok h 1 (fun _ => s) := fun q => h1 (cd_zero.2 q)
    (repeat first|refine zA ?_|(refine CS.tailL _ (List.Mem.head _) ?_;dsimp only[List.take,List.drop])|refine zC ?_|((first|refine zB ?_|(refine LS.nilO ?_;intro nq hnq hltq)|(refine MS.new ?_;intro bq hbq hbqf)|(refine MS.nil ?_;intro nq hnq hltq;have hlq:=hltq _ _ (Hp.get_eq _ _ _);clear hltq)|(refine LS.nilQ ?_;try with_reducible intro nq hnq));try dsimp only[Ex.then,Ex.inBlock,putD,Env.put])|(refine CS.exit ?_;try dsimp only[Ex.then,Ex.inBlock,↓reduceIte,Nat.reduceEqDiff];try simp only[↓reduceIte])|(refine resK.nil ?_;dsimp only[resV]))
    exact ⟨.tup [bl (tb (mok h 1 (fun _ => s) ∧ (bich h.p h.m h.c s h.N ∧ normed h h.N s))), i64 (cd (mok h 1 (fun _ => s)))], H, conc_tup2 (by rw [tb_false (fun q => h3 q.1)]) rfl, by exact zD, rfl, rfl⟩
  · have h3 : mok h 1 (fun _ => s) := cd_zero.1 h1
    obtain ⟨a, hS⟩ := isHopf.hs h3.1
    have hN := hS.N
    subst hN
    have hz0 := h3.lz hS (show 0 < 1 by omega)
    rw [hS.hn] at hk1
    (repeat first|refine zA ?_|(refine CS.tailL _ (List.Mem.head _) ?_;dsimp only[List.take,List.drop])|refine zC ?_|((first|refine zB ?_|(refine LS.nilO ?_;intro nq hnq hltq)|(refine MS.new ?_;intro bq hbq hbqf)|(refine MS.nil ?_;intro nq hnq hltq;have hlq:=hltq _ _ (Hp.get_eq _ _ _);clear hltq)|(refine LS.nilQ ?_;try with_reducible intro nq hnq));try dsimp only[Ex.then,Ex.inBlock,putD,Env.put])|(refine CS.exit ?_;try dsimp only[Ex.then,Ex.inBlock,↓reduceIte,Nat.reduceEqDiff];try simp only[↓reduceIte])|(refine resK.nil ?_;dsimp only[resV]))
    have hp := hS.hp
    have ha := hS.ha
    refine RS.call rfl ((Hopf_field h.p h.N n ⟨1106, K, 35⟩ _ _ (by exact zH) rfl hK.p hk1 (by omega)).mono ?_)
    rintro r H' n3 hn3 ⟨rfl, rfl⟩
    (repeat first|refine zA ?_|(refine CS.tailL _ (List.Mem.head _) ?_;dsimp only[List.take,List.drop])|refine zC ?_|((first|refine zB ?_|(refine LS.nilO ?_;intro nq hnq hltq)|(refine MS.new ?_;intro bq hbq hbqf)|(refine MS.nil ?_;intro nq hnq hltq;have hlq:=hltq _ _ (Hp.get_eq _ _ _);clear hltq)|(refine LS.nilQ ?_;try with_reducible intro nq hnq));try dsimp only[Ex.then,Ex.inBlock,putD,Env.put])|(refine CS.exit ?_;try dsimp only[Ex.then,Ex.inBlock,↓reduceIte,Nat.reduceEqDiff];try simp only[↓reduceIte])|(refine resK.nil ?_;dsimp only[resV]))
    refine CS.iter h.N (fun i => [(20, i64 i), (19, i64 h.N), (2, ptr n 0), (3, ptr (n + 1) 0), (7, ptr n3 0)]) (fun _ => (n3, ⟨2, fldC h.p h.N, 60⟩) :: (n + 1, ⟨64, bys s, 29⟩) :: (n, ⟨1106, K, 35⟩) :: H) (fun i => Bx (∀ i' j k : Nat, i' < i → j < h.N → k < h.N → bic1 h.p h.m h.c s i' j k ∧ bic2 h.p h.m h.c s i' j k)) (by (repeat first | exact trivial | refine And.intro rfl ?_)) (by exact zD) ⟨fun _ _ _ q => by omega⟩ ?_
    intro i n4 hi hn4 hJ
    (repeat first|refine zA ?_|(refine CS.tailL _ (List.Mem.head _) ?_;dsimp only[List.take,List.drop])|refine zC ?_|((first|refine zB ?_|(refine LS.nilO ?_;intro nq hnq hltq)|(refine MS.new ?_;intro bq hbq hbqf)|(refine MS.nil ?_;intro nq hnq hltq;have hlq:=hltq _ _ (Hp.get_eq _ _ _);clear hltq)|(refine LS.nilQ ?_;try with_reducible intro nq hnq));try dsimp only[Ex.then,Ex.inBlock,putD,Env.put])|(refine CS.exit ?_;try dsimp only[Ex.then,Ex.inBlock,↓reduceIte,Nat.reduceEqDiff];try simp only[↓reduceIte])|(refine resK.nil ?_;dsimp only[resV]))
    refine zI ?_ ?_<;>intro h4
    · (repeat first|refine zA ?_|(refine CS.tailL _ (List.Mem.head _) ?_;dsimp only[List.take,List.drop])|refine zC ?_|((first|refine zB ?_|(refine LS.nilO ?_;intro nq hnq hltq)|(refine MS.new ?_;intro bq hbq hbqf)|(refine MS.nil ?_;intro nq hnq hltq;have hlq:=hltq _ _ (Hp.get_eq _ _ _);clear hltq)|(refine LS.nilQ ?_;try with_reducible intro nq hnq));try dsimp only[Ex.then,Ex.inBlock,putD,Env.put])|(refine CS.exit ?_;try dsimp only[Ex.then,Ex.inBlock,↓reduceIte,Nat.reduceEqDiff];try simp only[↓reduceIte])|(refine resK.nil ?_;dsimp only[resV]))
      refine CS.iter h.N (fun j => [(25, i64 j), (24, i64 h.N), (8, i64 i), (20, i64 i), (19, i64 h.N), (2, ptr n 0), (3, ptr (n + 1) 0), (7, ptr n3 0)]) (fun _ => (n3, ⟨2, fldC h.p h.N, 60⟩) :: (n + 1, ⟨64, bys s, 29⟩) :: (n, ⟨1106, K, 35⟩) :: H) (fun j => Bx (∀ j' k : Nat, j' < j → k < h.N → bic1 h.p h.m h.c s i j' k ∧ bic2 h.p h.m h.c s i j' k)) (by (repeat first | exact trivial | refine And.intro rfl ?_)) (by exact zD) ⟨fun _ _ q => by omega⟩ ?_
      intro j n5 hj hn5 hJ2
      (repeat first|refine zA ?_|(refine CS.tailL _ (List.Mem.head _) ?_;dsimp only[List.take,List.drop])|refine zC ?_|((first|refine zB ?_|(refine LS.nilO ?_;intro nq hnq hltq)|(refine MS.new ?_;intro bq hbq hbqf)|(refine MS.nil ?_;intro nq hnq hltq;have hlq:=hltq _ _ (Hp.get_eq _ _ _);clear hltq)|(refine LS.nilQ ?_;try with_reducible intro nq hnq));try dsimp only[Ex.then,Ex.inBlock,putD,Env.put])|(refine CS.exit ?_;try dsimp only[Ex.then,Ex.inBlock,↓reduceIte,Nat.reduceEqDiff];try simp only[↓reduceIte])|(refine resK.nil ?_;dsimp only[resV]))
      refine zI ?_ ?_<;>intro h5
      · (repeat first|refine zA ?_|(refine CS.tailL _ (List.Mem.head _) ?_;dsimp only[List.take,List.drop])|refine zC ?_|((first|refine zB ?_|(refine LS.nilO ?_;intro nq hnq hltq)|(refine MS.new ?_;intro bq hbq hbqf)|(refine MS.nil ?_;intro nq hnq hltq;have hlq:=hltq _ _ (Hp.get_eq _ _ _);clear hltq)|(refine LS.nilQ ?_;try with_reducible intro nq hnq));try dsimp only[Ex.then,Ex.inBlock,putD,Env.put])|(refine CS.exit ?_;try dsimp only[Ex.then,Ex.inBlock,↓reduceIte,Nat.reduceEqDiff];try simp only[↓reduceIte])|(refine resK.nil ?_;dsimp only[resV]))
        refine CS.iter h.N (fun k => [(30, i64 k), (29, i64 h.N), (9, ptr n5 0), (25, i64 j), (24, i64 h.N), (8, i64 i), (20, i64 i), (19, i64 h.N), (2, ptr n 0), (3, ptr (n + 1) 0), (7, ptr n3 0)]) (fun _ => (n5, ⟨1, fun _ => .int .i64 j, 3⟩) :: (n3, ⟨2, fldC h.p h.N, 60⟩) :: (n + 1, ⟨64, bys s, 29⟩) :: (n, ⟨1106, K, 35⟩) :: H) (fun k => Bx (∀ k' : Nat, k' < k → bic1 h.p h.m h.c s i j k' ∧ bic2 h.p h.m h.c s i j k')) (by (repeat first | exact trivial | refine And.intro rfl ?_)) (Drops.keepc rfl rfl (fun q hq => by
              have hq1 : q < 1 := hq
              obtain rfl : q = 0 := by omega
              rfl) (Drops.refl _ _)) ⟨fun _ q => by omega⟩ ?_
        intro k n6 hk hn6 hJ3
        (repeat first|refine zA ?_|(refine CS.tailL _ (List.Mem.head _) ?_;dsimp only[List.take,List.drop])|refine zC ?_|((first|refine zB ?_|(refine LS.nilO ?_;intro nq hnq hltq)|(refine MS.new ?_;intro bq hbq hbqf)|(refine MS.nil ?_;intro nq hnq hltq;have hlq:=hltq _ _ (Hp.get_eq _ _ _);clear hltq)|(refine LS.nilQ ?_;try with_reducible intro nq hnq));try dsimp only[Ex.then,Ex.inBlock,putD,Env.put])|(refine CS.exit ?_;try dsimp only[Ex.then,Ex.inBlock,↓reduceIte,Nat.reduceEqDiff];try simp only[↓reduceIte])|(refine resK.nil ?_;dsimp only[resV]))
        refine zI ?_ ?_<;>intro h6
        · (repeat first|refine zA ?_|(refine CS.tailL _ (List.Mem.head _) ?_;dsimp only[List.take,List.drop])|refine zC ?_|((first|refine zB ?_|(refine LS.nilO ?_;intro nq hnq hltq)|(refine MS.new ?_;intro bq hbq hbqf)|(refine MS.nil ?_;intro nq hnq hltq;have hlq:=hltq _ _ (Hp.get_eq _ _ _);clear hltq)|(refine LS.nilQ ?_;try with_reducible intro nq hnq));try dsimp only[Ex.then,Ex.inBlock,putD,Env.put])|(refine CS.exit ?_;try dsimp only[Ex.then,Ex.inBlock,↓reduceIte,Nat.reduceEqDiff];try simp only[↓reduceIte])|(refine resK.nil ?_;dsimp only[resV]))
          refine LS.hpd (H1 := (n6 + 1, ⟨1, fun _ => .int .i64 (sm (bn h.p h.c s i j k) 0), 3⟩) :: (n6, ⟨1, fun _ => .int .i64 k, 3⟩) :: (n5, ⟨1, fun _ => .int .i64 j, 3⟩) :: (n3, ⟨2, fldC h.p h.N, 60⟩) :: (n + 1, ⟨64, bys s, 29⟩) :: (n, ⟨1106, K, 35⟩) :: H) (Drops.keepc rfl rfl (fun q hq => by
              have hq1 : q < 1 := hq
              obtain rfl : q = 0 := by omega
              rfl) (Drops.keepc rfl rfl (fun q hq => by
              have hq1 : q < 1 := hq
              obtain rfl : q = 0 := by omega
              rfl) (Drops.refl _ _))) ?_
          refine RS.call rfl ((impl_pairs (fun q => h.c (64 * i + q)) n (530 + 64 * i) _ _ (fun t => (n6 + 1, ⟨1, fun _ => .int .i64 (sm (bn h.p h.c s i j k) t), 3⟩) :: (n6, ⟨1, fun _ => .int .i64 k, 3⟩) :: (n5, ⟨1, fun _ => .int .i64 j, 3⟩) :: (n3, ⟨2, fldC h.p h.N, 60⟩) :: (n + 1, ⟨64, bys s, 29⟩) :: (n, ⟨1106, K, 35⟩) :: H) _ _ rfl
            (fun u hu => ⟨⟨1106, K, 35⟩, by exact zH, show 530 + 64 * i + 64 ≤ 1106 by omega, fun q hq => by rw [Nat.add_assoc]; exact hK.c _ (by omega)⟩) (hB.rowc (by omega)) (fun u hu hz => by (try dsimp only); rw [sm_skip (bn_z hz)]) (fun t a' b' n' ht ht' hb' hz hn' => ?_)).mono ?_)
          · have hx := hB.c (64 * i + t) (by omega)
            have hv := sm_b (f := bn h.p h.c s i j k) (B := 8000) (n := t) (fun q hq => bn_b hp hs (by omega) (by omega))
            refine (impl_IsBicharacter_1 h.p h.N (sm (bn h.p h.c s i j k) t) (h.c (64 * i + t)) s a' b' j k (by omega) hb' (by omega) (by omega) (n6 + 1) n5 n3 n6 (n + 1) 0 _ _ ⟨64, bys s, 29⟩ 3 _ n' hp (by omega) hx hs (by exact zH) (by exact zH) rfl rfl (by exact zH) (by exact zH) rfl rfl (by exact zH) (by simp) (fun q hq => by rw [Nat.zero_add]; rfl)).mono ?_
            rintro r H3 n8 hn8 rfl
            simp (disch := omega) only [Hp.set_eq, Hp.set_ne]
            rw [sm, ht', bn_at _ _ _ _ _ _ _ _ hb']
          rintro r H' n8 hn8 rfl
          have hv := sm_b (f := bn h.p h.c s i j k) (B := 8000) (n := 64) (fun q hq => bn_b hp hs (by omega) (by omega))
          obtain ⟨x1, hx1⟩ : ∃ x, x = bil h.p s (bas i) (fun x => h.m (64 * j + 8 * k + x)) := ⟨_, rfl⟩
          obtain ⟨x2, hx2⟩ : ∃ x, x = sm (bn h.p h.c s i j k) 64 := ⟨_, rfl⟩
          rw [← hx2] at hv ⊢
          have hk5 := hK.m
          (repeat first|refine zA ?_|(refine CS.tailL _ (List.Mem.head _) ?_;dsimp only[List.take,List.drop])|refine zC ?_|((first|refine zB ?_|(refine LS.nilO ?_;intro nq hnq hltq)|(refine MS.new ?_;intro bq hbq hbqf)|(refine MS.nil ?_;intro nq hnq hltq;have hlq:=hltq _ _ (Hp.get_eq _ _ _);clear hltq)|(refine LS.nilQ ?_;try with_reducible intro nq hnq));try dsimp only[Ex.then,Ex.inBlock,putD,Env.put])|(refine CS.exit ?_;try dsimp only[Ex.then,Ex.inBlock,↓reduceIte,Nat.reduceEqDiff];try simp only[↓reduceIte])|(refine resK.nil ?_;dsimp only[resV]))
          refine CS.quietLo ?_
          (repeat first|refine zA ?_|(refine CS.tailL _ (List.Mem.head _) ?_;dsimp only[List.take,List.drop])|refine zC ?_|((first|refine zB ?_|(refine LS.nilO ?_;intro nq hnq hltq)|(refine MS.new ?_;intro bq hbq hbqf)|(refine MS.nil ?_;intro nq hnq hltq;have hlq:=hltq _ _ (Hp.get_eq _ _ _);clear hltq)|(refine LS.nilQ ?_;try with_reducible intro nq hnq));try dsimp only[Ex.then,Ex.inBlock,putD,Env.put])|(refine CS.exit ?_;try dsimp only[Ex.then,Ex.inBlock,↓reduceIte,Nat.reduceEqDiff];try simp only[↓reduceIte])|(refine resK.nil ?_;dsimp only[resV]))
          refine LS.callQ (bl (tb (bic1 h.p h.m h.c s i j k))) rfl (fun n' hn' => Hopf_multiplies h h.N s i j k (by omega) (by omega) (by omega) n (n + 1) 0 ⟨1106, K, 35⟩ ⟨64, bys s, 29⟩ _ _ hS (by exact zH) rfl hK hB hs (by exact zH) (by simp) (fun q hq => by rw [Nat.zero_add]; rfl)) ?_
          (repeat first|refine zA ?_|(refine CS.tailL _ (List.Mem.head _) ?_;dsimp only[List.take,List.drop])|refine zC ?_|((first|refine zB ?_|(refine LS.nilO ?_;intro nq hnq hltq)|(refine MS.new ?_;intro bq hbq hbqf)|(refine MS.nil ?_;intro nq hnq hltq;have hlq:=hltq _ _ (Hp.get_eq _ _ _);clear hltq)|(refine LS.nilQ ?_;try with_reducible intro nq hnq));try dsimp only[Ex.then,Ex.inBlock,putD,Env.put])|(refine CS.exit ?_;try dsimp only[Ex.then,Ex.inBlock,↓reduceIte,Nat.reduceEqDiff];try simp only[↓reduceIte])|(refine resK.nil ?_;dsimp only[resV]))
          refine RS.sp (t := 43) rfl (fun h7 => ?_) (fun h7 => ?_) <;> (try simp only [tb_eq, tb_eqF, decide_eq_true_eq, decide_eq_false_iff_not, beq_iff_eq, bne_iff_ne, ne_eq, Decidable.not_not, beq_eq_false_iff_ne, bne_eq_false_iff_eq, Bool.not_eq_true', Bool.not_eq_false', Bool.not_eq_eq_eq_not, Bool.not_true, Bool.not_false] at h7)
          · (repeat first|refine zA ?_|(refine CS.tailL _ (List.Mem.head _) ?_;dsimp only[List.take,List.drop])|refine zC ?_|((first|refine zB ?_|(refine LS.nilO ?_;intro nq hnq hltq)|(refine MS.new ?_;intro bq hbq hbqf)|(refine MS.nil ?_;intro nq hnq hltq;have hlq:=hltq _ _ (Hp.get_eq _ _ _);clear hltq)|(refine LS.nilQ ?_;try with_reducible intro nq hnq));try dsimp only[Ex.then,Ex.inBlock,putD,Env.put])|(refine CS.exit ?_;try dsimp only[Ex.then,Ex.inBlock,↓reduceIte,Nat.reduceEqDiff];try simp only[↓reduceIte])|(refine resK.nil ?_;dsimp only[resV]))
            exact ⟨_, H, conc_tup2 (by rw [tb_false (fun q => h7 (q.2.1 i j k (by omega) (by omega) (by omega)).1)]) (by rw [cd_true h3]), by exact zD, rfl, rfl⟩
          · (repeat first|refine zA ?_|(refine CS.tailL _ (List.Mem.head _) ?_;dsimp only[List.take,List.drop])|refine zC ?_|((first|refine zB ?_|(refine LS.nilO ?_;intro nq hnq hltq)|(refine MS.new ?_;intro bq hbq hbqf)|(refine MS.nil ?_;intro nq hnq hltq;have hlq:=hltq _ _ (Hp.get_eq _ _ _);clear hltq)|(refine LS.nilQ ?_;try with_reducible intro nq hnq));try dsimp only[Ex.then,Ex.inBlock,putD,Env.put])|(refine CS.exit ?_;try dsimp only[Ex.then,Ex.inBlock,↓reduceIte,Nat.reduceEqDiff];try simp only[↓reduceIte])|(refine resK.nil ?_;dsimp only[resV]))
            refine LS.callQ (.arr 8 (bys (bas i))) rfl (fun n' hn' => impl_basis i _ _ (by omega)) ?_
            (repeat first|refine zA ?_|(refine CS.tailL _ (List.Mem.head _) ?_;dsimp only[List.take,List.drop])|refine zC ?_|((first|refine zB ?_|(refine LS.nilO ?_;intro nq hnq hltq)|(refine MS.new ?_;intro bq hbq hbqf)|(refine MS.nil ?_;intro nq hnq hltq;have hlq:=hltq _ _ (Hp.get_eq _ _ _);clear hltq)|(refine LS.nilQ ?_;try with_reducible intro nq hnq));try dsimp only[Ex.then,Ex.inBlock,putD,Env.put])|(refine CS.exit ?_;try dsimp only[Ex.then,Ex.inBlock,↓reduceIte,Nat.reduceEqDiff];try simp only[↓reduceIte])|(refine resK.nil ?_;dsimp only[resV]))
            refine LS.callQ (i64 x1) rfl (fun n' hn' => by rw [hx1]; exact field_paired h.p h.N s (bas i) (fun x => h.m (64 * j + 8 * k + x)) (n + 1) 0 ⟨64, bys s, 29⟩ _ _ hp (by exact zH) (by simp) (fun q hq => by rw [Nat.zero_add]; rfl) hs (bas_by _ _) (hB.rowm (by omega) (by omega))) ?_
            (repeat first|refine zA ?_|(refine CS.tailL _ (List.Mem.head _) ?_;dsimp only[List.take,List.drop])|refine zC ?_|((first|refine zB ?_|(refine LS.nilO ?_;intro nq hnq hltq)|(refine MS.new ?_;intro bq hbq hbqf)|(refine MS.nil ?_;intro nq hnq hltq;have hlq:=hltq _ _ (Hp.get_eq _ _ _);clear hltq)|(refine LS.nilQ ?_;try with_reducible intro nq hnq));try dsimp only[Ex.then,Ex.inBlock,putD,Env.put])|(refine CS.exit ?_;try dsimp only[Ex.then,Ex.inBlock,↓reduceIte,Nat.reduceEqDiff];try simp only[↓reduceIte])|(refine resK.nil ?_;dsimp only[resV]))
            refine zI ?_ ?_<;>intro h8
            · (repeat first|refine zA ?_|(refine CS.tailL _ (List.Mem.head _) ?_;dsimp only[List.take,List.drop])|refine zC ?_|((first|refine zB ?_|(refine LS.nilO ?_;intro nq hnq hltq)|(refine MS.new ?_;intro bq hbq hbqf)|(refine MS.nil ?_;intro nq hnq hltq;have hlq:=hltq _ _ (Hp.get_eq _ _ _);clear hltq)|(refine LS.nilQ ?_;try with_reducible intro nq hnq));try dsimp only[Ex.then,Ex.inBlock,putD,Env.put])|(refine CS.exit ?_;try dsimp only[Ex.then,Ex.inBlock,↓reduceIte,Nat.reduceEqDiff];try simp only[↓reduceIte])|(refine resK.nil ?_;dsimp only[resV]))
              exact ⟨_, H, conc_tup2 (by rw [tb_false (fun q => h8 (by rw [hx1, hx2]; exact (q.2.1 i j k (by omega) (by omega) (by omega)).2))]) (by rw [cd_true h3]), by exact zD, rfl, rfl⟩
            · (repeat first|refine zA ?_|(refine CS.tailL _ (List.Mem.head _) ?_;dsimp only[List.take,List.drop])|refine zC ?_|((first|refine zB ?_|(refine LS.nilO ?_;intro nq hnq hltq)|(refine MS.new ?_;intro bq hbq hbqf)|(refine MS.nil ?_;intro nq hnq hltq;have hlq:=hltq _ _ (Hp.get_eq _ _ _);clear hltq)|(refine LS.nilQ ?_;try with_reducible intro nq hnq));try dsimp only[Ex.then,Ex.inBlock,putD,Env.put])|(refine CS.exit ?_;try dsimp only[Ex.then,Ex.inBlock,↓reduceIte,Nat.reduceEqDiff];try simp only[↓reduceIte])|(refine resK.nil ?_;dsimp only[resV]))
              have h9 : bic2 h.p h.m h.c s i j k := by unfold bic2; rw [← hx1, ← hx2]; exact h8
              refine ⟨by omega, by (repeat first | exact trivial | refine And.intro rfl ?_), by exact zD, ⟨fun k' hk' => ?_⟩⟩
              by_cases e : k' = k
              · subst e; exact ⟨h7, h9⟩
              · exact hJ3.1 k' (by omega)
        · obtain rfl : k = h.N := by omega
          (repeat first|refine zA ?_|(refine CS.tailL _ (List.Mem.head _) ?_;dsimp only[List.take,List.drop])|refine zC ?_|((first|refine zB ?_|(refine LS.nilO ?_;intro nq hnq hltq)|(refine MS.new ?_;intro bq hbq hbqf)|(refine MS.nil ?_;intro nq hnq hltq;have hlq:=hltq _ _ (Hp.get_eq _ _ _);clear hltq)|(refine LS.nilQ ?_;try with_reducible intro nq hnq));try dsimp only[Ex.then,Ex.inBlock,putD,Env.put])|(refine CS.exit ?_;try dsimp only[Ex.then,Ex.inBlock,↓reduceIte,Nat.reduceEqDiff];try simp only[↓reduceIte])|(refine resK.nil ?_;dsimp only[resV]))
          refine ⟨by omega, by (repeat first | exact trivial | refine And.intro rfl ?_), by exact zD, ⟨fun j' k' hj' => ?_⟩⟩
          by_cases e : j' = j
          · subst e; exact fun hk' => hJ3.1 k' hk'
          · exact hJ2.1 j' k' (by omega)
      · obtain rfl : j = h.N := by omega
        (repeat first|refine zA ?_|(refine CS.tailL _ (List.Mem.head _) ?_;dsimp only[List.take,List.drop])|refine zC ?_|((first|refine zB ?_|(refine LS.nilO ?_;intro nq hnq hltq)|(refine MS.new ?_;intro bq hbq hbqf)|(refine MS.nil ?_;intro nq hnq hltq;have hlq:=hltq _ _ (Hp.get_eq _ _ _);clear hltq)|(refine LS.nilQ ?_;try with_reducible intro nq hnq));try dsimp only[Ex.then,Ex.inBlock,putD,Env.put])|(refine CS.exit ?_;try dsimp only[Ex.then,Ex.inBlock,↓reduceIte,Nat.reduceEqDiff];try simp only[↓reduceIte])|(refine resK.nil ?_;dsimp only[resV]))
        refine ⟨by omega, by (repeat first | exact trivial | refine And.intro rfl ?_), by exact zD, ⟨fun i' j' k' hi' => ?_⟩⟩
        by_cases e : i' = i
        · subst e; exact fun hj' hk' => hJ2.1 j' k' hj' hk'
        · exact hJ.1 i' j' k' (by omega)
    · obtain rfl : i = h.N := by omega
      (repeat first|refine zA ?_|(refine CS.tailL _ (List.Mem.head _) ?_;dsimp only[List.take,List.drop])|refine zC ?_|((first|refine zB ?_|(refine LS.nilO ?_;intro nq hnq hltq)|(refine MS.new ?_;intro bq hbq hbqf)|(refine MS.nil ?_;intro nq hnq hltq;have hlq:=hltq _ _ (Hp.get_eq _ _ _);clear hltq)|(refine LS.nilQ ?_;try with_reducible intro nq hnq));try dsimp only[Ex.then,Ex.inBlock,putD,Env.put])|(refine CS.exit ?_;try dsimp only[Ex.then,Ex.inBlock,↓reduceIte,Nat.reduceEqDiff];try simp only[↓reduceIte])|(refine resK.nil ?_;dsimp only[resV]))
      refine RS.call rfl ((Hopf_isNormed h h.N s n (n + 1) 0 ⟨1106, K, 35⟩ ⟨64, bys s, 29⟩ _ _ hS (by exact zH) rfl hK hB (by exact zH) (by simp) (fun q hq => by rw [Nat.zero_add]; rfl) hs).mono ?_)
      rintro r H' n9 hn9 ⟨rfl, rfl⟩
      (repeat first|refine zA ?_|(refine CS.tailL _ (List.Mem.head _) ?_;dsimp only[List.take,List.drop])|refine zC ?_|((first|refine zB ?_|(refine LS.nilO ?_;intro nq hnq hltq)|(refine MS.new ?_;intro bq hbq hbqf)|(refine MS.nil ?_;intro nq hnq hltq;have hlq:=hltq _ _ (Hp.get_eq _ _ _);clear hltq)|(refine LS.nilQ ?_;try with_reducible intro nq hnq));try dsimp only[Ex.then,Ex.inBlock,putD,Env.put])|(refine CS.exit ?_;try dsimp only[Ex.then,Ex.inBlock,↓reduceIte,Nat.reduceEqDiff];try simp only[↓reduceIte])|(refine resK.nil ?_;dsimp only[resV]))
      exact ⟨_, H, conc_tup2 (congrArg AV.conc (congrArg bl (tb_iff ⟨fun q => ⟨h3, hJ.1, q⟩, fun q => q.2.2⟩))) (by rw [cd_true h3]), by exact zD, rfl, rfl⟩

theorem spec_IsBicharacter (h : HT) (s : Nat → Int) (K : Nat → SV) (H : Hp) (n : Nat) (hK : h.At K) (hB : h.By) (hs : isBy 64 s) :
    FnS Try.prog 14 [.arr 1106 K, .arr 64 (bys s)] H n (fun r H' _ => r = .tup [bl (tb (mok h 1 (fun _ => s) ∧ (bich h.p h.m h.c s h.N ∧ normed h h.N s))), i64 (cd (mok h 1 (fun _ => s)))] ∧ H' = H) := by
  have hk0 := hK.p
  have hk1 := hK.n
  refine FnS.of_body Try.func14 tr14 (by simp) (fun hf => ?_)
  dsimp only [argEnv]
  unfold ir14
  (repeat first|refine zA ?_|(refine CS.tailL _ (List.Mem.head _) ?_;dsimp only[List.take,List.drop])|refine zC ?_|((first|refine zB ?_|(refine LS.nilO ?_;intro nq hnq hltq)|(refine MS.new ?_;intro bq hbq hbqf)|(refine MS.nil ?_;intro nq hnq hltq;have hlq:=hltq _ _ (Hp.get_eq _ _ _);clear hltq)|(refine LS.nilQ ?_;try with_reducible intro nq hnq));try dsimp only[Ex.then,Ex.inBlock,putD,Env.put])|(refine CS.exit ?_;try dsimp only[Ex.then,Ex.inBlock,↓reduceIte,Nat.reduceEqDiff];try simp only[↓reduceIte])|(refine resK.nil ?_;dsimp only[resV]))
  refine RS.call rfl ((FnS.args (concs_cons (conc_arr (fun q hq => rfl)) rfl) (spec_l10Code h (.slc (n + 2) 0 1 1) 1 (by omega) (fun _ => s) K _ _ hK hB ⟨n + 2, 1, _, rfl, by exact zH, (by simp), fun i hi q hq => by (obtain rfl : i = 0 := by omega); (try dsimp only); rw [show 0 + 0 * 64 + q = 0 + q by omega]; exact (splice_at _ _ 0 64 q hq).trans (by first | rfl | (simp only [Nat.zero_add]; rfl))⟩ (fun _ _ => hs))).mono ?_)
  rintro r H' n2 hn2 ⟨rfl, rfl⟩
  (repeat first|refine zA ?_|(refine CS.tailL _ (List.Mem.head _) ?_;dsimp only[List.take,List.drop])|refine zC ?_|((first|refine zB ?_|(refine LS.nilO ?_;intro nq hnq hltq)|(refine MS.new ?_;intro bq hbq hbqf)|(refine MS.nil ?_;intro nq hnq hltq;have hlq:=hltq _ _ (Hp.get_eq _ _ _);clear hltq)|(refine LS.nilQ ?_;try with_reducible intro nq hnq));try dsimp only[Ex.then,Ex.inBlock,putD,Env.put])|(refine CS.exit ?_;try dsimp only[Ex.then,Ex.inBlock,↓reduceIte,Nat.reduceEqDiff];try simp only[↓reduceIte])|(refine resK.nil ?_;dsimp only[resV]))
  refine zI ?_ ?_<;>intro h1
  · have h3 : ¬mok h 1 (fun _ => s) := fun q => h1 (cd_zero.2 q)
    (repeat first|refine zA ?_|(refine CS.tailL _ (List.Mem.head _) ?_;dsimp only[List.take,List.drop])|refine zC ?_|((first|refine zB ?_|(refine LS.nilO ?_;intro nq hnq hltq)|(refine MS.new ?_;intro bq hbq hbqf)|(refine MS.nil ?_;intro nq hnq hltq;have hlq:=hltq _ _ (Hp.get_eq _ _ _);clear hltq)|(refine LS.nilQ ?_;try with_reducible intro nq hnq));try dsimp only[Ex.then,Ex.inBlock,putD,Env.put])|(refine CS.exit ?_;try dsimp only[Ex.then,Ex.inBlock,↓reduceIte,Nat.reduceEqDiff];try simp only[↓reduceIte])|(refine resK.nil ?_;dsimp only[resV]))
    exact ⟨.tup [bl (tb (mok h 1 (fun _ => s) ∧ (bich h.p h.m h.c s h.N ∧ normed h h.N s))), i64 (cd (mok h 1 (fun _ => s)))], H, conc_tup2 (by rw [tb_false (fun q => h3 q.1)]) rfl, by exact zD, rfl, rfl⟩
  · have h3 : mok h 1 (fun _ => s) := cd_zero.1 h1
    obtain ⟨a, hS⟩ := isHopf.hs h3.1
    have hN := hS.N
    subst hN
    have hz0 := h3.lz hS (show 0 < 1 by omega)
    rw [hS.hn] at hk1
    (repeat first|refine zA ?_|(refine CS.tailL _ (List.Mem.head _) ?_;dsimp only[List.take,List.drop])|refine zC ?_|((first|refine zB ?_|(refine LS.nilO ?_;intro nq hnq hltq)|(refine MS.new ?_;intro bq hbq hbqf)|(refine MS.nil ?_;intro nq hnq hltq;have hlq:=hltq _ _ (Hp.get_eq _ _ _);clear hltq)|(refine LS.nilQ ?_;try with_reducible intro nq hnq));try dsimp only[Ex.then,Ex.inBlock,putD,Env.put])|(refine CS.exit ?_;try dsimp only[Ex.then,Ex.inBlock,↓reduceIte,Nat.reduceEqDiff];try simp only[↓reduceIte])|(refine resK.nil ?_;dsimp only[resV]))
    have hp := hS.hp
    have ha := hS.ha
    have hk0' := hK.p
    have hk5 := hK.m
    have hk6 := hK.c
    refine CS.iter h.N (fun i => [(8, i64 i), (7, i64 h.N), (2, ptr n 0), (3, ptr (n + 1) 0)]) (fun _ => (n + 1, ⟨64, bys s, 29⟩) :: (n, ⟨1106, K, 35⟩) :: H) (fun i => Bx (∀ i' j k : Nat, i' < i → j < h.N → k < h.N → bic1 h.p h.m h.c s i' j k ∧ bic2 h.p h.m h.c s i' j k)) (by (repeat first | exact trivial | refine And.intro rfl ?_)) (by exact zD) ⟨fun _ _ _ q => by omega⟩ ?_
    intro i n4 hi hn4 hJ
    (repeat first|refine zA ?_|(refine CS.tailL _ (List.Mem.head _) ?_;dsimp only[List.take,List.drop])|refine zC ?_|((first|refine zB ?_|(refine LS.nilO ?_;intro nq hnq hltq)|(refine MS.new ?_;intro bq hbq hbqf)|(refine MS.nil ?_;intro nq hnq hltq;have hlq:=hltq _ _ (Hp.get_eq _ _ _);clear hltq)|(refine LS.nilQ ?_;try with_reducible intro nq hnq));try dsimp only[Ex.then,Ex.inBlock,putD,Env.put])|(refine CS.exit ?_;try dsimp only[Ex.then,Ex.inBlock,↓reduceIte,Nat.reduceEqDiff];try simp only[↓reduceIte])|(refine resK.nil ?_;dsimp only[resV]))
    refine zI ?_ ?_<;>intro h4
    · (repeat first|refine zA ?_|(refine CS.tailL _ (List.Mem.head _) ?_;dsimp only[List.take,List.drop])|refine zC ?_|((first|refine zB ?_|(refine LS.nilO ?_;intro nq hnq hltq)|(refine MS.new ?_;intro bq hbq hbqf)|(refine MS.nil ?_;intro nq hnq hltq;have hlq:=hltq _ _ (Hp.get_eq _ _ _);clear hltq)|(refine LS.nilQ ?_;try with_reducible intro nq hnq));try dsimp only[Ex.then,Ex.inBlock,putD,Env.put])|(refine CS.exit ?_;try dsimp only[Ex.then,Ex.inBlock,↓reduceIte,Nat.reduceEqDiff];try simp only[↓reduceIte])|(refine resK.nil ?_;dsimp only[resV]))
      refine CS.iter h.N (fun j => [(9, i64 j), (8, i64 i), (7, i64 h.N), (2, ptr n 0), (3, ptr (n + 1) 0)]) (fun _ => (n + 1, ⟨64, bys s, 29⟩) :: (n, ⟨1106, K, 35⟩) :: H) (fun j => Bx (∀ j' k : Nat, j' < j → k < h.N → bic1 h.p h.m h.c s i j' k ∧ bic2 h.p h.m h.c s i j' k)) (by (repeat first | exact trivial | refine And.intro rfl ?_)) (by exact zD) ⟨fun _ _ q => by omega⟩ ?_
      intro j n5 hj hn5 hJ2
      (repeat first|refine zA ?_|(refine CS.tailL _ (List.Mem.head _) ?_;dsimp only[List.take,List.drop])|refine zC ?_|((first|refine zB ?_|(refine LS.nilO ?_;intro nq hnq hltq)|(refine MS.new ?_;intro bq hbq hbqf)|(refine MS.nil ?_;intro nq hnq hltq;have hlq:=hltq _ _ (Hp.get_eq _ _ _);clear hltq)|(refine LS.nilQ ?_;try with_reducible intro nq hnq));try dsimp only[Ex.then,Ex.inBlock,putD,Env.put])|(refine CS.exit ?_;try dsimp only[Ex.then,Ex.inBlock,↓reduceIte,Nat.reduceEqDiff];try simp only[↓reduceIte])|(refine resK.nil ?_;dsimp only[resV]))
      refine zI ?_ ?_<;>intro h5
      · (repeat first|refine zA ?_|(refine CS.tailL _ (List.Mem.head _) ?_;dsimp only[List.take,List.drop])|refine zC ?_|((first|refine zB ?_|(refine LS.nilO ?_;intro nq hnq hltq)|(refine MS.new ?_;intro bq hbq hbqf)|(refine MS.nil ?_;intro nq hnq hltq;have hlq:=hltq _ _ (Hp.get_eq _ _ _);clear hltq)|(refine LS.nilQ ?_;try with_reducible intro nq hnq));try dsimp only[Ex.then,Ex.inBlock,putD,Env.put])|(refine CS.exit ?_;try dsimp only[Ex.then,Ex.inBlock,↓reduceIte,Nat.reduceEqDiff];try simp only[↓reduceIte])|(refine resK.nil ?_;dsimp only[resV]))
        refine CS.iter h.N (fun k => [(10, i64 k), (9, i64 j), (8, i64 i), (7, i64 h.N), (2, ptr n 0), (3, ptr (n + 1) 0)]) (fun _ => (n + 1, ⟨64, bys s, 29⟩) :: (n, ⟨1106, K, 35⟩) :: H) (fun k => Bx (∀ k' : Nat, k' < k → bic1 h.p h.m h.c s i j k' ∧ bic2 h.p h.m h.c s i j k')) (by (repeat first | exact trivial | refine And.intro rfl ?_)) (by exact zD) ⟨fun _ q => by omega⟩ ?_
        intro k n6 hk hn6 hJ3
        (repeat first|refine zA ?_|(refine CS.tailL _ (List.Mem.head _) ?_;dsimp only[List.take,List.drop])|refine zC ?_|((first|refine zB ?_|(refine LS.nilO ?_;intro nq hnq hltq)|(refine MS.new ?_;intro bq hbq hbqf)|(refine MS.nil ?_;intro nq hnq hltq;have hlq:=hltq _ _ (Hp.get_eq _ _ _);clear hltq)|(refine LS.nilQ ?_;try with_reducible intro nq hnq));try dsimp only[Ex.then,Ex.inBlock,putD,Env.put])|(refine CS.exit ?_;try dsimp only[Ex.then,Ex.inBlock,↓reduceIte,Nat.reduceEqDiff];try simp only[↓reduceIte])|(refine resK.nil ?_;dsimp only[resV]))
        refine zI ?_ ?_<;>intro h6
        · (repeat first|refine zA ?_|(refine CS.tailL _ (List.Mem.head _) ?_;dsimp only[List.take,List.drop])|refine zC ?_|((first|refine zB ?_|(refine LS.nilO ?_;intro nq hnq hltq)|(refine MS.new ?_;intro bq hbq hbqf)|(refine MS.nil ?_;intro nq hnq hltq;have hlq:=hltq _ _ (Hp.get_eq _ _ _);clear hltq)|(refine LS.nilQ ?_;try with_reducible intro nq hnq));try dsimp only[Ex.then,Ex.inBlock,putD,Env.put])|(refine CS.exit ?_;try dsimp only[Ex.then,Ex.inBlock,↓reduceIte,Nat.reduceEqDiff];try simp only[↓reduceIte])|(refine resK.nil ?_;dsimp only[resV]))
          refine CS.iter h.N (fun A => [(13, i64 A), (11, i64 (sm (bm h.p h.c s k i j) (8 * A))), (12, i64 (sm (bn h.p h.c s i j k) (8 * A))), (10, i64 k), (9, i64 j), (8, i64 i), (7, i64 h.N), (2, ptr n 0), (3, ptr (n + 1) 0)]) (fun _ => (n + 1, ⟨64, bys s, 29⟩) :: (n, ⟨1106, K, 35⟩) :: H) (fun _ => True) (by (repeat first | exact trivial | refine And.intro rfl ?_)) (by exact zD) trivial ?_
          intro A n7 hA hn7 _
          (repeat first|refine zA ?_|(refine CS.tailL _ (List.Mem.head _) ?_;dsimp only[List.take,List.drop])|refine zC ?_|((first|refine zB ?_|(refine LS.nilO ?_;intro nq hnq hltq)|(refine MS.new ?_;intro bq hbq hbqf)|(refine MS.nil ?_;intro nq hnq hltq;have hlq:=hltq _ _ (Hp.get_eq _ _ _);clear hltq)|(refine LS.nilQ ?_;try with_reducible intro nq hnq));try dsimp only[Ex.then,Ex.inBlock,putD,Env.put])|(refine CS.exit ?_;try dsimp only[Ex.then,Ex.inBlock,↓reduceIte,Nat.reduceEqDiff];try simp only[↓reduceIte])|(refine resK.nil ?_;dsimp only[resV]))
          refine zI ?_ ?_<;>intro h7
          · (repeat first|refine zA ?_|(refine CS.tailL _ (List.Mem.head _) ?_;dsimp only[List.take,List.drop])|refine zC ?_|((first|refine zB ?_|(refine LS.nilO ?_;intro nq hnq hltq)|(refine MS.new ?_;intro bq hbq hbqf)|(refine MS.nil ?_;intro nq hnq hltq;have hlq:=hltq _ _ (Hp.get_eq _ _ _);clear hltq)|(refine LS.nilQ ?_;try with_reducible intro nq hnq));try dsimp only[Ex.then,Ex.inBlock,putD,Env.put])|(refine CS.exit ?_;try dsimp only[Ex.then,Ex.inBlock,↓reduceIte,Nat.reduceEqDiff];try simp only[↓reduceIte])|(refine resK.nil ?_;dsimp only[resV]))
            refine CS.iter h.N (fun B => [(14, i64 B), (13, i64 A), (11, i64 (sm (bm h.p h.c s k i j) (8 * A + B))), (12, i64 (sm (bn h.p h.c s i j k) (8 * A + B))), (10, i64 k), (9, i64 j), (8, i64 i), (7, i64 h.N), (2, ptr n 0), (3, ptr (n + 1) 0)]) (fun _ => (n + 1, ⟨64, bys s, 29⟩) :: (n, ⟨1106, K, 35⟩) :: H) (fun _ => True) (by (repeat first | exact trivial | refine And.intro rfl ?_)) (by exact zD) trivial ?_
            intro B n8 hBB hn8 _
            (repeat first|refine zA ?_|(refine CS.tailL _ (List.Mem.head _) ?_;dsimp only[List.take,List.drop])|refine zC ?_|((first|refine zB ?_|(refine LS.nilO ?_;intro nq hnq hltq)|(refine MS.new ?_;intro bq hbq hbqf)|(refine MS.nil ?_;intro nq hnq hltq;have hlq:=hltq _ _ (Hp.get_eq _ _ _);clear hltq)|(refine LS.nilQ ?_;try with_reducible intro nq hnq));try dsimp only[Ex.then,Ex.inBlock,putD,Env.put])|(refine CS.exit ?_;try dsimp only[Ex.then,Ex.inBlock,↓reduceIte,Nat.reduceEqDiff];try simp only[↓reduceIte])|(refine resK.nil ?_;dsimp only[resV]))
            refine zI ?_ ?_<;>intro h8
            · have hv1 := sm_b (f := bm h.p h.c s k i j) (B := 8000) (n := 8 * A + B) (fun q hq => bm_b hp hs (by omega))
              have hv2 := sm_b (f := bn h.p h.c s i j k) (B := 8000) (n := 8 * A + B) (fun q hq => bn_b hp hs (by omega) (by omega))
              have q1 := hB.c (64 * k + 8 * A + B) (by omega)
              have q2 := hs (8 * i + A) (by omega)
              have q3 := mulB q1.1 q1.2 q2.1 q2.2
              have q4 := modB (h.c (64 * k + 8 * A + B) * s (8 * i + A)) hp.1
              have q5 := hs (8 * j + B) (by omega)
              have q6 := mulB q4.1 (show _ ≤ 31 by omega) q5.1 q5.2
              have r1 := hB.c (64 * i + 8 * A + B) (by omega)
              have r2 := hs (8 * A + j) (by omega)
              have r3 := mulB r1.1 r1.2 r2.1 r2.2
              have r4 := modB (h.c (64 * i + 8 * A + B) * s (8 * A + j)) hp.1
              have r5 := hs (8 * B + k) (by omega)
              have r6 := mulB r4.1 (show _ ≤ 31 by omega) r5.1 r5.2
              (repeat first|refine zA ?_|(refine CS.tailL _ (List.Mem.head _) ?_;dsimp only[List.take,List.drop])|refine zC ?_|((first|refine zB ?_|(refine LS.nilO ?_;intro nq hnq hltq)|(refine MS.new ?_;intro bq hbq hbqf)|(refine MS.nil ?_;intro nq hnq hltq;have hlq:=hltq _ _ (Hp.get_eq _ _ _);clear hltq)|(refine LS.nilQ ?_;try with_reducible intro nq hnq));try dsimp only[Ex.then,Ex.inBlock,putD,Env.put])|(refine CS.exit ?_;try dsimp only[Ex.then,Ex.inBlock,↓reduceIte,Nat.reduceEqDiff];try simp only[↓reduceIte])|(refine resK.nil ?_;dsimp only[resV]))
              refine ⟨by omega, ?_, Drops.refl _ _, trivial⟩
              rw [show 8 * A + (B + 1) = 8 * A + B + 1 from rfl, sm, sm, bm_at _ _ _ _ _ _ _ _ (by omega), bn_at _ _ _ _ _ _ _ _ (by omega), ← Nat.add_assoc (64 * k), ← Nat.add_assoc (64 * i)]
              (repeat first | exact trivial | refine And.intro rfl ?_)
            · obtain rfl : B = h.N := by omega
              (repeat first|refine zA ?_|(refine CS.tailL _ (List.Mem.head _) ?_;dsimp only[List.take,List.drop])|refine zC ?_|((first|refine zB ?_|(refine LS.nilO ?_;intro nq hnq hltq)|(refine MS.new ?_;intro bq hbq hbqf)|(refine MS.nil ?_;intro nq hnq hltq;have hlq:=hltq _ _ (Hp.get_eq _ _ _);clear hltq)|(refine LS.nilQ ?_;try with_reducible intro nq hnq));try dsimp only[Ex.then,Ex.inBlock,putD,Env.put])|(refine CS.exit ?_;try dsimp only[Ex.then,Ex.inBlock,↓reduceIte,Nat.reduceEqDiff];try simp only[↓reduceIte])|(refine resK.nil ?_;dsimp only[resV]))
              refine ⟨by omega, ?_, Drops.refl _ _, trivial⟩
              rw [sm_more (n := 8 * A + h.N) (m := 8 * (A + 1)) (by omega) (fun u u1 u2 => bm_z (hS.cm.gap (by omega) (by omega) u1 u2)), sm_more (n := 8 * A + h.N) (m := 8 * (A + 1)) (by omega) (fun u u1 u2 => bn_z (hS.cm.gap (by omega) (by omega) u1 u2))]
              (repeat first | exact trivial | refine And.intro rfl ?_)
          obtain rfl : A = h.N := by omega
          have hv1 := sm_b (f := bm h.p h.c s k i j) (B := 8000) (n := 8 * h.N) (fun q hq => bm_b hp hs (by omega))
          have hv2 := sm_b (f := bn h.p h.c s i j k) (B := 8000) (n := 8 * h.N) (fun q hq => bn_b hp hs (by omega) (by omega))
          have e1 : sm (bm h.p h.c s k i j) 64 = sm (bm h.p h.c s k i j) (8 * h.N) := sm_more (by omega) (fun u u1 u2 => bm_z (hS.cm.at (by omega) u2 (.inr u1)))
          have e2 : sm (bn h.p h.c s i j k) 64 = sm (bn h.p h.c s i j k) (8 * h.N) := sm_more (by omega) (fun u u1 u2 => bn_z (hS.cm.at (by omega) u2 (.inr u1)))
          obtain ⟨x1, hx1⟩ : ∃ x, x = bil h.p s (fun x => h.m (64 * i + 8 * j + x)) (bas k) := ⟨_, rfl⟩
          obtain ⟨x2, hx2⟩ : ∃ x, x = sm (bm h.p h.c s k i j) (8 * h.N) := ⟨_, rfl⟩
          obtain ⟨x3, hx3⟩ : ∃ x, x = bil h.p s (bas i) (fun x => h.m (64 * j + 8 * k + x)) := ⟨_, rfl⟩
          obtain ⟨x4, hx4⟩ : ∃ x, x = sm (bn h.p h.c s i j k) (8 * h.N) := ⟨_, rfl⟩
          rw [← hx2] at hv1 e1 ⊢
          rw [← hx4] at hv2 e2 ⊢
          (repeat first|refine zA ?_|(refine CS.tailL _ (List.Mem.head _) ?_;dsimp only[List.take,List.drop])|refine zC ?_|((first|refine zB ?_|(refine LS.nilO ?_;intro nq hnq hltq)|(refine MS.new ?_;intro bq hbq hbqf)|(refine MS.nil ?_;intro nq hnq hltq;have hlq:=hltq _ _ (Hp.get_eq _ _ _);clear hltq)|(refine LS.nilQ ?_;try with_reducible intro nq hnq));try dsimp only[Ex.then,Ex.inBlock,putD,Env.put])|(refine CS.exit ?_;try dsimp only[Ex.then,Ex.inBlock,↓reduceIte,Nat.reduceEqDiff];try simp only[↓reduceIte])|(refine resK.nil ?_;dsimp only[resV]))
          refine CS.quietLo ?_
          (repeat first|refine zA ?_|(refine CS.tailL _ (List.Mem.head _) ?_;dsimp only[List.take,List.drop])|refine zC ?_|((first|refine zB ?_|(refine LS.nilO ?_;intro nq hnq hltq)|(refine MS.new ?_;intro bq hbq hbqf)|(refine MS.nil ?_;intro nq hnq hltq;have hlq:=hltq _ _ (Hp.get_eq _ _ _);clear hltq)|(refine LS.nilQ ?_;try with_reducible intro nq hnq));try dsimp only[Ex.then,Ex.inBlock,putD,Env.put])|(refine CS.exit ?_;try dsimp only[Ex.then,Ex.inBlock,↓reduceIte,Nat.reduceEqDiff];try simp only[↓reduceIte])|(refine resK.nil ?_;dsimp only[resV]))
          refine LS.callQ (.arr 8 (bys (bas k))) rfl (fun n' hn' => spec_l01Basis k _ _ (by omega)) ?_
          (repeat first|refine zA ?_|(refine CS.tailL _ (List.Mem.head _) ?_;dsimp only[List.take,List.drop])|refine zC ?_|((first|refine zB ?_|(refine LS.nilO ?_;intro nq hnq hltq)|(refine MS.new ?_;intro bq hbq hbqf)|(refine MS.nil ?_;intro nq hnq hltq;have hlq:=hltq _ _ (Hp.get_eq _ _ _);clear hltq)|(refine LS.nilQ ?_;try with_reducible intro nq hnq));try dsimp only[Ex.then,Ex.inBlock,putD,Env.put])|(refine CS.exit ?_;try dsimp only[Ex.then,Ex.inBlock,↓reduceIte,Nat.reduceEqDiff];try simp only[↓reduceIte])|(refine resK.nil ?_;dsimp only[resV]))
          refine LS.callQ (i64 x1) rfl (fun n' hn' => by rw [hx1]; exact spec_l10Value h h.N s (fun x => h.m (64 * i + 8 * j + x)) (bas k) K _ _ hS hK hs hz0 (hB.rowm (by omega) (by omega)) (bas_by _ _)) ?_
          (repeat first|refine zA ?_|(refine CS.tailL _ (List.Mem.head _) ?_;dsimp only[List.take,List.drop])|refine zC ?_|((first|refine zB ?_|(refine LS.nilO ?_;intro nq hnq hltq)|(refine MS.new ?_;intro bq hbq hbqf)|(refine MS.nil ?_;intro nq hnq hltq;have hlq:=hltq _ _ (Hp.get_eq _ _ _);clear hltq)|(refine LS.nilQ ?_;try with_reducible intro nq hnq));try dsimp only[Ex.then,Ex.inBlock,putD,Env.put])|(refine CS.exit ?_;try dsimp only[Ex.then,Ex.inBlock,↓reduceIte,Nat.reduceEqDiff];try simp only[↓reduceIte])|(refine resK.nil ?_;dsimp only[resV]))
          refine RS.sp (t := 121) rfl (fun h7 => ?_) (fun h7 => ?_) <;> (try simp only [tb_eq, tb_eqF, decide_eq_true_eq, decide_eq_false_iff_not, beq_iff_eq, bne_iff_ne, ne_eq, Decidable.not_not, beq_eq_false_iff_ne, bne_eq_false_iff_eq, Bool.not_eq_true', Bool.not_eq_false', Bool.not_eq_eq_eq_not, Bool.not_true, Bool.not_false] at h7)
          · (repeat first|refine zA ?_|(refine CS.tailL _ (List.Mem.head _) ?_;dsimp only[List.take,List.drop])|refine zC ?_|((first|refine zB ?_|(refine LS.nilO ?_;intro nq hnq hltq)|(refine MS.new ?_;intro bq hbq hbqf)|(refine MS.nil ?_;intro nq hnq hltq;have hlq:=hltq _ _ (Hp.get_eq _ _ _);clear hltq)|(refine LS.nilQ ?_;try with_reducible intro nq hnq));try dsimp only[Ex.then,Ex.inBlock,putD,Env.put])|(refine CS.exit ?_;try dsimp only[Ex.then,Ex.inBlock,↓reduceIte,Nat.reduceEqDiff];try simp only[↓reduceIte])|(refine resK.nil ?_;dsimp only[resV]))
            exact ⟨_, H, conc_tup2 (by rw [tb_false (fun q => h7 (by rw [hx1, ← e1]; exact (q.2.1 i j k (by omega) (by omega) (by omega)).1))]) (by rw [cd_true h3]), by exact zD, rfl, rfl⟩
          · have g7 : bic1 h.p h.m h.c s i j k := by unfold bic1; rw [← hx1, e1]; exact h7
            (repeat first|refine zA ?_|(refine CS.tailL _ (List.Mem.head _) ?_;dsimp only[List.take,List.drop])|refine zC ?_|((first|refine zB ?_|(refine LS.nilO ?_;intro nq hnq hltq)|(refine MS.new ?_;intro bq hbq hbqf)|(refine MS.nil ?_;intro nq hnq hltq;have hlq:=hltq _ _ (Hp.get_eq _ _ _);clear hltq)|(refine LS.nilQ ?_;try with_reducible intro nq hnq));try dsimp only[Ex.then,Ex.inBlock,putD,Env.put])|(refine CS.exit ?_;try dsimp only[Ex.then,Ex.inBlock,↓reduceIte,Nat.reduceEqDiff];try simp only[↓reduceIte])|(refine resK.nil ?_;dsimp only[resV]))
            refine LS.callQ (.arr 8 (bys (bas i))) rfl (fun n' hn' => spec_l01Basis i _ _ (by omega)) ?_
            (repeat first|refine zA ?_|(refine CS.tailL _ (List.Mem.head _) ?_;dsimp only[List.take,List.drop])|refine zC ?_|((first|refine zB ?_|(refine LS.nilO ?_;intro nq hnq hltq)|(refine MS.new ?_;intro bq hbq hbqf)|(refine MS.nil ?_;intro nq hnq hltq;have hlq:=hltq _ _ (Hp.get_eq _ _ _);clear hltq)|(refine LS.nilQ ?_;try with_reducible intro nq hnq));try dsimp only[Ex.then,Ex.inBlock,putD,Env.put])|(refine CS.exit ?_;try dsimp only[Ex.then,Ex.inBlock,↓reduceIte,Nat.reduceEqDiff];try simp only[↓reduceIte])|(refine resK.nil ?_;dsimp only[resV]))
            refine LS.callQ (i64 x3) rfl (fun n' hn' => by rw [hx3]; exact spec_l10Value h h.N s (bas i) (fun x => h.m (64 * j + 8 * k + x)) K _ _ hS hK hs hz0 (bas_by _ _) (hB.rowm (by omega) (by omega))) ?_
            (repeat first|refine zA ?_|(refine CS.tailL _ (List.Mem.head _) ?_;dsimp only[List.take,List.drop])|refine zC ?_|((first|refine zB ?_|(refine LS.nilO ?_;intro nq hnq hltq)|(refine MS.new ?_;intro bq hbq hbqf)|(refine MS.nil ?_;intro nq hnq hltq;have hlq:=hltq _ _ (Hp.get_eq _ _ _);clear hltq)|(refine LS.nilQ ?_;try with_reducible intro nq hnq));try dsimp only[Ex.then,Ex.inBlock,putD,Env.put])|(refine CS.exit ?_;try dsimp only[Ex.then,Ex.inBlock,↓reduceIte,Nat.reduceEqDiff];try simp only[↓reduceIte])|(refine resK.nil ?_;dsimp only[resV]))
            refine zI ?_ ?_<;>intro h8
            · (repeat first|refine zA ?_|(refine CS.tailL _ (List.Mem.head _) ?_;dsimp only[List.take,List.drop])|refine zC ?_|((first|refine zB ?_|(refine LS.nilO ?_;intro nq hnq hltq)|(refine MS.new ?_;intro bq hbq hbqf)|(refine MS.nil ?_;intro nq hnq hltq;have hlq:=hltq _ _ (Hp.get_eq _ _ _);clear hltq)|(refine LS.nilQ ?_;try with_reducible intro nq hnq));try dsimp only[Ex.then,Ex.inBlock,putD,Env.put])|(refine CS.exit ?_;try dsimp only[Ex.then,Ex.inBlock,↓reduceIte,Nat.reduceEqDiff];try simp only[↓reduceIte])|(refine resK.nil ?_;dsimp only[resV]))
              exact ⟨_, H, conc_tup2 (by rw [tb_false (fun q => h8 (by rw [hx3, ← e2]; exact (q.2.1 i j k (by omega) (by omega) (by omega)).2))]) (by rw [cd_true h3]), by exact zD, rfl, rfl⟩
            · (repeat first|refine zA ?_|(refine CS.tailL _ (List.Mem.head _) ?_;dsimp only[List.take,List.drop])|refine zC ?_|((first|refine zB ?_|(refine LS.nilO ?_;intro nq hnq hltq)|(refine MS.new ?_;intro bq hbq hbqf)|(refine MS.nil ?_;intro nq hnq hltq;have hlq:=hltq _ _ (Hp.get_eq _ _ _);clear hltq)|(refine LS.nilQ ?_;try with_reducible intro nq hnq));try dsimp only[Ex.then,Ex.inBlock,putD,Env.put])|(refine CS.exit ?_;try dsimp only[Ex.then,Ex.inBlock,↓reduceIte,Nat.reduceEqDiff];try simp only[↓reduceIte])|(refine resK.nil ?_;dsimp only[resV]))
              have h9 : bic2 h.p h.m h.c s i j k := by unfold bic2; rw [← hx3, e2]; exact h8
              refine ⟨by omega, by (repeat first | exact trivial | refine And.intro rfl ?_), by exact zD, ⟨fun k' hk' => ?_⟩⟩
              by_cases e : k' = k
              · subst e; exact ⟨g7, h9⟩
              · exact hJ3.1 k' (by omega)
        · obtain rfl : k = h.N := by omega
          (repeat first|refine zA ?_|(refine CS.tailL _ (List.Mem.head _) ?_;dsimp only[List.take,List.drop])|refine zC ?_|((first|refine zB ?_|(refine LS.nilO ?_;intro nq hnq hltq)|(refine MS.new ?_;intro bq hbq hbqf)|(refine MS.nil ?_;intro nq hnq hltq;have hlq:=hltq _ _ (Hp.get_eq _ _ _);clear hltq)|(refine LS.nilQ ?_;try with_reducible intro nq hnq));try dsimp only[Ex.then,Ex.inBlock,putD,Env.put])|(refine CS.exit ?_;try dsimp only[Ex.then,Ex.inBlock,↓reduceIte,Nat.reduceEqDiff];try simp only[↓reduceIte])|(refine resK.nil ?_;dsimp only[resV]))
          refine ⟨by omega, by (repeat first | exact trivial | refine And.intro rfl ?_), by exact zD, ⟨fun j' k' hj' => ?_⟩⟩
          by_cases e : j' = j
          · subst e; exact fun hk' => hJ3.1 k' hk'
          · exact hJ2.1 j' k' (by omega)
      · obtain rfl : j = h.N := by omega
        (repeat first|refine zA ?_|(refine CS.tailL _ (List.Mem.head _) ?_;dsimp only[List.take,List.drop])|refine zC ?_|((first|refine zB ?_|(refine LS.nilO ?_;intro nq hnq hltq)|(refine MS.new ?_;intro bq hbq hbqf)|(refine MS.nil ?_;intro nq hnq hltq;have hlq:=hltq _ _ (Hp.get_eq _ _ _);clear hltq)|(refine LS.nilQ ?_;try with_reducible intro nq hnq));try dsimp only[Ex.then,Ex.inBlock,putD,Env.put])|(refine CS.exit ?_;try dsimp only[Ex.then,Ex.inBlock,↓reduceIte,Nat.reduceEqDiff];try simp only[↓reduceIte])|(refine resK.nil ?_;dsimp only[resV]))
        refine ⟨by omega, by (repeat first | exact trivial | refine And.intro rfl ?_), by exact zD, ⟨fun i' j' k' hi' => ?_⟩⟩
        by_cases e : i' = i
        · subst e; exact fun hj' hk' => hJ2.1 j' k' hj' hk'
        · exact hJ.1 i' j' k' (by omega)
    · obtain rfl : i = h.N := by omega
      (repeat first|refine zA ?_|(refine CS.tailL _ (List.Mem.head _) ?_;dsimp only[List.take,List.drop])|refine zC ?_|((first|refine zB ?_|(refine LS.nilO ?_;intro nq hnq hltq)|(refine MS.new ?_;intro bq hbq hbqf)|(refine MS.nil ?_;intro nq hnq hltq;have hlq:=hltq _ _ (Hp.get_eq _ _ _);clear hltq)|(refine LS.nilQ ?_;try with_reducible intro nq hnq));try dsimp only[Ex.then,Ex.inBlock,putD,Env.put])|(refine CS.exit ?_;try dsimp only[Ex.then,Ex.inBlock,↓reduceIte,Nat.reduceEqDiff];try simp only[↓reduceIte])|(refine resK.nil ?_;dsimp only[resV]))
      refine RS.call rfl ((FnS.args (concs_cons (conc_arr (fun q hq => rfl)) rfl) (spec_l10Normed h h.N s K _ _ hS hK hB hs hz0)).mono ?_)
      rintro r H' n9 hn9 ⟨rfl, rfl⟩
      (repeat first|refine zA ?_|(refine CS.tailL _ (List.Mem.head _) ?_;dsimp only[List.take,List.drop])|refine zC ?_|((first|refine zB ?_|(refine LS.nilO ?_;intro nq hnq hltq)|(refine MS.new ?_;intro bq hbq hbqf)|(refine MS.nil ?_;intro nq hnq hltq;have hlq:=hltq _ _ (Hp.get_eq _ _ _);clear hltq)|(refine LS.nilQ ?_;try with_reducible intro nq hnq));try dsimp only[Ex.then,Ex.inBlock,putD,Env.put])|(refine CS.exit ?_;try dsimp only[Ex.then,Ex.inBlock,↓reduceIte,Nat.reduceEqDiff];try simp only[↓reduceIte])|(refine resK.nil ?_;dsimp only[resV]))
      exact ⟨_, H, conc_tup2 (congrArg AV.conc (congrArg bl (tb_iff ⟨fun q => ⟨h3, hJ.1, q⟩, fun q => q.2.2⟩))) (by rw [cd_true h3]), by exact zD, rfl, rfl⟩

theorem law_FnExactIsBicharacter (z : Nat → Int) (w : ∀ i, (Lit.int (hopfKs.getD i .u8) (z i)).wf = true) (z1 : Nat → Int) (w1 : ∀ i, (Lit.int ((List.replicate 64 .u8 : List IntKind).getD i .u8) (z1 i)).wf = true) (n : Nat) :
    FnS Try.prog 4 [.arr 1106 fun i => .int (hopfKs.getD i .u8) (z i), .arr 64 fun i => .int ((List.replicate 64 .u8 : List IntKind).getD i .u8) (z1 i)] [] n (fun r H' _ => r = bl true ∧ H' = []) := by
  have hK := hOf_at z
  have hB := hOf_by w
  generalize hOf z = h at hK hB
  generalize (fun i => SV.int (hopfKs.getD i .u8) (z i)) = K at hK ⊢
  simp only [flat_bys]
  refine FnS.of_body Try.func4 tr4 (by simp) (fun hf => ?_)
  dsimp only [argEnv]
  unfold ir4
  (repeat first|refine zA ?_|(refine CS.tailL _ (List.Mem.head _) ?_;dsimp only[List.take,List.drop])|refine zC ?_|((first|refine zB ?_|(refine LS.nilO ?_;intro nq hnq hltq)|(refine MS.new ?_;intro bq hbq hbqf)|(refine MS.nil ?_;intro nq hnq hltq;have hlq:=hltq _ _ (Hp.get_eq _ _ _);clear hltq)|(refine LS.nilQ ?_;try with_reducible intro nq hnq));try dsimp only[Ex.then,Ex.inBlock,putD,Env.put])|(refine CS.exit ?_;try dsimp only[Ex.then,Ex.inBlock,↓reduceIte,Nat.reduceEqDiff];try simp only[↓reduceIte])|(refine resK.nil ?_;dsimp only[resV]))
  refine CS.quietLo ?_
  (repeat first|refine zA ?_|(refine CS.tailL _ (List.Mem.head _) ?_;dsimp only[List.take,List.drop])|refine zC ?_|((first|refine zB ?_|(refine LS.nilO ?_;intro nq hnq hltq)|(refine MS.new ?_;intro bq hbq hbqf)|(refine MS.nil ?_;intro nq hnq hltq;have hlq:=hltq _ _ (Hp.get_eq _ _ _);clear hltq)|(refine LS.nilQ ?_;try with_reducible intro nq hnq));try dsimp only[Ex.then,Ex.inBlock,putD,Env.put])|(refine CS.exit ?_;try dsimp only[Ex.then,Ex.inBlock,↓reduceIte,Nat.reduceEqDiff];try simp only[↓reduceIte])|(refine resK.nil ?_;dsimp only[resV]))
  refine LS.callQ (.arr 1106 K) rfl (fun n' hn' => laws_toHopf h K _ _ hK) ?_
  (repeat first|refine zA ?_|(refine CS.tailL _ (List.Mem.head _) ?_;dsimp only[List.take,List.drop])|refine zC ?_|((first|refine zB ?_|(refine LS.nilO ?_;intro nq hnq hltq)|(refine MS.new ?_;intro bq hbq hbqf)|(refine MS.nil ?_;intro nq hnq hltq;have hlq:=hltq _ _ (Hp.get_eq _ _ _);clear hltq)|(refine LS.nilQ ?_;try with_reducible intro nq hnq));try dsimp only[Ex.then,Ex.inBlock,putD,Env.put])|(refine CS.exit ?_;try dsimp only[Ex.then,Ex.inBlock,↓reduceIte,Nat.reduceEqDiff];try simp only[↓reduceIte])|(refine resK.nil ?_;dsimp only[resV]))
  refine LS.callQ (.arr 64 (bys z1)) rfl (fun n' hn' => laws_toLinear z1 _ _) ?_
  (repeat first|refine zA ?_|(refine CS.tailL _ (List.Mem.head _) ?_;dsimp only[List.take,List.drop])|refine zC ?_|((first|refine zB ?_|(refine LS.nilO ?_;intro nq hnq hltq)|(refine MS.new ?_;intro bq hbq hbqf)|(refine MS.nil ?_;intro nq hnq hltq;have hlq:=hltq _ _ (Hp.get_eq _ _ _);clear hltq)|(refine LS.nilQ ?_;try with_reducible intro nq hnq));try dsimp only[Ex.then,Ex.inBlock,putD,Env.put])|(refine CS.exit ?_;try dsimp only[Ex.then,Ex.inBlock,↓reduceIte,Nat.reduceEqDiff];try simp only[↓reduceIte])|(refine resK.nil ?_;dsimp only[resV]))
  refine LS.callQ (.tup [bl (tb (mok h 1 (fun _ => z1) ∧ (bich h.p h.m h.c z1 h.N ∧ normed h h.N z1))), i64 (cd (mok h 1 (fun _ => z1)))]) rfl (fun n' hn' => spec_IsBicharacter h z1 K _ _ hK hB (flat_by w1)) ?_
  (repeat first|refine zA ?_|(refine CS.tailL _ (List.Mem.head _) ?_;dsimp only[List.take,List.drop])|refine zC ?_|((first|refine zB ?_|(refine LS.nilO ?_;intro nq hnq hltq)|(refine MS.new ?_;intro bq hbq hbqf)|(refine MS.nil ?_;intro nq hnq hltq;have hlq:=hltq _ _ (Hp.get_eq _ _ _);clear hltq)|(refine LS.nilQ ?_;try with_reducible intro nq hnq));try dsimp only[Ex.then,Ex.inBlock,putD,Env.put])|(refine CS.exit ?_;try dsimp only[Ex.then,Ex.inBlock,↓reduceIte,Nat.reduceEqDiff];try simp only[↓reduceIte])|(refine resK.nil ?_;dsimp only[resV]))
  refine CS.quietLo ?_
  (repeat first|refine zA ?_|(refine CS.tailL _ (List.Mem.head _) ?_;dsimp only[List.take,List.drop])|refine zC ?_|((first|refine zB ?_|(refine LS.nilO ?_;intro nq hnq hltq)|(refine MS.new ?_;intro bq hbq hbqf)|(refine MS.nil ?_;intro nq hnq hltq;have hlq:=hltq _ _ (Hp.get_eq _ _ _);clear hltq)|(refine LS.nilQ ?_;try with_reducible intro nq hnq));try dsimp only[Ex.then,Ex.inBlock,putD,Env.put])|(refine CS.exit ?_;try dsimp only[Ex.then,Ex.inBlock,↓reduceIte,Nat.reduceEqDiff];try simp only[↓reduceIte])|(refine resK.nil ?_;dsimp only[resV]))
  refine LS.callQ (.arr 1106 K) rfl (fun n' hn' => laws_toHopf h K _ _ hK) ?_
  (repeat first|refine zA ?_|(refine CS.tailL _ (List.Mem.head _) ?_;dsimp only[List.take,List.drop])|refine zC ?_|((first|refine zB ?_|(refine LS.nilO ?_;intro nq hnq hltq)|(refine MS.new ?_;intro bq hbq hbqf)|(refine MS.nil ?_;intro nq hnq hltq;have hlq:=hltq _ _ (Hp.get_eq _ _ _);clear hltq)|(refine LS.nilQ ?_;try with_reducible intro nq hnq));try dsimp only[Ex.then,Ex.inBlock,putD,Env.put])|(refine CS.exit ?_;try dsimp only[Ex.then,Ex.inBlock,↓reduceIte,Nat.reduceEqDiff];try simp only[↓reduceIte])|(refine resK.nil ?_;dsimp only[resV]))
  refine LS.callQ (.arr 64 (bys z1)) rfl (fun n' hn' => laws_toLinear z1 _ _) ?_
  (repeat first|refine zA ?_|(refine CS.tailL _ (List.Mem.head _) ?_;dsimp only[List.take,List.drop])|refine zC ?_|((first|refine zB ?_|(refine LS.nilO ?_;intro nq hnq hltq)|(refine MS.new ?_;intro bq hbq hbqf)|(refine MS.nil ?_;intro nq hnq hltq;have hlq:=hltq _ _ (Hp.get_eq _ _ _);clear hltq)|(refine LS.nilQ ?_;try with_reducible intro nq hnq));try dsimp only[Ex.then,Ex.inBlock,putD,Env.put])|(refine CS.exit ?_;try dsimp only[Ex.then,Ex.inBlock,↓reduceIte,Nat.reduceEqDiff];try simp only[↓reduceIte])|(refine resK.nil ?_;dsimp only[resV]))
  refine LS.callQ (.tup [bl (tb (mok h 1 (fun _ => z1) ∧ (bich h.p h.m h.c z1 h.N ∧ normed h h.N z1))), i64 (cd (mok h 1 (fun _ => z1)))]) rfl (fun n' hn' => impl_IsBicharacter h z1 K _ _ hK hB (flat_by w1)) ?_
  (repeat first|refine zA ?_|(refine CS.tailL _ (List.Mem.head _) ?_;dsimp only[List.take,List.drop])|refine zC ?_|((first|refine zB ?_|(refine LS.nilO ?_;intro nq hnq hltq)|(refine MS.new ?_;intro bq hbq hbqf)|(refine MS.nil ?_;intro nq hnq hltq;have hlq:=hltq _ _ (Hp.get_eq _ _ _);clear hltq)|(refine LS.nilQ ?_;try with_reducible intro nq hnq));try dsimp only[Ex.then,Ex.inBlock,putD,Env.put])|(refine CS.exit ?_;try dsimp only[Ex.then,Ex.inBlock,↓reduceIte,Nat.reduceEqDiff];try simp only[↓reduceIte])|(refine resK.nil ?_;dsimp only[resV]))
  refine RS.beq (by exact rfl) (by exact rfl) ?_
  simp only [beq_self_eq_true, Bool.not_true, ↓reduceIte]
  (repeat first|refine zA ?_|(refine CS.tailL _ (List.Mem.head _) ?_;dsimp only[List.take,List.drop])|refine zC ?_|((first|refine zB ?_|(refine LS.nilO ?_;intro nq hnq hltq)|(refine MS.new ?_;intro bq hbq hbqf)|(refine MS.nil ?_;intro nq hnq hltq;have hlq:=hltq _ _ (Hp.get_eq _ _ _);clear hltq)|(refine LS.nilQ ?_;try with_reducible intro nq hnq));try dsimp only[Ex.then,Ex.inBlock,putD,Env.put])|(refine CS.exit ?_;try dsimp only[Ex.then,Ex.inBlock,↓reduceIte,Nat.reduceEqDiff];try simp only[↓reduceIte])|(refine resK.nil ?_;dsimp only[resV]))
  simp only [bne_self_eq_false]
  (repeat first|refine zA ?_|(refine CS.tailL _ (List.Mem.head _) ?_;dsimp only[List.take,List.drop])|refine zC ?_|((first|refine zB ?_|(refine LS.nilO ?_;intro nq hnq hltq)|(refine MS.new ?_;intro bq hbq hbqf)|(refine MS.nil ?_;intro nq hnq hltq;have hlq:=hltq _ _ (Hp.get_eq _ _ _);clear hltq)|(refine LS.nilQ ?_;try with_reducible intro nq hnq));try dsimp only[Ex.then,Ex.inBlock,putD,Env.put])|(refine CS.exit ?_;try dsimp only[Ex.then,Ex.inBlock,↓reduceIte,Nat.reduceEqDiff];try simp only[↓reduceIte])|(refine resK.nil ?_;dsimp only[resV]))
  exact ⟨_, [], rfl, by exact zD, rfl, rfl⟩

end Go.Proofs.Ytnkmpelakhhoiab

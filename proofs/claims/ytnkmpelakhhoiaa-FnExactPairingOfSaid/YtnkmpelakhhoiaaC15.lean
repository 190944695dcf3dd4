/- Products of tables, on both sides. -/
import Derived.Test.YtnkmpelakhhoiaaC14
namespace Go.V
theorem rowsTo_keep {A B : Nat → Int} {x : Nat} (h : ∀ y, y < 8 → A (8 * x + y) = B (8 * x + y)) : rowsTo A B x = rowsTo A B (x + 1) := by
  funext q
  unfold rowsTo
  by_cases h1 : q < 8 * x
  · rw [if_pos h1, if_pos (by omega)]
  · rw [if_neg h1]
    by_cases h2 : q < 8 * (x + 1)
    · rw [if_pos h2]
      have := h (q - 8 * x) (by omega)
      rwa [show 8 * x + (q - 8 * x) = q by omega] at this
    · rw [if_neg h2]
/-- The coalgebra's cells of a Hopf table. -/
def coC (K : Nat → SV) : Nat → SV := fun q => if q < 2 then K q else K (520 + q)
theorem coC_0 (K : Nat → SV) : coC K 0 = K 0 := rfl
theorem coC_1 (K : Nat → SV) : coC K 1 = K 1 := rfl
theorem coC_e {h : HT} {K : Nat → SV} (hK : h.At K) : ∀ q, q < 8 → coC K (2 + q) = .int .u8 (h.e q) := fun q hq => by
  unfold coC; rw [if_neg (by omega), ← hK.e q hq]; congr 1; omega
theorem coC_c {h : HT} {K : Nat → SV} (hK : h.At K) : ∀ q, q < 512 → coC K (10 + q) = .int .u8 (h.c q) := fun q hq => by
  unfold coC; rw [if_neg (by omega), ← hK.c q hq]; congr 1; omega
end Go.V
namespace Go.Proofs.Ytnkmpelakhhoiaa
open Go.V
set_option linter.unusedSimpArgs false
set_option linter.unusedVariables false
set_option maxHeartbeats 4000000

theorem Hopf_tensor_2 (h : HT) (a : Nat) (A B : Nat → Int) (t j k s l i' : Nat) (ht : t = 8 * j + k) (hj : j < 8) (hk : k < 8) (hs : s = 8 * l + i') (hl : l < 8) (hi' : i' < 8)
    (b bh bj bf bo bx bk : Nat) (K Kh Kj Kx Kk : Blk) (H : Hp) (n : Nat) (hS : HS h a) (hb : H.get b = some K) (hsz : K.size = 1106) (hK : h.At K.c) (hB : h.By) (hA : isBy 64 A) (hBb : isBy 64 B)
    (gh : H.get bh = some Kh) (sh : Kh.size = 1) (ch : Kh.c 0 = .ptr b 0) (gj : H.get bj = some Kj) (sj : Kj.size = 1) (cj : Kj.c 0 = .int .i64 j) (gf : H.get bf = some ⟨2, fldC h.p a, 75⟩)
    (go : H.get bo = some ⟨64, bys (tns h.p h.m A B t s), 32⟩) (gx : H.get bx = some Kx) (sx : Kx.size = 1) (cx : Kx.c 0 = .int .i64 (A t)) (gk : H.get bk = some Kk) (sk : Kk.size = 1) (ck : Kk.c 0 = .int .i64 k)
    (d1 : bo ≠ b) (d2 : bo ≠ bh) (d3 : bo ≠ bj) (d4 : bo ≠ bf) (d5 : bo ≠ bx) (d6 : bo ≠ bk) :
    FnS Try.prog 123 [i64 l, i64 i', i64 (B s), ptr bh 0, ptr bj 0, ptr bf 0, ptr bo 0, ptr bx 0, ptr bk 0] H n (fun _ H' _ => H' = H.set bo (bys (tns h.p h.m A B t (s + 1)))) := by
  have hp := hS.hp
  have ha := hS.ha
  have hk5 := hK.m
  have hs0 : H.set bo (bys (tns h.p h.m A B t s)) = H := Hp.set_self go
  have hAt := hA t (by omega)
  have hBs := hBb s (by omega)
  have hAB := mulB hAt.1 hAt.2 hBs.1 hBs.2
  have hr := modB (A t * B s) hp.1
  refine FnS.of_body Try.func123 tr123 (by simp) (fun hf => ?_)
  dsimp only [argEnv]
  unfold ir123
  have hbn := getlt hf hb
  (repeat first|refine zA ?_|(refine CS.tailL _ (List.Mem.head _) ?_;dsimp only[List.take,List.drop])|refine zC ?_|((first|refine zB ?_|(refine LS.nilO ?_;intro nq hnq hltq)|(refine MS.new ?_;intro bq hbq hbqf)|(refine MS.nil ?_;intro nq hnq hltq;have hlq:=hltq _ _ (Hp.get_eq _ _ _);clear hltq)|(refine LS.nilQ ?_;try with_reducible intro nq hnq));try dsimp only[Ex.then,Ex.inBlock,putD,Env.put])|(refine CS.exit ?_;try dsimp only[Ex.then,Ex.inBlock,↓reduceIte,Nat.reduceEqDiff];try simp only[↓reduceIte])|(refine resK.nil ?_;dsimp only[resV]))
  refine CS.iter 8 (fun i => [(22, i64 i), (21, .arr 8 (bys (fun x => h.m (64 * j + 8 * l + x)))), (1, i64 i'), (2, i64 (B s)), (3, ptr bh 0), (5, ptr bf 0), (6, ptr bo 0), (7, ptr bx 0), (8, ptr bk 0)])
    (fun i => H.set bo (bys (rowsTo (tns h.p h.m A B t s) (tns h.p h.m A B t (s + 1)) i))) (fun _ => True) (by (repeat first | exact trivial | refine And.intro rfl ?_)) (by rw [rowsTo_zero, hs0]; exact Drops.refl _ _) trivial ?_
  intro i n3 hi hn _
  (repeat first|refine zA ?_|(refine CS.tailL _ (List.Mem.head _) ?_;dsimp only[List.take,List.drop])|refine zC ?_|((first|refine zB ?_|(refine LS.nilO ?_;intro nq hnq hltq)|(refine MS.new ?_;intro bq hbq hbqf)|(refine MS.nil ?_;intro nq hnq hltq;have hlq:=hltq _ _ (Hp.get_eq _ _ _);clear hltq)|(refine LS.nilQ ?_;try with_reducible intro nq hnq));try dsimp only[Ex.then,Ex.inBlock,putD,Env.put])|(refine CS.exit ?_;try dsimp only[Ex.then,Ex.inBlock,↓reduceIte,Nat.reduceEqDiff];try simp only[↓reduceIte])|(refine resK.nil ?_;dsimp only[resV]))
  refine zI ?_ ?_<;>intro h2
  · have hz := hB.m (64 * j + 8 * l + i) (by omega)
    have hzz := mulB hr.1 (show _ ≤ 31 by omega) hz.1 hz.2
    (repeat first|refine zA ?_|(refine CS.tailL _ (List.Mem.head _) ?_;dsimp only[List.take,List.drop])|refine zC ?_|((first|refine zB ?_|(refine LS.nilO ?_;intro nq hnq hltq)|(refine MS.new ?_;intro bq hbq hbqf)|(refine MS.nil ?_;intro nq hnq hltq;have hlq:=hltq _ _ (Hp.get_eq _ _ _);clear hltq)|(refine LS.nilQ ?_;try with_reducible intro nq hnq));try dsimp only[Ex.then,Ex.inBlock,putD,Env.put])|(refine CS.exit ?_;try dsimp only[Ex.then,Ex.inBlock,↓reduceIte,Nat.reduceEqDiff];try simp only[↓reduceIte])|(refine resK.nil ?_;dsimp only[resV]))
    refine RS.call rfl ((field_plus h.p a (A t * B s % h.p * h.m (64 * j + 8 * l + i)) (fun y => tns h.p h.m A B t s (8 * i + y)) (fun y => h.m (64 * k + 8 * i' + y)) bo (8 * i) ⟨64, bys (rowsTo (tns h.p h.m A B t s) (tns h.p h.m A B t (s + 1)) i), 32⟩ _ _ hp (Hp.get_set_self _ go) (show 8 * i + 8 ≤ 64 by omega)
      (fun y hy => by simp only [bys, rowsTo]; rw [if_neg (by omega)]) (fun y hy => tns_res hp.1 _ _ _ _ _ 64 _ (by omega)) (fun x hx => hB.m _ (by omega)) (by omega)).mono ?_)
    rintro r H' n5 hn5 ⟨rfl, rfl⟩
    simp only [Hp.set_set]
    (repeat first|refine zA ?_|(refine CS.tailL _ (List.Mem.head _) ?_;dsimp only[List.take,List.drop])|refine zC ?_|((first|refine zB ?_|(refine LS.nilO ?_;intro nq hnq hltq)|(refine MS.new ?_;intro bq hbq hbqf)|(refine MS.nil ?_;intro nq hnq hltq;have hlq:=hltq _ _ (Hp.get_eq _ _ _);clear hltq)|(refine LS.nilQ ?_;try with_reducible intro nq hnq));try dsimp only[Ex.then,Ex.inBlock,putD,Env.put])|(refine CS.exit ?_;try dsimp only[Ex.then,Ex.inBlock,↓reduceIte,Nat.reduceEqDiff];try simp only[↓reduceIte])|(refine resK.nil ?_;dsimp only[resV]))
    refine ⟨by omega, by (repeat first | exact trivial | refine And.intro rfl ?_), Drops.setc go (fun q hq => rowsTo_step (fun y hy => ?_) q), trivial⟩
    rw [← tns_row h.p h.m A B t s i y hy, ht, hs, show (8 * j + k) / 8 = j by omega, show (8 * j + k) % 8 = k by omega, show (8 * l + i') / 8 = l by omega, show (8 * l + i') % 8 = i' by omega]
  · have : i = 8 := by omega
    subst this
    (repeat first|refine zA ?_|(refine CS.tailL _ (List.Mem.head _) ?_;dsimp only[List.take,List.drop])|refine zC ?_|((first|refine zB ?_|(refine LS.nilO ?_;intro nq hnq hltq)|(refine MS.new ?_;intro bq hbq hbqf)|(refine MS.nil ?_;intro nq hnq hltq;have hlq:=hltq _ _ (Hp.get_eq _ _ _);clear hltq)|(refine LS.nilQ ?_;try with_reducible intro nq hnq));try dsimp only[Ex.then,Ex.inBlock,putD,Env.put])|(refine CS.exit ?_;try dsimp only[Ex.then,Ex.inBlock,↓reduceIte,Nat.reduceEqDiff];try simp only[↓reduceIte])|(refine resK.nil ?_;dsimp only[resV]))
    exact ⟨_, H.set bo (bys (tns h.p h.m A B t (s + 1))), rfl, Drops.setc go (fun q hq => by simp only [bys]; rw [rowsTo_all (n := 8) (N := 64) (fun q h1 h2 => by omega) hq]), rfl⟩

theorem Hopf_tensor_1 (h : HT) (a : Nat) (A B : Nat → Int) (t j k : Nat) (ht : t = 8 * j + k) (hj : j < 8) (hk : k < 8)
    (b bB oB bb bh bf bo : Nat) (K KB Kb Kh : Blk) (H : Hp) (n : Nat) (hS : HS h a) (hb : H.get b = some K) (hsz : K.size = 1106) (hK : h.At K.c) (hB : h.By) (hA : isBy 64 A) (hBb : isBy 64 B)
    (gB : H.get bB = some KB) (sB : oB + 64 ≤ KB.size) (cB : ∀ q, q < 64 → KB.c (oB + q) = .int .u8 (B q))
    (gb : H.get bb = some Kb) (sb : Kb.size = 1) (cb : Kb.c 0 = .ptr bB oB) (gh : H.get bh = some Kh) (sh : Kh.size = 1) (ch : Kh.c 0 = .ptr b 0) (gf : H.get bf = some ⟨2, fldC h.p a, 75⟩)
    (go : H.get bo = some ⟨64, bys (tns h.p h.m A B t 0), 32⟩)
    (d1 : bo ≠ b) (d2 : bo ≠ bh) (d3 : bo ≠ bb) (d4 : bo ≠ bf) (d5 : bo ≠ bB) :
    FnS Try.prog 122 [i64 j, i64 k, i64 (A t), ptr bb 0, ptr bh 0, ptr bf 0, ptr bo 0] H n (fun _ H' _ => H' = H.set bo (bys (tns h.p h.m A B (t + 1) 0))) := by
  have hp := hS.hp
  have hs0 : H.set bo (bys (tns h.p h.m A B t 0)) = H := Hp.set_self go
  refine FnS.of_body Try.func122 tr122 (by simp) (fun hf => ?_)
  dsimp only [argEnv]
  unfold ir122
  have hbn := getlt hf hb
  have hbn1 := getlt hf gB
  have hbn2 := getlt hf gb
  have hbn3 := getlt hf gh
  have hbn4 := getlt hf gf
  have hbn5 := getlt hf go
  (repeat first|refine zA ?_|(refine CS.tailL _ (List.Mem.head _) ?_;dsimp only[List.take,List.drop])|refine zC ?_|((first|refine zB ?_|(refine LS.nilO ?_;intro nq hnq hltq)|(refine MS.new ?_;intro bq hbq hbqf)|(refine MS.nil ?_;intro nq hnq hltq;have hlq:=hltq _ _ (Hp.get_eq _ _ _);clear hltq)|(refine LS.nilQ ?_;try with_reducible intro nq hnq));try dsimp only[Ex.then,Ex.inBlock,putD,Env.put])|(refine CS.exit ?_;try dsimp only[Ex.then,Ex.inBlock,↓reduceIte,Nat.reduceEqDiff];try simp only[↓reduceIte])|(refine resK.nil ?_;dsimp only[resV]))
  refine RS.call rfl ((impl_pairs B bB oB _ _ (fun s => (n + 2, ⟨1, fun _ => .int .i64 (A t), 3⟩) :: (n + 1, ⟨1, fun _ => .int .i64 k, 3⟩) :: (n, ⟨1, fun _ => .int .i64 j, 3⟩) :: H.set bo (bys (tns h.p h.m A B t s))) _ _ (by (try dsimp only); rw [hs0])
    (fun s hs => ⟨KB, by exact zH, sB, cB⟩) hBb (fun s hs hz => by (try dsimp only); rw [tns_same hz]) (fun s l i' n' hs hs' hi' hz hn' => ?_)).mono ?_)
  · refine (Hopf_tensor_2 h a A B t j k s l i' ht hj hk hs' (by omega) hi' b bh n bf bo (n + 2) (n + 1) K Kh _ _ _ _ n' hS (by exact zH) hsz hK hB hA hBb (by exact zH) sh ch (by exact zH) rfl rfl (by exact zH) (by simp (disch := omega) only [Hp.get_ne]; exact Hp.get_set_self _ go) (by exact zH) rfl rfl (by exact zH) rfl rfl d1 d2 (by omega) d4 (by omega) (by omega)).mono ?_
    rintro r H' n2 hn2 rfl
    simp (disch := omega) only [Hp.set_eq, Hp.set_ne, Hp.set_set]
  rintro r H' n2 hn2 rfl
  (repeat first|refine zA ?_|(refine CS.tailL _ (List.Mem.head _) ?_;dsimp only[List.take,List.drop])|refine zC ?_|((first|refine zB ?_|(refine LS.nilO ?_;intro nq hnq hltq)|(refine MS.new ?_;intro bq hbq hbqf)|(refine MS.nil ?_;intro nq hnq hltq;have hlq:=hltq _ _ (Hp.get_eq _ _ _);clear hltq)|(refine LS.nilQ ?_;try with_reducible intro nq hnq));try dsimp only[Ex.then,Ex.inBlock,putD,Env.put])|(refine CS.exit ?_;try dsimp only[Ex.then,Ex.inBlock,↓reduceIte,Nat.reduceEqDiff];try simp only[↓reduceIte])|(refine resK.nil ?_;dsimp only[resV]))
  exact ⟨_, H.set bo (bys (tns h.p h.m A B (t + 1) 0)), rfl, by
    rw [tns_next]
    refine Drops.drop (by omega) ?_ (Drops.drop (by omega) ?_ (Drops.drop (by omega) ?_ (Drops.refl _ _))) <;> exact Hp.get_set_none _ (hf _ (by omega)), rfl⟩

theorem Hopf_tensor (h : HT) (a : Nat) (A B : Nat → Int) (b bA oA bB oB : Nat) (K KA KB : Blk) (H : Hp) (n : Nat) (hS : HS h a) (hb : H.get b = some K) (hsz : K.size = 1106) (hK : h.At K.c) (hB : h.By)
    (hA : isBy 64 A) (hBb : isBy 64 B) (gA : H.get bA = some KA) (sA : oA + 64 ≤ KA.size) (cA : ∀ q, q < 64 → KA.c (oA + q) = .int .u8 (A q))
    (gB : H.get bB = some KB) (sB : oB + 64 ≤ KB.size) (cB : ∀ q, q < 64 → KB.c (oB + q) = .int .u8 (B q)) :
    FnS Try.prog 109 [ptr b 0, ptr bA oA, ptr bB oB] H n (fun r H' _ => r = .arr 64 (bys (ten h.p h.m A B)) ∧ H' = H) := by
  have hp := hS.hp
  have ha := hS.ha
  have hk1 := hK.n
  rw [hS.hn] at hk1
  refine FnS.of_body Try.func109 tr109 (by simp) (fun hf => ?_)
  dsimp only [argEnv]
  unfold ir109
  have hbn := getlt hf hb
  have hbn1 := getlt hf gA
  have hbn2 := getlt hf gB
  (repeat first|refine zA ?_|(refine CS.tailL _ (List.Mem.head _) ?_;dsimp only[List.take,List.drop])|refine zC ?_|((first|refine zB ?_|(refine LS.nilO ?_;intro nq hnq hltq)|(refine MS.new ?_;intro bq hbq hbqf)|(refine MS.nil ?_;intro nq hnq hltq;have hlq:=hltq _ _ (Hp.get_eq _ _ _);clear hltq)|(refine LS.nilQ ?_;try with_reducible intro nq hnq));try dsimp only[Ex.then,Ex.inBlock,putD,Env.put])|(refine CS.exit ?_;try dsimp only[Ex.then,Ex.inBlock,↓reduceIte,Nat.reduceEqDiff];try simp only[↓reduceIte])|(refine resK.nil ?_;dsimp only[resV]))
  refine RS.call rfl ((Hopf_field h.p a b K _ _ (by exact zH) hsz hK.p hk1 (by omega)).mono ?_)
  rintro r H n2 hn2 ⟨rfl, rfl⟩
  (repeat first|refine zA ?_|(refine CS.tailL _ (List.Mem.head _) ?_;dsimp only[List.take,List.drop])|refine zC ?_|((first|refine zB ?_|(refine LS.nilO ?_;intro nq hnq hltq)|(refine MS.new ?_;intro bq hbq hbqf)|(refine MS.nil ?_;intro nq hnq hltq;have hlq:=hltq _ _ (Hp.get_eq _ _ _);clear hltq)|(refine LS.nilQ ?_;try with_reducible intro nq hnq));try dsimp only[Ex.then,Ex.inBlock,putD,Env.put])|(refine CS.exit ?_;try dsimp only[Ex.then,Ex.inBlock,↓reduceIte,Nat.reduceEqDiff];try simp only[↓reduceIte])|(refine resK.nil ?_;dsimp only[resV]))
  refine RS.call rfl ((impl_pairs A bA oA _ _ (fun t => (n2 + 1, ⟨64, bys (tns h.p h.m A B t 0), 32⟩) :: (n2, ⟨2, fldC h.p a, 75⟩) :: (n + 2, ⟨64, fun _ => .int .u8 0, 32⟩) :: (n + 1, ⟨1, fun _ => .ptr bB oB, 69⟩) :: (n, ⟨1, fun _ => .ptr b 0, 68⟩) :: H) _ _ (by (try dsimp only); rw [tns_zero]; rfl)
    (fun s hs => ⟨KA, by exact zH, sA, cA⟩) hA (fun s hs hz => by (try dsimp only); rw [tns_skip hz]) (fun t j k n' ht ht' hk hz hn' => ?_)).mono ?_)
  · refine (Hopf_tensor_1 h a A B t j k ht' (by omega) hk b bB oB (n + 1) n n2 (n2 + 1) K KB _ _ _ n' hS (by exact zH) hsz hK hB hA hBb (by exact zH) sB cB (by exact zH) rfl rfl (by exact zH) rfl rfl (by exact zH) (by exact zH) (by omega) (by omega) (by omega) (by omega) (by omega)).mono ?_
    rintro r H' n3 hn3 rfl
    simp (disch := omega) only [Hp.set_eq, Hp.set_ne, Hp.set_set]
  rintro r H' n3 hn3 rfl
  (repeat first|refine zA ?_|(refine CS.tailL _ (List.Mem.head _) ?_;dsimp only[List.take,List.drop])|refine zC ?_|((first|refine zB ?_|(refine LS.nilO ?_;intro nq hnq hltq)|(refine MS.new ?_;intro bq hbq hbqf)|(refine MS.nil ?_;intro nq hnq hltq;have hlq:=hltq _ _ (Hp.get_eq _ _ _);clear hltq)|(refine LS.nilQ ?_;try with_reducible intro nq hnq));try dsimp only[Ex.then,Ex.inBlock,putD,Env.put])|(refine CS.exit ?_;try dsimp only[Ex.then,Ex.inBlock,↓reduceIte,Nat.reduceEqDiff];try simp only[↓reduceIte])|(refine resK.nil ?_;dsimp only[resV]))
  exact ⟨.arr 64 (bys (ten h.p h.m A B)), _, conc_arr (fun q hq => by simp only [ten, Nat.zero_add]), by exact zD, rfl, rfl⟩

theorem spec_l03Algebra (K : Nat → SV) (h : HT) (H : Hp) (n : Nat) (hK : h.At K) :
    FnS Try.prog 68 [.arr 1106 K] H n (fun r H' _ => r = .arr 522 K ∧ H' = H) := by
  obtain ⟨k0, k1, k2, k3, k4, k5, k6⟩ := hK
  refine FnS.of_body Try.func68 tr68 (by simp) (fun hf => ?_)
  dsimp only [argEnv]
  unfold ir68
  (repeat first|refine zA ?_|(refine CS.tailL _ (List.Mem.head _) ?_;dsimp only[List.take,List.drop])|refine zC ?_|((first|refine zB ?_|(refine LS.nilO ?_;intro nq hnq hltq)|(refine MS.new ?_;intro bq hbq hbqf)|(refine MS.nil ?_;intro nq hnq hltq;have hlq:=hltq _ _ (Hp.get_eq _ _ _);clear hltq)|(refine LS.nilQ ?_;try with_reducible intro nq hnq));try dsimp only[Ex.then,Ex.inBlock,putD,Env.put])|(refine CS.exit ?_;try dsimp only[Ex.then,Ex.inBlock,↓reduceIte,Nat.reduceEqDiff];try simp only[↓reduceIte])|(refine resK.nil ?_;dsimp only[resV]))
  refine ⟨.arr 522 K, H, conc_arr (fun q hq => ?_), by exact zD, rfl, rfl⟩
  simp only [Nat.zero_add, splice, put1]
  by_cases e0 : q < 2
  · rw [if_neg (by omega), if_neg (by omega)]
    by_cases e1 : q = 1
    · subst e1; rw [if_pos rfl]; exact k1.symm
    · have : q = 0 := by omega
      subst this; rw [if_neg (by omega), if_pos rfl]; exact k0.symm
  by_cases e1 : q < 10
  · rw [if_neg (by omega), if_pos (by omega)]
    have := k2 (q - 2) (by omega)
    rw [show 2 + (q - 2) = q by omega] at this
    rw [this]; rfl
  · rw [if_pos (by omega)]
    have := k3 (q - 10) (by omega)
    rw [show 10 + (q - 10) = q by omega] at this
    rw [this]; rfl

theorem spec_l03Coalgebra (K : Nat → SV) (h : HT) (H : Hp) (n : Nat) (hK : h.At K) :
    FnS Try.prog 98 [.arr 1106 K] H n (fun r H' _ => r = .arr 522 (coC K) ∧ H' = H) := by
  have c4 := coC_e hK
  have c5 := coC_c hK
  obtain ⟨k0, k1, k2, k3, k4, k5, k6⟩ := hK
  refine FnS.of_body Try.func98 tr98 (by simp) (fun hf => ?_)
  dsimp only [argEnv]
  unfold ir98
  (repeat first|refine zA ?_|(refine CS.tailL _ (List.Mem.head _) ?_;dsimp only[List.take,List.drop])|refine zC ?_|((first|refine zB ?_|(refine LS.nilO ?_;intro nq hnq hltq)|(refine MS.new ?_;intro bq hbq hbqf)|(refine MS.nil ?_;intro nq hnq hltq;have hlq:=hltq _ _ (Hp.get_eq _ _ _);clear hltq)|(refine LS.nilQ ?_;try with_reducible intro nq hnq));try dsimp only[Ex.then,Ex.inBlock,putD,Env.put])|(refine CS.exit ?_;try dsimp only[Ex.then,Ex.inBlock,↓reduceIte,Nat.reduceEqDiff];try simp only[↓reduceIte])|(refine resK.nil ?_;dsimp only[resV]))
  refine ⟨.arr 522 (coC K), H, conc_arr (fun q hq => ?_), by exact zD, rfl, rfl⟩
  simp only [Nat.zero_add, splice, put1]
  by_cases e0 : q < 2
  · rw [if_neg (by omega), if_neg (by omega)]
    by_cases e1 : q = 1
    · subst e1; rw [if_pos rfl]; exact k1.symm
    · have : q = 0 := by omega
      subst this; rw [if_neg (by omega), if_pos rfl]; exact k0.symm
  by_cases e1 : q < 10
  · rw [if_neg (by omega), if_pos (by omega)]
    have := c4 (q - 2) (by omega)
    rw [show 2 + (q - 2) = q by omega] at this
    rw [this]; rfl
  · rw [if_pos (by omega)]
    have := c5 (q - 10) (by omega)
    rw [show 10 + (q - 10) = q by omega] at this
    rw [this]; rfl

theorem spec_l01Zero (v : Nat → Int) (H : Hp) (n : Nat) :
    FnS Try.prog 58 [.arr 8 (bys v)] H n (fun r H' _ => r = bl (tb (∀ q, q < 8 → v q = 0)) ∧ H' = H) := by
  refine FnS.of_body Try.func58 tr58 (by simp) (fun hf => ?_)
  dsimp only [argEnv]
  unfold ir58
  (repeat first|refine zA ?_|(refine CS.tailL _ (List.Mem.head _) ?_;dsimp only[List.take,List.drop])|refine zC ?_|((first|refine zB ?_|(refine LS.nilO ?_;intro nq hnq hltq)|(refine MS.new ?_;intro bq hbq hbqf)|(refine MS.nil ?_;intro nq hnq hltq;have hlq:=hltq _ _ (Hp.get_eq _ _ _);clear hltq)|(refine LS.nilQ ?_;try with_reducible intro nq hnq));try dsimp only[Ex.then,Ex.inBlock,putD,Env.put])|(refine CS.exit ?_;try dsimp only[Ex.then,Ex.inBlock,↓reduceIte,Nat.reduceEqDiff];try simp only[↓reduceIte])|(refine resK.nil ?_;dsimp only[resV]))
  exact ⟨_, H, rfl, by exact zD, rfl, rfl⟩

theorem spec_l03Pairs (h : HT) (a : Nat) (f g : Nat → Int) (K : Nat → SV) (H : Hp) (n : Nat) (hS : HS h a) (hK : h.At K) (hB : h.By) (hA : isBy 64 f) (hG : isBy 64 g) :
    FnS Try.prog 100 [.arr 1106 K, .arr 64 (bys f), .arr 64 (bys g)] H n (fun r H' _ => r = .arr 64 (bys (ten h.p h.m f g)) ∧ H' = H) := by
  have hp := hS.hp
  have ha := hS.ha
  have hk0 := hK.p
  have hk1 := hK.n
  rw [hS.hn] at hk1
  have hk5 := hK.m
  refine FnS.of_body Try.func100 tr100 (by simp) (fun hf => ?_)
  dsimp only [argEnv]
  unfold ir100
  (repeat first|refine zA ?_|(refine CS.tailL _ (List.Mem.head _) ?_;dsimp only[List.take,List.drop])|refine zC ?_|((first|refine zB ?_|(refine LS.nilO ?_;intro nq hnq hltq)|(refine MS.new ?_;intro bq hbq hbqf)|(refine MS.nil ?_;intro nq hnq hltq;have hlq:=hltq _ _ (Hp.get_eq _ _ _);clear hltq)|(refine LS.nilQ ?_;try with_reducible intro nq hnq));try dsimp only[Ex.then,Ex.inBlock,putD,Env.put])|(refine CS.exit ?_;try dsimp only[Ex.then,Ex.inBlock,↓reduceIte,Nat.reduceEqDiff];try simp only[↓reduceIte])|(refine resK.nil ?_;dsimp only[resV]))
  revert bq
  intro b1 hb1 hb1f hl1
  refine CS.iter a (fun j => [(10, i64 j), (3, ptr n 0), (4, ptr (n + 1) 0), (5, ptr (n + 2) 0), (6, ptr (n + 3) 0), (7, i64 h.p), (8, i64 a), (9, ptr b1 0)])
    (fun j => (b1, ⟨64, bys (tsr h.p h.m f g a j 0), 32⟩) :: (n + 3, ⟨64, bys (fun _ => 0), 32⟩) :: (n + 2, ⟨64, bys g, 32⟩) :: (n + 1, ⟨64, bys f, 32⟩) :: (n, ⟨1106, K, 36⟩) :: H) (fun _ => True) (by (repeat first | exact trivial | refine And.intro rfl ?_))
    (Drops.keepc rfl rfl (fun _ _ => by rw [tsr_zero]; rfl) (Drops.keepc rfl rfl (fun _ _ => rfl) (Drops.refl _ _))) trivial ?_
  intro j n3 hj hn _
  (repeat first|refine zA ?_|(refine CS.tailL _ (List.Mem.head _) ?_;dsimp only[List.take,List.drop])|refine zC ?_|((first|refine zB ?_|(refine LS.nilO ?_;intro nq hnq hltq)|(refine MS.new ?_;intro bq hbq hbqf)|(refine MS.nil ?_;intro nq hnq hltq;have hlq:=hltq _ _ (Hp.get_eq _ _ _);clear hltq)|(refine LS.nilQ ?_;try with_reducible intro nq hnq));try dsimp only[Ex.then,Ex.inBlock,putD,Env.put])|(refine CS.exit ?_;try dsimp only[Ex.then,Ex.inBlock,↓reduceIte,Nat.reduceEqDiff];try simp only[↓reduceIte])|(refine resK.nil ?_;dsimp only[resV]))
  refine zI ?_ ?_<;>intro h2
  · (repeat first|refine zA ?_|(refine CS.tailL _ (List.Mem.head _) ?_;dsimp only[List.take,List.drop])|refine zC ?_|((first|refine zB ?_|(refine LS.nilO ?_;intro nq hnq hltq)|(refine MS.new ?_;intro bq hbq hbqf)|(refine MS.nil ?_;intro nq hnq hltq;have hlq:=hltq _ _ (Hp.get_eq _ _ _);clear hltq)|(refine LS.nilQ ?_;try with_reducible intro nq hnq));try dsimp only[Ex.then,Ex.inBlock,putD,Env.put])|(refine CS.exit ?_;try dsimp only[Ex.then,Ex.inBlock,↓reduceIte,Nat.reduceEqDiff];try simp only[↓reduceIte])|(refine resK.nil ?_;dsimp only[resV]))
    refine CS.iter a (fun l => [(11, i64 l), (10, i64 j), (3, ptr n 0), (4, ptr (n + 1) 0), (5, ptr (n + 2) 0), (6, ptr (n + 3) 0), (7, i64 h.p), (8, i64 a), (9, ptr b1 0)])
      (fun l => (b1, ⟨64, bys (tsr h.p h.m f g a j l), 32⟩) :: (n + 3, ⟨64, bys (fun _ => 0), 32⟩) :: (n + 2, ⟨64, bys g, 32⟩) :: (n + 1, ⟨64, bys f, 32⟩) :: (n, ⟨1106, K, 36⟩) :: H) (fun _ => True) (by (repeat first | exact trivial | refine And.intro rfl ?_))
      (Drops.refl _ _) trivial ?_
    intro l n4 hl hn4 _
    (repeat first|refine zA ?_|(refine CS.tailL _ (List.Mem.head _) ?_;dsimp only[List.take,List.drop])|refine zC ?_|((first|refine zB ?_|(refine LS.nilO ?_;intro nq hnq hltq)|(refine MS.new ?_;intro bq hbq hbqf)|(refine MS.nil ?_;intro nq hnq hltq;have hlq:=hltq _ _ (Hp.get_eq _ _ _);clear hltq)|(refine LS.nilQ ?_;try with_reducible intro nq hnq));try dsimp only[Ex.then,Ex.inBlock,putD,Env.put])|(refine CS.exit ?_;try dsimp only[Ex.then,Ex.inBlock,↓reduceIte,Nat.reduceEqDiff];try simp only[↓reduceIte])|(refine resK.nil ?_;dsimp only[resV]))
    refine zI ?_ ?_<;>intro h3
    · (repeat first|refine zA ?_|(refine CS.tailL _ (List.Mem.head _) ?_;dsimp only[List.take,List.drop])|refine zC ?_|((first|refine zB ?_|(refine LS.nilO ?_;intro nq hnq hltq)|(refine MS.new ?_;intro bq hbq hbqf)|(refine MS.nil ?_;intro nq hnq hltq;have hlq:=hltq _ _ (Hp.get_eq _ _ _);clear hltq)|(refine LS.nilQ ?_;try with_reducible intro nq hnq));try dsimp only[Ex.then,Ex.inBlock,putD,Env.put])|(refine CS.exit ?_;try dsimp only[Ex.then,Ex.inBlock,↓reduceIte,Nat.reduceEqDiff];try simp only[↓reduceIte])|(refine resK.nil ?_;dsimp only[resV]))
      refine LS.callQ (.arr 522 K) rfl (fun n' hn' => FnS.args (concs_cons (conc_arr (fun q hq => rfl)) rfl) (spec_l03Algebra K h _ _ hK)) ?_
      (repeat first|refine zA ?_|(refine CS.tailL _ (List.Mem.head _) ?_;dsimp only[List.take,List.drop])|refine zC ?_|((first|refine zB ?_|(refine LS.nilO ?_;intro nq hnq hltq)|(refine MS.new ?_;intro bq hbq hbqf)|(refine MS.nil ?_;intro nq hnq hltq;have hlq:=hltq _ _ (Hp.get_eq _ _ _);clear hltq)|(refine LS.nilQ ?_;try with_reducible intro nq hnq));try dsimp only[Ex.then,Ex.inBlock,putD,Env.put])|(refine CS.exit ?_;try dsimp only[Ex.then,Ex.inBlock,↓reduceIte,Nat.reduceEqDiff];try simp only[↓reduceIte])|(refine resK.nil ?_;dsimp only[resV]))
      refine LS.callQ (.arr 8 (bys (pr h.p h.m (fun x => f (8 * j + x)) (fun x => g (8 * l + x)) a))) rfl (fun n' hn' => spec_l01Times h.p a h.m (fun x => f (8 * j + x)) (fun x => g (8 * l + x)) K _ _ hp ha hk0 hk1 hk5 hB.m (fun x hx => hA _ (by omega)) (fun x hx => hG _ (by omega))) ?_
      have hpr := pr_res hp.1 h.m (fun x => f (8 * j + x)) (fun x => g (8 * l + x)) a 8
      (repeat first|refine zA ?_|(refine CS.tailL _ (List.Mem.head _) ?_;dsimp only[List.take,List.drop])|refine zC ?_|((first|refine zB ?_|(refine LS.nilO ?_;intro nq hnq hltq)|(refine MS.new ?_;intro bq hbq hbqf)|(refine MS.nil ?_;intro nq hnq hltq;have hlq:=hltq _ _ (Hp.get_eq _ _ _);clear hltq)|(refine LS.nilQ ?_;try with_reducible intro nq hnq));try dsimp only[Ex.then,Ex.inBlock,putD,Env.put])|(refine CS.exit ?_;try dsimp only[Ex.then,Ex.inBlock,↓reduceIte,Nat.reduceEqDiff];try simp only[↓reduceIte])|(refine resK.nil ?_;dsimp only[resV]))
      refine RS.call rfl ((spec_l01Zero (pr h.p h.m (fun x => f (8 * j + x)) (fun x => g (8 * l + x)) a) _ _).mono ?_)
      rintro r H n5 hn5 ⟨rfl, rfl⟩
      (repeat first|refine zA ?_|(refine CS.tailL _ (List.Mem.head _) ?_;dsimp only[List.take,List.drop])|refine zC ?_|((first|refine zB ?_|(refine LS.nilO ?_;intro nq hnq hltq)|(refine MS.new ?_;intro bq hbq hbqf)|(refine MS.nil ?_;intro nq hnq hltq;have hlq:=hltq _ _ (Hp.get_eq _ _ _);clear hltq)|(refine LS.nilQ ?_;try with_reducible intro nq hnq));try dsimp only[Ex.then,Ex.inBlock,putD,Env.put])|(refine CS.exit ?_;try dsimp only[Ex.then,Ex.inBlock,↓reduceIte,Nat.reduceEqDiff];try simp only[↓reduceIte])|(refine resK.nil ?_;dsimp only[resV]))
      refine zI ?_ ?_<;>intro h4
      · (repeat first|refine zA ?_|(refine CS.tailL _ (List.Mem.head _) ?_;dsimp only[List.take,List.drop])|refine zC ?_|((first|refine zB ?_|(refine LS.nilO ?_;intro nq hnq hltq)|(refine MS.new ?_;intro bq hbq hbqf)|(refine MS.nil ?_;intro nq hnq hltq;have hlq:=hltq _ _ (Hp.get_eq _ _ _);clear hltq)|(refine LS.nilQ ?_;try with_reducible intro nq hnq));try dsimp only[Ex.then,Ex.inBlock,putD,Env.put])|(refine CS.exit ?_;try dsimp only[Ex.then,Ex.inBlock,↓reduceIte,Nat.reduceEqDiff];try simp only[↓reduceIte])|(refine resK.nil ?_;dsimp only[resV]))
        exact ⟨by omega, by (repeat first | exact trivial | refine And.intro rfl ?_), Drops.drop (by omega) (by simp (disch := omega) only [Hp.get_ne]; exact hf _ (by omega)) (Drops.keepc rfl rfl (fun q hq => by simp only [bys]; rw [tsr_same (twr_zero h4 q)]) (Drops.refl _ _)), trivial⟩
      · (repeat first|refine zA ?_|(refine CS.tailL _ (List.Mem.head _) ?_;dsimp only[List.take,List.drop])|refine zC ?_|((first|refine zB ?_|(refine LS.nilO ?_;intro nq hnq hltq)|(refine MS.new ?_;intro bq hbq hbqf)|(refine MS.nil ?_;intro nq hnq hltq;have hlq:=hltq _ _ (Hp.get_eq _ _ _);clear hltq)|(refine LS.nilQ ?_;try with_reducible intro nq hnq));try dsimp only[Ex.then,Ex.inBlock,putD,Env.put])|(refine CS.exit ?_;try dsimp only[Ex.then,Ex.inBlock,↓reduceIte,Nat.reduceEqDiff];try simp only[↓reduceIte])|(refine resK.nil ?_;dsimp only[resV]))
        refine CS.iter a (fun x => [(13, i64 x), (12, ptr bq 0), (11, i64 l), (10, i64 j), (3, ptr n 0), (4, ptr (n + 1) 0), (5, ptr (n + 2) 0), (6, ptr (n + 3) 0), (7, i64 h.p), (8, i64 a), (9, ptr b1 0)])
          (fun x => (bq, ⟨8, bys (pr h.p h.m (fun x => f (8 * j + x)) (fun x => g (8 * l + x)) a), 30⟩) :: (b1, ⟨64, bys (rowsTo (tsr h.p h.m f g a j l) (tsr h.p h.m f g a j (l + 1)) x), 32⟩) :: (n + 3, ⟨64, bys (fun _ => 0), 32⟩) :: (n + 2, ⟨64, bys g, 32⟩) :: (n + 1, ⟨64, bys f, 32⟩) :: (n, ⟨1106, K, 36⟩) :: H) (fun _ => True) (by (repeat first | exact trivial | refine And.intro rfl ?_))
          (Drops.keepc rfl rfl (fun _ _ => rfl) (Drops.keepc rfl rfl (fun _ _ => by rw [rowsTo_zero]) (Drops.refl _ _))) trivial ?_
        intro x n6 hx hn6 _
        (repeat first|refine zA ?_|(refine CS.tailL _ (List.Mem.head _) ?_;dsimp only[List.take,List.drop])|refine zC ?_|((first|refine zB ?_|(refine LS.nilO ?_;intro nq hnq hltq)|(refine MS.new ?_;intro bq hbq hbqf)|(refine MS.nil ?_;intro nq hnq hltq;have hlq:=hltq _ _ (Hp.get_eq _ _ _);clear hltq)|(refine LS.nilQ ?_;try with_reducible intro nq hnq));try dsimp only[Ex.then,Ex.inBlock,putD,Env.put])|(refine CS.exit ?_;try dsimp only[Ex.then,Ex.inBlock,↓reduceIte,Nat.reduceEqDiff];try simp only[↓reduceIte])|(refine resK.nil ?_;dsimp only[resV]))
        refine zI ?_ ?_<;>intro h5
        · have hmx := hB.m (64 * j + 8 * l + x) (by omega)
          (repeat first|refine zA ?_|(refine CS.tailL _ (List.Mem.head _) ?_;dsimp only[List.take,List.drop])|refine zC ?_|((first|refine zB ?_|(refine LS.nilO ?_;intro nq hnq hltq)|(refine MS.new ?_;intro bq hbq hbqf)|(refine MS.nil ?_;intro nq hnq hltq;have hlq:=hltq _ _ (Hp.get_eq _ _ _);clear hltq)|(refine LS.nilQ ?_;try with_reducible intro nq hnq));try dsimp only[Ex.then,Ex.inBlock,putD,Env.put])|(refine CS.exit ?_;try dsimp only[Ex.then,Ex.inBlock,↓reduceIte,Nat.reduceEqDiff];try simp only[↓reduceIte])|(refine resK.nil ?_;dsimp only[resV]))
          refine zI ?_ ?_<;>intro h6
          · have hr : ∀ q, q < 8 → (bys (rowsTo (tsr h.p h.m f g a j l) (tsr h.p h.m f g a j (l + 1)) x)) (8 * x + q) = .int .u8 (tsr h.p h.m f g a j l (8 * x + q)) := fun y hy => by simp only [bys, rowsTo]; rw [if_neg (by omega)]
            (repeat first|refine zA ?_|(refine CS.tailL _ (List.Mem.head _) ?_;dsimp only[List.take,List.drop])|refine zC ?_|((first|refine zB ?_|(refine LS.nilO ?_;intro nq hnq hltq)|(refine MS.new ?_;intro bq hbq hbqf)|(refine MS.nil ?_;intro nq hnq hltq;have hlq:=hltq _ _ (Hp.get_eq _ _ _);clear hltq)|(refine LS.nilQ ?_;try with_reducible intro nq hnq));try dsimp only[Ex.then,Ex.inBlock,putD,Env.put])|(refine CS.exit ?_;try dsimp only[Ex.then,Ex.inBlock,↓reduceIte,Nat.reduceEqDiff];try simp only[↓reduceIte])|(refine resK.nil ?_;dsimp only[resV]))
            refine LS.callQ (.arr 8 (bys (pl h.p (fun y => tsr h.p h.m f g a j l (8 * x + y)) (h.m (64 * j + 8 * l + x)) (pr h.p h.m (fun x => f (8 * j + x)) (fun x => g (8 * l + x)) a)))) rfl (fun n' hn' => spec_l01Add h.p (h.m (64 * j + 8 * l + x)) (fun y => tsr h.p h.m f g a j l (8 * x + y)) (pr h.p h.m (fun x => f (8 * j + x)) (fun x => g (8 * l + x)) a) _ _ hp (fun y hy => (tsr_res hp.1 h.m f g a j l 64).by hp.2 _ (by omega)) (hpr.by hp.2) (by omega)) ?_
            (repeat first|refine zA ?_|(refine CS.tailL _ (List.Mem.head _) ?_;dsimp only[List.take,List.drop])|refine zC ?_|((first|refine zB ?_|(refine LS.nilO ?_;intro nq hnq hltq)|(refine MS.new ?_;intro bq hbq hbqf)|(refine MS.nil ?_;intro nq hnq hltq;have hlq:=hltq _ _ (Hp.get_eq _ _ _);clear hltq)|(refine LS.nilQ ?_;try with_reducible intro nq hnq));try dsimp only[Ex.then,Ex.inBlock,putD,Env.put])|(refine CS.exit ?_;try dsimp only[Ex.then,Ex.inBlock,↓reduceIte,Nat.reduceEqDiff];try simp only[↓reduceIte])|(refine resK.nil ?_;dsimp only[resV]))
            exact ⟨by omega, by (repeat first | exact trivial | refine And.intro rfl ?_), Drops.keepc rfl rfl (fun _ _ => rfl) (Drops.keepc rfl rfl (fun q hq => rowsTo_step (fun y hy => tsr_row _ _ _ _ _ _ _ _ _ hy) q) (Drops.refl _ _)), trivial⟩
          · (repeat first|refine zA ?_|(refine CS.tailL _ (List.Mem.head _) ?_;dsimp only[List.take,List.drop])|refine zC ?_|((first|refine zB ?_|(refine LS.nilO ?_;intro nq hnq hltq)|(refine MS.new ?_;intro bq hbq hbqf)|(refine MS.nil ?_;intro nq hnq hltq;have hlq:=hltq _ _ (Hp.get_eq _ _ _);clear hltq)|(refine LS.nilQ ?_;try with_reducible intro nq hnq));try dsimp only[Ex.then,Ex.inBlock,putD,Env.put])|(refine CS.exit ?_;try dsimp only[Ex.then,Ex.inBlock,↓reduceIte,Nat.reduceEqDiff];try simp only[↓reduceIte])|(refine resK.nil ?_;dsimp only[resV]))
            exact ⟨by omega, by (repeat first | exact trivial | refine And.intro rfl ?_), Drops.keepc rfl rfl (fun _ _ => rfl) (Drops.keepc rfl rfl (fun q hq => by
              simp only [bys]; rw [rowsTo_keep (fun y hy => (tsr_same (by unfold twr; rw [show (8 * x + y) / 8 = x by omega, h6, Int.zero_mul])).symm)]) (Drops.refl _ _)), trivial⟩
        · have : x = a := by omega
          subst this
          (repeat first|refine zA ?_|(refine CS.tailL _ (List.Mem.head _) ?_;dsimp only[List.take,List.drop])|refine zC ?_|((first|refine zB ?_|(refine LS.nilO ?_;intro nq hnq hltq)|(refine MS.new ?_;intro bq hbq hbqf)|(refine MS.nil ?_;intro nq hnq hltq;have hlq:=hltq _ _ (Hp.get_eq _ _ _);clear hltq)|(refine LS.nilQ ?_;try with_reducible intro nq hnq));try dsimp only[Ex.then,Ex.inBlock,putD,Env.put])|(refine CS.exit ?_;try dsimp only[Ex.then,Ex.inBlock,↓reduceIte,Nat.reduceEqDiff];try simp only[↓reduceIte])|(refine resK.nil ?_;dsimp only[resV]))
          exact ⟨by omega, by (repeat first | exact trivial | refine And.intro rfl ?_), Drops.drop (by omega) (by simp (disch := omega) only [Hp.get_ne]; exact hf _ (by omega)) (Drops.keepc rfl rfl (fun q hq => by simp only [bys]; rw [rowsTo_all (fun q h1 h2 => tsr_out hS.mm (by omega) (by omega) h1 h2) hq]) (Drops.refl _ _)), trivial⟩
    · have : l = a := by omega
      subst this
      (repeat first|refine zA ?_|(refine CS.tailL _ (List.Mem.head _) ?_;dsimp only[List.take,List.drop])|refine zC ?_|((first|refine zB ?_|(refine LS.nilO ?_;intro nq hnq hltq)|(refine MS.new ?_;intro bq hbq hbqf)|(refine MS.nil ?_;intro nq hnq hltq;have hlq:=hltq _ _ (Hp.get_eq _ _ _);clear hltq)|(refine LS.nilQ ?_;try with_reducible intro nq hnq));try dsimp only[Ex.then,Ex.inBlock,putD,Env.put])|(refine CS.exit ?_;try dsimp only[Ex.then,Ex.inBlock,↓reduceIte,Nat.reduceEqDiff];try simp only[↓reduceIte])|(refine resK.nil ?_;dsimp only[resV]))
      exact ⟨by omega, by (repeat first | exact trivial | refine And.intro rfl ?_), by rw [tsr_next]; exact Drops.refl _ _, trivial⟩
  · have : j = a := by omega
    subst this
    (repeat first|refine zA ?_|(refine CS.tailL _ (List.Mem.head _) ?_;dsimp only[List.take,List.drop])|refine zC ?_|((first|refine zB ?_|(refine LS.nilO ?_;intro nq hnq hltq)|(refine MS.new ?_;intro bq hbq hbqf)|(refine MS.nil ?_;intro nq hnq hltq;have hlq:=hltq _ _ (Hp.get_eq _ _ _);clear hltq)|(refine LS.nilQ ?_;try with_reducible intro nq hnq));try dsimp only[Ex.then,Ex.inBlock,putD,Env.put])|(refine CS.exit ?_;try dsimp only[Ex.then,Ex.inBlock,↓reduceIte,Nat.reduceEqDiff];try simp only[↓reduceIte])|(refine resK.nil ?_;dsimp only[resV]))
    exact ⟨.arr 64 (bys (ten h.p h.m f g)), H, conc_arr (fun q hq => by simp only [Nat.zero_add, bys]; rw [tsr_end hS.mm ha hq]), by exact zD, rfl, rfl⟩

end Go.Proofs.Ytnkmpelakhhoiaa

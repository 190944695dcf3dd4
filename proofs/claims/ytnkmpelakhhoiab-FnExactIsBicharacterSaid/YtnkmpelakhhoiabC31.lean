/- The sums of bicharacters, on both sides. -/
import Derived.Test.YtnkmpelakhhoiabC27
namespace Go.V
def bm (p : Int) (c S : Nat → Int) (k i j t : Nat) : Int := c (64 * k + t) * S (8 * i + t / 8) % p * S (8 * j + t % 8)
def bn (p : Int) (c S : Nat → Int) (i j k t : Nat) : Int := c (64 * i + t) * S (8 * (t / 8) + j) % p * S (8 * (t % 8) + k)
theorem bm_at (p : Int) (c S : Nat → Int) (k i j a b : Nat) (hb : b < 8) : bm p c S k i j (8 * a + b) = c (64 * k + (8 * a + b)) * S (8 * i + a) % p * S (8 * j + b) := by
  unfold bm; rw [show (8 * a + b) / 8 = a by omega, show (8 * a + b) % 8 = b by omega]
theorem bn_at (p : Int) (c S : Nat → Int) (i j k a b : Nat) (hb : b < 8) : bn p c S i j k (8 * a + b) = c (64 * i + (8 * a + b)) * S (8 * a + j) % p * S (8 * b + k) := by
  unfold bn; rw [show (8 * a + b) / 8 = a by omega, show (8 * a + b) % 8 = b by omega]
theorem bm_z {p : Int} {c S : Nat → Int} {k i j t : Nat} (h : c (64 * k + t) = 0) : bm p c S k i j t = 0 := by unfold bm; rw [h, Int.zero_mul]; simp
theorem bn_z {p : Int} {c S : Nat → Int} {i j k t : Nat} (h : c (64 * i + t) = 0) : bn p c S i j k t = 0 := by unfold bn; rw [h, Int.zero_mul]; simp
theorem bm_b {p : Int} {c S : Nat → Int} (hp : 2 ≤ p ∧ p ≤ 31) (hS : isBy 64 S) {k i j t : Nat} (hj : j < 8) : 0 ≤ bm p c S k i j t ∧ bm p c S k i j t ≤ 8000 := by
  unfold bm
  have h1 := modB (c (64 * k + t) * S (8 * i + t / 8)) hp.1
  have h2 := hS (8 * j + t % 8) (by omega)
  have := mulB h1.1 (show _ ≤ 31 by omega) h2.1 h2.2
  omega
theorem bn_b {p : Int} {c S : Nat → Int} (hp : 2 ≤ p ∧ p ≤ 31) (hS : isBy 64 S) {i j k t : Nat} (ht : t < 64) (hk : k < 8) : 0 ≤ bn p c S i j k t ∧ bn p c S i j k t ≤ 8000 := by
  unfold bn
  have h1 := modB (c (64 * i + t) * S (8 * (t / 8) + j)) hp.1
  have h2 := hS (8 * (t % 8) + k) (by omega)
  have := mulB h1.1 (show _ ≤ 31 by omega) h2.1 h2.2
  omega
theorem sm_skip {f : Nat → Int} {t : Nat} (h : f t = 0) : sm f (t + 1) = sm f t := by rw [sm, h, Int.add_zero]
/-- A bicharacter's equations for three basis elements. -/
def bic1 (p : Int) (m c S : Nat → Int) (i j k : Nat) : Prop := bil p S (fun x => m (64 * i + 8 * j + x)) (bas k) = sm (bm p c S k i j) 64 % p
def bic2 (p : Int) (m c S : Nat → Int) (i j k : Nat) : Prop := bil p S (bas i) (fun x => m (64 * j + 8 * k + x)) = sm (bn p c S i j k) 64 % p
def bich (p : Int) (m c S : Nat → Int) (a : Nat) : Prop := ∀ i j k : Nat, i < a → j < a → k < a → bic1 p m c S i j k ∧ bic2 p m c S i j k
end Go.V
namespace Go.Proofs.Ytnkmpelakhhoiab
open Go.V
set_option linter.unusedSimpArgs false
set_option linter.unusedVariables false
set_option maxHeartbeats 4000000

theorem Hopf_multiplies_1 (p : Int) (n' v x : Int) (S : Nat → Int) (a' b' i j : Nat) (ha : a' < 8) (hb' : b' < 8) (hi : i < 8) (hj : j < 8) (bo bS bi bf bj bs os : Nat) (KS Ki Kj Ks : Blk) (ty : TypeId) (H : Hp) (n : Nat)
    (hp : 2 ≤ p ∧ p ≤ 31) (hv : 0 ≤ v ∧ v ≤ 100000000) (hx : 0 ≤ x ∧ x ≤ 255) (hS : isBy 64 S)
    (go : H.get bo = some ⟨1, fun _ => .int .i64 v, ty⟩) (gS : H.get bS = some KS) (sS : KS.size = 1) (cS : KS.c 0 = .ptr bs os) (gi : H.get bi = some Ki) (si : Ki.size = 1) (ci : Ki.c 0 = .int .i64 i)
    (gf : H.get bf = some ⟨2, fldC p n', 60⟩) (gj : H.get bj = some Kj) (sj : Kj.size = 1) (cj : Kj.c 0 = .int .i64 j)
    (gs : H.get bs = some Ks) (ss : os + 64 ≤ Ks.size) (cs : ∀ q, q < 64 → Ks.c (os + q) = .int .u8 (S q)) :
    FnS Try.prog 60 [i64 a', i64 b', i64 x, ptr bo 0, ptr bS 0, ptr bi 0, ptr bf 0, ptr bj 0] H n (fun _ H' _ => H' = H.set bo (fun _ => .int .i64 (v + x * S (8 * i + a') % p * S (8 * j + b')))) := by
  have h1 := hS (8 * i + a') (by omega)
  have h2 := mulB hx.1 hx.2 h1.1 h1.2
  have h3 := modB (x * S (8 * i + a')) hp.1
  have h4 := hS (8 * j + b') (by omega)
  have h5 := mulB h3.1 (show _ ≤ 31 by omega) h4.1 h4.2
  refine FnS.of_body Try.func60 tr60 (by simp) (fun hf => ?_)
  dsimp only [argEnv]
  unfold ir60
  have hbn := getlt hf go
  (repeat first|refine zA ?_|(refine CS.tailL _ (List.Mem.head _) ?_;dsimp only[List.take,List.drop])|refine zC ?_|((first|refine zB ?_|(refine LS.nilO ?_;intro nq hnq hltq)|(refine MS.new ?_;intro bq hbq hbqf)|(refine MS.nil ?_;intro nq hnq hltq;have hlq:=hltq _ _ (Hp.get_eq _ _ _);clear hltq)|(refine LS.nilQ ?_;try with_reducible intro nq hnq));try dsimp only[Ex.then,Ex.inBlock,putD,Env.put])|(refine CS.exit ?_;try dsimp only[Ex.then,Ex.inBlock,↓reduceIte,Nat.reduceEqDiff];try simp only[↓reduceIte])|(refine resK.nil ?_;dsimp only[resV]))
  exact ⟨_, H.set bo (fun _ => .int .i64 (v + x * S (8 * i + a') % p * S (8 * j + b'))), rfl, Drops.setc go (fun q hq => by
    have hq1 : q < 1 := hq
    obtain rfl : q = 0 := by omega
    rfl), rfl⟩

theorem impl_IsBicharacter_1 (p : Int) (n' v x : Int) (S : Nat → Int) (a' b' j k : Nat) (ha : a' < 8) (hb' : b' < 8) (hj : j < 8) (hk : k < 8) (bo bj bf bk bs os : Nat) (Kj Kk Ks : Blk) (ty : TypeId) (H : Hp) (n : Nat)
    (hp : 2 ≤ p ∧ p ≤ 31) (hv : 0 ≤ v ∧ v ≤ 100000000) (hx : 0 ≤ x ∧ x ≤ 255) (hS : isBy 64 S)
    (go : H.get bo = some ⟨1, fun _ => .int .i64 v, ty⟩) (gj : H.get bj = some Kj) (sj : Kj.size = 1) (cj : Kj.c 0 = .int .i64 j)
    (gf : H.get bf = some ⟨2, fldC p n', 60⟩) (gk : H.get bk = some Kk) (sk : Kk.size = 1) (ck : Kk.c 0 = .int .i64 k)
    (gs : H.get bs = some Ks) (ss : os + 64 ≤ Ks.size) (cs : ∀ q, q < 64 → Ks.c (os + q) = .int .u8 (S q)) :
    FnS Try.prog 37 [i64 a', i64 b', i64 x, ptr bo 0, ptr bs os, ptr bj 0, ptr bf 0, ptr bk 0] H n (fun _ H' _ => H' = H.set bo (fun _ => .int .i64 (v + x * S (8 * a' + j) % p * S (8 * b' + k)))) := by
  have h1 := hS (8 * a' + j) (by omega)
  have h2 := mulB hx.1 hx.2 h1.1 h1.2
  have h3 := modB (x * S (8 * a' + j)) hp.1
  have h4 := hS (8 * b' + k) (by omega)
  have h5 := mulB h3.1 (show _ ≤ 31 by omega) h4.1 h4.2
  refine FnS.of_body Try.func37 tr37 (by simp) (fun hf => ?_)
  dsimp only [argEnv]
  unfold ir37
  have hbn := getlt hf go
  (repeat first|refine zA ?_|(refine CS.tailL _ (List.Mem.head _) ?_;dsimp only[List.take,List.drop])|refine zC ?_|((first|refine zB ?_|(refine LS.nilO ?_;intro nq hnq hltq)|(refine MS.new ?_;intro bq hbq hbqf)|(refine MS.nil ?_;intro nq hnq hltq;have hlq:=hltq _ _ (Hp.get_eq _ _ _);clear hltq)|(refine LS.nilQ ?_;try with_reducible intro nq hnq));try dsimp only[Ex.then,Ex.inBlock,putD,Env.put])|(refine CS.exit ?_;try dsimp only[Ex.then,Ex.inBlock,↓reduceIte,Nat.reduceEqDiff];try simp only[↓reduceIte])|(refine resK.nil ?_;dsimp only[resV]))
  exact ⟨_, H.set bo (fun _ => .int .i64 (v + x * S (8 * a' + j) % p * S (8 * b' + k))), rfl, Drops.setc go (fun q hq => by
    have hq1 : q < 1 := hq
    obtain rfl : q = 0 := by omega
    rfl), rfl⟩

theorem Hopf_multiplies (h : HT) (a : Nat) (S : Nat → Int) (i j k : Nat) (hi : i < 8) (hj : j < 8) (hk : k < 8) (b bs os : Nat) (K Ks : Blk) (H : Hp) (n : Nat) (hS : HS h a) (hb : H.get b = some K) (hsz : K.size = 1106) (hK : h.At K.c) (hB : h.By) (hSb : isBy 64 S)
    (gs : H.get bs = some Ks) (ss : os + 64 ≤ Ks.size) (cs : ∀ q, q < 64 → Ks.c (os + q) = .int .u8 (S q)) :
    FnS Try.prog 38 [ptr b 0, ptr bs os, i64 i, i64 j, i64 k] H n (fun r H' _ => r = bl (tb (bic1 h.p h.m h.c S i j k)) ∧ H' = H) := by
  have hp := hS.hp
  have ha := hS.ha
  have hk1 := hK.n
  rw [hS.hn] at hk1
  have hk5 := hK.m
  have hk6 := hK.c
  refine FnS.of_body Try.func38 tr38 (by simp) (fun hf => ?_)
  dsimp only [argEnv]
  unfold ir38
  have e0 := getlt hf hb
  have e1 := getlt hf gs
  (repeat first|refine zA ?_|(refine CS.tailL _ (List.Mem.head _) ?_;dsimp only[List.take,List.drop])|refine zC ?_|((first|refine zB ?_|(refine LS.nilO ?_;intro nq hnq hltq)|(refine MS.new ?_;intro bq hbq hbqf)|(refine MS.nil ?_;intro nq hnq hltq;have hlq:=hltq _ _ (Hp.get_eq _ _ _);clear hltq)|(refine LS.nilQ ?_;try with_reducible intro nq hnq));try dsimp only[Ex.then,Ex.inBlock,putD,Env.put])|(refine CS.exit ?_;try dsimp only[Ex.then,Ex.inBlock,↓reduceIte,Nat.reduceEqDiff];try simp only[↓reduceIte])|(refine resK.nil ?_;dsimp only[resV]))
  refine RS.call rfl ((Hopf_field h.p a b K _ _ (by exact zH) hsz hK.p hk1 (by omega)).mono ?_)
  rintro r H' n2 hn2 ⟨rfl, rfl⟩
  (repeat first|refine zA ?_|(refine CS.tailL _ (List.Mem.head _) ?_;dsimp only[List.take,List.drop])|refine zC ?_|((first|refine zB ?_|(refine LS.nilO ?_;intro nq hnq hltq)|(refine MS.new ?_;intro bq hbq hbqf)|(refine MS.nil ?_;intro nq hnq hltq;have hlq:=hltq _ _ (Hp.get_eq _ _ _);clear hltq)|(refine LS.nilQ ?_;try with_reducible intro nq hnq));try dsimp only[Ex.then,Ex.inBlock,putD,Env.put])|(refine CS.exit ?_;try dsimp only[Ex.then,Ex.inBlock,↓reduceIte,Nat.reduceEqDiff];try simp only[↓reduceIte])|(refine resK.nil ?_;dsimp only[resV]))
  refine LS.hpd (H1 := (n2 + 1, ⟨1, fun _ => .int .i64 (sm (bm h.p h.c S k i j) 0), 3⟩) :: (n2, ⟨2, fldC h.p a, 60⟩) :: (n + 2, ⟨1, fun _ => .int .i64 j, 3⟩) :: (n + 1, ⟨1, fun _ => .int .i64 i, 3⟩) :: (n, ⟨1, fun _ => .ptr bs os, 53⟩) :: H)
    (Drops.keepc rfl rfl (fun q hq => by
      have hq1 : q < 1 := hq
      obtain rfl : q = 0 := by omega
      rfl) (Drops.keepc rfl rfl (fun _ _ => rfl) (Drops.refl _ _))) ?_
  refine RS.call rfl ((impl_pairs (fun q => h.c (64 * k + q)) b (530 + 64 * k) _ _ (fun t => (n2 + 1, ⟨1, fun _ => .int .i64 (sm (bm h.p h.c S k i j) t), 3⟩) :: (n2, ⟨2, fldC h.p a, 60⟩) :: (n + 2, ⟨1, fun _ => .int .i64 j, 3⟩) :: (n + 1, ⟨1, fun _ => .int .i64 i, 3⟩) :: (n, ⟨1, fun _ => .ptr bs os, 53⟩) :: H) _ _ rfl
    (fun s hs => ⟨K, by exact zH, by omega, fun q hq => by rw [Nat.add_assoc]; exact hk6 _ (by omega)⟩) (hB.rowc hk) (fun s hs hz => by (try dsimp only); rw [sm_skip (bm_z hz)]) (fun t a' b' n' ht ht' hb' hz hn' => ?_)).mono ?_)
  · have hx := hB.c (64 * k + t) (by omega)
    have hv := sm_b (f := bm h.p h.c S k i j) (B := 8000) (n := t) (fun q hq => bm_b hp hSb hj)
    refine (Hopf_multiplies_1 h.p a (sm (bm h.p h.c S k i j) t) (h.c (64 * k + t)) S a' b' i j (by omega) hb' hi hj (n2 + 1) n (n + 1) n2 (n + 2) bs os _ _ _ Ks 3 _ n' hp (by omega) hx hSb (by exact zH) (by exact zH) rfl rfl (by exact zH) rfl rfl (by exact zH) (by exact zH) rfl rfl (by exact zH) ss cs).mono ?_
    rintro r H3 n5 hn5 rfl
    simp (disch := omega) only [Hp.set_eq, Hp.set_ne]
    rw [sm, ht', bm_at _ _ _ _ _ _ _ _ hb']
  rintro r H' n5 hn5 rfl
  have hv := sm_b (f := bm h.p h.c S k i j) (B := 8000) (n := 64) (fun q hq => bm_b hp hSb hj)
  (repeat first|refine zA ?_|(refine CS.tailL _ (List.Mem.head _) ?_;dsimp only[List.take,List.drop])|refine zC ?_|((first|refine zB ?_|(refine LS.nilO ?_;intro nq hnq hltq)|(refine MS.new ?_;intro bq hbq hbqf)|(refine MS.nil ?_;intro nq hnq hltq;have hlq:=hltq _ _ (Hp.get_eq _ _ _);clear hltq)|(refine LS.nilQ ?_;try with_reducible intro nq hnq));try dsimp only[Ex.then,Ex.inBlock,putD,Env.put])|(refine CS.exit ?_;try dsimp only[Ex.then,Ex.inBlock,↓reduceIte,Nat.reduceEqDiff];try simp only[↓reduceIte])|(refine resK.nil ?_;dsimp only[resV]))
  refine CS.quietLo ?_
  (repeat first|refine zA ?_|(refine CS.tailL _ (List.Mem.head _) ?_;dsimp only[List.take,List.drop])|refine zC ?_|((first|refine zB ?_|(refine LS.nilO ?_;intro nq hnq hltq)|(refine MS.new ?_;intro bq hbq hbqf)|(refine MS.nil ?_;intro nq hnq hltq;have hlq:=hltq _ _ (Hp.get_eq _ _ _);clear hltq)|(refine LS.nilQ ?_;try with_reducible intro nq hnq));try dsimp only[Ex.then,Ex.inBlock,putD,Env.put])|(refine CS.exit ?_;try dsimp only[Ex.then,Ex.inBlock,↓reduceIte,Nat.reduceEqDiff];try simp only[↓reduceIte])|(refine resK.nil ?_;dsimp only[resV]))
  refine LS.callQ (.arr 8 (bys (bas k))) rfl (fun n' hn' => impl_basis k _ _ (by omega)) ?_
  obtain ⟨x1, hx1⟩ : ∃ x, x = bil h.p S (fun x => h.m (64 * i + 8 * j + x)) (bas k) := ⟨_, rfl⟩
  obtain ⟨x2, hx2⟩ : ∃ x, x = sm (bm h.p h.c S k i j) 64 := ⟨_, rfl⟩
  rw [← hx2] at hv ⊢
  (repeat first|refine zA ?_|(refine CS.tailL _ (List.Mem.head _) ?_;dsimp only[List.take,List.drop])|refine zC ?_|((first|refine zB ?_|(refine LS.nilO ?_;intro nq hnq hltq)|(refine MS.new ?_;intro bq hbq hbqf)|(refine MS.nil ?_;intro nq hnq hltq;have hlq:=hltq _ _ (Hp.get_eq _ _ _);clear hltq)|(refine LS.nilQ ?_;try with_reducible intro nq hnq));try dsimp only[Ex.then,Ex.inBlock,putD,Env.put])|(refine CS.exit ?_;try dsimp only[Ex.then,Ex.inBlock,↓reduceIte,Nat.reduceEqDiff];try simp only[↓reduceIte])|(refine resK.nil ?_;dsimp only[resV]))
  refine LS.callQ (i64 x1) rfl (fun n' hn' => by rw [hx1]; exact field_paired h.p a S (fun x => h.m (64 * i + 8 * j + x)) (bas k) bs os Ks _ _ hp (by exact zH) ss cs hSb (hB.rowm hi hj) (bas_by _ _)) ?_
  (repeat first|refine zA ?_|(refine CS.tailL _ (List.Mem.head _) ?_;dsimp only[List.take,List.drop])|refine zC ?_|((first|refine zB ?_|(refine LS.nilO ?_;intro nq hnq hltq)|(refine MS.new ?_;intro bq hbq hbqf)|(refine MS.nil ?_;intro nq hnq hltq;have hlq:=hltq _ _ (Hp.get_eq _ _ _);clear hltq)|(refine LS.nilQ ?_;try with_reducible intro nq hnq));try dsimp only[Ex.then,Ex.inBlock,putD,Env.put])|(refine CS.exit ?_;try dsimp only[Ex.then,Ex.inBlock,↓reduceIte,Nat.reduceEqDiff];try simp only[↓reduceIte])|(refine resK.nil ?_;dsimp only[resV]))
  exact ⟨_, H, rfl, by exact zD, by unfold bic1; rw [← hx1, ← hx2, tb_dec]; rfl, rfl⟩

end Go.Proofs.Ytnkmpelakhhoiab

/- Two-cocycles, on both sides. -/
import Derived.Test.YtnkmpelakhhoiabC27
namespace Go.V
/-- The terms of a product of second parts. -/
def lgf (p : Int) (m c S : Nat → Int) (i j y t s : Nat) : Int := c (64 * i + t) * c (64 * j + s) % p * S (8 * (t / 8) + s / 8) * m (64 * (t % 8) + 8 * (s % 8) + y)
/-- Their sum. -/
def lg (p : Int) (m c S : Nat → Int) (i j t s : Nat) : Nat → Int := fun y => csum p (lgf p m c S i j y) t s
def leg (p : Int) (m c S : Nat → Int) (i j : Nat) : Nat → Int := lg p m c S i j 64 0
theorem lg_zero (p : Int) (m c S : Nat → Int) (i j : Nat) : lg p m c S i j 0 0 = fun _ => 0 := by funext y; exact csum_zero _ _
theorem lg_res {p : Int} (hp : 2 ≤ p) (m c S : Nat → Int) (i j t s N : Nat) : isRes p N (lg p m c S i j t s) := fun _ _ => modB _ hp
theorem lg_next (p : Int) (m c S : Nat → Int) (i j t : Nat) : lg p m c S i j t 64 = lg p m c S i j (t + 1) 0 := by funext y; exact csum_next _ _ _
theorem lgf_zt {p : Int} {m c S : Nat → Int} {i j y t s : Nat} (h : c (64 * i + t) = 0) : lgf p m c S i j y t s = 0 := by unfold lgf; rw [h, Int.zero_mul]; simp
theorem lgf_zs {p : Int} {m c S : Nat → Int} {i j y t s : Nat} (h : c (64 * j + s) = 0) : lgf p m c S i j y t s = 0 := by unfold lgf; rw [h, Int.mul_zero]; simp
theorem lg_moreS {p : Int} {m c S : Nat → Int} {i j t s s' : Nat} (h : s ≤ s') (hz : ∀ u, s ≤ u → u < s' → c (64 * j + u) = 0) : lg p m c S i j t s' = lg p m c S i j t s := by
  funext y; exact csum_moreS h fun u h1 h2 => lgf_zs (hz u h1 h2)
theorem lg_moreT {p : Int} {m c S : Nat → Int} {i j t t' : Nat} (h : t ≤ t') (hz : ∀ u, t ≤ u → u < t' → c (64 * i + u) = 0) : lg p m c S i j t' 0 = lg p m c S i j t 0 := by
  funext y; exact csum_moreT h fun u h1 h2 v hv => lgf_zt (hz u h1 h2)
theorem lg_step (p : Int) (m c S : Nat → Int) (i j a b e d : Nat) (hb : b < 8) (hd : d < 8) :
    pl p (lg p m c S i j (8 * a + b) (8 * e + d)) (c (64 * i + (8 * a + b)) * c (64 * j + (8 * e + d)) % p * S (8 * a + e)) (fun y => m (64 * b + 8 * d + y)) = lg p m c S i j (8 * a + b) (8 * e + d + 1) := by
  funext y
  unfold pl lg
  rw [← csum_step]
  congr 2
  unfold lgf
  rw [show (8 * a + b) / 8 = a by omega, show (8 * a + b) % 8 = b by omega, show (8 * e + d) / 8 = e by omega, show (8 * e + d) % 8 = d by omega]
theorem pl_modK (p : Int) (v : Nat → Int) (k : Int) (w : Nat → Int) : pl p v (k % p) w = pl p v k w := by
  funext x; unfold pl
  rw [Int.add_emod, Int.mul_emod, Int.emod_emod_of_dvd _ (Int.dvd_refl p), ← Int.mul_emod, ← Int.add_emod]
theorem lg_stepM (p : Int) (m c S : Nat → Int) (i j a b e d : Nat) (hb : b < 8) (hd : d < 8) :
    pl p (lg p m c S i j (8 * a + b) (8 * e + d)) (c (64 * i + 8 * a + b) * c (64 * j + 8 * e + d) % p * S (8 * a + e) % p) (fun y => m (64 * b + 8 * d + y)) = lg p m c S i j (8 * a + b) (8 * e + (d + 1)) := by
  rw [pl_modK, Nat.add_assoc (64 * i), Nat.add_assoc (64 * j), lg_step p m c S i j a b e d hb hd]; rfl
theorem lg_sameM {p : Int} (hp : 2 ≤ p) {m c S : Nat → Int} {i j a b e d : Nat} (hb : b < 8) (hd : d < 8) (h : c (64 * i + 8 * a + b) * c (64 * j + 8 * e + d) % p * S (8 * a + e) % p = 0) :
    lg p m c S i j (8 * a + b) (8 * e + (d + 1)) = lg p m c S i j (8 * a + b) (8 * e + d) := by
  rw [← lg_stepM p m c S i j a b e d hb hd, h]
  funext y
  exact pl_zero (N := y + 1) _ (lg_res hp _ _ _ _ _ _ _ _) (by omega)
/-- The two-cocycle's equations. -/
def cocyc (p : Int) (m c S : Nat → Int) (a : Nat) : Prop := ∀ i j k : Nat, i < a → j < a → k < a → bil p S (leg p m c S i j) (bas k) = bil p S (bas i) (leg p m c S j k)
/-- All products of second parts, row by row. -/
def legs (p : Int) (m c S : Nat → Int) : Nat → Int := fun q => leg p m c S (q / 64) (q / 8 % 8) (q % 8)
theorem legs_at (p : Int) (m c S : Nat → Int) (i j y : Nat) (hj : j < 8) (hy : y < 8) : legs p m c S (64 * i + 8 * j + y) = leg p m c S i j y := by
  unfold legs; rw [show (64 * i + 8 * j + y) / 64 = i by omega, show (64 * i + 8 * j + y) / 8 % 8 = j by omega, show (64 * i + 8 * j + y) % 8 = y by omega]
theorem leg_zero {p : Int} {m c S : Nat → Int} {a i j : Nat} (hc : tz a c) (hi : i < 8) (hj : j < 8) (h : a ≤ j) : leg p m c S i j = fun _ => 0 := by
  unfold leg
  rw [← lg_zero p m c S i j]
  have : ∀ t, t ≤ 64 → lg p m c S i j t 0 = lg p m c S i j 0 0 := by
    intro t
    induction t with
    | zero => intro _; rfl
    | succ t ih => intro ht; rw [← lg_next, lg_moreS (s := 0) (by omega) (fun u h1 h2 => hc.at hj h2 (.inl h)), ih (by omega)]
  exact this 64 (by omega)
end Go.V
namespace Go.Proofs.Ytnkmpelakhhoiab
open Go.V
set_option linter.unusedSimpArgs false
set_option linter.unusedVariables false
set_option maxHeartbeats 4000000

theorem Hopf_legProduct_1 (h : HT) (a : Nat) (x : Int) (S v : Nat → Int) (a' b' c' d' : Nat) (ha' : a' < 8) (hb' : b' < 8) (hc' : c' < 8) (hd : d' < 8) (b bf bo bS bh bs os : Nat) (K KS Kh Ks : Blk) (H : Hp) (n : Nat)
    (hS : HS h a) (hb : H.get b = some K) (hsz : K.size = 1106) (hK : h.At K.c) (hB : h.By) (hx : 0 ≤ x ∧ x ≤ 31) (hSb : isBy 64 S) (hv : isRes h.p 8 v)
    (gf : H.get bf = some ⟨2, fldC h.p a, 60⟩) (go : H.get bo = some ⟨8, bys v, 27⟩) (gS : H.get bS = some KS) (sS : KS.size = 1) (cS : KS.c 0 = .ptr bs os) (gh : H.get bh = some Kh) (sh : Kh.size = 1) (ch : Kh.c 0 = .ptr b 0)
    (gs : H.get bs = some Ks) (ss : os + 64 ≤ Ks.size) (cs : ∀ q, q < 64 → Ks.c (os + q) = .int .u8 (S q)) :
    FnS Try.prog 80 [i64 a', i64 b', i64 c', i64 d', i64 x, ptr bf 0, ptr bo 0, ptr bS 0, ptr bh 0] H n (fun _ H' _ => H' = H.set bo (bys (pl h.p v (x * S (8 * a' + c')) (fun y => h.m (64 * b' + 8 * d' + y))))) := by
  have h1 := hSb (8 * a' + c') (by omega)
  have h2 := mulB hx.1 hx.2 h1.1 h1.2
  have hk5 := hK.m
  refine FnS.of_body Try.func80 tr80 (by simp) (fun hf => ?_)
  dsimp only [argEnv]
  unfold ir80
  have hbn := getlt hf go
  (repeat first|refine zA ?_|(refine CS.tailL _ (List.Mem.head _) ?_;dsimp only[List.take,List.drop])|refine zC ?_|((first|refine zB ?_|(refine LS.nilO ?_;intro nq hnq hltq)|(refine MS.new ?_;intro bq hbq hbqf)|(refine MS.nil ?_;intro nq hnq hltq;have hlq:=hltq _ _ (Hp.get_eq _ _ _);clear hltq)|(refine LS.nilQ ?_;try with_reducible intro nq hnq));try dsimp only[Ex.then,Ex.inBlock,putD,Env.put])|(refine CS.exit ?_;try dsimp only[Ex.then,Ex.inBlock,↓reduceIte,Nat.reduceEqDiff];try simp only[↓reduceIte])|(refine resK.nil ?_;dsimp only[resV]))
  refine RS.call rfl ((field_plus h.p a (x * S (8 * a' + c')) v (fun y => h.m (64 * b' + 8 * d' + y)) bo 0 _ _ _ hS.hp (by exact zH) (by simp) (fun _ _ => by rw [Nat.zero_add]; rfl) hv (hB.rowm hb' hd) (by omega)).mono ?_)
  rintro r H' n5 hn5 ⟨rfl, rfl⟩
  (repeat first|refine zA ?_|(refine CS.tailL _ (List.Mem.head _) ?_;dsimp only[List.take,List.drop])|refine zC ?_|((first|refine zB ?_|(refine LS.nilO ?_;intro nq hnq hltq)|(refine MS.new ?_;intro bq hbq hbqf)|(refine MS.nil ?_;intro nq hnq hltq;have hlq:=hltq _ _ (Hp.get_eq _ _ _);clear hltq)|(refine LS.nilQ ?_;try with_reducible intro nq hnq));try dsimp only[Ex.then,Ex.inBlock,putD,Env.put])|(refine CS.exit ?_;try dsimp only[Ex.then,Ex.inBlock,↓reduceIte,Nat.reduceEqDiff];try simp only[↓reduceIte])|(refine resK.nil ?_;dsimp only[resV]))
  exact ⟨_, H.set bo (bys (pl h.p v (x * S (8 * a' + c')) (fun y => h.m (64 * b' + 8 * d' + y)))), rfl, Drops.setc go (fun q hq => splice_all _ _ 8 q hq), rfl⟩

theorem Hopf_legProduct (h : HT) (a : Nat) (S : Nat → Int) (i j : Nat) (hi : i < 8) (hj : j < 8) (b bs os : Nat) (K Ks : Blk) (H : Hp) (n : Nat) (hS : HS h a) (hb : H.get b = some K) (hsz : K.size = 1106) (hK : h.At K.c) (hB : h.By) (hSb : isBy 64 S)
    (gs : H.get bs = some Ks) (ss : os + 64 ≤ Ks.size) (cs : ∀ q, q < 64 → Ks.c (os + q) = .int .u8 (S q)) :
    FnS Try.prog 64 [ptr b 0, ptr bs os, i64 i, i64 j] H n (fun r H' _ => r = .arr 8 (bys (leg h.p h.m h.c S i j)) ∧ H' = H) := by
  have hp := hS.hp
  have hk1 := hK.n
  rw [hS.hn] at hk1
  have ha := hS.ha
  refine FnS.of_body Try.func64 tr64 (by simp) (fun hf => ?_)
  dsimp only [argEnv]
  unfold ir64
  have e0 := getlt hf hb
  have e1 := getlt hf gs
  (repeat first|refine zA ?_|(refine CS.tailL _ (List.Mem.head _) ?_;dsimp only[List.take,List.drop])|refine zC ?_|((first|refine zB ?_|(refine LS.nilO ?_;intro nq hnq hltq)|(refine MS.new ?_;intro bq hbq hbqf)|(refine MS.nil ?_;intro nq hnq hltq;have hlq:=hltq _ _ (Hp.get_eq _ _ _);clear hltq)|(refine LS.nilQ ?_;try with_reducible intro nq hnq));try dsimp only[Ex.then,Ex.inBlock,putD,Env.put])|(refine CS.exit ?_;try dsimp only[Ex.then,Ex.inBlock,↓reduceIte,Nat.reduceEqDiff];try simp only[↓reduceIte])|(refine resK.nil ?_;dsimp only[resV]))
  refine RS.call rfl ((Hopf_field h.p a b K _ _ (by exact zH) hsz hK.p hk1 (by omega)).mono ?_)
  rintro r H' n2 hn2 ⟨rfl, rfl⟩
  (repeat first|refine zA ?_|(refine CS.tailL _ (List.Mem.head _) ?_;dsimp only[List.take,List.drop])|refine zC ?_|((first|refine zB ?_|(refine LS.nilO ?_;intro nq hnq hltq)|(refine MS.new ?_;intro bq hbq hbqf)|(refine MS.nil ?_;intro nq hnq hltq;have hlq:=hltq _ _ (Hp.get_eq _ _ _);clear hltq)|(refine LS.nilQ ?_;try with_reducible intro nq hnq));try dsimp only[Ex.then,Ex.inBlock,putD,Env.put])|(refine CS.exit ?_;try dsimp only[Ex.then,Ex.inBlock,↓reduceIte,Nat.reduceEqDiff];try simp only[↓reduceIte])|(refine resK.nil ?_;dsimp only[resV]))
  refine LS.hpd (H1 := (n2 + 1, ⟨8, bys (lg h.p h.m h.c S i j 0 0), 27⟩) :: (n2, ⟨2, fldC h.p a, 60⟩) :: (n + 2, ⟨8, fun _ => .int .u8 0, 27⟩) :: (n + 1, ⟨1, fun _ => .ptr bs os, 53⟩) :: (n, ⟨1, fun _ => .ptr b 0, 52⟩) :: H)
    (Drops.keepc rfl rfl (fun q hq => by rw [lg_zero]; rfl) (Drops.keepc rfl rfl (fun _ _ => rfl) (Drops.keepc rfl rfl (fun _ _ => rfl) (Drops.refl _ _)))) ?_
  refine RS.call rfl ((Hopf_split h i j hi hj _ _ (n2 + 1) 8 27 (fun t s => bys (lg h.p h.m h.c S i j t s)) b K _ _ hp (by exact zH) hsz hK hB (by exact zH) (by omega)
    (fun t ht => by rw [lg_next]) (fun t ht hz => by rw [lg_moreT (t := t) (t' := t + 1) (by omega) (fun u h1 h2 => by (obtain rfl : u = t := by omega); exact hz)])
    (fun t s ht hs hz => by rw [lg_moreS (s := s) (s' := s + 1) (by omega) (fun u h1 h2 => by (obtain rfl : u = s := by omega); exact hz)])
    (fun t s a' b' c' d' H2 n' ht hs ht' hb' hs' hd' hO hg hn' => ?_)).mono ?_)
  · have hx := modB (h.c (64 * i + t) * h.c (64 * j + s)) hp.1
    refine (Hopf_legProduct_1 h a (h.c (64 * i + t) * h.c (64 * j + s) % h.p) S (lg h.p h.m h.c S i j t s) a' b' c' d' (by omega) hb' (by omega) hd' b n2 (n2 + 1) (n + 1) n bs os K _ _ Ks H2 n' hS (hO _ _ (by omega) (by exact zH)) hsz hK hB (by omega) hSb (lg_res hp.1 _ _ _ _ _ _ _ _)
      (hO _ _ (by omega) (by exact zH)) hg (hO _ _ (by omega) (by exact zH)) rfl rfl (hO _ _ (by omega) (by exact zH)) rfl rfl (hO _ _ (by omega) (by exact zH)) ss cs).mono ?_
    rintro r H3 n5 hn5 rfl
    rw [ht', hs', lg_step _ _ _ _ _ _ _ _ _ _ hb' hd']
  rintro r H' n5 hn5 rfl
  simp (disch := omega) only [Hp.set_eq, Hp.set_ne]
  (repeat first|refine zA ?_|(refine CS.tailL _ (List.Mem.head _) ?_;dsimp only[List.take,List.drop])|refine zC ?_|((first|refine zB ?_|(refine LS.nilO ?_;intro nq hnq hltq)|(refine MS.new ?_;intro bq hbq hbqf)|(refine MS.nil ?_;intro nq hnq hltq;have hlq:=hltq _ _ (Hp.get_eq _ _ _);clear hltq)|(refine LS.nilQ ?_;try with_reducible intro nq hnq));try dsimp only[Ex.then,Ex.inBlock,putD,Env.put])|(refine CS.exit ?_;try dsimp only[Ex.then,Ex.inBlock,↓reduceIte,Nat.reduceEqDiff];try simp only[↓reduceIte])|(refine resK.nil ?_;dsimp only[resV]))
  exact ⟨.arr 8 (bys (leg h.p h.m h.c S i j)), _, conc_arr (fun q hq => by simp only [leg, Nat.zero_add]), by exact zD, rfl, rfl⟩

theorem spec_l10Product (h : HT) (a : Nat) (S : Nat → Int) (i j : Nat) (hi : i < 8) (hj : j < 8) (K : Nat → SV) (H : Hp) (n : Nat) (hS : HS h a) (hK : h.At K) (hB : h.By) (hSb : isBy 64 S) :
    FnS Try.prog 63 [.arr 1106 K, .arr 64 (bys S), i64 i, i64 j] H n (fun r H' _ => r = .arr 8 (bys (leg h.p h.m h.c S i j)) ∧ H' = H) := by
  have hp := hS.hp
  have ha := hS.ha
  have hk0 := hK.p
  have hk1 := hK.n
  rw [hS.hn] at hk1
  have hk5 := hK.c
  have hk6 := hK.m
  refine FnS.of_body Try.func63 tr63 (by simp) (fun hf => ?_)
  dsimp only [argEnv]
  unfold ir63
  (repeat first|refine zA ?_|(refine CS.tailL _ (List.Mem.head _) ?_;dsimp only[List.take,List.drop])|refine zC ?_|((first|refine zB ?_|(refine LS.nilO ?_;intro nq hnq hltq)|(refine MS.new ?_;intro bq hbq hbqf)|(refine MS.nil ?_;intro nq hnq hltq;have hlq:=hltq _ _ (Hp.get_eq _ _ _);clear hltq)|(refine LS.nilQ ?_;try with_reducible intro nq hnq));try dsimp only[Ex.then,Ex.inBlock,putD,Env.put])|(refine CS.exit ?_;try dsimp only[Ex.then,Ex.inBlock,↓reduceIte,Nat.reduceEqDiff];try simp only[↓reduceIte])|(refine resK.nil ?_;dsimp only[resV]))
  revert bq
  intro b1 hb1 hb1f hl1
  refine CS.iter a (fun A => [(11, i64 A), (2, i64 i), (3, i64 j), (4, ptr n 0), (5, ptr (n + 1) 0), (8, ptr (n + 2) 0), (9, ptr b1 0), (10, i64 a)])
    (fun A => (b1, ⟨8, bys (lg h.p h.m h.c S i j (8 * A) 0), 27⟩) :: (n + 2, ⟨8, bys (fun _ => 0), 27⟩) :: (n + 1, ⟨64, bys S, 29⟩) :: (n, ⟨1106, K, 35⟩) :: H) (fun _ => True) (by (repeat first | exact trivial | refine And.intro rfl ?_))
    (Drops.keepc rfl rfl (fun _ _ => by rw [show lg h.p h.m h.c S i j (8 * 0) 0 = fun _ => 0 from lg_zero _ _ _ _ _ _]; rfl) (Drops.keepc rfl rfl (fun _ _ => rfl) (Drops.refl _ _))) trivial ?_
  intro A n3 hA hn _
  (repeat first|refine zA ?_|(refine CS.tailL _ (List.Mem.head _) ?_;dsimp only[List.take,List.drop])|refine zC ?_|((first|refine zB ?_|(refine LS.nilO ?_;intro nq hnq hltq)|(refine MS.new ?_;intro bq hbq hbqf)|(refine MS.nil ?_;intro nq hnq hltq;have hlq:=hltq _ _ (Hp.get_eq _ _ _);clear hltq)|(refine LS.nilQ ?_;try with_reducible intro nq hnq));try dsimp only[Ex.then,Ex.inBlock,putD,Env.put])|(refine CS.exit ?_;try dsimp only[Ex.then,Ex.inBlock,↓reduceIte,Nat.reduceEqDiff];try simp only[↓reduceIte])|(refine resK.nil ?_;dsimp only[resV]))
  refine zI ?_ ?_<;>intro h2
  · (repeat first|refine zA ?_|(refine CS.tailL _ (List.Mem.head _) ?_;dsimp only[List.take,List.drop])|refine zC ?_|((first|refine zB ?_|(refine LS.nilO ?_;intro nq hnq hltq)|(refine MS.new ?_;intro bq hbq hbqf)|(refine MS.nil ?_;intro nq hnq hltq;have hlq:=hltq _ _ (Hp.get_eq _ _ _);clear hltq)|(refine LS.nilQ ?_;try with_reducible intro nq hnq));try dsimp only[Ex.then,Ex.inBlock,putD,Env.put])|(refine CS.exit ?_;try dsimp only[Ex.then,Ex.inBlock,↓reduceIte,Nat.reduceEqDiff];try simp only[↓reduceIte])|(refine resK.nil ?_;dsimp only[resV]))
    refine CS.iter a (fun B => [(12, i64 B), (11, i64 A), (2, i64 i), (3, i64 j), (4, ptr n 0), (5, ptr (n + 1) 0), (8, ptr (n + 2) 0), (9, ptr b1 0), (10, i64 a)])
      (fun B => (b1, ⟨8, bys (lg h.p h.m h.c S i j (8 * A + B) 0), 27⟩) :: (n + 2, ⟨8, bys (fun _ => 0), 27⟩) :: (n + 1, ⟨64, bys S, 29⟩) :: (n, ⟨1106, K, 35⟩) :: H) (fun _ => True) (by (repeat first | exact trivial | refine And.intro rfl ?_))
      (Drops.refl _ _) trivial ?_
    intro B n4 hBB hn4 _
    (repeat first|refine zA ?_|(refine CS.tailL _ (List.Mem.head _) ?_;dsimp only[List.take,List.drop])|refine zC ?_|((first|refine zB ?_|(refine LS.nilO ?_;intro nq hnq hltq)|(refine MS.new ?_;intro bq hbq hbqf)|(refine MS.nil ?_;intro nq hnq hltq;have hlq:=hltq _ _ (Hp.get_eq _ _ _);clear hltq)|(refine LS.nilQ ?_;try with_reducible intro nq hnq));try dsimp only[Ex.then,Ex.inBlock,putD,Env.put])|(refine CS.exit ?_;try dsimp only[Ex.then,Ex.inBlock,↓reduceIte,Nat.reduceEqDiff];try simp only[↓reduceIte])|(refine resK.nil ?_;dsimp only[resV]))
    refine zI ?_ ?_<;>intro h3
    · have hct := hB.c (64 * i + 8 * A + B) (by omega)
      (repeat first|refine zA ?_|(refine CS.tailL _ (List.Mem.head _) ?_;dsimp only[List.take,List.drop])|refine zC ?_|((first|refine zB ?_|(refine LS.nilO ?_;intro nq hnq hltq)|(refine MS.new ?_;intro bq hbq hbqf)|(refine MS.nil ?_;intro nq hnq hltq;have hlq:=hltq _ _ (Hp.get_eq _ _ _);clear hltq)|(refine LS.nilQ ?_;try with_reducible intro nq hnq));try dsimp only[Ex.then,Ex.inBlock,putD,Env.put])|(refine CS.exit ?_;try dsimp only[Ex.then,Ex.inBlock,↓reduceIte,Nat.reduceEqDiff];try simp only[↓reduceIte])|(refine resK.nil ?_;dsimp only[resV]))
      refine zI ?_ ?_<;>intro h4
      · (repeat first|refine zA ?_|(refine CS.tailL _ (List.Mem.head _) ?_;dsimp only[List.take,List.drop])|refine zC ?_|((first|refine zB ?_|(refine LS.nilO ?_;intro nq hnq hltq)|(refine MS.new ?_;intro bq hbq hbqf)|(refine MS.nil ?_;intro nq hnq hltq;have hlq:=hltq _ _ (Hp.get_eq _ _ _);clear hltq)|(refine LS.nilQ ?_;try with_reducible intro nq hnq));try dsimp only[Ex.then,Ex.inBlock,putD,Env.put])|(refine CS.exit ?_;try dsimp only[Ex.then,Ex.inBlock,↓reduceIte,Nat.reduceEqDiff];try simp only[↓reduceIte])|(refine resK.nil ?_;dsimp only[resV]))
        exact ⟨by omega, by (repeat first | exact trivial | refine And.intro rfl ?_), Drops.keepc rfl rfl (fun q hq => by rw [lg_moreT (t := 8 * A + B) (t' := 8 * A + (B + 1)) (by omega) (fun u u1 u2 => by (obtain rfl : u = 8 * A + B := by omega); rw [← Nat.add_assoc]; exact h4)]) (Drops.refl _ _), trivial⟩
      · (repeat first|refine zA ?_|(refine CS.tailL _ (List.Mem.head _) ?_;dsimp only[List.take,List.drop])|refine zC ?_|((first|refine zB ?_|(refine LS.nilO ?_;intro nq hnq hltq)|(refine MS.new ?_;intro bq hbq hbqf)|(refine MS.nil ?_;intro nq hnq hltq;have hlq:=hltq _ _ (Hp.get_eq _ _ _);clear hltq)|(refine LS.nilQ ?_;try with_reducible intro nq hnq));try dsimp only[Ex.then,Ex.inBlock,putD,Env.put])|(refine CS.exit ?_;try dsimp only[Ex.then,Ex.inBlock,↓reduceIte,Nat.reduceEqDiff];try simp only[↓reduceIte])|(refine resK.nil ?_;dsimp only[resV]))
        refine CS.iter a (fun C => [(13, i64 C), (12, i64 B), (11, i64 A), (2, i64 i), (3, i64 j), (4, ptr n 0), (5, ptr (n + 1) 0), (8, ptr (n + 2) 0), (9, ptr b1 0), (10, i64 a)])
          (fun C => (b1, ⟨8, bys (lg h.p h.m h.c S i j (8 * A + B) (8 * C)), 27⟩) :: (n + 2, ⟨8, bys (fun _ => 0), 27⟩) :: (n + 1, ⟨64, bys S, 29⟩) :: (n, ⟨1106, K, 35⟩) :: H) (fun _ => True) (by (repeat first | exact trivial | refine And.intro rfl ?_))
          (Drops.refl _ _) trivial ?_
        intro C n5 hC hn5 _
        (repeat first|refine zA ?_|(refine CS.tailL _ (List.Mem.head _) ?_;dsimp only[List.take,List.drop])|refine zC ?_|((first|refine zB ?_|(refine LS.nilO ?_;intro nq hnq hltq)|(refine MS.new ?_;intro bq hbq hbqf)|(refine MS.nil ?_;intro nq hnq hltq;have hlq:=hltq _ _ (Hp.get_eq _ _ _);clear hltq)|(refine LS.nilQ ?_;try with_reducible intro nq hnq));try dsimp only[Ex.then,Ex.inBlock,putD,Env.put])|(refine CS.exit ?_;try dsimp only[Ex.then,Ex.inBlock,↓reduceIte,Nat.reduceEqDiff];try simp only[↓reduceIte])|(refine resK.nil ?_;dsimp only[resV]))
        refine zI ?_ ?_<;>intro h5
        · (repeat first|refine zA ?_|(refine CS.tailL _ (List.Mem.head _) ?_;dsimp only[List.take,List.drop])|refine zC ?_|((first|refine zB ?_|(refine LS.nilO ?_;intro nq hnq hltq)|(refine MS.new ?_;intro bq hbq hbqf)|(refine MS.nil ?_;intro nq hnq hltq;have hlq:=hltq _ _ (Hp.get_eq _ _ _);clear hltq)|(refine LS.nilQ ?_;try with_reducible intro nq hnq));try dsimp only[Ex.then,Ex.inBlock,putD,Env.put])|(refine CS.exit ?_;try dsimp only[Ex.then,Ex.inBlock,↓reduceIte,Nat.reduceEqDiff];try simp only[↓reduceIte])|(refine resK.nil ?_;dsimp only[resV]))
          refine CS.iter a (fun D => [(14, i64 D), (13, i64 C), (12, i64 B), (11, i64 A), (2, i64 i), (3, i64 j), (4, ptr n 0), (5, ptr (n + 1) 0), (8, ptr (n + 2) 0), (9, ptr b1 0), (10, i64 a)])
            (fun D => (b1, ⟨8, bys (lg h.p h.m h.c S i j (8 * A + B) (8 * C + D)), 27⟩) :: (n + 2, ⟨8, bys (fun _ => 0), 27⟩) :: (n + 1, ⟨64, bys S, 29⟩) :: (n, ⟨1106, K, 35⟩) :: H) (fun _ => True) (by (repeat first | exact trivial | refine And.intro rfl ?_))
            (Drops.refl _ _) trivial ?_
          intro D n6 hD hn6 _
          (repeat first|refine zA ?_|(refine CS.tailL _ (List.Mem.head _) ?_;dsimp only[List.take,List.drop])|refine zC ?_|((first|refine zB ?_|(refine LS.nilO ?_;intro nq hnq hltq)|(refine MS.new ?_;intro bq hbq hbqf)|(refine MS.nil ?_;intro nq hnq hltq;have hlq:=hltq _ _ (Hp.get_eq _ _ _);clear hltq)|(refine LS.nilQ ?_;try with_reducible intro nq hnq));try dsimp only[Ex.then,Ex.inBlock,putD,Env.put])|(refine CS.exit ?_;try dsimp only[Ex.then,Ex.inBlock,↓reduceIte,Nat.reduceEqDiff];try simp only[↓reduceIte])|(refine resK.nil ?_;dsimp only[resV]))
          refine zI ?_ ?_<;>intro h6
          · have q1 := hB.c (64 * j + 8 * C + D) (by omega)
            have q2 := mulB hct.1 hct.2 q1.1 q1.2
            have q3 := modB (h.c (64 * i + 8 * A + B) * h.c (64 * j + 8 * C + D)) hp.1
            have q4 := hSb (8 * A + C) (by omega)
            have q5 := mulB q3.1 (show _ ≤ 31 by omega) q4.1 q4.2
            have q6 := modB (h.c (64 * i + 8 * A + B) * h.c (64 * j + 8 * C + D) % h.p * S (8 * A + C)) hp.1
            (repeat first|refine zA ?_|(refine CS.tailL _ (List.Mem.head _) ?_;dsimp only[List.take,List.drop])|refine zC ?_|((first|refine zB ?_|(refine LS.nilO ?_;intro nq hnq hltq)|(refine MS.new ?_;intro bq hbq hbqf)|(refine MS.nil ?_;intro nq hnq hltq;have hlq:=hltq _ _ (Hp.get_eq _ _ _);clear hltq)|(refine LS.nilQ ?_;try with_reducible intro nq hnq));try dsimp only[Ex.then,Ex.inBlock,putD,Env.put])|(refine CS.exit ?_;try dsimp only[Ex.then,Ex.inBlock,↓reduceIte,Nat.reduceEqDiff];try simp only[↓reduceIte])|(refine resK.nil ?_;dsimp only[resV]))
            refine zI ?_ ?_<;>intro h7
            · (repeat first|refine zA ?_|(refine CS.tailL _ (List.Mem.head _) ?_;dsimp only[List.take,List.drop])|refine zC ?_|((first|refine zB ?_|(refine LS.nilO ?_;intro nq hnq hltq)|(refine MS.new ?_;intro bq hbq hbqf)|(refine MS.nil ?_;intro nq hnq hltq;have hlq:=hltq _ _ (Hp.get_eq _ _ _);clear hltq)|(refine LS.nilQ ?_;try with_reducible intro nq hnq));try dsimp only[Ex.then,Ex.inBlock,putD,Env.put])|(refine CS.exit ?_;try dsimp only[Ex.then,Ex.inBlock,↓reduceIte,Nat.reduceEqDiff];try simp only[↓reduceIte])|(refine resK.nil ?_;dsimp only[resV]))
              refine RS.call rfl ((spec_l01Add h.p (h.c (64 * i + 8 * A + B) * h.c (64 * j + 8 * C + D) % h.p * S (8 * A + C) % h.p) (lg h.p h.m h.c S i j (8 * A + B) (8 * C + D)) (fun y => h.m (64 * B + 8 * D + y)) _ _ hp ((lg_res hp.1 _ _ _ _ _ _ _ 8).by hp.2) (hB.rowm (by omega) (by omega)) (by omega)).mono ?_)
              rintro r H' n7 hn7 ⟨rfl, rfl⟩
              (repeat first|refine zA ?_|(refine CS.tailL _ (List.Mem.head _) ?_;dsimp only[List.take,List.drop])|refine zC ?_|((first|refine zB ?_|(refine LS.nilO ?_;intro nq hnq hltq)|(refine MS.new ?_;intro bq hbq hbqf)|(refine MS.nil ?_;intro nq hnq hltq;have hlq:=hltq _ _ (Hp.get_eq _ _ _);clear hltq)|(refine LS.nilQ ?_;try with_reducible intro nq hnq));try dsimp only[Ex.then,Ex.inBlock,putD,Env.put])|(refine CS.exit ?_;try dsimp only[Ex.then,Ex.inBlock,↓reduceIte,Nat.reduceEqDiff];try simp only[↓reduceIte])|(refine resK.nil ?_;dsimp only[resV]))
              exact ⟨by omega, by (repeat first | exact trivial | refine And.intro rfl ?_), Drops.keepc rfl rfl (fun q hq => by rw [lg_stepM _ _ _ _ _ _ _ _ _ _ (by omega) (by omega)]) (Drops.refl _ _), trivial⟩
            · (repeat first|refine zA ?_|(refine CS.tailL _ (List.Mem.head _) ?_;dsimp only[List.take,List.drop])|refine zC ?_|((first|refine zB ?_|(refine LS.nilO ?_;intro nq hnq hltq)|(refine MS.new ?_;intro bq hbq hbqf)|(refine MS.nil ?_;intro nq hnq hltq;have hlq:=hltq _ _ (Hp.get_eq _ _ _);clear hltq)|(refine LS.nilQ ?_;try with_reducible intro nq hnq));try dsimp only[Ex.then,Ex.inBlock,putD,Env.put])|(refine CS.exit ?_;try dsimp only[Ex.then,Ex.inBlock,↓reduceIte,Nat.reduceEqDiff];try simp only[↓reduceIte])|(refine resK.nil ?_;dsimp only[resV]))
              exact ⟨by omega, by (repeat first | exact trivial | refine And.intro rfl ?_), Drops.keepc rfl rfl (fun q hq => by rw [lg_sameM hp.1 (by omega) (by omega) h7]) (Drops.refl _ _), trivial⟩
          · have : D = a := by omega
            subst this
            (repeat first|refine zA ?_|(refine CS.tailL _ (List.Mem.head _) ?_;dsimp only[List.take,List.drop])|refine zC ?_|((first|refine zB ?_|(refine LS.nilO ?_;intro nq hnq hltq)|(refine MS.new ?_;intro bq hbq hbqf)|(refine MS.nil ?_;intro nq hnq hltq;have hlq:=hltq _ _ (Hp.get_eq _ _ _);clear hltq)|(refine LS.nilQ ?_;try with_reducible intro nq hnq));try dsimp only[Ex.then,Ex.inBlock,putD,Env.put])|(refine CS.exit ?_;try dsimp only[Ex.then,Ex.inBlock,↓reduceIte,Nat.reduceEqDiff];try simp only[↓reduceIte])|(refine resK.nil ?_;dsimp only[resV]))
            exact ⟨by omega, by (repeat first | exact trivial | refine And.intro rfl ?_), Drops.keepc rfl rfl (fun q hq => by rw [lg_moreS (s := 8 * C + D) (s' := 8 * (C + 1)) (by omega) (fun u u1 u2 => hS.cm.gap (by omega) (by omega) u1 u2)]) (Drops.refl _ _), trivial⟩
        · have : C = a := by omega
          subst this
          (repeat first|refine zA ?_|(refine CS.tailL _ (List.Mem.head _) ?_;dsimp only[List.take,List.drop])|refine zC ?_|((first|refine zB ?_|(refine LS.nilO ?_;intro nq hnq hltq)|(refine MS.new ?_;intro bq hbq hbqf)|(refine MS.nil ?_;intro nq hnq hltq;have hlq:=hltq _ _ (Hp.get_eq _ _ _);clear hltq)|(refine LS.nilQ ?_;try with_reducible intro nq hnq));try dsimp only[Ex.then,Ex.inBlock,putD,Env.put])|(refine CS.exit ?_;try dsimp only[Ex.then,Ex.inBlock,↓reduceIte,Nat.reduceEqDiff];try simp only[↓reduceIte])|(refine resK.nil ?_;dsimp only[resV]))
          exact ⟨by omega, by (repeat first | exact trivial | refine And.intro rfl ?_), Drops.keepc rfl rfl (fun q hq => by
            rw [show 8 * A + (B + 1) = 8 * A + B + 1 from rfl, ← lg_next, lg_moreS (s := 8 * C) (s' := 64) (by omega) (fun u u1 u2 => hS.cm.at (by omega) u2 (.inr u1))]) (Drops.refl _ _), trivial⟩
    · have : B = a := by omega
      subst this
      (repeat first|refine zA ?_|(refine CS.tailL _ (List.Mem.head _) ?_;dsimp only[List.take,List.drop])|refine zC ?_|((first|refine zB ?_|(refine LS.nilO ?_;intro nq hnq hltq)|(refine MS.new ?_;intro bq hbq hbqf)|(refine MS.nil ?_;intro nq hnq hltq;have hlq:=hltq _ _ (Hp.get_eq _ _ _);clear hltq)|(refine LS.nilQ ?_;try with_reducible intro nq hnq));try dsimp only[Ex.then,Ex.inBlock,putD,Env.put])|(refine CS.exit ?_;try dsimp only[Ex.then,Ex.inBlock,↓reduceIte,Nat.reduceEqDiff];try simp only[↓reduceIte])|(refine resK.nil ?_;dsimp only[resV]))
      exact ⟨by omega, by (repeat first | exact trivial | refine And.intro rfl ?_), Drops.keepc rfl rfl (fun q hq => by rw [lg_moreT (t := 8 * A + B) (t' := 8 * (A + 1)) (by omega) (fun u u1 u2 => hS.cm.gap (by omega) (by omega) u1 u2)]) (Drops.refl _ _), trivial⟩
  · have : A = a := by omega
    subst this
    (repeat first|refine zA ?_|(refine CS.tailL _ (List.Mem.head _) ?_;dsimp only[List.take,List.drop])|refine zC ?_|((first|refine zB ?_|(refine LS.nilO ?_;intro nq hnq hltq)|(refine MS.new ?_;intro bq hbq hbqf)|(refine MS.nil ?_;intro nq hnq hltq;have hlq:=hltq _ _ (Hp.get_eq _ _ _);clear hltq)|(refine LS.nilQ ?_;try with_reducible intro nq hnq));try dsimp only[Ex.then,Ex.inBlock,putD,Env.put])|(refine CS.exit ?_;try dsimp only[Ex.then,Ex.inBlock,↓reduceIte,Nat.reduceEqDiff];try simp only[↓reduceIte])|(refine resK.nil ?_;dsimp only[resV]))
    exact ⟨.arr 8 (bys (leg h.p h.m h.c S i j)), H, conc_arr (fun q hq => by
      simp only [Nat.zero_add]
      rw [leg, lg_moreT (t := 8 * A) (t' := 64) (by omega) (fun u u1 u2 => hS.cm.at (by omega) u2 (.inr u1))]), by exact zD, rfl, rfl⟩

theorem Hopf_isCocycle (h : HT) (a : Nat) (S : Nat → Int) (b bs os : Nat) (K Ks : Blk) (H : Hp) (n : Nat) (hS : HS h a) (hb : H.get b = some K) (hsz : K.size = 1106) (hK : h.At K.c) (hB : h.By) (hSb : isBy 64 S)
    (gs : H.get bs = some Ks) (ss : os + 64 ≤ Ks.size) (cs : ∀ q, q < 64 → Ks.c (os + q) = .int .u8 (S q)) :
    FnS Try.prog 43 [ptr b 0, ptr bs os] H n (fun r H' _ => r = bl (tb (normed h a S ∧ cocyc h.p h.m h.c S a)) ∧ H' = H) := by
  have hp := hS.hp
  have ha := hS.ha
  have hk1 := hK.n
  rw [hS.hn] at hk1
  refine FnS.of_body Try.func43 tr43 (by simp) (fun hf => ?_)
  dsimp only [argEnv]
  unfold ir43
  have e0 := getlt hf hb
  have e1 := getlt hf gs
  (repeat first|refine zA ?_|(refine CS.tailL _ (List.Mem.head _) ?_;dsimp only[List.take,List.drop])|refine zC ?_|((first|refine zB ?_|(refine LS.nilO ?_;intro nq hnq hltq)|(refine MS.new ?_;intro bq hbq hbqf)|(refine MS.nil ?_;intro nq hnq hltq;have hlq:=hltq _ _ (Hp.get_eq _ _ _);clear hltq)|(refine LS.nilQ ?_;try with_reducible intro nq hnq));try dsimp only[Ex.then,Ex.inBlock,putD,Env.put])|(refine CS.exit ?_;try dsimp only[Ex.then,Ex.inBlock,↓reduceIte,Nat.reduceEqDiff];try simp only[↓reduceIte])|(refine resK.nil ?_;dsimp only[resV]))
  refine RS.call rfl ((Hopf_field h.p a b K _ _ (by exact zH) hsz hK.p hk1 (by omega)).mono ?_)
  rintro r H n2 hn2 ⟨rfl, rfl⟩
  (repeat first|refine zA ?_|(refine CS.tailL _ (List.Mem.head _) ?_;dsimp only[List.take,List.drop])|refine zC ?_|((first|refine zB ?_|(refine LS.nilO ?_;intro nq hnq hltq)|(refine MS.new ?_;intro bq hbq hbqf)|(refine MS.nil ?_;intro nq hnq hltq;have hlq:=hltq _ _ (Hp.get_eq _ _ _);clear hltq)|(refine LS.nilQ ?_;try with_reducible intro nq hnq));try dsimp only[Ex.then,Ex.inBlock,putD,Env.put])|(refine CS.exit ?_;try dsimp only[Ex.then,Ex.inBlock,↓reduceIte,Nat.reduceEqDiff];try simp only[↓reduceIte])|(refine resK.nil ?_;dsimp only[resV]))
  refine RS.call rfl ((Hopf_isNormed h a S b bs os K Ks _ _ hS (by exact zH) hsz hK hB (by exact zH) ss cs hSb).mono ?_)
  rintro r H4 n3 hn3 ⟨rfl, rfl⟩
  (repeat first|refine zA ?_|(refine CS.tailL _ (List.Mem.head _) ?_;dsimp only[List.take,List.drop])|refine zC ?_|((first|refine zB ?_|(refine LS.nilO ?_;intro nq hnq hltq)|(refine MS.new ?_;intro bq hbq hbqf)|(refine MS.nil ?_;intro nq hnq hltq;have hlq:=hltq _ _ (Hp.get_eq _ _ _);clear hltq)|(refine LS.nilQ ?_;try with_reducible intro nq hnq));try dsimp only[Ex.then,Ex.inBlock,putD,Env.put])|(refine CS.exit ?_;try dsimp only[Ex.then,Ex.inBlock,↓reduceIte,Nat.reduceEqDiff];try simp only[↓reduceIte])|(refine resK.nil ?_;dsimp only[resV]))
  refine zI ?_ ?_<;>intro h1
  · (repeat first|refine zA ?_|(refine CS.tailL _ (List.Mem.head _) ?_;dsimp only[List.take,List.drop])|refine zC ?_|((first|refine zB ?_|(refine LS.nilO ?_;intro nq hnq hltq)|(refine MS.new ?_;intro bq hbq hbqf)|(refine MS.nil ?_;intro nq hnq hltq;have hlq:=hltq _ _ (Hp.get_eq _ _ _);clear hltq)|(refine LS.nilQ ?_;try with_reducible intro nq hnq));try dsimp only[Ex.then,Ex.inBlock,putD,Env.put])|(refine CS.exit ?_;try dsimp only[Ex.then,Ex.inBlock,↓reduceIte,Nat.reduceEqDiff];try simp only[↓reduceIte])|(refine resK.nil ?_;dsimp only[resV]))
    exact ⟨_, H, rfl, by exact zD, by rw [tb_false (fun q => h1 q.1)], rfl⟩
  (repeat first|refine zA ?_|(refine CS.tailL _ (List.Mem.head _) ?_;dsimp only[List.take,List.drop])|refine zC ?_|((first|refine zB ?_|(refine LS.nilO ?_;intro nq hnq hltq)|(refine MS.new ?_;intro bq hbq hbqf)|(refine MS.nil ?_;intro nq hnq hltq;have hlq:=hltq _ _ (Hp.get_eq _ _ _);clear hltq)|(refine LS.nilQ ?_;try with_reducible intro nq hnq));try dsimp only[Ex.then,Ex.inBlock,putD,Env.put])|(refine CS.exit ?_;try dsimp only[Ex.then,Ex.inBlock,↓reduceIte,Nat.reduceEqDiff];try simp only[↓reduceIte])|(refine resK.nil ?_;dsimp only[resV]))
  refine CS.iter a (fun i => [(18, i64 i), (17, i64 a), (5, ptr n2 0), (0, ptr b 0), (1, ptr bs os)]) (fun _ => (n2, ⟨2, fldC h.p a, 60⟩) :: H)
    (fun i => Bx (∀ i' j k : Nat, i' < i → j < a → k < a → bil h.p S (leg h.p h.m h.c S i' j) (bas k) = bil h.p S (bas i') (leg h.p h.m h.c S j k))) (by (repeat first | exact trivial | refine And.intro rfl ?_)) (by exact zD) ⟨fun _ _ _ h => by omega⟩ ?_
  intro i n4 hi hn4 hJ
  (repeat first|refine zA ?_|(refine CS.tailL _ (List.Mem.head _) ?_;dsimp only[List.take,List.drop])|refine zC ?_|((first|refine zB ?_|(refine LS.nilO ?_;intro nq hnq hltq)|(refine MS.new ?_;intro bq hbq hbqf)|(refine MS.nil ?_;intro nq hnq hltq;have hlq:=hltq _ _ (Hp.get_eq _ _ _);clear hltq)|(refine LS.nilQ ?_;try with_reducible intro nq hnq));try dsimp only[Ex.then,Ex.inBlock,putD,Env.put])|(refine CS.exit ?_;try dsimp only[Ex.then,Ex.inBlock,↓reduceIte,Nat.reduceEqDiff];try simp only[↓reduceIte])|(refine resK.nil ?_;dsimp only[resV]))
  refine zI ?_ ?_<;>intro h2
  · (repeat first|refine zA ?_|(refine CS.tailL _ (List.Mem.head _) ?_;dsimp only[List.take,List.drop])|refine zC ?_|((first|refine zB ?_|(refine LS.nilO ?_;intro nq hnq hltq)|(refine MS.new ?_;intro bq hbq hbqf)|(refine MS.nil ?_;intro nq hnq hltq;have hlq:=hltq _ _ (Hp.get_eq _ _ _);clear hltq)|(refine LS.nilQ ?_;try with_reducible intro nq hnq));try dsimp only[Ex.then,Ex.inBlock,putD,Env.put])|(refine CS.exit ?_;try dsimp only[Ex.then,Ex.inBlock,↓reduceIte,Nat.reduceEqDiff];try simp only[↓reduceIte])|(refine resK.nil ?_;dsimp only[resV]))
    refine CS.iter a (fun j => [(23, i64 j), (22, i64 a), (6, i64 i), (18, i64 i), (17, i64 a), (5, ptr n2 0), (0, ptr b 0), (1, ptr bs os)]) (fun _ => (n2, ⟨2, fldC h.p a, 60⟩) :: H)
      (fun j => Bx (∀ j' k : Nat, j' < j → k < a → bil h.p S (leg h.p h.m h.c S i j') (bas k) = bil h.p S (bas i) (leg h.p h.m h.c S j' k))) (by (repeat first | exact trivial | refine And.intro rfl ?_)) (by exact zD) ⟨fun _ _ h => by omega⟩ ?_
    intro j n5 hj hn5 hJ2
    (repeat first|refine zA ?_|(refine CS.tailL _ (List.Mem.head _) ?_;dsimp only[List.take,List.drop])|refine zC ?_|((first|refine zB ?_|(refine LS.nilO ?_;intro nq hnq hltq)|(refine MS.new ?_;intro bq hbq hbqf)|(refine MS.nil ?_;intro nq hnq hltq;have hlq:=hltq _ _ (Hp.get_eq _ _ _);clear hltq)|(refine LS.nilQ ?_;try with_reducible intro nq hnq));try dsimp only[Ex.then,Ex.inBlock,putD,Env.put])|(refine CS.exit ?_;try dsimp only[Ex.then,Ex.inBlock,↓reduceIte,Nat.reduceEqDiff];try simp only[↓reduceIte])|(refine resK.nil ?_;dsimp only[resV]))
    refine zI ?_ ?_<;>intro h3
    · (repeat first|refine zA ?_|(refine CS.tailL _ (List.Mem.head _) ?_;dsimp only[List.take,List.drop])|refine zC ?_|((first|refine zB ?_|(refine LS.nilO ?_;intro nq hnq hltq)|(refine MS.new ?_;intro bq hbq hbqf)|(refine MS.nil ?_;intro nq hnq hltq;have hlq:=hltq _ _ (Hp.get_eq _ _ _);clear hltq)|(refine LS.nilQ ?_;try with_reducible intro nq hnq));try dsimp only[Ex.then,Ex.inBlock,putD,Env.put])|(refine CS.exit ?_;try dsimp only[Ex.then,Ex.inBlock,↓reduceIte,Nat.reduceEqDiff];try simp only[↓reduceIte])|(refine resK.nil ?_;dsimp only[resV]))
      refine CS.iter a (fun k => [(28, i64 k), (27, i64 a), (7, i64 j), (23, i64 j), (22, i64 a), (6, i64 i), (18, i64 i), (17, i64 a), (5, ptr n2 0), (0, ptr b 0), (1, ptr bs os)]) (fun _ => (n2, ⟨2, fldC h.p a, 60⟩) :: H)
        (fun k => Bx (∀ k' : Nat, k' < k → bil h.p S (leg h.p h.m h.c S i j) (bas k') = bil h.p S (bas i) (leg h.p h.m h.c S j k'))) (by (repeat first | exact trivial | refine And.intro rfl ?_)) (by exact zD) ⟨fun _ h => by omega⟩ ?_
      intro k n6 hk hn6 hJ3
      (repeat first|refine zA ?_|(refine CS.tailL _ (List.Mem.head _) ?_;dsimp only[List.take,List.drop])|refine zC ?_|((first|refine zB ?_|(refine LS.nilO ?_;intro nq hnq hltq)|(refine MS.new ?_;intro bq hbq hbqf)|(refine MS.nil ?_;intro nq hnq hltq;have hlq:=hltq _ _ (Hp.get_eq _ _ _);clear hltq)|(refine LS.nilQ ?_;try with_reducible intro nq hnq));try dsimp only[Ex.then,Ex.inBlock,putD,Env.put])|(refine CS.exit ?_;try dsimp only[Ex.then,Ex.inBlock,↓reduceIte,Nat.reduceEqDiff];try simp only[↓reduceIte])|(refine resK.nil ?_;dsimp only[resV]))
      refine zI ?_ ?_<;>intro h4
      · (repeat first|refine zA ?_|(refine CS.tailL _ (List.Mem.head _) ?_;dsimp only[List.take,List.drop])|refine zC ?_|((first|refine zB ?_|(refine LS.nilO ?_;intro nq hnq hltq)|(refine MS.new ?_;intro bq hbq hbqf)|(refine MS.nil ?_;intro nq hnq hltq;have hlq:=hltq _ _ (Hp.get_eq _ _ _);clear hltq)|(refine LS.nilQ ?_;try with_reducible intro nq hnq));try dsimp only[Ex.then,Ex.inBlock,putD,Env.put])|(refine CS.exit ?_;try dsimp only[Ex.then,Ex.inBlock,↓reduceIte,Nat.reduceEqDiff];try simp only[↓reduceIte])|(refine resK.nil ?_;dsimp only[resV]))
        refine CS.quietLo ?_
        (repeat first|refine zA ?_|(refine CS.tailL _ (List.Mem.head _) ?_;dsimp only[List.take,List.drop])|refine zC ?_|((first|refine zB ?_|(refine LS.nilO ?_;intro nq hnq hltq)|(refine MS.new ?_;intro bq hbq hbqf)|(refine MS.nil ?_;intro nq hnq hltq;have hlq:=hltq _ _ (Hp.get_eq _ _ _);clear hltq)|(refine LS.nilQ ?_;try with_reducible intro nq hnq));try dsimp only[Ex.then,Ex.inBlock,putD,Env.put])|(refine CS.exit ?_;try dsimp only[Ex.then,Ex.inBlock,↓reduceIte,Nat.reduceEqDiff];try simp only[↓reduceIte])|(refine resK.nil ?_;dsimp only[resV]))
        refine LS.callQ (.arr 8 (bys (leg h.p h.m h.c S i j))) rfl (fun n' hn' => Hopf_legProduct h a S i j (by omega) (by omega) b bs os K Ks _ _ hS (by exact zH) hsz hK hB hSb (by exact zH) ss cs) ?_
        (repeat first|refine zA ?_|(refine CS.tailL _ (List.Mem.head _) ?_;dsimp only[List.take,List.drop])|refine zC ?_|((first|refine zB ?_|(refine LS.nilO ?_;intro nq hnq hltq)|(refine MS.new ?_;intro bq hbq hbqf)|(refine MS.nil ?_;intro nq hnq hltq;have hlq:=hltq _ _ (Hp.get_eq _ _ _);clear hltq)|(refine LS.nilQ ?_;try with_reducible intro nq hnq));try dsimp only[Ex.then,Ex.inBlock,putD,Env.put])|(refine CS.exit ?_;try dsimp only[Ex.then,Ex.inBlock,↓reduceIte,Nat.reduceEqDiff];try simp only[↓reduceIte])|(refine resK.nil ?_;dsimp only[resV]))
        refine LS.callQ (.arr 8 (bys (bas k))) rfl (fun n' hn' => impl_basis k _ _ (by omega)) ?_
        (repeat first|refine zA ?_|(refine CS.tailL _ (List.Mem.head _) ?_;dsimp only[List.take,List.drop])|refine zC ?_|((first|refine zB ?_|(refine LS.nilO ?_;intro nq hnq hltq)|(refine MS.new ?_;intro bq hbq hbqf)|(refine MS.nil ?_;intro nq hnq hltq;have hlq:=hltq _ _ (Hp.get_eq _ _ _);clear hltq)|(refine LS.nilQ ?_;try with_reducible intro nq hnq));try dsimp only[Ex.then,Ex.inBlock,putD,Env.put])|(refine CS.exit ?_;try dsimp only[Ex.then,Ex.inBlock,↓reduceIte,Nat.reduceEqDiff];try simp only[↓reduceIte])|(refine resK.nil ?_;dsimp only[resV]))
        obtain ⟨x1, hx1⟩ : ∃ x, x = bil h.p S (leg h.p h.m h.c S i j) (bas k) := ⟨_, rfl⟩
        obtain ⟨x2, hx2⟩ : ∃ x, x = bil h.p S (bas i) (leg h.p h.m h.c S j k) := ⟨_, rfl⟩
        refine LS.callQ (i64 x1) rfl (fun n' hn' => by rw [hx1]; exact field_paired h.p a S (leg h.p h.m h.c S i j) (bas k) bs os Ks _ _ hp (by exact zH) ss cs hSb ((lg_res hp.1 _ _ _ _ _ _ _ 8).by hp.2) (bas_by _ _)) ?_
        (repeat first|refine zA ?_|(refine CS.tailL _ (List.Mem.head _) ?_;dsimp only[List.take,List.drop])|refine zC ?_|((first|refine zB ?_|(refine LS.nilO ?_;intro nq hnq hltq)|(refine MS.new ?_;intro bq hbq hbqf)|(refine MS.nil ?_;intro nq hnq hltq;have hlq:=hltq _ _ (Hp.get_eq _ _ _);clear hltq)|(refine LS.nilQ ?_;try with_reducible intro nq hnq));try dsimp only[Ex.then,Ex.inBlock,putD,Env.put])|(refine CS.exit ?_;try dsimp only[Ex.then,Ex.inBlock,↓reduceIte,Nat.reduceEqDiff];try simp only[↓reduceIte])|(refine resK.nil ?_;dsimp only[resV]))
        refine CS.quietLo ?_
        (repeat first|refine zA ?_|(refine CS.tailL _ (List.Mem.head _) ?_;dsimp only[List.take,List.drop])|refine zC ?_|((first|refine zB ?_|(refine LS.nilO ?_;intro nq hnq hltq)|(refine MS.new ?_;intro bq hbq hbqf)|(refine MS.nil ?_;intro nq hnq hltq;have hlq:=hltq _ _ (Hp.get_eq _ _ _);clear hltq)|(refine LS.nilQ ?_;try with_reducible intro nq hnq));try dsimp only[Ex.then,Ex.inBlock,putD,Env.put])|(refine CS.exit ?_;try dsimp only[Ex.then,Ex.inBlock,↓reduceIte,Nat.reduceEqDiff];try simp only[↓reduceIte])|(refine resK.nil ?_;dsimp only[resV]))
        refine LS.callQ (.arr 8 (bys (bas i))) rfl (fun n' hn' => impl_basis i _ _ (by omega)) ?_
        (repeat first|refine zA ?_|(refine CS.tailL _ (List.Mem.head _) ?_;dsimp only[List.take,List.drop])|refine zC ?_|((first|refine zB ?_|(refine LS.nilO ?_;intro nq hnq hltq)|(refine MS.new ?_;intro bq hbq hbqf)|(refine MS.nil ?_;intro nq hnq hltq;have hlq:=hltq _ _ (Hp.get_eq _ _ _);clear hltq)|(refine LS.nilQ ?_;try with_reducible intro nq hnq));try dsimp only[Ex.then,Ex.inBlock,putD,Env.put])|(refine CS.exit ?_;try dsimp only[Ex.then,Ex.inBlock,↓reduceIte,Nat.reduceEqDiff];try simp only[↓reduceIte])|(refine resK.nil ?_;dsimp only[resV]))
        refine LS.callQ (.arr 8 (bys (leg h.p h.m h.c S j k))) rfl (fun n' hn' => Hopf_legProduct h a S j k (by omega) (by omega) b bs os K Ks _ _ hS (by exact zH) hsz hK hB hSb (by exact zH) ss cs) ?_
        (repeat first|refine zA ?_|(refine CS.tailL _ (List.Mem.head _) ?_;dsimp only[List.take,List.drop])|refine zC ?_|((first|refine zB ?_|(refine LS.nilO ?_;intro nq hnq hltq)|(refine MS.new ?_;intro bq hbq hbqf)|(refine MS.nil ?_;intro nq hnq hltq;have hlq:=hltq _ _ (Hp.get_eq _ _ _);clear hltq)|(refine LS.nilQ ?_;try with_reducible intro nq hnq));try dsimp only[Ex.then,Ex.inBlock,putD,Env.put])|(refine CS.exit ?_;try dsimp only[Ex.then,Ex.inBlock,↓reduceIte,Nat.reduceEqDiff];try simp only[↓reduceIte])|(refine resK.nil ?_;dsimp only[resV]))
        refine LS.callQ (i64 x2) rfl (fun n' hn' => by rw [hx2]; exact field_paired h.p a S (bas i) (leg h.p h.m h.c S j k) bs os Ks _ _ hp (by exact zH) ss cs hSb (bas_by _ _) ((lg_res hp.1 _ _ _ _ _ _ _ 8).by hp.2)) ?_
        (repeat first|refine zA ?_|(refine CS.tailL _ (List.Mem.head _) ?_;dsimp only[List.take,List.drop])|refine zC ?_|((first|refine zB ?_|(refine LS.nilO ?_;intro nq hnq hltq)|(refine MS.new ?_;intro bq hbq hbqf)|(refine MS.nil ?_;intro nq hnq hltq;have hlq:=hltq _ _ (Hp.get_eq _ _ _);clear hltq)|(refine LS.nilQ ?_;try with_reducible intro nq hnq));try dsimp only[Ex.then,Ex.inBlock,putD,Env.put])|(refine CS.exit ?_;try dsimp only[Ex.then,Ex.inBlock,↓reduceIte,Nat.reduceEqDiff];try simp only[↓reduceIte])|(refine resK.nil ?_;dsimp only[resV]))
        refine zI ?_ ?_<;>intro h5
        · (repeat first|refine zA ?_|(refine CS.tailL _ (List.Mem.head _) ?_;dsimp only[List.take,List.drop])|refine zC ?_|((first|refine zB ?_|(refine LS.nilO ?_;intro nq hnq hltq)|(refine MS.new ?_;intro bq hbq hbqf)|(refine MS.nil ?_;intro nq hnq hltq;have hlq:=hltq _ _ (Hp.get_eq _ _ _);clear hltq)|(refine LS.nilQ ?_;try with_reducible intro nq hnq));try dsimp only[Ex.then,Ex.inBlock,putD,Env.put])|(refine CS.exit ?_;try dsimp only[Ex.then,Ex.inBlock,↓reduceIte,Nat.reduceEqDiff];try simp only[↓reduceIte])|(refine resK.nil ?_;dsimp only[resV]))
          exact ⟨_, H, rfl, by exact zD, by rw [tb_false (fun q => h5 (by rw [hx1, hx2]; exact q.2 i j k (by omega) (by omega) (by omega)))], rfl⟩
        · (repeat first|refine zA ?_|(refine CS.tailL _ (List.Mem.head _) ?_;dsimp only[List.take,List.drop])|refine zC ?_|((first|refine zB ?_|(refine LS.nilO ?_;intro nq hnq hltq)|(refine MS.new ?_;intro bq hbq hbqf)|(refine MS.nil ?_;intro nq hnq hltq;have hlq:=hltq _ _ (Hp.get_eq _ _ _);clear hltq)|(refine LS.nilQ ?_;try with_reducible intro nq hnq));try dsimp only[Ex.then,Ex.inBlock,putD,Env.put])|(refine CS.exit ?_;try dsimp only[Ex.then,Ex.inBlock,↓reduceIte,Nat.reduceEqDiff];try simp only[↓reduceIte])|(refine resK.nil ?_;dsimp only[resV]))
          refine ⟨by omega, by (repeat first | exact trivial | refine And.intro rfl ?_), by exact zD, ⟨fun k' hk' => ?_⟩⟩
          by_cases e : k' = k
          · subst e; rw [← hx1, ← hx2]; exact h5
          · exact hJ3.1 k' (by omega)
      · have : k = a := by omega
        subst this
        (repeat first|refine zA ?_|(refine CS.tailL _ (List.Mem.head _) ?_;dsimp only[List.take,List.drop])|refine zC ?_|((first|refine zB ?_|(refine LS.nilO ?_;intro nq hnq hltq)|(refine MS.new ?_;intro bq hbq hbqf)|(refine MS.nil ?_;intro nq hnq hltq;have hlq:=hltq _ _ (Hp.get_eq _ _ _);clear hltq)|(refine LS.nilQ ?_;try with_reducible intro nq hnq));try dsimp only[Ex.then,Ex.inBlock,putD,Env.put])|(refine CS.exit ?_;try dsimp only[Ex.then,Ex.inBlock,↓reduceIte,Nat.reduceEqDiff];try simp only[↓reduceIte])|(refine resK.nil ?_;dsimp only[resV]))
        refine ⟨by omega, by (repeat first | exact trivial | refine And.intro rfl ?_), by exact zD, ⟨fun j' k' hj' => ?_⟩⟩
        by_cases e : j' = j
        · subst e; exact fun hk' => hJ3.1 k' hk'
        · exact hJ2.1 j' k' (by omega)
    · have : j = a := by omega
      subst this
      (repeat first|refine zA ?_|(refine CS.tailL _ (List.Mem.head _) ?_;dsimp only[List.take,List.drop])|refine zC ?_|((first|refine zB ?_|(refine LS.nilO ?_;intro nq hnq hltq)|(refine MS.new ?_;intro bq hbq hbqf)|(refine MS.nil ?_;intro nq hnq hltq;have hlq:=hltq _ _ (Hp.get_eq _ _ _);clear hltq)|(refine LS.nilQ ?_;try with_reducible intro nq hnq));try dsimp only[Ex.then,Ex.inBlock,putD,Env.put])|(refine CS.exit ?_;try dsimp only[Ex.then,Ex.inBlock,↓reduceIte,Nat.reduceEqDiff];try simp only[↓reduceIte])|(refine resK.nil ?_;dsimp only[resV]))
      refine ⟨by omega, by (repeat first | exact trivial | refine And.intro rfl ?_), by exact zD, ⟨fun i' j' k' hi' => ?_⟩⟩
      by_cases e : i' = i
      · subst e; exact fun hj' hk' => hJ2.1 j' k' hj' hk'
      · exact hJ.1 i' j' k' (by omega)
  · have : i = a := by omega
    subst this
    (repeat first|refine zA ?_|(refine CS.tailL _ (List.Mem.head _) ?_;dsimp only[List.take,List.drop])|refine zC ?_|((first|refine zB ?_|(refine LS.nilO ?_;intro nq hnq hltq)|(refine MS.new ?_;intro bq hbq hbqf)|(refine MS.nil ?_;intro nq hnq hltq;have hlq:=hltq _ _ (Hp.get_eq _ _ _);clear hltq)|(refine LS.nilQ ?_;try with_reducible intro nq hnq));try dsimp only[Ex.then,Ex.inBlock,putD,Env.put])|(refine CS.exit ?_;try dsimp only[Ex.then,Ex.inBlock,↓reduceIte,Nat.reduceEqDiff];try simp only[↓reduceIte])|(refine resK.nil ?_;dsimp only[resV]))
    exact ⟨_, H, rfl, by exact zD, by rw [tb_true (show normed h i S ∧ cocyc h.p h.m h.c S i from ⟨h1, hJ.1⟩)], rfl⟩

theorem spec_l10Cocycle (h : HT) (a : Nat) (S : Nat → Int) (K : Nat → SV) (H : Hp) (n : Nat) (hS : HS h a) (hK : h.At K) (hB : h.By) (hSb : isBy 64 S) (hz : lz a S) :
    FnS Try.prog 42 [.arr 1106 K, .arr 64 (bys S)] H n (fun r H' _ => r = bl (tb (normed h a S ∧ cocyc h.p h.m h.c S a)) ∧ H' = H) := by
  have hp := hS.hp
  have ha := hS.ha
  have hk0 := hK.p
  have hk1 := hK.n
  rw [hS.hn] at hk1
  refine FnS.of_body Try.func42 tr42 (by simp) (fun hf => ?_)
  dsimp only [argEnv]
  unfold ir42
  (repeat first|refine zA ?_|(refine CS.tailL _ (List.Mem.head _) ?_;dsimp only[List.take,List.drop])|refine zC ?_|((first|refine zB ?_|(refine LS.nilO ?_;intro nq hnq hltq)|(refine MS.new ?_;intro bq hbq hbqf)|(refine MS.nil ?_;intro nq hnq hltq;have hlq:=hltq _ _ (Hp.get_eq _ _ _);clear hltq)|(refine LS.nilQ ?_;try with_reducible intro nq hnq));try dsimp only[Ex.then,Ex.inBlock,putD,Env.put])|(refine CS.exit ?_;try dsimp only[Ex.then,Ex.inBlock,↓reduceIte,Nat.reduceEqDiff];try simp only[↓reduceIte])|(refine resK.nil ?_;dsimp only[resV]))
  refine RS.call rfl ((FnS.args (concs_cons (conc_arr (fun q hq => rfl)) rfl) (spec_l10Normed h a S K _ _ hS hK hB hSb hz)).mono ?_)
  rintro r H' n3 hn3 ⟨rfl, rfl⟩
  (repeat first|refine zA ?_|(refine CS.tailL _ (List.Mem.head _) ?_;dsimp only[List.take,List.drop])|refine zC ?_|((first|refine zB ?_|(refine LS.nilO ?_;intro nq hnq hltq)|(refine MS.new ?_;intro bq hbq hbqf)|(refine MS.nil ?_;intro nq hnq hltq;have hlq:=hltq _ _ (Hp.get_eq _ _ _);clear hltq)|(refine LS.nilQ ?_;try with_reducible intro nq hnq));try dsimp only[Ex.then,Ex.inBlock,putD,Env.put])|(refine CS.exit ?_;try dsimp only[Ex.then,Ex.inBlock,↓reduceIte,Nat.reduceEqDiff];try simp only[↓reduceIte])|(refine resK.nil ?_;dsimp only[resV]))
  refine zI ?_ ?_<;>intro h1
  · (repeat first|refine zA ?_|(refine CS.tailL _ (List.Mem.head _) ?_;dsimp only[List.take,List.drop])|refine zC ?_|((first|refine zB ?_|(refine LS.nilO ?_;intro nq hnq hltq)|(refine MS.new ?_;intro bq hbq hbqf)|(refine MS.nil ?_;intro nq hnq hltq;have hlq:=hltq _ _ (Hp.get_eq _ _ _);clear hltq)|(refine LS.nilQ ?_;try with_reducible intro nq hnq));try dsimp only[Ex.then,Ex.inBlock,putD,Env.put])|(refine CS.exit ?_;try dsimp only[Ex.then,Ex.inBlock,↓reduceIte,Nat.reduceEqDiff];try simp only[↓reduceIte])|(refine resK.nil ?_;dsimp only[resV]))
    exact ⟨_, H, rfl, by exact zD, by rw [tb_false (fun q => h1 q.1)], rfl⟩
  (repeat first|refine zA ?_|(refine CS.tailL _ (List.Mem.head _) ?_;dsimp only[List.take,List.drop])|refine zC ?_|((first|refine zB ?_|(refine LS.nilO ?_;intro nq hnq hltq)|(refine MS.new ?_;intro bq hbq hbqf)|(refine MS.nil ?_;intro nq hnq hltq;have hlq:=hltq _ _ (Hp.get_eq _ _ _);clear hltq)|(refine LS.nilQ ?_;try with_reducible intro nq hnq));try dsimp only[Ex.then,Ex.inBlock,putD,Env.put])|(refine CS.exit ?_;try dsimp only[Ex.then,Ex.inBlock,↓reduceIte,Nat.reduceEqDiff];try simp only[↓reduceIte])|(refine resK.nil ?_;dsimp only[resV]))
  refine CS.iter a (fun i => [(6, i64 i), (2, ptr n 0), (3, ptr (n + 1) 0), (5, ptr n3 0)])
    (fun i => (n3, ⟨512, bys (rowsTo (fun _ => 0) (legs h.p h.m h.c S) (8 * i)), 33⟩) :: (n + 1, ⟨64, bys S, 29⟩) :: (n, ⟨1106, K, 35⟩) :: H) (fun _ => True) (by (repeat first | exact trivial | refine And.intro rfl ?_))
    (Drops.keepc rfl rfl (fun _ _ => by rw [show rowsTo (fun _ => 0) (legs h.p h.m h.c S) (8 * 0) = fun _ => 0 from rowsTo_zero _ _]; rfl) (Drops.refl _ _)) trivial ?_
  intro i n4 hi hn4 _
  (repeat first|refine zA ?_|(refine CS.tailL _ (List.Mem.head _) ?_;dsimp only[List.take,List.drop])|refine zC ?_|((first|refine zB ?_|(refine LS.nilO ?_;intro nq hnq hltq)|(refine MS.new ?_;intro bq hbq hbqf)|(refine MS.nil ?_;intro nq hnq hltq;have hlq:=hltq _ _ (Hp.get_eq _ _ _);clear hltq)|(refine LS.nilQ ?_;try with_reducible intro nq hnq));try dsimp only[Ex.then,Ex.inBlock,putD,Env.put])|(refine CS.exit ?_;try dsimp only[Ex.then,Ex.inBlock,↓reduceIte,Nat.reduceEqDiff];try simp only[↓reduceIte])|(refine resK.nil ?_;dsimp only[resV]))
  refine zI ?_ ?_<;>intro h2
  · (repeat first|refine zA ?_|(refine CS.tailL _ (List.Mem.head _) ?_;dsimp only[List.take,List.drop])|refine zC ?_|((first|refine zB ?_|(refine LS.nilO ?_;intro nq hnq hltq)|(refine MS.new ?_;intro bq hbq hbqf)|(refine MS.nil ?_;intro nq hnq hltq;have hlq:=hltq _ _ (Hp.get_eq _ _ _);clear hltq)|(refine LS.nilQ ?_;try with_reducible intro nq hnq));try dsimp only[Ex.then,Ex.inBlock,putD,Env.put])|(refine CS.exit ?_;try dsimp only[Ex.then,Ex.inBlock,↓reduceIte,Nat.reduceEqDiff];try simp only[↓reduceIte])|(refine resK.nil ?_;dsimp only[resV]))
    refine CS.iter a (fun j => [(7, i64 j), (6, i64 i), (2, ptr n 0), (3, ptr (n + 1) 0), (5, ptr n3 0)])
      (fun j => (n3, ⟨512, bys (rowsTo (fun _ => 0) (legs h.p h.m h.c S) (8 * i + j)), 33⟩) :: (n + 1, ⟨64, bys S, 29⟩) :: (n, ⟨1106, K, 35⟩) :: H) (fun _ => True) (by (repeat first | exact trivial | refine And.intro rfl ?_)) (Drops.refl _ _) trivial ?_
    intro j n5 hj hn5 _
    (repeat first|refine zA ?_|(refine CS.tailL _ (List.Mem.head _) ?_;dsimp only[List.take,List.drop])|refine zC ?_|((first|refine zB ?_|(refine LS.nilO ?_;intro nq hnq hltq)|(refine MS.new ?_;intro bq hbq hbqf)|(refine MS.nil ?_;intro nq hnq hltq;have hlq:=hltq _ _ (Hp.get_eq _ _ _);clear hltq)|(refine LS.nilQ ?_;try with_reducible intro nq hnq));try dsimp only[Ex.then,Ex.inBlock,putD,Env.put])|(refine CS.exit ?_;try dsimp only[Ex.then,Ex.inBlock,↓reduceIte,Nat.reduceEqDiff];try simp only[↓reduceIte])|(refine resK.nil ?_;dsimp only[resV]))
    refine zI ?_ ?_<;>intro h3
    · (repeat first|refine zA ?_|(refine CS.tailL _ (List.Mem.head _) ?_;dsimp only[List.take,List.drop])|refine zC ?_|((first|refine zB ?_|(refine LS.nilO ?_;intro nq hnq hltq)|(refine MS.new ?_;intro bq hbq hbqf)|(refine MS.nil ?_;intro nq hnq hltq;have hlq:=hltq _ _ (Hp.get_eq _ _ _);clear hltq)|(refine LS.nilQ ?_;try with_reducible intro nq hnq));try dsimp only[Ex.then,Ex.inBlock,putD,Env.put])|(refine CS.exit ?_;try dsimp only[Ex.then,Ex.inBlock,↓reduceIte,Nat.reduceEqDiff];try simp only[↓reduceIte])|(refine resK.nil ?_;dsimp only[resV]))
      refine LS.callQ (.arr 8 (bys (leg h.p h.m h.c S i j))) rfl (fun n' hn' => FnS.args (concs_cons (conc_arr (fun q hq => rfl)) rfl) (spec_l10Product h a S i j (by omega) (by omega) K _ _ hS hK hB hSb)) ?_
      (repeat first|refine zA ?_|(refine CS.tailL _ (List.Mem.head _) ?_;dsimp only[List.take,List.drop])|refine zC ?_|((first|refine zB ?_|(refine LS.nilO ?_;intro nq hnq hltq)|(refine MS.new ?_;intro bq hbq hbqf)|(refine MS.nil ?_;intro nq hnq hltq;have hlq:=hltq _ _ (Hp.get_eq _ _ _);clear hltq)|(refine LS.nilQ ?_;try with_reducible intro nq hnq));try dsimp only[Ex.then,Ex.inBlock,putD,Env.put])|(refine CS.exit ?_;try dsimp only[Ex.then,Ex.inBlock,↓reduceIte,Nat.reduceEqDiff];try simp only[↓reduceIte])|(refine resK.nil ?_;dsimp only[resV]))
      refine ⟨by omega, by (repeat first | exact trivial | refine And.intro rfl ?_), Drops.keepc rfl rfl (fun q hq => ?_) (Drops.refl _ _), trivial⟩
      rw [show 64 * i + 8 * j = 8 * (8 * i + j) by omega]
      exact rowsTo_step (fun y hy => by rw [show 8 * (8 * i + j) = 64 * i + 8 * j by omega, legs_at _ _ _ _ _ _ _ (by omega) hy]) q
    · have : j = a := by omega
      subst this
      (repeat first|refine zA ?_|(refine CS.tailL _ (List.Mem.head _) ?_;dsimp only[List.take,List.drop])|refine zC ?_|((first|refine zB ?_|(refine LS.nilO ?_;intro nq hnq hltq)|(refine MS.new ?_;intro bq hbq hbqf)|(refine MS.nil ?_;intro nq hnq hltq;have hlq:=hltq _ _ (Hp.get_eq _ _ _);clear hltq)|(refine LS.nilQ ?_;try with_reducible intro nq hnq));try dsimp only[Ex.then,Ex.inBlock,putD,Env.put])|(refine CS.exit ?_;try dsimp only[Ex.then,Ex.inBlock,↓reduceIte,Nat.reduceEqDiff];try simp only[↓reduceIte])|(refine resK.nil ?_;dsimp only[resV]))
      exact ⟨by omega, by (repeat first | exact trivial | refine And.intro rfl ?_), Drops.keepc rfl rfl (fun q hq => by
        rw [rowsTo_more (x := 8 * i + j) (y := 8 * (i + 1)) (by omega) (fun q q1 q2 => by unfold legs; rw [leg_zero hS.cm (by omega) (by omega) (by omega)])]) (Drops.refl _ _), trivial⟩
  have : i = a := by omega
  subst this
  (repeat first|refine zA ?_|(refine CS.tailL _ (List.Mem.head _) ?_;dsimp only[List.take,List.drop])|refine zC ?_|((first|refine zB ?_|(refine LS.nilO ?_;intro nq hnq hltq)|(refine MS.new ?_;intro bq hbq hbqf)|(refine MS.nil ?_;intro nq hnq hltq;have hlq:=hltq _ _ (Hp.get_eq _ _ _);clear hltq)|(refine LS.nilQ ?_;try with_reducible intro nq hnq));try dsimp only[Ex.then,Ex.inBlock,putD,Env.put])|(refine CS.exit ?_;try dsimp only[Ex.then,Ex.inBlock,↓reduceIte,Nat.reduceEqDiff];try simp only[↓reduceIte])|(refine resK.nil ?_;dsimp only[resV]))
  refine CS.iter i (fun x => [(8, i64 x), (2, ptr n 0), (3, ptr (n + 1) 0), (5, ptr n3 0)]) (fun _ => (n3, ⟨512, bys (rowsTo (fun _ => 0) (legs h.p h.m h.c S) (8 * i)), 33⟩) :: (n + 1, ⟨64, bys S, 29⟩) :: (n, ⟨1106, K, 35⟩) :: H)
    (fun x => Bx (∀ i' j k : Nat, i' < x → j < i → k < i → bil h.p S (leg h.p h.m h.c S i' j) (bas k) = bil h.p S (bas i') (leg h.p h.m h.c S j k))) (by (repeat first | exact trivial | refine And.intro rfl ?_)) (by exact zD) ⟨fun _ _ _ h => by omega⟩ ?_
  intro x n5 hx hn5 hJ
  (repeat first|refine zA ?_|(refine CS.tailL _ (List.Mem.head _) ?_;dsimp only[List.take,List.drop])|refine zC ?_|((first|refine zB ?_|(refine LS.nilO ?_;intro nq hnq hltq)|(refine MS.new ?_;intro bq hbq hbqf)|(refine MS.nil ?_;intro nq hnq hltq;have hlq:=hltq _ _ (Hp.get_eq _ _ _);clear hltq)|(refine LS.nilQ ?_;try with_reducible intro nq hnq));try dsimp only[Ex.then,Ex.inBlock,putD,Env.put])|(refine CS.exit ?_;try dsimp only[Ex.then,Ex.inBlock,↓reduceIte,Nat.reduceEqDiff];try simp only[↓reduceIte])|(refine resK.nil ?_;dsimp only[resV]))
  refine zI ?_ ?_<;>intro h3
  · (repeat first|refine zA ?_|(refine CS.tailL _ (List.Mem.head _) ?_;dsimp only[List.take,List.drop])|refine zC ?_|((first|refine zB ?_|(refine LS.nilO ?_;intro nq hnq hltq)|(refine MS.new ?_;intro bq hbq hbqf)|(refine MS.nil ?_;intro nq hnq hltq;have hlq:=hltq _ _ (Hp.get_eq _ _ _);clear hltq)|(refine LS.nilQ ?_;try with_reducible intro nq hnq));try dsimp only[Ex.then,Ex.inBlock,putD,Env.put])|(refine CS.exit ?_;try dsimp only[Ex.then,Ex.inBlock,↓reduceIte,Nat.reduceEqDiff];try simp only[↓reduceIte])|(refine resK.nil ?_;dsimp only[resV]))
    refine CS.iter i (fun j => [(9, i64 j), (8, i64 x), (2, ptr n 0), (3, ptr (n + 1) 0), (5, ptr n3 0)]) (fun _ => (n3, ⟨512, bys (rowsTo (fun _ => 0) (legs h.p h.m h.c S) (8 * i)), 33⟩) :: (n + 1, ⟨64, bys S, 29⟩) :: (n, ⟨1106, K, 35⟩) :: H)
      (fun j => Bx (∀ j' k : Nat, j' < j → k < i → bil h.p S (leg h.p h.m h.c S x j') (bas k) = bil h.p S (bas x) (leg h.p h.m h.c S j' k))) (by (repeat first | exact trivial | refine And.intro rfl ?_)) (by exact zD) ⟨fun _ _ h => by omega⟩ ?_
    intro j n6 hj hn6 hJ2
    (repeat first|refine zA ?_|(refine CS.tailL _ (List.Mem.head _) ?_;dsimp only[List.take,List.drop])|refine zC ?_|((first|refine zB ?_|(refine LS.nilO ?_;intro nq hnq hltq)|(refine MS.new ?_;intro bq hbq hbqf)|(refine MS.nil ?_;intro nq hnq hltq;have hlq:=hltq _ _ (Hp.get_eq _ _ _);clear hltq)|(refine LS.nilQ ?_;try with_reducible intro nq hnq));try dsimp only[Ex.then,Ex.inBlock,putD,Env.put])|(refine CS.exit ?_;try dsimp only[Ex.then,Ex.inBlock,↓reduceIte,Nat.reduceEqDiff];try simp only[↓reduceIte])|(refine resK.nil ?_;dsimp only[resV]))
    refine zI ?_ ?_<;>intro h4
    · (repeat first|refine zA ?_|(refine CS.tailL _ (List.Mem.head _) ?_;dsimp only[List.take,List.drop])|refine zC ?_|((first|refine zB ?_|(refine LS.nilO ?_;intro nq hnq hltq)|(refine MS.new ?_;intro bq hbq hbqf)|(refine MS.nil ?_;intro nq hnq hltq;have hlq:=hltq _ _ (Hp.get_eq _ _ _);clear hltq)|(refine LS.nilQ ?_;try with_reducible intro nq hnq));try dsimp only[Ex.then,Ex.inBlock,putD,Env.put])|(refine CS.exit ?_;try dsimp only[Ex.then,Ex.inBlock,↓reduceIte,Nat.reduceEqDiff];try simp only[↓reduceIte])|(refine resK.nil ?_;dsimp only[resV]))
      refine CS.iter i (fun k => [(10, i64 k), (9, i64 j), (8, i64 x), (2, ptr n 0), (3, ptr (n + 1) 0), (5, ptr n3 0)]) (fun _ => (n3, ⟨512, bys (rowsTo (fun _ => 0) (legs h.p h.m h.c S) (8 * i)), 33⟩) :: (n + 1, ⟨64, bys S, 29⟩) :: (n, ⟨1106, K, 35⟩) :: H)
        (fun k => Bx (∀ k' : Nat, k' < k → bil h.p S (leg h.p h.m h.c S x j) (bas k') = bil h.p S (bas x) (leg h.p h.m h.c S j k'))) (by (repeat first | exact trivial | refine And.intro rfl ?_)) (by exact zD) ⟨fun _ h => by omega⟩ ?_
      intro k n7 hk hn7 hJ3
      (repeat first|refine zA ?_|(refine CS.tailL _ (List.Mem.head _) ?_;dsimp only[List.take,List.drop])|refine zC ?_|((first|refine zB ?_|(refine LS.nilO ?_;intro nq hnq hltq)|(refine MS.new ?_;intro bq hbq hbqf)|(refine MS.nil ?_;intro nq hnq hltq;have hlq:=hltq _ _ (Hp.get_eq _ _ _);clear hltq)|(refine LS.nilQ ?_;try with_reducible intro nq hnq));try dsimp only[Ex.then,Ex.inBlock,putD,Env.put])|(refine CS.exit ?_;try dsimp only[Ex.then,Ex.inBlock,↓reduceIte,Nat.reduceEqDiff];try simp only[↓reduceIte])|(refine resK.nil ?_;dsimp only[resV]))
      refine zI ?_ ?_<;>intro h5
      · have hr : ∀ q, q < 8 → (bys (rowsTo (fun _ => 0) (legs h.p h.m h.c S) (8 * i))) (64 * x + 8 * j + q) = .int .u8 (leg h.p h.m h.c S x j q) := fun q hq => by
          simp only [bys, rowsTo]; rw [if_pos (by omega), legs_at _ _ _ _ _ _ _ (by omega) hq]
        have hr2 : ∀ q, q < 8 → (bys (rowsTo (fun _ => 0) (legs h.p h.m h.c S) (8 * i))) (64 * j + 8 * k + q) = .int .u8 (leg h.p h.m h.c S j k q) := fun q hq => by
          simp only [bys, rowsTo]; rw [if_pos (by omega), legs_at _ _ _ _ _ _ _ (by omega) hq]
        (repeat first|refine zA ?_|(refine CS.tailL _ (List.Mem.head _) ?_;dsimp only[List.take,List.drop])|refine zC ?_|((first|refine zB ?_|(refine LS.nilO ?_;intro nq hnq hltq)|(refine MS.new ?_;intro bq hbq hbqf)|(refine MS.nil ?_;intro nq hnq hltq;have hlq:=hltq _ _ (Hp.get_eq _ _ _);clear hltq)|(refine LS.nilQ ?_;try with_reducible intro nq hnq));try dsimp only[Ex.then,Ex.inBlock,putD,Env.put])|(refine CS.exit ?_;try dsimp only[Ex.then,Ex.inBlock,↓reduceIte,Nat.reduceEqDiff];try simp only[↓reduceIte])|(refine resK.nil ?_;dsimp only[resV]))
        refine CS.quietLo ?_
        (repeat first|refine zA ?_|(refine CS.tailL _ (List.Mem.head _) ?_;dsimp only[List.take,List.drop])|refine zC ?_|((first|refine zB ?_|(refine LS.nilO ?_;intro nq hnq hltq)|(refine MS.new ?_;intro bq hbq hbqf)|(refine MS.nil ?_;intro nq hnq hltq;have hlq:=hltq _ _ (Hp.get_eq _ _ _);clear hltq)|(refine LS.nilQ ?_;try with_reducible intro nq hnq));try dsimp only[Ex.then,Ex.inBlock,putD,Env.put])|(refine CS.exit ?_;try dsimp only[Ex.then,Ex.inBlock,↓reduceIte,Nat.reduceEqDiff];try simp only[↓reduceIte])|(refine resK.nil ?_;dsimp only[resV]))
        refine LS.callQ (.arr 8 (bys (bas k))) rfl (fun n' hn' => spec_l01Basis k _ _ (by omega)) ?_
        (repeat first|refine zA ?_|(refine CS.tailL _ (List.Mem.head _) ?_;dsimp only[List.take,List.drop])|refine zC ?_|((first|refine zB ?_|(refine LS.nilO ?_;intro nq hnq hltq)|(refine MS.new ?_;intro bq hbq hbqf)|(refine MS.nil ?_;intro nq hnq hltq;have hlq:=hltq _ _ (Hp.get_eq _ _ _);clear hltq)|(refine LS.nilQ ?_;try with_reducible intro nq hnq));try dsimp only[Ex.then,Ex.inBlock,putD,Env.put])|(refine CS.exit ?_;try dsimp only[Ex.then,Ex.inBlock,↓reduceIte,Nat.reduceEqDiff];try simp only[↓reduceIte])|(refine resK.nil ?_;dsimp only[resV]))
        obtain ⟨x1, hx1⟩ : ∃ y, y = bil h.p S (leg h.p h.m h.c S x j) (bas k) := ⟨_, rfl⟩
        obtain ⟨x2, hx2⟩ : ∃ y, y = bil h.p S (bas x) (leg h.p h.m h.c S j k) := ⟨_, rfl⟩
        refine LS.callQ (i64 x1) rfl (fun n' hn' => by rw [hx1]; exact spec_l10Value h i S (leg h.p h.m h.c S x j) (bas k) K _ _ hS hK hSb hz ((lg_res hp.1 _ _ _ _ _ _ _ 8).by hp.2) (bas_by _ _)) ?_
        (repeat first|refine zA ?_|(refine CS.tailL _ (List.Mem.head _) ?_;dsimp only[List.take,List.drop])|refine zC ?_|((first|refine zB ?_|(refine LS.nilO ?_;intro nq hnq hltq)|(refine MS.new ?_;intro bq hbq hbqf)|(refine MS.nil ?_;intro nq hnq hltq;have hlq:=hltq _ _ (Hp.get_eq _ _ _);clear hltq)|(refine LS.nilQ ?_;try with_reducible intro nq hnq));try dsimp only[Ex.then,Ex.inBlock,putD,Env.put])|(refine CS.exit ?_;try dsimp only[Ex.then,Ex.inBlock,↓reduceIte,Nat.reduceEqDiff];try simp only[↓reduceIte])|(refine resK.nil ?_;dsimp only[resV]))
        refine LS.callQ (.arr 8 (bys (bas x))) rfl (fun n' hn' => spec_l01Basis x _ _ (by omega)) ?_
        (repeat first|refine zA ?_|(refine CS.tailL _ (List.Mem.head _) ?_;dsimp only[List.take,List.drop])|refine zC ?_|((first|refine zB ?_|(refine LS.nilO ?_;intro nq hnq hltq)|(refine MS.new ?_;intro bq hbq hbqf)|(refine MS.nil ?_;intro nq hnq hltq;have hlq:=hltq _ _ (Hp.get_eq _ _ _);clear hltq)|(refine LS.nilQ ?_;try with_reducible intro nq hnq));try dsimp only[Ex.then,Ex.inBlock,putD,Env.put])|(refine CS.exit ?_;try dsimp only[Ex.then,Ex.inBlock,↓reduceIte,Nat.reduceEqDiff];try simp only[↓reduceIte])|(refine resK.nil ?_;dsimp only[resV]))
        refine LS.callQ (i64 x2) rfl (fun n' hn' => by rw [hx2]; exact spec_l10Value h i S (bas x) (leg h.p h.m h.c S j k) K _ _ hS hK hSb hz (bas_by _ _) ((lg_res hp.1 _ _ _ _ _ _ _ 8).by hp.2)) ?_
        (repeat first|refine zA ?_|(refine CS.tailL _ (List.Mem.head _) ?_;dsimp only[List.take,List.drop])|refine zC ?_|((first|refine zB ?_|(refine LS.nilO ?_;intro nq hnq hltq)|(refine MS.new ?_;intro bq hbq hbqf)|(refine MS.nil ?_;intro nq hnq hltq;have hlq:=hltq _ _ (Hp.get_eq _ _ _);clear hltq)|(refine LS.nilQ ?_;try with_reducible intro nq hnq));try dsimp only[Ex.then,Ex.inBlock,putD,Env.put])|(refine CS.exit ?_;try dsimp only[Ex.then,Ex.inBlock,↓reduceIte,Nat.reduceEqDiff];try simp only[↓reduceIte])|(refine resK.nil ?_;dsimp only[resV]))
        refine zI ?_ ?_<;>intro h6
        · (repeat first|refine zA ?_|(refine CS.tailL _ (List.Mem.head _) ?_;dsimp only[List.take,List.drop])|refine zC ?_|((first|refine zB ?_|(refine LS.nilO ?_;intro nq hnq hltq)|(refine MS.new ?_;intro bq hbq hbqf)|(refine MS.nil ?_;intro nq hnq hltq;have hlq:=hltq _ _ (Hp.get_eq _ _ _);clear hltq)|(refine LS.nilQ ?_;try with_reducible intro nq hnq));try dsimp only[Ex.then,Ex.inBlock,putD,Env.put])|(refine CS.exit ?_;try dsimp only[Ex.then,Ex.inBlock,↓reduceIte,Nat.reduceEqDiff];try simp only[↓reduceIte])|(refine resK.nil ?_;dsimp only[resV]))
          exact ⟨_, H, rfl, by exact zD, by rw [tb_false (fun q => h6 (by rw [hx1, hx2]; exact q.2 x j k (by omega) (by omega) (by omega)))], rfl⟩
        · (repeat first|refine zA ?_|(refine CS.tailL _ (List.Mem.head _) ?_;dsimp only[List.take,List.drop])|refine zC ?_|((first|refine zB ?_|(refine LS.nilO ?_;intro nq hnq hltq)|(refine MS.new ?_;intro bq hbq hbqf)|(refine MS.nil ?_;intro nq hnq hltq;have hlq:=hltq _ _ (Hp.get_eq _ _ _);clear hltq)|(refine LS.nilQ ?_;try with_reducible intro nq hnq));try dsimp only[Ex.then,Ex.inBlock,putD,Env.put])|(refine CS.exit ?_;try dsimp only[Ex.then,Ex.inBlock,↓reduceIte,Nat.reduceEqDiff];try simp only[↓reduceIte])|(refine resK.nil ?_;dsimp only[resV]))
          refine ⟨by omega, by (repeat first | exact trivial | refine And.intro rfl ?_), by exact zD, ⟨fun k' hk' => ?_⟩⟩
          by_cases e : k' = k
          · subst e; rw [← hx1, ← hx2]; exact h6
          · exact hJ3.1 k' (by omega)
      · have : k = i := by omega
        subst this
        (repeat first|refine zA ?_|(refine CS.tailL _ (List.Mem.head _) ?_;dsimp only[List.take,List.drop])|refine zC ?_|((first|refine zB ?_|(refine LS.nilO ?_;intro nq hnq hltq)|(refine MS.new ?_;intro bq hbq hbqf)|(refine MS.nil ?_;intro nq hnq hltq;have hlq:=hltq _ _ (Hp.get_eq _ _ _);clear hltq)|(refine LS.nilQ ?_;try with_reducible intro nq hnq));try dsimp only[Ex.then,Ex.inBlock,putD,Env.put])|(refine CS.exit ?_;try dsimp only[Ex.then,Ex.inBlock,↓reduceIte,Nat.reduceEqDiff];try simp only[↓reduceIte])|(refine resK.nil ?_;dsimp only[resV]))
        refine ⟨by omega, by (repeat first | exact trivial | refine And.intro rfl ?_), by exact zD, ⟨fun j' k' hj' => ?_⟩⟩
        by_cases e : j' = j
        · subst e; exact fun hk' => hJ3.1 k' hk'
        · exact hJ2.1 j' k' (by omega)
    · have : j = i := by omega
      subst this
      (repeat first|refine zA ?_|(refine CS.tailL _ (List.Mem.head _) ?_;dsimp only[List.take,List.drop])|refine zC ?_|((first|refine zB ?_|(refine LS.nilO ?_;intro nq hnq hltq)|(refine MS.new ?_;intro bq hbq hbqf)|(refine MS.nil ?_;intro nq hnq hltq;have hlq:=hltq _ _ (Hp.get_eq _ _ _);clear hltq)|(refine LS.nilQ ?_;try with_reducible intro nq hnq));try dsimp only[Ex.then,Ex.inBlock,putD,Env.put])|(refine CS.exit ?_;try dsimp only[Ex.then,Ex.inBlock,↓reduceIte,Nat.reduceEqDiff];try simp only[↓reduceIte])|(refine resK.nil ?_;dsimp only[resV]))
      refine ⟨by omega, by (repeat first | exact trivial | refine And.intro rfl ?_), by exact zD, ⟨fun i' j' k' hi' => ?_⟩⟩
      by_cases e : i' = x
      · subst e; exact fun hj' hk' => hJ2.1 j' k' hj' hk'
      · exact hJ.1 i' j' k' (by omega)
  · have : x = i := by omega
    subst this
    (repeat first|refine zA ?_|(refine CS.tailL _ (List.Mem.head _) ?_;dsimp only[List.take,List.drop])|refine zC ?_|((first|refine zB ?_|(refine LS.nilO ?_;intro nq hnq hltq)|(refine MS.new ?_;intro bq hbq hbqf)|(refine MS.nil ?_;intro nq hnq hltq;have hlq:=hltq _ _ (Hp.get_eq _ _ _);clear hltq)|(refine LS.nilQ ?_;try with_reducible intro nq hnq));try dsimp only[Ex.then,Ex.inBlock,putD,Env.put])|(refine CS.exit ?_;try dsimp only[Ex.then,Ex.inBlock,↓reduceIte,Nat.reduceEqDiff];try simp only[↓reduceIte])|(refine resK.nil ?_;dsimp only[resV]))
    exact ⟨_, H, rfl, by exact zD, by rw [tb_true (show normed h x S ∧ cocyc h.p h.m h.c S x from ⟨h1, hJ.1⟩)], rfl⟩

end Go.Proofs.Ytnkmpelakhhoiab

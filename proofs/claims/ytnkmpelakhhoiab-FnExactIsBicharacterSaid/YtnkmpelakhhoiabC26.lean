/- Sums over the parts of two coproducts; convolutions of pairings, on both sides. -/
import Derived.Test.YtnkmpelakhhoiabC20
namespace Go.V
/-- What is not to be tried as a load's value. -/
structure Bx (Q : Prop) : Prop where
  out : Q
/-- What is there but for one block is there. -/
def Off (bo : Nat) (H H2 : Hp) : Prop := ∀ b k, b ≠ bo → H.get b = some k → H2.get b = some k
theorem Off.refl (bo : Nat) (H : Hp) : Off bo H H := fun _ _ _ h => h
theorem Off.push {bo b : Nat} {k : Blk} {H H2 : Hp} (h : Off bo H H2) (hn : H.get b = none) : Off bo H ((b, k) :: H2) := fun b' k' hb hk => by
  by_cases e : b = b'
  · subst e; rw [hn] at hk; cases hk
  · rw [Hp.get_ne _ _ e]; exact h b' k' hb hk
theorem Off.set {bo : Nat} {c : Nat → SV} {H H2 : Hp} (h : Off bo H H2) : Off bo H (H2.set bo c) := fun b' k' hb hk => by
  rw [Hp.get_set_other _ (Ne.symm hb)]; exact h b' k' hb hk

/-- The sum of the first t rows of 64, of row t up to s. -/
def s2 (f : Nat → Nat → Int) (t s : Nat) : Int := sm (fun t => sm (fun s => f t s) 64) t + sm (fun s => f t s) s
theorem s2_zero (f : Nat → Nat → Int) : s2 f 0 0 = 0 := by simp [s2, sm]
theorem s2_next (f : Nat → Nat → Int) (t : Nat) : s2 f t 64 = s2 f (t + 1) 0 := by
  unfold s2
  rw [show sm (fun t => sm (fun s => f t s) 64) (t + 1) = sm (fun t => sm (fun s => f t s) 64) t + sm (fun s => f t s) 64 from rfl, sm_0, Int.add_zero]
theorem s2_step (f : Nat → Nat → Int) (t s : Nat) : s2 f t s + f t s = s2 f t (s + 1) := by
  unfold s2
  rw [show sm (fun s => f t s) (s + 1) = sm (fun s => f t s) s + f t s from rfl, Int.add_assoc]
theorem s2_moreS {f : Nat → Nat → Int} {t s s' : Nat} (h : s ≤ s') (hz : ∀ u, s ≤ u → u < s' → f t u = 0) : s2 f t s' = s2 f t s := by
  unfold s2; rw [sm_more h hz]
theorem s2_moreT {f : Nat → Nat → Int} {t t' : Nat} (h : t ≤ t') (hz : ∀ u, t ≤ u → u < t' → ∀ s, s < 64 → f u s = 0) : s2 f t' 0 = s2 f t 0 := by
  unfold s2; rw [sm_0, sm_0, sm_more h fun u h1 h2 => sm_zero (hz u h1 h2)]
theorem s2_modc {f g : Nat → Nat → Int} {p : Int} (h : ∀ t s, f t s % p = g t s % p) (t s : Nat) : s2 f t s % p = s2 g t s % p := by
  unfold s2
  rw [Int.add_emod, sm_modc (f := fun t => sm (fun s => f t s) 64) (g := fun t => sm (fun s => g t s) 64) (fun u _ => sm_modc fun v _ => h u v), sm_modc (f := fun s => f t s) (g := fun s => g t s) (fun v _ => h t v), ← Int.add_emod]
theorem s2_b {f : Nat → Nat → Int} {B : Int} (hB : 0 ≤ B) (h : ∀ t s, t < 64 → s < 64 → 0 ≤ f t s ∧ f t s ≤ B) {t s : Nat} (ht : t < 64 ∨ t = 64 ∧ s = 0) (hs : s ≤ 64) : 0 ≤ s2 f t s ∧ s2 f t s ≤ 4160 * B := by
  have h1 := sm_b (f := fun t => sm (fun s => f t s) 64) (B := 64 * B) (n := t) (fun u hu => by
    have := sm_b (f := fun s => f u s) (B := B) (n := 64) (fun v hv => h u v (by omega) hv)
    exact ⟨this.1, this.2⟩)
  have h2 : 0 ≤ sm (fun s => f t s) s ∧ sm (fun s => f t s) s ≤ s * B := by
    rcases ht with ht | ⟨_, rfl⟩
    · exact sm_b (f := fun s => f t s) (B := B) (n := s) (fun v hv => h t v ht (by omega))
    · simp [sm]
  have e1 : (t : Int) * (64 * B) ≤ 64 * (64 * B) := Int.mul_le_mul_of_nonneg_right (by omega) (by omega)
  have e2 : (s : Int) * B ≤ 64 * B := Int.mul_le_mul_of_nonneg_right (by omega) hB
  unfold s2
  constructor
  · omega
  · have h3 := h1.2
    have h4 := h2.2
    omega

/-- The terms of a convolution, with and without the middle remainder. -/
def cv1 (p : Int) (c S T : Nat → Int) (i j t s : Nat) : Int := c (64 * i + t) * c (64 * j + s) % p * S (8 * (t / 8) + s / 8) % p * T (8 * (t % 8) + s % 8)
def cv2 (p : Int) (c S T : Nat → Int) (i j t s : Nat) : Int := c (64 * i + t) * c (64 * j + s) % p * S (8 * (t / 8) + s / 8) * T (8 * (t % 8) + s % 8)
theorem cv12 (p : Int) (c S T : Nat → Int) (i j t s : Nat) : cv1 p c S T i j t s % p = cv2 p c S T i j t s % p := by
  unfold cv1 cv2
  rw [Int.mul_emod, Int.emod_emod_of_dvd _ (Int.dvd_refl p), ← Int.mul_emod]
/-- The convolution. -/
def cnv (p : Int) (c S T : Nat → Int) : Nat → Int := fun q => s2 (cv1 p c S T (q / 8) (q % 8)) 64 0 % p
theorem cnv_at (p : Int) (c S T : Nat → Int) (i j : Nat) (hj : j < 8) : cnv p c S T (8 * i + j) = s2 (cv1 p c S T i j) 64 0 % p := by
  unfold cnv; rw [show (8 * i + j) / 8 = i by omega, show (8 * i + j) % 8 = j by omega]
theorem cnv_zero {p : Int} {c S T : Nat → Int} {a q : Nat} (hc : tz a c) (hq : q < 64) (h : a ≤ q / 8 ∨ a ≤ q % 8) : cnv p c S T q = 0 := by
  unfold cnv
  rw [s2_moreT (t := 0) (t' := 64) (by omega) (fun u h1 h2 v hv => ?_), s2_zero]; · rfl
  unfold cv1
  rcases h with h | h
  · rw [hc.at (by omega) h2 (.inl h), Int.zero_mul]; simp
  · rw [hc.at (by omega) hv (.inl h), Int.mul_zero]; simp
theorem cv1_b {p : Int} {c S T : Nat → Int} (hp : 2 ≤ p ∧ p ≤ 31) (hT : isBy 64 T) {i j t s : Nat} (ht : t < 64) (hs : s < 64) : 0 ≤ cv1 p c S T i j t s ∧ cv1 p c S T i j t s ≤ 8000 := by
  unfold cv1
  have h1 := modB (c (64 * i + t) * c (64 * j + s) % p * S (8 * (t / 8) + s / 8)) hp.1
  have h2 := hT (8 * (t % 8) + s % 8) (by omega)
  have := mulB h1.1 (show _ ≤ 31 by omega) h2.1 h2.2
  omega
end Go.V
namespace Go.Proofs.Ytnkmpelakhhoiab
open Go.V
set_option linter.unusedSimpArgs false
set_option linter.unusedVariables false
set_option maxHeartbeats 4000000

theorem Hopf_split_2 (F : FuncId) (post : List SV) (x y p : Int) (a' b' c' d' : Nat) (bf ba bb bx bp : Nat) (Kf Ka Kb Kx Kp : Blk) (H H' : Hp) (n : Nat) (hp : 2 ≤ p ∧ p ≤ 31) (hx : 0 ≤ x ∧ x ≤ 255) (hy : 0 ≤ y ∧ y ≤ 255)
    (gf : H.get bf = some Kf) (sf : Kf.size = 1) (cf : Kf.c 0 = .fn F [] post) (ga : H.get ba = some Ka) (sa : Ka.size = 1) (ca : Ka.c 0 = .int .i64 a') (gb : H.get bb = some Kb) (sb : Kb.size = 1) (cb : Kb.c 0 = .int .i64 b')
    (gx : H.get bx = some Kx) (sx : Kx.size = 1) (cx : Kx.c 0 = .int .i64 x) (gp : H.get bp = some Kp) (sp : Kp.size = 1) (cp : Kp.c 0 = .int .i64 p)
    (hF : ∀ n', n ≤ n' → FnS Try.prog F ([i64 a', i64 b', i64 c', i64 d', i64 (x * y % p)] ++ post.map .s) H n' (fun _ H2 _ => H2 = H')) :
    FnS Try.prog 79 [i64 c', i64 d', i64 y, ptr bf 0, ptr ba 0, ptr bb 0, ptr bx 0, ptr bp 0] H n (fun _ H2 _ => H2 = H') := by
  have hxy := mulB hx.1 hx.2 hy.1 hy.2
  refine FnS.of_body Try.func79 tr79 (by simp) (fun hf => ?_)
  dsimp only [argEnv]
  unfold ir79
  have hbn := getlt hf gf
  (repeat first|refine zA ?_|(refine CS.tailL _ (List.Mem.head _) ?_;dsimp only[List.take,List.drop])|refine zC ?_|((first|refine zB ?_|(refine LS.nilO ?_;intro nq hnq hltq)|(refine MS.new ?_;intro bq hbq hbqf)|(refine MS.nil ?_;intro nq hnq hltq;have hlq:=hltq _ _ (Hp.get_eq _ _ _);clear hltq)|(refine LS.nilQ ?_;try with_reducible intro nq hnq));try dsimp only[Ex.then,Ex.inBlock,putD,Env.put])|(refine CS.exit ?_;try dsimp only[Ex.then,Ex.inBlock,↓reduceIte,Nat.reduceEqDiff];try simp only[↓reduceIte])|(refine resK.nil ?_;dsimp only[resV]))
  refine RS.callv (f := F) (pre := []) (post := post) (vs := [i64 a', i64 b', i64 c', i64 d', i64 (x * y % p)]) (by exact rfl) (by exact rfl) ?_
  refine FnS.mono (hF _ (by omega)) ?_
  rintro r H2 n3 hn3 rfl
  (repeat first|refine zA ?_|(refine CS.tailL _ (List.Mem.head _) ?_;dsimp only[List.take,List.drop])|refine zC ?_|((first|refine zB ?_|(refine LS.nilO ?_;intro nq hnq hltq)|(refine MS.new ?_;intro bq hbq hbqf)|(refine MS.nil ?_;intro nq hnq hltq;have hlq:=hltq _ _ (Hp.get_eq _ _ _);clear hltq)|(refine LS.nilQ ?_;try with_reducible intro nq hnq));try dsimp only[Ex.then,Ex.inBlock,putD,Env.put])|(refine CS.exit ?_;try dsimp only[Ex.then,Ex.inBlock,↓reduceIte,Nat.reduceEqDiff];try simp only[↓reduceIte])|(refine resK.nil ?_;dsimp only[resV]))
  exact ⟨_, H2, rfl, by exact zD, rfl⟩

theorem Hopf_split_1 (h : HT) (j : Nat) (hj : j < 8) (F : FuncId) (post : List SV) (t a' b' : Nat) (ht : t < 64) (x : Int) (hx : 0 ≤ x ∧ x ≤ 255) (bo z : Nat) (ty : TypeId) (C : Nat → Nat → SV)
    (b bh bj bf bp : Nat) (K Kh Kj Kf Kp : Blk) (H : Hp) (n : Nat) (hp : 2 ≤ h.p ∧ h.p ≤ 31) (hb : H.get b = some K) (hsz : K.size = 1106) (hK : h.At K.c) (hB : h.By)
    (gh : H.get bh = some Kh) (sh : Kh.size = 1) (ch : Kh.c 0 = .ptr b 0) (gj : H.get bj = some Kj) (sj : Kj.size = 1) (cj : Kj.c 0 = .int .i64 j)
    (gf : H.get bf = some Kf) (sf : Kf.size = 1) (cf : Kf.c 0 = .fn F [] post) (gp : H.get bp = some Kp) (sp : Kp.size = 1) (cp : Kp.c 0 = .int .i64 h.p)
    (go : H.get bo = some ⟨z, C 0, ty⟩) (d1 : bo ≠ b) (d2 : bo ≠ bh) (d3 : bo ≠ bj) (d4 : bo ≠ bf) (d5 : bo ≠ bp)
    (c3 : ∀ s, s < 64 → h.c (64 * j + s) = 0 → C (s + 1) = C s)
    (hF : ∀ (s c' d' : Nat) (H2 : Hp) (n' : Nat), s < 64 → s = 8 * c' + d' → d' < 8 → Off bo H H2 → H2.get bo = some ⟨z, C s, ty⟩ → n ≤ n' → FnS Try.prog F ([i64 a', i64 b', i64 c', i64 d', i64 (x * h.c (64 * j + s) % h.p)] ++ post.map .s) H2 n' (fun _ H3 _ => H3 = H2.set bo (C (s + 1)))) :
    FnS Try.prog 78 [i64 a', i64 b', i64 x, ptr bh 0, ptr bj 0, ptr bf 0, ptr bp 0] H n (fun _ H2 _ => H2 = H.set bo (C 64)) := by
  have hk6 := hK.c
  have hs0 : H.set bo (C 0) = H := Hp.set_self go
  refine FnS.of_body Try.func78 tr78 (by simp) (fun hf => ?_)
  dsimp only [argEnv]
  unfold ir78
  have e0 := getlt hf hb
  have e1 := getlt hf gh
  have e2 := getlt hf gj
  have e3 := getlt hf gf
  have e4 := getlt hf gp
  have e5 := getlt hf go
  (repeat first|refine zA ?_|(refine CS.tailL _ (List.Mem.head _) ?_;dsimp only[List.take,List.drop])|refine zC ?_|((first|refine zB ?_|(refine LS.nilO ?_;intro nq hnq hltq)|(refine MS.new ?_;intro bq hbq hbqf)|(refine MS.nil ?_;intro nq hnq hltq;have hlq:=hltq _ _ (Hp.get_eq _ _ _);clear hltq)|(refine LS.nilQ ?_;try with_reducible intro nq hnq));try dsimp only[Ex.then,Ex.inBlock,putD,Env.put])|(refine CS.exit ?_;try dsimp only[Ex.then,Ex.inBlock,↓reduceIte,Nat.reduceEqDiff];try simp only[↓reduceIte])|(refine resK.nil ?_;dsimp only[resV]))
  refine RS.call rfl ((impl_pairs (fun q => h.c (64 * j + q)) b (530 + 64 * j) _ _ (fun s => (n + 2, ⟨1, fun _ => .int .i64 x, 3⟩) :: (n + 1, ⟨1, fun _ => .int .i64 b', 3⟩) :: (n, ⟨1, fun _ => .int .i64 a', 3⟩) :: H.set bo (C s)) _ _ (by (try dsimp only); rw [hs0])
    (fun s hs => ⟨K, by exact zH, by omega, fun q hq => by rw [Nat.add_assoc]; exact hk6 _ (by omega)⟩) (hB.rowc hj) (fun s hs hz => by (try dsimp only); rw [c3 s hs hz]) (fun s c' d' n' hs hs' hd hz hn' => ?_)).mono ?_)
  · have hyb := hB.c (64 * j + s) (by omega)
    refine (Hopf_split_2 F post x (h.c (64 * j + s)) h.p a' b' c' d' bf n (n + 1) (n + 2) bp Kf _ _ _ Kp _ _ n' hp hx hyb (by exact zH) sf cf (by exact zH) rfl rfl (by exact zH) rfl rfl (by exact zH) rfl rfl (by exact zH) sp cp (fun n2 hn2 => hF s c' d' _ n2 hs hs' hd
      (Off.push (Off.push (Off.push (Off.set (Off.refl _ _)) (hf _ (by omega))) (hf _ (by omega))) (hf _ (by omega))) (by simp (disch := omega) only [Hp.get_ne]; exact Hp.get_set_self _ go) (by omega))).mono ?_
    rintro r H' n2 hn2 rfl
    simp (disch := omega) only [Hp.set_eq, Hp.set_ne, Hp.set_set]
  rintro r H' n2 hn2 rfl
  (repeat first|refine zA ?_|(refine CS.tailL _ (List.Mem.head _) ?_;dsimp only[List.take,List.drop])|refine zC ?_|((first|refine zB ?_|(refine LS.nilO ?_;intro nq hnq hltq)|(refine MS.new ?_;intro bq hbq hbqf)|(refine MS.nil ?_;intro nq hnq hltq;have hlq:=hltq _ _ (Hp.get_eq _ _ _);clear hltq)|(refine LS.nilQ ?_;try with_reducible intro nq hnq));try dsimp only[Ex.then,Ex.inBlock,putD,Env.put])|(refine CS.exit ?_;try dsimp only[Ex.then,Ex.inBlock,↓reduceIte,Nat.reduceEqDiff];try simp only[↓reduceIte])|(refine resK.nil ?_;dsimp only[resV]))
  exact ⟨_, H.set bo (C 64), rfl, by
    refine Drops.drop (by omega) ?_ (Drops.drop (by omega) ?_ (Drops.drop (by omega) ?_ (Drops.refl _ _))) <;> exact Hp.get_set_none _ (hf _ (by omega)), rfl⟩

/-- A callback over the parts of two coproducts, which changes one block alone. -/
theorem Hopf_split (h : HT) (i j : Nat) (hi : i < 8) (hj : j < 8) (F : FuncId) (post : List SV) (bo z : Nat) (ty : TypeId) (C : Nat → Nat → Nat → SV)
    (b : Nat) (K : Blk) (H : Hp) (n : Nat) (hp : 2 ≤ h.p ∧ h.p ≤ 31) (hb : H.get b = some K) (hsz : K.size = 1106) (hK : h.At K.c) (hB : h.By)
    (go : H.get bo = some ⟨z, C 0 0, ty⟩) (d1 : bo ≠ b)
    (c1 : ∀ t, t < 64 → C t 64 = C (t + 1) 0) (c2 : ∀ t, t < 64 → h.c (64 * i + t) = 0 → C (t + 1) 0 = C t 0) (c3 : ∀ t s, t < 64 → s < 64 → h.c (64 * j + s) = 0 → C t (s + 1) = C t s)
    (hF : ∀ (t s a' b' c' d' : Nat) (H2 : Hp) (n' : Nat), t < 64 → s < 64 → t = 8 * a' + b' → b' < 8 → s = 8 * c' + d' → d' < 8 → Off bo H H2 → H2.get bo = some ⟨z, C t s, ty⟩ → n ≤ n' →
      FnS Try.prog F ([i64 a', i64 b', i64 c', i64 d', i64 (h.c (64 * i + t) * h.c (64 * j + s) % h.p)] ++ post.map .s) H2 n' (fun _ H3 _ => H3 = H2.set bo (C t (s + 1)))) :
    FnS Try.prog 57 [ptr b 0, i64 i, i64 j, .s (.fn F [] post)] H n (fun _ H2 _ => H2 = H.set bo (C 64 0)) := by
  have hk0 := hK.p
  have hk6 := hK.c
  have hs0 : H.set bo (C 0 0) = H := Hp.set_self go
  refine FnS.of_body Try.func57 tr57 (by simp) (fun hf => ?_)
  dsimp only [argEnv]
  unfold ir57
  have e0 := getlt hf hb
  have e5 := getlt hf go
  (repeat first|refine zA ?_|(refine CS.tailL _ (List.Mem.head _) ?_;dsimp only[List.take,List.drop])|refine zC ?_|((first|refine zB ?_|(refine LS.nilO ?_;intro nq hnq hltq)|(refine MS.new ?_;intro bq hbq hbqf)|(refine MS.nil ?_;intro nq hnq hltq;have hlq:=hltq _ _ (Hp.get_eq _ _ _);clear hltq)|(refine LS.nilQ ?_;try with_reducible intro nq hnq));try dsimp only[Ex.then,Ex.inBlock,putD,Env.put])|(refine CS.exit ?_;try dsimp only[Ex.then,Ex.inBlock,↓reduceIte,Nat.reduceEqDiff];try simp only[↓reduceIte])|(refine resK.nil ?_;dsimp only[resV]))
  refine RS.call rfl ((impl_pairs (fun q => h.c (64 * i + q)) b (530 + 64 * i) _ _ (fun t => (n + 3, ⟨1, put1 (Zs.c [(1, .int .i64 0)]) 0 (.int .i64 h.p), 3⟩) :: (n + 2, ⟨1, fun _ => .fn F [] post, 81⟩) :: (n + 1, ⟨1, fun _ => .int .i64 j, 3⟩) :: (n, ⟨1, fun _ => .ptr b 0, 52⟩) :: H.set bo (C t 0)) _ _ (by (try dsimp only); rw [hs0]; rfl)
    (fun s hs => ⟨K, by exact zH, by omega, fun q hq => by rw [Nat.add_assoc]; exact hk6 _ (by omega)⟩) (hB.rowc hi) (fun s hs hz => by (try dsimp only); rw [c2 s hs hz]) (fun t a' b' n' ht ht' hb' hz hn' => ?_)).mono ?_)
  · have hyb := hB.c (64 * i + t) (by omega)
    refine (Hopf_split_1 h j hj F post t a' b' ht (h.c (64 * i + t)) hyb bo z ty (C t) b n (n + 1) (n + 2) (n + 3) K _ _ _ _ _ n' hp (by exact zH) hsz hK hB (by exact zH) rfl rfl (by exact zH) rfl rfl (by exact zH) rfl rfl (by exact zH) rfl rfl (by simp (disch := omega) only [Hp.get_ne]; exact Hp.get_set_self _ go) d1 (by omega) (by omega) (by omega) (by omega)
      (fun s hs hz => c3 t s ht hs hz) (fun s c' d' H2 n2 hs hs' hd' hO hg hn2 => hF t s a' b' c' d' H2 n2 ht hs ht' hb' hs' hd' (fun b1 k1 hb1 hk1 => hO b1 k1 hb1 ?_) hg (by omega))).mono ?_
    · have := getlt hf hk1
      simp (disch := omega) only [Hp.get_ne]
      rw [Hp.get_set_other _ (Ne.symm hb1)]
      exact hk1
    rintro r H' n2 hn2 rfl
    simp (disch := omega) only [Hp.set_eq, Hp.set_ne, Hp.set_set]
    rw [c1 t ht]
  rintro r H' n2 hn2 rfl
  (repeat first|refine zA ?_|(refine CS.tailL _ (List.Mem.head _) ?_;dsimp only[List.take,List.drop])|refine zC ?_|((first|refine zB ?_|(refine LS.nilO ?_;intro nq hnq hltq)|(refine MS.new ?_;intro bq hbq hbqf)|(refine MS.nil ?_;intro nq hnq hltq;have hlq:=hltq _ _ (Hp.get_eq _ _ _);clear hltq)|(refine LS.nilQ ?_;try with_reducible intro nq hnq));try dsimp only[Ex.then,Ex.inBlock,putD,Env.put])|(refine CS.exit ?_;try dsimp only[Ex.then,Ex.inBlock,↓reduceIte,Nat.reduceEqDiff];try simp only[↓reduceIte])|(refine resK.nil ?_;dsimp only[resV]))
  exact ⟨_, H.set bo (C 64 0), rfl, by
    refine Drops.drop (by omega) ?_ (Drops.drop (by omega) ?_ (Drops.drop (by omega) ?_ (Drops.drop (by omega) ?_ (Drops.refl _ _)))) <;> exact Hp.get_set_none _ (hf _ (by omega)), rfl⟩

end Go.Proofs.Ytnkmpelakhhoiab

/- Convolutions of pairings, on both sides. -/
import Derived.Test.YtnkmpelakhhoiabC26
import Derived.Test.YtnkmpelakhhoiabC23
namespace Go.V
theorem cv1_at (p : Int) (c S T : Nat → Int) (i j a b e d : Nat) (hb : b < 8) (hd : d < 8) : cv1 p c S T i j (8 * a + b) (8 * e + d) = c (64 * i + (8 * a + b)) * c (64 * j + (8 * e + d)) % p * S (8 * a + e) % p * T (8 * b + d) := by
  unfold cv1; rw [show (8 * a + b) / 8 = a by omega, show (8 * a + b) % 8 = b by omega, show (8 * e + d) / 8 = e by omega, show (8 * e + d) % 8 = d by omega]
theorem cv2_at (p : Int) (c S T : Nat → Int) (i j a b e d : Nat) (hb : b < 8) (hd : d < 8) : cv2 p c S T i j (8 * a + b) (8 * e + d) = c (64 * i + 8 * a + b) * c (64 * j + 8 * e + d) % p * S (8 * a + e) * T (8 * b + d) := by
  unfold cv2; rw [show (8 * a + b) / 8 = a by omega, show (8 * a + b) % 8 = b by omega, show (8 * e + d) / 8 = e by omega, show (8 * e + d) % 8 = d by omega, Nat.add_assoc (64 * i), Nat.add_assoc (64 * j)]
theorem cv1_zt {p : Int} {c S T : Nat → Int} {i j t s : Nat} (h : c (64 * i + t) = 0) : cv1 p c S T i j t s = 0 := by unfold cv1; rw [h, Int.zero_mul]; simp
theorem cv1_zs {p : Int} {c S T : Nat → Int} {i j t s : Nat} (h : c (64 * j + s) = 0) : cv1 p c S T i j t s = 0 := by unfold cv1; rw [h, Int.mul_zero]; simp
theorem cv2_zt {p : Int} {c S T : Nat → Int} {i j t s : Nat} (h : c (64 * i + t) = 0) : cv2 p c S T i j t s = 0 := by unfold cv2; rw [h, Int.zero_mul]; simp
theorem cv2_zs {p : Int} {c S T : Nat → Int} {i j t s : Nat} (h : c (64 * j + s) = 0) : cv2 p c S T i j t s = 0 := by unfold cv2; rw [h, Int.mul_zero]; simp
/-- The places behind a row of a coproduct are 0. -/
theorem tz.gap {a : Nat} {c : Nat → Int} (hc : tz a c) {i r : Nat} (hi : i < 8) (hr : r < 8) {u : Nat} (h1 : 8 * r + a ≤ u) (h2 : u < 8 * (r + 1)) : c (64 * i + u) = 0 := by
  have := hc i (u / 8) (u % 8) hi (by omega) (by omega) (by omega)
  rwa [show 64 * i + 8 * (u / 8) + u % 8 = 64 * i + u by omega] at this
/-- What a convolution has summed up. -/
def csum (p : Int) (f : Nat → Nat → Int) (t s : Nat) : Int := s2 f t s % p
theorem csum_zero (p : Int) (f : Nat → Nat → Int) : csum p f 0 0 = 0 := by unfold csum; rw [s2_zero]; rfl
theorem csum_step (p : Int) (f : Nat → Nat → Int) (t s : Nat) : (csum p f t s + f t s) % p = csum p f t (s + 1) := by unfold csum; rw [modAddL, s2_step]
theorem csum_next (p : Int) (f : Nat → Nat → Int) (t : Nat) : csum p f t 64 = csum p f (t + 1) 0 := by unfold csum; rw [s2_next]
theorem csum_moreS {p : Int} {f : Nat → Nat → Int} {t s s' : Nat} (h : s ≤ s') (hz : ∀ u, s ≤ u → u < s' → f t u = 0) : csum p f t s' = csum p f t s := by unfold csum; rw [s2_moreS h hz]
theorem csum_moreT {p : Int} {f : Nat → Nat → Int} {t t' : Nat} (h : t ≤ t') (hz : ∀ u, t ≤ u → u < t' → ∀ s, s < 64 → f u s = 0) : csum p f t' 0 = csum p f t 0 := by unfold csum; rw [s2_moreT h hz]
end Go.V
namespace Go.Proofs.Ytnkmpelakhhoiab
open Go.V
set_option linter.unusedSimpArgs false
set_option linter.unusedVariables false
set_option maxHeartbeats 4000000

theorem Hopf_convolved_1 (p : Int) (n' v x : Int) (S T : Nat → Int) (a' b' c' d' : Nat) (ha : a' < 8) (hb' : b' < 8) (hc' : c' < 8) (hd : d' < 8) (bo bS bf bT bs os bt ot : Nat) (KS KT Ks Kt : Blk) (ty : TypeId) (H : Hp) (n : Nat)
    (hp : 2 ≤ p ∧ p ≤ 31) (hv : 0 ≤ v ∧ v ≤ 100000000) (hx : 0 ≤ x ∧ x ≤ 31) (hS : isBy 64 S) (hT : isBy 64 T)
    (go : H.get bo = some ⟨1, fun _ => .int .i64 v, ty⟩) (gS : H.get bS = some KS) (sS : KS.size = 1) (cS : KS.c 0 = .ptr bs os) (gf : H.get bf = some ⟨2, fldC p n', 60⟩) (gT : H.get bT = some KT) (sT : KT.size = 1) (cT : KT.c 0 = .ptr bt ot)
    (gs : H.get bs = some Ks) (ss : os + 64 ≤ Ks.size) (cs : ∀ q, q < 64 → Ks.c (os + q) = .int .u8 (S q)) (gt : H.get bt = some Kt) (st : ot + 64 ≤ Kt.size) (ct : ∀ q, q < 64 → Kt.c (ot + q) = .int .u8 (T q)) :
    FnS Try.prog 58 [i64 a', i64 b', i64 c', i64 d', i64 x, ptr bo 0, ptr bS 0, ptr bf 0, ptr bT 0] H n (fun _ H' _ => H' = H.set bo (fun _ => .int .i64 (v + x * S (8 * a' + c') % p * T (8 * b' + d')))) := by
  have h1 := hS (8 * a' + c') (by omega)
  have h2 := mulB hx.1 hx.2 h1.1 h1.2
  have h3 := modB (x * S (8 * a' + c')) hp.1
  have h4 := hT (8 * b' + d') (by omega)
  have h5 := mulB h3.1 (show _ ≤ 31 by omega) h4.1 h4.2
  refine FnS.of_body Try.func58 tr58 (by simp) (fun hf => ?_)
  dsimp only [argEnv]
  unfold ir58
  have hbn := getlt hf go
  (repeat first|refine zA ?_|(refine CS.tailL _ (List.Mem.head _) ?_;dsimp only[List.take,List.drop])|refine zC ?_|((first|refine zB ?_|(refine LS.nilO ?_;intro nq hnq hltq)|(refine MS.new ?_;intro bq hbq hbqf)|(refine MS.nil ?_;intro nq hnq hltq;have hlq:=hltq _ _ (Hp.get_eq _ _ _);clear hltq)|(refine LS.nilQ ?_;try with_reducible intro nq hnq));try dsimp only[Ex.then,Ex.inBlock,putD,Env.put])|(refine CS.exit ?_;try dsimp only[Ex.then,Ex.inBlock,↓reduceIte,Nat.reduceEqDiff];try simp only[↓reduceIte])|(refine resK.nil ?_;dsimp only[resV]))
  exact ⟨_, H.set bo (fun _ => .int .i64 (v + x * S (8 * a' + c') % p * T (8 * b' + d'))), rfl, Drops.setc go (fun q hq => by
    have hq1 : q < 1 := hq
    obtain rfl : q = 0 := by omega
    rfl), rfl⟩

theorem Hopf_convolved (h : HT) (a : Nat) (S T : Nat → Int) (b bs os bt ot : Nat) (K Ks Kt : Blk) (H : Hp) (n : Nat) (hS : HS h a) (hb : H.get b = some K) (hsz : K.size = 1106) (hK : h.At K.c) (hB : h.By) (hSb : isBy 64 S) (hTb : isBy 64 T)
    (gs : H.get bs = some Ks) (ss : os + 64 ≤ Ks.size) (cs : ∀ q, q < 64 → Ks.c (os + q) = .int .u8 (S q)) (gt : H.get bt = some Kt) (st : ot + 64 ≤ Kt.size) (ct : ∀ q, q < 64 → Kt.c (ot + q) = .int .u8 (T q)) :
    FnS Try.prog 30 [ptr b 0, ptr bs os, ptr bt ot] H n (fun r H' _ => r = .arr 64 (bys (cnv h.p h.c S T)) ∧ H' = H) := by
  have hp := hS.hp
  have ha := hS.ha
  have hk1 := hK.n
  rw [hS.hn] at hk1
  refine FnS.of_body Try.func30 tr30 (by simp) (fun hf => ?_)
  dsimp only [argEnv]
  unfold ir30
  have e0 := getlt hf hb
  have e1 := getlt hf gs
  have e2 := getlt hf gt
  (repeat first|refine zA ?_|(refine CS.tailL _ (List.Mem.head _) ?_;dsimp only[List.take,List.drop])|refine zC ?_|((first|refine zB ?_|(refine LS.nilO ?_;intro nq hnq hltq)|(refine MS.new ?_;intro bq hbq hbqf)|(refine MS.nil ?_;intro nq hnq hltq;have hlq:=hltq _ _ (Hp.get_eq _ _ _);clear hltq)|(refine LS.nilQ ?_;try with_reducible intro nq hnq));try dsimp only[Ex.then,Ex.inBlock,putD,Env.put])|(refine CS.exit ?_;try dsimp only[Ex.then,Ex.inBlock,↓reduceIte,Nat.reduceEqDiff];try simp only[↓reduceIte])|(refine resK.nil ?_;dsimp only[resV]))
  refine RS.call rfl ((Hopf_field h.p a b K _ _ (by exact zH) hsz hK.p hk1 (by omega)).mono ?_)
  rintro r H' n2 hn2 ⟨rfl, rfl⟩
  (repeat first|refine zA ?_|(refine CS.tailL _ (List.Mem.head _) ?_;dsimp only[List.take,List.drop])|refine zC ?_|((first|refine zB ?_|(refine LS.nilO ?_;intro nq hnq hltq)|(refine MS.new ?_;intro bq hbq hbqf)|(refine MS.nil ?_;intro nq hnq hltq;have hlq:=hltq _ _ (Hp.get_eq _ _ _);clear hltq)|(refine LS.nilQ ?_;try with_reducible intro nq hnq));try dsimp only[Ex.then,Ex.inBlock,putD,Env.put])|(refine CS.exit ?_;try dsimp only[Ex.then,Ex.inBlock,↓reduceIte,Nat.reduceEqDiff];try simp only[↓reduceIte])|(refine resK.nil ?_;dsimp only[resV]))
  refine CS.iter a (fun i => [(17, i64 i), (16, i64 a), (0, ptr b 0), (4, ptr n 0), (5, ptr (n + 1) 0), (6, ptr (n + 2) 0), (7, ptr n2 0), (8, ptr (n2 + 1) 0)])
    (fun i => (n2 + 1, ⟨64, bys (cellsTo (cnv h.p h.c S T) (8 * i)), 29⟩) :: (n2, ⟨2, fldC h.p a, 60⟩) :: (n + 2, ⟨64, bys (fun _ => 0), 29⟩) :: (n + 1, ⟨1, fun _ => .ptr bt ot, 53⟩) :: (n, ⟨1, fun _ => .ptr bs os, 53⟩) :: H) (fun _ => True) (by (repeat first | exact trivial | refine And.intro rfl ?_))
    (Drops.keepc rfl rfl (fun _ _ => by rw [show cellsTo (cnv h.p h.c S T) (8 * 0) = fun _ => 0 from cellsTo_zero _]; rfl) (Drops.keepc rfl rfl (fun _ _ => rfl) (Drops.keepc rfl rfl (fun _ _ => rfl) (Drops.refl _ _)))) trivial ?_
  intro i n3 hi hn _
  (repeat first|refine zA ?_|(refine CS.tailL _ (List.Mem.head _) ?_;dsimp only[List.take,List.drop])|refine zC ?_|((first|refine zB ?_|(refine LS.nilO ?_;intro nq hnq hltq)|(refine MS.new ?_;intro bq hbq hbqf)|(refine MS.nil ?_;intro nq hnq hltq;have hlq:=hltq _ _ (Hp.get_eq _ _ _);clear hltq)|(refine LS.nilQ ?_;try with_reducible intro nq hnq));try dsimp only[Ex.then,Ex.inBlock,putD,Env.put])|(refine CS.exit ?_;try dsimp only[Ex.then,Ex.inBlock,↓reduceIte,Nat.reduceEqDiff];try simp only[↓reduceIte])|(refine resK.nil ?_;dsimp only[resV]))
  refine zI ?_ ?_<;>intro h2
  · (repeat first|refine zA ?_|(refine CS.tailL _ (List.Mem.head _) ?_;dsimp only[List.take,List.drop])|refine zC ?_|((first|refine zB ?_|(refine LS.nilO ?_;intro nq hnq hltq)|(refine MS.new ?_;intro bq hbq hbqf)|(refine MS.nil ?_;intro nq hnq hltq;have hlq:=hltq _ _ (Hp.get_eq _ _ _);clear hltq)|(refine LS.nilQ ?_;try with_reducible intro nq hnq));try dsimp only[Ex.then,Ex.inBlock,putD,Env.put])|(refine CS.exit ?_;try dsimp only[Ex.then,Ex.inBlock,↓reduceIte,Nat.reduceEqDiff];try simp only[↓reduceIte])|(refine resK.nil ?_;dsimp only[resV]))
    refine CS.iter a (fun j => [(22, i64 j), (21, i64 a), (9, i64 i), (17, i64 i), (16, i64 a), (0, ptr b 0), (4, ptr n 0), (5, ptr (n + 1) 0), (6, ptr (n + 2) 0), (7, ptr n2 0), (8, ptr (n2 + 1) 0)])
      (fun j => (n2 + 1, ⟨64, bys (cellsTo (cnv h.p h.c S T) (8 * i + j)), 29⟩) :: (n2, ⟨2, fldC h.p a, 60⟩) :: (n + 2, ⟨64, bys (fun _ => 0), 29⟩) :: (n + 1, ⟨1, fun _ => .ptr bt ot, 53⟩) :: (n, ⟨1, fun _ => .ptr bs os, 53⟩) :: H) (fun _ => True) (by (repeat first | exact trivial | refine And.intro rfl ?_))
      (Drops.refl _ _) trivial ?_
    intro j n4 hj hn4 _
    (repeat first|refine zA ?_|(refine CS.tailL _ (List.Mem.head _) ?_;dsimp only[List.take,List.drop])|refine zC ?_|((first|refine zB ?_|(refine LS.nilO ?_;intro nq hnq hltq)|(refine MS.new ?_;intro bq hbq hbqf)|(refine MS.nil ?_;intro nq hnq hltq;have hlq:=hltq _ _ (Hp.get_eq _ _ _);clear hltq)|(refine LS.nilQ ?_;try with_reducible intro nq hnq));try dsimp only[Ex.then,Ex.inBlock,putD,Env.put])|(refine CS.exit ?_;try dsimp only[Ex.then,Ex.inBlock,↓reduceIte,Nat.reduceEqDiff];try simp only[↓reduceIte])|(refine resK.nil ?_;dsimp only[resV]))
    refine zI ?_ ?_<;>intro h3
    · (repeat first|refine zA ?_|(refine CS.tailL _ (List.Mem.head _) ?_;dsimp only[List.take,List.drop])|refine zC ?_|((first|refine zB ?_|(refine LS.nilO ?_;intro nq hnq hltq)|(refine MS.new ?_;intro bq hbq hbqf)|(refine MS.nil ?_;intro nq hnq hltq;have hlq:=hltq _ _ (Hp.get_eq _ _ _);clear hltq)|(refine LS.nilQ ?_;try with_reducible intro nq hnq));try dsimp only[Ex.then,Ex.inBlock,putD,Env.put])|(refine CS.exit ?_;try dsimp only[Ex.then,Ex.inBlock,↓reduceIte,Nat.reduceEqDiff];try simp only[↓reduceIte])|(refine resK.nil ?_;dsimp only[resV]))
      refine LS.hpd (H1 := (n4, ⟨1, fun _ => .int .i64 (s2 (cv1 h.p h.c S T i j) 0 0), 3⟩) :: (n2 + 1, ⟨64, bys (cellsTo (cnv h.p h.c S T) (8 * i + j)), 29⟩) :: (n2, ⟨2, fldC h.p a, 60⟩) :: (n + 2, ⟨64, bys (fun _ => 0), 29⟩) :: (n + 1, ⟨1, fun _ => .ptr bt ot, 53⟩) :: (n, ⟨1, fun _ => .ptr bs os, 53⟩) :: H)
        (Drops.keepc rfl rfl (fun q hq => by
          have hq1 : q < 1 := hq
          obtain rfl : q = 0 := by omega
          rw [s2_zero]; rfl) (Drops.refl _ _)) ?_
      refine RS.call rfl ((Hopf_split h i j (by omega) (by omega) _ _ n4 1 3 (fun t s => fun _ => .int .i64 (s2 (cv1 h.p h.c S T i j) t s)) b K _ _ hp (by exact zH) hsz hK hB (by exact zH) (by omega)
        (fun t ht => by rw [s2_next]) (fun t ht hz => by rw [s2_moreT (t := t) (t' := t + 1) (by omega) (fun u h1 h2 v hv => by (obtain rfl : u = t := by omega); exact cv1_zt hz)])
        (fun t s ht hs hz => by rw [s2_moreS (s := s) (s' := s + 1) (by omega) (fun u h1 h2 => by (obtain rfl : u = s := by omega); exact cv1_zs hz)])
        (fun t s a' b' c' d' H2 n' ht hs ht' hb' hs' hd' hO hg hn' => ?_)).mono ?_)
      · have hbd := s2_b (f := cv1 h.p h.c S T i j) (B := 8000) (by omega) (fun t s ht hs => cv1_b hp hTb ht hs) (t := t) (s := s) (.inl ht) (by omega)
        have hx := modB (h.c (64 * i + t) * h.c (64 * j + s)) hp.1
        refine (Hopf_convolved_1 h.p a (s2 (cv1 h.p h.c S T i j) t s) (h.c (64 * i + t) * h.c (64 * j + s) % h.p) S T a' b' c' d' (by omega) hb' (by omega) hd' n4 n n2 (n + 1) bs os bt ot _ _ Ks Kt 3 H2 n' hp (by omega) (by omega) hSb hTb hg
          (hO _ _ (by omega) (by exact zH)) rfl rfl (hO _ _ (by omega) (by exact zH)) (hO _ _ (by omega) (by exact zH)) rfl rfl (hO _ _ (by omega) (by exact zH)) ss cs (hO _ _ (by omega) (by exact zH)) st ct).mono ?_
        rintro r H3 n5 hn5 rfl
        rw [← s2_step, ht', hs', cv1_at _ _ _ _ _ _ _ _ _ _ hb' hd']
      rintro r H' n5 hn5 rfl
      simp (disch := omega) only [Hp.set_eq, Hp.set_ne]
      have hbd := s2_b (f := cv1 h.p h.c S T i j) (B := 8000) (by omega) (fun t s ht hs => cv1_b hp hTb ht hs) (t := 64) (s := 0) (.inr ⟨rfl, rfl⟩) (by omega)
      have hmd := modB (s2 (cv1 h.p h.c S T i j) 64 0) hp.1
      (repeat first|refine zA ?_|(refine CS.tailL _ (List.Mem.head _) ?_;dsimp only[List.take,List.drop])|refine zC ?_|((first|refine zB ?_|(refine LS.nilO ?_;intro nq hnq hltq)|(refine MS.new ?_;intro bq hbq hbqf)|(refine MS.nil ?_;intro nq hnq hltq;have hlq:=hltq _ _ (Hp.get_eq _ _ _);clear hltq)|(refine LS.nilQ ?_;try with_reducible intro nq hnq));try dsimp only[Ex.then,Ex.inBlock,putD,Env.put])|(refine CS.exit ?_;try dsimp only[Ex.then,Ex.inBlock,↓reduceIte,Nat.reduceEqDiff];try simp only[↓reduceIte])|(refine resK.nil ?_;dsimp only[resV]))
      refine LS.callQ (u8 (s2 (cv1 h.p h.c S T i j) 64 0 % h.p)) rfl (fun n' hn' => field_mod h.p a _ _ _ hp.1 hp.2 (by omega)) ?_
      (repeat first|refine zA ?_|(refine CS.tailL _ (List.Mem.head _) ?_;dsimp only[List.take,List.drop])|refine zC ?_|((first|refine zB ?_|(refine LS.nilO ?_;intro nq hnq hltq)|(refine MS.new ?_;intro bq hbq hbqf)|(refine MS.nil ?_;intro nq hnq hltq;have hlq:=hltq _ _ (Hp.get_eq _ _ _);clear hltq)|(refine LS.nilQ ?_;try with_reducible intro nq hnq));try dsimp only[Ex.then,Ex.inBlock,putD,Env.put])|(refine CS.exit ?_;try dsimp only[Ex.then,Ex.inBlock,↓reduceIte,Nat.reduceEqDiff];try simp only[↓reduceIte])|(refine resK.nil ?_;dsimp only[resV]))
      refine ⟨by omega, by (repeat first | exact trivial | refine And.intro rfl ?_), Drops.drop (by omega) (by simp (disch := omega) only [Hp.get_ne]; exact hf _ (by omega)) (Drops.keepc rfl rfl (fun q hq => ?_) (Drops.refl _ _)), trivial⟩
      rw [← cnv_at _ _ _ _ _ _ (show j < 8 by omega)]
      exact cellsTo_step _ _ q
    · have : j = a := by omega
      subst this
      (repeat first|refine zA ?_|(refine CS.tailL _ (List.Mem.head _) ?_;dsimp only[List.take,List.drop])|refine zC ?_|((first|refine zB ?_|(refine LS.nilO ?_;intro nq hnq hltq)|(refine MS.new ?_;intro bq hbq hbqf)|(refine MS.nil ?_;intro nq hnq hltq;have hlq:=hltq _ _ (Hp.get_eq _ _ _);clear hltq)|(refine LS.nilQ ?_;try with_reducible intro nq hnq));try dsimp only[Ex.then,Ex.inBlock,putD,Env.put])|(refine CS.exit ?_;try dsimp only[Ex.then,Ex.inBlock,↓reduceIte,Nat.reduceEqDiff];try simp only[↓reduceIte])|(refine resK.nil ?_;dsimp only[resV]))
      exact ⟨by omega, by (repeat first | exact trivial | refine And.intro rfl ?_), Drops.keepc rfl rfl (fun q hq => by rw [cellsTo_more (x := 8 * i + j) (y := 8 * (i + 1)) (by omega) (fun q h1 h2 => cnv_zero hS.cm (by omega) (by omega))]) (Drops.refl _ _), trivial⟩
  · have : i = a := by omega
    subst this
    (repeat first|refine zA ?_|(refine CS.tailL _ (List.Mem.head _) ?_;dsimp only[List.take,List.drop])|refine zC ?_|((first|refine zB ?_|(refine LS.nilO ?_;intro nq hnq hltq)|(refine MS.new ?_;intro bq hbq hbqf)|(refine MS.nil ?_;intro nq hnq hltq;have hlq:=hltq _ _ (Hp.get_eq _ _ _);clear hltq)|(refine LS.nilQ ?_;try with_reducible intro nq hnq));try dsimp only[Ex.then,Ex.inBlock,putD,Env.put])|(refine CS.exit ?_;try dsimp only[Ex.then,Ex.inBlock,↓reduceIte,Nat.reduceEqDiff];try simp only[↓reduceIte])|(refine resK.nil ?_;dsimp only[resV]))
    exact ⟨.arr 64 (bys (cnv h.p h.c S T)), H, conc_arr (fun q hq => by
      simp only [Nat.zero_add]
      rw [cellsTo_more (x := 8 * i) (y := 64) (by omega) (fun q h1 h2 => cnv_zero hS.cm h2 (by omega))]
      simp only [bys, cellsTo]
      rw [if_pos (by omega)]), by exact zD, rfl, rfl⟩

theorem spec_l10Convolve (h : HT) (a : Nat) (S T : Nat → Int) (K : Nat → SV) (H : Hp) (n : Nat) (hS : HS h a) (hK : h.At K) (hB : h.By) (hSb : isBy 64 S) (hTb : isBy 64 T) :
    FnS Try.prog 26 [.arr 1106 K, .arr 64 (bys S), .arr 64 (bys T)] H n (fun r H' _ => r = .arr 64 (bys (cnv h.p h.c S T)) ∧ H' = H) := by
  have hp := hS.hp
  have ha := hS.ha
  have hk0 := hK.p
  have hk1 := hK.n
  rw [hS.hn] at hk1
  have hk5 := hK.c
  refine FnS.of_body Try.func26 tr26 (by simp) (fun hf => ?_)
  dsimp only [argEnv]
  unfold ir26
  (repeat first|refine zA ?_|(refine CS.tailL _ (List.Mem.head _) ?_;dsimp only[List.take,List.drop])|refine zC ?_|((first|refine zB ?_|(refine LS.nilO ?_;intro nq hnq hltq)|(refine MS.new ?_;intro bq hbq hbqf)|(refine MS.nil ?_;intro nq hnq hltq;have hlq:=hltq _ _ (Hp.get_eq _ _ _);clear hltq)|(refine LS.nilQ ?_;try with_reducible intro nq hnq));try dsimp only[Ex.then,Ex.inBlock,putD,Env.put])|(refine CS.exit ?_;try dsimp only[Ex.then,Ex.inBlock,↓reduceIte,Nat.reduceEqDiff];try simp only[↓reduceIte])|(refine resK.nil ?_;dsimp only[resV]))
  revert bq
  intro b1 hb1 hb1f hl1
  refine CS.iter a (fun i => [(9, i64 i), (3, ptr n 0), (4, ptr (n + 1) 0), (5, ptr (n + 2) 0), (6, ptr (n + 3) 0), (7, ptr b1 0), (8, i64 a)])
    (fun i => (b1, ⟨64, bys (cellsTo (cnv h.p h.c S T) (8 * i)), 29⟩) :: (n + 3, ⟨64, bys (fun _ => 0), 29⟩) :: (n + 2, ⟨64, bys T, 29⟩) :: (n + 1, ⟨64, bys S, 29⟩) :: (n, ⟨1106, K, 35⟩) :: H) (fun _ => True) (by (repeat first | exact trivial | refine And.intro rfl ?_))
    (Drops.keepc rfl rfl (fun _ _ => by rw [show cellsTo (cnv h.p h.c S T) (8 * 0) = fun _ => 0 from cellsTo_zero _]; rfl) (Drops.keepc rfl rfl (fun _ _ => rfl) (Drops.refl _ _))) trivial ?_
  intro i n3 hi hn _
  (repeat first|refine zA ?_|(refine CS.tailL _ (List.Mem.head _) ?_;dsimp only[List.take,List.drop])|refine zC ?_|((first|refine zB ?_|(refine LS.nilO ?_;intro nq hnq hltq)|(refine MS.new ?_;intro bq hbq hbqf)|(refine MS.nil ?_;intro nq hnq hltq;have hlq:=hltq _ _ (Hp.get_eq _ _ _);clear hltq)|(refine LS.nilQ ?_;try with_reducible intro nq hnq));try dsimp only[Ex.then,Ex.inBlock,putD,Env.put])|(refine CS.exit ?_;try dsimp only[Ex.then,Ex.inBlock,↓reduceIte,Nat.reduceEqDiff];try simp only[↓reduceIte])|(refine resK.nil ?_;dsimp only[resV]))
  refine zI ?_ ?_<;>intro h2
  · (repeat first|refine zA ?_|(refine CS.tailL _ (List.Mem.head _) ?_;dsimp only[List.take,List.drop])|refine zC ?_|((first|refine zB ?_|(refine LS.nilO ?_;intro nq hnq hltq)|(refine MS.new ?_;intro bq hbq hbqf)|(refine MS.nil ?_;intro nq hnq hltq;have hlq:=hltq _ _ (Hp.get_eq _ _ _);clear hltq)|(refine LS.nilQ ?_;try with_reducible intro nq hnq));try dsimp only[Ex.then,Ex.inBlock,putD,Env.put])|(refine CS.exit ?_;try dsimp only[Ex.then,Ex.inBlock,↓reduceIte,Nat.reduceEqDiff];try simp only[↓reduceIte])|(refine resK.nil ?_;dsimp only[resV]))
    refine CS.iter a (fun j => [(10, i64 j), (9, i64 i), (3, ptr n 0), (4, ptr (n + 1) 0), (5, ptr (n + 2) 0), (6, ptr (n + 3) 0), (7, ptr b1 0), (8, i64 a)])
      (fun j => (b1, ⟨64, bys (cellsTo (cnv h.p h.c S T) (8 * i + j)), 29⟩) :: (n + 3, ⟨64, bys (fun _ => 0), 29⟩) :: (n + 2, ⟨64, bys T, 29⟩) :: (n + 1, ⟨64, bys S, 29⟩) :: (n, ⟨1106, K, 35⟩) :: H) (fun _ => True) (by (repeat first | exact trivial | refine And.intro rfl ?_))
      (Drops.refl _ _) trivial ?_
    intro j n4 hj hn4 _
    (repeat first|refine zA ?_|(refine CS.tailL _ (List.Mem.head _) ?_;dsimp only[List.take,List.drop])|refine zC ?_|((first|refine zB ?_|(refine LS.nilO ?_;intro nq hnq hltq)|(refine MS.new ?_;intro bq hbq hbqf)|(refine MS.nil ?_;intro nq hnq hltq;have hlq:=hltq _ _ (Hp.get_eq _ _ _);clear hltq)|(refine LS.nilQ ?_;try with_reducible intro nq hnq));try dsimp only[Ex.then,Ex.inBlock,putD,Env.put])|(refine CS.exit ?_;try dsimp only[Ex.then,Ex.inBlock,↓reduceIte,Nat.reduceEqDiff];try simp only[↓reduceIte])|(refine resK.nil ?_;dsimp only[resV]))
    refine zI ?_ ?_<;>intro h3
    · (repeat first|refine zA ?_|(refine CS.tailL _ (List.Mem.head _) ?_;dsimp only[List.take,List.drop])|refine zC ?_|((first|refine zB ?_|(refine LS.nilO ?_;intro nq hnq hltq)|(refine MS.new ?_;intro bq hbq hbqf)|(refine MS.nil ?_;intro nq hnq hltq;have hlq:=hltq _ _ (Hp.get_eq _ _ _);clear hltq)|(refine LS.nilQ ?_;try with_reducible intro nq hnq));try dsimp only[Ex.then,Ex.inBlock,putD,Env.put])|(refine CS.exit ?_;try dsimp only[Ex.then,Ex.inBlock,↓reduceIte,Nat.reduceEqDiff];try simp only[↓reduceIte])|(refine resK.nil ?_;dsimp only[resV]))
      refine CS.iter a (fun A => [(12, i64 A), (11, i64 (csum h.p (cv2 h.p h.c S T i j) (8 * A) 0)), (10, i64 j), (9, i64 i), (3, ptr n 0), (4, ptr (n + 1) 0), (5, ptr (n + 2) 0), (6, ptr (n + 3) 0), (7, ptr b1 0), (8, i64 a)])
        (fun _ => (b1, ⟨64, bys (cellsTo (cnv h.p h.c S T) (8 * i + j)), 29⟩) :: (n + 3, ⟨64, bys (fun _ => 0), 29⟩) :: (n + 2, ⟨64, bys T, 29⟩) :: (n + 1, ⟨64, bys S, 29⟩) :: (n, ⟨1106, K, 35⟩) :: H) (fun _ => True) (by rw [show csum h.p (cv2 h.p h.c S T i j) (8 * 0) 0 = 0 from csum_zero _ _]; (repeat first | exact trivial | refine And.intro rfl ?_))
        (Drops.refl _ _) trivial ?_
      intro A n5 hA hn5 _
      (repeat first|refine zA ?_|(refine CS.tailL _ (List.Mem.head _) ?_;dsimp only[List.take,List.drop])|refine zC ?_|((first|refine zB ?_|(refine LS.nilO ?_;intro nq hnq hltq)|(refine MS.new ?_;intro bq hbq hbqf)|(refine MS.nil ?_;intro nq hnq hltq;have hlq:=hltq _ _ (Hp.get_eq _ _ _);clear hltq)|(refine LS.nilQ ?_;try with_reducible intro nq hnq));try dsimp only[Ex.then,Ex.inBlock,putD,Env.put])|(refine CS.exit ?_;try dsimp only[Ex.then,Ex.inBlock,↓reduceIte,Nat.reduceEqDiff];try simp only[↓reduceIte])|(refine resK.nil ?_;dsimp only[resV]))
      refine zI ?_ ?_<;>intro h4
      · (repeat first|refine zA ?_|(refine CS.tailL _ (List.Mem.head _) ?_;dsimp only[List.take,List.drop])|refine zC ?_|((first|refine zB ?_|(refine LS.nilO ?_;intro nq hnq hltq)|(refine MS.new ?_;intro bq hbq hbqf)|(refine MS.nil ?_;intro nq hnq hltq;have hlq:=hltq _ _ (Hp.get_eq _ _ _);clear hltq)|(refine LS.nilQ ?_;try with_reducible intro nq hnq));try dsimp only[Ex.then,Ex.inBlock,putD,Env.put])|(refine CS.exit ?_;try dsimp only[Ex.then,Ex.inBlock,↓reduceIte,Nat.reduceEqDiff];try simp only[↓reduceIte])|(refine resK.nil ?_;dsimp only[resV]))
        refine CS.iter a (fun B => [(13, i64 B), (12, i64 A), (11, i64 (csum h.p (cv2 h.p h.c S T i j) (8 * A + B) 0)), (10, i64 j), (9, i64 i), (3, ptr n 0), (4, ptr (n + 1) 0), (5, ptr (n + 2) 0), (6, ptr (n + 3) 0), (7, ptr b1 0), (8, i64 a)])
          (fun _ => (b1, ⟨64, bys (cellsTo (cnv h.p h.c S T) (8 * i + j)), 29⟩) :: (n + 3, ⟨64, bys (fun _ => 0), 29⟩) :: (n + 2, ⟨64, bys T, 29⟩) :: (n + 1, ⟨64, bys S, 29⟩) :: (n, ⟨1106, K, 35⟩) :: H) (fun _ => True) (by (repeat first | exact trivial | refine And.intro rfl ?_))
          (Drops.refl _ _) trivial ?_
        intro B n6 hBB hn6 _
        (repeat first|refine zA ?_|(refine CS.tailL _ (List.Mem.head _) ?_;dsimp only[List.take,List.drop])|refine zC ?_|((first|refine zB ?_|(refine LS.nilO ?_;intro nq hnq hltq)|(refine MS.new ?_;intro bq hbq hbqf)|(refine MS.nil ?_;intro nq hnq hltq;have hlq:=hltq _ _ (Hp.get_eq _ _ _);clear hltq)|(refine LS.nilQ ?_;try with_reducible intro nq hnq));try dsimp only[Ex.then,Ex.inBlock,putD,Env.put])|(refine CS.exit ?_;try dsimp only[Ex.then,Ex.inBlock,↓reduceIte,Nat.reduceEqDiff];try simp only[↓reduceIte])|(refine resK.nil ?_;dsimp only[resV]))
        refine zI ?_ ?_<;>intro h5
        · have hct := hB.c (64 * i + 8 * A + B) (by omega)
          (repeat first|refine zA ?_|(refine CS.tailL _ (List.Mem.head _) ?_;dsimp only[List.take,List.drop])|refine zC ?_|((first|refine zB ?_|(refine LS.nilO ?_;intro nq hnq hltq)|(refine MS.new ?_;intro bq hbq hbqf)|(refine MS.nil ?_;intro nq hnq hltq;have hlq:=hltq _ _ (Hp.get_eq _ _ _);clear hltq)|(refine LS.nilQ ?_;try with_reducible intro nq hnq));try dsimp only[Ex.then,Ex.inBlock,putD,Env.put])|(refine CS.exit ?_;try dsimp only[Ex.then,Ex.inBlock,↓reduceIte,Nat.reduceEqDiff];try simp only[↓reduceIte])|(refine resK.nil ?_;dsimp only[resV]))
          refine zI ?_ ?_<;>intro h6
          · (repeat first|refine zA ?_|(refine CS.tailL _ (List.Mem.head _) ?_;dsimp only[List.take,List.drop])|refine zC ?_|((first|refine zB ?_|(refine LS.nilO ?_;intro nq hnq hltq)|(refine MS.new ?_;intro bq hbq hbqf)|(refine MS.nil ?_;intro nq hnq hltq;have hlq:=hltq _ _ (Hp.get_eq _ _ _);clear hltq)|(refine LS.nilQ ?_;try with_reducible intro nq hnq));try dsimp only[Ex.then,Ex.inBlock,putD,Env.put])|(refine CS.exit ?_;try dsimp only[Ex.then,Ex.inBlock,↓reduceIte,Nat.reduceEqDiff];try simp only[↓reduceIte])|(refine resK.nil ?_;dsimp only[resV]))
            refine ⟨by omega, ?_, Drops.refl _ _, trivial⟩
            rw [csum_moreT (t := 8 * A + B) (t' := 8 * A + (B + 1)) (by omega) (fun u u1 u2 v hv => cv2_zt (by (obtain rfl : u = 8 * A + B := by omega); rw [← Nat.add_assoc]; exact h6))]
            (repeat first | exact trivial | refine And.intro rfl ?_)
          · (repeat first|refine zA ?_|(refine CS.tailL _ (List.Mem.head _) ?_;dsimp only[List.take,List.drop])|refine zC ?_|((first|refine zB ?_|(refine LS.nilO ?_;intro nq hnq hltq)|(refine MS.new ?_;intro bq hbq hbqf)|(refine MS.nil ?_;intro nq hnq hltq;have hlq:=hltq _ _ (Hp.get_eq _ _ _);clear hltq)|(refine LS.nilQ ?_;try with_reducible intro nq hnq));try dsimp only[Ex.then,Ex.inBlock,putD,Env.put])|(refine CS.exit ?_;try dsimp only[Ex.then,Ex.inBlock,↓reduceIte,Nat.reduceEqDiff];try simp only[↓reduceIte])|(refine resK.nil ?_;dsimp only[resV]))
            refine CS.iter a (fun C => [(14, i64 C), (13, i64 B), (12, i64 A), (11, i64 (csum h.p (cv2 h.p h.c S T i j) (8 * A + B) (8 * C))), (10, i64 j), (9, i64 i), (3, ptr n 0), (4, ptr (n + 1) 0), (5, ptr (n + 2) 0), (6, ptr (n + 3) 0), (7, ptr b1 0), (8, i64 a)])
              (fun _ => (b1, ⟨64, bys (cellsTo (cnv h.p h.c S T) (8 * i + j)), 29⟩) :: (n + 3, ⟨64, bys (fun _ => 0), 29⟩) :: (n + 2, ⟨64, bys T, 29⟩) :: (n + 1, ⟨64, bys S, 29⟩) :: (n, ⟨1106, K, 35⟩) :: H) (fun _ => True) (by (repeat first | exact trivial | refine And.intro rfl ?_))
              (Drops.refl _ _) trivial ?_
            intro C n7 hC hn7 _
            (repeat first|refine zA ?_|(refine CS.tailL _ (List.Mem.head _) ?_;dsimp only[List.take,List.drop])|refine zC ?_|((first|refine zB ?_|(refine LS.nilO ?_;intro nq hnq hltq)|(refine MS.new ?_;intro bq hbq hbqf)|(refine MS.nil ?_;intro nq hnq hltq;have hlq:=hltq _ _ (Hp.get_eq _ _ _);clear hltq)|(refine LS.nilQ ?_;try with_reducible intro nq hnq));try dsimp only[Ex.then,Ex.inBlock,putD,Env.put])|(refine CS.exit ?_;try dsimp only[Ex.then,Ex.inBlock,↓reduceIte,Nat.reduceEqDiff];try simp only[↓reduceIte])|(refine resK.nil ?_;dsimp only[resV]))
            refine zI ?_ ?_<;>intro h7
            · (repeat first|refine zA ?_|(refine CS.tailL _ (List.Mem.head _) ?_;dsimp only[List.take,List.drop])|refine zC ?_|((first|refine zB ?_|(refine LS.nilO ?_;intro nq hnq hltq)|(refine MS.new ?_;intro bq hbq hbqf)|(refine MS.nil ?_;intro nq hnq hltq;have hlq:=hltq _ _ (Hp.get_eq _ _ _);clear hltq)|(refine LS.nilQ ?_;try with_reducible intro nq hnq));try dsimp only[Ex.then,Ex.inBlock,putD,Env.put])|(refine CS.exit ?_;try dsimp only[Ex.then,Ex.inBlock,↓reduceIte,Nat.reduceEqDiff];try simp only[↓reduceIte])|(refine resK.nil ?_;dsimp only[resV]))
              refine CS.iter a (fun D => [(15, i64 D), (14, i64 C), (13, i64 B), (12, i64 A), (11, i64 (csum h.p (cv2 h.p h.c S T i j) (8 * A + B) (8 * C + D))), (10, i64 j), (9, i64 i), (3, ptr n 0), (4, ptr (n + 1) 0), (5, ptr (n + 2) 0), (6, ptr (n + 3) 0), (7, ptr b1 0), (8, i64 a)])
                (fun _ => (b1, ⟨64, bys (cellsTo (cnv h.p h.c S T) (8 * i + j)), 29⟩) :: (n + 3, ⟨64, bys (fun _ => 0), 29⟩) :: (n + 2, ⟨64, bys T, 29⟩) :: (n + 1, ⟨64, bys S, 29⟩) :: (n, ⟨1106, K, 35⟩) :: H) (fun _ => True) (by (repeat first | exact trivial | refine And.intro rfl ?_))
                (Drops.refl _ _) trivial ?_
              intro D n8 hD hn8 _
              (repeat first|refine zA ?_|(refine CS.tailL _ (List.Mem.head _) ?_;dsimp only[List.take,List.drop])|refine zC ?_|((first|refine zB ?_|(refine LS.nilO ?_;intro nq hnq hltq)|(refine MS.new ?_;intro bq hbq hbqf)|(refine MS.nil ?_;intro nq hnq hltq;have hlq:=hltq _ _ (Hp.get_eq _ _ _);clear hltq)|(refine LS.nilQ ?_;try with_reducible intro nq hnq));try dsimp only[Ex.then,Ex.inBlock,putD,Env.put])|(refine CS.exit ?_;try dsimp only[Ex.then,Ex.inBlock,↓reduceIte,Nat.reduceEqDiff];try simp only[↓reduceIte])|(refine resK.nil ?_;dsimp only[resV]))
              refine zI ?_ ?_<;>intro h8
              · have q1 := hB.c (64 * j + 8 * C + D) (by omega)
                have q2 := mulB hct.1 hct.2 q1.1 q1.2
                have q3 := modB (h.c (64 * i + 8 * A + B) * h.c (64 * j + 8 * C + D)) hp.1
                have q4 := hSb (8 * A + C) (by omega)
                have q5 := mulB q3.1 (show _ ≤ 31 by omega) q4.1 q4.2
                have q6 := hTb (8 * B + D) (by omega)
                have q7 := mulB q5.1 q5.2 q6.1 q6.2
                have q8 : 0 ≤ csum h.p (cv2 h.p h.c S T i j) (8 * A + B) (8 * C + D) ∧ csum h.p (cv2 h.p h.c S T i j) (8 * A + B) (8 * C + D) < h.p := modB _ hp.1
                (repeat first|refine zA ?_|(refine CS.tailL _ (List.Mem.head _) ?_;dsimp only[List.take,List.drop])|refine zC ?_|((first|refine zB ?_|(refine LS.nilO ?_;intro nq hnq hltq)|(refine MS.new ?_;intro bq hbq hbqf)|(refine MS.nil ?_;intro nq hnq hltq;have hlq:=hltq _ _ (Hp.get_eq _ _ _);clear hltq)|(refine LS.nilQ ?_;try with_reducible intro nq hnq));try dsimp only[Ex.then,Ex.inBlock,putD,Env.put])|(refine CS.exit ?_;try dsimp only[Ex.then,Ex.inBlock,↓reduceIte,Nat.reduceEqDiff];try simp only[↓reduceIte])|(refine resK.nil ?_;dsimp only[resV]))
                refine ⟨by omega, ?_, Drops.refl _ _, trivial⟩
                rw [show 8 * C + (D + 1) = 8 * C + D + 1 from rfl, ← csum_step, cv2_at _ _ _ _ _ _ _ _ _ _ (by omega) (by omega)]
                (repeat first | exact trivial | refine And.intro rfl ?_)
              · have : D = a := by omega
                subst this
                (repeat first|refine zA ?_|(refine CS.tailL _ (List.Mem.head _) ?_;dsimp only[List.take,List.drop])|refine zC ?_|((first|refine zB ?_|(refine LS.nilO ?_;intro nq hnq hltq)|(refine MS.new ?_;intro bq hbq hbqf)|(refine MS.nil ?_;intro nq hnq hltq;have hlq:=hltq _ _ (Hp.get_eq _ _ _);clear hltq)|(refine LS.nilQ ?_;try with_reducible intro nq hnq));try dsimp only[Ex.then,Ex.inBlock,putD,Env.put])|(refine CS.exit ?_;try dsimp only[Ex.then,Ex.inBlock,↓reduceIte,Nat.reduceEqDiff];try simp only[↓reduceIte])|(refine resK.nil ?_;dsimp only[resV]))
                refine ⟨by omega, ?_, Drops.refl _ _, trivial⟩
                rw [csum_moreS (s := 8 * C + D) (s' := 8 * (C + 1)) (by omega) (fun u u1 u2 => cv2_zs (hS.cm.gap (by omega) (by omega) u1 u2))]
                (repeat first | exact trivial | refine And.intro rfl ?_)
            · have : C = a := by omega
              subst this
              (repeat first|refine zA ?_|(refine CS.tailL _ (List.Mem.head _) ?_;dsimp only[List.take,List.drop])|refine zC ?_|((first|refine zB ?_|(refine LS.nilO ?_;intro nq hnq hltq)|(refine MS.new ?_;intro bq hbq hbqf)|(refine MS.nil ?_;intro nq hnq hltq;have hlq:=hltq _ _ (Hp.get_eq _ _ _);clear hltq)|(refine LS.nilQ ?_;try with_reducible intro nq hnq));try dsimp only[Ex.then,Ex.inBlock,putD,Env.put])|(refine CS.exit ?_;try dsimp only[Ex.then,Ex.inBlock,↓reduceIte,Nat.reduceEqDiff];try simp only[↓reduceIte])|(refine resK.nil ?_;dsimp only[resV]))
              refine ⟨by omega, ?_, Drops.refl _ _, trivial⟩
              rw [show 8 * A + (B + 1) = 8 * A + B + 1 from rfl, ← csum_next, csum_moreS (s := 8 * C) (s' := 64) (by omega) (fun u u1 u2 => cv2_zs (hS.cm.at (by omega) u2 (.inr u1)))]
              (repeat first | exact trivial | refine And.intro rfl ?_)
        · have : B = a := by omega
          subst this
          (repeat first|refine zA ?_|(refine CS.tailL _ (List.Mem.head _) ?_;dsimp only[List.take,List.drop])|refine zC ?_|((first|refine zB ?_|(refine LS.nilO ?_;intro nq hnq hltq)|(refine MS.new ?_;intro bq hbq hbqf)|(refine MS.nil ?_;intro nq hnq hltq;have hlq:=hltq _ _ (Hp.get_eq _ _ _);clear hltq)|(refine LS.nilQ ?_;try with_reducible intro nq hnq));try dsimp only[Ex.then,Ex.inBlock,putD,Env.put])|(refine CS.exit ?_;try dsimp only[Ex.then,Ex.inBlock,↓reduceIte,Nat.reduceEqDiff];try simp only[↓reduceIte])|(refine resK.nil ?_;dsimp only[resV]))
          refine ⟨by omega, ?_, Drops.refl _ _, trivial⟩
          rw [csum_moreT (t := 8 * A + B) (t' := 8 * (A + 1)) (by omega) (fun u u1 u2 v hv => cv2_zt (hS.cm.gap (by omega) (by omega) u1 u2))]
          (repeat first | exact trivial | refine And.intro rfl ?_)
      · have : A = a := by omega
        subst this
        have q8 : 0 ≤ csum h.p (cv2 h.p h.c S T i j) (8 * A) 0 ∧ csum h.p (cv2 h.p h.c S T i j) (8 * A) 0 < h.p := modB _ hp.1
        (repeat first|refine zA ?_|(refine CS.tailL _ (List.Mem.head _) ?_;dsimp only[List.take,List.drop])|refine zC ?_|((first|refine zB ?_|(refine LS.nilO ?_;intro nq hnq hltq)|(refine MS.new ?_;intro bq hbq hbqf)|(refine MS.nil ?_;intro nq hnq hltq;have hlq:=hltq _ _ (Hp.get_eq _ _ _);clear hltq)|(refine LS.nilQ ?_;try with_reducible intro nq hnq));try dsimp only[Ex.then,Ex.inBlock,putD,Env.put])|(refine CS.exit ?_;try dsimp only[Ex.then,Ex.inBlock,↓reduceIte,Nat.reduceEqDiff];try simp only[↓reduceIte])|(refine resK.nil ?_;dsimp only[resV]))
        refine ⟨by omega, by (repeat first | exact trivial | refine And.intro rfl ?_), Drops.keepc rfl rfl (fun q hq => ?_) (Drops.refl _ _), trivial⟩
        rw [← csum_moreT (t := 8 * A) (t' := 64) (by omega) (fun u u1 u2 v hv => cv2_zt (hS.cm.at (by omega) u2 (.inr u1))), show csum h.p (cv2 h.p h.c S T i j) 64 0 = cnv h.p h.c S T (8 * i + j) by rw [cnv_at _ _ _ _ _ _ (by omega), s2_modc (cv12 h.p h.c S T i j)]; rfl]
        exact cellsTo_step _ _ q
    · have : j = a := by omega
      subst this
      (repeat first|refine zA ?_|(refine CS.tailL _ (List.Mem.head _) ?_;dsimp only[List.take,List.drop])|refine zC ?_|((first|refine zB ?_|(refine LS.nilO ?_;intro nq hnq hltq)|(refine MS.new ?_;intro bq hbq hbqf)|(refine MS.nil ?_;intro nq hnq hltq;have hlq:=hltq _ _ (Hp.get_eq _ _ _);clear hltq)|(refine LS.nilQ ?_;try with_reducible intro nq hnq));try dsimp only[Ex.then,Ex.inBlock,putD,Env.put])|(refine CS.exit ?_;try dsimp only[Ex.then,Ex.inBlock,↓reduceIte,Nat.reduceEqDiff];try simp only[↓reduceIte])|(refine resK.nil ?_;dsimp only[resV]))
      exact ⟨by omega, by (repeat first | exact trivial | refine And.intro rfl ?_), Drops.keepc rfl rfl (fun q hq => by rw [cellsTo_more (x := 8 * i + j) (y := 8 * (i + 1)) (by omega) (fun q h1 h2 => cnv_zero hS.cm (by omega) (by omega))]) (Drops.refl _ _), trivial⟩
  · have : i = a := by omega
    subst this
    (repeat first|refine zA ?_|(refine CS.tailL _ (List.Mem.head _) ?_;dsimp only[List.take,List.drop])|refine zC ?_|((first|refine zB ?_|(refine LS.nilO ?_;intro nq hnq hltq)|(refine MS.new ?_;intro bq hbq hbqf)|(refine MS.nil ?_;intro nq hnq hltq;have hlq:=hltq _ _ (Hp.get_eq _ _ _);clear hltq)|(refine LS.nilQ ?_;try with_reducible intro nq hnq));try dsimp only[Ex.then,Ex.inBlock,putD,Env.put])|(refine CS.exit ?_;try dsimp only[Ex.then,Ex.inBlock,↓reduceIte,Nat.reduceEqDiff];try simp only[↓reduceIte])|(refine resK.nil ?_;dsimp only[resV]))
    exact ⟨.arr 64 (bys (cnv h.p h.c S T)), H, conc_arr (fun q hq => by
      simp only [Nat.zero_add]
      rw [cellsTo_more (x := 8 * i) (y := 64) (by omega) (fun q h1 h2 => cnv_zero hS.cm h2 (by omega))]
      simp only [bys, cellsTo]
      rw [if_pos (by omega)]), by exact zD, rfl, rfl⟩

end Go.Proofs.Ytnkmpelakhhoiab

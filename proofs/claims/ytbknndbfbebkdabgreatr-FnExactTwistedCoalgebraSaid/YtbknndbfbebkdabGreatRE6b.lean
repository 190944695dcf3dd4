/- Contracts of the program's functions. -/
import Derived.Test.YtbknndbfbebkdabGreatRR
import Derived.Test.YtbknndbfbebkdabGreatRLW
import Derived.Test.YtbknndbfbebkdabGreatRE5b
namespace Go.Proofs.YtbknndbfbebkdabGreatR
open Go.V
set_option linter.unusedSimpArgs false
set_option linter.unusedVariables false
set_option maxHeartbeats 4000000
/-- (*impl.Hopf).isTwist -/
def ir41 : Cd := (.seq (.reg [⟨some 4,none,.mov (.c (.bool false))⟩]) (.seq (.reg [⟨some 9,none,.mov (.t 0)⟩,⟨some 10,none,.call 49 [(.t 9)]⟩,⟨some 5,none,.new 85 [(2,(.int .i64 0))]⟩,⟨none,none,.st 2 (.t 5) (.t 10)⟩]) (.seq (.reg [⟨some 11,none,.mov (.t 1)⟩,⟨some 12,none,.call 60 [(.t 11)]⟩,⟨some 6,none,.new 29 [(64,(.int .u8 0))]⟩,⟨none,none,.st 64 (.t 6) (.t 12)⟩]) (.seq (.seq (.drw true [] [⟨some 13,none,.ld (some 2) (.t 5)⟩,⟨some 14,none,.mov (.t 1)⟩,⟨some 15,none,.mov (.t 0)⟩,⟨some 16,none,.ck (.t 15)⟩,⟨some 17,none,.fa 522 (.t 16)⟩,⟨some 18,none,.ld (some 8) (.t 17)⟩,⟨some 19,none,.call 53 [(.t 13),(.t 14),(.t 18)]⟩,⟨some 20,none,.mov (.t 0)⟩,⟨some 21,none,.ck (.t 20)⟩,⟨some 22,none,.fa 2 (.t 21)⟩,⟨some 23,none,.ld (some 8) (.t 22)⟩,⟨some 24,none,.eqa true 8 (.t 19) (.t 23)⟩,⟨some 25,none,.mov (.t 24)⟩,⟨some 26,(some (25,false)),.ld (some 2) (.t 5)⟩,⟨some 27,(some (25,false)),.mov (.t 0)⟩,⟨some 28,(some (25,false)),.ck (.t 27)⟩,⟨some 29,(some (25,false)),.fa 522 (.t 28)⟩,⟨some 30,(some (25,false)),.ld (some 8) (.t 29)⟩,⟨some 31,(some (25,false)),.call 53 [(.t 26),(.t 6),(.t 30)]⟩,⟨some 32,(some (25,false)),.mov (.t 0)⟩,⟨some 33,(some (25,false)),.ck (.t 32)⟩,⟨some 34,(some (25,false)),.fa 2 (.t 33)⟩,⟨some 35,(some (25,false)),.ld (some 8) (.t 34)⟩,⟨some 36,(some (25,false)),.eqa true 8 (.t 31) (.t 35)⟩,⟨some 37,none,.pick (.t 25) (.c (.bool true)) (.t 36)⟩]) (.cond (.t 37) (.seq (.reg [⟨some 4,none,.mov (.c (.bool false))⟩]) .ret) .skip)) (.seq (.reg [⟨some 38,none,.mov (.t 0)⟩,⟨some 39,none,.mov (.t 1)⟩,⟨some 40,none,.call 61 [(.t 38),(.t 39)]⟩,⟨some 41,none,.mov (.t 0)⟩,⟨some 42,none,.mov (.t 1)⟩,⟨some 43,none,.call 62 [(.t 41),(.t 42)]⟩,⟨some 7,none,.new 33 [(512,(.int .u8 0))]⟩,⟨some 8,none,.new 33 [(512,(.int .u8 0))]⟩,⟨none,none,.st 512 (.t 7) (.t 40)⟩,⟨none,none,.st 512 (.t 8) (.t 43)⟩]) (.seq (.reg [⟨some 44,none,.mov (.t 0)⟩,⟨some 45,none,.mov (.t 1)⟩,⟨some 46,none,.call 63 [(.t 44),(.t 45),(.t 7)]⟩,⟨some 47,none,.mov (.t 0)⟩,⟨some 48,none,.mov (.t 1)⟩,⟨some 49,none,.call 64 [(.t 47),(.t 48),(.t 8)]⟩,⟨some 50,none,.eqa false 512 (.t 46) (.t 49)⟩,⟨some 4,none,.mov (.t 50)⟩]) .ret))))))
set_option maxRecDepth 100000 in
theorem tr41 : trFn Tryz.prog Tryz.f41 = some (51, ir41, [.tmp 4]) := by kernel_rfl
theorem Hopf_isTwist (h : HT) (a : Nat) (s : Nat → Int) (b bs os : Nat) (K Ks : Blk) (H : Hp) (n : Nat) (hS : HS h a) (hb : H.get b = some K) (hsz : K.size = 1106) (hK : h.At K.c) (hB : h.By)
    (hbs : H.get bs = some Ks) (ho : os + 64 ≤ Ks.size) (hc : ∀ i, i < 64 → Ks.c (os + i) = .int .u8 (s i)) (hs : isBy 64 s) (hz : lz a s) :
    FnS Tryz.prog 41 [ptr b 0, ptr bs os] H n (fun r H' _ => r = bl (tb (isTw h s)) ∧ H' = H) := by
  have hp := hS.hp
  have ha := hS.ha
  have hk1 := hK.n
  rw [hS.hn] at hk1
  have hk2 := hK.u
  have hk3 := hK.e
  refine FnS.of_body Tryz.func41 tr41 (by simp) (fun hf => ?_)
  dsimp only [argEnv]
  unfold ir41
  have hbn := getlt hf hb
  have hbn2 := getlt hf hbs
  (repeat first|refine zG ?_|(refine LS.nilO ?_;intro nq hnq hltq;try refine zU ?_)|(refine MS.new ?_;intro bq hbq hbqf;try refine zU ?_)|(refine MS.nil ?_;intro nq hnq hltq;have hlq:=hltq _ _ (Hp.get_eq _ _ _);clear hltq;try refine zU ?_)|(refine LS.nilQ ?_;try with_reducible intro nq hnq;try refine zU ?_))
  refine RS.call rfl ((Hopf_field h.p a b K _ _ (by exact zH) hsz hK.p hk1 (by omega)).mono ?_)
  rintro r H n2 hn2 ⟨rfl, rfl⟩
  (repeat first|refine zG ?_|(refine LS.nilO ?_;intro nq hnq hltq;try refine zU ?_)|(refine MS.new ?_;intro bq hbq hbqf;try refine zU ?_)|(refine MS.nil ?_;intro nq hnq hltq;have hlq:=hltq _ _ (Hp.get_eq _ _ _);clear hltq;try refine zU ?_)|(refine LS.nilQ ?_;try with_reducible intro nq hnq;try refine zU ?_))
  refine RS.call rfl ((impl_transposed s bs os Ks _ _ (by exact zH) ho hc).mono ?_)
  rintro r H' n3 hn3 ⟨rfl, rfl⟩
  (repeat first|refine zG ?_|(refine LS.nilO ?_;intro nq hnq hltq;try refine zU ?_)|(refine MS.new ?_;intro bq hbq hbqf;try refine zU ?_)|(refine MS.nil ?_;intro nq hnq hltq;have hlq:=hltq _ _ (Hp.get_eq _ _ _);clear hltq;try refine zU ?_)|(refine LS.nilQ ?_;try with_reducible intro nq hnq;try refine zU ?_))
  obtain ⟨x1, hx1⟩ : ∃ x, x = app h.p s h.e := ⟨_, rfl⟩
  obtain ⟨x2, hx2⟩ : ∃ x, x = app h.p (trn s) h.e := ⟨_, rfl⟩
  have htr : isBy 64 (trn s) := fun q hq => hs _ (by omega)
  refine LS.callQ (.arr 8 (bys x1)) rfl (fun n' hn' => by rw [hx1]; exact field_apply h.p a s h.e bs os Ks _ _ hp (by exact zH) ho hc hs hB.e) ?_
  (repeat first|refine zG ?_|(refine LS.nilO ?_;intro nq hnq hltq;try refine zU ?_)|(refine MS.new ?_;intro bq hbq hbqf;try refine zU ?_)|(refine MS.nil ?_;intro nq hnq hltq;have hlq:=hltq _ _ (Hp.get_eq _ _ _);clear hltq;try refine zU ?_)|(refine LS.nilQ ?_;try with_reducible intro nq hnq;try refine zU ?_))
  refine RS.sp (t := 25) rfl (fun h1 => ?_) (fun h1 => ?_) <;> (try simp only [tb_eq, tb_eqF, decide_eq_true_eq, decide_eq_false_iff_not, beq_iff_eq, bne_iff_ne, ne_eq, Decidable.not_not, beq_eq_false_iff_ne, bne_eq_false_iff_eq, Bool.not_eq_true', Bool.not_eq_false', Bool.not_eq_eq_eq_not, Bool.not_true, Bool.not_false] at h1)
  · (repeat first|refine zG ?_|(refine LS.nilO ?_;intro nq hnq hltq;try refine zU ?_)|(refine MS.new ?_;intro bq hbq hbqf;try refine zU ?_)|(refine MS.nil ?_;intro nq hnq hltq;have hlq:=hltq _ _ (Hp.get_eq _ _ _);clear hltq;try refine zU ?_)|(refine LS.nilQ ?_;try with_reducible intro nq hnq;try refine zU ?_))
    exact ⟨_, H, rfl, by exact zD, by rw [tb_false (fun q : isTw h s => h1 (by rw [hx1]; exact q.1))], rfl⟩
  (repeat first|refine zG ?_|(refine LS.nilO ?_;intro nq hnq hltq;try refine zU ?_)|(refine MS.new ?_;intro bq hbq hbqf;try refine zU ?_)|(refine MS.nil ?_;intro nq hnq hltq;have hlq:=hltq _ _ (Hp.get_eq _ _ _);clear hltq;try refine zU ?_)|(refine LS.nilQ ?_;try with_reducible intro nq hnq;try refine zU ?_))
  refine LS.callQ (.arr 8 (bys x2)) rfl (fun n' hn' => by rw [hx2]; exact field_apply h.p a (trn s) h.e n3 0 ⟨64, bys (trn s), 29⟩ _ _ hp (by exact zH) (by simp) (fun q hq => by rw [Nat.zero_add]; rfl) htr hB.e) ?_
  (repeat first|refine zG ?_|(refine LS.nilO ?_;intro nq hnq hltq;try refine zU ?_)|(refine MS.new ?_;intro bq hbq hbqf;try refine zU ?_)|(refine MS.nil ?_;intro nq hnq hltq;have hlq:=hltq _ _ (Hp.get_eq _ _ _);clear hltq;try refine zU ?_)|(refine LS.nilQ ?_;try with_reducible intro nq hnq;try refine zU ?_))
  refine zI ?_ ?_<;>intro h2
  · (repeat first|refine zG ?_|(refine LS.nilO ?_;intro nq hnq hltq;try refine zU ?_)|(refine MS.new ?_;intro bq hbq hbqf;try refine zU ?_)|(refine MS.nil ?_;intro nq hnq hltq;have hlq:=hltq _ _ (Hp.get_eq _ _ _);clear hltq;try refine zU ?_)|(refine LS.nilQ ?_;try with_reducible intro nq hnq;try refine zU ?_))
    exact ⟨_, H, rfl, by exact zD, by rw [tb_false (fun q : isTw h s => h2 (by rw [hx2]; exact q.2.1))], rfl⟩
  (repeat first|refine zG ?_|(refine LS.nilO ?_;intro nq hnq hltq;try refine zU ?_)|(refine MS.new ?_;intro bq hbq hbqf;try refine zU ?_)|(refine MS.nil ?_;intro nq hnq hltq;have hlq:=hltq _ _ (Hp.get_eq _ _ _);clear hltq;try refine zU ?_)|(refine LS.nilQ ?_;try with_reducible intro nq hnq;try refine zU ?_))
  obtain ⟨y1, hy1⟩ : ∃ x, x = fpt h.p h.c s a := ⟨_, rfl⟩
  obtain ⟨y2, hy2⟩ : ∃ x, x = snd h.p h.c s := ⟨_, rfl⟩
  have b1 : isBy 512 y1 := by rw [hy1]; exact (fpt_res hp.1 _ _ _ 512).by hp.2
  have b2 : isBy 512 y2 := by rw [hy2]; exact fun q hq => (cps_res hp.1 _ _ 8 64).by hp.2 _ (by omega)
  refine RS.call rfl ((Hopf_firstPart h a s b bs os K Ks _ _ hS (by exact zH) hsz hK hB (by exact zH) ho hc hs).mono ?_)
  rw [← hy1]
  rintro r H' n4 hn4 ⟨rfl, rfl⟩
  (repeat first|refine zG ?_|(refine LS.nilO ?_;intro nq hnq hltq;try refine zU ?_)|(refine MS.new ?_;intro bq hbq hbqf;try refine zU ?_)|(refine MS.nil ?_;intro nq hnq hltq;have hlq:=hltq _ _ (Hp.get_eq _ _ _);clear hltq;try refine zU ?_)|(refine LS.nilQ ?_;try with_reducible intro nq hnq;try refine zU ?_))
  refine RS.call rfl ((Hopf_secondPart h a s b bs os K Ks _ _ hS (by exact zH) hsz hK hB (by exact zH) ho hc hs hz).mono ?_)
  rw [← hy2]
  rintro r H' n5 hn5 ⟨rfl, rfl⟩
  (repeat first|refine zG ?_|(refine LS.nilO ?_;intro nq hnq hltq;try refine zU ?_)|(refine MS.new ?_;intro bq hbq hbqf;try refine zU ?_)|(refine MS.nil ?_;intro nq hnq hltq;have hlq:=hltq _ _ (Hp.get_eq _ _ _);clear hltq;try refine zU ?_)|(refine LS.nilQ ?_;try with_reducible intro nq hnq;try refine zU ?_))
  have hfz : ∀ q, q < 512 → fpt h.p h.c s a q = fpt h.p h.c s 8 q := fun q hq => by
    unfold fpt; rw [sm_more (n := a) (m := 8) ha (fun i i1 i2 => by rw [hS.cm.at i2 (by omega) (.inl i1), Int.zero_mul])]
  obtain ⟨x3, hx3⟩ : ∃ x, x = tmf h.p h.m s y1 := ⟨_, rfl⟩
  obtain ⟨x4, hx4⟩ : ∃ x, x = tml h.p h.m s y2 := ⟨_, rfl⟩
  refine RS.call rfl ((Hopf_timesFirst h a s y1 b bs os n5 0 K Ks ⟨512, bys y1, 33⟩ _ _ hS (by exact zH) hsz hK hB hs b1 (by exact zH) ho hc (by exact zH) (by simp) (fun q hq => by rw [Nat.zero_add]; rfl)).mono ?_)
  rw [← hx3]
  rintro r H' n6 hn6 ⟨rfl, rfl⟩
  (repeat first|refine zG ?_|(refine LS.nilO ?_;intro nq hnq hltq;try refine zU ?_)|(refine MS.new ?_;intro bq hbq hbqf;try refine zU ?_)|(refine MS.nil ?_;intro nq hnq hltq;have hlq:=hltq _ _ (Hp.get_eq _ _ _);clear hltq;try refine zU ?_)|(refine LS.nilQ ?_;try with_reducible intro nq hnq;try refine zU ?_))
  refine RS.call rfl ((Hopf_timesLast h a s y2 b bs os (n5 + 1) 0 K Ks ⟨512, bys y2, 33⟩ _ _ hS (by exact zH) hsz hK hB hs b2 (by exact zH) ho hc (by exact zH) (by simp) (fun q hq => by rw [Nat.zero_add]; rfl) (fun q q1 q2 => by rw [hy2]; exact tml_zero hz q1 q2)).mono ?_)
  rw [← hx4]
  rintro r H' n7 hn7 ⟨rfl, rfl⟩
  (repeat first|refine zG ?_|(refine LS.nilO ?_;intro nq hnq hltq;try refine zU ?_)|(refine MS.new ?_;intro bq hbq hbqf;try refine zU ?_)|(refine MS.nil ?_;intro nq hnq hltq;have hlq:=hltq _ _ (Hp.get_eq _ _ _);clear hltq;try refine zU ?_)|(refine LS.nilQ ?_;try with_reducible intro nq hnq;try refine zU ?_))
  refine ⟨_, H, rfl, by exact zD, congrArg bl (tb_iff ?_), rfl⟩
  have key : ∀ q, q < 512 → tmf h.p h.m s y1 q = tmf h.p h.m s (fpt h.p h.c s 8) q := fun q hq => by
    unfold tmf; exact ten_modc (fun t ht => rfl) (fun t ht => by rw [hy1, hfz _ (by omega)]) _ (by omega)
  constructor
  · intro q
    exact ⟨by rw [← hx1]; exact h1, by rw [← hx2]; exact h2, fun z hz => by rw [← key z hz, ← hx3, ← hy2, ← hx4]; exact q z hz⟩
  · intro q z hz
    rw [hx3, hx4, key z hz, hy2]; exact q.2.2 z hz
end Go.Proofs.YtbknndbfbebkdabGreatR

/- Systems of linear equations, the program's: one solution of what is solved. -/
import Derived.Test.YtdellpnmbgjofaaC55
namespace Go.Proofs.Ytdellpnmbgjofaa
open Go.V
set_option linter.unusedSimpArgs false
set_option linter.unusedVariables false
set_option maxHeartbeats 4000000

/-- (*impl.system).one -/
def ir20 : Cd := (.seq (.reg [⟨some 2,none,.mov (.c .nils)⟩]) (.seq (.reg [⟨some 6,none,.mov (.t 0)⟩,⟨some 7,none,.ck (.t 6)⟩,⟨some 8,none,.fa 2 (.t 7)⟩,⟨some 9,none,.ld none (.t 8)⟩,⟨some 10,none,.mks 5 1 1 [(1,(.int .u8 0))] (.t 9) (.t 9)⟩,⟨some 3,none,.mov (.t 10)⟩]) (.seq (.seq (.reg [⟨some 11,none,.mov (.t 0)⟩,⟨some 12,none,.ck (.t 11)⟩,⟨some 13,none,.fa 4 (.t 12)⟩,⟨some 14,none,.ld none (.t 13)⟩,⟨some 15,none,.len (.t 14)⟩,⟨some 16,none,.mov (.c (.int .i64 0))⟩]) (.block 0 (.loop (.seq (.reg [⟨some 17,none,.bin .lss (.t 16) (.t 15)⟩]) (.seq (.cond (.t 17) .skip (.exit 0)) (.seq (.block 1 (.seq (.reg [⟨some 18,none,.mov (.t 16)⟩,⟨some 19,none,.isl 1 (.t 14) (.t 16)⟩,⟨some 20,none,.ld none (.t 19)⟩,⟨some 4,none,.mov (.t 18)⟩,⟨some 5,none,.mov (.t 20)⟩]) (.drw true [16] [⟨some 21,none,.mov (.t 3)⟩,⟨some 22,none,.mov (.t 5)⟩,⟨some 23,none,.mov (.t 0)⟩,⟨some 24,none,.ck (.t 23)⟩,⟨some 25,none,.fa 3 (.t 24)⟩,⟨some 26,none,.ld none (.t 25)⟩,⟨some 27,none,.mov (.t 4)⟩,⟨some 28,none,.isl 1 (.t 26) (.t 27)⟩,⟨some 29,none,.ld none (.t 28)⟩,⟨some 30,none,.mov (.t 0)⟩,⟨some 31,none,.ck (.t 30)⟩,⟨some 32,none,.fa 2 (.t 31)⟩,⟨some 33,none,.ld none (.t 32)⟩,⟨some 34,none,.isl 1 (.t 29) (.t 33)⟩,⟨some 35,none,.ld none (.t 34)⟩,⟨some 36,none,.isl 1 (.t 21) (.t 22)⟩,⟨none,none,.st 1 (.t 36) (.t 35)⟩]))) (.reg [⟨some 37,none,.bin .add (.t 16) (.c (.int .i64 1))⟩,⟨some 16,none,.mov (.t 37)⟩]))))))) (.seq (.reg [⟨some 38,none,.mov (.t 3)⟩,⟨some 2,none,.mov (.t 38)⟩]) .ret))))
set_option maxRecDepth 100000 in
theorem tr20 : trFn Try.prog Try.f20 = some (39, ir20, [.tmp 2]) := by kernel_rfl

theorem system_one (p : Int) (a d : Nat) (R : Nat → Nat → Int) (pl : Nat → Nat) (sb rb pb : Nat) (bk : Nat → Nat) (ks : Blk) (H : Hp) (n : Nat) (ha : a ≤ 8) (hd : d ≤ 8)
    (hS : SY H sb p a d R rb bk ks) (hP : SL H (ks.c 4) d (fun k => .int .i64 (pl k : Nat)) pb) (hpl : ∀ k, k < d → pl k < a) :
    FnS Try.prog 20 [ptr sb 0] H n (fun r H' _ => r = .s (.slc n 0 a a) ∧ ∃ k : Blk, H' = (n, k) :: H ∧ k.size = a ∧ ∀ x, x < a → k.c x = .int .u8 (sol R a pl d x)) := by
  obtain ⟨gs, ss, s0, s1, s2, srow, hrow, d1, d2, d3⟩ := hS
  refine FnS.of_body Try.func20 tr20 (by simp) (fun hf => ?_)
  dsimp only [argEnv]
  unfold ir20
  have hsn := getlt hf gs
  have s2' : ks.c (0 + 2) = .int .i64 a := s2
  have s3' : ks.c (0 + 3) = ks.c 3 := rfl
  have s4' : ks.c (0 + 4) = ks.c 4 := rfl
  (repeat first|refine zG ?_|(refine LS.nilO ?_;intro nq hnq hltq;try refine zU ?_)|(refine MS.new ?_;intro bq hbq hbqf;try refine zU ?_)|(refine MS.nil ?_;intro nq hnq hltq;have hlq:=hltq _ _ (Hp.get_eq _ _ _);clear hltq;try refine zU ?_)|(refine LS.nilQ ?_;try with_reducible intro nq hnq;try refine zU ?_))
  refine RS.mks (len := a) (cap := a) (by exact rfl) (by exact rfl) rfl rfl (by omega) (by omega) (by omega) ?_
  rcases hP with ⟨h4, rfl⟩ | ⟨po, pcap, kp, h4, gp, sp, pm, cp⟩
  · rw [h4] at s4'
    (repeat first|refine zG ?_|(refine LS.nilO ?_;intro nq hnq hltq;try refine zU ?_)|(refine MS.new ?_;intro bq hbq hbqf;try refine zU ?_)|(refine MS.nil ?_;intro nq hnq hltq;have hlq:=hltq _ _ (Hp.get_eq _ _ _);clear hltq;try refine zU ?_)|(refine LS.nilQ ?_;try with_reducible intro nq hnq;try refine zU ?_))
    refine CS.iter 0 (fun i => [(16, i64 (i : Nat)), (15, i64 0), (3, .s (.slc n 0 a a))]) (fun _ => (n, ⟨a, fun _ => .int .u8 0, 5⟩) :: H) (fun _ => True) (by (repeat first | exact trivial | refine And.intro rfl ?_)) (Drops.keepc (by (try dsimp only); omega) rfl (fun q hq => by (try dsimp only); rw [Nat.mod_one]; rfl) (Drops.refl _ _)) trivial ?_
    intro i n1 hi hn _
    obtain rfl : i = 0 := by omega
    (repeat first|refine zG ?_|(refine LS.nilO ?_;intro nq hnq hltq;try refine zU ?_)|(refine MS.new ?_;intro bq hbq hbqf;try refine zU ?_)|(refine MS.nil ?_;intro nq hnq hltq;have hlq:=hltq _ _ (Hp.get_eq _ _ _);clear hltq;try refine zU ?_)|(refine LS.nilQ ?_;try with_reducible intro nq hnq;try refine zU ?_))
    exact ⟨.s (.slc n 0 a a), _, rfl, Drops.refl _ _, rfl, _, rfl, rfl, fun x hx => rfl⟩
  · rw [h4] at s4'
    have hpn := getlt hf gp
    (repeat first|refine zG ?_|(refine LS.nilO ?_;intro nq hnq hltq;try refine zU ?_)|(refine MS.new ?_;intro bq hbq hbqf;try refine zU ?_)|(refine MS.nil ?_;intro nq hnq hltq;have hlq:=hltq _ _ (Hp.get_eq _ _ _);clear hltq;try refine zU ?_)|(refine LS.nilQ ?_;try with_reducible intro nq hnq;try refine zU ?_))
    refine CS.iter d (fun i => [(16, i64 (i : Nat)), (15, i64 (d : Nat)), (14, .s (.slc pb po d pcap)), (3, .s (.slc n 0 a a)), (0, ptr sb 0)]) (fun i => (n, ⟨a, fun x => .int .u8 (sol R a pl i x), 5⟩) :: H) (fun _ => True) (by (repeat first | exact trivial | refine And.intro rfl ?_)) (Drops.keepc (by (try dsimp only); omega) rfl (fun q hq => by (try dsimp only); rw [Nat.mod_one]; rfl) (Drops.refl _ _)) trivial ?_
    intro i n1 hi hn _
    (repeat first|refine zG ?_|(refine LS.nilO ?_;intro nq hnq hltq;try refine zU ?_)|(refine MS.new ?_;intro bq hbq hbqf;try refine zU ?_)|(refine MS.nil ?_;intro nq hnq hltq;have hlq:=hltq _ _ (Hp.get_eq _ _ _);clear hltq;try refine zU ?_)|(refine LS.nilQ ?_;try with_reducible intro nq hnq;try refine zU ?_))
    refine zI ?_ ?_<;>intro h5
    · have cp1 : kp.c (po + i * 1) = .int .i64 (pl i : Nat) := by rw [Nat.mul_one]; exact cp i (by omega)
      rcases srow with ⟨_, rfl⟩ | ⟨ro, rcap, rk, r3, rg, rs, rm, rc⟩
      · omega
      rw [r3] at s3'
      have rc1 : rk.c (ro + i * 1) = .slc (bk i) 0 (a + 1) (a + 1) := by rw [Nat.mul_one]; exact rc i (by omega)
      obtain ⟨ki, gi, si, ci⟩ := hrow i (by omega)
      have ci1 : ki.c (0 + a * 1) = .int .u8 (R i a) := by rw [Nat.zero_add, Nat.mul_one]; exact ci a (by omega)
      have hpi := hpl i (by omega)
      have hrn := getlt hf rg
      have hin := getlt hf gi
      (repeat first|refine zG ?_|(refine LS.nilO ?_;intro nq hnq hltq;try refine zU ?_)|(refine MS.new ?_;intro bq hbq hbqf;try refine zU ?_)|(refine MS.nil ?_;intro nq hnq hltq;have hlq:=hltq _ _ (Hp.get_eq _ _ _);clear hltq;try refine zU ?_)|(refine LS.nilQ ?_;try with_reducible intro nq hnq;try refine zU ?_))
      refine ⟨by omega, by (repeat first | exact trivial | refine And.intro rfl ?_), Drops.keepc rfl rfl (fun q hq => ?_) (Drops.refl _ _), trivial⟩
      (try dsimp only)
      rw [Nat.zero_add, Nat.mul_one]
      unfold put1
      show _ = SV.int IntKind.u8 (if q = pl i then R i a else sol R a pl i q)
      by_cases e : q = pl i
      · rw [if_pos e, if_pos e]
      · rw [if_neg e, if_neg e]
    · obtain rfl : i = d := by omega
      (repeat first|refine zG ?_|(refine LS.nilO ?_;intro nq hnq hltq;try refine zU ?_)|(refine MS.new ?_;intro bq hbq hbqf;try refine zU ?_)|(refine MS.nil ?_;intro nq hnq hltq;have hlq:=hltq _ _ (Hp.get_eq _ _ _);clear hltq;try refine zU ?_)|(refine LS.nilQ ?_;try with_reducible intro nq hnq;try refine zU ?_))
      exact ⟨.s (.slc n 0 a a), _, rfl, Drops.refl _ _, rfl, _, rfl, rfl, fun x hx => rfl⟩

end Go.Proofs.Ytdellpnmbgjofaa

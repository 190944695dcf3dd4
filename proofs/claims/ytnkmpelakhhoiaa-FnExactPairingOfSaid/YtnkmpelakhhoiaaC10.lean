/- The parts of a Hopf table, on both sides. -/
import Derived.Test.YtnkmpelakhhoiaaC9
namespace Go.V

/-- The cells of a Hopf table: prime, size, unit, products, counit, coproducts, antipode. -/
structure HT where
  p : Int
  n : Int
  u : Nat → Int
  m : Nat → Int
  e : Nat → Int
  c : Nat → Int
  s : Nat → Int

/-- A row of cells holds the table. -/
structure HT.At (h : HT) (K : Nat → SV) : Prop where
  p : K 0 = .int .i64 h.p
  n : K 1 = .int .i64 h.n
  u : ∀ q, q < 8 → K (2 + q) = .int .u8 (h.u q)
  m : ∀ q, q < 512 → K (10 + q) = .int .u8 (h.m q)
  e : ∀ q, q < 8 → K (522 + q) = .int .u8 (h.e q)
  c : ∀ q, q < 512 → K (530 + q) = .int .u8 (h.c q)
  s : ∀ q, q < 64 → K (1042 + q) = .int .u8 (h.s q)

/-- Its small cells are bytes. -/
structure HT.By (h : HT) : Prop where
  u : isBy 8 h.u
  m : isBy 512 h.m
  e : isBy 8 h.e
  c : isBy 512 h.c
  s : isBy 64 h.s
end Go.V
namespace Go.Proofs.Ytnkmpelakhhoiaa
open Go.V
set_option linter.unusedSimpArgs false
set_option linter.unusedVariables false
set_option maxHeartbeats 4000000

/-- What the parts of a Hopf table are called with: a new block that holds an algebra or a coalgebra. -/
def newAlg (t : Nat) (p n' : Int) (u m : Nat → Int) (n : Nat) (H : Hp) (r : AV) (H' : Hp) (n2 : Nat) : Prop :=
  ∃ b c, r = ptr b 0 ∧ n ≤ b ∧ b < n2 ∧ H' = (b, ⟨522, c, t⟩) :: H ∧ c 0 = .int .i64 p ∧ c 1 = .int .i64 n' ∧ (∀ q, q < 8 → c (2 + q) = .int .u8 (u q)) ∧ (∀ q, q < 512 → c (10 + q) = .int .u8 (m q))

theorem Hopf_algebra (h : HT) (b : Nat) (K : Blk) (H : Hp) (n : Nat) (hb : H.get b = some K) (hsz : K.size = 1106) (hK : h.At K.c) :
    FnS Try.prog 72 [ptr b 0] H n (newAlg 102 h.p h.n h.u h.m n H) := by
  obtain ⟨k0, k1, k2, k3, k4, k5, k6⟩ := hK
  refine FnS.of_body Try.func72 tr72 (by simp) (fun hf => ?_)
  dsimp only [argEnv]
  unfold ir72
  have hbn := getlt hf hb
  (repeat first|refine zA ?_|(refine CS.tailL _ (List.Mem.head _) ?_;dsimp only[List.take,List.drop])|refine zC ?_|((first|refine zB ?_|(refine LS.nilO ?_;intro nq hnq hltq)|(refine MS.new ?_;intro bq hbq hbqf)|(refine MS.nil ?_;intro nq hnq hltq;have hlq:=hltq _ _ (Hp.get_eq _ _ _);clear hltq)|(refine LS.nilQ ?_;try with_reducible intro nq hnq));try dsimp only[Ex.then,Ex.inBlock,putD,Env.put])|(refine CS.exit ?_;try dsimp only[Ex.then,Ex.inBlock,↓reduceIte,Nat.reduceEqDiff];try simp only[↓reduceIte])|(refine resK.nil ?_;dsimp only[resV]))
  refine ⟨ptr nq 0, _, rfl, Drops.refl _ _, nq, _, rfl, hnq, by omega, rfl, ?_, ?_, fun q hq => ?_, fun q hq => ?_⟩
  · simp [splice, put1]
  · simp [splice, put1]
  · simp only [splice]
    rw [if_neg (by omega), if_pos (by omega), Nat.add_sub_cancel_left]
    rfl
  · simp only [splice]
    rw [if_pos (by omega), Nat.add_sub_cancel_left]
    rfl

theorem Hopf_coalgebra (h : HT) (b : Nat) (K : Blk) (H : Hp) (n : Nat) (hb : H.get b = some K) (hsz : K.size = 1106) (hK : h.At K.c) :
    FnS Try.prog 74 [ptr b 0] H n (newAlg 112 h.p h.n h.e h.c n H) := by
  obtain ⟨k0, k1, k2, k3, k4, k5, k6⟩ := hK
  refine FnS.of_body Try.func74 tr74 (by simp) (fun hf => ?_)
  dsimp only [argEnv]
  unfold ir74
  have hbn := getlt hf hb
  (repeat first|refine zA ?_|(refine CS.tailL _ (List.Mem.head _) ?_;dsimp only[List.take,List.drop])|refine zC ?_|((first|refine zB ?_|(refine LS.nilO ?_;intro nq hnq hltq)|(refine MS.new ?_;intro bq hbq hbqf)|(refine MS.nil ?_;intro nq hnq hltq;have hlq:=hltq _ _ (Hp.get_eq _ _ _);clear hltq)|(refine LS.nilQ ?_;try with_reducible intro nq hnq));try dsimp only[Ex.then,Ex.inBlock,putD,Env.put])|(refine CS.exit ?_;try dsimp only[Ex.then,Ex.inBlock,↓reduceIte,Nat.reduceEqDiff];try simp only[↓reduceIte])|(refine resK.nil ?_;dsimp only[resV]))
  refine ⟨ptr nq 0, _, rfl, Drops.refl _ _, nq, _, rfl, hnq, by omega, rfl, ?_, ?_, fun q hq => ?_, fun q hq => ?_⟩
  · simp [splice, put1]
  · simp [splice, put1]
  · simp only [splice]
    rw [if_neg (by omega), if_pos (by omega), Nat.add_sub_cancel_left]
    rfl
  · simp only [splice]
    rw [if_pos (by omega), Nat.add_sub_cancel_left]
    rfl

end Go.Proofs.Ytnkmpelakhhoiaa

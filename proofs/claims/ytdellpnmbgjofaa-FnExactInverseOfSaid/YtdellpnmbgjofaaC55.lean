/- Systems of linear equations, the program's: the solution. -/
import Derived.Test.YtdellpnmbgjofaaC54
namespace Go.V
theorem tb_not_eq {x : Int} : tb (x ≠ 0) = (x != 0) := by
  by_cases h : x = 0
  · rw [tb_false (fun q => q h)]; simp [h]
  · rw [tb_true h]; simp [h]
end Go.V
namespace Go.Proofs.Ytdellpnmbgjofaa
open Go.V
set_option linter.unusedSimpArgs false
set_option linter.unusedVariables false
set_option maxHeartbeats 4000000

/-- (*impl.system).solve$1 -/
def ir37 : Cd := (.seq (.reg [⟨some 3,none,.mov (.c (.bool false))⟩]) (.seq (.reg [⟨some 4,none,.mov (.t 0)⟩,⟨some 5,none,.ld none (.t 1)⟩,⟨some 6,none,.isl 1 (.t 4) (.t 5)⟩,⟨some 7,none,.ld none (.t 6)⟩,⟨some 8,none,.bin .neq (.t 7) (.c (.int .u8 0))⟩,⟨some 3,none,.mov (.t 8)⟩]) .ret))
set_option maxRecDepth 100000 in
theorem tr37 : trFn Try.prog Try.f37 = some (9, ir37, [.tmp 3]) := by kernel_rfl

theorem system_solve_1 (R : Nat → Int) (a c b bc : Nat) (kr kc : Blk) (H : Hp) (n : Nat) (gr : H.get b = some kr) (sr : kr.size = a + 1) (cr : ∀ x, x < a + 1 → kr.c x = .int .u8 (R x)) (hc : c ≤ a)
    (gc : H.get bc = some kc) (sc : kc.size = 1) (cc : kc.c 0 = .int .i64 c) :
    FnS Try.prog 37 [.s (.slc b 0 (a + 1) (a + 1)), ptr bc 0] H n (fun r H' _ => r = bl (tb (R c ≠ 0)) ∧ H' = H) := by
  have cr1 : kr.c (0 + c * 1) = .int .u8 (R c) := by rw [Nat.zero_add, Nat.mul_one]; exact cr c (by omega)
  refine FnS.of_body Try.func37 tr37 (by simp) (fun hf => ?_)
  dsimp only [argEnv]
  unfold ir37
  (repeat first|refine zG ?_|(refine LS.nilO ?_;intro nq hnq hltq;try refine zU ?_)|(refine MS.new ?_;intro bq hbq hbqf;try refine zU ?_)|(refine MS.nil ?_;intro nq hnq hltq;have hlq:=hltq _ _ (Hp.get_eq _ _ _);clear hltq;try refine zU ?_)|(refine LS.nilQ ?_;try with_reducible intro nq hnq;try refine zU ?_))
  exact ⟨bl (tb (R c ≠ 0)), H, by rw [tb_not_eq], by exact zD, rfl, rfl⟩

/-- (*impl.system).solve$2 -/
def ir40 : Cd := (.seq (.reg [⟨some 3,none,.mov (.c (.bool false))⟩]) (.seq (.reg [⟨some 4,none,.mov (.t 0)⟩,⟨some 5,none,.ld none (.t 1)⟩,⟨some 6,none,.ck (.t 5)⟩,⟨some 7,none,.fa 2 (.t 6)⟩,⟨some 8,none,.ld none (.t 7)⟩,⟨some 9,none,.isl 1 (.t 4) (.t 8)⟩,⟨some 10,none,.ld none (.t 9)⟩,⟨some 11,none,.bin .neq (.t 10) (.c (.int .u8 0))⟩,⟨some 3,none,.mov (.t 11)⟩]) .ret))
set_option maxRecDepth 100000 in
theorem tr40 : trFn Try.prog Try.f40 = some (12, ir40, [.tmp 3]) := by kernel_rfl

theorem system_solve_2 (R : Nat → Int) (a b bs sb : Nat) (kr kb ks : Blk) (H : Hp) (n : Nat) (gr : H.get b = some kr) (sr : kr.size = a + 1) (cr : ∀ x, x < a + 1 → kr.c x = .int .u8 (R x))
    (gb : H.get bs = some kb) (s1 : kb.size = 1) (c1 : kb.c 0 = .ptr sb 0) (gs : H.get sb = some ks) (s5 : ks.size = 5) (c2 : ks.c 2 = .int .i64 a) :
    FnS Try.prog 40 [.s (.slc b 0 (a + 1) (a + 1)), ptr bs 0] H n (fun r H' _ => r = bl (tb (R a ≠ 0)) ∧ H' = H) := by
  have cr1 : kr.c (0 + a * 1) = .int .u8 (R a) := by rw [Nat.zero_add, Nat.mul_one]; exact cr a (by omega)
  have c2' : ks.c (0 + 2) = .int .i64 a := c2
  refine FnS.of_body Try.func40 tr40 (by simp) (fun hf => ?_)
  dsimp only [argEnv]
  unfold ir40
  (repeat first|refine zG ?_|(refine LS.nilO ?_;intro nq hnq hltq;try refine zU ?_)|(refine MS.new ?_;intro bq hbq hbqf;try refine zU ?_)|(refine MS.nil ?_;intro nq hnq hltq;have hlq:=hltq _ _ (Hp.get_eq _ _ _);clear hltq;try refine zU ?_)|(refine LS.nilQ ?_;try with_reducible intro nq hnq;try refine zU ?_))
  exact ⟨bl (tb (R a ≠ 0)), H, by rw [tb_not_eq], by exact zD, rfl, rfl⟩

/-- slices.IndexFunc[[][]byte,[]byte] -/
def ir36 : Cd := (.seq (.reg [⟨some 4,none,.mov (.c (.int .i64 0))⟩]) (.seq (.seq (.reg [⟨some 6,none,.mov (.t 0)⟩,⟨some 7,none,.len (.t 6)⟩,⟨some 8,none,.mov (.c (.int .i64 0))⟩]) (.block 0 (.loop (.seq (.reg [⟨some 9,none,.bin .lss (.t 8) (.t 7)⟩]) (.seq (.cond (.t 9) .skip (.exit 0)) (.seq (.block 1 (.seq (.reg [⟨some 10,none,.mov (.t 8)⟩,⟨some 5,none,.mov (.t 10)⟩]) (.seq (.reg [⟨some 11,none,.mov (.t 1)⟩,⟨some 12,none,.mov (.t 0)⟩,⟨some 13,none,.mov (.t 5)⟩,⟨some 14,none,.isl 1 (.t 12) (.t 13)⟩,⟨some 15,none,.ld none (.t 14)⟩,⟨some 16,none,.callv (.t 11) [(.t 15)]⟩]) (.cond (.t 16) (.seq (.reg [⟨some 17,none,.mov (.t 5)⟩,⟨some 4,none,.mov (.t 17)⟩]) .ret) .skip)))) (.reg [⟨some 18,none,.bin .add (.t 8) (.c (.int .i64 1))⟩,⟨some 8,none,.mov (.t 18)⟩]))))))) (.seq (.reg [⟨some 4,none,.mov (.c (.int .i64 (-1)))⟩]) .ret)))
set_option maxRecDepth 100000 in
theorem tr36 : trFn Try.prog Try.f36 = some (19, ir36, [.tmp 4]) := by kernel_rfl

theorem slices_IndexFuncR (Q : Nat → Prop) (F : FuncId) (post : List SV) (rb o len cap : Nat) (hl : len ≤ 1000) (kr : Blk) (E : Nat → SV) (H : Hp) (n : Nat) (grb : H.get rb = some kr) (hs : o + len ≤ kr.size) (hE : ∀ i, i < len → kr.c (o + i) = E i)
    (hF : ∀ i n' : Nat, i < len → n ≤ n' → FnS Try.prog F ([.s (E i)] ++ post.map .s) H n' (fun r H' _ => r = bl (tb (Q i)) ∧ H' = H)) :
    FnS Try.prog 36 [.s (.slc rb o len cap), .s (.fn F [] post)] H n (fun r H' _ => (∃ x : Int, r = i64 x ∧ ((∃ i : Nat, x = i ∧ i < len ∧ Q i ∧ ∀ j, j < i → ¬Q j) ∨ (x = -1 ∧ ∀ j, j < len → ¬Q j))) ∧ H' = H) := by
  refine FnS.of_body Try.func36 tr36 (by simp) (fun hf => ?_)
  dsimp only [argEnv]
  unfold ir36
  (repeat first|refine zG ?_|(refine LS.nilO ?_;intro nq hnq hltq;try refine zU ?_)|(refine MS.new ?_;intro bq hbq hbqf;try refine zU ?_)|(refine MS.nil ?_;intro nq hnq hltq;have hlq:=hltq _ _ (Hp.get_eq _ _ _);clear hltq;try refine zU ?_)|(refine LS.nilQ ?_;try with_reducible intro nq hnq;try refine zU ?_))
  refine CS.iter len (fun i => [(8, i64 i), (7, i64 len), (0, .s (.slc rb o len cap)), (1, .s (.fn F [] post))]) (fun _ => H) (fun i => ∀ i', i' < i → ¬Q i') (by (repeat first | exact trivial | refine And.intro rfl ?_)) (Drops.refl _ _) (fun _ h => by omega) ?_
  intro i n1 hi hn hJ
  (repeat first|refine zG ?_|(refine LS.nilO ?_;intro nq hnq hltq;try refine zU ?_)|(refine MS.new ?_;intro bq hbq hbqf;try refine zU ?_)|(refine MS.nil ?_;intro nq hnq hltq;have hlq:=hltq _ _ (Hp.get_eq _ _ _);clear hltq;try refine zU ?_)|(refine LS.nilQ ?_;try with_reducible intro nq hnq;try refine zU ?_))
  refine zI ?_ ?_<;>intro h1
  · have hE1 : kr.c (o + i * 1) = E i := by rw [Nat.mul_one]; exact hE i (by omega)
    (repeat first|refine zG ?_|(refine LS.nilO ?_;intro nq hnq hltq;try refine zU ?_)|(refine MS.new ?_;intro bq hbq hbqf;try refine zU ?_)|(refine MS.nil ?_;intro nq hnq hltq;have hlq:=hltq _ _ (Hp.get_eq _ _ _);clear hltq;try refine zU ?_)|(refine LS.nilQ ?_;try with_reducible intro nq hnq;try refine zU ?_))
    refine RS.callv (f := F) (pre := []) (post := post) (vs := [.s (E i)]) (by exact rfl) (by exact rfl) ?_
    refine FnS.mono (hF i n1 (by omega) (by omega)) ?_
    rintro r H n2 hn2 ⟨rfl, rfl⟩
    (repeat first|refine zG ?_|(refine LS.nilO ?_;intro nq hnq hltq;try refine zU ?_)|(refine MS.new ?_;intro bq hbq hbqf;try refine zU ?_)|(refine MS.nil ?_;intro nq hnq hltq;have hlq:=hltq _ _ (Hp.get_eq _ _ _);clear hltq;try refine zU ?_)|(refine LS.nilQ ?_;try with_reducible intro nq hnq;try refine zU ?_))
    refine zI ?_ ?_<;>intro h2
    · (repeat first|refine zG ?_|(refine LS.nilO ?_;intro nq hnq hltq;try refine zU ?_)|(refine MS.new ?_;intro bq hbq hbqf;try refine zU ?_)|(refine MS.nil ?_;intro nq hnq hltq;have hlq:=hltq _ _ (Hp.get_eq _ _ _);clear hltq;try refine zU ?_)|(refine LS.nilQ ?_;try with_reducible intro nq hnq;try refine zU ?_))
      exact ⟨_, H, rfl, by exact zD, ⟨i, rfl, .inl ⟨i, rfl, by omega, h2, hJ⟩⟩, rfl⟩
    · (repeat first|refine zG ?_|(refine LS.nilO ?_;intro nq hnq hltq;try refine zU ?_)|(refine MS.new ?_;intro bq hbq hbqf;try refine zU ?_)|(refine MS.nil ?_;intro nq hnq hltq;have hlq:=hltq _ _ (Hp.get_eq _ _ _);clear hltq;try refine zU ?_)|(refine LS.nilQ ?_;try with_reducible intro nq hnq;try refine zU ?_))
      refine ⟨by omega, by (repeat first | exact trivial | refine And.intro rfl ?_), Drops.refl _ _, fun i' hi' => ?_⟩
      by_cases e : i' = i
      · subst e; exact h2
      · exact hJ i' (by omega)
  · obtain rfl : i = len := by omega
    (repeat first|refine zG ?_|(refine LS.nilO ?_;intro nq hnq hltq;try refine zU ?_)|(refine MS.new ?_;intro bq hbq hbqf;try refine zU ?_)|(refine MS.nil ?_;intro nq hnq hltq;have hlq:=hltq _ _ (Hp.get_eq _ _ _);clear hltq;try refine zU ?_)|(refine LS.nilQ ?_;try with_reducible intro nq hnq;try refine zU ?_))
    exact ⟨_, H, rfl, by exact zD, ⟨-1, rfl, .inr ⟨rfl, hJ⟩⟩, rfl⟩

/-- slices.ContainsFunc[[][]byte,[]byte] -/
def ir39 : Cd := (.seq (.reg [⟨some 4,none,.mov (.c (.bool false))⟩]) (.seq (.reg [⟨some 5,none,.mov (.t 0)⟩,⟨some 6,none,.mov (.t 1)⟩,⟨some 7,none,.call 36 [(.t 5),(.t 6)]⟩,⟨some 8,none,.bin .geq (.t 7) (.c (.int .i64 0))⟩,⟨some 4,none,.mov (.t 8)⟩]) .ret))
set_option maxRecDepth 100000 in
theorem tr39 : trFn Try.prog Try.f39 = some (9, ir39, [.tmp 4]) := by kernel_rfl

theorem slices_ContainsFuncR (Q : Nat → Prop) (F : FuncId) (post : List SV) (rb o len cap : Nat) (hl : len ≤ 1000) (kr : Blk) (E : Nat → SV) (H : Hp) (n : Nat) (grb : H.get rb = some kr) (hs : o + len ≤ kr.size) (hE : ∀ i, i < len → kr.c (o + i) = E i)
    (hF : ∀ i n' : Nat, i < len → n ≤ n' → FnS Try.prog F ([.s (E i)] ++ post.map .s) H n' (fun r H' _ => r = bl (tb (Q i)) ∧ H' = H)) :
    FnS Try.prog 39 [.s (.slc rb o len cap), .s (.fn F [] post)] H n (fun r H' _ => r = bl (tb (∃ i, i < len ∧ Q i)) ∧ H' = H) := by
  refine FnS.of_body Try.func39 tr39 (by simp) (fun hf => ?_)
  dsimp only [argEnv]
  unfold ir39
  (repeat first|refine zG ?_|(refine LS.nilO ?_;intro nq hnq hltq;try refine zU ?_)|(refine MS.new ?_;intro bq hbq hbqf;try refine zU ?_)|(refine MS.nil ?_;intro nq hnq hltq;have hlq:=hltq _ _ (Hp.get_eq _ _ _);clear hltq;try refine zU ?_)|(refine LS.nilQ ?_;try with_reducible intro nq hnq;try refine zU ?_))
  refine RS.call rfl ((slices_IndexFuncR Q F post rb o len cap hl kr E _ _ grb hs hE hF).mono ?_)
  rintro r H n2 hn2 ⟨⟨x, rfl, hx⟩, rfl⟩
  have hx2 : 0 ≤ x ↔ ∃ i, i < len ∧ Q i := by
    rcases hx with ⟨i, rfl, h1, h2, _⟩ | ⟨rfl, h1⟩
    · exact ⟨fun _ => ⟨i, h1, h2⟩, fun _ => by omega⟩
    · exact ⟨fun h => by omega, fun ⟨i, h2, h3⟩ => absurd h3 (h1 i h2)⟩
  (repeat first|refine zG ?_|(refine LS.nilO ?_;intro nq hnq hltq;try refine zU ?_)|(refine MS.new ?_;intro bq hbq hbqf;try refine zU ?_)|(refine MS.nil ?_;intro nq hnq hltq;have hlq:=hltq _ _ (Hp.get_eq _ _ _);clear hltq;try refine zU ?_)|(refine LS.nilQ ?_;try with_reducible intro nq hnq;try refine zU ?_))
  exact ⟨_, H, rfl, by exact zD, by rw [← tb_iff hx2, tb_dec], rfl⟩

end Go.Proofs.Ytdellpnmbgjofaa

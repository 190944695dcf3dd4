/- Systems of linear equations, the program's: their blocks, making them, one more equation. -/
import Derived.Test.YtdellpnmbgjofaaC52
namespace Go.V
/-- A slice of m values of one cell each, which lie in the block b (no block if it is nil). -/
def SL (H : Hp) (v : SV) (m : Nat) (F : Nat → SV) (b : Nat) : Prop :=
  (v = .nils ∧ m = 0) ∨ ∃ o cap k, v = .slc b o m cap ∧ H.get b = some k ∧ o + cap ≤ k.size ∧ m ≤ cap ∧ ∀ i, i < m → k.c (o + i) = F i
theorem SL.keep {H H' : Hp} {v : SV} {m : Nat} {F : Nat → SV} {b : Nat} (h : SL H v m F b) (hg : H'.get b = H.get b) : SL H' v m F b := by
  rcases h with h | ⟨o, cap, k, h1, h2, h3⟩
  · exact .inl h
  · exact .inr ⟨o, cap, k, h1, hg.trans h2, h3⟩
def snS (F : Nat → SV) (m : Nat) (v : SV) : Nat → SV := fun i => if i = m then v else F i
section
variable {P : Program} {N mm : Nat} {e : Env} {H : Hp} {n : Nat} {l : List Ins} {d : Option Nat} {K : Env → Hp → Nat → Prop}
theorem RS.appS {t : TypeId} {bytes : Nat} {x y : X} {v w : SV} {m b b2 : Nat} {F : Nat → SV} {k2 : Blk} {z : Zs}
    (hx : x.ev e = some (.s v)) (hy : y.ev e = some (.s (.slc b2 0 1 1))) (hV : SL H v m F b) (hb2 : H.get b2 = some k2) (hs2 : k2.size = 1) (hc2 : k2.c 0 = w) (hm : m ≤ 1000) (hby : bytes ≤ 100) (hbn : b < n)
    (h : ∀ v' b' H' n', SL H' v' (m + 1) (snS F m w) b' → (b' = b ∨ b' = n) → b' < n' → n ≤ n' → n' ≤ n + 1 → (∀ x, x ≠ b' → H'.get x = H.get x) → LS P N mm (.seq K) l (putD d (.s v') e) H' n') :
    LS P N mm (.seq K) (⟨d, none, .app t 1 bytes z x y⟩ :: l) e H n := by
  have hy2 : sliceV H 1 (.slc b2 0 1 1) 1 1 (fun _ => w) := .inr ⟨b2, 0, k2, rfl, hb2, by omega, Nat.le_refl _, fun i hi => by (obtain rfl : i = 0 := by omega); exact hc2⟩
  have hby2 : (2 * (m + 1) + 768) * bytes ≤ 2 ^ 48 := Nat.le_trans (Nat.mul_le_mul (show 2 * (m + 1) + 768 ≤ 3000 by omega) hby) (by decide)
  have new : ∀ (c : Nat → SV), (∀ i, i < m → c i = F i) → ∀ cap', m + 1 ≤ cap' → LS P N mm (.seq K) l (putD d (.s (.slc n 0 (m + 1) cap')) e) ((n, ⟨cap' * 1, joinC ((m + 1) * 1) (joinC (m * 1) c (fun _ => w)) (fun i => z.c (i % 1)), t⟩) :: H) (n + 1) := by
    intro c hc cap' hcap
    refine h _ n _ (n + 1) (.inr ⟨0, cap', _, rfl, Hp.get_eq _ _ _, by (try dsimp only); omega, hcap, fun i hi => ?_⟩) (.inr rfl) (by omega) (by omega) (by omega) (fun x hx => Hp.get_ne _ _ (fun q => hx q.symm))
    (try dsimp only)
    unfold joinC snS
    rw [Nat.zero_add, if_pos (by omega)]
    by_cases e1 : i = m
    · rw [if_neg (by omega), if_pos e1]
    · rw [if_pos (by omega), if_neg e1, hc i (by omega)]
  rcases hV with ⟨rfl, rfl⟩ | ⟨o, cap, k, rfl, hk, ho, hmc, hc⟩
  · refine RS.app (len := 0) (cap := 0) (len2 := 1) (cap2 := 1) (c := F) (c2 := fun _ => w) hx hy (.inl ⟨rfl, rfl, rfl⟩) hy2 hby2 (by omega) (fun hle => by omega) (fun hlt cap' hcap => new F (fun i hi => rfl) cap' hcap)
  · refine RS.app (len2 := 1) (cap2 := 1) (c := F) (c2 := fun _ => w) hx hy (.inr ⟨b, o, k, rfl, hk, by omega, hmc, fun i hi => hc i (by omega)⟩) hy2 hby2 (by omega) (fun hle => ⟨fun b' o' k' he hk' => ?_, fun he => by cases he⟩) (fun hlt cap' hcap => new F (fun i hi => rfl) cap' hcap)
    cases he
    rw [hk] at hk'
    cases hk'
    refine h _ b _ n (.inr ⟨o, cap, _, rfl, Hp.get_set_self _ hk, ho, hle, fun i hi => ?_⟩) (.inl rfl) hbn (Nat.le_refl _) (by omega) (fun x hx => Hp.get_set_other _ (fun q => hx q.symm))
    (try dsimp only)
    unfold splice snS
    by_cases e1 : i = m
    · rw [if_pos (by omega), if_pos e1]
    · rw [if_neg (by omega), if_neg e1, hc i (by omega)]
end
/-- A system: its block sb, the block rb of its rows' slice, the blocks bk of its rows. -/
structure SY (H : Hp) (sb : Nat) (p : Int) (a m : Nat) (R : Nat → Nat → Int) (rb : Nat) (bk : Nat → Nat) (k : Blk) : Prop where
  g : H.get sb = some k
  s : k.size = 5
  c0 : k.c 0 = .int .i64 p
  c1 : k.c 1 = .int .i64 0
  c2 : k.c 2 = .int .i64 a
  rows : SL H (k.c 3) m (fun i => .slc (bk i) 0 (a + 1) (a + 1)) rb
  row : ∀ i, i < m → ∃ ki, H.get (bk i) = some ki ∧ ki.size = a + 1 ∧ ∀ x, x < a + 1 → ki.c x = .int .u8 (R i x)
  d1 : sb ≠ rb
  d2 : ∀ i, i < m → bk i ≠ sb ∧ bk i ≠ rb
  d3 : ∀ i j, i < m → j < m → bk i = bk j → i = j
end Go.V
namespace Go.Proofs.Ytdellpnmbgjofaa
open Go.V
set_option linter.unusedSimpArgs false
set_option linter.unusedVariables false
set_option maxHeartbeats 4000000

/-- impl.newSystem -/
def ir15 : Cd := (.seq (.reg [⟨some 4,none,.mov (.c .nil)⟩]) (.seq (.reg [⟨some 5,none,.mov (.t 0)⟩,⟨some 6,none,.build 2 [(2,(.int .i64 0))] [(0,1,(.t 5)),(1,1,(.c (.int .i64 0)))]⟩,⟨some 7,none,.mov (.t 1)⟩,⟨some 8,none,.build 5 [(3,(.int .i64 0)),(2,.nils)] [(0,2,(.t 6)),(2,1,(.t 7))]⟩,⟨some 9,none,.box 74 (.t 8)⟩,⟨some 4,none,.mov (.t 9)⟩]) .ret))
set_option maxRecDepth 100000 in
theorem tr15 : trFn Try.prog Try.f15 = some (10, ir15, [.tmp 4]) := by kernel_rfl

theorem impl_newSystem (p : Int) (a : Nat) (H : Hp) (n : Nat) :
    FnS Try.prog 15 [i64 p, i64 a] H n (fun r H' n' => r = ptr n 0 ∧ n < n' ∧ ∃ k : Blk, H' = (n, k) :: H ∧ k.size = 5 ∧ k.c 0 = .int .i64 p ∧ k.c 1 = .int .i64 0 ∧ k.c 2 = .int .i64 a ∧ k.c 3 = .nils ∧ k.c 4 = .nils) := by
  refine FnS.of_body Try.func15 tr15 (by simp) (fun hf => ?_)
  dsimp only [argEnv]
  unfold ir15
  (repeat first|refine zG ?_|(refine LS.nilO ?_;intro nq hnq hltq;try refine zU ?_)|(refine MS.new ?_;intro bq hbq hbqf;try refine zU ?_)|(refine MS.nil ?_;intro nq hnq hltq;have hlq:=hltq _ _ (Hp.get_eq _ _ _);clear hltq;try refine zU ?_)|(refine LS.nilQ ?_;try with_reducible intro nq hnq;try refine zU ?_))
  exact ⟨ptr n 0, _, rfl, Drops.refl _ _, rfl, by omega, _, rfl, rfl, rfl, rfl, rfl, rfl, rfl⟩

/-- (*impl.system).add -/
def ir18 : Cd := (.seq (.reg [⟨some 9,none,.mov (.t 0)⟩,⟨some 10,none,.ck (.t 9)⟩,⟨some 11,none,.fa 2 (.t 10)⟩,⟨some 12,none,.ld none (.t 11)⟩,⟨some 13,none,.bin .add (.t 12) (.c (.int .i64 1))⟩,⟨some 14,none,.mks 5 1 1 [(1,(.int .u8 0))] (.t 13) (.t 13)⟩,⟨some 6,none,.mov (.t 14)⟩]) (.seq (.seq (.reg [⟨some 15,none,.mov (.t 1)⟩,⟨some 16,none,.len (.t 15)⟩,⟨some 17,none,.mov (.c (.int .i64 0))⟩]) (.block 0 (.loop (.seq (.reg [⟨some 18,none,.bin .lss (.t 17) (.t 16)⟩]) (.seq (.cond (.t 18) .skip (.exit 0)) (.seq (.block 1 (.seq (.reg [⟨some 19,none,.mov (.t 17)⟩,⟨some 20,none,.isl 1 (.t 15) (.t 17)⟩,⟨some 21,none,.ld none (.t 20)⟩,⟨some 7,none,.mov (.t 19)⟩,⟨some 8,none,.mov (.t 21)⟩]) (.reg [⟨some 22,none,.mov (.t 6)⟩,⟨some 23,none,.mov (.t 7)⟩,⟨some 24,none,.mov (.t 0)⟩,⟨some 25,none,.ck (.t 24)⟩,⟨some 26,none,.fa 0 (.t 25)⟩,⟨some 27,none,.ld (some 2) (.t 26)⟩,⟨some 28,none,.mov (.t 8)⟩,⟨some 29,none,.call 35 [(.t 27),(.t 28)]⟩,⟨some 30,none,.isl 1 (.t 22) (.t 23)⟩,⟨none,none,.st 1 (.t 30) (.t 29)⟩]))) (.reg [⟨some 31,none,.bin .add (.t 17) (.c (.int .i64 1))⟩,⟨some 17,none,.mov (.t 31)⟩]))))))) (.seq (.drw true [12] [⟨some 32,none,.mov (.t 6)⟩,⟨some 33,none,.mov (.t 0)⟩,⟨some 34,none,.ck (.t 33)⟩,⟨some 35,none,.fa 2 (.t 34)⟩,⟨some 36,none,.ld none (.t 35)⟩,⟨some 37,none,.mov (.t 0)⟩,⟨some 38,none,.ck (.t 37)⟩,⟨some 39,none,.fa 0 (.t 38)⟩,⟨some 40,none,.ld (some 2) (.t 39)⟩,⟨some 41,none,.mov (.t 2)⟩,⟨some 42,none,.call 35 [(.t 40),(.t 41)]⟩,⟨some 43,none,.isl 1 (.t 32) (.t 36)⟩,⟨none,none,.st 1 (.t 43) (.t 42)⟩]) (.reg [⟨some 44,none,.mov (.t 0)⟩,⟨some 45,none,.mov (.t 0)⟩,⟨some 46,none,.ck (.t 45)⟩,⟨some 47,none,.fa 3 (.t 46)⟩,⟨some 48,none,.ld none (.t 47)⟩,⟨some 49,none,.mov (.t 6)⟩,⟨some 50,none,.bsl 54 1 1 [(1,.nils)] [(0,1,(.t 49))]⟩,⟨some 51,none,.app 54 1 24 [(1,.nils)] (.t 48) (.t 50)⟩,⟨some 52,none,.ck (.t 44)⟩,⟨some 53,none,.fa 3 (.t 52)⟩,⟨none,none,.st 1 (.t 53) (.t 51)⟩]))))
set_option maxRecDepth 100000 in
theorem tr18 : trFn Try.prog Try.f18 = some (54, ir18, []) := by kernel_rfl

theorem system_add (p : Int) (a m : Nat) (R : Nat → Nat → Int) (sb rb lb : Nat) (bk : Nat → Nat) (ks Kl : Blk) (w : Nat → Int) (z : Int) (H : Hp) (n : Nat) (hp : 2 ≤ p ∧ p ≤ 31) (ha : a ≤ 8) (hm : m ≤ 8)
    (hS : SY H sb p a m R rb bk ks) (hrb : rb < n) (gl : H.get lb = some Kl) (sl : a ≤ Kl.size) (cl : ∀ q, q < a → Kl.c q = .int .i64 (w q)) (hw : ∀ q, q < a → -1000000 ≤ w q ∧ w q ≤ 1000000) (hz : -1000000 ≤ z ∧ z ≤ 1000000) :
    FnS Try.prog 18 [ptr sb 0, .s (.slc lb 0 a a), i64 z] H n (fun r H' n' => r = .tup [] ∧ ∃ rb' ks', SY H' sb p a (m + 1) (snc R m (fun x => if x < a then w x % p else z % p)) rb' (fun i => if i = m then n else bk i) ks' ∧ ks'.c 4 = ks.c 4 ∧ rb' < n' ∧ (rb' = rb ∨ n ≤ rb') ∧
      (∀ x, n' ≤ x → H'.get x = none) ∧ ∀ x, x < n → x ≠ sb → x ≠ rb → H'.get x = H.get x) := by
  obtain ⟨gs, ss, s0, s1, s2, srow, hrow, d1, d2, d3⟩ := hS
  refine FnS.of_body Try.func18 tr18 (by simp) (fun hf => ?_)
  dsimp only [argEnv]
  unfold ir18
  have hsn := getlt hf gs
  have hln := getlt hf gl
  have s2' : ks.c (0 + 2) = .int .i64 a := s2
  have hfld : ∀ q, q < 2 → ks.c q = fldC p 0 q := fun q hq => by
    rcases (show q = 0 ∨ q = 1 by omega) with rfl | rfl
    · exact s0
    · exact s1
  (repeat first|refine zG ?_|(refine LS.nilO ?_;intro nq hnq hltq;try refine zU ?_)|(refine MS.new ?_;intro bq hbq hbqf;try refine zU ?_)|(refine MS.nil ?_;intro nq hnq hltq;have hlq:=hltq _ _ (Hp.get_eq _ _ _);clear hltq;try refine zU ?_)|(refine LS.nilQ ?_;try with_reducible intro nq hnq;try refine zU ?_))
  refine RS.mks (len := a + 1) (cap := a + 1) (by exact rfl) (by exact rfl) (by omega) (by omega) (by omega) (by omega) (by omega) ?_
  (repeat first|refine zG ?_|(refine LS.nilO ?_;intro nq hnq hltq;try refine zU ?_)|(refine MS.new ?_;intro bq hbq hbqf;try refine zU ?_)|(refine MS.nil ?_;intro nq hnq hltq;have hlq:=hltq _ _ (Hp.get_eq _ _ _);clear hltq;try refine zU ?_)|(refine LS.nilQ ?_;try with_reducible intro nq hnq;try refine zU ?_))
  refine CS.iter a (fun i => [(17, i64 i), (16, i64 a), (15, .s (.slc lb 0 a a)), (6, .s (.slc n 0 (a + 1) (a + 1))), (0, ptr sb 0), (2, i64 z)])
    (fun i => (n, ⟨a + 1, fun x => if x < i then .int .u8 (w x % p) else .int .u8 0, 5⟩) :: H) (fun _ => True) (by (repeat first | exact trivial | refine And.intro rfl ?_)) (Drops.keepc (by (try dsimp only); omega) rfl (fun q hq => by (try dsimp only); rw [if_neg (by omega), Nat.mod_one]; rfl) (Drops.refl _ _)) trivial ?_
  intro i n2 hi hn2 _
  (repeat first|refine zG ?_|(refine LS.nilO ?_;intro nq hnq hltq;try refine zU ?_)|(refine MS.new ?_;intro bq hbq hbqf;try refine zU ?_)|(refine MS.nil ?_;intro nq hnq hltq;have hlq:=hltq _ _ (Hp.get_eq _ _ _);clear hltq;try refine zU ?_)|(refine LS.nilQ ?_;try with_reducible intro nq hnq;try refine zU ?_))
  refine zI ?_ ?_<;>intro h2
  · have cl' : Kl.c (0 + i * 1) = .int .i64 (w i) := by rw [Nat.zero_add, Nat.mul_one]; exact cl i (by omega)
    have hwi := hw i (by omega)
    (repeat first|refine zG ?_|(refine LS.nilO ?_;intro nq hnq hltq;try refine zU ?_)|(refine MS.new ?_;intro bq hbq hbqf;try refine zU ?_)|(refine MS.nil ?_;intro nq hnq hltq;have hlq:=hltq _ _ (Hp.get_eq _ _ _);clear hltq;try refine zU ?_)|(refine LS.nilQ ?_;try with_reducible intro nq hnq;try refine zU ?_))
    refine RS.call rfl ((FnS.args (concs_cons (conc_arr hfld) rfl) (field_mod p 0 (w i) _ _ hp.1 hp.2 (by omega))).mono ?_)
    rintro r H' n3 hn3 ⟨rfl, rfl⟩
    (repeat first|refine zG ?_|(refine LS.nilO ?_;intro nq hnq hltq;try refine zU ?_)|(refine MS.new ?_;intro bq hbq hbqf;try refine zU ?_)|(refine MS.nil ?_;intro nq hnq hltq;have hlq:=hltq _ _ (Hp.get_eq _ _ _);clear hltq;try refine zU ?_)|(refine LS.nilQ ?_;try with_reducible intro nq hnq;try refine zU ?_))
    refine ⟨by omega, by (repeat first | exact trivial | refine And.intro rfl ?_), Drops.keepc rfl rfl (fun q hq => ?_) (Drops.refl _ _), trivial⟩
    (try dsimp only)
    rw [Nat.mul_one, Nat.zero_add]
    unfold put1
    by_cases e : q = i
    · subst e; rw [if_pos rfl, if_pos (by omega)]
    · rw [if_neg e]
      show (if q < i then _ else _) = _
      by_cases e2 : q < i
      · rw [if_pos e2, if_pos (by omega)]
      · rw [if_neg e2, if_neg (by omega)]
  · obtain rfl : i = a := by omega
    (repeat first|refine zG ?_|(refine LS.nilO ?_;intro nq hnq hltq;try refine zU ?_)|(refine MS.new ?_;intro bq hbq hbqf;try refine zU ?_)|(refine MS.nil ?_;intro nq hnq hltq;have hlq:=hltq _ _ (Hp.get_eq _ _ _);clear hltq;try refine zU ?_)|(refine LS.nilQ ?_;try with_reducible intro nq hnq;try refine zU ?_))
    refine LS.callQ (u8 (z % p)) rfl (fun n' hn' => FnS.args (concs_cons (conc_arr hfld) rfl) (field_mod p 0 z _ _ hp.1 hp.2 (by omega))) ?_
    (repeat first|refine zG ?_|(refine LS.nilO ?_;intro nq hnq hltq;try refine zU ?_)|(refine MS.new ?_;intro bq hbq hbqf;try refine zU ?_)|(refine MS.nil ?_;intro nq hnq hltq;have hlq:=hltq _ _ (Hp.get_eq _ _ _);clear hltq;try refine zU ?_)|(refine LS.nilQ ?_;try with_reducible intro nq hnq;try refine zU ?_))
    refine RS.appS (w := .slc n 0 (i + 1) (i + 1)) (by exact rfl) (by exact rfl) (srow.keep (by simp (disch := omega) only [Hp.get_ne])) (by exact zH) rfl (by simp [put1]) (by omega) (by omega) (by omega) ?_
    intro v' b' H' n5 hV hb' hl' hn5 hn5' hg'
    have gs' : H'.get sb = some ks := by rw [hg' sb (by omega)]; simp (disch := omega) only [Hp.get_ne]; exact gs
    have glow : ∀ x, x < n → x ≠ sb → x ≠ rb → (H'.set sb (put1 ks.c 3 v')).get x = H.get x := fun x q1 q2 q3 => by
      rw [Hp.get_set_other _ (fun q => q2 q.symm), hg' x (by omega)]; simp (disch := omega) only [Hp.get_ne]
    have hbk : ∀ j, j < m → bk j < n := fun j hj => by
      obtain ⟨kj, gj, _⟩ := hrow j hj
      exact getlt hf gj
    (repeat first|refine zG ?_|(refine LS.nilO ?_;intro nq hnq hltq;try refine zU ?_)|(refine MS.new ?_;intro bq hbq hbqf;try refine zU ?_)|(refine MS.nil ?_;intro nq hnq hltq;have hlq:=hltq _ _ (Hp.get_eq _ _ _);clear hltq;try refine zU ?_)|(refine LS.nilQ ?_;try with_reducible intro nq hnq;try refine zU ?_))
    refine ⟨.tup [], H'.set sb (put1 ks.c 3 v'), rfl, Drops.refl _ _, rfl, b', ⟨ks.size, put1 ks.c 3 v', ks.ty⟩, ?_, by simp [put1], hl', by omega, fun x hx => ?_, glow⟩
    · refine { g := Hp.get_set_self _ gs', s := ss, c0 := s0, c1 := s1, c2 := s2, rows := ?_, row := fun j hj => ?_, d1 := by omega, d2 := fun j hj => ?_, d3 := fun j j2 hj hj2 he => ?_ }
      · have e1 : (fun k => SV.slc (if k = m then n else bk k) 0 (i + 1) (i + 1)) = snS (fun k => .slc (bk k) 0 (i + 1) (i + 1)) m (.slc n 0 (i + 1) (i + 1)) := by
          funext k; unfold snS; split <;> rfl
        rw [e1]
        exact hV.keep (Hp.get_set_other _ (by omega))
      · by_cases e : j = m
        · subst e
          rw [if_pos rfl]
          refine ⟨⟨i + 1, put1 (fun x => if x < i then .int .u8 (w x % p) else .int .u8 0) (0 + i * 1) (.int .u8 (z % p)), 5⟩, by rw [Hp.get_set_other _ (by omega), hg' n (by omega)]; simp (disch := omega) only [Hp.get_eq, Hp.get_ne], rfl, fun x hx => ?_⟩
          (try dsimp only)
          unfold put1 snc
          rw [if_pos rfl, Nat.mul_one, Nat.zero_add]
          by_cases e2 : x = i
          · rw [if_pos e2, if_neg (by omega)]
          · rw [if_neg e2, if_pos (by omega)]
            show (if x < i then _ else _) = _
            rw [if_pos (by omega)]
        · obtain ⟨kj, gj, sj, cj⟩ := hrow j (by omega)
          have h1 := d2 j (by omega)
          have h2 := hbk j (by omega)
          rw [if_neg e]
          refine ⟨kj, by rw [glow (bk j) h2 h1.1 h1.2]; exact gj, sj, fun x hx => ?_⟩
          rw [cj x hx]; unfold snc; rw [if_neg e]
      · by_cases e : j = m
        · rw [if_pos e]; omega
        · have h1 := d2 j (by omega)
          have h2 := hbk j (by omega)
          rw [if_neg e]; omega
      · by_cases e : j = m
        · by_cases e2 : j2 = m
          · omega
          · have h2 := hbk j2 (by omega)
            rw [if_pos e, if_neg e2] at he; omega
        · have h1 := hbk j (by omega)
          by_cases e2 : j2 = m
          · rw [if_neg e, if_pos e2] at he; omega
          · rw [if_neg e, if_neg e2] at he; exact d3 j j2 (by omega) (by omega) he
    · rw [Hp.get_set_other _ (by omega), hg' x (by omega)]; simp (disch := omega) only [Hp.get_ne]; exact hf x (by omega)

end Go.Proofs.Ytdellpnmbgjofaa

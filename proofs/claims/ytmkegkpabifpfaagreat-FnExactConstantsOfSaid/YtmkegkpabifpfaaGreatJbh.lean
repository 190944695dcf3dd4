/- The codes of a Hopf algebra, an algebra and a module on the program's side. -/
import Derived.Test.YtmkegkpabifpfaaGreatJbg
import Derived.Test.YtmkegkpabifpfaaGreatJaz
namespace Go.V
set_option linter.unusedSimpArgs false
set_option linter.unusedVariables false
/-- A call among ordered operations that leaves the heap. -/
theorem LS.callOq {P : Program} {N m : Nat} {d : Option Nat} {l : List Ins} {e : Env} {H : Hp} {n : Nat} {K : Env → Hp → Prop} {f : FuncId} {args : List X} {vs : List AV} (v : AV) (hv : evs e args = some vs)
    (hf : ∀ n', n ≤ n' → (∀ b k, H.get b = some k → b < n') → FnS P f vs H n' fun r H' _ => r = v ∧ H' = H) (h : LS P N m (.ord K) l (putD d v e) H n) : LS P N m (.ord K) (⟨d, none, .call f args⟩ :: l) e H n :=
  LS.callO (R := fun r H' => r = v ∧ H' = H) hv (fun n' h1 h2 => (hf n' h1 h2).mono fun r H' _ _ q => ⟨q, by rw [q.2]; exact Ext.refl _⟩) (by rintro r H' ⟨rfl, rfl⟩ _; exact h)
/-- The first number that is not 0, of so many. -/
def fstz (w : Nat → Int) : Nat → Int
  | 0 => 0
  | k + 1 => if w 0 ≠ 0 then w 0 else fstz (fun i => w (i + 1)) k
theorem fstz_hit : ∀ (len : Nat) (w : Nat → Int) (i : Nat), i < len → (∀ j, j < i → w j = 0) → w i ≠ 0 → fstz w len = w i := by
  intro len
  induction len with
  | zero => intro w i hi; omega
  | succ k ih =>
    intro w i hi h0 h1
    unfold fstz
    cases i with
    | zero => rw [if_pos h1]
    | succ i =>
      rw [if_neg (fun q => q (h0 0 (by omega)))]
      exact ih (fun j => w (j + 1)) i (by omega) (fun j hj => h0 (j + 1) (by omega)) h1
theorem fstz_none : ∀ (len : Nat) (w : Nat → Int), (∀ j, j < len → w j = 0) → fstz w len = 0 := by
  intro len
  induction len with
  | zero => intro w _; rfl
  | succ k ih =>
    intro w h0
    unfold fstz
    rw [if_neg (fun q => q (h0 0 (by omega)))]
    exact ih (fun j => w (j + 1)) (fun j hj => h0 (j + 1) (by omega))
/-- So many numbers that are 0. -/
structure Zw (w : Nat → Int) (i : Nat) : Prop where
  h : ∀ j, j < i → w j = 0
/-- What is left of a tree of orders. -/
structure OTW (P : Program) (N m : Nat) (l : List Ins) (t : OT) (e : Env) (H : Hp) (n : Nat) (K : Env → Hp → Prop) : Prop where
  h : OTS P N m l t e H n K
theorem OTS.segW {P : Program} {N m : Nat} {ll : List Ins} {t : OT} {e : Env} {H : Hp} {n : Nat} {K : Env → Hp → Prop} (h : LS P N m (.ord fun e' H' => OTW P N m ll t.rest e' H' n K) (pick t.os ll) e H n) : OTS P N m ll t e H n K := by
  have e0 : (fun e' H' => OTW P N m ll t.rest e' H' n K) = fun e' H' => OTS P N m ll t.rest e' H' n K := by
    funext e' H'
    exact propext ⟨fun q => q.h, fun q => ⟨q⟩⟩
  rw [e0] at h
  exact OTS.segL h
/-- A slice of numbers. -/
def lsi (H : Hp) (v : SV) (len : Nat) (w : Nat → Int) : Prop :=
  ∃ b c K, v = .slc b 0 len c ∧ H.get b = some K ∧ K.size = len ∧ ∀ q, q < len → K.c q = .int .i64 (w q)
/-- Two numbers. -/
def twi (a b : Int) (q : Nat) : Int := if q = 0 then a else b
theorem fstz_two {Q R : Prop} : fstz (twi (cd Q) (cd R)) 2 = cd (Q ∧ R) := by
  by_cases h1 : Q
  · by_cases h2 : R
    · rw [cd_true (show Q ∧ R from ⟨h1, h2⟩)]
      exact fstz_none _ _ (fun j hj => by unfold twi; split; exact cd_true h1; exact cd_true h2)
    · rw [cd_false (show ¬(Q ∧ R) from fun q => h2 q.2), fstz_hit 2 _ 1 (by omega) (fun j hj => by (obtain rfl : j = 0 := by omega); exact cd_true h1) (by show cd R ≠ 0; rw [cd_false h2]; decide)]
      exact cd_false h2
  · rw [cd_false (show ¬(Q ∧ R) from fun q => h1 q.1), fstz_hit 2 _ 0 (by omega) (fun j hj => by omega) (by show cd Q ≠ 0; rw [cd_false h1]; decide)]
    exact cd_false h1
theorem fstz2 (a b : Int) : fstz (twi a b) 2 = if a ≠ 0 then a else b := by
  have e0 : twi a b 0 = a := rfl
  have e1 : twi a b 1 = b := rfl
  unfold fstz
  rw [e0]
  split
  · rfl
  · unfold fstz fstz
    (try dsimp only)
    rw [e1]
    split
    · rfl
    · rename_i h; exact (Classical.not_not.1 h).symm
theorem cd2 (Q R : Prop) : (if cd Q ≠ 0 then cd Q else cd R) = cd (Q ∧ R) := by rw [← fstz2, fstz_two]
theorem k8_first {Q R : Prop} (b : Bool) (hb : b = true ↔ R) : (if cd Q ≠ 0 then cd Q else if b = true then 0 else 2) = k8 Q R := by
  by_cases h1 : Q
  · by_cases h2 : R
    · rw [cd_true h1, k8_0 h1 h2, if_neg (by decide), if_pos (hb.2 h2)]
    · rw [cd_true h1, k8_2 h1 h2, if_neg (by decide), if_neg (fun q => h2 (hb.1 q))]
  · rw [cd_false h1, k8_1 h1, if_pos (by decide)]
end Go.V
namespace Go.Proofs.YtmkegkpabifpfaaGreat
open Go.V
set_option linter.unusedSimpArgs false
set_option linter.unusedVariables false
set_option maxHeartbeats 4000000

/-- impl.first -/
def ir31 : Cd := (.seq (.reg [⟨some 2,none,.mov (.c (.int .i64 0))⟩]) (.seq (.seq (.reg [⟨some 5,none,.mov (.t 0)⟩,⟨some 6,none,.len (.t 5)⟩,⟨some 7,none,.mov (.c (.int .i64 0))⟩]) (.block 0 (.loop (.seq (.reg [⟨some 8,none,.bin .lss (.t 7) (.t 6)⟩]) (.seq (.cond (.t 8) .skip (.exit 0)) (.seq (.block 1 (.seq (.reg [⟨some 9,none,.isl 1 (.t 5) (.t 7)⟩,⟨some 10,none,.ld none (.t 9)⟩,⟨some 4,none,.mov (.t 10)⟩]) (.seq (.reg [⟨some 11,none,.mov (.t 4)⟩,⟨some 12,none,.bin .neq (.t 11) (.c (.int .i64 0))⟩]) (.cond (.t 12) (.seq (.reg [⟨some 13,none,.mov (.t 4)⟩,⟨some 2,none,.mov (.t 13)⟩]) .ret) .skip)))) (.reg [⟨some 14,none,.bin .add (.t 7) (.c (.int .i64 1))⟩,⟨some 7,none,.mov (.t 14)⟩]))))))) (.seq (.reg [⟨some 2,none,.mov (.c (.int .i64 0))⟩]) .ret)))
set_option maxRecDepth 100000 in
theorem tr31 : trFn Tryz.prog Tryz.f31 = some (15, ir31, [.tmp 2]) := by kernel_rfl

theorem impl_first (v : SV) (len : Nat) (hl : len ≤ 1000) (w : Nat → Int) (H : Hp) (n : Nat) (hv : lsi H v len w) :
    FnS Tryz.prog 31 [.s v] H n (fun r H' _ => r = i64 (fstz w len) ∧ H' = H) := by
  obtain ⟨b, c, K, rfl, hb, hs, hc⟩ := hv
  refine FnS.of_body Tryz.func31 tr31 (by simp) (fun hf => ?_)
  dsimp only [argEnv]
  unfold ir31
  have hbn := getlt hf hb
  (refine zG ?_)
  refine CS.iter len (fun i => [(7, i64 i), (6, i64 len), (5, .s (.slc b 0 len c))]) (fun _ => H) (fun i => Zw w i) (by (repeat first | exact trivial | refine And.intro rfl ?_)) (by exact zD) ⟨fun j hj => by omega⟩ ?_
  intro i n1 hi hn1 hJ
  (refine zG ?_)
  refine zI ?_ ?_<;>intro h1
  · have hci := hc i (by omega)
    rw [show i = 0 + i * 1 by omega] at hci
    (refine zG ?_)
    refine zI ?_ ?_<;>intro h2
    · (refine zG ?_)
      exact ⟨_, H, by rw [fstz_hit len w i (by omega) hJ.h (by simpa using h2), show 0 + i * 1 = i by omega], by exact zD, rfl, rfl⟩
    · (refine zG ?_)
      refine ⟨by omega, by (repeat first | exact trivial | refine And.intro rfl ?_), by exact zD, ⟨fun j hj => ?_⟩⟩
      by_cases e : j = i
      · subst e; simpa using h2
      · exact hJ.h j (by omega)
  · obtain rfl : i = len := by omega
    (refine zG ?_)
    exact ⟨_, H, by rw [fstz_none i w hJ.h], by exact zD, rfl, rfl⟩

theorem impl_unlessB (b : Bool) (k : Int) (H : Hp) (n : Nat) :
    FnS Tryz.prog 32 [bl b, i64 k] H n (fun r H' _ => r = i64 (if b = true then 0 else k) ∧ H' = H) := by
  refine FnS.of_body Tryz.func32 tr32 (by simp) (fun hf => ?_)
  dsimp only [argEnv]
  unfold ir32
  cases b
  · (refine zG ?_)
    exact ⟨_, H, rfl, by exact zD, rfl, rfl⟩
  · (refine zG ?_)
    exact ⟨_, H, rfl, by exact zD, rfl, rfl⟩

theorem impl_first2 (b c : Nat) (x y : Int) (K : Blk) (H : Hp) (n : Nat) (hb : H.get b = some K) (hs : K.size = 2) (h0 : K.c 0 = .int .i64 x) (h1 : K.c 1 = .int .i64 y) :
    FnS Tryz.prog 31 [.s (.slc b 0 2 c)] H n (fun r H' _ => r = i64 (if x ≠ 0 then x else y) ∧ H' = H) := by
  rw [← fstz2]
  exact impl_first _ 2 (by omega) (twi x y) H n ⟨b, c, K, rfl, hb, hs, fun q hq => by
    rcases (show q = 0 ∨ q = 1 by omega) with rfl | rfl
    · exact h0
    · exact h1⟩

/-- impl.smashCode -/
def ir30 : Cd := (.seq (.reg [⟨some 6,none,.mov (.c (.int .i64 0))⟩]) (.seq (.reg [⟨some 8,none,.mov (.t 0)⟩,⟨some 9,none,.mov (.t 2)⟩,⟨some 10,none,.bsl 61 1 1 [(1,.nil)] [(0,1,(.t 9))]⟩,⟨some 11,none,.call 47 [(.t 8),(.t 10)]⟩,⟨some 12,none,.mov (.t 1)⟩,⟨some 13,none,.call 48 [(.t 12),(.c .nils)]⟩,⟨some 14,none,.bsl 2 2 1 [(1,(.int .i64 0))] [(0,1,(.t 11)),(1,1,(.t 13))]⟩,⟨some 15,none,.call 31 [(.t 14)]⟩,⟨some 7,none,.mov (.t 15)⟩]) (.seq (.drwt (.seg 0 (.seg 1 (.seg 2 (.seg 3 (.seg 4 (.seg 5 (.seg 6 (.seg 7 (.seg 8 (.seg 9 (.seg 10 (.seg 11 (.seg 12 (.seg 13 (.seg 14 (.seg 15 (.seg 16 (.seg 17 (.seg 18 (.seg 19 (.seg 20 (.seg 21 (.seg 22 (.seg 23 (.seg 24 .done))))))))))))))))))))))))) [⟨some 16,none,.mov (.t 7)⟩,⟨some 17,none,.mov (.t 0)⟩,⟨some 18,none,.ck (.t 17)⟩,⟨some 19,none,.fa 0 (.t 18)⟩,⟨some 20,none,.ld none (.t 19)⟩,⟨some 21,none,.mov (.t 1)⟩,⟨some 22,none,.ck (.t 21)⟩,⟨some 23,none,.fa 0 (.t 22)⟩,⟨some 24,none,.ld none (.t 23)⟩,⟨some 25,none,.bin .eql (.t 20) (.t 24)⟩,⟨some 26,none,.mov (.t 25)⟩,⟨some 27,(some (26,true)),.mov (.t 2)⟩,⟨some 28,(some (26,true)),.ck (.t 27)⟩,⟨some 29,(some (26,true)),.fa 0 (.t 28)⟩,⟨some 30,(some (26,true)),.ld none (.t 29)⟩,⟨some 31,(some (26,true)),.mov (.t 1)⟩,⟨some 32,(some (26,true)),.ck (.t 31)⟩,⟨some 33,(some (26,true)),.fa 1 (.t 32)⟩,⟨some 34,(some (26,true)),.ld none (.t 33)⟩,⟨some 35,(some (26,true)),.bin .eql (.t 30) (.t 34)⟩,⟨some 36,none,.pick (.t 26) (.t 35) (.c (.bool false))⟩,⟨some 37,none,.call 32 [(.t 36),(.c (.int .i64 2))]⟩,⟨some 38,none,.bsl 2 2 1 [(1,(.int .i64 0))] [(0,1,(.t 16)),(1,1,(.t 37))]⟩,⟨some 39,none,.call 31 [(.t 38)]⟩,⟨some 6,none,.mov (.t 39)⟩]) .ret)))
set_option maxRecDepth 100000 in
theorem tr30 : trFn Tryz.prog Tryz.f30 = some (40, ir30, [.tmp 6]) := by kernel_rfl

theorem impl_smashCode (h : HT) (ap an d : Int) (au am t : Nat → Int) (bh ba bm : Nat) (Kh Ka Km : Blk) (H : Hp) (n : Nat) (hK : h.At Kh.c) (hB : h.By) (hA : AAt ap an au am Ka.c) (hu : isBy 8 au) (hm : isBy 512 am)
    (kd : Km.c 0 = .int .i64 d) (cm : ∀ q, q < 512 → Km.c (1 + q) = .int .u8 (t q)) (ht : isBy 512 t) (gh : H.get bh = some Kh) (sh : Kh.size = 1106) (ga : H.get ba = some Ka) (sa : Ka.size = 522) (gm : H.get bm = some Km) (sm : Km.size = 513) :
    FnS Tryz.prog 30 [ptr bh 0, ptr ba 0, ptr bm 0] H n (fun r H' _ => r = i64 (k8 (q8 h ap an d au am t) (r8 h ap an d)) ∧ H' = H) := by
  have hk0 := hK.p
  obtain ⟨a0, a1, aU, aM⟩ := hA
  have a1' : Ka.c (0 + 1) = .int .i64 an := a1
  refine FnS.of_body Tryz.func30 tr30 (by simp) (fun hf => ?_)
  dsimp only [argEnv]
  unfold ir30
  have hbm := getlt hf gm
  have hbh := getlt hf gh
  have hba := getlt hf ga
  (refine zG ?_)
  refine RS.call rfl ((impl_modulesCode h d t bm bh n Km Kh _ _ _ hK hB (by exact zH) sm kd cm ht (by exact zH) sh (by exact zH) rfl rfl).mono ?_)
  rintro r H' n2 hn2 ⟨rfl, rfl⟩
  (refine zG ?_)
  refine RS.call rfl ((Algebra_code ap an au am ba .nils 0 (by omega) (fun _ => 0) Ka _ _ (by exact zH) sa a0 a1 aU aM hu hm (.inl ⟨rfl, rfl⟩) (fun x hx => by omega)).mono ?_)
  rintro r H' n3 hn3 ⟨rfl, rfl⟩
  (refine zG ?_)
  refine RS.call rfl ((impl_first2 n3 2 (cd (isHopf h ∧ isModule h h.N d t)) (cd (isAlg ap an au am ∧ ∀ i, i < 0 → isVec ap an (fun x => (fun _ => 0) (i * 8 + x)))) _ _ _ (by exact zH) rfl rfl rfl).mono ?_)
  rintro r H' n4 hn4 ⟨rfl, rfl⟩
  rw [cd2, cd_iff (show ((isHopf h ∧ isModule h h.N d t) ∧ (isAlg ap an au am ∧ ∀ i, i < 0 → isVec ap an (fun x => (fun _ => 0) (i * 8 + x)))) ↔ q8 h ap an d au am t from ⟨fun q => ⟨q.1.1, q.2.1, q.1.2⟩, fun q => ⟨⟨q.1, q.2.2⟩, q.2.1, fun i hi => by omega⟩⟩)]
  (refine zG ?_)
  refine CS.tree ?_
  refine OTS.segW ?_
  dsimp only [OT.os, OT.rest, pick, List.filterMap_cons, List.getElem?_cons_zero, List.getElem?_cons_succ, List.filterMap_nil]
  (refine zG ?_)
  refine RS.sp (t := 26) rfl (fun h1 => ?_) (fun h1 => ?_) <;> (try simp only [tb_eq, tb_eqF, decide_eq_true_eq, decide_eq_false_iff_not, beq_iff_eq, bne_iff_ne, ne_eq, Decidable.not_not, beq_eq_false_iff_ne, bne_eq_false_iff_eq, Bool.not_eq_true', Bool.not_eq_false', Bool.not_eq_eq_eq_not, Bool.not_true, Bool.not_false] at h1)
  · (refine zG ?_)
    refine LS.callOq (i64 (if (d == an) = true then 0 else 2)) rfl (fun n' _ _ => impl_unlessB (d == an) 2 _ _) ?_
    (repeat first|refine zG ?_|(refine LS.nilO ?_;intro nq hnq hltq;try refine zU ?_)|(refine MS.new ?_;intro bq hbq hbqf;try refine zU ?_)|(refine MS.nil ?_;intro nq hnq hltq;have hlq:=hltq _ _ (Hp.get_eq _ _ _);clear hltq;try refine zU ?_)|(refine LS.nilQ ?_;try with_reducible intro nq hnq;try refine zU ?_))
    refine LS.bslO rfl ?_
    intro b3 hb3 hbf3
    have l3 := hbf3 _ _ (Hp.get_eq _ _ _)
    (repeat first|refine zG ?_|(refine LS.nilO ?_;intro nq hnq hltq;try refine zU ?_)|(refine MS.new ?_;intro bq hbq hbqf;try refine zU ?_)|(refine MS.nil ?_;intro nq hnq hltq;have hlq:=hltq _ _ (Hp.get_eq _ _ _);clear hltq;try refine zU ?_)|(refine LS.nilQ ?_;try with_reducible intro nq hnq;try refine zU ?_))
    refine LS.callOq (i64 (if cd (q8 h ap an d au am t) ≠ 0 then cd (q8 h ap an d au am t) else if (d == an) = true then 0 else 2)) rfl (fun n' _ _ => impl_first2 b3 2 (cd (q8 h ap an d au am t)) (if (d == an) = true then 0 else 2) _ _ _ (by exact zH) rfl rfl rfl) ?_
    rw [k8_first (R := r8 h ap an d) (d == an) (by simp only [beq_iff_eq]; exact ⟨fun q => ⟨h1, q⟩, fun q => q.2⟩)]
    (refine zG ?_)
    refine LS.nilO ⟨?_⟩
    refine OTS.done ?_
    intro n5 hn5 hf5
    dsimp only [Ex.then, Ex.inBlock]
    (refine zG ?_)
    exact ⟨_, H, rfl, by exact zD, rfl, rfl⟩
  · (refine zG ?_)
    refine LS.callOq (i64 (if false = true then 0 else 2)) rfl (fun n' _ _ => impl_unlessB false 2 _ _) ?_
    (repeat first|refine zG ?_|(refine LS.nilO ?_;intro nq hnq hltq;try refine zU ?_)|(refine MS.new ?_;intro bq hbq hbqf;try refine zU ?_)|(refine MS.nil ?_;intro nq hnq hltq;have hlq:=hltq _ _ (Hp.get_eq _ _ _);clear hltq;try refine zU ?_)|(refine LS.nilQ ?_;try with_reducible intro nq hnq;try refine zU ?_))
    refine LS.bslO rfl ?_
    intro b3 hb3 hbf3
    have l3 := hbf3 _ _ (Hp.get_eq _ _ _)
    (repeat first|refine zG ?_|(refine LS.nilO ?_;intro nq hnq hltq;try refine zU ?_)|(refine MS.new ?_;intro bq hbq hbqf;try refine zU ?_)|(refine MS.nil ?_;intro nq hnq hltq;have hlq:=hltq _ _ (Hp.get_eq _ _ _);clear hltq;try refine zU ?_)|(refine LS.nilQ ?_;try with_reducible intro nq hnq;try refine zU ?_))
    refine LS.callOq (i64 (if cd (q8 h ap an d au am t) ≠ 0 then cd (q8 h ap an d au am t) else if false = true then 0 else 2)) rfl (fun n' _ _ => impl_first2 b3 2 (cd (q8 h ap an d au am t)) (if false = true then 0 else 2) _ _ _ (by exact zH) rfl rfl rfl) ?_
    rw [k8_first (R := r8 h ap an d) false (⟨fun q => absurd q (by decide), fun q => absurd q.1 h1⟩)]
    (refine zG ?_)
    refine LS.nilO ⟨?_⟩
    refine OTS.done ?_
    intro n5 hn5 hf5
    dsimp only [Ex.then, Ex.inBlock]
    (refine zG ?_)
    exact ⟨_, H, rfl, by exact zD, rfl, rfl⟩

end Go.Proofs.YtmkegkpabifpfaaGreat

/- Module algebras on the program's side. -/
namespace Go.Proofs.YtmkegkpabifpfaaGreat
open Go.V
set_option linter.unusedSimpArgs false
set_option linter.unusedVariables false
set_option maxHeartbeats 4000000

/-- (*impl.Hopf).isModuleAlgebra$1 -/
def ir51 : Cd := (.drwo true [20] [0,1,2,3,4,5,6,7,8,9,10,11,12,13,14,15,16,17,18,19,20] [⟨some 12,none,.ld (some 2) (.t 3)⟩,⟨some 13,none,.mov (.t 2)⟩,⟨some 14,none,.ld none (.t 5)⟩,⟨some 15,none,.ld none (.t 6)⟩,⟨some 16,none,.mov (.t 0)⟩,⟨some 17,none,.ld none (.t 7)⟩,⟨some 18,none,.ck (.t 15)⟩,⟨some 19,none,.fa 1 (.t 18)⟩,⟨some 20,none,.ia 8 64 (.t 19) (.t 16)⟩,⟨some 21,none,.ia 8 8 (.t 20) (.t 17)⟩,⟨some 22,none,.ld (some 8) (.t 21)⟩,⟨some 23,none,.ld none (.t 6)⟩,⟨some 24,none,.mov (.t 1)⟩,⟨some 25,none,.ld none (.t 8)⟩,⟨some 26,none,.ck (.t 23)⟩,⟨some 27,none,.fa 1 (.t 26)⟩,⟨some 28,none,.ia 8 64 (.t 27) (.t 24)⟩,⟨some 29,none,.ia 8 8 (.t 28) (.t 25)⟩,⟨some 30,none,.ld (some 8) (.t 29)⟩,⟨some 31,none,.call 53 [(.t 14),(.t 22),(.t 30)]⟩,⟨some 32,none,.call 52 [(.t 12),(.t 4),(.t 13),(.t 31)]⟩])
set_option maxRecDepth 100000 in
theorem tr51 : trFn Tryz.prog Tryz.f51 = some (33, ir51, []) := by kernel_rfl

theorem Hopf_isModuleAlgebra_1 (h : HT) (s i x y w j k : Nat) (am t : Nat → Int) (g : Nat → Nat → Int) (hg : g = mag h.p am t s x y) (hi : i < 8) (hw : w = 8 * j + k) (hj : j < 8) (hk : k < 8) (hx : x < 8) (hy : y < 8)
    (bf bo pa pm bx bz ba bm : Nat) (Kpa Kpm Kx Kz Ka Km : Blk) (H : Hp) (n : Nat) (hp : 2 ≤ h.p ∧ h.p ≤ 31) (hB : h.By) (hs : s ≤ 8)
    (gf : H.get bf = some ⟨2, fldC h.p s, 76⟩) (go : H.get bo = some ⟨8, bys (fold h.p h.c i g w), 34⟩)
    (gpa : H.get pa = some Kpa) (spa : Kpa.size = 1) (cpa : Kpa.c 0 = .ptr ba 0) (gpm : H.get pm = some Kpm) (spm : Kpm.size = 1) (cpm : Kpm.c 0 = .ptr bm 0)
    (gx : H.get bx = some Kx) (sx : Kx.size = 1) (cx : Kx.c 0 = .int .i64 (x : Nat)) (gz : H.get bz = some Kz) (sz' : Kz.size = 1) (cz : Kz.c 0 = .int .i64 (y : Nat))
    (ga : H.get ba = some Ka) (sa : Ka.size = 522) (a0 : Ka.c 0 = .int .i64 h.p) (a1 : Ka.c 1 = .int .i64 (s : Nat)) (aM : ∀ q, q < 512 → Ka.c (10 + q) = .int .u8 (am q)) (hm : isBy 512 am)
    (gm : H.get bm = some Km) (sm : Km.size = 513) (cm : ∀ q, q < 512 → Km.c (1 + q) = .int .u8 (t q)) (ht : isBy 512 t) :
    FnS Tryz.prog 51 [i64 (j : Nat), i64 (k : Nat), i64 (h.c (64 * i + w)), ptr bf 0, ptr bo 0, ptr pa 0, ptr pm 0, ptr bx 0, ptr bz 0] H n (fun _ H' _ => H' = H.set bo (bys (fold h.p h.c i g (w + 1)))) := by
  have hct := hB.c (64 * i + w) (by omega)
  have cm' : ∀ q, q < 512 → Km.c (0 + 1 + q) = .int .u8 (t q) := cm
  refine FnS.of_body Tryz.func51 tr51 (by simp) (fun hf => ?_)
  dsimp only [argEnv]
  unfold ir51
  (repeat first|refine zG ?_|(refine LS.nilO ?_;intro nq hnq hltq;try refine zU ?_)|(refine MS.new ?_;intro bq hbq hbqf;try refine zU ?_)|(refine MS.nil ?_;intro nq hnq hltq;have hlq:=hltq _ _ (Hp.get_eq _ _ _);clear hltq;try refine zU ?_)|(refine LS.nilQ ?_;try with_reducible intro nq hnq;try refine zU ?_))
  refine CS.tailLo _ (List.Mem.head _) ?_; dsimp only [List.take, List.drop]
  (refine zG ?_)
  refine LS.callQ (.arr 8 (bys (g w))) rfl (fun n' hn' => by
    rw [hg]; unfold mag; rw [hw, show (8 * j + k) / 8 = j by omega, show (8 * j + k) % 8 = k by omega]
    exact Algebra_product h.p s am (fun z => t (64 * j + 8 * x + z)) (fun z => t (64 * k + 8 * y + z)) ba Ka _ _ hp hs (by exact zH) sa a0 a1 aM hm (fun z hz => ht _ (by omega)) (fun z hz => ht _ (by omega))) ?_
  (repeat first|refine zG ?_|(refine LS.nilO ?_;intro nq hnq hltq;try refine zU ?_)|(refine MS.new ?_;intro bq hbq hbqf;try refine zU ?_)|(refine MS.nil ?_;intro nq hnq hltq;have hlq:=hltq _ _ (Hp.get_eq _ _ _);clear hltq;try refine zU ?_)|(refine LS.nilQ ?_;try with_reducible intro nq hnq;try refine zU ?_))
  refine RS.call rfl ((field_plus h.p s (h.c (64 * i + w)) (fold h.p h.c i g w) (g w) bo 0 _ _ _ hp (by exact zH) (by simp) (fun _ _ => by rw [Nat.zero_add]; rfl) (fold_res hp.1 _ _ _ _ _) (by rw [hg]; exact (mag_res hp.1 _ _ _ _ _ _ _).by hp.2) (by omega)).mono ?_)
  rintro r H' n5 hn5 ⟨rfl, rfl⟩
  (refine zG ?_)
  exact ⟨_, H.set bo (bys (fold h.p h.c i g (w + 1))), rfl, Drops.setc go (fun q hq => (splice_all _ _ 8 q hq).trans (by rw [fold_step])), rfl⟩

/-- (*impl.Hopf).isModuleAlgebra -/
def ir33 : Cd := (.seq (.reg [⟨some 4,none,.box 60 (.t 1)⟩,⟨some 5,none,.box 61 (.t 2)⟩,⟨some 6,none,.mov (.c (.bool false))⟩]) (.seq (.reg [⟨some 12,none,.ld none (.t 4)⟩,⟨some 13,none,.call 49 [(.t 12)]⟩,⟨some 7,none,.new 76 [(2,(.int .i64 0))]⟩,⟨none,none,.st 2 (.t 7) (.t 13)⟩]) (.seq (.seq (.reg [⟨some 14,none,.mov (.t 0)⟩,⟨some 15,none,.ck (.t 14)⟩,⟨some 16,none,.fa 1 (.t 15)⟩,⟨some 17,none,.ld none (.t 16)⟩,⟨some 18,none,.mov (.c (.int .i64 0))⟩]) (.block 0 (.loop (.seq (.reg [⟨some 19,none,.bin .lss (.t 18) (.t 17)⟩]) (.seq (.cond (.t 19) .skip (.exit 0)) (.seq (.block 1 (.seq (.reg [⟨some 20,none,.mov (.t 18)⟩,⟨some 8,none,.mov (.t 20)⟩]) (.seq (.seq (.reg [⟨some 21,none,.fa 1 (.t 7)⟩,⟨some 22,none,.ld none (.t 21)⟩,⟨some 23,none,.mov (.c (.int .i64 0))⟩]) (.block 2 (.loop (.seq (.reg [⟨some 24,none,.bin .lss (.t 23) (.t 22)⟩]) (.seq (.cond (.t 24) .skip (.exit 2)) (.seq (.block 3 (.seq (.reg [⟨some 25,none,.mov (.t 23)⟩,⟨some 9,none,.new 3 [(1,(.int .i64 0))]⟩,⟨none,none,.st 1 (.t 9) (.t 25)⟩]) (.seq (.reg [⟨some 26,none,.fa 1 (.t 7)⟩,⟨some 27,none,.ld none (.t 26)⟩,⟨some 28,none,.mov (.c (.int .i64 0))⟩]) (.block 4 (.loop (.seq (.reg [⟨some 29,none,.bin .lss (.t 28) (.t 27)⟩]) (.seq (.cond (.t 29) .skip (.exit 4)) (.seq (.block 5 (.seq (.reg [⟨some 30,none,.mov (.t 28)⟩,⟨some 10,none,.new 3 [(1,(.int .i64 0))]⟩,⟨none,none,.st 1 (.t 10) (.t 30)⟩]) (.seq (.reg [⟨some 31,none,.build 8 [(8,(.int .u8 0))] []⟩,⟨some 11,none,.new 34 [(8,(.int .u8 0))]⟩,⟨none,none,.st 8 (.t 11) (.t 31)⟩]) (.seq (.reg [⟨some 32,none,.mov (.t 0)⟩,⟨some 33,none,.mov (.t 8)⟩,⟨some 34,none,.ck (.t 32)⟩,⟨some 35,none,.fa 530 (.t 34)⟩,⟨some 36,none,.ia 8 64 (.t 35) (.t 33)⟩,⟨some 37,none,.mkf 51 [] [(.t 7),(.t 11),(.t 4),(.t 5),(.t 9),(.t 10)]⟩,⟨some 38,none,.call 50 [(.t 36),(.t 37)]⟩]) (.seq (.drw true [] [⟨some 39,none,.ld (some 2) (.t 7)⟩,⟨some 40,none,.ld none (.t 5)⟩,⟨some 41,none,.mov (.t 8)⟩,⟨some 42,none,.ck (.t 40)⟩,⟨some 43,none,.fa 1 (.t 42)⟩,⟨some 44,none,.ia 8 64 (.t 43) (.t 41)⟩,⟨some 45,none,.ld none (.t 4)⟩,⟨some 46,none,.ld none (.t 9)⟩,⟨some 47,none,.ld none (.t 10)⟩,⟨some 48,none,.ck (.t 45)⟩,⟨some 49,none,.fa 10 (.t 48)⟩,⟨some 50,none,.ia 8 64 (.t 49) (.t 46)⟩,⟨some 51,none,.ia 8 8 (.t 50) (.t 47)⟩,⟨some 52,none,.ld (some 8) (.t 51)⟩,⟨some 53,none,.call 54 [(.t 39),(.t 44),(.t 52)]⟩,⟨some 54,none,.ld (some 8) (.t 11)⟩,⟨some 55,none,.eqa true 8 (.t 53) (.t 54)⟩]) (.cond (.t 55) (.seq (.reg [⟨some 6,none,.mov (.c (.bool false))⟩]) .ret) .skip)))))) (.reg [⟨some 56,none,.bin .add (.t 28) (.c (.int .i64 1))⟩,⟨some 28,none,.mov (.t 56)⟩]))))))))) (.reg [⟨some 57,none,.bin .add (.t 23) (.c (.int .i64 1))⟩,⟨some 23,none,.mov (.t 57)⟩]))))))) (.seq (.drw true [23] [⟨some 58,none,.ld (some 2) (.t 7)⟩,⟨some 59,none,.ld none (.t 5)⟩,⟨some 60,none,.mov (.t 8)⟩,⟨some 61,none,.ck (.t 59)⟩,⟨some 62,none,.fa 1 (.t 61)⟩,⟨some 63,none,.ia 8 64 (.t 62) (.t 60)⟩,⟨some 64,none,.ld none (.t 4)⟩,⟨some 65,none,.ck (.t 64)⟩,⟨some 66,none,.fa 2 (.t 65)⟩,⟨some 67,none,.ld (some 8) (.t 66)⟩,⟨some 68,none,.call 54 [(.t 58),(.t 63),(.t 67)]⟩,⟨some 69,none,.ld (some 2) (.t 7)⟩,⟨some 70,none,.mov (.t 0)⟩,⟨some 71,none,.mov (.t 8)⟩,⟨some 72,none,.ck (.t 70)⟩,⟨some 73,none,.fa 522 (.t 72)⟩,⟨some 74,none,.ia 8 1 (.t 73) (.t 71)⟩,⟨some 75,none,.ld none (.t 74)⟩,⟨some 76,none,.cv .i64 (.t 75)⟩,⟨some 77,none,.ld none (.t 4)⟩,⟨some 78,none,.ck (.t 77)⟩,⟨some 79,none,.fa 2 (.t 78)⟩,⟨some 80,none,.ld (some 8) (.t 79)⟩,⟨some 81,none,.call 55 [(.t 69),(.t 76),(.t 80)]⟩,⟨some 82,none,.eqa true 8 (.t 68) (.t 81)⟩]) (.cond (.t 82) (.seq (.reg [⟨some 6,none,.mov (.c (.bool false))⟩]) .ret) .skip))))) (.reg [⟨some 83,none,.bin .add (.t 18) (.c (.int .i64 1))⟩,⟨some 18,none,.mov (.t 83)⟩]))))))) (.seq (.reg [⟨some 6,none,.mov (.c (.bool true))⟩]) .ret))))
set_option maxRecDepth 100000 in
theorem tr33 : trFn Tryz.prog Tryz.f33 = some (84, ir33, [.tmp 6]) := by kernel_rfl

theorem Hopf_isModuleAlgebra (h : HT) (N s : Nat) (au am t : Nat → Int) (bh ba bm : Nat) (Kh Ka Km : Blk) (H : Hp) (n : Nat) (hS : HS h N) (hK : h.At Kh.c) (hB : h.By) (hs : s ≤ 8) (hA : AAt h.p (s : Nat) au am Ka.c) (hu : isBy 8 au) (hm : isBy 512 am)
    (cm : ∀ q, q < 512 → Km.c (1 + q) = .int .u8 (t q)) (ht : isBy 512 t) (gh : H.get bh = some Kh) (sh : Kh.size = 1106) (ga : H.get ba = some Ka) (sa : Ka.size = 522) (gm : H.get bm = some Km) (sm : Km.size = 513) :
    FnS Tryz.prog 33 [ptr bh 0, ptr ba 0, ptr bm 0] H n (fun r H' _ => r = bl (tb (isMA h N s au am t)) ∧ H' = H) := by
  have hp := hS.hp
  have hN := hS.ha
  have hk1 := hK.n
  rw [hS.hn] at hk1
  have hk1' : Kh.c (0 + 1) = .int .i64 (N : Nat) := hk1
  have hke := hK.e
  have hkc := hK.c
  obtain ⟨a0, a1, aU, aM⟩ := hA
  have a1' : Ka.c (0 + 1) = .int .i64 (s : Nat) := a1
  have aU' : ∀ q, q < 8 → Ka.c (0 + 2 + q) = .int .u8 (au q) := aU
  have aM' : ∀ q, q < 512 → Ka.c (0 + 10 + q) = .int .u8 (am q) := aM
  refine FnS.of_body Tryz.func33 tr33 (by simp) (fun hf => ?_)
  dsimp only [argEnv]
  unfold ir33
  have hbm := getlt hf gm
  have hbh := getlt hf gh
  have hba := getlt hf ga
  (refine zG ?_)
  refine RS.call rfl ((Algebra_field h.p (s : Nat) ba Ka _ _ (by exact zH) sa a0 a1 (by omega)).mono ?_)
  rintro r H' n2 hn2 ⟨rfl, rfl⟩
  (refine zG ?_)
  refine CS.iter N (fun i => [(18, i64 (i : Nat)), (17, i64 (N : Nat)), (7, ptr n2 0), (4, ptr n 0), (5, ptr (n + 1) 0), (0, ptr bh 0)]) (fun _ => (n2, ⟨2, fldC h.p s, 76⟩) :: (n + 1, ⟨1, fun _ => .ptr bm 0, 61⟩) :: (n, ⟨1, fun _ => .ptr ba 0, 60⟩) :: H)
    (fun i => ∀ i', i' < i → (∀ q, q < 8 → app h.p (fun y => t (64 * i' + y)) au q = pl h.p (fun _ => 0) (h.e i') au q) ∧
      ∀ x y, x < s → y < s → ∀ q, q < 8 → fold h.p h.c i' (mag h.p am t s x y) 64 q = app h.p (fun z => t (64 * i' + z)) (fun z => am (64 * x + 8 * y + z)) q) (by (repeat first | exact trivial | refine And.intro rfl ?_)) (by first | exact Drops.refl _ _ | exact zD) (fun j hj => by omega) ?_
  intro i n1 hi hn1 hJ
  (refine zG ?_)
  refine zI ?_ ?_<;>intro h1
  · have hi' : i < N := by omega
    have hei := hB.e i (by omega)
    (refine zG ?_)
    refine CS.iter s (fun x => [(23, i64 (x : Nat)), (22, i64 (s : Nat)), (8, i64 (i : Nat)), (18, i64 (i : Nat)), (17, i64 (N : Nat)), (7, ptr n2 0), (4, ptr n 0), (5, ptr (n + 1) 0), (0, ptr bh 0)]) (fun _ => (n2, ⟨2, fldC h.p s, 76⟩) :: (n + 1, ⟨1, fun _ => .ptr bm 0, 61⟩) :: (n, ⟨1, fun _ => .ptr ba 0, 60⟩) :: H)
      (fun x => ∀ x' y, x' < x → y < s → ∀ q, q < 8 → fold h.p h.c i (mag h.p am t s x' y) 64 q = app h.p (fun z => t (64 * i + z)) (fun z => am (64 * x' + 8 * y + z)) q) (by (repeat first | exact trivial | refine And.intro rfl ?_)) (Drops.refl _ _) (fun x y hx => by omega) ?_
    intro x n3 hx hn3 hJx
    (refine zG ?_)
    refine zI ?_ ?_<;>intro h3
    · have hx' : x < s := by omega
      (refine zG ?_)
      refine CS.iter s (fun y => [(28, i64 (y : Nat)), (27, i64 (s : Nat)), (9, ptr n3 0), (23, i64 (x : Nat)), (22, i64 (s : Nat)), (8, i64 (i : Nat)), (18, i64 (i : Nat)), (17, i64 (N : Nat)), (7, ptr n2 0), (4, ptr n 0), (5, ptr (n + 1) 0), (0, ptr bh 0)]) (fun _ => (n3, ⟨1, fun _ => .int .i64 (x : Nat), 3⟩) :: (n2, ⟨2, fldC h.p s, 76⟩) :: (n + 1, ⟨1, fun _ => .ptr bm 0, 61⟩) :: (n, ⟨1, fun _ => .ptr ba 0, 60⟩) :: H)
        (fun y => ∀ y', y' < y → ∀ q, q < 8 → fold h.p h.c i (mag h.p am t s x y') 64 q = app h.p (fun z => t (64 * i + z)) (fun z => am (64 * x + 8 * y' + z)) q) (by (repeat first | exact trivial | refine And.intro rfl ?_)) (Drops.keepc rfl rfl (fun q hq => by (obtain rfl : q = 0 := by (simp only [Zs.size] at hq; omega)); rfl) (Drops.refl _ _)) (fun y hy => by omega) ?_
      intro y n4 hy hn4 hJy
      (refine zG ?_)
      refine zI ?_ ?_<;>intro h4
      · have hy' : y < s := by omega
        obtain ⟨g, hg⟩ : ∃ g, g = mag h.p am t s x y := ⟨_, rfl⟩
        (refine zG ?_)
        refine RS.call rfl ((impl_pairs (fun q => h.c (64 * i + q)) bh (530 + 64 * i) _ _ (fun w => (n4 + 1, ⟨8, bys (fold h.p h.c i g w), 34⟩) :: (n4, ⟨1, put1 (Zs.c [(1, SV.int IntKind.i64 0)]) 0 (SV.int IntKind.i64 (y : Nat)), 3⟩) :: (n3, ⟨1, fun _ => .int .i64 (x : Nat), 3⟩) :: (n2, ⟨2, fldC h.p s, 76⟩) :: (n + 1, ⟨1, fun _ => .ptr bm 0, 61⟩) :: (n, ⟨1, fun _ => .ptr ba 0, 60⟩) :: H) _ _ (by (try dsimp only); rw [fold_zero]; rfl)
          (fun w hw => ⟨Kh, by exact zH, by omega, fun q hq => by rw [Nat.add_assoc]; exact hkc _ (by omega)⟩) (hB.rowc (by omega)) (fun w hw hz => by (try dsimp only); rw [fold_skip hz]) (fun w j k n' hw hw' hk hz hn' => ?_)).mono ?_)
        · refine (Hopf_isModuleAlgebra_1 h s i x y w j k am t g hg (by omega) hw' (by omega) hk (by omega) (by omega) n2 (n4 + 1) n (n + 1) n3 n4 ba bm _ _ _ _ Ka Km _ n' hp hB hs (by exact zH) (by exact zH) (by exact zH) rfl rfl (by exact zH) rfl rfl (by exact zH) rfl rfl (by exact zH) rfl rfl (by exact zH) sa a0 a1 aM hm (by exact zH) sm cm ht).mono ?_
          rintro r H' n5 hn5 rfl
          simp (disch := omega) only [Hp.set_eq, Hp.set_ne, Hp.set_set]
        rintro r H' n5 hn5 rfl
        (refine zG ?_)
        refine LS.callQ (.arr 8 (bys (app h.p (fun z => t (64 * i + z)) (fun z => am (64 * x + 8 * y + z))))) rfl (fun n' hn' => field_apply h.p s (fun z => t (64 * i + z)) (fun z => am (64 * x + 8 * y + z)) bm (1 + 64 * i) Km _ _ hp (by exact zH) (by omega) (fun z hz => by rw [Nat.add_assoc]; exact cm _ (by omega)) (fun z hz => ht _ (by omega)) (fun z hz => hm _ (by omega))) ?_
        (repeat first|refine zG ?_|(refine LS.nilO ?_;intro nq hnq hltq;try refine zU ?_)|(refine MS.new ?_;intro bq hbq hbqf;try refine zU ?_)|(refine MS.nil ?_;intro nq hnq hltq;have hlq:=hltq _ _ (Hp.get_eq _ _ _);clear hltq;try refine zU ?_)|(refine LS.nilQ ?_;try with_reducible intro nq hnq;try refine zU ?_))
        refine zI ?_ ?_<;>intro h8
        · (refine zG ?_)
          exact ⟨_, H, rfl, by exact zD, by rw [tb_false (fun q => h8 (fun z hz => by rw [hg]; exact ((q i hi').2 x y hx' hy' z hz).symm))], rfl⟩
        · rw [hg] at h8
          (refine zG ?_)
          refine ⟨by omega, by (repeat first | exact trivial | refine And.intro rfl ?_), by exact zD, fun y' hy2 => ?_⟩
          by_cases e : y' = y
          · subst e; exact fun q hq => (h8 q hq).symm
          · exact hJy y' (by omega)
      · obtain rfl : s = y := by omega
        (refine zG ?_)
        refine ⟨by omega, by (repeat first | exact trivial | refine And.intro rfl ?_), by exact zD, fun x' y hx2 hy2 => ?_⟩
        by_cases e : x' = x
        · subst e; exact hJy y hy2
        · exact hJx x' y (by omega) hy2
    · obtain rfl : s = x := by omega
      (refine zG ?_)
      refine LS.callQ (.arr 8 (bys (app h.p (fun z => t (64 * i + z)) au))) rfl (fun n' hn' => field_apply h.p s (fun z => t (64 * i + z)) au bm (1 + 64 * i) Km _ _ hp (by exact zH) (by omega) (fun z hz => by rw [Nat.add_assoc]; exact cm _ (by omega)) (fun z hz => ht _ (by omega)) hu) ?_
      (repeat first|refine zG ?_|(refine LS.nilO ?_;intro nq hnq hltq;try refine zU ?_)|(refine MS.new ?_;intro bq hbq hbqf;try refine zU ?_)|(refine MS.nil ?_;intro nq hnq hltq;have hlq:=hltq _ _ (Hp.get_eq _ _ _);clear hltq;try refine zU ?_)|(refine LS.nilQ ?_;try with_reducible intro nq hnq;try refine zU ?_))
      refine RS.call rfl ((field_times h.p s (h.e i) au _ _ hp hu (by omega)).mono ?_)
      rintro r H' n5 hn5 ⟨rfl, rfl⟩
      (refine zG ?_)
      refine zI ?_ ?_<;>intro h2
      · (refine zG ?_)
        exact ⟨_, H, rfl, by exact zD, by rw [tb_false (fun q => h2 (fun z hz => (q i hi').1 z hz))], rfl⟩
      · (refine zG ?_)
        refine ⟨by omega, by (repeat first | exact trivial | refine And.intro rfl ?_), by exact zD, fun i' hi2 => ?_⟩
        by_cases e : i' = i
        · subst e; exact ⟨h2, hJx⟩
        · exact hJ i' (by omega)
  · obtain rfl : N = i := by omega
    (refine zG ?_)
    exact ⟨_, H, rfl, by exact zD, by rw [tb_true (show isMA h N s au am t from hJ)], rfl⟩

end Go.Proofs.YtmkegkpabifpfaaGreat

/- The state's code and the constants on the program's side; a law's module. -/
namespace Go.V
set_option linter.unusedSimpArgs false
set_option linter.unusedVariables false
theorem k9_first {Q R M : Prop} : (if k8 Q R ≠ 0 then k8 Q R else if tb M = true then 0 else 5) = k9 Q R M := by
  by_cases h1 : Q
  · by_cases h2 : R
    · rw [k8_0 h1 h2, if_neg (by decide)]
      by_cases h3 : M
      · rw [k9_0 h1 h2 h3, tb_true h3]; rfl
      · rw [k9_5 h1 h2 h3, tb_false h3]; rfl
    · rw [k8_2 h1 h2, k9_2 h1 h2, if_pos (by decide)]
  · rw [k8_1 h1, k9_1 h1, if_pos (by decide)]
end Go.V
namespace Go.Proofs.YtmkegkpabifpfaaGreat
open Go.V
set_option linter.unusedSimpArgs false
set_option linter.unusedVariables false
set_option maxHeartbeats 4000000

/-- impl.stateCode -/
def ir19 : Cd := (.seq (.reg [⟨some 6,none,.mov (.c (.int .i64 0))⟩]) (.seq (.reg [⟨some 8,none,.mov (.t 0)⟩,⟨some 9,none,.mov (.t 1)⟩,⟨some 10,none,.mov (.t 2)⟩,⟨some 11,none,.call 30 [(.t 8),(.t 9),(.t 10)]⟩,⟨some 7,none,.mov (.t 11)⟩]) (.seq (.reg [⟨some 12,none,.mov (.t 7)⟩,⟨some 13,none,.mov (.t 7)⟩,⟨some 14,none,.bin .neq (.t 13) (.c (.int .i64 0))⟩,⟨some 15,none,.mov (.t 14)⟩,⟨some 16,(some (15,false)),.mov (.t 0)⟩,⟨some 17,(some (15,false)),.mov (.t 1)⟩,⟨some 18,(some (15,false)),.mov (.t 2)⟩,⟨some 19,(some (15,false)),.call 33 [(.t 16),(.t 17),(.t 18)]⟩,⟨some 20,none,.pick (.t 15) (.c (.bool true)) (.t 19)⟩,⟨some 21,none,.call 32 [(.t 20),(.c (.int .i64 5))]⟩,⟨some 22,none,.bsl 2 2 1 [(1,(.int .i64 0))] [(0,1,(.t 12)),(1,1,(.t 21))]⟩,⟨some 23,none,.call 31 [(.t 22)]⟩,⟨some 6,none,.mov (.t 23)⟩]) .ret)))
set_option maxRecDepth 100000 in
theorem tr19 : trFn Tryz.prog Tryz.f19 = some (24, ir19, [.tmp 6]) := by kernel_rfl

theorem impl_stateCode (h : HT) (ap an d : Int) (au am t : Nat → Int) (bh ba bm : Nat) (Kh Ka Km : Blk) (H : Hp) (n : Nat) (hK : h.At Kh.c) (hB : h.By) (hA : AAt ap an au am Ka.c) (hu : isBy 8 au) (hm : isBy 512 am)
    (kd : Km.c 0 = .int .i64 d) (cm : ∀ q, q < 512 → Km.c (1 + q) = .int .u8 (t q)) (ht : isBy 512 t) (gh : H.get bh = some Kh) (sh : Kh.size = 1106) (ga : H.get ba = some Ka) (sa : Ka.size = 522) (gm : H.get bm = some Km) (sm : Km.size = 513) :
    FnS Tryz.prog 19 [ptr bh 0, ptr ba 0, ptr bm 0] H n (fun r H' _ => r = i64 (k9 (q8 h ap an d au am t) (r8 h ap an d) (isMA h h.N d.toNat au am t)) ∧ H' = H) := by
  refine FnS.of_body Tryz.func19 tr19 (by simp) (fun hf => ?_)
  dsimp only [argEnv]
  unfold ir19
  have hbm := getlt hf gm
  have hbh := getlt hf gh
  have hba := getlt hf ga
  (refine zG ?_)
  refine RS.call rfl ((impl_smashCode h ap an d au am t bh ba bm Kh Ka Km _ _ hK hB hA hu hm kd cm ht (by exact zH) sh (by exact zH) sa (by exact zH) sm).mono ?_)
  rintro r H n2 hn2 ⟨rfl, rfl⟩
  by_cases hq : q8 h ap an d au am t ∧ r8 h ap an d
  · have e0 : k8 (q8 h ap an d au am t) (r8 h ap an d) = 0 := k8_0 hq.1 hq.2
    rw [← k9_first, e0]
    obtain ⟨hq, rfl, rfl⟩ := hq
    obtain ⟨N, hS⟩ := hq.1.1.hs
    have hd := hq.2.2.1.1
    obtain ⟨s, rfl⟩ := Int.eq_ofNat_of_zero_le (show 0 ≤ d by omega)
    rw [show ((s : Nat) : Int).toNat = s from rfl, hS.N]
    (refine zG ?_)
    refine RS.sp (t := 15) rfl (fun h1 => ?_) (fun h1 => ?_) <;> (try simp only [tb_eq, tb_eqF, decide_eq_true_eq, decide_eq_false_iff_not, beq_iff_eq, bne_iff_ne, ne_eq, Decidable.not_not, beq_eq_false_iff_ne, bne_eq_false_iff_eq, Bool.not_eq_true', Bool.not_eq_false', Bool.not_eq_eq_eq_not, Bool.not_true, Bool.not_false] at h1)
    · exact absurd trivial h1
    (repeat first|refine zG ?_|(refine LS.nilO ?_;intro nq hnq hltq;try refine zU ?_)|(refine MS.new ?_;intro bq hbq hbqf;try refine zU ?_)|(refine MS.nil ?_;intro nq hnq hltq;have hlq:=hltq _ _ (Hp.get_eq _ _ _);clear hltq;try refine zU ?_)|(refine LS.nilQ ?_;try with_reducible intro nq hnq;try refine zU ?_))
    refine RS.call rfl ((Hopf_isModuleAlgebra h N s au am t bh ba bm Kh Ka Km _ _ hS hK hB (by omega) hA hu hm cm ht (by exact zH) sh (by exact zH) sa (by exact zH) sm).mono ?_)
    rintro r H n3 hn3 ⟨rfl, rfl⟩
    (refine zG ?_)
    refine RS.call rfl ((impl_unlessB _ 5 _ _).mono ?_)
    rintro r H n4 hn4 ⟨rfl, rfl⟩
    (refine zG ?_)
    refine RS.call rfl ((impl_first2 n4 2 0 (if tb (isMA h N s au am t) = true then 0 else 5) _ _ _ (by exact zH) rfl rfl rfl).mono ?_)
    rintro r H' n5 hn5 ⟨rfl, rfl⟩
    (refine zG ?_)
    exact ⟨_, H, rfl, by exact zD, rfl, rfl⟩
  · have e0 : k8 (q8 h ap an d au am t) (r8 h ap an d) ≠ 0 := fun e => hq (by
      by_cases h1 : q8 h ap an d au am t
      · by_cases h2 : r8 h ap an d
        · exact ⟨h1, h2⟩
        · rw [k8_2 h1 h2] at e; exact absurd e (by decide)
      · rw [k8_1 h1] at e; exact absurd e (by decide))
    have e1 := k9_first (Q := q8 h ap an d au am t) (R := r8 h ap an d) (M := isMA h h.N d.toNat au am t)
    rw [if_pos e0] at e1
    rw [← e1]
    generalize k8 (q8 h ap an d au am t) (r8 h ap an d) = k at e0
    (refine zG ?_)
    refine RS.sp (t := 15) rfl (fun h1 => ?_) (fun h1 => ?_) <;> (try simp only [tb_eq, tb_eqF, decide_eq_true_eq, decide_eq_false_iff_not, beq_iff_eq, bne_iff_ne, ne_eq, Decidable.not_not, beq_eq_false_iff_ne, bne_eq_false_iff_eq, Bool.not_eq_true', Bool.not_eq_false', Bool.not_eq_eq_eq_not, Bool.not_true, Bool.not_false] at h1)
    · (refine zG ?_)
      refine RS.call rfl ((impl_unlessB true 5 _ _).mono ?_)
      rintro r H n4 hn4 ⟨rfl, rfl⟩
      (refine zG ?_)
      refine RS.call rfl ((impl_first2 n4 2 k (if true = true then 0 else 5) _ _ _ (by exact zH) rfl rfl rfl).mono ?_)
      rintro r H' n5 hn5 ⟨rfl, rfl⟩
      rw [if_pos e0]
      (refine zG ?_)
      exact ⟨_, H, rfl, by exact zD, rfl, rfl⟩
    · exact absurd h1 e0

/-- impl.ConstantsOf -/
def ir8 : Cd := (.seq (.reg [⟨some 3,none,.box 40 (.t 0)⟩,⟨some 4,none,.box 43 (.t 1)⟩,⟨some 5,none,.box 46 (.t 2)⟩,⟨some 6,none,.mov (.c .nils)⟩,⟨some 7,none,.mov (.c (.int .i64 0))⟩]) (.seq (.seq (.reg [⟨some 9,none,.call 19 [(.t 3),(.t 4),(.t 5)]⟩,⟨some 8,none,.mov (.t 9)⟩]) (.seq (.reg [⟨some 10,none,.mov (.t 8)⟩,⟨some 11,none,.bin .neq (.t 10) (.c (.int .i64 0))⟩]) (.cond (.t 11) (.seq (.reg [⟨some 12,none,.mov (.t 8)⟩,⟨some 6,none,.mov (.c .nils)⟩,⟨some 7,none,.mov (.t 12)⟩]) .ret) .skip))) (.seq (.reg [⟨some 13,none,.call 20 [(.t 5),(.t 3)]⟩,⟨some 6,none,.mov (.t 13)⟩,⟨some 7,none,.mov (.c (.int .i64 0))⟩]) .ret)))
set_option maxRecDepth 100000 in
theorem tr8 : trFn Tryz.prog Tryz.f8 = some (14, ir8, [.tmp 6, .tmp 7]) := by kernel_rfl

theorem impl_ConstantsOf (h : HT) (ap an d : Int) (au am t : Nat → Int) (Kh Ka Km : Nat → SV) (H : Hp) (n : Nat) (hK : h.At Kh) (hB : h.By) (hA : AAt ap an au am Ka) (hu : isBy 8 au) (hm : isBy 512 am) (kd : Km 0 = .int .i64 d) (cm : ∀ q, q < 512 → Km (1 + q) = .int .u8 (t q)) (ht : isBy 512 t) :
    FnS Tryz.prog 8 [.arr 1106 Kh, .arr 522 Ka, .arr 513 Km] H n (fun r H' n' =>
      (¬(q8 h ap an d au am t ∧ r8 h ap an d ∧ isMA h h.N d.toNat au am t) ∧ r = .tup [.s .nils, i64 (k9 (q8 h ap an d au am t) (r8 h ap an d) (isMA h h.N d.toNat au am t))] ∧ H' = H) ∨
      ((q8 h ap an d au am t ∧ r8 h ap an d ∧ isMA h h.N d.toNat au am t) ∧ ∃ sv' A' d' P' b' R dd P, r = .tup [.s sv', i64 0] ∧ VL H' sv' d' A' b' ∧ RR h.p A' d' P' ∧ same h.p A' d' (krn h.p R P dd d.toNat) (fre P dd d.toNat) ∧ RR h.p (zc d.toNat R) dd P ∧ same h.p (zc d.toNat R) dd (zc d.toNat (krw h.p d.toNat (ivf d.toNat t h.e))) (h.N * d.toNat) ∧ n ≤ b' ∧ b' < n' ∧ (∀ x, n' ≤ x → H'.get x = none) ∧ ∀ x, x < n → H'.get x = H.get x)) := by
  have hk0 := hK.p
  have hk1 := hK.n
  refine FnS.of_body Tryz.func8 tr8 (by simp) (fun hf => ?_)
  dsimp only [argEnv]
  unfold ir8
  (refine zG ?_)
  refine RS.call rfl ((impl_stateCode h ap an d au am t n (n + 1) (n + 2) _ _ _ _ _ hK hB hA hu hm kd cm ht (by exact zH) rfl (by exact zH) rfl (by exact zH) rfl).mono ?_)
  rintro r H' n2 hn2 ⟨rfl, rfl⟩
  by_cases hq : q8 h ap an d au am t ∧ r8 h ap an d ∧ isMA h h.N d.toNat au am t
  · rw [k9_0 hq.1 hq.2.1 hq.2.2]
    have hq' := hq
    obtain ⟨hq1, ⟨rfl, rfl⟩, hma⟩ := hq'
    obtain ⟨N, hS⟩ := hq1.1.1.hs
    have hd := hq1.2.2.1.1
    obtain ⟨s, rfl⟩ := Int.eq_ofNat_of_zero_le (show 0 ≤ d by omega)
    have hisP : isP h.p = true := hq1.2.1.1.1.1
    (refine zG ?_)
    refine RS.call rfl ((Module_invariants h.p s N t h.e (n + 2) n _ _ _ _ hisP (by omega) (by omega) hS.ha1 hS.ha (by exact zH) rfl kd cm (by exact zH) rfl hk0 (by rw [← hS.hn]; exact hk1) hK.e ht hB.e).mono ?_)
    rintro r H3 n4 hn4 ⟨sv', A', d', P', b', A, dd, P, rfl, hV', hR', hsm', hRR, hsm, hb', hb'n, hfr', hlow'⟩
    rw [← hS.N] at hsm
    (refine zG ?_)
    exact ⟨.tup [.s sv', i64 0], H3, rfl, Drops.refl _ _, .inr ⟨hq, sv', A', d', P', b', A, dd, P, rfl, hV', hR', hsm', hRR, hsm, by omega, by omega, fun x hx => hfr' x (by omega), fun x hx => by rw [hlow' x (by omega), Hp.get_ne _ _ (by omega), Hp.get_ne _ _ (by omega), Hp.get_ne _ _ (by omega)]⟩⟩
  · have e1 : k9 (q8 h ap an d au am t) (r8 h ap an d) (isMA h h.N d.toNat au am t) ≠ 0 := fun e => hq (by
      by_cases h1 : q8 h ap an d au am t
      · by_cases h2 : r8 h ap an d
        · by_cases h3 : isMA h h.N d.toNat au am t
          · exact ⟨h1, h2, h3⟩
          · rw [k9_5 h1 h2 h3] at e; exact absurd e (by decide)
        · rw [k9_2 h1 h2] at e; exact absurd e (by decide)
      · rw [k9_1 h1] at e; exact absurd e (by decide))
    obtain ⟨k, hk⟩ : ∃ k, k = k9 (q8 h ap an d au am t) (r8 h ap an d) (isMA h h.N d.toNat au am t) := ⟨_, rfl⟩
    rw [← hk] at e1 ⊢
    (refine zG ?_)
    refine zI ?_ ?_<;>intro h1
    · (refine zG ?_)
      exact ⟨.tup [.s .nils, i64 k], H, rfl, by exact zD, .inl ⟨hq, rfl, rfl⟩⟩
    · exact absurd h1 e1

/-- laws.toLinearA8 -/
def ir18 : Cd := (.seq (.reg [⟨some 1,none,.box 24 (.t 0)⟩,⟨some 2,none,.new 37 [(512,(.int .u8 0))]⟩]) (.seq (.reg [⟨some 3,none,.new 37 [(512,(.int .u8 0))]⟩]) (.seq (.seq (.reg [⟨some 4,none,.mov (.c (.int .i64 0))⟩]) (.block 0 (.loop (.seq (.seq (.reg [⟨some 5,none,.mov (.t 4)⟩,⟨some 6,none,.bin .lss (.t 5) (.c (.int .i64 8))⟩]) (.cond (.t 6) .skip (.exit 0))) (.seq (.block 1 (.reg [⟨some 9,none,.mov (.t 4)⟩,⟨some 10,none,.mov (.t 4)⟩,⟨some 11,none,.ia 8 64 (.t 1) (.t 10)⟩,⟨some 12,none,.ld (some 64) (.t 11)⟩,⟨some 13,none,.call 17 [(.t 12)]⟩,⟨some 14,none,.ia 8 64 (.t 3) (.t 9)⟩,⟨none,none,.st 64 (.t 14) (.t 13)⟩])) (.reg [⟨some 7,none,.mov (.t 4)⟩,⟨some 8,none,.bin .add (.t 7) (.c (.int .i64 1))⟩,⟨some 4,none,.mov (.t 8)⟩])))))) (.seq (.reg [⟨some 15,none,.ld (some 512) (.t 3)⟩,⟨none,none,.st 512 (.t 2) (.t 15)⟩]) .ret))))
set_option maxRecDepth 100000 in
theorem tr18 : trFn Tryz.prog Tryz.f18 = some (16, ir18, [.cell (some 512) 2]) := by kernel_rfl

theorem laws_toLinearA8 (t : Nat → Int) (H : Hp) (n : Nat) :
    FnS Tryz.prog 18 [.arr 512 (bys t)] H n (fun r H' _ => r = .arr 512 (bys t) ∧ H' = H) := by
  refine FnS.of_body Tryz.func18 tr18 (by simp) (fun hf => ?_)
  dsimp only [argEnv]
  unfold ir18
  (refine zG ?_)
  refine CS.iter 8 (fun i => [(4, i64 i), (1, ptr n 0), (2, ptr (n + 1) 0), (3, ptr (n + 2) 0)])
    (fun i => (n + 2, ⟨512, bys (tabsTo (fun _ => 0) t i), 37⟩) :: (n + 1, ⟨512, bys (fun _ => 0), 37⟩) :: (n, ⟨512, bys t, 24⟩) :: H) (fun _ => True) (by (repeat first | exact trivial | refine And.intro rfl ?_))
    (Drops.keepc rfl rfl (fun _ _ => by rw [tabsTo_zero]; rfl) (Drops.keepc rfl rfl (fun _ _ => rfl) (Drops.refl _ _))) trivial ?_
  intro i n1 hi hn _
  (refine zG ?_)
  refine zI ?_ ?_<;>intro h1
  · have hr : ∀ q, q < 64 → (bys t) (64 * i + q) = .int .u8 (t (64 * i + q)) := fun q hq => rfl
    (refine zG ?_)
    refine RS.call rfl ((laws_toLinear (fun x => t (64 * i + x)) _ _).mono ?_)
    rintro r H' n2 hn2 ⟨rfl, rfl⟩
    (refine zG ?_)
    exact ⟨by omega, by (repeat first | exact trivial | refine And.intro rfl ?_), Drops.keepc rfl rfl (fun q hq => tabsTo_step (fun y hy => rfl) q) (Drops.refl _ _), trivial⟩
  · have : i = 8 := by omega
    subst this
    (refine zG ?_)
    exact ⟨.arr 512 (bys t), H, conc_arr (fun q hq => by simp only [Nat.zero_add, bys, tabsTo]; rw [if_pos (by omega)]), by exact zD, rfl, rfl⟩

/-- laws.toModule -/
def ir7 : Cd := (.seq (.reg [⟨some 1,none,.box 30 (.t 0)⟩,⟨some 2,none,.new 46 [(1,(.int .i64 0)),(512,(.int .u8 0))]⟩]) (.seq (.reg [⟨some 3,none,.new 46 [(1,(.int .i64 0)),(512,(.int .u8 0))]⟩]) (.seq (.reg [⟨some 4,none,.fa 0 (.t 1)⟩,⟨some 5,none,.ld none (.t 4)⟩,⟨some 6,none,.fa 0 (.t 3)⟩,⟨none,none,.st 1 (.t 6) (.t 5)⟩]) (.seq (.reg [⟨some 7,none,.fa 1 (.t 1)⟩,⟨some 8,none,.ld (some 512) (.t 7)⟩,⟨some 9,none,.call 18 [(.t 8)]⟩,⟨some 10,none,.fa 1 (.t 3)⟩,⟨none,none,.st 512 (.t 10) (.t 9)⟩]) (.seq (.reg [⟨some 11,none,.ld (some 513) (.t 3)⟩,⟨none,none,.st 513 (.t 2) (.t 11)⟩]) .ret)))))
set_option maxRecDepth 100000 in
theorem tr7 : trFn Tryz.prog Tryz.f7 = some (12, ir7, [.cell (some 513) 2]) := by kernel_rfl

theorem laws_toModule (d : Int) (t : Nat → Int) (K : Nat → SV) (H : Hp) (n : Nat) (k0 : K 0 = .int .i64 d) (k1 : ∀ q, q < 512 → K (1 + q) = .int .u8 (t q)) :
    FnS Tryz.prog 7 [.arr 513 K] H n (fun r H' _ => r = .arr 513 K ∧ H' = H) := by
  refine FnS.of_body Tryz.func7 tr7 (by simp) (fun hf => ?_)
  dsimp only [argEnv]
  unfold ir7
  (refine zG ?_)
  refine RS.call rfl ((laws_toLinearA8 t _ _).mono ?_)
  rintro r H' n2 hn2 ⟨rfl, rfl⟩
  (refine zG ?_)
  refine ⟨.arr 513 K, H, conc_arr (fun q hq => ?_), by exact zD, rfl, rfl⟩
  simp only [Nat.zero_add, splice, put1]
  by_cases e0 : q < 1
  · obtain rfl : q = 0 := by omega
    rw [if_neg (by omega), if_pos rfl]; exact k0.symm
  · rw [if_pos (by omega)]
    have := k1 (q - 1) (by omega)
    rw [show 1 + (q - 1) = q by omega] at this
    rw [this]; rfl

theorem laws_markVectorS0 (H : Hp) (n : Nat) : FnS Tryz.prog 10 [.s .nils, i64 101] H n (fun r H' _ => r = i64 101 ∧ H' = H) := by
  refine FnS.of_body Tryz.func10 tr10 (by simp) (fun hf => ?_)
  dsimp only [argEnv]
  unfold ir10
  (refine zG ?_)
  refine CS.iter 0 (fun i => [(5, i64 (i : Nat)), (0, .s .nils), (1, i64 101)]) (fun _ => H) (fun _ => True) (by (repeat first | exact trivial | refine And.intro rfl ?_)) (Drops.refl _ _) trivial ?_
  intro i n1 hi hn _
  obtain rfl : i = 0 := by omega
  (refine zG ?_)
  exact ⟨_, H, rfl, by exact zD, rfl, rfl⟩

theorem laws_heldVectorS0 (H : Hp) (n : Nat) : FnS Tryz.prog 11 [.s .nils, i64 101] H n (fun r H' _ => r = i64 101 ∧ H' = H) := by
  refine FnS.of_body Tryz.func11 tr11 (by simp) (fun hf => ?_)
  dsimp only [argEnv]
  unfold ir11
  (refine zG ?_)
  refine CS.iter 0 (fun i => [(5, i64 (i : Nat)), (0, .s .nils), (1, i64 101)]) (fun _ => H) (fun _ => True) (by (repeat first | exact trivial | refine And.intro rfl ?_)) (Drops.refl _ _) trivial ?_
  intro i n1 hi hn _
  obtain rfl : i = 0 := by omega
  (refine zG ?_)
  exact ⟨_, H, rfl, by exact zD, rfl, rfl⟩

end Go.Proofs.YtmkegkpabifpfaaGreat

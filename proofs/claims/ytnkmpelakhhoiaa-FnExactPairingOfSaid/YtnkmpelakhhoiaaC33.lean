/- PairingOf, on both sides, and its law. -/
import Derived.Test.YtnkmpelakhhoiaaC24
namespace Go.V
/-- A call among ordered operations that leaves the heap. -/
theorem LS.callOq {P : Program} {N m : Nat} {d : Option Nat} {l : List Ins} {e : Env} {H : Hp} {n : Nat} {K : Env → Hp → Prop} {f : FuncId} {args : List X} {vs : List AV} (v : AV) (hv : evs e args = some vs)
    (hf : ∀ n', n ≤ n' → (∀ b k, H.get b = some k → b < n') → FnS P f vs H n' fun r H' _ => r = v ∧ H' = H) (h : LS P N m (.ord K) l (putD d v e) H n) : LS P N m (.ord K) (⟨d, none, .call f args⟩ :: l) e H n :=
  LS.callO (R := fun r H' => r = v ∧ H' = H) hv (fun n' h1 h2 => (hf n' h1 h2).mono fun r H' _ _ q => ⟨q, by rw [q.2]; exact Ext.refl _⟩) (by rintro r H' ⟨rfl, rfl⟩ _; exact h)
/-- The first number that is not 0, of so many. -/
def fstz (w : Nat → Int) : Nat → Int
  | 0 => 0
  | k + 1 => if w 0 ≠ 0 then w 0 else fstz (fun i => w (i + 1)) k
theorem fstz_hit : ∀ (len : Nat) (w : Nat → Int) (i : Nat), i < len → (∀ j, j < i → w j = 0) → w i ≠ 0 → fstz w len = w i := by
  intro len
  induction len with
  | zero => intro w i hi; omega
  | succ k ih =>
    intro w i hi h0 h1
    unfold fstz
    cases i with
    | zero => rw [if_pos h1]
    | succ i =>
      rw [if_neg (fun q => q (h0 0 (by omega)))]
      exact ih (fun j => w (j + 1)) i (by omega) (fun j hj => h0 (j + 1) (by omega)) h1
theorem fstz_none : ∀ (len : Nat) (w : Nat → Int), (∀ j, j < len → w j = 0) → fstz w len = 0 := by
  intro len
  induction len with
  | zero => intro w _; rfl
  | succ k ih =>
    intro w h0
    unfold fstz
    rw [if_neg (fun q => q (h0 0 (by omega)))]
    exact ih (fun j => w (j + 1)) (fun j hj => h0 (j + 1) (by omega))
/-- So many numbers that are 0. -/
structure Zw (w : Nat → Int) (i : Nat) : Prop where
  h : ∀ j, j < i → w j = 0
/-- What is left of a tree of orders. -/
structure OTW (P : Program) (N m : Nat) (l : List Ins) (t : OT) (e : Env) (H : Hp) (n : Nat) (K : Env → Hp → Prop) : Prop where
  h : OTS P N m l t e H n K
theorem OTS.segW {P : Program} {N m : Nat} {ll : List Ins} {t : OT} {e : Env} {H : Hp} {n : Nat} {K : Env → Hp → Prop} (h : LS P N m (.ord fun e' H' => OTW P N m ll t.rest e' H' n K) (pick t.os ll) e H n) : OTS P N m ll t e H n K := by
  have e0 : (fun e' H' => OTW P N m ll t.rest e' H' n K) = fun e' H' => OTS P N m ll t.rest e' H' n K := by
    funext e' H'
    exact propext ⟨fun q => q.h, fun q => ⟨q⟩⟩
  rw [e0] at h
  exact OTS.segL h
/-- A slice of numbers. -/
def lsi (H : Hp) (v : SV) (len : Nat) (w : Nat → Int) : Prop :=
  ∃ b c K, v = .slc b 0 len c ∧ H.get b = some K ∧ K.size = len ∧ ∀ q, q < len → K.c q = .int .i64 (w q)
/-- Two numbers. -/
def twi (a b : Int) (q : Nat) : Int := if q = 0 then a else b
/-- Two vectors, one after the other. -/
def twv (v w : Nat → Int) (q : Nat) : Int := if q < 8 then v q else w (q - 8)
theorem twv_by {v w : Nat → Int} (hv : isBy 8 v) (hw : isBy 8 w) : isBy (8 * 2) (twv v w) := by
  intro q hq
  unfold twv
  split
  · exact hv q (by omega)
  · exact hw (q - 8) (by omega)
/-- What PairingOf asks. -/
def pok (h : HT) (s v w : Nat → Int) : Prop := mok h 1 (fun _ => s) ∧ isVec h.p h.n v ∧ isVec h.p h.n w
theorem fstz_two {Q R : Prop} : fstz (twi (cd Q) (cd R)) 2 = cd (Q ∧ R) := by
  by_cases h1 : Q
  · by_cases h2 : R
    · rw [cd_true (show Q ∧ R from ⟨h1, h2⟩)]
      exact fstz_none _ _ (fun j hj => by unfold twi; split; exact cd_true h1; exact cd_true h2)
    · rw [cd_false (show ¬(Q ∧ R) from fun q => h2 q.2), fstz_hit 2 _ 1 (by omega) (fun j hj => by (obtain rfl : j = 0 := by omega); exact cd_true h1) (by show cd R ≠ 0; rw [cd_false h2]; decide)]
      exact cd_false h2
  · rw [cd_false (show ¬(Q ∧ R) from fun q => h1 q.1), fstz_hit 2 _ 0 (by omega) (fun j hj => by omega) (by show cd Q ≠ 0; rw [cd_false h1]; decide)]
    exact cd_false h1
theorem pok_has {h : HT} {s v w : Nat → Int} : (mok h 1 (fun _ => s) ∧ ∀ i, i < 2 → sz h.p h.n ∧ isVec h.p h.n (fun x => twv v w (i * 8 + x))) ↔ pok h s v w := by
  have e1 : (fun x => twv v w (1 * 8 + x)) = w := by funext x; unfold twv; rw [if_neg (by omega)]; congr 1; omega
  have e0 : ∀ x, x < 8 → twv v w (0 * 8 + x) = v x := by intro x hx; unfold twv; rw [if_pos (by omega)]; congr 1; omega
  have e00 : isVec h.p h.n (fun x => twv v w (0 * 8 + x)) ↔ isVec h.p h.n v := by
    unfold isVec
    constructor
    · intro q i hi; have := q i hi; dsimp only at this; rw [e0 i hi] at this; exact this
    · intro q i hi; dsimp only; rw [e0 i hi]; exact q i hi
  constructor
  · rintro ⟨h1, h2⟩
    exact ⟨h1, e00.1 (h2 0 (by omega)).2, by have := (h2 1 (by omega)).2; rwa [e1] at this⟩
  · rintro ⟨h1, h2, h3⟩
    refine ⟨h1, fun i hi => ⟨h1.1.1.1.1, ?_⟩⟩
    by_cases e : i = 0
    · subst e; exact e00.2 h2
    · obtain rfl : i = 1 := by omega
      rw [e1]; exact h3
end Go.V
namespace Go.Proofs.Ytnkmpelakhhoiaa
open Go.V
set_option linter.unusedSimpArgs false
set_option linter.unusedVariables false
set_option maxHeartbeats 4000000

theorem impl_first (v : SV) (len : Nat) (hl : len ≤ 1000) (w : Nat → Int) (H : Hp) (n : Nat) (hv : lsi H v len w) :
    FnS Try.prog 42 [.s v] H n (fun r H' _ => r = i64 (fstz w len) ∧ H' = H) := by
  obtain ⟨b, c, K, rfl, hb, hs, hc⟩ := hv
  refine FnS.of_body Try.func42 tr42 (by simp) (fun hf => ?_)
  dsimp only [argEnv]
  unfold ir42
  have hbn := getlt hf hb
  (repeat first|refine zA ?_|(refine CS.tailL _ (List.Mem.head _) ?_;dsimp only[List.take,List.drop])|refine zC ?_|((first|refine zB ?_|(refine LS.nilO ?_;intro nq hnq hltq)|(refine MS.new ?_;intro bq hbq hbqf)|(refine MS.nil ?_;intro nq hnq hltq;have hlq:=hltq _ _ (Hp.get_eq _ _ _);clear hltq)|(refine LS.nilQ ?_;try with_reducible intro nq hnq));try dsimp only[Ex.then,Ex.inBlock,putD,Env.put])|(refine CS.exit ?_;try dsimp only[Ex.then,Ex.inBlock,↓reduceIte,Nat.reduceEqDiff];try simp only[↓reduceIte])|(refine resK.nil ?_;dsimp only[resV]))
  refine CS.iter len (fun i => [(7, i64 i), (6, i64 len), (5, .s (.slc b 0 len c))]) (fun _ => H) (fun i => Zw w i) (by (repeat first | exact trivial | refine And.intro rfl ?_)) (by exact zD) ⟨fun j hj => by omega⟩ ?_
  intro i n1 hi hn1 hJ
  (repeat first|refine zA ?_|(refine CS.tailL _ (List.Mem.head _) ?_;dsimp only[List.take,List.drop])|refine zC ?_|((first|refine zB ?_|(refine LS.nilO ?_;intro nq hnq hltq)|(refine MS.new ?_;intro bq hbq hbqf)|(refine MS.nil ?_;intro nq hnq hltq;have hlq:=hltq _ _ (Hp.get_eq _ _ _);clear hltq)|(refine LS.nilQ ?_;try with_reducible intro nq hnq));try dsimp only[Ex.then,Ex.inBlock,putD,Env.put])|(refine CS.exit ?_;try dsimp only[Ex.then,Ex.inBlock,↓reduceIte,Nat.reduceEqDiff];try simp only[↓reduceIte])|(refine resK.nil ?_;dsimp only[resV]))
  refine zI ?_ ?_<;>intro h1
  · have hci := hc i (by omega)
    rw [show i = 0 + i * 1 by omega] at hci
    (repeat first|refine zA ?_|(refine CS.tailL _ (List.Mem.head _) ?_;dsimp only[List.take,List.drop])|refine zC ?_|((first|refine zB ?_|(refine LS.nilO ?_;intro nq hnq hltq)|(refine MS.new ?_;intro bq hbq hbqf)|(refine MS.nil ?_;intro nq hnq hltq;have hlq:=hltq _ _ (Hp.get_eq _ _ _);clear hltq)|(refine LS.nilQ ?_;try with_reducible intro nq hnq));try dsimp only[Ex.then,Ex.inBlock,putD,Env.put])|(refine CS.exit ?_;try dsimp only[Ex.then,Ex.inBlock,↓reduceIte,Nat.reduceEqDiff];try simp only[↓reduceIte])|(refine resK.nil ?_;dsimp only[resV]))
    refine zI ?_ ?_<;>intro h2
    · (repeat first|refine zA ?_|(refine CS.tailL _ (List.Mem.head _) ?_;dsimp only[List.take,List.drop])|refine zC ?_|((first|refine zB ?_|(refine LS.nilO ?_;intro nq hnq hltq)|(refine MS.new ?_;intro bq hbq hbqf)|(refine MS.nil ?_;intro nq hnq hltq;have hlq:=hltq _ _ (Hp.get_eq _ _ _);clear hltq)|(refine LS.nilQ ?_;try with_reducible intro nq hnq));try dsimp only[Ex.then,Ex.inBlock,putD,Env.put])|(refine CS.exit ?_;try dsimp only[Ex.then,Ex.inBlock,↓reduceIte,Nat.reduceEqDiff];try simp only[↓reduceIte])|(refine resK.nil ?_;dsimp only[resV]))
      exact ⟨_, H, by rw [fstz_hit len w i (by omega) hJ.h (by simpa using h2), show 0 + i * 1 = i by omega], by exact zD, rfl, rfl⟩
    · (repeat first|refine zA ?_|(refine CS.tailL _ (List.Mem.head _) ?_;dsimp only[List.take,List.drop])|refine zC ?_|((first|refine zB ?_|(refine LS.nilO ?_;intro nq hnq hltq)|(refine MS.new ?_;intro bq hbq hbqf)|(refine MS.nil ?_;intro nq hnq hltq;have hlq:=hltq _ _ (Hp.get_eq _ _ _);clear hltq)|(refine LS.nilQ ?_;try with_reducible intro nq hnq));try dsimp only[Ex.then,Ex.inBlock,putD,Env.put])|(refine CS.exit ?_;try dsimp only[Ex.then,Ex.inBlock,↓reduceIte,Nat.reduceEqDiff];try simp only[↓reduceIte])|(refine resK.nil ?_;dsimp only[resV]))
      refine ⟨by omega, by (repeat first | exact trivial | refine And.intro rfl ?_), by exact zD, ⟨fun j hj => ?_⟩⟩
      by_cases e : j = i
      · subst e; simpa using h2
      · exact hJ.h j (by omega)
  · obtain rfl : i = len := by omega
    (repeat first|refine zA ?_|(refine CS.tailL _ (List.Mem.head _) ?_;dsimp only[List.take,List.drop])|refine zC ?_|((first|refine zB ?_|(refine LS.nilO ?_;intro nq hnq hltq)|(refine MS.new ?_;intro bq hbq hbqf)|(refine MS.nil ?_;intro nq hnq hltq;have hlq:=hltq _ _ (Hp.get_eq _ _ _);clear hltq)|(refine LS.nilQ ?_;try with_reducible intro nq hnq));try dsimp only[Ex.then,Ex.inBlock,putD,Env.put])|(refine CS.exit ?_;try dsimp only[Ex.then,Ex.inBlock,↓reduceIte,Nat.reduceEqDiff];try simp only[↓reduceIte])|(refine resK.nil ?_;dsimp only[resV]))
    exact ⟨_, H, by rw [fstz_none i w hJ.h], by exact zD, rfl, rfl⟩

theorem impl_PairingOf (h : HT) (s v w : Nat → Int) (K : Nat → SV) (H : Hp) (n : Nat) (hK : h.At K) (hB : h.By) (hs : isBy 64 s) (hv : isBy 8 v) (hw : isBy 8 w) :
    FnS Try.prog 23 [.arr 1106 K, .arr 64 (bys s), .arr 8 (bys v), .arr 8 (bys w)] H n (fun r H' _ => r = .tup [i64 (val (pok h s v w) (fun _ => bil h.p s v w) 0), i64 (cd (pok h s v w))] ∧ H' = H) := by
  have hk0 := hK.p
  have hk1 := hK.n
  refine FnS.of_body Try.func23 tr23 (by simp) (fun hf => ?_)
  dsimp only [argEnv]
  unfold ir23
  (repeat first|refine zA ?_|(refine CS.tailL _ (List.Mem.head _) ?_;dsimp only[List.take,List.drop])|refine zC ?_|((first|refine zB ?_|(refine LS.nilO ?_;intro nq hnq hltq)|(refine MS.new ?_;intro bq hbq hbqf)|(refine MS.nil ?_;intro nq hnq hltq;have hlq:=hltq _ _ (Hp.get_eq _ _ _);clear hltq)|(refine LS.nilQ ?_;try with_reducible intro nq hnq));try dsimp only[Ex.then,Ex.inBlock,putD,Env.put])|(refine CS.exit ?_;try dsimp only[Ex.then,Ex.inBlock,↓reduceIte,Nat.reduceEqDiff];try simp only[↓reduceIte])|(refine resK.nil ?_;dsimp only[resV]))
  refine CS.tree ?_
  refine OTS.segW ?_
  dsimp only [OT.os, OT.rest, pick, List.filterMap_cons, List.getElem?_cons_zero, List.getElem?_cons_succ, List.filterMap_nil]
  (repeat first|refine zA ?_|(refine CS.tailL _ (List.Mem.head _) ?_;dsimp only[List.take,List.drop])|refine zC ?_|((first|refine zB ?_|(refine LS.nilO ?_;intro nq hnq hltq)|(refine MS.new ?_;intro bq hbq hbqf)|(refine MS.nil ?_;intro nq hnq hltq;have hlq:=hltq _ _ (Hp.get_eq _ _ _);clear hltq)|(refine LS.nilQ ?_;try with_reducible intro nq hnq));try dsimp only[Ex.then,Ex.inBlock,putD,Env.put])|(refine CS.exit ?_;try dsimp only[Ex.then,Ex.inBlock,↓reduceIte,Nat.reduceEqDiff];try simp only[↓reduceIte])|(refine resK.nil ?_;dsimp only[resV]))
  refine LS.nilO ⟨?_⟩
  refine OTS.fork ?_ ?_
  · refine OTS.segW ?_
    dsimp only [OT.os, OT.rest, pick, List.filterMap_cons, List.getElem?_cons_zero, List.getElem?_cons_succ, List.filterMap_nil]
    refine LS.bslO rfl ?_
    intro b1 hb1 hbf1
    (repeat first|refine zA ?_|(refine CS.tailL _ (List.Mem.head _) ?_;dsimp only[List.take,List.drop])|refine zC ?_|((first|refine zB ?_|(refine LS.nilO ?_;intro nq hnq hltq)|(refine MS.new ?_;intro bq hbq hbqf)|(refine MS.nil ?_;intro nq hnq hltq;have hlq:=hltq _ _ (Hp.get_eq _ _ _);clear hltq)|(refine LS.nilQ ?_;try with_reducible intro nq hnq));try dsimp only[Ex.then,Ex.inBlock,putD,Env.put])|(refine CS.exit ?_;try dsimp only[Ex.then,Ex.inBlock,↓reduceIte,Nat.reduceEqDiff];try simp only[↓reduceIte])|(refine resK.nil ?_;dsimp only[resV]))
    refine LS.nilO ⟨?_⟩
    refine OTS.fork ?_ ?_
    · refine OTS.segW ?_
      dsimp only [OT.os, OT.rest, pick, List.filterMap_cons, List.getElem?_cons_zero, List.getElem?_cons_succ, List.filterMap_nil]
      refine LS.callOq (i64 (cd (mok h 1 (fun _ => s)))) rfl (fun n' _ _ => impl_matricesCode h n _ 1 (by omega) (fun _ => s) ⟨1106, K, 36⟩ _ _ (by exact zH) rfl hK hB ⟨b1, 1, _, rfl, by exact zH, (by simp), fun i hi => ⟨n + 1, ⟨64, bys s, 32⟩, by (obtain rfl : i = 0 := by omega); rfl, by exact zH, (by simp), fun q hq => by rw [Nat.zero_add]; rfl⟩⟩ (fun _ _ => hs)) ?_
      (repeat first|refine zA ?_|(refine CS.tailL _ (List.Mem.head _) ?_;dsimp only[List.take,List.drop])|refine zC ?_|((first|refine zB ?_|(refine LS.nilO ?_;intro nq hnq hltq)|(refine MS.new ?_;intro bq hbq hbqf)|(refine MS.nil ?_;intro nq hnq hltq;have hlq:=hltq _ _ (Hp.get_eq _ _ _);clear hltq)|(refine LS.nilQ ?_;try with_reducible intro nq hnq));try dsimp only[Ex.then,Ex.inBlock,putD,Env.put])|(refine CS.exit ?_;try dsimp only[Ex.then,Ex.inBlock,↓reduceIte,Nat.reduceEqDiff];try simp only[↓reduceIte])|(refine resK.nil ?_;dsimp only[resV]))
      refine LS.bslO rfl ?_
      intro b2 hb2 hbf2
      (repeat first|refine zA ?_|(refine CS.tailL _ (List.Mem.head _) ?_;dsimp only[List.take,List.drop])|refine zC ?_|((first|refine zB ?_|(refine LS.nilO ?_;intro nq hnq hltq)|(refine MS.new ?_;intro bq hbq hbqf)|(refine MS.nil ?_;intro nq hnq hltq;have hlq:=hltq _ _ (Hp.get_eq _ _ _);clear hltq)|(refine LS.nilQ ?_;try with_reducible intro nq hnq));try dsimp only[Ex.then,Ex.inBlock,putD,Env.put])|(refine CS.exit ?_;try dsimp only[Ex.then,Ex.inBlock,↓reduceIte,Nat.reduceEqDiff];try simp only[↓reduceIte])|(refine resK.nil ?_;dsimp only[resV]))
      have l2 := hbf2 _ _ (Hp.get_eq _ _ _)
      refine LS.callOq (bl (tb (∀ i, i < 2 → sz h.p h.n ∧ isVec h.p h.n (fun x => twv v w (i * 8 + x))))) rfl (fun n' _ _ => Hopf_has h n _ 2 (by omega) (twv v w) ⟨1106, K, 36⟩ _ _ (by exact zH) (by simp) hK (.inr ⟨b2, 0, 2, _, rfl, by exact zH, (by simp), fun q hq => by
            dsimp only
            unfold twv splice
            by_cases e : q < 8
            · rw [if_pos e, if_neg (by omega), if_pos (by omega)]
              simp only [Nat.zero_add, Nat.sub_zero]
              rfl
            · rw [if_neg e, if_pos (by omega)]
              simp only [Nat.zero_add]
              rfl⟩) (twv_by hv hw)) ?_
      (repeat first|refine zA ?_|(refine CS.tailL _ (List.Mem.head _) ?_;dsimp only[List.take,List.drop])|refine zC ?_|((first|refine zB ?_|(refine LS.nilO ?_;intro nq hnq hltq)|(refine MS.new ?_;intro bq hbq hbqf)|(refine MS.nil ?_;intro nq hnq hltq;have hlq:=hltq _ _ (Hp.get_eq _ _ _);clear hltq)|(refine LS.nilQ ?_;try with_reducible intro nq hnq));try dsimp only[Ex.then,Ex.inBlock,putD,Env.put])|(refine CS.exit ?_;try dsimp only[Ex.then,Ex.inBlock,↓reduceIte,Nat.reduceEqDiff];try simp only[↓reduceIte])|(refine resK.nil ?_;dsimp only[resV]))
      refine LS.callOq (i64 (cd (∀ i, i < 2 → sz h.p h.n ∧ isVec h.p h.n (fun x => twv v w (i * 8 + x))))) rfl (fun n' _ _ => impl_unless (∀ i, i < 2 → sz h.p h.n ∧ isVec h.p h.n (fun x => twv v w (i * 8 + x))) _ _) ?_
      (repeat first|refine zA ?_|(refine CS.tailL _ (List.Mem.head _) ?_;dsimp only[List.take,List.drop])|refine zC ?_|((first|refine zB ?_|(refine LS.nilO ?_;intro nq hnq hltq)|(refine MS.new ?_;intro bq hbq hbqf)|(refine MS.nil ?_;intro nq hnq hltq;have hlq:=hltq _ _ (Hp.get_eq _ _ _);clear hltq)|(refine LS.nilQ ?_;try with_reducible intro nq hnq));try dsimp only[Ex.then,Ex.inBlock,putD,Env.put])|(refine CS.exit ?_;try dsimp only[Ex.then,Ex.inBlock,↓reduceIte,Nat.reduceEqDiff];try simp only[↓reduceIte])|(refine resK.nil ?_;dsimp only[resV]))
      refine LS.bslO rfl ?_
      intro b3 hb3 hbf3
      have l3 := hbf3 _ _ (Hp.get_eq _ _ _)
      (repeat first|refine zA ?_|(refine CS.tailL _ (List.Mem.head _) ?_;dsimp only[List.take,List.drop])|refine zC ?_|((first|refine zB ?_|(refine LS.nilO ?_;intro nq hnq hltq)|(refine MS.new ?_;intro bq hbq hbqf)|(refine MS.nil ?_;intro nq hnq hltq;have hlq:=hltq _ _ (Hp.get_eq _ _ _);clear hltq)|(refine LS.nilQ ?_;try with_reducible intro nq hnq));try dsimp only[Ex.then,Ex.inBlock,putD,Env.put])|(refine CS.exit ?_;try dsimp only[Ex.then,Ex.inBlock,↓reduceIte,Nat.reduceEqDiff];try simp only[↓reduceIte])|(refine resK.nil ?_;dsimp only[resV]))
      refine LS.callOq (i64 (fstz (twi (cd (mok h 1 (fun _ => s))) (cd (∀ i, i < 2 → sz h.p h.n ∧ isVec h.p h.n (fun x => twv v w (i * 8 + x))))) 2)) rfl (fun n' _ _ => impl_first _ 2 (by omega) (twi (cd (mok h 1 (fun _ => s))) (cd (∀ i, i < 2 → sz h.p h.n ∧ isVec h.p h.n (fun x => twv v w (i * 8 + x))))) _ _ ⟨b3, 2, _, rfl, by exact zH, rfl, fun q hq => by
        dsimp only
        unfold twi
        rcases (show q = 0 ∨ q = 1 by omega) with rfl | rfl <;> rfl⟩) ?_
      (repeat first|refine zA ?_|(refine CS.tailL _ (List.Mem.head _) ?_;dsimp only[List.take,List.drop])|refine zC ?_|((first|refine zB ?_|(refine LS.nilO ?_;intro nq hnq hltq)|(refine MS.new ?_;intro bq hbq hbqf)|(refine MS.nil ?_;intro nq hnq hltq;have hlq:=hltq _ _ (Hp.get_eq _ _ _);clear hltq)|(refine LS.nilQ ?_;try with_reducible intro nq hnq));try dsimp only[Ex.then,Ex.inBlock,putD,Env.put])|(refine CS.exit ?_;try dsimp only[Ex.then,Ex.inBlock,↓reduceIte,Nat.reduceEqDiff];try simp only[↓reduceIte])|(refine resK.nil ?_;dsimp only[resV]))
      refine LS.nilO ⟨?_⟩
      refine OTS.done ?_
      intro n4 hn4 hf4
      rw [fstz_two, cd_iff pok_has]
      dsimp only [Ex.then, Ex.inBlock]
      (repeat first|refine zA ?_|(refine CS.tailL _ (List.Mem.head _) ?_;dsimp only[List.take,List.drop])|refine zC ?_|((first|refine zB ?_|(refine LS.nilO ?_;intro nq hnq hltq)|(refine MS.new ?_;intro bq hbq hbqf)|(refine MS.nil ?_;intro nq hnq hltq;have hlq:=hltq _ _ (Hp.get_eq _ _ _);clear hltq)|(refine LS.nilQ ?_;try with_reducible intro nq hnq));try dsimp only[Ex.then,Ex.inBlock,putD,Env.put])|(refine CS.exit ?_;try dsimp only[Ex.then,Ex.inBlock,↓reduceIte,Nat.reduceEqDiff];try simp only[↓reduceIte])|(refine resK.nil ?_;dsimp only[resV]))
      refine zI ?_ ?_<;>intro h1
      · have h3 : ¬pok h s v w := fun q => h1 (cd_zero.2 q)
        (repeat first|refine zA ?_|(refine CS.tailL _ (List.Mem.head _) ?_;dsimp only[List.take,List.drop])|refine zC ?_|((first|refine zB ?_|(refine LS.nilO ?_;intro nq hnq hltq)|(refine MS.new ?_;intro bq hbq hbqf)|(refine MS.nil ?_;intro nq hnq hltq;have hlq:=hltq _ _ (Hp.get_eq _ _ _);clear hltq)|(refine LS.nilQ ?_;try with_reducible intro nq hnq));try dsimp only[Ex.then,Ex.inBlock,putD,Env.put])|(refine CS.exit ?_;try dsimp only[Ex.then,Ex.inBlock,↓reduceIte,Nat.reduceEqDiff];try simp only[↓reduceIte])|(refine resK.nil ?_;dsimp only[resV]))
        exact ⟨.tup [i64 (val (pok h s v w) (fun _ => bil h.p s v w) 0), i64 (cd (pok h s v w))], H, conc_tup2 (by rw [val_false h3]) rfl, by exact zD, rfl, rfl⟩
      · have h3 : pok h s v w := cd_zero.1 h1
        obtain ⟨a, hS⟩ := isHopf.hs h3.1.1
        have hp := hS.hp
        (repeat first|refine zA ?_|(refine CS.tailL _ (List.Mem.head _) ?_;dsimp only[List.take,List.drop])|refine zC ?_|((first|refine zB ?_|(refine LS.nilO ?_;intro nq hnq hltq)|(refine MS.new ?_;intro bq hbq hbqf)|(refine MS.nil ?_;intro nq hnq hltq;have hlq:=hltq _ _ (Hp.get_eq _ _ _);clear hltq)|(refine LS.nilQ ?_;try with_reducible intro nq hnq));try dsimp only[Ex.then,Ex.inBlock,putD,Env.put])|(refine CS.exit ?_;try dsimp only[Ex.then,Ex.inBlock,↓reduceIte,Nat.reduceEqDiff];try simp only[↓reduceIte])|(refine resK.nil ?_;dsimp only[resV]))
        refine CS.quietLo ?_
        (repeat first|refine zA ?_|(refine CS.tailL _ (List.Mem.head _) ?_;dsimp only[List.take,List.drop])|refine zC ?_|((first|refine zB ?_|(refine LS.nilO ?_;intro nq hnq hltq)|(refine MS.new ?_;intro bq hbq hbqf)|(refine MS.nil ?_;intro nq hnq hltq;have hlq:=hltq _ _ (Hp.get_eq _ _ _);clear hltq)|(refine LS.nilQ ?_;try with_reducible intro nq hnq));try dsimp only[Ex.then,Ex.inBlock,putD,Env.put])|(refine CS.exit ?_;try dsimp only[Ex.then,Ex.inBlock,↓reduceIte,Nat.reduceEqDiff];try simp only[↓reduceIte])|(refine resK.nil ?_;dsimp only[resV]))
        refine LS.callQ (fld h.p h.n) rfl (fun n' hn' => Hopf_field h.p h.n n ⟨1106, K, 36⟩ _ _ (by exact zH) rfl hK.p hK.n (by have := hS.hn; have := hS.ha; omega)) ?_
        (repeat first|refine zA ?_|(refine CS.tailL _ (List.Mem.head _) ?_;dsimp only[List.take,List.drop])|refine zC ?_|((first|refine zB ?_|(refine LS.nilO ?_;intro nq hnq hltq)|(refine MS.new ?_;intro bq hbq hbqf)|(refine MS.nil ?_;intro nq hnq hltq;have hlq:=hltq _ _ (Hp.get_eq _ _ _);clear hltq)|(refine LS.nilQ ?_;try with_reducible intro nq hnq));try dsimp only[Ex.then,Ex.inBlock,putD,Env.put])|(refine CS.exit ?_;try dsimp only[Ex.then,Ex.inBlock,↓reduceIte,Nat.reduceEqDiff];try simp only[↓reduceIte])|(refine resK.nil ?_;dsimp only[resV]))
        refine LS.callQ (i64 (bil h.p s v w)) rfl (fun n' hn' => field_paired h.p h.n s v w (n + 1) 0 ⟨64, bys s, 32⟩ _ _ hp (by exact zH) (by simp) (fun q hq => by rw [Nat.zero_add]; rfl) hs hv hw) ?_
        (repeat first|refine zA ?_|(refine CS.tailL _ (List.Mem.head _) ?_;dsimp only[List.take,List.drop])|refine zC ?_|((first|refine zB ?_|(refine LS.nilO ?_;intro nq hnq hltq)|(refine MS.new ?_;intro bq hbq hbqf)|(refine MS.nil ?_;intro nq hnq hltq;have hlq:=hltq _ _ (Hp.get_eq _ _ _);clear hltq)|(refine LS.nilQ ?_;try with_reducible intro nq hnq));try dsimp only[Ex.then,Ex.inBlock,putD,Env.put])|(refine CS.exit ?_;try dsimp only[Ex.then,Ex.inBlock,↓reduceIte,Nat.reduceEqDiff];try simp only[↓reduceIte])|(refine resK.nil ?_;dsimp only[resV]))
        exact ⟨.tup [i64 (val (pok h s v w) (fun _ => bil h.p s v w) 0), i64 (cd (pok h s v w))], H, conc_tup2 (by rw [val_true h3]) (by rw [cd_true h3]), by exact zD, rfl, rfl⟩
    · refine OTS.segW ?_
      dsimp only [OT.os, OT.rest, pick, List.filterMap_cons, List.getElem?_cons_zero, List.getElem?_cons_succ, List.filterMap_nil]
      refine LS.bslO rfl ?_
      intro b2 hb2 hbf2
      (repeat first|refine zA ?_|(refine CS.tailL _ (List.Mem.head _) ?_;dsimp only[List.take,List.drop])|refine zC ?_|((first|refine zB ?_|(refine LS.nilO ?_;intro nq hnq hltq)|(refine MS.new ?_;intro bq hbq hbqf)|(refine MS.nil ?_;intro nq hnq hltq;have hlq:=hltq _ _ (Hp.get_eq _ _ _);clear hltq)|(refine LS.nilQ ?_;try with_reducible intro nq hnq));try dsimp only[Ex.then,Ex.inBlock,putD,Env.put])|(refine CS.exit ?_;try dsimp only[Ex.then,Ex.inBlock,↓reduceIte,Nat.reduceEqDiff];try simp only[↓reduceIte])|(refine resK.nil ?_;dsimp only[resV]))
      have l2 := hbf2 _ _ (Hp.get_eq _ _ _)
      refine LS.callOq (i64 (cd (mok h 1 (fun _ => s)))) rfl (fun n' _ _ => impl_matricesCode h n _ 1 (by omega) (fun _ => s) ⟨1106, K, 36⟩ _ _ (by exact zH) rfl hK hB ⟨b1, 1, _, rfl, by exact zH, (by simp), fun i hi => ⟨n + 1, ⟨64, bys s, 32⟩, by (obtain rfl : i = 0 := by omega); rfl, by exact zH, (by simp), fun q hq => by rw [Nat.zero_add]; rfl⟩⟩ (fun _ _ => hs)) ?_
      (repeat first|refine zA ?_|(refine CS.tailL _ (List.Mem.head _) ?_;dsimp only[List.take,List.drop])|refine zC ?_|((first|refine zB ?_|(refine LS.nilO ?_;intro nq hnq hltq)|(refine MS.new ?_;intro bq hbq hbqf)|(refine MS.nil ?_;intro nq hnq hltq;have hlq:=hltq _ _ (Hp.get_eq _ _ _);clear hltq)|(refine LS.nilQ ?_;try with_reducible intro nq hnq));try dsimp only[Ex.then,Ex.inBlock,putD,Env.put])|(refine CS.exit ?_;try dsimp only[Ex.then,Ex.inBlock,↓reduceIte,Nat.reduceEqDiff];try simp only[↓reduceIte])|(refine resK.nil ?_;dsimp only[resV]))
      refine LS.callOq (bl (tb (∀ i, i < 2 → sz h.p h.n ∧ isVec h.p h.n (fun x => twv v w (i * 8 + x))))) rfl (fun n' _ _ => Hopf_has h n _ 2 (by omega) (twv v w) ⟨1106, K, 36⟩ _ _ (by exact zH) (by simp) hK (.inr ⟨b2, 0, 2, _, rfl, by exact zH, (by simp), fun q hq => by
            dsimp only
            unfold twv splice
            by_cases e : q < 8
            · rw [if_pos e, if_neg (by omega), if_pos (by omega)]
              simp only [Nat.zero_add, Nat.sub_zero]
              rfl
            · rw [if_neg e, if_pos (by omega)]
              simp only [Nat.zero_add]
              rfl⟩) (twv_by hv hw)) ?_
      (repeat first|refine zA ?_|(refine CS.tailL _ (List.Mem.head _) ?_;dsimp only[List.take,List.drop])|refine zC ?_|((first|refine zB ?_|(refine LS.nilO ?_;intro nq hnq hltq)|(refine MS.new ?_;intro bq hbq hbqf)|(refine MS.nil ?_;intro nq hnq hltq;have hlq:=hltq _ _ (Hp.get_eq _ _ _);clear hltq)|(refine LS.nilQ ?_;try with_reducible intro nq hnq));try dsimp only[Ex.then,Ex.inBlock,putD,Env.put])|(refine CS.exit ?_;try dsimp only[Ex.then,Ex.inBlock,↓reduceIte,Nat.reduceEqDiff];try simp only[↓reduceIte])|(refine resK.nil ?_;dsimp only[resV]))
      refine LS.callOq (i64 (cd (∀ i, i < 2 → sz h.p h.n ∧ isVec h.p h.n (fun x => twv v w (i * 8 + x))))) rfl (fun n' _ _ => impl_unless (∀ i, i < 2 → sz h.p h.n ∧ isVec h.p h.n (fun x => twv v w (i * 8 + x))) _ _) ?_
      (repeat first|refine zA ?_|(refine CS.tailL _ (List.Mem.head _) ?_;dsimp only[List.take,List.drop])|refine zC ?_|((first|refine zB ?_|(refine LS.nilO ?_;intro nq hnq hltq)|(refine MS.new ?_;intro bq hbq hbqf)|(refine MS.nil ?_;intro nq hnq hltq;have hlq:=hltq _ _ (Hp.get_eq _ _ _);clear hltq)|(refine LS.nilQ ?_;try with_reducible intro nq hnq));try dsimp only[Ex.then,Ex.inBlock,putD,Env.put])|(refine CS.exit ?_;try dsimp only[Ex.then,Ex.inBlock,↓reduceIte,Nat.reduceEqDiff];try simp only[↓reduceIte])|(refine resK.nil ?_;dsimp only[resV]))
      refine LS.bslO rfl ?_
      intro b3 hb3 hbf3
      have l3 := hbf3 _ _ (Hp.get_eq _ _ _)
      (repeat first|refine zA ?_|(refine CS.tailL _ (List.Mem.head _) ?_;dsimp only[List.take,List.drop])|refine zC ?_|((first|refine zB ?_|(refine LS.nilO ?_;intro nq hnq hltq)|(refine MS.new ?_;intro bq hbq hbqf)|(refine MS.nil ?_;intro nq hnq hltq;have hlq:=hltq _ _ (Hp.get_eq _ _ _);clear hltq)|(refine LS.nilQ ?_;try with_reducible intro nq hnq));try dsimp only[Ex.then,Ex.inBlock,putD,Env.put])|(refine CS.exit ?_;try dsimp only[Ex.then,Ex.inBlock,↓reduceIte,Nat.reduceEqDiff];try simp only[↓reduceIte])|(refine resK.nil ?_;dsimp only[resV]))
      refine LS.callOq (i64 (fstz (twi (cd (mok h 1 (fun _ => s))) (cd (∀ i, i < 2 → sz h.p h.n ∧ isVec h.p h.n (fun x => twv v w (i * 8 + x))))) 2)) rfl (fun n' _ _ => impl_first _ 2 (by omega) (twi (cd (mok h 1 (fun _ => s))) (cd (∀ i, i < 2 → sz h.p h.n ∧ isVec h.p h.n (fun x => twv v w (i * 8 + x))))) _ _ ⟨b3, 2, _, rfl, by exact zH, rfl, fun q hq => by
        dsimp only
        unfold twi
        rcases (show q = 0 ∨ q = 1 by omega) with rfl | rfl <;> rfl⟩) ?_
      (repeat first|refine zA ?_|(refine CS.tailL _ (List.Mem.head _) ?_;dsimp only[List.take,List.drop])|refine zC ?_|((first|refine zB ?_|(refine LS.nilO ?_;intro nq hnq hltq)|(refine MS.new ?_;intro bq hbq hbqf)|(refine MS.nil ?_;intro nq hnq hltq;have hlq:=hltq _ _ (Hp.get_eq _ _ _);clear hltq)|(refine LS.nilQ ?_;try with_reducible intro nq hnq));try dsimp only[Ex.then,Ex.inBlock,putD,Env.put])|(refine CS.exit ?_;try dsimp only[Ex.then,Ex.inBlock,↓reduceIte,Nat.reduceEqDiff];try simp only[↓reduceIte])|(refine resK.nil ?_;dsimp only[resV]))
      refine LS.nilO ⟨?_⟩
      refine OTS.done ?_
      intro n4 hn4 hf4
      rw [fstz_two, cd_iff pok_has]
      dsimp only [Ex.then, Ex.inBlock]
      (repeat first|refine zA ?_|(refine CS.tailL _ (List.Mem.head _) ?_;dsimp only[List.take,List.drop])|refine zC ?_|((first|refine zB ?_|(refine LS.nilO ?_;intro nq hnq hltq)|(refine MS.new ?_;intro bq hbq hbqf)|(refine MS.nil ?_;intro nq hnq hltq;have hlq:=hltq _ _ (Hp.get_eq _ _ _);clear hltq)|(refine LS.nilQ ?_;try with_reducible intro nq hnq));try dsimp only[Ex.then,Ex.inBlock,putD,Env.put])|(refine CS.exit ?_;try dsimp only[Ex.then,Ex.inBlock,↓reduceIte,Nat.reduceEqDiff];try simp only[↓reduceIte])|(refine resK.nil ?_;dsimp only[resV]))
      refine zI ?_ ?_<;>intro h1
      · have h3 : ¬pok h s v w := fun q => h1 (cd_zero.2 q)
        (repeat first|refine zA ?_|(refine CS.tailL _ (List.Mem.head _) ?_;dsimp only[List.take,List.drop])|refine zC ?_|((first|refine zB ?_|(refine LS.nilO ?_;intro nq hnq hltq)|(refine MS.new ?_;intro bq hbq hbqf)|(refine MS.nil ?_;intro nq hnq hltq;have hlq:=hltq _ _ (Hp.get_eq _ _ _);clear hltq)|(refine LS.nilQ ?_;try with_reducible intro nq hnq));try dsimp only[Ex.then,Ex.inBlock,putD,Env.put])|(refine CS.exit ?_;try dsimp only[Ex.then,Ex.inBlock,↓reduceIte,Nat.reduceEqDiff];try simp only[↓reduceIte])|(refine resK.nil ?_;dsimp only[resV]))
        exact ⟨.tup [i64 (val (pok h s v w) (fun _ => bil h.p s v w) 0), i64 (cd (pok h s v w))], H, conc_tup2 (by rw [val_false h3]) rfl, by exact zD, rfl, rfl⟩
      · have h3 : pok h s v w := cd_zero.1 h1
        obtain ⟨a, hS⟩ := isHopf.hs h3.1.1
        have hp := hS.hp
        (repeat first|refine zA ?_|(refine CS.tailL _ (List.Mem.head _) ?_;dsimp only[List.take,List.drop])|refine zC ?_|((first|refine zB ?_|(refine LS.nilO ?_;intro nq hnq hltq)|(refine MS.new ?_;intro bq hbq hbqf)|(refine MS.nil ?_;intro nq hnq hltq;have hlq:=hltq _ _ (Hp.get_eq _ _ _);clear hltq)|(refine LS.nilQ ?_;try with_reducible intro nq hnq));try dsimp only[Ex.then,Ex.inBlock,putD,Env.put])|(refine CS.exit ?_;try dsimp only[Ex.then,Ex.inBlock,↓reduceIte,Nat.reduceEqDiff];try simp only[↓reduceIte])|(refine resK.nil ?_;dsimp only[resV]))
        refine CS.quietLo ?_
        (repeat first|refine zA ?_|(refine CS.tailL _ (List.Mem.head _) ?_;dsimp only[List.take,List.drop])|refine zC ?_|((first|refine zB ?_|(refine LS.nilO ?_;intro nq hnq hltq)|(refine MS.new ?_;intro bq hbq hbqf)|(refine MS.nil ?_;intro nq hnq hltq;have hlq:=hltq _ _ (Hp.get_eq _ _ _);clear hltq)|(refine LS.nilQ ?_;try with_reducible intro nq hnq));try dsimp only[Ex.then,Ex.inBlock,putD,Env.put])|(refine CS.exit ?_;try dsimp only[Ex.then,Ex.inBlock,↓reduceIte,Nat.reduceEqDiff];try simp only[↓reduceIte])|(refine resK.nil ?_;dsimp only[resV]))
        refine LS.callQ (fld h.p h.n) rfl (fun n' hn' => Hopf_field h.p h.n n ⟨1106, K, 36⟩ _ _ (by exact zH) rfl hK.p hK.n (by have := hS.hn; have := hS.ha; omega)) ?_
        (repeat first|refine zA ?_|(refine CS.tailL _ (List.Mem.head _) ?_;dsimp only[List.take,List.drop])|refine zC ?_|((first|refine zB ?_|(refine LS.nilO ?_;intro nq hnq hltq)|(refine MS.new ?_;intro bq hbq hbqf)|(refine MS.nil ?_;intro nq hnq hltq;have hlq:=hltq _ _ (Hp.get_eq _ _ _);clear hltq)|(refine LS.nilQ ?_;try with_reducible intro nq hnq));try dsimp only[Ex.then,Ex.inBlock,putD,Env.put])|(refine CS.exit ?_;try dsimp only[Ex.then,Ex.inBlock,↓reduceIte,Nat.reduceEqDiff];try simp only[↓reduceIte])|(refine resK.nil ?_;dsimp only[resV]))
        refine LS.callQ (i64 (bil h.p s v w)) rfl (fun n' hn' => field_paired h.p h.n s v w (n + 1) 0 ⟨64, bys s, 32⟩ _ _ hp (by exact zH) (by simp) (fun q hq => by rw [Nat.zero_add]; rfl) hs hv hw) ?_
        (repeat first|refine zA ?_|(refine CS.tailL _ (List.Mem.head _) ?_;dsimp only[List.take,List.drop])|refine zC ?_|((first|refine zB ?_|(refine LS.nilO ?_;intro nq hnq hltq)|(refine MS.new ?_;intro bq hbq hbqf)|(refine MS.nil ?_;intro nq hnq hltq;have hlq:=hltq _ _ (Hp.get_eq _ _ _);clear hltq)|(refine LS.nilQ ?_;try with_reducible intro nq hnq));try dsimp only[Ex.then,Ex.inBlock,putD,Env.put])|(refine CS.exit ?_;try dsimp only[Ex.then,Ex.inBlock,↓reduceIte,Nat.reduceEqDiff];try simp only[↓reduceIte])|(refine resK.nil ?_;dsimp only[resV]))
        exact ⟨.tup [i64 (val (pok h s v w) (fun _ => bil h.p s v w) 0), i64 (cd (pok h s v w))], H, conc_tup2 (by rw [val_true h3]) (by rw [cd_true h3]), by exact zD, rfl, rfl⟩
  · refine OTS.segW ?_
    dsimp only [OT.os, OT.rest, pick, List.filterMap_cons, List.getElem?_cons_zero, List.getElem?_cons_succ, List.filterMap_nil]
    refine LS.bslO rfl ?_
    intro b2 hb2 hbf2
    (repeat first|refine zA ?_|(refine CS.tailL _ (List.Mem.head _) ?_;dsimp only[List.take,List.drop])|refine zC ?_|((first|refine zB ?_|(refine LS.nilO ?_;intro nq hnq hltq)|(refine MS.new ?_;intro bq hbq hbqf)|(refine MS.nil ?_;intro nq hnq hltq;have hlq:=hltq _ _ (Hp.get_eq _ _ _);clear hltq)|(refine LS.nilQ ?_;try with_reducible intro nq hnq));try dsimp only[Ex.then,Ex.inBlock,putD,Env.put])|(refine CS.exit ?_;try dsimp only[Ex.then,Ex.inBlock,↓reduceIte,Nat.reduceEqDiff];try simp only[↓reduceIte])|(refine resK.nil ?_;dsimp only[resV]))
    refine LS.bslO rfl ?_
    intro b1 hb1 hbf1
    (repeat first|refine zA ?_|(refine CS.tailL _ (List.Mem.head _) ?_;dsimp only[List.take,List.drop])|refine zC ?_|((first|refine zB ?_|(refine LS.nilO ?_;intro nq hnq hltq)|(refine MS.new ?_;intro bq hbq hbqf)|(refine MS.nil ?_;intro nq hnq hltq;have hlq:=hltq _ _ (Hp.get_eq _ _ _);clear hltq)|(refine LS.nilQ ?_;try with_reducible intro nq hnq));try dsimp only[Ex.then,Ex.inBlock,putD,Env.put])|(refine CS.exit ?_;try dsimp only[Ex.then,Ex.inBlock,↓reduceIte,Nat.reduceEqDiff];try simp only[↓reduceIte])|(refine resK.nil ?_;dsimp only[resV]))
    have l1 := hbf1 _ _ (Hp.get_eq _ _ _)
    refine LS.callOq (i64 (cd (mok h 1 (fun _ => s)))) rfl (fun n' _ _ => impl_matricesCode h n _ 1 (by omega) (fun _ => s) ⟨1106, K, 36⟩ _ _ (by exact zH) rfl hK hB ⟨b1, 1, _, rfl, by exact zH, (by simp), fun i hi => ⟨n + 1, ⟨64, bys s, 32⟩, by (obtain rfl : i = 0 := by omega); rfl, by exact zH, (by simp), fun q hq => by rw [Nat.zero_add]; rfl⟩⟩ (fun _ _ => hs)) ?_
    (repeat first|refine zA ?_|(refine CS.tailL _ (List.Mem.head _) ?_;dsimp only[List.take,List.drop])|refine zC ?_|((first|refine zB ?_|(refine LS.nilO ?_;intro nq hnq hltq)|(refine MS.new ?_;intro bq hbq hbqf)|(refine MS.nil ?_;intro nq hnq hltq;have hlq:=hltq _ _ (Hp.get_eq _ _ _);clear hltq)|(refine LS.nilQ ?_;try with_reducible intro nq hnq));try dsimp only[Ex.then,Ex.inBlock,putD,Env.put])|(refine CS.exit ?_;try dsimp only[Ex.then,Ex.inBlock,↓reduceIte,Nat.reduceEqDiff];try simp only[↓reduceIte])|(refine resK.nil ?_;dsimp only[resV]))
    refine LS.callOq (bl (tb (∀ i, i < 2 → sz h.p h.n ∧ isVec h.p h.n (fun x => twv v w (i * 8 + x))))) rfl (fun n' _ _ => Hopf_has h n _ 2 (by omega) (twv v w) ⟨1106, K, 36⟩ _ _ (by exact zH) (by simp) hK (.inr ⟨b2, 0, 2, _, rfl, by exact zH, (by simp), fun q hq => by
          dsimp only
          unfold twv splice
          by_cases e : q < 8
          · rw [if_pos e, if_neg (by omega), if_pos (by omega)]
            simp only [Nat.zero_add, Nat.sub_zero]
            rfl
          · rw [if_neg e, if_pos (by omega)]
            simp only [Nat.zero_add]
            rfl⟩) (twv_by hv hw)) ?_
    (repeat first|refine zA ?_|(refine CS.tailL _ (List.Mem.head _) ?_;dsimp only[List.take,List.drop])|refine zC ?_|((first|refine zB ?_|(refine LS.nilO ?_;intro nq hnq hltq)|(refine MS.new ?_;intro bq hbq hbqf)|(refine MS.nil ?_;intro nq hnq hltq;have hlq:=hltq _ _ (Hp.get_eq _ _ _);clear hltq)|(refine LS.nilQ ?_;try with_reducible intro nq hnq));try dsimp only[Ex.then,Ex.inBlock,putD,Env.put])|(refine CS.exit ?_;try dsimp only[Ex.then,Ex.inBlock,↓reduceIte,Nat.reduceEqDiff];try simp only[↓reduceIte])|(refine resK.nil ?_;dsimp only[resV]))
    refine LS.callOq (i64 (cd (∀ i, i < 2 → sz h.p h.n ∧ isVec h.p h.n (fun x => twv v w (i * 8 + x))))) rfl (fun n' _ _ => impl_unless (∀ i, i < 2 → sz h.p h.n ∧ isVec h.p h.n (fun x => twv v w (i * 8 + x))) _ _) ?_
    (repeat first|refine zA ?_|(refine CS.tailL _ (List.Mem.head _) ?_;dsimp only[List.take,List.drop])|refine zC ?_|((first|refine zB ?_|(refine LS.nilO ?_;intro nq hnq hltq)|(refine MS.new ?_;intro bq hbq hbqf)|(refine MS.nil ?_;intro nq hnq hltq;have hlq:=hltq _ _ (Hp.get_eq _ _ _);clear hltq)|(refine LS.nilQ ?_;try with_reducible intro nq hnq));try dsimp only[Ex.then,Ex.inBlock,putD,Env.put])|(refine CS.exit ?_;try dsimp only[Ex.then,Ex.inBlock,↓reduceIte,Nat.reduceEqDiff];try simp only[↓reduceIte])|(refine resK.nil ?_;dsimp only[resV]))
    refine LS.bslO rfl ?_
    intro b3 hb3 hbf3
    have l3 := hbf3 _ _ (Hp.get_eq _ _ _)
    (repeat first|refine zA ?_|(refine CS.tailL _ (List.Mem.head _) ?_;dsimp only[List.take,List.drop])|refine zC ?_|((first|refine zB ?_|(refine LS.nilO ?_;intro nq hnq hltq)|(refine MS.new ?_;intro bq hbq hbqf)|(refine MS.nil ?_;intro nq hnq hltq;have hlq:=hltq _ _ (Hp.get_eq _ _ _);clear hltq)|(refine LS.nilQ ?_;try with_reducible intro nq hnq));try dsimp only[Ex.then,Ex.inBlock,putD,Env.put])|(refine CS.exit ?_;try dsimp only[Ex.then,Ex.inBlock,↓reduceIte,Nat.reduceEqDiff];try simp only[↓reduceIte])|(refine resK.nil ?_;dsimp only[resV]))
    refine LS.callOq (i64 (fstz (twi (cd (mok h 1 (fun _ => s))) (cd (∀ i, i < 2 → sz h.p h.n ∧ isVec h.p h.n (fun x => twv v w (i * 8 + x))))) 2)) rfl (fun n' _ _ => impl_first _ 2 (by omega) (twi (cd (mok h 1 (fun _ => s))) (cd (∀ i, i < 2 → sz h.p h.n ∧ isVec h.p h.n (fun x => twv v w (i * 8 + x))))) _ _ ⟨b3, 2, _, rfl, by exact zH, rfl, fun q hq => by
      dsimp only
      unfold twi
      rcases (show q = 0 ∨ q = 1 by omega) with rfl | rfl <;> rfl⟩) ?_
    (repeat first|refine zA ?_|(refine CS.tailL _ (List.Mem.head _) ?_;dsimp only[List.take,List.drop])|refine zC ?_|((first|refine zB ?_|(refine LS.nilO ?_;intro nq hnq hltq)|(refine MS.new ?_;intro bq hbq hbqf)|(refine MS.nil ?_;intro nq hnq hltq;have hlq:=hltq _ _ (Hp.get_eq _ _ _);clear hltq)|(refine LS.nilQ ?_;try with_reducible intro nq hnq));try dsimp only[Ex.then,Ex.inBlock,putD,Env.put])|(refine CS.exit ?_;try dsimp only[Ex.then,Ex.inBlock,↓reduceIte,Nat.reduceEqDiff];try simp only[↓reduceIte])|(refine resK.nil ?_;dsimp only[resV]))
    refine LS.nilO ⟨?_⟩
    refine OTS.done ?_
    intro n4 hn4 hf4
    rw [fstz_two, cd_iff pok_has]
    dsimp only [Ex.then, Ex.inBlock]
    (repeat first|refine zA ?_|(refine CS.tailL _ (List.Mem.head _) ?_;dsimp only[List.take,List.drop])|refine zC ?_|((first|refine zB ?_|(refine LS.nilO ?_;intro nq hnq hltq)|(refine MS.new ?_;intro bq hbq hbqf)|(refine MS.nil ?_;intro nq hnq hltq;have hlq:=hltq _ _ (Hp.get_eq _ _ _);clear hltq)|(refine LS.nilQ ?_;try with_reducible intro nq hnq));try dsimp only[Ex.then,Ex.inBlock,putD,Env.put])|(refine CS.exit ?_;try dsimp only[Ex.then,Ex.inBlock,↓reduceIte,Nat.reduceEqDiff];try simp only[↓reduceIte])|(refine resK.nil ?_;dsimp only[resV]))
    refine zI ?_ ?_<;>intro h1
    · have h3 : ¬pok h s v w := fun q => h1 (cd_zero.2 q)
      (repeat first|refine zA ?_|(refine CS.tailL _ (List.Mem.head _) ?_;dsimp only[List.take,List.drop])|refine zC ?_|((first|refine zB ?_|(refine LS.nilO ?_;intro nq hnq hltq)|(refine MS.new ?_;intro bq hbq hbqf)|(refine MS.nil ?_;intro nq hnq hltq;have hlq:=hltq _ _ (Hp.get_eq _ _ _);clear hltq)|(refine LS.nilQ ?_;try with_reducible intro nq hnq));try dsimp only[Ex.then,Ex.inBlock,putD,Env.put])|(refine CS.exit ?_;try dsimp only[Ex.then,Ex.inBlock,↓reduceIte,Nat.reduceEqDiff];try simp only[↓reduceIte])|(refine resK.nil ?_;dsimp only[resV]))
      exact ⟨.tup [i64 (val (pok h s v w) (fun _ => bil h.p s v w) 0), i64 (cd (pok h s v w))], H, conc_tup2 (by rw [val_false h3]) rfl, by exact zD, rfl, rfl⟩
    · have h3 : pok h s v w := cd_zero.1 h1
      obtain ⟨a, hS⟩ := isHopf.hs h3.1.1
      have hp := hS.hp
      (repeat first|refine zA ?_|(refine CS.tailL _ (List.Mem.head _) ?_;dsimp only[List.take,List.drop])|refine zC ?_|((first|refine zB ?_|(refine LS.nilO ?_;intro nq hnq hltq)|(refine MS.new ?_;intro bq hbq hbqf)|(refine MS.nil ?_;intro nq hnq hltq;have hlq:=hltq _ _ (Hp.get_eq _ _ _);clear hltq)|(refine LS.nilQ ?_;try with_reducible intro nq hnq));try dsimp only[Ex.then,Ex.inBlock,putD,Env.put])|(refine CS.exit ?_;try dsimp only[Ex.then,Ex.inBlock,↓reduceIte,Nat.reduceEqDiff];try simp only[↓reduceIte])|(refine resK.nil ?_;dsimp only[resV]))
      refine CS.quietLo ?_
      (repeat first|refine zA ?_|(refine CS.tailL _ (List.Mem.head _) ?_;dsimp only[List.take,List.drop])|refine zC ?_|((first|refine zB ?_|(refine LS.nilO ?_;intro nq hnq hltq)|(refine MS.new ?_;intro bq hbq hbqf)|(refine MS.nil ?_;intro nq hnq hltq;have hlq:=hltq _ _ (Hp.get_eq _ _ _);clear hltq)|(refine LS.nilQ ?_;try with_reducible intro nq hnq));try dsimp only[Ex.then,Ex.inBlock,putD,Env.put])|(refine CS.exit ?_;try dsimp only[Ex.then,Ex.inBlock,↓reduceIte,Nat.reduceEqDiff];try simp only[↓reduceIte])|(refine resK.nil ?_;dsimp only[resV]))
      refine LS.callQ (fld h.p h.n) rfl (fun n' hn' => Hopf_field h.p h.n n ⟨1106, K, 36⟩ _ _ (by exact zH) rfl hK.p hK.n (by have := hS.hn; have := hS.ha; omega)) ?_
      (repeat first|refine zA ?_|(refine CS.tailL _ (List.Mem.head _) ?_;dsimp only[List.take,List.drop])|refine zC ?_|((first|refine zB ?_|(refine LS.nilO ?_;intro nq hnq hltq)|(refine MS.new ?_;intro bq hbq hbqf)|(refine MS.nil ?_;intro nq hnq hltq;have hlq:=hltq _ _ (Hp.get_eq _ _ _);clear hltq)|(refine LS.nilQ ?_;try with_reducible intro nq hnq));try dsimp only[Ex.then,Ex.inBlock,putD,Env.put])|(refine CS.exit ?_;try dsimp only[Ex.then,Ex.inBlock,↓reduceIte,Nat.reduceEqDiff];try simp only[↓reduceIte])|(refine resK.nil ?_;dsimp only[resV]))
      refine LS.callQ (i64 (bil h.p s v w)) rfl (fun n' hn' => field_paired h.p h.n s v w (n + 1) 0 ⟨64, bys s, 32⟩ _ _ hp (by exact zH) (by simp) (fun q hq => by rw [Nat.zero_add]; rfl) hs hv hw) ?_
      (repeat first|refine zA ?_|(refine CS.tailL _ (List.Mem.head _) ?_;dsimp only[List.take,List.drop])|refine zC ?_|((first|refine zB ?_|(refine LS.nilO ?_;intro nq hnq hltq)|(refine MS.new ?_;intro bq hbq hbqf)|(refine MS.nil ?_;intro nq hnq hltq;have hlq:=hltq _ _ (Hp.get_eq _ _ _);clear hltq)|(refine LS.nilQ ?_;try with_reducible intro nq hnq));try dsimp only[Ex.then,Ex.inBlock,putD,Env.put])|(refine CS.exit ?_;try dsimp only[Ex.then,Ex.inBlock,↓reduceIte,Nat.reduceEqDiff];try simp only[↓reduceIte])|(refine resK.nil ?_;dsimp only[resV]))
      exact ⟨.tup [i64 (val (pok h s v w) (fun _ => bil h.p s v w) 0), i64 (cd (pok h s v w))], H, conc_tup2 (by rw [val_true h3]) (by rw [cd_true h3]), by exact zD, rfl, rfl⟩

theorem spec_PairingOf (h : HT) (s v w : Nat → Int) (K : Nat → SV) (H : Hp) (n : Nat) (hK : h.At K) (hB : h.By) (hs : isBy 64 s) (hv : isBy 8 v) (hw : isBy 8 w) :
    FnS Try.prog 21 [.arr 1106 K, .arr 64 (bys s), .arr 8 (bys v), .arr 8 (bys w)] H n (fun r H' _ => r = .tup [i64 (val (pok h s v w) (fun _ => bil h.p s v w) 0), i64 (cd (pok h s v w))] ∧ H' = H) := by
  have hk0 := hK.p
  have hk1 := hK.n
  refine FnS.of_body Try.func21 tr21 (by simp) (fun hf => ?_)
  dsimp only [argEnv]
  unfold ir21
  (repeat first|refine zA ?_|(refine CS.tailL _ (List.Mem.head _) ?_;dsimp only[List.take,List.drop])|refine zC ?_|((first|refine zB ?_|(refine LS.nilO ?_;intro nq hnq hltq)|(refine MS.new ?_;intro bq hbq hbqf)|(refine MS.nil ?_;intro nq hnq hltq;have hlq:=hltq _ _ (Hp.get_eq _ _ _);clear hltq)|(refine LS.nilQ ?_;try with_reducible intro nq hnq));try dsimp only[Ex.then,Ex.inBlock,putD,Env.put])|(refine CS.exit ?_;try dsimp only[Ex.then,Ex.inBlock,↓reduceIte,Nat.reduceEqDiff];try simp only[↓reduceIte])|(refine resK.nil ?_;dsimp only[resV]))
  refine RS.call rfl ((FnS.args (concs_cons (conc_arr (fun q hq => rfl)) rfl) (spec_l10Code h (.slc (n + 4) 0 1 1) 1 (by omega) (fun _ => s) K _ _ hK hB ⟨n + 4, 1, _, rfl, by exact zH, (by simp), fun i hi q hq => by (obtain rfl : i = 0 := by omega); (try dsimp only); rw [show 0 + 0 * 64 + q = 0 + q by omega]; exact (splice_at _ _ 0 64 q hq).trans (by first | rfl | (simp only [Nat.zero_add]; rfl))⟩ (fun _ _ => hs))).mono ?_)
  rintro r H' n2 hn2 ⟨rfl, rfl⟩
  by_cases h3 : mok h 1 (fun _ => s)
  · rw [cd_true h3]
    obtain ⟨a, hS⟩ := isHopf.hs h3.1
    have hN := hS.N
    subst hN
    have hz0 := h3.lz hS (show 0 < 1 by omega)
    (repeat first|refine zA ?_|(refine CS.tailL _ (List.Mem.head _) ?_;dsimp only[List.take,List.drop])|refine zC ?_|((first|refine zB ?_|(refine LS.nilO ?_;intro nq hnq hltq)|(refine MS.new ?_;intro bq hbq hbqf)|(refine MS.nil ?_;intro nq hnq hltq;have hlq:=hltq _ _ (Hp.get_eq _ _ _);clear hltq)|(refine LS.nilQ ?_;try with_reducible intro nq hnq));try dsimp only[Ex.then,Ex.inBlock,putD,Env.put])|(refine CS.exit ?_;try dsimp only[Ex.then,Ex.inBlock,↓reduceIte,Nat.reduceEqDiff];try simp only[↓reduceIte])|(refine resK.nil ?_;dsimp only[resV]))
    refine RS.call rfl ((spec_l01Vector h.p h.n v _ _ hv).mono ?_)
    rintro r H' n3 hn3 ⟨rfl, rfl⟩
    by_cases h4 : isVec h.p h.n v
    · rw [tb_true h4]
      (repeat first|refine zA ?_|(refine CS.tailL _ (List.Mem.head _) ?_;dsimp only[List.take,List.drop])|refine zC ?_|((first|refine zB ?_|(refine LS.nilO ?_;intro nq hnq hltq)|(refine MS.new ?_;intro bq hbq hbqf)|(refine MS.nil ?_;intro nq hnq hltq;have hlq:=hltq _ _ (Hp.get_eq _ _ _);clear hltq)|(refine LS.nilQ ?_;try with_reducible intro nq hnq));try dsimp only[Ex.then,Ex.inBlock,putD,Env.put])|(refine CS.exit ?_;try dsimp only[Ex.then,Ex.inBlock,↓reduceIte,Nat.reduceEqDiff];try simp only[↓reduceIte])|(refine resK.nil ?_;dsimp only[resV]))
      refine RS.call rfl ((spec_l01Vector h.p h.n w _ _ hw).mono ?_)
      rintro r H' n4 hn4 ⟨rfl, rfl⟩
      by_cases h5 : isVec h.p h.n w
      · have h9 : pok h s v w := ⟨h3, h4, h5⟩
        rw [tb_true h5]
        (repeat first|refine zA ?_|(refine CS.tailL _ (List.Mem.head _) ?_;dsimp only[List.take,List.drop])|refine zC ?_|((first|refine zB ?_|(refine LS.nilO ?_;intro nq hnq hltq)|(refine MS.new ?_;intro bq hbq hbqf)|(refine MS.nil ?_;intro nq hnq hltq;have hlq:=hltq _ _ (Hp.get_eq _ _ _);clear hltq)|(refine LS.nilQ ?_;try with_reducible intro nq hnq));try dsimp only[Ex.then,Ex.inBlock,putD,Env.put])|(refine CS.exit ?_;try dsimp only[Ex.then,Ex.inBlock,↓reduceIte,Nat.reduceEqDiff];try simp only[↓reduceIte])|(refine resK.nil ?_;dsimp only[resV]))
        refine RS.call rfl ((spec_l10Value h h.N s v w K _ _ hS hK hs hz0 hv hw).mono ?_)
        rintro r H' n5 hn5 ⟨rfl, rfl⟩
        (repeat first|refine zA ?_|(refine CS.tailL _ (List.Mem.head _) ?_;dsimp only[List.take,List.drop])|refine zC ?_|((first|refine zB ?_|(refine LS.nilO ?_;intro nq hnq hltq)|(refine MS.new ?_;intro bq hbq hbqf)|(refine MS.nil ?_;intro nq hnq hltq;have hlq:=hltq _ _ (Hp.get_eq _ _ _);clear hltq)|(refine LS.nilQ ?_;try with_reducible intro nq hnq));try dsimp only[Ex.then,Ex.inBlock,putD,Env.put])|(refine CS.exit ?_;try dsimp only[Ex.then,Ex.inBlock,↓reduceIte,Nat.reduceEqDiff];try simp only[↓reduceIte])|(refine resK.nil ?_;dsimp only[resV]))
        exact ⟨.tup [i64 (val (pok h s v w) (fun _ => bil h.p s v w) 0), i64 (cd (pok h s v w))], H, conc_tup2 (by rw [val_true h9]) (by rw [cd_true h9]), by exact zD, rfl, rfl⟩
      · have h9 : ¬pok h s v w := fun q => h5 q.2.2
        rw [tb_false h5]
        (repeat first|refine zA ?_|(refine CS.tailL _ (List.Mem.head _) ?_;dsimp only[List.take,List.drop])|refine zC ?_|((first|refine zB ?_|(refine LS.nilO ?_;intro nq hnq hltq)|(refine MS.new ?_;intro bq hbq hbqf)|(refine MS.nil ?_;intro nq hnq hltq;have hlq:=hltq _ _ (Hp.get_eq _ _ _);clear hltq)|(refine LS.nilQ ?_;try with_reducible intro nq hnq));try dsimp only[Ex.then,Ex.inBlock,putD,Env.put])|(refine CS.exit ?_;try dsimp only[Ex.then,Ex.inBlock,↓reduceIte,Nat.reduceEqDiff];try simp only[↓reduceIte])|(refine resK.nil ?_;dsimp only[resV]))
        exact ⟨.tup [i64 (val (pok h s v w) (fun _ => bil h.p s v w) 0), i64 (cd (pok h s v w))], H, conc_tup2 (by rw [val_false h9]) (by rw [cd_false h9]), by exact zD, rfl, rfl⟩
    · have h9 : ¬pok h s v w := fun q => h4 q.2.1
      rw [tb_false h4]
      (repeat first|refine zA ?_|(refine CS.tailL _ (List.Mem.head _) ?_;dsimp only[List.take,List.drop])|refine zC ?_|((first|refine zB ?_|(refine LS.nilO ?_;intro nq hnq hltq)|(refine MS.new ?_;intro bq hbq hbqf)|(refine MS.nil ?_;intro nq hnq hltq;have hlq:=hltq _ _ (Hp.get_eq _ _ _);clear hltq)|(refine LS.nilQ ?_;try with_reducible intro nq hnq));try dsimp only[Ex.then,Ex.inBlock,putD,Env.put])|(refine CS.exit ?_;try dsimp only[Ex.then,Ex.inBlock,↓reduceIte,Nat.reduceEqDiff];try simp only[↓reduceIte])|(refine resK.nil ?_;dsimp only[resV]))
      exact ⟨.tup [i64 (val (pok h s v w) (fun _ => bil h.p s v w) 0), i64 (cd (pok h s v w))], H, conc_tup2 (by rw [val_false h9]) (by rw [cd_false h9]), by exact zD, rfl, rfl⟩
  · have h9 : ¬pok h s v w := fun q => h3 q.1
    rw [cd_false h3]
    (repeat first|refine zA ?_|(refine CS.tailL _ (List.Mem.head _) ?_;dsimp only[List.take,List.drop])|refine zC ?_|((first|refine zB ?_|(refine LS.nilO ?_;intro nq hnq hltq)|(refine MS.new ?_;intro bq hbq hbqf)|(refine MS.nil ?_;intro nq hnq hltq;have hlq:=hltq _ _ (Hp.get_eq _ _ _);clear hltq)|(refine LS.nilQ ?_;try with_reducible intro nq hnq));try dsimp only[Ex.then,Ex.inBlock,putD,Env.put])|(refine CS.exit ?_;try dsimp only[Ex.then,Ex.inBlock,↓reduceIte,Nat.reduceEqDiff];try simp only[↓reduceIte])|(refine resK.nil ?_;dsimp only[resV]))
    exact ⟨.tup [i64 (val (pok h s v w) (fun _ => bil h.p s v w) 0), i64 (cd (pok h s v w))], H, conc_tup2 (by rw [val_false h9]) (by rw [cd_false h9]), by exact zD, rfl, rfl⟩

theorem law_FnExactPairingOf (z : Nat → Int) (w : ∀ i, (Lit.int (hopfKs.getD i .u8) (z i)).wf = true) (z1 : Nat → Int) (w1 : ∀ i, (Lit.int ((List.replicate 64 .u8 : List IntKind).getD i .u8) (z1 i)).wf = true) (z2 : Nat → Int) (w2 : ∀ i, (Lit.int ((List.replicate 8 .u8 : List IntKind).getD i .u8) (z2 i)).wf = true) (z3 : Nat → Int) (w3 : ∀ i, (Lit.int ((List.replicate 8 .u8 : List IntKind).getD i .u8) (z3 i)).wf = true) (n : Nat) :
    FnS Try.prog 7 [.arr 1106 fun i => .int (hopfKs.getD i .u8) (z i), .arr 64 fun i => .int ((List.replicate 64 .u8 : List IntKind).getD i .u8) (z1 i), .arr 8 fun i => .int ((List.replicate 8 .u8 : List IntKind).getD i .u8) (z2 i), .arr 8 fun i => .int ((List.replicate 8 .u8 : List IntKind).getD i .u8) (z3 i)] [] n (fun r H' _ => r = bl true ∧ H' = []) := by
  have hK := hOf_at z
  have hB := hOf_by w
  generalize hOf z = h at hK hB
  generalize (fun i => SV.int (hopfKs.getD i .u8) (z i)) = K at hK ⊢
  simp only [flat_bys]
  refine FnS.of_body Try.func7 tr7 (by simp) (fun hf => ?_)
  dsimp only [argEnv]
  unfold ir7
  (repeat first|refine zA ?_|(refine CS.tailL _ (List.Mem.head _) ?_;dsimp only[List.take,List.drop])|refine zC ?_|((first|refine zB ?_|(refine LS.nilO ?_;intro nq hnq hltq)|(refine MS.new ?_;intro bq hbq hbqf)|(refine MS.nil ?_;intro nq hnq hltq;have hlq:=hltq _ _ (Hp.get_eq _ _ _);clear hltq)|(refine LS.nilQ ?_;try with_reducible intro nq hnq));try dsimp only[Ex.then,Ex.inBlock,putD,Env.put])|(refine CS.exit ?_;try dsimp only[Ex.then,Ex.inBlock,↓reduceIte,Nat.reduceEqDiff];try simp only[↓reduceIte])|(refine resK.nil ?_;dsimp only[resV]))
  refine CS.quietLo ?_
  (repeat first|refine zA ?_|(refine CS.tailL _ (List.Mem.head _) ?_;dsimp only[List.take,List.drop])|refine zC ?_|((first|refine zB ?_|(refine LS.nilO ?_;intro nq hnq hltq)|(refine MS.new ?_;intro bq hbq hbqf)|(refine MS.nil ?_;intro nq hnq hltq;have hlq:=hltq _ _ (Hp.get_eq _ _ _);clear hltq)|(refine LS.nilQ ?_;try with_reducible intro nq hnq));try dsimp only[Ex.then,Ex.inBlock,putD,Env.put])|(refine CS.exit ?_;try dsimp only[Ex.then,Ex.inBlock,↓reduceIte,Nat.reduceEqDiff];try simp only[↓reduceIte])|(refine resK.nil ?_;dsimp only[resV]))
  refine LS.callQ (.arr 1106 K) rfl (fun n' hn' => laws_toHopf h K _ _ hK) ?_
  (repeat first|refine zA ?_|(refine CS.tailL _ (List.Mem.head _) ?_;dsimp only[List.take,List.drop])|refine zC ?_|((first|refine zB ?_|(refine LS.nilO ?_;intro nq hnq hltq)|(refine MS.new ?_;intro bq hbq hbqf)|(refine MS.nil ?_;intro nq hnq hltq;have hlq:=hltq _ _ (Hp.get_eq _ _ _);clear hltq)|(refine LS.nilQ ?_;try with_reducible intro nq hnq));try dsimp only[Ex.then,Ex.inBlock,putD,Env.put])|(refine CS.exit ?_;try dsimp only[Ex.then,Ex.inBlock,↓reduceIte,Nat.reduceEqDiff];try simp only[↓reduceIte])|(refine resK.nil ?_;dsimp only[resV]))
  refine LS.callQ (.arr 64 (bys z1)) rfl (fun n' hn' => laws_toLinear z1 _ _) ?_
  (repeat first|refine zA ?_|(refine CS.tailL _ (List.Mem.head _) ?_;dsimp only[List.take,List.drop])|refine zC ?_|((first|refine zB ?_|(refine LS.nilO ?_;intro nq hnq hltq)|(refine MS.new ?_;intro bq hbq hbqf)|(refine MS.nil ?_;intro nq hnq hltq;have hlq:=hltq _ _ (Hp.get_eq _ _ _);clear hltq)|(refine LS.nilQ ?_;try with_reducible intro nq hnq));try dsimp only[Ex.then,Ex.inBlock,putD,Env.put])|(refine CS.exit ?_;try dsimp only[Ex.then,Ex.inBlock,↓reduceIte,Nat.reduceEqDiff];try simp only[↓reduceIte])|(refine resK.nil ?_;dsimp only[resV]))
  refine LS.callQ (.arr 8 (bys z2)) rfl (fun n' hn' => laws_toVector z2 _ _) ?_
  (repeat first|refine zA ?_|(refine CS.tailL _ (List.Mem.head _) ?_;dsimp only[List.take,List.drop])|refine zC ?_|((first|refine zB ?_|(refine LS.nilO ?_;intro nq hnq hltq)|(refine MS.new ?_;intro bq hbq hbqf)|(refine MS.nil ?_;intro nq hnq hltq;have hlq:=hltq _ _ (Hp.get_eq _ _ _);clear hltq)|(refine LS.nilQ ?_;try with_reducible intro nq hnq));try dsimp only[Ex.then,Ex.inBlock,putD,Env.put])|(refine CS.exit ?_;try dsimp only[Ex.then,Ex.inBlock,↓reduceIte,Nat.reduceEqDiff];try simp only[↓reduceIte])|(refine resK.nil ?_;dsimp only[resV]))
  refine LS.callQ (.arr 8 (bys z3)) rfl (fun n' hn' => laws_toVector z3 _ _) ?_
  (repeat first|refine zA ?_|(refine CS.tailL _ (List.Mem.head _) ?_;dsimp only[List.take,List.drop])|refine zC ?_|((first|refine zB ?_|(refine LS.nilO ?_;intro nq hnq hltq)|(refine MS.new ?_;intro bq hbq hbqf)|(refine MS.nil ?_;intro nq hnq hltq;have hlq:=hltq _ _ (Hp.get_eq _ _ _);clear hltq)|(refine LS.nilQ ?_;try with_reducible intro nq hnq));try dsimp only[Ex.then,Ex.inBlock,putD,Env.put])|(refine CS.exit ?_;try dsimp only[Ex.then,Ex.inBlock,↓reduceIte,Nat.reduceEqDiff];try simp only[↓reduceIte])|(refine resK.nil ?_;dsimp only[resV]))
  refine LS.callQ (.tup [i64 (val (pok h z1 z2 z3) (fun _ => bil h.p z1 z2 z3) 0), i64 (cd (pok h z1 z2 z3))]) rfl (fun n' hn' => spec_PairingOf h z1 z2 z3 K _ _ hK hB (flat_by w1) (flat_by w2) (flat_by w3)) ?_
  (repeat first|refine zA ?_|(refine CS.tailL _ (List.Mem.head _) ?_;dsimp only[List.take,List.drop])|refine zC ?_|((first|refine zB ?_|(refine LS.nilO ?_;intro nq hnq hltq)|(refine MS.new ?_;intro bq hbq hbqf)|(refine MS.nil ?_;intro nq hnq hltq;have hlq:=hltq _ _ (Hp.get_eq _ _ _);clear hltq)|(refine LS.nilQ ?_;try with_reducible intro nq hnq));try dsimp only[Ex.then,Ex.inBlock,putD,Env.put])|(refine CS.exit ?_;try dsimp only[Ex.then,Ex.inBlock,↓reduceIte,Nat.reduceEqDiff];try simp only[↓reduceIte])|(refine resK.nil ?_;dsimp only[resV]))
  refine CS.quietLo ?_
  (repeat first|refine zA ?_|(refine CS.tailL _ (List.Mem.head _) ?_;dsimp only[List.take,List.drop])|refine zC ?_|((first|refine zB ?_|(refine LS.nilO ?_;intro nq hnq hltq)|(refine MS.new ?_;intro bq hbq hbqf)|(refine MS.nil ?_;intro nq hnq hltq;have hlq:=hltq _ _ (Hp.get_eq _ _ _);clear hltq)|(refine LS.nilQ ?_;try with_reducible intro nq hnq));try dsimp only[Ex.then,Ex.inBlock,putD,Env.put])|(refine CS.exit ?_;try dsimp only[Ex.then,Ex.inBlock,↓reduceIte,Nat.reduceEqDiff];try simp only[↓reduceIte])|(refine resK.nil ?_;dsimp only[resV]))
  refine LS.callQ (.arr 1106 K) rfl (fun n' hn' => laws_toHopf h K _ _ hK) ?_
  (repeat first|refine zA ?_|(refine CS.tailL _ (List.Mem.head _) ?_;dsimp only[List.take,List.drop])|refine zC ?_|((first|refine zB ?_|(refine LS.nilO ?_;intro nq hnq hltq)|(refine MS.new ?_;intro bq hbq hbqf)|(refine MS.nil ?_;intro nq hnq hltq;have hlq:=hltq _ _ (Hp.get_eq _ _ _);clear hltq)|(refine LS.nilQ ?_;try with_reducible intro nq hnq));try dsimp only[Ex.then,Ex.inBlock,putD,Env.put])|(refine CS.exit ?_;try dsimp only[Ex.then,Ex.inBlock,↓reduceIte,Nat.reduceEqDiff];try simp only[↓reduceIte])|(refine resK.nil ?_;dsimp only[resV]))
  refine LS.callQ (.arr 64 (bys z1)) rfl (fun n' hn' => laws_toLinear z1 _ _) ?_
  (repeat first|refine zA ?_|(refine CS.tailL _ (List.Mem.head _) ?_;dsimp only[List.take,List.drop])|refine zC ?_|((first|refine zB ?_|(refine LS.nilO ?_;intro nq hnq hltq)|(refine MS.new ?_;intro bq hbq hbqf)|(refine MS.nil ?_;intro nq hnq hltq;have hlq:=hltq _ _ (Hp.get_eq _ _ _);clear hltq)|(refine LS.nilQ ?_;try with_reducible intro nq hnq));try dsimp only[Ex.then,Ex.inBlock,putD,Env.put])|(refine CS.exit ?_;try dsimp only[Ex.then,Ex.inBlock,↓reduceIte,Nat.reduceEqDiff];try simp only[↓reduceIte])|(refine resK.nil ?_;dsimp only[resV]))
  refine LS.callQ (.arr 8 (bys z2)) rfl (fun n' hn' => laws_toVector z2 _ _) ?_
  (repeat first|refine zA ?_|(refine CS.tailL _ (List.Mem.head _) ?_;dsimp only[List.take,List.drop])|refine zC ?_|((first|refine zB ?_|(refine LS.nilO ?_;intro nq hnq hltq)|(refine MS.new ?_;intro bq hbq hbqf)|(refine MS.nil ?_;intro nq hnq hltq;have hlq:=hltq _ _ (Hp.get_eq _ _ _);clear hltq)|(refine LS.nilQ ?_;try with_reducible intro nq hnq));try dsimp only[Ex.then,Ex.inBlock,putD,Env.put])|(refine CS.exit ?_;try dsimp only[Ex.then,Ex.inBlock,↓reduceIte,Nat.reduceEqDiff];try simp only[↓reduceIte])|(refine resK.nil ?_;dsimp only[resV]))
  refine LS.callQ (.arr 8 (bys z3)) rfl (fun n' hn' => laws_toVector z3 _ _) ?_
  (repeat first|refine zA ?_|(refine CS.tailL _ (List.Mem.head _) ?_;dsimp only[List.take,List.drop])|refine zC ?_|((first|refine zB ?_|(refine LS.nilO ?_;intro nq hnq hltq)|(refine MS.new ?_;intro bq hbq hbqf)|(refine MS.nil ?_;intro nq hnq hltq;have hlq:=hltq _ _ (Hp.get_eq _ _ _);clear hltq)|(refine LS.nilQ ?_;try with_reducible intro nq hnq));try dsimp only[Ex.then,Ex.inBlock,putD,Env.put])|(refine CS.exit ?_;try dsimp only[Ex.then,Ex.inBlock,↓reduceIte,Nat.reduceEqDiff];try simp only[↓reduceIte])|(refine resK.nil ?_;dsimp only[resV]))
  refine LS.callQ (.tup [i64 (val (pok h z1 z2 z3) (fun _ => bil h.p z1 z2 z3) 0), i64 (cd (pok h z1 z2 z3))]) rfl (fun n' hn' => impl_PairingOf h z1 z2 z3 K _ _ hK hB (flat_by w1) (flat_by w2) (flat_by w3)) ?_
  (repeat first|refine zA ?_|(refine CS.tailL _ (List.Mem.head _) ?_;dsimp only[List.take,List.drop])|refine zC ?_|((first|refine zB ?_|(refine LS.nilO ?_;intro nq hnq hltq)|(refine MS.new ?_;intro bq hbq hbqf)|(refine MS.nil ?_;intro nq hnq hltq;have hlq:=hltq _ _ (Hp.get_eq _ _ _);clear hltq)|(refine LS.nilQ ?_;try with_reducible intro nq hnq));try dsimp only[Ex.then,Ex.inBlock,putD,Env.put])|(refine CS.exit ?_;try dsimp only[Ex.then,Ex.inBlock,↓reduceIte,Nat.reduceEqDiff];try simp only[↓reduceIte])|(refine resK.nil ?_;dsimp only[resV]))
  simp only [bne_self_eq_false]
  (repeat first|refine zA ?_|(refine CS.tailL _ (List.Mem.head _) ?_;dsimp only[List.take,List.drop])|refine zC ?_|((first|refine zB ?_|(refine LS.nilO ?_;intro nq hnq hltq)|(refine MS.new ?_;intro bq hbq hbqf)|(refine MS.nil ?_;intro nq hnq hltq;have hlq:=hltq _ _ (Hp.get_eq _ _ _);clear hltq)|(refine LS.nilQ ?_;try with_reducible intro nq hnq));try dsimp only[Ex.then,Ex.inBlock,putD,Env.put])|(refine CS.exit ?_;try dsimp only[Ex.then,Ex.inBlock,↓reduceIte,Nat.reduceEqDiff];try simp only[↓reduceIte])|(refine resK.nil ?_;dsimp only[resV]))
  simp only [bne_self_eq_false]
  (repeat first|refine zA ?_|(refine CS.tailL _ (List.Mem.head _) ?_;dsimp only[List.take,List.drop])|refine zC ?_|((first|refine zB ?_|(refine LS.nilO ?_;intro nq hnq hltq)|(refine MS.new ?_;intro bq hbq hbqf)|(refine MS.nil ?_;intro nq hnq hltq;have hlq:=hltq _ _ (Hp.get_eq _ _ _);clear hltq)|(refine LS.nilQ ?_;try with_reducible intro nq hnq));try dsimp only[Ex.then,Ex.inBlock,putD,Env.put])|(refine CS.exit ?_;try dsimp only[Ex.then,Ex.inBlock,↓reduceIte,Nat.reduceEqDiff];try simp only[↓reduceIte])|(refine resK.nil ?_;dsimp only[resV]))
  exact ⟨_, [], rfl, by exact zD, rfl, rfl⟩

end Go.Proofs.Ytnkmpelakhhoiaa

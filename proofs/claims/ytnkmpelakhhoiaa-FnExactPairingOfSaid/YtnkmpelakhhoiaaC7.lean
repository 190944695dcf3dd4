/- Basis elements, multiples, images under linear maps, sums of products of entries, on both sides. -/
import Derived.Test.YtnkmpelakhhoiaaC6
namespace Go.V

/-- What a linear map makes of the first m entries. -/
def apk (p : Int) (l v : Nat → Int) (m : Nat) : Nat → Int := fun x => sm (fun i => v i * l (8 * i + x)) m % p
theorem apk_zero (p : Int) (l v : Nat → Int) : apk p l v 0 = fun _ => 0 := by
  funext x; simp [apk, sm]
theorem apk_step (p : Int) (l v : Nat → Int) (i : Nat) : pl p (apk p l v i) (v i) (fun x => l (8 * i + x)) = apk p l v (i + 1) := by
  funext x; unfold pl apk; rw [modAddL]; rfl
theorem apk_res {p : Int} (hp : 2 ≤ p) (l v : Nat → Int) (i N : Nat) : isRes p N (apk p l v i) := fun _ _ => modB _ hp
theorem apk_same {p : Int} {l v : Nat → Int} {i : Nat} (h : v i = 0) : apk p l v (i + 1) = apk p l v i := by
  funext x; unfold apk; rw [sm, h, Int.zero_mul, Int.add_zero]
theorem apk_more {p : Int} {l v : Nat → Int} {m : Nat} (hm : m ≤ 8) (h : ∀ i : Nat, m ≤ i → i < 8 → v i = 0) : apk p l v m = app p l v := by
  funext x; unfold apk app; rw [sm_more hm (fun i h1 h2 => by rw [h i h1 h2, Int.zero_mul])]

theorem isRes_zero {p : Int} (hp : 2 ≤ p) (N : Nat) : isRes p N (fun _ => 0) := fun _ _ => ⟨Int.le_refl 0, show (0 : Int) < p by omega⟩
theorem splice_all (c : Nat → SV) (d : Nat → SV) (n q : Nat) (h : q < n) : splice c 0 n d q = d q := by
  unfold splice; rw [if_pos (by omega), Nat.sub_zero]
end Go.V
namespace Go.Proofs.Ytnkmpelakhhoiaa
open Go.V
set_option linter.unusedSimpArgs false
set_option linter.unusedVariables false
set_option maxHeartbeats 4000000

theorem impl_basis (i : Nat) (H : Hp) (n : Nat) (hi : i < 8) :
    FnS Try.prog 61 [i64 i] H n (fun r H' _ => r = .arr 8 (bys (bas i)) ∧ H' = H) := by
  refine FnS.of_body Try.func61 tr61 (by simp) (fun hf => ?_)
  dsimp only [argEnv]
  unfold ir61
  (repeat first|refine zA ?_|(refine CS.tailL _ (List.Mem.head _) ?_;dsimp only[List.take,List.drop])|refine zC ?_|((first|refine zB ?_|(refine LS.nilO ?_;intro nq hnq hltq)|(refine MS.new ?_;intro bq hbq hbqf)|(refine MS.nil ?_;intro nq hnq hltq;have hlq:=hltq _ _ (Hp.get_eq _ _ _);clear hltq)|(refine LS.nilQ ?_;try with_reducible intro nq hnq));try dsimp only[Ex.then,Ex.inBlock,putD,Env.put])|(refine CS.exit ?_;try dsimp only[Ex.then,Ex.inBlock,↓reduceIte,Nat.reduceEqDiff];try simp only[↓reduceIte])|(refine resK.nil ?_;dsimp only[resV]))
  exact ⟨.arr 8 (bys (bas i)), H, conc_arr (fun q hq => by simp only [Nat.zero_add, put1, bys, bas]; split <;> rfl), by exact zD, rfl, rfl⟩

theorem spec_l01Basis (i : Nat) (H : Hp) (n : Nat) (hi : i < 8) :
    FnS Try.prog 59 [i64 i] H n (fun r H' _ => r = .arr 8 (bys (bas i)) ∧ H' = H) := by
  refine FnS.of_body Try.func59 tr59 (by simp) (fun hf => ?_)
  dsimp only [argEnv]
  unfold ir59
  (repeat first|refine zA ?_|(refine CS.tailL _ (List.Mem.head _) ?_;dsimp only[List.take,List.drop])|refine zC ?_|((first|refine zB ?_|(refine LS.nilO ?_;intro nq hnq hltq)|(refine MS.new ?_;intro bq hbq hbqf)|(refine MS.nil ?_;intro nq hnq hltq;have hlq:=hltq _ _ (Hp.get_eq _ _ _);clear hltq)|(refine LS.nilQ ?_;try with_reducible intro nq hnq));try dsimp only[Ex.then,Ex.inBlock,putD,Env.put])|(refine CS.exit ?_;try dsimp only[Ex.then,Ex.inBlock,↓reduceIte,Nat.reduceEqDiff];try simp only[↓reduceIte])|(refine resK.nil ?_;dsimp only[resV]))
  exact ⟨.arr 8 (bys (bas i)), H, conc_arr (fun q hq => by simp only [Nat.zero_add, put1, bys, bas]; split <;> rfl), by exact zD, rfl, rfl⟩

theorem field_times (p n' k : Int) (w : Nat → Int) (H : Hp) (n : Nat) (hp : 2 ≤ p ∧ p ≤ 31) (hw : isBy 8 w) (hk : 0 ≤ k ∧ k ≤ 100000) :
    FnS Try.prog 90 [fld p n', i64 k, .arr 8 (bys w)] H n (fun r H' _ => r = .arr 8 (bys (pl p (fun _ => 0) k w)) ∧ H' = H) := by
  refine FnS.of_body Try.func90 tr90 (by simp) (fun hf => ?_)
  dsimp only [argEnv]
  unfold ir90
  (repeat first|refine zA ?_|(refine CS.tailL _ (List.Mem.head _) ?_;dsimp only[List.take,List.drop])|refine zC ?_|((first|refine zB ?_|(refine LS.nilO ?_;intro nq hnq hltq)|(refine MS.new ?_;intro bq hbq hbqf)|(refine MS.nil ?_;intro nq hnq hltq;have hlq:=hltq _ _ (Hp.get_eq _ _ _);clear hltq)|(refine LS.nilQ ?_;try with_reducible intro nq hnq));try dsimp only[Ex.then,Ex.inBlock,putD,Env.put])|(refine CS.exit ?_;try dsimp only[Ex.then,Ex.inBlock,↓reduceIte,Nat.reduceEqDiff];try simp only[↓reduceIte])|(refine resK.nil ?_;dsimp only[resV]))
  refine RS.call rfl ((field_plus p n' k (fun _ => 0) w (n + 3) 0 ⟨8, fun _ => .int .u8 0, 30⟩ _ _ hp (by exact zH) (by simp) (fun _ _ => rfl) (isRes_zero hp.1 8) hw hk).mono ?_)
  rintro r H' n2 hn2 ⟨rfl, rfl⟩
  simp (disch := omega) only [Hp.set_eq, Hp.set_ne]
  (repeat first|refine zA ?_|(refine CS.tailL _ (List.Mem.head _) ?_;dsimp only[List.take,List.drop])|refine zC ?_|((first|refine zB ?_|(refine LS.nilO ?_;intro nq hnq hltq)|(refine MS.new ?_;intro bq hbq hbqf)|(refine MS.nil ?_;intro nq hnq hltq;have hlq:=hltq _ _ (Hp.get_eq _ _ _);clear hltq)|(refine LS.nilQ ?_;try with_reducible intro nq hnq));try dsimp only[Ex.then,Ex.inBlock,putD,Env.put])|(refine CS.exit ?_;try dsimp only[Ex.then,Ex.inBlock,↓reduceIte,Nat.reduceEqDiff];try simp only[↓reduceIte])|(refine resK.nil ?_;dsimp only[resV]))
  exact ⟨.arr 8 (bys (pl p (fun _ => 0) k w)), H, conc_arr (fun q hq => by simp only [Nat.zero_add]; exact splice_all _ _ _ _ hq), by exact zD, rfl, rfl⟩

theorem field_apply (p n' : Int) (l v : Nat → Int) (b o : Nat) (K : Blk) (H : Hp) (n : Nat) (hp : 2 ≤ p ∧ p ≤ 31) (hb : H.get b = some K) (ho : o + 64 ≤ K.size)
    (hc : ∀ i, i < 64 → K.c (o + i) = .int .u8 (l i)) (hl : isBy 64 l) (hv : isBy 8 v) :
    FnS Try.prog 63 [fld p n', ptr b o, .arr 8 (bys v)] H n (fun r H' _ => r = .arr 8 (bys (app p l v)) ∧ H' = H) := by
  refine FnS.of_body Try.func63 tr63 (by simp) (fun hf => ?_)
  dsimp only [argEnv]
  unfold ir63
  have hbn : b < n := by
    rcases Nat.lt_or_ge b n with h | h
    · exact h
    · rw [hf b h] at hb; cases hb
  (repeat first|refine zA ?_|(refine CS.tailL _ (List.Mem.head _) ?_;dsimp only[List.take,List.drop])|refine zC ?_|((first|refine zB ?_|(refine LS.nilO ?_;intro nq hnq hltq)|(refine MS.new ?_;intro bq hbq hbqf)|(refine MS.nil ?_;intro nq hnq hltq;have hlq:=hltq _ _ (Hp.get_eq _ _ _);clear hltq)|(refine LS.nilQ ?_;try with_reducible intro nq hnq));try dsimp only[Ex.then,Ex.inBlock,putD,Env.put])|(refine CS.exit ?_;try dsimp only[Ex.then,Ex.inBlock,↓reduceIte,Nat.reduceEqDiff];try simp only[↓reduceIte])|(refine resK.nil ?_;dsimp only[resV]))
  refine CS.iter 8 (fun i => [(12, i64 i), (11, .arr 8 (bys v)), (1, ptr b o), (3, ptr n 0), (6, ptr (n + 2) 0), (7, ptr (n + 3) 0)])
    (fun i => (n + 3, ⟨8, bys (apk p l v i), 30⟩) :: (n + 2, ⟨8, bys (fun _ => 0), 30⟩) :: (n + 1, ⟨8, bys v, 30⟩) :: (n, ⟨2, fldC p n', 75⟩) :: H) (fun _ => True) (by (repeat first | exact trivial | refine And.intro rfl ?_))
    (Drops.keepc rfl rfl (fun _ _ => by rw [apk_zero]; rfl) (Drops.keepc rfl rfl (fun _ _ => rfl) (Drops.refl _ _))) trivial ?_
  intro i n1 hi hn _
  (repeat first|refine zA ?_|(refine CS.tailL _ (List.Mem.head _) ?_;dsimp only[List.take,List.drop])|refine zC ?_|((first|refine zB ?_|(refine LS.nilO ?_;intro nq hnq hltq)|(refine MS.new ?_;intro bq hbq hbqf)|(refine MS.nil ?_;intro nq hnq hltq;have hlq:=hltq _ _ (Hp.get_eq _ _ _);clear hltq)|(refine LS.nilQ ?_;try with_reducible intro nq hnq));try dsimp only[Ex.then,Ex.inBlock,putD,Env.put])|(refine CS.exit ?_;try dsimp only[Ex.then,Ex.inBlock,↓reduceIte,Nat.reduceEqDiff];try simp only[↓reduceIte])|(refine resK.nil ?_;dsimp only[resV]))
  refine zI ?_ ?_<;>intro h1
  · have hvi := hv i (by omega)
    (repeat first|refine zA ?_|(refine CS.tailL _ (List.Mem.head _) ?_;dsimp only[List.take,List.drop])|refine zC ?_|((first|refine zB ?_|(refine LS.nilO ?_;intro nq hnq hltq)|(refine MS.new ?_;intro bq hbq hbqf)|(refine MS.nil ?_;intro nq hnq hltq;have hlq:=hltq _ _ (Hp.get_eq _ _ _);clear hltq)|(refine LS.nilQ ?_;try with_reducible intro nq hnq));try dsimp only[Ex.then,Ex.inBlock,putD,Env.put])|(refine CS.exit ?_;try dsimp only[Ex.then,Ex.inBlock,↓reduceIte,Nat.reduceEqDiff];try simp only[↓reduceIte])|(refine resK.nil ?_;dsimp only[resV]))
    refine RS.call rfl ((field_plus p n' (v i) (apk p l v i) (fun x => l (8 * i + x)) (n + 3) 0 ⟨8, bys (apk p l v i), 30⟩ _ _ hp (by exact zH) (by simp) (fun _ _ => by rw [Nat.zero_add]; rfl) (apk_res hp.1 _ _ _ _) (fun x hx => hl _ (by omega)) (by omega)).mono ?_)
    rintro r H' n2 hn2 ⟨rfl, rfl⟩
    simp (disch := omega) only [Hp.set_eq, Hp.set_ne]
    (repeat first|refine zA ?_|(refine CS.tailL _ (List.Mem.head _) ?_;dsimp only[List.take,List.drop])|refine zC ?_|((first|refine zB ?_|(refine LS.nilO ?_;intro nq hnq hltq)|(refine MS.new ?_;intro bq hbq hbqf)|(refine MS.nil ?_;intro nq hnq hltq;have hlq:=hltq _ _ (Hp.get_eq _ _ _);clear hltq)|(refine LS.nilQ ?_;try with_reducible intro nq hnq));try dsimp only[Ex.then,Ex.inBlock,putD,Env.put])|(refine CS.exit ?_;try dsimp only[Ex.then,Ex.inBlock,↓reduceIte,Nat.reduceEqDiff];try simp only[↓reduceIte])|(refine resK.nil ?_;dsimp only[resV]))
    exact ⟨by omega, by (repeat first | exact trivial | refine And.intro rfl ?_), Drops.keepc rfl rfl (fun q hq => (splice_all _ _ 8 q hq).trans (by rw [apk_step])) (Drops.refl _ _), trivial⟩
  · have : i = 8 := by omega
    subst this
    (repeat first|refine zA ?_|(refine CS.tailL _ (List.Mem.head _) ?_;dsimp only[List.take,List.drop])|refine zC ?_|((first|refine zB ?_|(refine LS.nilO ?_;intro nq hnq hltq)|(refine MS.new ?_;intro bq hbq hbqf)|(refine MS.nil ?_;intro nq hnq hltq;have hlq:=hltq _ _ (Hp.get_eq _ _ _);clear hltq)|(refine LS.nilQ ?_;try with_reducible intro nq hnq));try dsimp only[Ex.then,Ex.inBlock,putD,Env.put])|(refine CS.exit ?_;try dsimp only[Ex.then,Ex.inBlock,↓reduceIte,Nat.reduceEqDiff];try simp only[↓reduceIte])|(refine resK.nil ?_;dsimp only[resV]))
    exact ⟨.arr 8 (bys (app p l v)), H, conc_arr (fun q hq => by simp only [Nat.zero_add]; rfl), by exact zD, rfl, rfl⟩

end Go.Proofs.Ytnkmpelakhhoiaa

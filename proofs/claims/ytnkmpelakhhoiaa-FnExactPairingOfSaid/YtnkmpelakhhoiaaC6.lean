/- Sums of vectors and multiples, on both sides. -/
import Derived.Test.YtnkmpelakhhoiaaC5
namespace Go.V

/-- f for the first i places, and then g. -/
def prt (f g : Nat → Int) (i : Nat) : Nat → Int := fun q => if q < i then f q else g q
theorem prt_at (f g : Nat → Int) (i : Nat) : prt f g i i = g i := by simp [prt]
theorem prt_put (f g : Nat → Int) (i q : Nat) : put1 (bys (prt f g i)) i (.int .u8 (f i)) q = bys (prt f g (i + 1)) q := by
  unfold put1 bys prt
  by_cases e : q = i
  · subst e; simp
  · rw [if_neg e]
    by_cases h : q < i
    · rw [if_pos h, if_pos (by omega)]
    · rw [if_neg h, if_neg (by omega)]
theorem prt_all (f g : Nat → Int) (n q : Nat) (h : q < n) : prt f g n q = f q := by simp [prt, h]
theorem prt_zero (f g : Nat → Int) : prt f g 0 = g := by funext q; simp [prt]

theorem splice_zero (c d : Nat → SV) (o : Nat) : splice c o 0 d = c := by
  funext q; unfold splice; rw [if_neg (by omega)]
theorem splice_put (c d : Nat → SV) (o i : Nat) : put1 (splice c o i d) (o + i) (d i) = splice c o (i + 1) d := by
  funext q
  unfold put1 splice
  by_cases e : q = o + i
  · subst e; rw [if_pos rfl, if_pos (by omega)]; congr 1; omega
  · rw [if_neg e]
    by_cases h : o ≤ q ∧ q < o + i
    · rw [if_pos h, if_pos (by omega)]
    · rw [if_neg h, if_neg (by omega)]
end Go.V
namespace Go.Proofs.Ytnkmpelakhhoiaa
open Go.V
set_option linter.unusedSimpArgs false
set_option linter.unusedVariables false
set_option maxHeartbeats 4000000

theorem spec_l01Add (p k : Int) (v w : Nat → Int) (H : Hp) (n : Nat) (hp : 2 ≤ p ∧ p ≤ 31) (hv : isBy 8 v) (hw : isBy 8 w) (hk : 0 ≤ k ∧ k ≤ 100000) :
    FnS Try.prog 55 [i64 p, .arr 8 (bys v), .arr 8 (bys w), i64 k] H n (fun r H' _ => r = .arr 8 (bys (pl p v k w)) ∧ H' = H) := by
  refine FnS.of_body Try.func55 tr55 (by simp) (fun hf => ?_)
  dsimp only [argEnv]
  unfold ir55
  (repeat first|refine zA ?_|(refine CS.tailL _ (List.Mem.head _) ?_;dsimp only[List.take,List.drop])|refine zC ?_|((first|refine zB ?_|(refine LS.nilO ?_;intro nq hnq hltq)|(refine MS.new ?_;intro bq hbq hbqf)|(refine MS.nil ?_;intro nq hnq hltq;have hlq:=hltq _ _ (Hp.get_eq _ _ _);clear hltq)|(refine LS.nilQ ?_;try with_reducible intro nq hnq));try dsimp only[Ex.then,Ex.inBlock,putD,Env.put])|(refine CS.exit ?_;try dsimp only[Ex.then,Ex.inBlock,↓reduceIte,Nat.reduceEqDiff];try simp only[↓reduceIte])|(refine resK.nil ?_;dsimp only[resV]))
  refine CS.iter 8 (fun i => [(9, i64 i), (8, ptr (n + 2) 0), (6, ptr (n + 1) 0), (5, ptr n 0), (0, i64 p), (3, i64 k)])
    (fun i => (n + 2, ⟨8, bys (fun _ => 0), 30⟩) :: (n + 1, ⟨8, bys w, 30⟩) :: (n, ⟨8, bys (prt (pl p v k w) v i), 30⟩) :: H) (fun _ => True) (by (repeat first | exact trivial | refine And.intro rfl ?_))
    (Drops.keepc rfl rfl (fun _ _ => rfl) (Drops.keepc rfl rfl (fun _ _ => rfl) (by rw [prt_zero]; exact Drops.refl _ _))) trivial ?_
  intro i n1 hi hn _
  (repeat first|refine zA ?_|(refine CS.tailL _ (List.Mem.head _) ?_;dsimp only[List.take,List.drop])|refine zC ?_|((first|refine zB ?_|(refine LS.nilO ?_;intro nq hnq hltq)|(refine MS.new ?_;intro bq hbq hbqf)|(refine MS.nil ?_;intro nq hnq hltq;have hlq:=hltq _ _ (Hp.get_eq _ _ _);clear hltq)|(refine LS.nilQ ?_;try with_reducible intro nq hnq));try dsimp only[Ex.then,Ex.inBlock,putD,Env.put])|(refine CS.exit ?_;try dsimp only[Ex.then,Ex.inBlock,↓reduceIte,Nat.reduceEqDiff];try simp only[↓reduceIte])|(refine resK.nil ?_;dsimp only[resV]))
  refine zI ?_ ?_<;>intro h1
  · have hpi := prt_at (pl p v k w) v i
    have hvi := hv i (by omega)
    have hwi := hw i (by omega)
    have hm := mulB hk.1 hk.2 hwi.1 hwi.2
    have hb := modB (v i + k * w i) hp.1
    have hpl : (prt (pl p v k w) v i i + k * w i) % p = pl p v k w i := by rw [hpi]; rfl
    have hplb : 0 ≤ pl p v k w i ∧ pl p v k w i < p := hb
    (repeat first|refine zA ?_|(refine CS.tailL _ (List.Mem.head _) ?_;dsimp only[List.take,List.drop])|refine zC ?_|((first|refine zB ?_|(refine LS.nilO ?_;intro nq hnq hltq)|(refine MS.new ?_;intro bq hbq hbqf)|(refine MS.nil ?_;intro nq hnq hltq;have hlq:=hltq _ _ (Hp.get_eq _ _ _);clear hltq)|(refine LS.nilQ ?_;try with_reducible intro nq hnq));try dsimp only[Ex.then,Ex.inBlock,putD,Env.put])|(refine CS.exit ?_;try dsimp only[Ex.then,Ex.inBlock,↓reduceIte,Nat.reduceEqDiff];try simp only[↓reduceIte])|(refine resK.nil ?_;dsimp only[resV]))
    refine LS.callQ (u8 (pl p v k w i)) rfl (fun n' hn' => (spec_l01Mod p (prt (pl p v k w) v i i + k * w i) _ _ hp.1 hp.2 (by omega)).mono (fun r H' _ _ h => by rw [hpl] at h; exact h)) ?_
    (repeat first|refine zA ?_|(refine CS.tailL _ (List.Mem.head _) ?_;dsimp only[List.take,List.drop])|refine zC ?_|((first|refine zB ?_|(refine LS.nilO ?_;intro nq hnq hltq)|(refine MS.new ?_;intro bq hbq hbqf)|(refine MS.nil ?_;intro nq hnq hltq;have hlq:=hltq _ _ (Hp.get_eq _ _ _);clear hltq)|(refine LS.nilQ ?_;try with_reducible intro nq hnq));try dsimp only[Ex.then,Ex.inBlock,putD,Env.put])|(refine CS.exit ?_;try dsimp only[Ex.then,Ex.inBlock,↓reduceIte,Nat.reduceEqDiff];try simp only[↓reduceIte])|(refine resK.nil ?_;dsimp only[resV]))
    exact ⟨by omega, by (repeat first | exact trivial | refine And.intro rfl ?_), Drops.keepc rfl rfl (fun _ _ => rfl) (Drops.keepc rfl rfl (fun _ _ => rfl) (Drops.keepc rfl rfl (fun q hq => prt_put _ _ _ _) (Drops.refl _ _))), trivial⟩
  · have : i = 8 := by omega
    subst this
    (repeat first|refine zA ?_|(refine CS.tailL _ (List.Mem.head _) ?_;dsimp only[List.take,List.drop])|refine zC ?_|((first|refine zB ?_|(refine LS.nilO ?_;intro nq hnq hltq)|(refine MS.new ?_;intro bq hbq hbqf)|(refine MS.nil ?_;intro nq hnq hltq;have hlq:=hltq _ _ (Hp.get_eq _ _ _);clear hltq)|(refine LS.nilQ ?_;try with_reducible intro nq hnq));try dsimp only[Ex.then,Ex.inBlock,putD,Env.put])|(refine CS.exit ?_;try dsimp only[Ex.then,Ex.inBlock,↓reduceIte,Nat.reduceEqDiff];try simp only[↓reduceIte])|(refine resK.nil ?_;dsimp only[resV]))
    exact ⟨.arr 8 (bys (pl p v k w)), H, conc_arr (fun q hq => congrArg (SV.int .u8) (by simp only [Nat.zero_add]; exact prt_all _ _ _ _ hq)), by exact zD, rfl, rfl⟩

theorem field_plus (p n' k : Int) (v w : Nat → Int) (b o : Nat) (K : Blk) (H : Hp) (n : Nat) (hp : 2 ≤ p ∧ p ≤ 31) (hb : H.get b = some K) (ho : o + 8 ≤ K.size)
    (hc : ∀ i, i < 8 → K.c (o + i) = .int .u8 (v i)) (hv : isRes p 8 v) (hw : isBy 8 w) (hk : 0 ≤ k ∧ k ≤ 100000) :
    FnS Try.prog 91 [fld p n', ptr b o, i64 k, .arr 8 (bys w)] H n (fun r H' _ => r = .tup [] ∧ H' = H.set b (splice K.c o 8 (bys (pl p v k w)))) := by
  refine FnS.of_body Try.func91 tr91 (by simp) (fun hf => ?_)
  dsimp only [argEnv]
  unfold ir91
  have hbn : b < n := by
    rcases Nat.lt_or_ge b n with h | h
    · exact h
    · rw [hf b h] at hb; cases hb
  (repeat first|refine zA ?_|(refine CS.tailL _ (List.Mem.head _) ?_;dsimp only[List.take,List.drop])|refine zC ?_|((first|refine zB ?_|(refine LS.nilO ?_;intro nq hnq hltq)|(refine MS.new ?_;intro bq hbq hbqf)|(refine MS.nil ?_;intro nq hnq hltq;have hlq:=hltq _ _ (Hp.get_eq _ _ _);clear hltq)|(refine LS.nilQ ?_;try with_reducible intro nq hnq));try dsimp only[Ex.then,Ex.inBlock,putD,Env.put])|(refine CS.exit ?_;try dsimp only[Ex.then,Ex.inBlock,↓reduceIte,Nat.reduceEqDiff];try simp only[↓reduceIte])|(refine resK.nil ?_;dsimp only[resV]))
  refine zI ?_ ?_<;>intro h1
  · (repeat first|refine zA ?_|(refine CS.tailL _ (List.Mem.head _) ?_;dsimp only[List.take,List.drop])|refine zC ?_|((first|refine zB ?_|(refine LS.nilO ?_;intro nq hnq hltq)|(refine MS.new ?_;intro bq hbq hbqf)|(refine MS.nil ?_;intro nq hnq hltq;have hlq:=hltq _ _ (Hp.get_eq _ _ _);clear hltq)|(refine LS.nilQ ?_;try with_reducible intro nq hnq));try dsimp only[Ex.then,Ex.inBlock,putD,Env.put])|(refine CS.exit ?_;try dsimp only[Ex.then,Ex.inBlock,↓reduceIte,Nat.reduceEqDiff];try simp only[↓reduceIte])|(refine resK.nil ?_;dsimp only[resV]))
    subst h1
    refine ⟨.tup [], H.set b (splice K.c o 8 (bys (pl p v 0 w))), rfl, ?_, rfl, rfl⟩
    have hd : Drops n H (H.set b (splice K.c o 8 (bys (pl p v 0 w)))) := by
      have := Drops.setc (m := n) (c := K.c) (c1 := splice K.c o 8 (bys (pl p v 0 w))) hb (fun q hq => by
        unfold splice
        by_cases e : o ≤ q ∧ q < o + 8
        · rw [if_pos e]
          have := hc (q - o) (by omega)
          rw [show o + (q - o) = q by omega] at this
          rw [this]
          exact congrArg (SV.int .u8) (pl_zero w hv (by omega)).symm
        · rw [if_neg e])
      rwa [Hp.set_self hb] at this
    exact Drops.drop (by omega) (Hp.get_set_none _ (hf _ (by omega))) (Drops.drop (by omega) (Hp.get_set_none _ (hf _ (by omega))) hd)
  · (repeat first|refine zA ?_|(refine CS.tailL _ (List.Mem.head _) ?_;dsimp only[List.take,List.drop])|refine zC ?_|((first|refine zB ?_|(refine LS.nilO ?_;intro nq hnq hltq)|(refine MS.new ?_;intro bq hbq hbqf)|(refine MS.nil ?_;intro nq hnq hltq;have hlq:=hltq _ _ (Hp.get_eq _ _ _);clear hltq)|(refine LS.nilQ ?_;try with_reducible intro nq hnq));try dsimp only[Ex.then,Ex.inBlock,putD,Env.put])|(refine CS.exit ?_;try dsimp only[Ex.then,Ex.inBlock,↓reduceIte,Nat.reduceEqDiff];try simp only[↓reduceIte])|(refine resK.nil ?_;dsimp only[resV]))
    refine CS.iter 8 (fun i => [(13, i64 i), (12, .arr 8 (bys w)), (1, ptr b o), (2, i64 k), (4, ptr n 0)])
      (fun i => (n + 1, ⟨8, bys w, 30⟩) :: (n, ⟨2, fldC p n', 75⟩) :: H.set b (splice K.c o i (bys (pl p v k w)))) (fun _ => True) (by (repeat first | exact trivial | refine And.intro rfl ?_))
      (by rw [splice_zero, Hp.set_self hb]; exact Drops.refl _ _) trivial ?_
    intro i n1 hi hn _
    (repeat first|refine zA ?_|(refine CS.tailL _ (List.Mem.head _) ?_;dsimp only[List.take,List.drop])|refine zC ?_|((first|refine zB ?_|(refine LS.nilO ?_;intro nq hnq hltq)|(refine MS.new ?_;intro bq hbq hbqf)|(refine MS.nil ?_;intro nq hnq hltq;have hlq:=hltq _ _ (Hp.get_eq _ _ _);clear hltq)|(refine LS.nilQ ?_;try with_reducible intro nq hnq));try dsimp only[Ex.then,Ex.inBlock,putD,Env.put])|(refine CS.exit ?_;try dsimp only[Ex.then,Ex.inBlock,↓reduceIte,Nat.reduceEqDiff];try simp only[↓reduceIte])|(refine resK.nil ?_;dsimp only[resV]))
    refine zI ?_ ?_<;>intro h2
    · have hvi := hv i (by omega)
      have hwi := hw i (by omega)
      have hm := mulB hk.1 hk.2 hwi.1 hwi.2
      have hplb : 0 ≤ pl p v k w i ∧ pl p v k w i < p := modB _ hp.1
      have hst : ∀ q, q < 8 → splice K.c o i (bys (pl p v k w)) (o + q) = .int .u8 (prt (pl p v k w) v i q) := fun q hq => by
        unfold splice prt
        by_cases e : q < i
        · rw [if_pos (by omega), if_pos e, Nat.add_sub_cancel_left]; rfl
        · rw [if_neg (by omega), if_neg e]; exact hc q hq
      have hpi := prt_at (pl p v k w) v i
      have hpl : (prt (pl p v k w) v i i + k * w i) % p = pl p v k w i := by rw [hpi]; rfl
      (repeat first|refine zA ?_|(refine CS.tailL _ (List.Mem.head _) ?_;dsimp only[List.take,List.drop])|refine zC ?_|((first|refine zB ?_|(refine LS.nilO ?_;intro nq hnq hltq)|(refine MS.new ?_;intro bq hbq hbqf)|(refine MS.nil ?_;intro nq hnq hltq;have hlq:=hltq _ _ (Hp.get_eq _ _ _);clear hltq)|(refine LS.nilQ ?_;try with_reducible intro nq hnq));try dsimp only[Ex.then,Ex.inBlock,putD,Env.put])|(refine CS.exit ?_;try dsimp only[Ex.then,Ex.inBlock,↓reduceIte,Nat.reduceEqDiff];try simp only[↓reduceIte])|(refine resK.nil ?_;dsimp only[resV]))
      refine LS.callQ (u8 (pl p v k w i)) rfl (fun q hq => FnS.args ?_ ((field_mod p n' (prt (pl p v k w) v i i + k * w i) _ _ hp.1 hp.2 (by omega)).mono (fun r H' _ _ h => by rw [hpl] at h; exact h))) ?_
      · exact concs_cons (conc_arr (fldC_of rfl rfl)) rfl
      (repeat first|refine zA ?_|(refine CS.tailL _ (List.Mem.head _) ?_;dsimp only[List.take,List.drop])|refine zC ?_|((first|refine zB ?_|(refine LS.nilO ?_;intro nq hnq hltq)|(refine MS.new ?_;intro bq hbq hbqf)|(refine MS.nil ?_;intro nq hnq hltq;have hlq:=hltq _ _ (Hp.get_eq _ _ _);clear hltq)|(refine LS.nilQ ?_;try with_reducible intro nq hnq));try dsimp only[Ex.then,Ex.inBlock,putD,Env.put])|(refine CS.exit ?_;try dsimp only[Ex.then,Ex.inBlock,↓reduceIte,Nat.reduceEqDiff];try simp only[↓reduceIte])|(refine resK.nil ?_;dsimp only[resV]))
      refine ⟨by omega, by (repeat first | exact trivial | refine And.intro rfl ?_), Drops.keepc rfl rfl (fun _ _ => rfl) (Drops.keepc rfl rfl (fun _ _ => rfl) (Drops.setc hb (fun q hq => congrFun (splice_put K.c (bys (pl p v k w)) o i) q))), trivial⟩
    · have : i = 8 := by omega
      subst this
      (repeat first|refine zA ?_|(refine CS.tailL _ (List.Mem.head _) ?_;dsimp only[List.take,List.drop])|refine zC ?_|((first|refine zB ?_|(refine LS.nilO ?_;intro nq hnq hltq)|(refine MS.new ?_;intro bq hbq hbqf)|(refine MS.nil ?_;intro nq hnq hltq;have hlq:=hltq _ _ (Hp.get_eq _ _ _);clear hltq)|(refine LS.nilQ ?_;try with_reducible intro nq hnq));try dsimp only[Ex.then,Ex.inBlock,putD,Env.put])|(refine CS.exit ?_;try dsimp only[Ex.then,Ex.inBlock,↓reduceIte,Nat.reduceEqDiff];try simp only[↓reduceIte])|(refine resK.nil ?_;dsimp only[resV]))
      try simp only [↓reduceIte]
      (repeat first|refine zA ?_|(refine CS.tailL _ (List.Mem.head _) ?_;dsimp only[List.take,List.drop])|refine zC ?_|((first|refine zB ?_|(refine LS.nilO ?_;intro nq hnq hltq)|(refine MS.new ?_;intro bq hbq hbqf)|(refine MS.nil ?_;intro nq hnq hltq;have hlq:=hltq _ _ (Hp.get_eq _ _ _);clear hltq)|(refine LS.nilQ ?_;try with_reducible intro nq hnq));try dsimp only[Ex.then,Ex.inBlock,putD,Env.put])|(refine CS.exit ?_;try dsimp only[Ex.then,Ex.inBlock,↓reduceIte,Nat.reduceEqDiff];try simp only[↓reduceIte])|(refine resK.nil ?_;dsimp only[resV]))
      exact ⟨.tup [], H.set b (splice K.c o 8 (bys (pl p v k w))), rfl, Drops.drop (by omega) (Hp.get_set_none _ (hf _ (by omega))) (Drops.drop (by omega) (Hp.get_set_none _ (hf _ (by omega))) (Drops.refl _ _)), rfl, rfl⟩

end Go.Proofs.Ytnkmpelakhhoiaa

import Derived.Test.YteopponjfkeagaaPolFG
import Derived.Test.YteopponjfkeagaaPPolx3
namespace Go.Proofs.Yteopponjfkeagaa.Lat
open Go.RowKit Go.Maps Go.Proofs.YteopponjfkeagaaW.PrintWords Go.Proofs.YteopponjfkeagaaW.PrintLast Go.Proofs.YteopponjfkeagaaW.PrintMore Go.Proofs.Yteopponjfkeagaa.PPol
set_option linter.unusedVariables false
set_option linter.unusedSimpArgs false

/-- one that counts: let down by the rule, in the window that has the tick -/
def hit (r win now : Int) (d : S61) : Bool := decide (d.f1 = r) && decide (d.f0.tdiv win = now.tdiv win)
def spentF (ds : List S61) (r win now : Int) : Int := ((ds.countP (hit r win now) : Nat) : Int)
theorem tdiv_w {a win : Int} (h0 : 0 ≤ a) (h1 : a ≤ 1000) (hw : 1 ≤ win) : wrap64 (a.tdiv win) = a.tdiv win := by
  have h2 := Int.tdiv_nonneg h0 (by omega : 0 ≤ win)
  have h3 : a.tdiv win ≤ a := by
    rw [Int.tdiv_eq_ediv_of_nonneg h0]
    exact Int.ediv_le_self win h0
  unfold wrap64
  omega
theorem rd61_at (ds : List S61) (i : Nat) (h : i < ds.length) : rd_T61 ds i = ds[i] := by
  unfold rd_T61
  rw [Int.toNat_natCast, List.getD_eq_getElem?_getD, List.getElem?_eq_getElem h]
  rfl
theorem Spent_l0 (ds : List S61) (r win now : Int) (hw : 1 ≤ win) (hn : 0 ≤ now ∧ now ≤ 1000) (hd : ∀ d ∈ ds, 0 ≤ d.f0 ∧ d.f0 ≤ 1000) (hl : ds.length ≤ 1000) : ∀ (e i k : Nat) (x : Int), i + e = ds.length → e + 1 ≤ k → 0 ≤ x ∧ x ≤ 1000000 - e → weighlockref05_Spent.l0 k r win now x ds ds.length i = some (x + (((ds.drop i).countP (hit r win now) : Nat) : Int))
  | 0, i, k, x, he, hk, hx => by
    obtain ⟨k, rfl⟩ : ∃ m, k = m + 1 := ⟨k - 1, by omega⟩
    unfold weighlockref05_Spent.l0
    rw [if_neg (by omega), List.drop_eq_nil_of_le (by omega)]
    simp
  | e + 1, i, k, x, he, hk, hx => by
    obtain ⟨k, rfl⟩ : ∃ m, k = m + 1 := ⟨k - 1, by omega⟩
    have hi : i < ds.length := by omega
    have ih := fun y hy => Spent_l0 ds r win now hw hn hd hl e (i + 1) k y (by omega) (by omega) hy
    have hdi := hd ds[i] (List.getElem_mem hi)
    have hwx : wrap64 (x + 1) = x + 1 := by unfold wrap64; omega
    unfold weighlockref05_Spent.l0
    rw [if_pos (by omega), if_pos (by omega), if_pos (by omega), w64s i (by omega), rd61_at ds i hi, List.drop_eq_getElem_cons hi, List.countP_cons, tdiv_w hdi.1 hdi.2 hw, tdiv_w hn.1 hn.2 hw, hwx, ih x ⟨hx.1, by omega⟩, ih (x + 1) ⟨by omega, by omega⟩]
    generalize ds[i] = d at *
    unfold hit
    by_cases h1 : d.f1 = r
    · rw [if_pos h1, if_neg (by omega)]
      by_cases h2 : d.f0.tdiv win = now.tdiv win
      · rw [if_pos h2, decide_eq_true h1, decide_eq_true h2]
        simp
        omega
      · rw [if_neg h2, decide_eq_false h2]
        simp
    · rw [if_neg h1, decide_eq_false h1]
      simp
theorem Spent_f (ds : List S61) (r win now : Int) (hw : 1 ≤ win) (hn : 0 ≤ now ∧ now ≤ 1000) (hd : ∀ d ∈ ds, 0 ≤ d.f0 ∧ d.f0 ≤ 1000) (hl : ds.length ≤ 1000) : weighlockref05_Spent.f 1100 ds r win now = some (spentF ds r win now) := by
  have h := Spent_l0 ds r win now hw hn hd hl ds.length 0 1100 0 (by omega) (by omega) ⟨by omega, by omega⟩
  unfold weighlockref05_Spent.f spentF
  rw [show ((0 : Nat) : Int) = 0 from rfl] at h
  rw [h, List.drop_zero, Int.zero_add]
theorem next_modJ {i win : Int} (h0 : 0 ≤ i) (hw : 1 ≤ win) : nextAt win (i % win) = (i + 1) % win ∧ (i % win + 1 = win ↔ (i + 1) % win = 0) := by
  have h1 := Int.emod_nonneg i (by omega : win ≠ 0)
  have h2 := Int.emod_lt_of_pos i (by omega : 0 < win)
  have e : (i + 1) % win = (i % win + 1) % win := by rw [Int.add_emod, Int.add_emod (i % win)]; simp
  have h3 : (i + 1) % win = nextAt win (i % win) := by
    rw [e]
    unfold nextAt
    split
    · rename_i q
      rw [q, Int.emod_self]
    · rename_i q
      exact Int.emod_eq_of_lt (by omega) (by omega)
  refine ⟨h3.symm, ?_⟩
  rw [h3]
  unfold nextAt
  generalize i % win = r at *
  split
  · rename_i q
    exact ⟨fun _ => rfl, fun _ => q⟩
  · rename_i q
    exact ⟨fun x => absurd x q, fun x => by omega⟩
/-- what a ledger has counted is what was done -/
structure Inv (l : List S58) (sp : List Int) (ds : List S61) (win now : Int) : Prop where
  w : 1 ≤ win ∧ win ≤ 1048576
  t : 0 ≤ now
  d : ∀ d ∈ ds, 0 ≤ d.f0 ∧ d.f0 ≤ now
  s : ∀ i : Nat, i < l.length → rd sp i = spentF ds i win now
  b : ∀ i : Nat, i < l.length → rd sp i ≤ (rd_T58 l i).f2
theorem spentF_nonneg (ds : List S61) (r win now : Int) : 0 ≤ spentF ds r win now := Int.natCast_nonneg _
theorem rd_zeros (n i : Nat) : rd (zeros n) i = 0 := by
  unfold rd zeros
  rw [Int.toNat_natCast, List.getD_eq_getElem?_getD]
  by_cases h : i < n
  · simp [h]
  · simp [h]
theorem Inv.start {l : List S58} {win : Int} (hw : 1 ≤ win ∧ win ≤ 1048576) (hb : ∀ i : Nat, i < l.length → 1 ≤ (rd_T58 l i).f2) : Inv l (zeros l.length) [] win 0 :=
  ⟨hw, Int.le_refl 0, fun d h => absurd h List.not_mem_nil, fun i _ => by rw [rd_zeros]; rfl, fun i hi => by rw [rd_zeros]; have := hb i hi; omega⟩
theorem Inv.tick {l : List S58} {sp : List Int} {ds : List S61} {win now : Int} (h : Inv l sp ds win now) (hb : ∀ i : Nat, i < l.length → 1 ≤ (rd_T58 l i).f2) : Inv l (nextSp win (now % win) sp) ds win (now + 1) := by
  have hw := h.w
  have ht := h.t
  have nm := next_modJ ht hw.1
  refine ⟨hw, by omega, fun d hd => ⟨(h.d d hd).1, by have := (h.d d hd).2; omega⟩, fun i hi => ?_, fun i hi => ?_⟩
  · unfold nextSp
    by_cases hz : now % win + 1 = win
    · rw [if_pos hz, rd_zeros]
      unfold spentF
      rw [show ds.countP (hit i win (now + 1)) = 0 from List.countP_eq_zero.2 fun d hd => by
        have h1 := h.d d hd
        unfold hit
        have : ¬ d.f0.tdiv win = (now + 1).tdiv win := by
          rw [Int.tdiv_eq_ediv_of_nonneg h1.1, Int.tdiv_eq_ediv_of_nonneg (by omega)]
          have e1 := Int.emod_add_mul_ediv (now + 1) win
          have hlt : d.f0 / win < (now + 1) / win := by
            refine Int.ediv_lt_of_lt_mul (by omega) ?_
            rw [nm.2.1 hz] at e1
            rw [Int.mul_comm]
            omega
          omega
        rw [decide_eq_false this]
        simp]
      rfl
    · rw [if_neg hz, h.s i hi]
      unfold spentF
      have : (now + 1).tdiv win = now.tdiv win := by
        rw [Int.tdiv_eq_ediv_of_nonneg ht, Int.tdiv_eq_ediv_of_nonneg (by omega)]
        have e1 := Int.emod_add_mul_ediv now win
        have g1 := Int.emod_nonneg now (by omega : win ≠ 0)
        have g2 := Int.emod_lt_of_pos now (by omega : 0 < win)
        have e2 : now + 1 = (now % win + 1) + win * (now / win) := by omega
        rw [e2, Int.add_mul_ediv_left _ _ (by omega), Int.ediv_eq_zero_of_lt (by omega) (by omega), Int.zero_add]
      unfold hit
      rw [this]
  · unfold nextSp
    by_cases hz : now % win + 1 = win
    · rw [if_pos hz, rd_zeros]
      have := hb i hi
      omega
    · rw [if_neg hz]
      exact h.b i hi
theorem rd_set (sp : List Int) (i j : Nat) (v : Int) (hj : j < sp.length) : rd (sp.set j v) i = if i = j then v else rd sp i := by
  unfold rd
  rw [Int.toNat_natCast, List.getD_eq_getElem?_getD, List.getD_eq_getElem?_getD, List.getElem?_set]
  by_cases h : i = j
  · subst h
    rw [if_pos rfl, if_pos rfl, if_pos hj]
    rfl
  · rw [if_neg (fun e => h e.symm), if_neg h]
theorem Inv.spend {l : List S58} {sp : List Int} {ds : List S61} {win now : Int} (h : Inv l sp ds win now) {j : Nat} (hj : j < sp.length) (hl : 0 < leftF l sp j) : Inv l (sp.set j (rd sp j + 1)) (ds ++ [⟨now, (j : Int)⟩]) win now := by
  refine ⟨h.w, h.t, fun d hd => ?_, fun i hi => ?_, fun i hi => ?_⟩
  · rcases List.mem_append.1 hd with hd | hd
    · exact h.d d hd
    · rw [List.mem_singleton.1 hd]
      exact ⟨h.t, Int.le_refl _⟩
  · rw [rd_set sp i j _ hj]
    unfold spentF
    rw [List.countP_append]
    have hs := h.s i hi
    unfold spentF at hs
    by_cases hij : i = j
    · subst hij
      rw [if_pos rfl, hs]
      simp [hit]
    · rw [if_neg hij, hs]
      have : ¬ (j : Int) = (i : Int) := by omega
      simp [hit, this]
  · rw [rd_set sp i j _ hj]
    by_cases hij : i = j
    · subst hij
      rw [if_pos rfl]
      unfold leftF at hl
      omega
    · rw [if_neg hij]
      exact h.b i hi
end Go.Proofs.Yteopponjfkeagaa.Lat

import Derived.Test.YteopponjfkeagaaMd
import Derived.Test.YteopponjfkeagaaPPolx2
namespace Go.Proofs.Yteopponjfkeagaa.Lat
open Go.RowKit Go.Maps Go.Proofs.YteopponjfkeagaaW.PrintWords Go.Proofs.YteopponjfkeagaaW.PrintLast Go.Proofs.YteopponjfkeagaaW.PrintMore Go.Proofs.Yteopponjfkeagaa.PPol
set_option linter.unusedVariables false
set_option linter.unusedSimpArgs false

/-- a rule's number, or -1 -/
def numF (l : List S58) (a b : Int) : Int := (findJ l a b).getD (-1)
theorem Find05_l0 (l : List S58) (a b : Int) (hl : l.length < 1000000) : ∀ (d i k : Nat), i + d = l.length → d + 1 ≤ k → weighlockref05_Find.l0 k a b l l.length i = some ((((l.drop i).findIdx? fun r => decide (r.f0 = a) && decide (r.f1 = b)).map fun j : Nat => ((i + j : Nat) : Int)).getD (-1))
  | 0, i, k, hd, hk => by
    obtain ⟨k, rfl⟩ : ∃ m, k = m + 1 := ⟨k - 1, by omega⟩
    unfold weighlockref05_Find.l0
    rw [if_neg (by omega), List.drop_eq_nil_of_le (by omega)]
    rfl
  | d + 1, i, k, hd, hk => by
    obtain ⟨k, rfl⟩ : ∃ m, k = m + 1 := ⟨k - 1, by omega⟩
    have ih := Find05_l0 l a b hl d (i + 1) k (by omega) (by omega)
    have hi : i < l.length := by omega
    unfold weighlockref05_Find.l0
    rw [if_pos (by omega), if_pos (by omega), if_pos (by omega), w64s i (by omega), drop_step hi, List.findIdx?_cons, ih]
    generalize rd_T58 l i = r
    by_cases h1 : r.f0 = a
    · by_cases h2 : r.f1 = b
      · rw [if_pos h1, if_pos h2, decide_eq_true h1, decide_eq_true h2]
        simp
      · rw [if_pos h1, if_neg h2, decide_eq_false h2, Bool.and_false]
        cases (l.drop (i + 1)).findIdx? fun r => decide (r.f0 = a) && decide (r.f1 = b) with
        | none => rfl
        | some j =>
          simp
          omega
    · rw [if_neg h1, decide_eq_false h1, Bool.false_and]
      cases (l.drop (i + 1)).findIdx? fun r => decide (r.f0 = a) && decide (r.f1 = b) with
      | none => rfl
      | some j =>
        simp
        omega
theorem Find05_f (l : List S58) (a b : Int) (hl : l.length < 1000000) (k : Nat) (hk : l.length + 1 ≤ k) : weighlockref05_Find.f k l a b = some (numF l a b) := by
  have h := Find05_l0 l a b hl l.length 0 k (by omega) hk
  unfold weighlockref05_Find.f numF findJ
  rw [show ((0 : Nat) : Int) = 0 from rfl] at h
  rw [h, List.drop_zero]
  simp
theorem numF_neg (l : List S58) (a b : Int) : numF l a b ≥ 0 ↔ (findJ l a b).isSome = true := by
  unfold numF findJ
  cases l.findIdx? fun r => decide (r.f0 = a) && decide (r.f1 = b) with
  | none => simp
  | some j => simp
section
variable {f : List (List Bool)} {n : Nat} (hs : sq f) (hn : f.length = n)
include hs hn
theorem Wrong05_l0 (l : List S58) (hl : l.length ≤ 60) : ∀ (d i k : Nat), i + d = l.length → 3 * d + 100 ≤ k → weighlockref05_Wrong.l0 k f l l l.length i = some (polW n (flR f n) (l.take i) (l.drop i))
  | 0, i, k, hd, hk => by
    obtain ⟨k, rfl⟩ : ∃ m, k = m + 1 := ⟨k - 1, by omega⟩
    unfold weighlockref05_Wrong.l0
    rw [if_neg (by omega), List.drop_eq_nil_of_le (by omega)]
    rfl
  | d + 1, i, k, hd, hk => by
    obtain ⟨k, rfl⟩ : ∃ m, k = m + 3 := ⟨k - 3, by omega⟩
    have ih := Wrong05_l0 l hl d (i + 1) k (by omega) (by omega)
    have hi : i < l.length := by omega
    have h6 := hs.2.1
    rw [hn] at h6
    have hj2 : ∀ b : Bool, weighlockref05_Wrong.j2 (k + 1) f l i l l.length i b (rd_T58 l i).f0 (rd_T58 l i).f1 (rd_T58 l i).f2 = if b = true then some 4 else if (findJ (l.take i) (rd_T58 l i).f0 (rd_T58 l i).f1).isSome = true then some 8 else weighlockref05_Wrong.l0 k f l l l.length ((i + 1 : Nat) : Int) := by
      intro b
      unfold weighlockref05_Wrong.j2
      rw [if_pos (by omega : (0 : Int) ≤ (i : Int)), if_pos (by omega : (i : Int) ≤ (l.length : Int)), Int.toNat_natCast, Find05_f _ _ _ (by rw [List.length_take]; omega) k (by rw [List.length_take]; omega), Option.bind_some, w64s i (by omega)]
      simp only [numF_neg]
    have hj1 : ∀ b : Bool, (b = false → 0 ≤ (rd_T58 l i).f0 ∧ (rd_T58 l i).f0 < n ∧ 0 ≤ (rd_T58 l i).f1 ∧ (rd_T58 l i).f1 < n) → weighlockref05_Wrong.j1 (k + 2) f l i l l.length i b (rd_T58 l i).f0 (rd_T58 l i).f1 (rd_T58 l i).f2 = if b = true then some 1 else if (rd_T58 l i).f0 ≠ (rd_T58 l i).f1 ∧ flowsF n (flR f n) (rd_T58 l i).f1 (rd_T58 l i).f0 = true then (if (findJ (l.take i) (rd_T58 l i).f0 (rd_T58 l i).f1).isSome = true then some 8 else weighlockref05_Wrong.l0 k f l l l.length ((i + 1 : Nat) : Int)) else some 4 := by
      intro b hb
      unfold weighlockref05_Wrong.j1
      cases b
      · obtain ⟨p1, p2, p3, p4⟩ := hb rfl
        simp only [hj2, Bool.false_eq_true, if_false, if_true]
        generalize rd_T58 l i = r at *
        by_cases h1 : r.f0 = r.f1
        · rw [if_pos h1, if_neg (fun q => q.1 h1)]
        · obtain ⟨x, hx⟩ := Int.eq_ofNat_of_zero_le p1
          obtain ⟨y, hy⟩ := Int.eq_ofNat_of_zero_le p3
          rw [hx, hy] at h1 ⊢
          rw [hx] at p2
          rw [hy] at p4
          have hxl : x < f.length := by rw [hn]; omega
          have hyl : y < f.length := by rw [hn]; omega
          have eL : Go.Proofs.Yteopponjfkeagaa.PPol.rd_L1 f (y : Int) = Go.Proofs.Yteopponjfkeagaa.PLattice.rd_L1 f (y : Int) := rfl
          rw [eL, if_neg h1, if_pos (by omega), if_pos (by omega), if_pos (by omega), row_len hs y hyl, if_pos (by omega), at_TT hs y x hyl hxl]
          unfold TT
          rw [hn]
          cases flowsF n (flR f n) (y : Int) (x : Int)
          · simp
          · simp [h1]
      · rw [if_pos rfl, if_pos rfl]
    unfold weighlockref05_Wrong.l0
    rw [if_pos (by omega), if_pos (by omega), if_pos (by omega), hj1 true (fun e => absurd e (by decide)), if_pos rfl, drop_step hi]
    unfold polW
    rw [take_step hi] at ih
    rw [ih] at hj1
    generalize rd_T58 l i = r at *
    have out : ¬ (inN n r.f0 = true ∧ inN n r.f1 = true ∧ 1 ≤ r.f2 ∧ r.f2 ≤ 1048576) → rightF n (flR f n) r = 1 := fun h => if_neg h
    rw [hn]
    by_cases q1 : r.f0 < 0
    · rw [if_pos q1, out (fun q => by have := (inN_iff.1 q.1).1; omega), if_pos (by decide)]
    rw [if_neg q1]
    by_cases q2 : r.f0 ≥ (n : Int)
    · rw [if_pos q2, out (fun q => by have := (inN_iff.1 q.1).2; omega), if_pos (by decide)]
    rw [if_neg q2]
    by_cases q3 : r.f1 < 0
    · rw [if_pos q3, out (fun q => by have := (inN_iff.1 q.2.1).1; omega), if_pos (by decide)]
    rw [if_neg q3]
    by_cases q4 : r.f1 ≥ (n : Int)
    · rw [if_pos q4, out (fun q => by have := (inN_iff.1 q.2.1).2; omega), if_pos (by decide)]
    rw [if_neg q4]
    by_cases q5 : r.f2 < 1
    · rw [if_pos q5, out (fun q => by have := q.2.2.1; omega), if_pos (by decide)]
    rw [if_neg q5, hj1 _ (fun _ => ⟨by omega, by omega, by omega, by omega⟩)]
    by_cases q6 : r.f2 > 1048576
    · rw [if_pos (decide_eq_true q6), out (fun q => by have := q.2.2.2; omega), if_pos (by decide)]
    rw [if_neg (by rw [decide_eq_false q6]; decide)]
    have hr : rightF n (flR f n) r = if r.f0 ≠ r.f1 ∧ flowsF n (flR f n) r.f1 r.f0 = true then 0 else 4 := if_pos ⟨inN_iff.2 ⟨by omega, by omega⟩, inN_iff.2 ⟨by omega, by omega⟩, by omega, by omega⟩
    rw [hr]
    by_cases q7 : r.f0 ≠ r.f1 ∧ flowsF n (flR f n) r.f1 r.f0 = true
    · rw [if_pos q7, if_pos q7, if_neg (show ¬ ((0 : Int) ≠ 0) by decide)]
      by_cases q8 : (findJ (l.take i) r.f0 r.f1).isSome = true
      · rw [if_pos q8, if_pos q8]
      · rw [if_neg q8, if_neg q8]
    · rw [if_neg q7, if_neg q7, if_pos (show (4 : Int) ≠ 0 by decide)]
theorem Wrong05_f (l : List S58) (hl : l.length ≤ 60) : weighlockref05_Wrong.f 400 f l = some (polNew n (flR f n) l) := by
  have h := Wrong05_l0 hs hn l hl l.length 0 400 (by omega) (by omega)
  rw [show ((0 : Nat) : Int) = 0 from rfl] at h
  unfold weighlockref05_Wrong.f polNew
  by_cases h16 : l.length > 16
  · rw [if_pos (by omega), if_pos h16]
  · rw [if_neg (by omega), if_neg h16]
    exact h
end
end Go.Proofs.Yteopponjfkeagaa.Lat
namespace Go.Proofs.Yteopponjfkeagaa.Lat
open Go.RowKit Go.Maps Go.Proofs.YteopponjfkeagaaW.PrintWords Go.Proofs.YteopponjfkeagaaW.PrintLast Go.Proofs.YteopponjfkeagaaW.PrintMore Go.Proofs.Yteopponjfkeagaa.PPol
set_option linter.unusedVariables false
set_option linter.unusedSimpArgs false

section
variable {f : List (List Bool)} {n c : Nat} {A : Option Addr} {w : World}
theorem plarge_j (f : List (List Bool)) (n : Nat) (hn : f.length = n) (hmax : n < 9223372036854775807) : ∀ (d i k : Nat), i + d = n → d + 1 ≤ k → ∃ r, weighlocklaw05_large.l0 k f n i = some r
  | 0, i, k, hd, hk => by
    obtain ⟨k, rfl⟩ : ∃ m, k = m + 1 := ⟨k - 1, by omega⟩
    unfold weighlocklaw05_large.l0
    rw [if_neg (by omega)]
    exact ⟨_, rfl⟩
  | d + 1, i, k, hd, hk => by
    obtain ⟨k, rfl⟩ : ∃ m, k = m + 1 := ⟨k - 1, by omega⟩
    obtain ⟨r, ih⟩ := plarge_j f n hn hmax d (i + 1) k (by omega) (by omega)
    unfold weighlocklaw05_large.l0
    rw [if_pos (by omega), if_pos (by omega), if_pos (by omega), w64S i (by omega)]
    split
    · exact ⟨_, rfl⟩
    · exact ⟨r, ih⟩
theorem plarge_f (f : List (List Bool)) (l : List S58) (hmax : f.length ≤ 9223372036854775807) : ∃ k r, weighlocklaw05_large.f k f l = some r ∧ (r = false → f.length ≤ 40 ∧ l.length ≤ 60) := by
  unfold weighlocklaw05_large.f
  by_cases h : (f.length : Int) > 20
  · exact ⟨1, true, by rw [if_pos h]; rfl, fun e => absurd e (by decide)⟩
  · by_cases h2 : (l.length : Int) > 60
    · exact ⟨1, true, by rw [if_neg h]; exact if_pos (decide_eq_true h2), fun e => absurd e (by decide)⟩
    · obtain ⟨r, hr⟩ := plarge_j f f.length rfl (by omega) f.length 0 (f.length + 1) (by omega) (by omega)
      rw [show ((0 : Nat) : Int) = 0 from rfl] at hr
      refine ⟨f.length + 2, r, ?_, fun _ => ⟨by omega, by omega⟩⟩
      rw [if_neg h]
      exact (if_neg (by rw [decide_eq_false h2]; decide)).trans hr
theorem prlarge (hn : f.length = n) (hC : Kd.C (Kd.slice 4 Kd.bool) w A n f) (hc : n ≤ c) {A1 : Option Addr} {c1 m : Nat} {l : List S58} (hm : l.length = m) (hC1 : Kd.C k58 w A1 m l) (hc1 : m ≤ c1) : ∃ r : Bool, (r = false → n ≤ 40 ∧ m ≤ 60) ∧ ∀ W, Below w.heap.size w W → Calls Try.prog 40 #[.slice A n c, .slice A1 m c1] W fun e w' => e = .returned (.bool r) ∧ Below W.heap.size W w' := by
  subst hn hm
  obtain ⟨k, r, hr, h40⟩ := plarge_f f l (Kd.C_max hC)
  exact ⟨r, h40, fun W hW => (weighlocklaw05_large.calls k A c f A1 c1 l r W (Kd.C_below hC hW) hc (Kd.C_below hC1 hW) hc1 hr).mono fun e w' h => ⟨h.1, h.2.below⟩⟩
theorem prw04 (hn : f.length = n) (hC : Kd.C (Kd.slice 4 Kd.bool) w A n f) (hc : n ≤ c) (h40 : n ≤ 40) : ∃ r : Int, WrongIs f r ∧ ∀ W, Below w.heap.size w W → Calls Try.prog 18 #[.slice A n c] W fun e w' => e = .returned (.int .i64 r) ∧ Below W.heap.size W w' := by
  subst hn
  obtain ⟨r, hr, hw⟩ := Wrong_f f h40
  exact ⟨r, hw, fun W hW => Go.Proofs.Yteopponjfkeagaa.PLattice.weighlockref04_Wrong.calls 400 A c f r W (Kd.C_below hC hW) hc hr⟩
theorem prwrong (hs : sq f) (hn : f.length = n) (hC : Kd.C (Kd.slice 4 Kd.bool) w A n f) (hc : n ≤ c) {A1 : Option Addr} {c1 m : Nat} {l : List S58} (hm : l.length = m) (hC1 : Kd.C k58 w A1 m l) (hc1 : m ≤ c1) (h60 : m ≤ 60) :
    Calls Try.prog 41 #[.slice A n c, .slice A1 m c1] w fun e w' => e = .returned (.int .i64 (polNew n (flR f n) l)) ∧ Below w.heap.size w w' := by
  have h := Wrong05_f hs hn l (by omega)
  subst hn hm
  exact weighlockref05_Wrong.calls 400 A c f A1 c1 l _ w hC hc hC1 hc1 h
theorem prfind {A1 : Option Addr} {c1 m : Nat} {l : List S58} (hm : l.length = m) (hC1 : Kd.C k58 w A1 m l) (hc1 : m ≤ c1) (h60 : m ≤ 60) (a b : Int) :
    Calls Try.prog 54 #[.slice A1 m c1, .int .i64 a, .int .i64 b] w fun e w' => e = .returned (.int .i64 (numF l a b)) ∧ Below w.heap.size w w' := by
  subst hm
  exact weighlockref05_Find.calls 100 A1 c1 l a b _ w hC1 hc1 (Find05_f l a b (by omega) 100 (by omega))
end
section
variable {w : World} {pg : Nat} {l : List S58}
abbrev zeroV : Value := .agg #[.int .i64 0, .int .i64 0, .int .i64 0]
theorem Rule_out (h : IsPol w pg l) {a : Int} (ha : inN l.length a = false) : Calls Try.prog 57 #[P pg, .int .i64 a] w fun e w' => e = .returned (.tuple #[zeroV, .int .i64 6]) ∧ Below w.heap.size w w' := by
  have HB := Aside0.mk (below_alloc (Below.refl w.heap.size w) (.cells #[.int .i64 0, .int .i64 0, .int .i64 0] 58))
  have HR := Aside0.mk (blk_new w (.cells #[.int .i64 0, .int .i64 0, .int .i64 0] 58))
  have hp := Aside0.mk (Pis_calls (h.later HB.out) a)
  rw [ha] at hp
  clear h ha
  go_enter Try.func57, Try.ntmps57
  go_wp2_with fail
  generalize w.alloc (.cells #[.int .i64 0, .int .i64 0, .int .i64 0] 58) = W at *
  refine hp.out.mono ?_
  rintro e w1 ⟨rfl, hb⟩
  replace HR := Aside0.mk (blk_below HR.out hb)
  replace HB := Aside0.mk (below_step HB.out hb)
  clear hb hp
  have c0 : w1.cell? ⟨w.heap.size, 0, none⟩ = some (.int .i64 0) := (blk_cell HR.out 0).trans rfl
  have c1 : w1.cell? ⟨w.heap.size, 1, none⟩ = some (.int .i64 0) := (blk_cell HR.out 1).trans rfl
  have c2 : w1.cell? ⟨w.heap.size, 2, none⟩ = some (.int .i64 0) := (blk_cell HR.out 2).trans rfl
  have f0 : w1.frozen? ⟨w.heap.size, 0, none⟩ = false := blk_frozen HR.out 0
  have f1 : w1.frozen? ⟨w.heap.size, 1, none⟩ = false := blk_frozen HR.out 1
  have f2 : w1.frozen? ⟨w.heap.size, 2, none⟩ = false := blk_frozen HR.out 2
  go_wp2_with fail
  refine bodyPost_ret (v := .tuple #[zeroV, .int .i64 6]) (by simp [results, Try.results57, go_sem, c0, c1, c2]) rfl ⟨rfl, ?_⟩
  first
    | exact HB.out
    | exact below_set (below_set (below_set HB.out (Nat.le_refl _)) (Nat.le_refl _)) (Nat.le_refl _)
set_option maxHeartbeats 4000000 in
theorem Rule_in (h : IsPol w pg l) {i : Nat} (hi : i < l.length) : Calls Try.prog 57 #[P pg, .int .i64 (i : Int)] w fun e w' => e = .returned (.tuple #[ruleV (rd_T58 l i), .int .i64 0]) ∧ Below w.heap.size w w' := by
  have HB := Aside0.mk (below_alloc (Below.refl w.heap.size w) (.cells #[.int .i64 0, .int .i64 0, .int .i64 0] 58))
  have HR := Aside0.mk (blk_new w (.cells #[.int .i64 0, .int .i64 0, .int .i64 0] 58))
  have hp := Aside0.mk (Pis_calls (h.later HB.out) (i : Int))
  rw [show inN l.length (i : Int) = true from inN_iff.2 ⟨by omega, by omega⟩] at hp
  obtain ⟨pm, base2, u, g1, g2, g3⟩ := h
  obtain ⟨A, c, rfl, _, hA⟩ := Kd.R_reads g2
  obtain ⟨ad, rfl, q0, q1, q2⟩ := at_T58 hA i (by omega) (by omega)
  rw [Int.toNat_natCast] at q0 q1 q2
  have p0 : w.cell? ⟨pg, 0, none⟩ = some (.slice (some ad) l.length c) := (blk_cell g1 0).trans rfl
  obtain ⟨n, hn⟩ : ∃ n, l.length = n := ⟨_, rfl⟩
  rw [hn] at p0 hi
  clear g1 g2 g3 hA hn
  generalize rd_T58 l i = r at *
  obtain ⟨x, y, z⟩ := r
  simp only at q0 q1 q2
  have hin : (i : Int) < (n : Int) := by omega
  have KEEP : Aside0 (∀ W, Below w.heap.size w W → W.cell? ⟨pg, 0, none⟩ = some (.slice (some ad) n c) ∧ W.cell? (ad.add (i * 3)) = some (.int .i64 x) ∧ W.cell? ⟨(ad.add (i * 3)).block, (ad.add (i * 3)).off + 1, none⟩ = some (.int .i64 y) ∧ W.cell? ⟨(ad.add (i * 3)).block, (ad.add (i * 3)).off + 2, none⟩ = some (.int .i64 z)) :=
    ⟨fun W hW => ⟨pw_cell_below hW p0, pw_cell_below hW q0, pw_cell_below hW q1, pw_cell_below hW q2⟩⟩
  clear p0 q0 q1 q2
  go_enter Try.func57, Try.ntmps57
  go_wp2_with fail
  generalize w.alloc (.cells #[.int .i64 0, .int .i64 0, .int .i64 0] 58) = W at *
  refine hp.out.mono ?_
  rintro e w1 ⟨rfl, hb⟩
  replace HR := Aside0.mk (blk_below HR.out hb)
  replace HB := Aside0.mk (below_step HB.out hb)
  clear hb hp
  obtain ⟨k0, k1, k2, k3⟩ := KEEP.out _ HB.out
  have c0 : w1.cell? ⟨w.heap.size, 0, none⟩ = some (.int .i64 0) := (blk_cell HR.out 0).trans rfl
  have c1 : w1.cell? ⟨w.heap.size, 1, none⟩ = some (.int .i64 0) := (blk_cell HR.out 1).trans rfl
  have c2 : w1.cell? ⟨w.heap.size, 2, none⟩ = some (.int .i64 0) := (blk_cell HR.out 2).trans rfl
  have f0 : w1.frozen? ⟨w.heap.size, 0, none⟩ = false := blk_frozen HR.out 0
  have f1 : w1.frozen? ⟨w.heap.size, 1, none⟩ = false := blk_frozen HR.out 1
  have f2 : w1.frozen? ⟨w.heap.size, 2, none⟩ = false := blk_frozen HR.out 2
  go_wp2_with fail
  have HR3 := blk_put (cs' := #[.int .i64 x, .int .i64 y, .int .i64 z]) (blk_put (cs' := #[.int .i64 x, .int .i64 y, .int .i64 0]) (blk_put (cs' := #[.int .i64 x, .int .i64 0, .int .i64 0]) HR.out 0 (.int .i64 x) rfl) 1 (.int .i64 y) rfl) 2 (.int .i64 z) rfl
  have HB3 := Aside0.mk (below_set (j := 2) (v := .int .i64 z) (below_set (j := 1) (v := .int .i64 y) (below_set (j := 0) (v := .int .i64 x) HB.out (Nat.le_refl _)) (Nat.le_refl _)) (Nat.le_refl _))
  generalize (((w1.setCell ⟨w.heap.size, 0, none⟩ (.int .i64 x)).setCell ⟨w.heap.size, 1, none⟩ (.int .i64 y)).setCell ⟨w.heap.size, 2, none⟩ (.int .i64 z)) = W3 at *
  have d0 : W3.cell? ⟨w.heap.size, 0, none⟩ = some (.int .i64 x) := (blk_cell HR3 0).trans rfl
  have d1 : W3.cell? ⟨w.heap.size, 1, none⟩ = some (.int .i64 y) := (blk_cell HR3 1).trans rfl
  have d2 : W3.cell? ⟨w.heap.size, 2, none⟩ = some (.int .i64 z) := (blk_cell HR3 2).trans rfl
  exact bodyPost_ret (v := .tuple #[.agg #[.int .i64 x, .int .i64 y, .int .i64 z], .int .i64 0]) (by simp [results, Try.results57, go_sem, d0, d1, d2]) rfl ⟨rfl, HB3.out⟩
end
/-- what stays as the memory grows -/
def Stays (X : World → Prop) : Prop := ∀ W W', Below W.heap.size W W' → X W → X W'
theorem okX {X : World → Prop} (hX : Stays X) {w W : World} (hb : Below w.heap.size w W) (hx : X W) {k : Nat} {args : Array Value} {v : Value} (hc : Calls Try.prog k args W fun e w' => e = .returned v ∧ Below W.heap.size W w') :
    Calls Try.prog k args W fun e w' => e = .returned v ∧ Aside0 (X w') ∧ Aside0 (Below w.heap.size w w') :=
  hc.mono fun e w' h => ⟨h.1, ⟨hX _ _ h.2 hx⟩, ⟨below_step hb h.2⟩⟩
def XQ (qb : Nat) (q0 q1 : Int) (pg : Nat) (l : List S58) (W : World) : Prop := W.heap[qb]? = some (.cells #[.int .i64 q0, .int .i64 q1] 66 (0, 0)) ∧ IsPol W pg l
theorem XQ.st (qb : Nat) (q0 q1 : Int) (pg : Nat) (l : List S58) : Stays (XQ qb q0 q1 pg l) := fun W W' hb h => ⟨blk_below h.1 hb, h.2.later hb⟩
theorem XQ.c0 {qb : Nat} {q0 q1 : Int} {pg : Nat} {l : List S58} {W : World} (h : XQ qb q0 q1 pg l W) : W.cell? ⟨qb, 0, none⟩ = some (.int .i64 q0) := (blk_cell h.1 0).trans rfl
theorem XQ.c1 {qb : Nat} {q0 q1 : Int} {pg : Nat} {l : List S58} {W : World} (h : XQ qb q0 q1 pg l W) : W.cell? ⟨qb, 1, none⟩ = some (.int .i64 q1) := (blk_cell h.1 1).trans rfl
theorem found_cases (l : List S58) (a b : Int) : (∃ k : Int, 0 ≤ k ∧ foundF l a b = (k, 0) ∧ numF l a b = k) ∨ (foundF l a b = (0, 6) ∧ numF l a b = -1) := by
  unfold foundF numF
  cases h : findJ l a b with
  | some k =>
    refine .inl ⟨k, ?_, rfl, rfl⟩
    have h2 := (numF_neg l a b).2 (by rw [h]; rfl)
    unfold numF at h2
    rw [h] at h2
    exact h2
  | none => exact .inr ⟨rfl, rfl⟩
set_option maxHeartbeats 8000000 in
set_option maxRecDepth 8000 in
theorem pnews_core {A A1 : Option Addr} {c n m c1 : Nat} (f : List (List Bool)) (l : List S58) (hn : Aside0 (f.length = n)) (hm : Aside0 (l.length = m)) (q0 q1 : Int) (hq0 : okI q0) (hq1 : okI q1) (w : World) (hC : Kd.C (Kd.slice 4 Kd.bool) w A n f) (hc : n ≤ c) (hC1 : Kd.C k58 w A1 m l) (hc1 : m ≤ c1) :
    Ok w w.heap.size w 13 #[.slice A n c, .slice A1 m c1, .agg #[.int .i64 q0, .int .i64 q1]] (.bool true) := by
  have HC := Aside0.mk hC
  have HC1 := Aside0.mk hC1
  replace hq0 := Aside0.mk hq0
  replace hq1 := Aside0.mk hq1
  obtain ⟨r, h40, HL⟩ := prlarge hn.out hC hc hm.out hC1 hc1
  replace HL := Aside0.mk HL
  replace h40 := Aside0.mk h40
  clear hC hC1
  have HB := Aside0.mk (below_alloc (Below.refl w.heap.size w) (.cells #[.int .i64 q0, .int .i64 q1] 66))
  have HQ := Aside0.mk (blk_new w (.cells #[.int .i64 q0, .int .i64 q1] 66))
  have hund : ∀ b : Bool, some undef = some (Value.bool b) → False := fun b e => by cases e
  go_enter Try.func13, Try.ntmps13
  go_wp2_with fail
  generalize w.alloc (.cells #[.int .i64 q0, .int .i64 q1] 66) = W0 at *
  have HX0 : Aside0 (Below W0.heap.size W0 W0) := ⟨Below.refl _ _⟩
  refine (HL.out _ HB.out).mono ?_
  rintro e w1 ⟨rfl, hb⟩
  replace HQ := Aside0.mk (blk_below HQ.out hb)
  replace HB := Aside0.mk (below_step HB.out hb)
  clear hb HL HX0
  cases r
  case true =>
    go_wp2_with fail
    refine (ptwo_then HB.out).mono ?_
    rintro e w2 ⟨rfl, hb⟩
    go_wp2_with fail
    go_ret
    exact ⟨rfl, hb⟩
  obtain ⟨h40, h60⟩ := h40.out rfl
  obtain ⟨r, hw, HW⟩ := prw04 hn.out HC.out hc h40
  replace HW := Aside0.mk HW
  replace hw := Aside0.mk hw
  go_wp2_with fail
  refine (HW.out _ HB.out).mono ?_
  rintro e w2 ⟨rfl, hb⟩
  replace HQ := Aside0.mk (blk_below HQ.out hb)
  replace HB := Aside0.mk (below_step HB.out hb)
  clear hb HW
  by_cases hr : r = 0
  case neg =>
    have hr2 : (r == 0) = false := by simpa using hr
    go_wp2_with fail
    refine (ptwo_then HB.out).mono ?_
    rintro e w3 ⟨rfl, hb⟩
    go_wp2_with fail
    go_ret
    exact ⟨rfl, hb⟩
  subst hr
  have HG := Aside0.mk hw.out.good
  have h6 : n ≤ 6 := by have := HG.out.s.2.1; rw [hn.out] at this; exact this
  clear hw
  go_wp2_with fail
  refine (New_calls' f hn (Kd.C_below HC.out HB.out)).mono ?_
  rintro e w3 ⟨hnew, hb⟩
  obtain ⟨g, rfl, hlat⟩ := HG.out.new hnew
  rw [hn.out] at hlat
  have HLt := Aside0.mk hlat
  replace HQ := Aside0.mk (blk_below HQ.out hb)
  replace HB := Aside0.mk (below_step HB.out hb)
  clear hb hlat hnew
  go_wp2_with fail
  refine (PolNew_calls l hm h6 (lat_sized HLt.out) (lat_flowing HLt.out h6) (Kd.C_below HC1.out HB.out)).mono ?_
  have hwr := fun W (hW : Below w.heap.size w W) => prwrong HG.out.s hn.out (Kd.C_below HC.out hW) hc hm.out (Kd.C_below HC1.out hW) hc1 h60
  clear HLt
  rintro e w4 ⟨hnew, hb⟩
  replace HQ := Aside0.mk (blk_below HQ.out hb)
  replace HB := Aside0.mk (below_step HB.out hb)
  clear hb
  rcases hnew with ⟨h0, rfl⟩ | ⟨h0, pg, rfl, hpol⟩
  · obtain ⟨cd, hcd⟩ : ∃ cd, polNew n (flR f n) l = cd := ⟨_, rfl⟩
    rw [hcd] at h0 hwr ⊢
    clear hcd
    replace hwr := Aside0.mk hwr
    have hcd2 : (cd == 0) = false := by simpa using h0
    go_wp2_with fail
    refine (hwr.out _ HB.out).mono ?_
    rintro e w5 ⟨rfl, hb⟩
    replace HB := Aside0.mk (below_step HB.out hb)
    clear hb hwr HQ
    go_wp2_with fail
    refine (ptwo_then HB.out).mono ?_
    rintro e w6 ⟨rfl, hb⟩
    go_wp2_with fail
    go_ret
    exact ⟨rfl, hb⟩
  rw [h0] at hwr
  replace hwr := Aside0.mk hwr
  have HX : Aside0 (XQ w.heap.size q0 q1 pg l w4) := ⟨⟨HQ.out, hpol⟩⟩
  clear hpol HQ h0
  go_wp2_with fail
  refine (okX (XQ.st _ _ _ _ _) HB.out HX.out (hwr.out _ HB.out)).mono ?_
  clear HB HX hwr
  rintro e w5 ⟨rfl, HX, HB⟩
  have c0 := HX.out.c0
  have c1' := HX.out.c1
  go_wp2_with fail
  have hfind := fun W (hW : IsPol W pg l) => Find_calls hW hq0.out hq1.out
  have hrf := fun W (hW : Below w.heap.size w W) => prfind hm.out (Kd.C_below HC1.out hW) hc1 h60 q0 q1
  have hk5 : ∃ (k x y : Int), foundF l q0 q1 = (x, y) ∧ numF l q0 q1 = k ∧ ((0 ≤ k ∧ x = k ∧ y = 0) ∨ (k = -1 ∧ x = 0 ∧ y = 6)) := by
    rcases found_cases l q0 q1 with ⟨k, hk, e1, e2⟩ | ⟨e1, e2⟩
    · exact ⟨k, k, 0, e1, e2, .inl ⟨hk, rfl, rfl⟩⟩
    · exact ⟨-1, 0, 6, e1, e2, .inr ⟨rfl, rfl, rfl⟩⟩
  obtain ⟨k, x, y, e1, e2, hk⟩ := hk5
  rw [e1] at hfind
  rw [e2] at hrf
  clear e1 e2
  replace hfind := Aside0.mk hfind
  replace hrf := Aside0.mk hrf
  refine (okX (XQ.st _ _ _ _ _) HB.out HX.out (hfind.out _ HX.out.2)).mono ?_
  clear HB HX hfind c0 c1'
  rintro e w6 ⟨rfl, HX, HB⟩
  have c0 := HX.out.c0
  have c1' := HX.out.c1
  go_wp2_with fail
  refine (okX (XQ.st _ _ _ _ _) HB.out HX.out (hrf.out _ HB.out)).mono ?_
  clear HB HX hrf c0 c1'
  rintro e w7 ⟨rfl, HX, HB⟩
  rcases hk with ⟨hk, rfl, rfl⟩ | ⟨rfl, rfl, rfl⟩
  all_goals
    go_wp2_with fail
    go_loopw [103] (fun x wr => ∃ i : Nat, x = .int .i64 (i : Int) ∧ i ≤ m ∧ Aside0 (XQ w.heap.size q0 q1 pg l wr) ∧ Aside0 (Below w.heap.size w wr)) (fun x _ => m - (intOf x).toNat)
    case atStart => exact ⟨0, rfl, Nat.zero_le _, HX, HB⟩
    case round =>
      clear HX HB
      obtain ⟨i, rfl, hi, HX, HB⟩ := hrel
      by_cases hx : (i : Int) < m
      · obtain ⟨ad, eA, p0, p1, p2⟩ := at_T58 HC1.out i (by omega) hx
        subst eA
        replace p0 := (HB.out.cell (World.block_lt_of_cell? w _ p0)).trans p0
        replace p1 := (HB.out.cell (World.block_lt_of_cell? w _ p1)).trans p1
        replace p2 := (HB.out.cell (World.block_lt_of_cell? w _ p2)).trans p2
        rw [Int.toNat_natCast] at p0 p1 p2
        have hrule := fun W (hW : IsPol W pg l) => Rule_in (i := i) hW (by rw [hm.out]; omega)
        generalize rd_T58 l i = r at *
        obtain ⟨r0, r1, r2⟩ := r
        simp only at p0 p1 p2
        replace hrule := Aside0.mk hrule
        go_wp2_with fail
        have hal := below_alloc (Below.refl wr.heap.size wr) (.cells #[.int .i64 r0, .int .i64 r1, .int .i64 r2] 58)
        have HR := Aside0.mk (blk_new wr (.cells #[.int .i64 r0, .int .i64 r1, .int .i64 r2] 58))
        replace HX := Aside0.mk (XQ.st _ _ _ _ _ _ _ hal HX.out)
        replace HB := Aside0.mk (below_step HB.out hal)
        clear hal p0 p1 p2
        generalize wr.alloc (.cells #[.int .i64 r0, .int .i64 r1, .int .i64 r2] 58) = W5 at *
        generalize wr.heap.size = rb at *
        refine (hrule.out _ HX.out.2).mono ?_
        rintro e w8 ⟨rfl, hb⟩
        replace HR := Aside0.mk (blk_below HR.out hb)
        replace HX := Aside0.mk (XQ.st _ _ _ _ _ _ _ hb HX.out)
        replace HB := Aside0.mk (below_step HB.out hb)
        have d0 : w8.cell? ⟨rb, 0, none⟩ = some (.int .i64 r0) := (blk_cell HR.out 0).trans rfl
        have d1 : w8.cell? ⟨rb, 1, none⟩ = some (.int .i64 r1) := (blk_cell HR.out 1).trans rfl
        have d2 : w8.cell? ⟨rb, 2, none⟩ = some (.int .i64 r2) := (blk_cell HR.out 2).trans rfl
        have hrb : rb < w8.heap.size := blk_lt HR.out
        have hrb2 : rb ≠ w8.heap.size := by omega
        have hal := below_alloc (Below.refl w8.heap.size w8) (.cells #[.int .i64 r0, .int .i64 r1, .int .i64 r2] 58)
        replace HX := Aside0.mk (XQ.st _ _ _ _ _ _ _ hal HX.out)
        replace HB := Aside0.mk (below_step HB.out hal)
        clear hal hb hrule HR
        go_wp2_with fail
        exact ⟨⟨i + 1, rfl, by omega, HX, HB⟩, by simp [intOf]; omega⟩
      · obtain rfl : m = i := by omega
        have c0 := HX.out.c0
        have three : (q0 < 0 ∨ (0 ≤ q0 ∧ (m : Int) ≤ q0)) ∨ ∃ j : Nat, q0 = (j : Int) ∧ j < m := by
          by_cases h0 : q0 < 0
          · exact .inl (.inl h0)
          · by_cases h1 : (m : Int) ≤ q0
            · exact .inl (.inr ⟨by omega, h1⟩)
            · exact .inr ⟨q0.toNat, by omega, by omega⟩
        rcases three with hout | ⟨j, rfl, hj⟩
        · have hrule := fun W (hW : IsPol W pg l) => Rule_out hW (a := q0) (by
            rw [Bool.eq_false_iff]
            intro q
            rw [hm.out] at q
            have := inN_iff.1 q
            omega)
          replace hrule := Aside0.mk hrule
          go_wp2_with fail
          refine (hrule.out _ HX.out.2).mono ?_
          rintro e w8 ⟨rfl, hb⟩
          have hal := below_alloc (Below.refl w8.heap.size w8) (.cells #[.int .i64 0, .int .i64 0, .int .i64 0] 58)
          replace HX := Aside0.mk (XQ.st _ _ _ _ _ _ _ hal (XQ.st _ _ _ _ _ _ _ hb HX.out))
          replace HB := Aside0.mk (below_step (below_step HB.out hb) hal)
          clear hal hb hrule c0
          have c0 := HX.out.c0
          have hs := Psize_calls HX.out.2
          rw [hm.out] at hs
          replace hs := Aside0.mk hs
          rcases hout with ho | ⟨ho, ho2⟩
          all_goals
            go_wp2_with fail
            refine hs.out.mono ?_
            rintro e w9 ⟨rfl, hb⟩
            have HB2 := Aside0.mk (below_step HB.out hb)
            clear hb
            go_wp2_with fail
            refine (ptwo_then HB2.out).mono ?_
            rintro e w10 ⟨rfl, hb⟩
            go_wp2_with fail
            go_ret
            exact ⟨rfl, hb⟩
        · have hrule := fun W (hW : IsPol W pg l) => Rule_in (i := j) hW (by rw [hm.out]; omega)
          generalize rd_T58 l j = r at *
          obtain ⟨r0, r1, r2⟩ := r
          replace hrule := Aside0.mk hrule
          have hjm : (j : Int) < (m : Int) := by omega
          go_wp2_with fail
          refine (hrule.out _ HX.out.2).mono ?_
          rintro e w8 ⟨rfl, hb⟩
          have hal := below_alloc (Below.refl w8.heap.size w8) (.cells #[.int .i64 r0, .int .i64 r1, .int .i64 r2] 58)
          replace HX := Aside0.mk (XQ.st _ _ _ _ _ _ _ hal (XQ.st _ _ _ _ _ _ _ hb HX.out))
          replace HB := Aside0.mk (below_step (below_step HB.out hb) hal)
          clear hal hb hrule c0
          have c0 := HX.out.c0
          have hs := Psize_calls HX.out.2
          rw [hm.out] at hs
          replace hs := Aside0.mk hs
          go_wp2_with fail
          refine hs.out.mono ?_
          rintro e w9 ⟨rfl, hb⟩
          have HB2 := Aside0.mk (below_step HB.out hb)
          clear hb
          go_wp2_with fail
          refine (ptwo_then HB2.out).mono ?_
          rintro e w10 ⟨rfl, hb⟩
          go_wp2_with fail
          go_ret
          exact ⟨rfl, hb⟩
end Go.Proofs.Yteopponjfkeagaa.Lat

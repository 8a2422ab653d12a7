import Derived.Test.YteopponjfkeagaaPolA
namespace Go.Proofs.Yteopponjfkeagaa.Lat
open Go.RowKit Go.Maps Go.Proofs.YteopponjfkeagaaW.PrintWords Go.Proofs.YteopponjfkeagaaW.PrintLast Go.Proofs.YteopponjfkeagaaW.PrintMore Go.Proofs.Yteopponjfkeagaa.PPol
set_option linter.unusedVariables false
set_option linter.unusedSimpArgs false

section
variable {w : World} {pg : Nat} {l : List S58}
theorem Psize_calls (h : IsPol w pg l) : Calls Try.prog 58 #[P pg] w fun e w' => e = .returned (.int .i64 l.length) ∧ Below w.heap.size w w' := by
  obtain ⟨pm, base, u, h1, h2, h3⟩ := h
  obtain ⟨A, c, rfl, _, _⟩ := Kd.R_reads h2
  have c0 : w.cell? ⟨pg, 0, none⟩ = some (.slice A l.length c) := (blk_cell h1 0).trans rfl
  clear h1 h2 h3
  go_enter Try.func58, Try.ntmps58
  go_wp2_with fail
  go_ret
  exact ⟨rfl, Below.refl _ _⟩
theorem Psize_nil : Calls Try.prog 58 #[.pointer none] w fun e w' => e = .returned (.int .i64 0) ∧ Below w.heap.size w w' := by
  go_enter Try.func58, Try.ntmps58
  go_wp2_with fail
  go_ret
  exact ⟨rfl, Below.refl _ _⟩
theorem Pis_calls (h : IsPol w pg l) (a : Int) : Calls Try.prog 73 #[P pg, .int .i64 a] w fun e w' => e = .returned (.bool (inN l.length a)) ∧ Below w.heap.size w w' := by
  have hS := Aside0.mk (Psize_calls h)
  clear h
  obtain ⟨n, hn⟩ : ∃ n, l.length = n := ⟨_, rfl⟩
  rw [hn] at hS ⊢
  clear hn
  by_cases ha : 0 ≤ a
  · go_enter Try.func73, Try.ntmps73
    go_wp2_with fail
    refine hS.out.mono ?_
    rintro e w1 ⟨rfl, hb⟩
    go_wp2_with fail
    go_ret
    exact ⟨by simp [inN, ha, ← Int.not_le], hb⟩
  · go_enter Try.func73, Try.ntmps73
    go_wp2_with fail
    go_ret
    exact ⟨by unfold inN; rw [decide_eq_false (by omega)]; rfl, Below.refl _ _⟩
end
/-- a ledger of a policy: its window, where in it it is, how many were let down by each rule -/
def Led (B : Nat) (W : World) (gl pg : Nat) (l : List S58) (win at_ : Int) (sp : List Int) : Prop :=
  IsPol W pg l ∧ sp.length = l.length ∧ B ≤ gl ∧ ∃ sg : Nat, B ≤ sg ∧ W.heap[gl]? = some (.cells #[P pg, .int .i64 win, .int .i64 at_, .slice (some ⟨sg, 0, none⟩) sp.length sp.length] 96 (0, 0)) ∧ W.heap[sg]? = some (.cells (sp.map (Value.int .i64)).toArray 3 (0, 0))
theorem Led.later {B : Nat} {W W' : World} {gl pg : Nat} {l : List S58} {win at_ : Int} {sp : List Int} (h : Led B W gl pg l win at_ sp) (hb : Below W.heap.size W W') : Led B W' gl pg l win at_ sp := by
  obtain ⟨h1, h2, h3, sg, h4, h5, h6⟩ := h
  exact ⟨h1.later hb, h2, h3, sg, h4, blk_below h5 hb, blk_below h6 hb⟩
theorem IsPol.far {W : World} {pg g : Nat} {l : List S58} (h : IsPol W pg l) {cs : Array Value} {t : TypeId} (hg : W.heap[g]? = some (.cells cs t (0, 0))) (h58 : t ≠ 58) (h90 : t ≠ 90) (j : Nat) (u : Value) : IsPol (W.setCell ⟨g, j, none⟩ u) pg l := by
  obtain ⟨pm, base, v, h1, h2, h3⟩ := h
  have n1 : pg ≠ g := blk_ne h1 hg (fun e => h90 e.symm)
  have n2 : g ≠ pm := h3.not_cells hg
  exact ⟨pm, base, v, blk_far h1 (p := ⟨g, j, none⟩) n1 u, Kd.R_set h2 hg (fun q hq => by
    have hE : k58.E = [] := rfl
    rw [hE, List.mem_singleton] at hq
    rw [hq]
    exact fun e => h58 e.symm) j u, h3.at_block (Below.heap_setCell W ⟨g, j, none⟩ u pm (fun e => n2 e.symm))⟩
section
variable {B : Nat} {w : World} {gl pg : Nat} {l : List S58} {win at_ : Int} {sp : List Int}
theorem Left_nil (a : Int) : Calls Try.prog 49 #[.pointer none, .int .i64 a] w fun e w' => e = .returned (.int .i64 0) ∧ Below w.heap.size w w' := by
  go_enter Try.func49, Try.ntmps49
  go_wp2_with fail
  go_ret
  exact ⟨rfl, Below.refl _ _⟩
theorem Left_out (h : Led B w gl pg l win at_ sp) {a : Int} (ha : inN l.length a = false) : Calls Try.prog 49 #[P gl, .int .i64 a] w fun e w' => e = .returned (.int .i64 0) ∧ Below w.heap.size w w' := by
  obtain ⟨h1, h2, h3, sg, h4, h5, h6⟩ := h
  have hi := Aside0.mk (Pis_calls h1 a)
  rw [ha] at hi
  have c0 : w.cell? ⟨gl, 0, none⟩ = some (P pg) := (blk_cell h5 0).trans rfl
  clear h1 h2 h3 h4 h5 h6
  go_enter Try.func49, Try.ntmps49
  go_wp2_with fail
  refine hi.out.mono ?_
  rintro e w1 ⟨rfl, hb⟩
  go_wp2_with fail
  go_ret
  exact ⟨rfl, hb⟩
theorem ints_at {W : World} {sg : Nat} (h : W.heap[sg]? = some (.cells (sp.map (Value.int .i64)).toArray 3 (0, 0))) {i : Nat} (hi : i < sp.length) : W.cell? ((⟨sg, 0, none⟩ : Addr).add i) = some (.int .i64 (rd sp i)) := by
  have e : (⟨sg, 0, none⟩ : Addr).add i = ⟨sg, i, none⟩ := by simp [Addr.add] <;> omega
  rw [e, blk_cell h i]
  simp [rd_at sp i hi, hi]
/-- how many more -/
abbrev leftF (l : List S58) (sp : List Int) (i : Nat) : Int := (rd_T58 l i).f2 - rd sp i
set_option maxHeartbeats 4000000 in
theorem Left_in (h : Led B w gl pg l win at_ sp) {i : Nat} (hi : i < l.length) (hz : 0 ≤ leftF l sp i ∧ leftF l sp i ≤ 9223372036854775807) : Calls Try.prog 49 #[P gl, .int .i64 (i : Int)] w fun e w' => e = .returned (.int .i64 (leftF l sp i)) ∧ Below w.heap.size w w' := by
  obtain ⟨h1, h2, h3, sg, h4, h5, h6⟩ := h
  have hc := Aside0.mk (Pis_calls h1 (i : Int))
  rw [show inN l.length (i : Int) = true from inN_iff.2 ⟨by omega, by omega⟩] at hc
  obtain ⟨pm, base2, u, g1, g2, g3⟩ := h1
  obtain ⟨A, c, rfl, _, hA⟩ := Kd.R_reads g2
  obtain ⟨ad, rfl, _, _, q2⟩ := at_T58 hA i (by omega) (by omega)
  rw [Int.toNat_natCast] at q2
  have s2 := ints_at h6 (i := i) (by omega)
  have c0 : w.cell? ⟨gl, 0, none⟩ = some (P pg) := (blk_cell h5 0).trans rfl
  have c3 : w.cell? ⟨gl, 3, none⟩ = some (.slice (some ⟨sg, 0, none⟩) sp.length sp.length) := (blk_cell h5 3).trans rfl
  have p0 : w.cell? ⟨pg, 0, none⟩ = some (.slice (some ad) l.length c) := (blk_cell g1 0).trans rfl
  have hlen := h2
  clear h2 h3 h4 h5 h6 g1 g2 g3 hA
  unfold leftF at hz ⊢
  generalize (⟨sg, 0, none⟩ : Addr) = ad2 at *
  obtain ⟨x, hx⟩ : ∃ x, (rd_T58 l i).f2 = x := ⟨_, rfl⟩
  obtain ⟨y, hy⟩ : ∃ y, rd sp i = y := ⟨_, rfl⟩
  rw [hx] at q2 hz ⊢
  rw [hy] at s2 hz ⊢
  clear hx hy
  have hw1 : IntKind.i64.wrap (x - y) = x - y := IntWalk.i64_in _ (by omega)
  obtain ⟨n, hn⟩ : ∃ n, l.length = n := ⟨_, rfl⟩
  rw [hlen] at c3
  rw [hn] at c3 p0 hi
  clear hlen hn
  have hin : (i : Int) < (n : Int) := by omega
  have KEEP : Aside0 (∀ W, Below w.heap.size w W → W.cell? ⟨gl, 0, none⟩ = some (P pg) ∧ W.cell? ⟨gl, 3, none⟩ = some (.slice (some ad2) n n) ∧ W.cell? ⟨pg, 0, none⟩ = some (.slice (some ad) n c) ∧ W.cell? (ad2.add i) = some (.int .i64 y) ∧ W.cell? ⟨(ad.add (i * 3)).block, (ad.add (i * 3)).off + 2, none⟩ = some (.int .i64 x)) :=
    ⟨fun W hW => ⟨pw_cell_below hW c0, pw_cell_below hW c3, pw_cell_below hW p0, pw_cell_below hW s2, pw_cell_below hW q2⟩⟩
  go_enter Try.func49, Try.ntmps49
  go_wp2_with fail
  refine hc.out.mono ?_
  rintro e w1 ⟨rfl, hb⟩
  obtain ⟨k0, k1, k2, k3, k4⟩ := KEEP.out _ hb
  clear c0 c3 p0 s2 q2 hc
  go_upto_region 3 with fail
  go_region
  go_wp2_with fail
  go_ret
  exact ⟨rfl, below_drew hb⟩
theorem Spend_nil (a : Int) : Calls Try.prog 46 #[.pointer none, .int .i64 a] w fun e w' => e = .returned (.int .i64 7) ∧ Below w.heap.size w w' := by
  go_enter Try.func46, Try.ntmps46
  go_wp2_with fail
  go_ret
  exact ⟨rfl, Below.refl _ _⟩
theorem Spend_out (h : Led B w gl pg l win at_ sp) {a : Int} (ha : inN l.length a = false) : Calls Try.prog 46 #[P gl, .int .i64 a] w fun e w' => e = .returned (.int .i64 6) ∧ Below w.heap.size w w' := by
  obtain ⟨h1, h2, h3, sg, h4, h5, h6⟩ := h
  have hi := Aside0.mk (Pis_calls h1 a)
  rw [ha] at hi
  have c0 : w.cell? ⟨gl, 0, none⟩ = some (P pg) := (blk_cell h5 0).trans rfl
  clear h1 h2 h3 h4 h5 h6
  go_enter Try.func46, Try.ntmps46
  go_wp2_with fail
  refine hi.out.mono ?_
  rintro e w1 ⟨rfl, hb⟩
  go_wp2_with fail
  go_ret
  exact ⟨rfl, hb⟩
theorem Spend_zero (h : Led B w gl pg l win at_ sp) {i : Nat} (hi : i < l.length) (hz : leftF l sp i = 0) : Calls Try.prog 46 #[P gl, .int .i64 (i : Int)] w fun e w' => e = .returned (.int .i64 37) ∧ Below w.heap.size w w' := by
  have hp := Aside0.mk (Pis_calls h.1 (i : Int))
  rw [show inN l.length (i : Int) = true from inN_iff.2 ⟨by omega, by omega⟩] at hp
  have hl : Aside0 (∀ W, Below w.heap.size w W → Calls Try.prog 49 #[P gl, .int .i64 (i : Int)] W fun e w' => e = .returned (.int .i64 0) ∧ Below W.heap.size W w') := ⟨fun W hW => by
    have := Left_in (h.later hW) hi (by omega)
    rw [hz] at this
    exact this⟩
  have c0 : w.cell? ⟨gl, 0, none⟩ = some (P pg) := by
    obtain ⟨h1, h2, h3, sg, h4, h5, h6⟩ := h
    exact (blk_cell h5 0).trans rfl
  clear h hi hz
  go_enter Try.func46, Try.ntmps46
  go_wp2_with fail
  refine hp.out.mono ?_
  rintro e w1 ⟨rfl, hb⟩
  go_wp2_with fail
  refine (hl.out _ hb).mono ?_
  rintro e w2 ⟨rfl, hb2⟩
  go_wp2_with fail
  go_ret
  exact ⟨rfl, below_step hb hb2⟩
theorem Led.spent (h : Led B w gl pg l win at_ sp) {i : Nat} (hi : i < l.length) (y : Int) : ∃ sg, w.heap[gl]? = some (.cells #[P pg, .int .i64 win, .int .i64 at_, .slice (some ⟨sg, 0, none⟩) sp.length sp.length] 96 (0, 0)) ∧ w.heap[sg]? = some (.cells (sp.map (Value.int .i64)).toArray 3 (0, 0)) ∧ B ≤ sg ∧
    ∀ W, Below w.heap.size w W → Led B (W.setCell ⟨sg, i, none⟩ (.int .i64 y)) gl pg l win at_ (sp.set i y) := by
  obtain ⟨h1, h2, h3, sg, h4, h5, h6⟩ := h
  refine ⟨sg, h5, h6, h4, fun W hW => ?_⟩
  have k6 := blk_below h6 hW
  have k5 := blk_below h5 hW
  refine ⟨(h1.later hW).far k6 (by decide) (by decide) i _, by rw [List.length_set]; exact h2, h3, sg, h4, ?_, ?_⟩
  · rw [List.length_set]
    exact blk_far k5 (p := ⟨sg, i, none⟩) (blk_ne k5 k6 (by decide)) _
  · refine blk_put k6 i _ ?_
    rw [List.setIfInBounds_toArray, List.map_set]
set_option maxHeartbeats 4000000 in
theorem Spend_in (h : Led B w gl pg l win at_ sp) {i : Nat} (hi : i < l.length) (hz : 0 < leftF l sp i ∧ leftF l sp i ≤ 9223372036854775807) (hy : -1000000000 ≤ rd sp i ∧ rd sp i ≤ 1000000000) :
    Calls Try.prog 46 #[P gl, .int .i64 (i : Int)] w fun e w' => e = .returned (.int .i64 0) ∧ Led B w' gl pg l win at_ (sp.set i (rd sp i + 1)) ∧ Below B w w' := by
  have hp := Aside0.mk (Pis_calls h.1 (i : Int))
  rw [show inN l.length (i : Int) = true from inN_iff.2 ⟨by omega, by omega⟩] at hp
  obtain ⟨x, hx⟩ : ∃ x, leftF l sp i = x := ⟨_, rfl⟩
  have hl : Aside0 (∀ W, Below w.heap.size w W → Calls Try.prog 49 #[P gl, .int .i64 (i : Int)] W fun e w' => e = .returned (.int .i64 x) ∧ Below W.heap.size W w') := ⟨fun W hW => by
    have := Left_in (h.later hW) hi (by omega)
    rw [hx] at this
    exact this⟩
  rw [hx] at hz
  have hx2 : (x == 0) = false := by
    rw [beq_eq_false_iff_ne]
    omega
  have hx3 : ¬ x = 0 := by omega
  have hlen := h.2.1
  obtain ⟨sg, h5, h6, hB, hnew⟩ := h.spent hi (rd sp i + 1)
  have hBl : B ≤ w.heap.size := Nat.le_trans hB (Nat.le_of_lt (blk_lt h6))
  have s2 := ints_at h6 (i := i) (by omega)
  have s3 := blk_frozen h6 i
  have c0 : w.cell? ⟨gl, 0, none⟩ = some (P pg) := (blk_cell h5 0).trans rfl
  have c3 : w.cell? ⟨gl, 3, none⟩ = some (.slice (some ⟨sg, 0, none⟩) sp.length sp.length) := (blk_cell h5 3).trans rfl
  have eadd : (⟨sg, 0, none⟩ : Addr).add i = ⟨sg, i, none⟩ := by simp [Addr.add] <;> omega
  obtain ⟨y, hyy⟩ : ∃ y, rd sp i = y := ⟨_, rfl⟩
  rw [hyy] at s2 hy hnew ⊢
  obtain ⟨n, hn⟩ : ∃ n, sp.length = n := ⟨_, rfl⟩
  rw [hn] at c3 hlen
  rw [← hlen] at hi
  rw [← eadd] at hnew s3
  replace hnew := Aside0.mk hnew
  clear h hx h5 hyy hn hlen
  have hin : (i : Int) < (n : Int) := by omega
  have KEEP : Aside0 (∀ W, Below w.heap.size w W → W.cell? ⟨gl, 3, none⟩ = some (.slice (some ⟨sg, 0, none⟩) n n) ∧ W.cell? ((⟨sg, 0, none⟩ : Addr).add i) = some (.int .i64 y) ∧ W.frozen? ((⟨sg, 0, none⟩ : Addr).add i) = false) :=
    ⟨fun W hW => ⟨pw_cell_below hW c3, pw_cell_below hW s2, by rw [eadd]; exact blk_frozen (blk_below h6 hW) i⟩⟩
  have hBs : Aside0 (∀ W, Below w.heap.size w W → Below B w (W.setCell ((⟨sg, 0, none⟩ : Addr).add i) (.int .i64 (y + 1)))) := ⟨fun W hW => by rw [eadd]; exact (hW.mono hBl).setCell hB _⟩
  clear c3 s2 s3 h6 eadd
  generalize (⟨sg, 0, none⟩ : Addr) = ad2 at *
  go_enter Try.func46, Try.ntmps46
  go_wp2_with fail
  refine hp.out.mono ?_
  rintro e w1 ⟨rfl, hb⟩
  go_wp2_with fail
  refine (hl.out _ hb).mono ?_
  rintro e w2 ⟨rfl, hb2⟩
  replace hb2 := below_step hb hb2
  clear hb c0 hp hl
  obtain ⟨k3, k4, k5⟩ := KEEP.out _ hb2
  replace hb2 := Aside0.mk hb2
  go_wp2_with fail
  go_ret
  exact ⟨rfl, hnew.out _ hb2.out, hBs.out _ hb2.out⟩
end
end Go.Proofs.Yteopponjfkeagaa.Lat

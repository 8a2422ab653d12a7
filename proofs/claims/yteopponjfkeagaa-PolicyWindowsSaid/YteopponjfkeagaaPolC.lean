import Derived.Test.YteopponjfkeagaaPolB
namespace Go.Proofs.Yteopponjfkeagaa.Lat
open Go.RowKit Go.Maps Go.Proofs.YteopponjfkeagaaW.PrintWords Go.Proofs.YteopponjfkeagaaW.PrintLast Go.Proofs.YteopponjfkeagaaW.PrintMore Go.Proofs.Yteopponjfkeagaa.PPol
set_option linter.unusedVariables false
set_option linter.unusedSimpArgs false

theorem int3 : (Try.prog.info? 3).map (fun i => (i.zero, i.size, i.bytes)) = some (some (.int .i64 0), 1, 8) := by kernel_rfl
def zeros (n : Nat) : List Int := List.replicate n 0
theorem zeros_cells (n : Nat) : madeCells #[.int .i64 0] n = ((zeros n).map (Value.int .i64)).toArray := by
  apply Array.ext'
  rw [toList_madeCells_one]
  simp [zeros]
theorem Tick_nil (w : World) : Calls Try.prog 45 #[.pointer none] w fun e w' => e = .returned (.tuple #[]) ∧ Below w.heap.size w w' := by
  go_enter Try.func45, Try.ntmps45
  go_wp2_with fail
  exact bodyPost_ret (v := .tuple #[]) (by simp [results, Try.results45, go_sem]) rfl ⟨rfl, Below.refl _ _⟩
section
variable {B : Nat} {w : World} {gl pg : Nat} {l : List S58} {win at_ : Int} {sp : List Int}
theorem Led.goes (h : Led B w gl pg l win at_ sp) (z : Int) : Led B (w.setCell ⟨gl, 2, none⟩ (.int .i64 z)) gl pg l win z sp := by
  obtain ⟨h1, h2, h3, sg, h4, h5, h6⟩ := h
  exact ⟨h1.far h5 (by decide) (by decide) 2 _, h2, h3, sg, h4, blk_put h5 2 _ rfl, blk_far h6 (p := ⟨gl, 2, none⟩) (blk_ne h6 h5 (by decide)) _⟩
theorem Led.fresh (h : Led B w gl pg l win at_ sp) : Led B ((w.alloc (.cells (madeCells #[.int .i64 0] sp.length) 3)).setCell ⟨gl, 3, none⟩ (.slice (some ⟨w.heap.size, 0, none⟩) sp.length sp.length)) gl pg l win at_ (zeros sp.length) := by
  obtain ⟨h1, h2, h3, sg, h4, h5, h6⟩ := h
  have hal := below_alloc (Below.refl w.heap.size w) (.cells (madeCells #[.int .i64 0] sp.length) 3)
  have k5 := blk_below h5 hal
  have k6 := blk_new w (.cells (madeCells #[.int .i64 0] sp.length) 3)
  have hz : (zeros sp.length).length = sp.length := by simp [zeros]
  refine ⟨(h1.later hal).far k5 (by decide) (by decide) 3 _, hz.trans h2, h3, w.heap.size, Nat.le_trans h3 (Nat.le_of_lt (blk_lt h5)), ?_, ?_⟩
  · rw [hz]
    exact blk_put k5 3 _ rfl
  · rw [← zeros_cells]
    exact blk_far k6 (p := ⟨gl, 3, none⟩) (Nat.ne_of_gt (blk_lt h5)) _
/-- where in its window it is at the next tick, and what was spent in it -/
def nextAt (win at_ : Int) : Int := if at_ + 1 = win then 0 else at_ + 1
def nextSp (win at_ : Int) (sp : List Int) : List Int := if at_ + 1 = win then zeros sp.length else sp
set_option maxHeartbeats 4000000 in
theorem Tick_calls (h : Led B w gl pg l win at_ sp) (hw : 1 ≤ win ∧ win ≤ 1048576) (ha : 0 ≤ at_ ∧ at_ < win) (hn : sp.length ≤ 100) :
    Calls Try.prog 45 #[P gl] w fun e w' => e = .returned (.tuple #[]) ∧ Led B w' gl pg l win (nextAt win at_) (nextSp win at_ sp) ∧ Below B w w' := by
  have hmod : (at_ + 1).tmod win = nextAt win at_ := by
    unfold nextAt
    split
    · rename_i e
      rw [e, Int.tmod_self]
    · rename_i e
      exact Int.tmod_eq_of_lt (by omega) (by omega)
  have hmk := run_make_row' (P := Try.prog) 39 3 (.int .i64 0) 8 Try.underlying39 int3 rfl .i64 .i64 sp.length (by omega) (by omega)
  obtain ⟨z, hz⟩ : ∃ z, nextAt win at_ = z := ⟨_, rfl⟩
  have hzr : 0 ≤ z ∧ z < win := by
    rw [← hz]
    unfold nextAt
    split <;> omega
  have hsp : (z = 0 → nextSp win at_ sp = zeros sp.length) ∧ (z ≠ 0 → nextSp win at_ sp = sp) := by
    rw [← hz]
    unfold nextAt nextSp
    split
    · exact ⟨fun _ => rfl, fun q => absurd rfl q⟩
    · exact ⟨fun q => by omega, fun _ => rfl⟩
  rw [hz] at hmod ⊢
  clear hz
  have HL := Aside0.mk (h.goes z)
  replace hsp := Aside0.mk hsp
  obtain ⟨h1, h2, h3, sg, h4, h5, h6⟩ := h
  have hB : B ≤ w.heap.size := Nat.le_trans h3 (Nat.le_of_lt (blk_lt h5))
  have c1 : w.cell? ⟨gl, 1, none⟩ = some (.int .i64 win) := (blk_cell h5 1).trans rfl
  have c2 : w.cell? ⟨gl, 2, none⟩ = some (.int .i64 at_) := (blk_cell h5 2).trans rfl
  have f2 : w.frozen? ⟨gl, 2, none⟩ = false := blk_frozen h5 2
  have h3 := Aside0.mk h3
  have HB := Aside0.mk ((Below.refl B w).setCell (p := ⟨gl, 2, none⟩) h3.out (.int .i64 z))
  have hw0 : (win == 0) = false := by
    rw [beq_eq_false_iff_ne]
    omega
  have hw1 : IntKind.i64.wrap (at_ + 1) = at_ + 1 := IntWalk.i64_in _ (by omega)
  have hw2 : IntKind.i64.wrap z = z := IntWalk.i64_in _ (by omega)
  have hw3 : ¬ win = 0 := by omega
  clear h1 h2 h4 h5 h6
  go_enter Try.func45, Try.ntmps45
  go_upto_region 1 with fail
  go_region
  go_upto_region 2 with fail
  have HL1 := Aside0.mk (HL.out.later (below_drew (Below.refl _ _)))
  have HB1 := Aside0.mk (below_drew HB.out)
  clear HL HB hmod c1 c2 f2 hw0 hw1 hw2 hw3
  generalize (w.setCell ⟨gl, 2, none⟩ (.int .i64 z)).drew = W1 at *
  obtain ⟨_, _, _, sg1, _, k5, k6⟩ := HL1.out
  have c2 : W1.cell? ⟨gl, 2, none⟩ = some (.int .i64 z) := (blk_cell k5 2).trans rfl
  have c3 : W1.cell? ⟨gl, 3, none⟩ = some (.slice (some ⟨sg1, 0, none⟩) sp.length sp.length) := (blk_cell k5 3).trans rfl
  have f3 : W1.frozen? ⟨gl, 3, none⟩ = false := blk_frozen k5 3
  have hgl := blk_lt k5
  have hne : gl ≠ W1.heap.size := by omega
  clear k5 k6
  by_cases hz0 : z = 0
  · have HS : Aside0 (nextSp win at_ sp = zeros sp.length) := ⟨hsp.out.1 hz0⟩
    have HF := Aside0.mk (HL1.out.fresh)
    have HBF := Aside0.mk ((HB1.out.alloc (Nat.le_trans h3.out (Nat.le_of_lt hgl)) (.cells (madeCells #[.int .i64 0] sp.length) 3)).setCell (p := ⟨gl, 3, none⟩) h3.out (.slice (some ⟨W1.heap.size, 0, none⟩) sp.length sp.length))
    obtain ⟨n, hnn⟩ : ∃ n, sp.length = n := ⟨_, rfl⟩
    rw [hnn] at hmk c3 HF HBF HS
    clear hnn hn
    subst hz0
    go_wp2_with fail
    go_end0
    rw [show (W1.alloc (.cells (madeCells #[.int .i64 0] n) 3)).setCell ⟨gl, 3, none⟩ (.slice (some ⟨W1.heap.size, 0, none⟩) n n) = (W1.setCell ⟨gl, 3, none⟩ (.slice (some ⟨W1.heap.size, 0, none⟩) n n)).alloc (.cells (madeCells #[.int .i64 0] n) 3) from World.setCell_alloc_past _ _ _ _ hgl] at HF HBF
    exact ⟨rfl, by rw [HS.out]; exact HF.out, HBF.out⟩
  · have HS : Aside0 (nextSp win at_ sp = sp) := ⟨hsp.out.2 hz0⟩
    have hz2 : (z == 0) = false := by simpa using hz0
    clear c3 f3
    go_wp2_with fail
    go_end0
    exact ⟨rfl, by rw [HS.out]; exact HL1.out, HB1.out⟩
end
theorem Ledger_nil (a : Int) (w : World) : Calls Try.prog 44 #[.pointer none, .int .i64 a] w fun e w' => e = .returned (.tuple #[.pointer none, .int .i64 7]) ∧ Below w.heap.size w w' := by
  go_enter Try.func44, Try.ntmps44
  go_wp2_with fail
  exact bodyPost_ret (v := .tuple #[.pointer none, .int .i64 7]) (by simp [results, Try.results44, go_sem]) rfl ⟨rfl, Below.refl _ _⟩
theorem Ledger_bad {w : World} (pg : Nat) {a : Int} (ha : a < 1 ∨ (1 ≤ a ∧ 1048576 < a)) : Calls Try.prog 44 #[P pg, .int .i64 a] w fun e w' => e = .returned (.tuple #[.pointer none, .int .i64 1]) ∧ Below w.heap.size w w' := by
  rcases ha with ha | ⟨ha, hb⟩
  all_goals
    go_enter Try.func44, Try.ntmps44
    go_wp2_with fail
    exact bodyPost_ret (v := .tuple #[.pointer none, .int .i64 1]) (by simp [results, Try.results44, go_sem]) rfl ⟨rfl, Below.refl _ _⟩
set_option maxHeartbeats 4000000 in
theorem Ledger_calls {w : World} {pg : Nat} {l : List S58} {win : Int} (h : IsPol w pg l) (hw : 1 ≤ win ∧ win ≤ 1048576) (hn : l.length ≤ 100) :
    Calls Try.prog 44 #[P pg, .int .i64 win] w fun e w' => ∃ gl, e = .returned (.tuple #[P gl, .int .i64 0]) ∧ Led w.heap.size w' gl pg l win 0 (zeros l.length) ∧ Below w.heap.size w w' := by
  have hmk := run_make_row' (P := Try.prog) 39 3 (.int .i64 0) 8 Try.underlying39 int3 rfl .i64 .i64 l.length (by omega) (by omega)
  have hz : (zeros l.length).length = l.length := by simp [zeros]
  have HL : Aside0 (Led w.heap.size ((w.alloc (.cells (madeCells #[.int .i64 0] l.length) 3)).alloc (.cells #[P pg, .int .i64 win, .int .i64 0, .slice (some ⟨w.heap.size, 0, none⟩) l.length l.length] 96)) (w.heap.size + 1) pg l win 0 (zeros l.length)) := ⟨by
    have e1 : (w.alloc (.cells (madeCells #[.int .i64 0] l.length) 3)).heap.size = w.heap.size + 1 := by simp
    have hb1 := below_alloc (Below.refl w.heap.size w) (.cells (madeCells #[.int .i64 0] l.length) 3)
    have hb2 : Below (w.alloc (.cells (madeCells #[.int .i64 0] l.length) 3)).heap.size (w.alloc (.cells (madeCells #[.int .i64 0] l.length) 3)) ((w.alloc (.cells (madeCells #[.int .i64 0] l.length) 3)).alloc (.cells #[P pg, .int .i64 win, .int .i64 0, .slice (some ⟨w.heap.size, 0, none⟩) l.length l.length] 96)) := below_alloc (Below.refl _ _) _
    have g1 := blk_below (blk_new w (.cells (madeCells #[.int .i64 0] l.length) 3)) hb2
    have g2 := blk_new (w.alloc (.cells (madeCells #[.int .i64 0] l.length) 3)) (.cells #[P pg, .int .i64 win, .int .i64 0, .slice (some ⟨w.heap.size, 0, none⟩) l.length l.length] 96)
    rw [e1] at g2
    exact ⟨(h.later hb1).later hb2, hz, Nat.le_succ _, w.heap.size, Nat.le_refl _, by rw [hz]; exact g2, by rw [← zeros_cells]; exact g1⟩⟩
  have HB := Aside0.mk (below_alloc (below_alloc (Below.refl w.heap.size w) (.cells (madeCells #[.int .i64 0] l.length) 3)) (.cells #[P pg, .int .i64 win, .int .i64 0, .slice (some ⟨w.heap.size, 0, none⟩) l.length l.length] 96))
  obtain ⟨pm, base, u, g1, g2, g3⟩ := h
  obtain ⟨A, c, rfl, _, _⟩ := Kd.R_reads g2
  have c0 : w.cell? ⟨pg, 0, none⟩ = some (.slice A l.length c) := (blk_cell g1 0).trans rfl
  obtain ⟨hw1, hw2⟩ := hw
  clear g1 g2 g3 hz
  go_enter Try.func44, Try.ntmps44
  go_wp2_with fail
  exact bodyPost_ret (v := .tuple #[P (w.heap.size + 1), .int .i64 0]) (by simp [results, Try.results44, go_sem]) rfl ⟨_, rfl, HL.out, HB.out⟩
end Go.Proofs.Yteopponjfkeagaa.Lat

import Derived.Test.YteopponjfkeagaaPolK
namespace Go.Proofs.Yteopponjfkeagaa.Lat
open Go.RowKit Go.Maps Go.Proofs.YteopponjfkeagaaW.PrintWords Go.Proofs.YteopponjfkeagaaW.PrintLast Go.Proofs.YteopponjfkeagaaW.PrintMore Go.Proofs.Yteopponjfkeagaa.PPol
set_option linter.unusedVariables false
set_option linter.unusedSimpArgs false

/-- deeds that are there stay -/
def Keeps (w w' : World) : Prop := ∀ b o ds, Kd.R k61 61 w b (fun _ => True) o ds → Kd.R k61 61 w' b (fun _ => True) o ds
theorem Keeps.below {w w' : World} (h : Below w.heap.size w w') : Keeps w w' := fun b o ds hr => Kd.R_below hr h
theorem Keeps.trans {w w' w'' : World} (h : Keeps w w') (h' : Keeps w' w'') : Keeps w w'' := fun b o ds hr => h' b o ds (h b o ds hr)
theorem Keeps.set {w : World} {g : Nat} {cs : Array Value} {t : TypeId} (h : w.heap[g]? = some (.cells cs t (0, 0))) (ht : t ≠ 61) (j : Nat) (u : Value) : Keeps w (w.setCell ⟨g, j, none⟩ u) := fun b o ds hr => Kd.R_set hr h (fun q hq => by
  have hE : k61.E = [] := rfl
  rw [hE, List.mem_singleton] at hq
  rw [hq]
  exact fun e => ht e.symm) j u
theorem IsPol.grown61 {W W' : World} {pg : Nat} {l : List S58} {row : Option Nat} (h : IsPol W pg l) (hg : W.grownBy W' row) (hr : ∀ k, row = some k → ∃ cells, W.heap[k]? = some (.cells cells 61 (0, 0))) : IsPol W' pg l := by
  obtain ⟨pm, base, u, h1, h2, h3⟩ := h
  have hrow : ∀ {g : Nat} {cs : Array Value} {t : TypeId}, W.heap[g]? = some (.cells cs t (0, 0)) → t ≠ 61 → W'.heap[g]? = some (.cells cs t (0, 0)) := fun {g cs t} h ht => by
    refine (hg.block g (blk_lt h) (fun e => ?_)).trans h
    obtain ⟨cells, hc⟩ := hr g e.symm
    exact blk_ne h hc ht rfl
  refine ⟨pm, base, u, hrow h1 (by decide), ?_, ?_⟩
  · cases row with
    | none => exact Kd.R_grown h2 hg (fun k _ e => by cases e)
    | some q =>
      obtain ⟨cells, hc⟩ := hr q rfl
      have h4 := Kd.R_types h2 hc (fun x hx => by
        have hE : k58.E = [] := rfl
        rw [hE, List.mem_singleton] at hx
        rw [hx]
        decide)
      exact Kd.R_mono (Kd.R_grown h4 hg (fun k hk e => hk.2 (Option.some.inj e))) (fun k hk => hk.1)
  · have h' := h3
    obtain ⟨D, ⟨es, clock, hk, _⟩, _⟩ := h'
    refine h3.at_block (hg.block pm (blk_lt hk) (fun e => ?_))
    obtain ⟨cells, hc⟩ := hr pm e.symm
    rw [hk] at hc
    exact absurd hc (by simp)
section
variable {B : Nat} {w : World} {gl pg : Nat} {l : List S58} {win at_ : Int} {sp : List Int}
theorem Led.grown {W' : World} {row : Option Nat} (h : Led B w gl pg l win at_ sp) (hg : w.grownBy W' row) (hr : ∀ k, row = some k → ∃ cells, w.heap[k]? = some (.cells cells 61 (0, 0))) : Led B W' gl pg l win at_ sp := by
  obtain ⟨h1, h2, h3, sg, h4, h5, h6⟩ := h
  have hrow : ∀ {g : Nat} {cs : Array Value} {t : TypeId}, w.heap[g]? = some (.cells cs t (0, 0)) → t ≠ 61 → W'.heap[g]? = some (.cells cs t (0, 0)) := fun {g cs t} h ht => by
    refine (hg.block g (blk_lt h) (fun e => ?_)).trans h
    obtain ⟨cells, hc⟩ := hr g e.symm
    exact blk_ne h hc ht rfl
  exact ⟨h1.grown61 hg hr, h2, h3, sg, h4, hrow h5 (by decide), hrow h6 (by decide)⟩
set_option maxHeartbeats 4000000 in
theorem Spend_in2 (h : Led B w gl pg l win at_ sp) {i : Nat} (hi : i < l.length) (hz : 0 < leftF l sp i ∧ leftF l sp i ≤ 9223372036854775807) (hy : -1000000000 ≤ rd sp i ∧ rd sp i ≤ 1000000000) :
    Calls Try.prog 46 #[P gl, .int .i64 (i : Int)] w fun e w' => e = .returned (.int .i64 0) ∧ Led B w' gl pg l win at_ (sp.set i (rd sp i + 1)) ∧ Below B w w' ∧ Keeps w w' := by
  have hp := Aside0.mk (Pis_calls h.1 (i : Int))
  rw [show inN l.length (i : Int) = true from inN_iff.2 ⟨by omega, by omega⟩] at hp
  obtain ⟨x, hx⟩ : ∃ x, leftF l sp i = x := ⟨_, rfl⟩
  have hl : Aside0 (∀ W, Below w.heap.size w W → Calls Try.prog 49 #[P gl, .int .i64 (i : Int)] W fun e w' => e = .returned (.int .i64 x) ∧ Below W.heap.size W w') := ⟨fun W hW => by
    have := Left_in (h.later hW) hi (by omega)
    rw [hx] at this
    exact this⟩
  rw [hx] at hz
  have hx2 : (x == 0) = false := by
    rw [beq_eq_false_iff_ne]
    omega
  have hx3 : ¬ x = 0 := by omega
  have hlen := h.2.1
  obtain ⟨sg, h5, h6, hB, hnew⟩ := h.spent hi (rd sp i + 1)
  have hBl : B ≤ w.heap.size := Nat.le_trans hB (Nat.le_of_lt (blk_lt h6))
  have s2 := ints_at h6 (i := i) (by omega)
  have s3 := blk_frozen h6 i
  have c0 : w.cell? ⟨gl, 0, none⟩ = some (P pg) := (blk_cell h5 0).trans rfl
  have c3 : w.cell? ⟨gl, 3, none⟩ = some (.slice (some ⟨sg, 0, none⟩) sp.length sp.length) := (blk_cell h5 3).trans rfl
  have eadd : (⟨sg, 0, none⟩ : Addr).add i = ⟨sg, i, none⟩ := by simp [Addr.add] <;> omega
  obtain ⟨y, hyy⟩ : ∃ y, rd sp i = y := ⟨_, rfl⟩
  rw [hyy] at s2 hy hnew ⊢
  obtain ⟨n, hn⟩ : ∃ n, sp.length = n := ⟨_, rfl⟩
  rw [hn] at c3 hlen
  rw [← hlen] at hi
  rw [← eadd] at hnew s3
  replace hnew := Aside0.mk hnew
  clear h hx h5 hyy hn hlen
  have hin : (i : Int) < (n : Int) := by omega
  have KEEP : Aside0 (∀ W, Below w.heap.size w W → W.cell? ⟨gl, 3, none⟩ = some (.slice (some ⟨sg, 0, none⟩) n n) ∧ W.cell? ((⟨sg, 0, none⟩ : Addr).add i) = some (.int .i64 y) ∧ W.frozen? ((⟨sg, 0, none⟩ : Addr).add i) = false) :=
    ⟨fun W hW => ⟨pw_cell_below hW c3, pw_cell_below hW s2, by rw [eadd]; exact blk_frozen (blk_below h6 hW) i⟩⟩
  have hBs : Aside0 (∀ W, Below w.heap.size w W → Below B w (W.setCell ((⟨sg, 0, none⟩ : Addr).add i) (.int .i64 (y + 1)))) := ⟨fun W hW => by rw [eadd]; exact (hW.mono hBl).setCell hB _⟩
  have hKs : Aside0 (∀ W, Below w.heap.size w W → Keeps w (W.setCell ((⟨sg, 0, none⟩ : Addr).add i) (.int .i64 (y + 1)))) := ⟨fun W hW => by rw [eadd]; exact (Keeps.below hW).trans (Keeps.set (blk_below h6 hW) (by decide) i _)⟩
  clear c3 s2 s3 h6 eadd
  generalize (⟨sg, 0, none⟩ : Addr) = ad2 at *
  go_enter Try.func46, Try.ntmps46
  go_wp2_with fail
  refine hp.out.mono ?_
  rintro e w1 ⟨rfl, hb⟩
  go_wp2_with fail
  refine (hl.out _ hb).mono ?_
  rintro e w2 ⟨rfl, hb2⟩
  replace hb2 := below_step hb hb2
  clear hb c0 hp hl
  obtain ⟨k3, k4, k5⟩ := KEEP.out _ hb2
  replace hb2 := Aside0.mk hb2
  go_wp2_with fail
  go_ret
  exact ⟨rfl, hnew.out _ hb2.out, hBs.out _ hb2.out, hKs.out _ hb2.out⟩
set_option maxHeartbeats 4000000 in
theorem Tick2 (h : Led B w gl pg l win at_ sp) (hw : 1 ≤ win ∧ win ≤ 1048576) (ha : 0 ≤ at_ ∧ at_ < win) (hn : sp.length ≤ 100) :
    Calls Try.prog 45 #[P gl] w fun e w' => e = .returned (.tuple #[]) ∧ Led B w' gl pg l win (nextAt win at_) (nextSp win at_ sp) ∧ Below B w w' ∧ Keeps w w' := by
  have hmod : (at_ + 1).tmod win = nextAt win at_ := by
    unfold nextAt
    split
    · rename_i e
      rw [e, Int.tmod_self]
    · rename_i e
      exact Int.tmod_eq_of_lt (by omega) (by omega)
  have hmk := run_make_row' (P := Try.prog) 39 3 (.int .i64 0) 8 Try.underlying39 int3 rfl .i64 .i64 sp.length (by omega) (by omega)
  obtain ⟨z, hz⟩ : ∃ z, nextAt win at_ = z := ⟨_, rfl⟩
  have hzr : 0 ≤ z ∧ z < win := by
    rw [← hz]
    unfold nextAt
    split <;> omega
  have hsp : (z = 0 → nextSp win at_ sp = zeros sp.length) ∧ (z ≠ 0 → nextSp win at_ sp = sp) := by
    rw [← hz]
    unfold nextAt nextSp
    split
    · exact ⟨fun _ => rfl, fun q => absurd rfl q⟩
    · exact ⟨fun q => by omega, fun _ => rfl⟩
  rw [hz] at hmod ⊢
  clear hz
  have HL := Aside0.mk (h.goes z)
  replace hsp := Aside0.mk hsp
  obtain ⟨h1, h2, h3, sg, h4, h5, h6⟩ := h
  have hB : B ≤ w.heap.size := Nat.le_trans h3 (Nat.le_of_lt (blk_lt h5))
  have HK := Aside0.mk (Keeps.set h5 (by decide) 2 (.int .i64 z))
  have c1 : w.cell? ⟨gl, 1, none⟩ = some (.int .i64 win) := (blk_cell h5 1).trans rfl
  have c2 : w.cell? ⟨gl, 2, none⟩ = some (.int .i64 at_) := (blk_cell h5 2).trans rfl
  have f2 : w.frozen? ⟨gl, 2, none⟩ = false := blk_frozen h5 2
  have h3 := Aside0.mk h3
  have HB := Aside0.mk ((Below.refl B w).setCell (p := ⟨gl, 2, none⟩) h3.out (.int .i64 z))
  have hw0 : (win == 0) = false := by
    rw [beq_eq_false_iff_ne]
    omega
  have hw1 : IntKind.i64.wrap (at_ + 1) = at_ + 1 := IntWalk.i64_in _ (by omega)
  have hw2 : IntKind.i64.wrap z = z := IntWalk.i64_in _ (by omega)
  have hw3 : ¬ win = 0 := by omega
  clear h1 h2 h4 h5 h6
  go_enter Try.func45, Try.ntmps45
  go_upto_region 1 with fail
  go_region
  go_upto_region 2 with fail
  have HL1 := Aside0.mk (HL.out.later (below_drew (Below.refl _ _)))
  have HB1 := Aside0.mk (below_drew HB.out)
  have HK1 := Aside0.mk (HK.out.trans (Keeps.below (below_drew (Below.refl _ _))))
  clear HL HB HK hmod c1 c2 f2 hw0 hw1 hw2 hw3
  generalize (w.setCell ⟨gl, 2, none⟩ (.int .i64 z)).drew = W1 at *
  obtain ⟨_, _, _, sg1, _, k5, k6⟩ := HL1.out
  have c2 : W1.cell? ⟨gl, 2, none⟩ = some (.int .i64 z) := (blk_cell k5 2).trans rfl
  have c3 : W1.cell? ⟨gl, 3, none⟩ = some (.slice (some ⟨sg1, 0, none⟩) sp.length sp.length) := (blk_cell k5 3).trans rfl
  have f3 : W1.frozen? ⟨gl, 3, none⟩ = false := blk_frozen k5 3
  have hgl := blk_lt k5
  have HK5 := Aside0.mk k5
  have hne : gl ≠ W1.heap.size := by omega
  clear k5 k6
  by_cases hz0 : z = 0
  · have HS : Aside0 (nextSp win at_ sp = zeros sp.length) := ⟨hsp.out.1 hz0⟩
    have HF := Aside0.mk (HL1.out.fresh)
    have HBF := Aside0.mk ((HB1.out.alloc (Nat.le_trans h3.out (Nat.le_of_lt hgl)) (.cells (madeCells #[.int .i64 0] sp.length) 3)).setCell (p := ⟨gl, 3, none⟩) h3.out (.slice (some ⟨W1.heap.size, 0, none⟩) sp.length sp.length))
    have HKF := Aside0.mk ((HK1.out.trans (Keeps.below (below_alloc (Below.refl _ _) (.cells (madeCells #[.int .i64 0] sp.length) 3)))).trans (Keeps.set (blk_below HK5.out (below_alloc (Below.refl _ _) (.cells (madeCells #[.int .i64 0] sp.length) 3))) (by decide) 3 (.slice (some ⟨W1.heap.size, 0, none⟩) sp.length sp.length)))
    obtain ⟨n, hnn⟩ : ∃ n, sp.length = n := ⟨_, rfl⟩
    rw [hnn] at hmk c3 HF HBF HS HKF
    clear hnn hn
    subst hz0
    go_wp2_with fail
    go_end0
    rw [show (W1.alloc (.cells (madeCells #[.int .i64 0] n) 3)).setCell ⟨gl, 3, none⟩ (.slice (some ⟨W1.heap.size, 0, none⟩) n n) = (W1.setCell ⟨gl, 3, none⟩ (.slice (some ⟨W1.heap.size, 0, none⟩) n n)).alloc (.cells (madeCells #[.int .i64 0] n) 3) from World.setCell_alloc_past _ _ _ _ hgl] at HF HBF HKF
    exact ⟨rfl, by rw [HS.out]; exact HF.out, HBF.out, HKF.out⟩
  · have HS : Aside0 (nextSp win at_ sp = sp) := ⟨hsp.out.2 hz0⟩
    have hz2 : (z == 0) = false := by simpa using hz0
    clear c3 f3
    go_wp2_with fail
    go_end0
    exact ⟨rfl, by rw [HS.out]; exact HL1.out, HB1.out, HK1.out⟩
end
end Go.Proofs.Yteopponjfkeagaa.Lat

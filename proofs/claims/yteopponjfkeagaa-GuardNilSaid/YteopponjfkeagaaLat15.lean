import Derived.Test.YteopponjfkeagaaLat13
namespace Go.Proofs.Yteopponjfkeagaa.Lat
open Go.RowKit Go.Maps Go.Proofs.YteopponjfkeagaaW.PrintWords Go.Proofs.YteopponjfkeagaaW.PrintLast Go.Proofs.YteopponjfkeagaaW.PrintMore
set_option linter.unusedVariables false
set_option linter.unusedSimpArgs false

theorem pick_zero (T : Int → Bool) : pick T 0 = [] := rfl
theorem no_cells {w : World} {base : Nat} {u : Value} (h : Kd.R (Kd.int .i64) 3 w base (fun _ => True) u []) : ∃ A c, u = .slice A 0 c := by
  obtain ⟨A, c, rfl, _, _⟩ := Kd.R_reads h
  exact ⟨A, c, rfl⟩
set_option maxHeartbeats 4000000 in
theorem nil_core (a b : Int) (w : World) : Calls Try.prog 6 #[.int .i64 a, .int .i64 b] w fun e w' => e = .returned (.bool true) ∧ Below w.heap.size w w' := by
  have HB := Aside0.mk (Below.refl w.heap.size w)
  go_enter Try.func6, Try.ntmps6
  go_wp2_with fail
  refine (Join_nil a b _).mono ?_
  rintro e w1 ⟨rfl, hb⟩
  replace HB := Aside0.mk (below_step HB.out hb)
  clear hb
  go_wp2_with fail
  refine (Meet_nil a b _).mono ?_
  rintro e w2 ⟨rfl, hb⟩
  replace HB := Aside0.mk (below_step HB.out hb)
  clear hb
  go_wp2_with fail
  refine (Size_nil _).mono ?_
  rintro e w3 ⟨rfl, hb⟩
  replace HB := Aside0.mk (below_step HB.out hb)
  clear hb
  go_wp2_with fail
  refine (flowing_nil _ _ (Below.refl _ _) a b).mono ?_
  rintro e w4 ⟨rfl, hb⟩
  replace HB := Aside0.mk (below_step HB.out hb)
  clear hb
  go_wp2_with fail
  refine (Bottom_nil _).mono ?_
  rintro e w5 ⟨rfl, hb⟩
  replace HB := Aside0.mk (below_step HB.out hb)
  clear hb
  go_wp2_with fail
  refine (Top_nil _).mono ?_
  rintro e w6 ⟨rfl, hb⟩
  replace HB := Aside0.mk (below_step HB.out hb)
  clear hb
  go_wp2_with fail
  refine (Below_calls (n := 0) (by decide) (sized_nil _) (flowing_nil _) a).mono ?_
  rintro e w7 ⟨u, rfl, hR, hb⟩
  rw [pick_zero] at hR
  obtain ⟨A7, c7, rfl⟩ := no_cells hR
  replace HB := Aside0.mk (below_step HB.out hb)
  clear hb hR
  go_wp2_with fail
  refine (Above_calls (n := 0) (by decide) (sized_nil _) (flowing_nil _) b).mono ?_
  rintro e w8 ⟨u, rfl, hR, hb⟩
  rw [pick_zero] at hR
  obtain ⟨A8, c8, rfl⟩ := no_cells hR
  replace HB := Aside0.mk (below_step HB.out hb)
  clear hb hR
  go_wp2_with fail
  refine (four_calls _).mono ?_
  rintro e w9 ⟨rfl, hb⟩
  replace HB := Aside0.mk (below_step HB.out hb)
  clear hb
  go_wp2_with fail
  go_ret
  exact ⟨rfl, HB.out⟩
theorem nil_walk (a0 a1 : Int) (w : World) (w0 : (Lit.int .i64 a0).wf = true) (w1 : (Lit.int .i64 a1).wf = true) : Calls Try.prog 6 #[.int .i64 a0, .int .i64 a1] w fun e w' => e = .returned (.bool true) ∧ Below w.heap.size w w' := nil_core a0 a1 w
end Go.Proofs.Yteopponjfkeagaa.Lat

import Derived.Test.YteopponjfkeagaaPolD
namespace Go.Proofs.Yteopponjfkeagaa.Lat
open Go.RowKit Go.Maps Go.Proofs.YteopponjfkeagaaW.PrintWords Go.Proofs.YteopponjfkeagaaW.PrintLast Go.Proofs.YteopponjfkeagaaW.PrintMore Go.Proofs.Yteopponjfkeagaa.PPol
set_option linter.unusedVariables false
set_option linter.unusedSimpArgs false

theorem Rule_nil (a : Int) (w : World) : Calls Try.prog 57 #[.pointer none, .int .i64 a] w fun e w' => e = .returned (.tuple #[.agg #[.int .i64 0, .int .i64 0, .int .i64 0], .int .i64 7]) ∧ Below w.heap.size w w' := by
  have HB := Aside0.mk (below_alloc (Below.refl w.heap.size w) (.cells #[.int .i64 0, .int .i64 0, .int .i64 0] 58))
  go_enter Try.func57, Try.ntmps57
  go_wp2_with fail
  exact bodyPost_ret (v := .tuple #[.agg #[.int .i64 0, .int .i64 0, .int .i64 0], .int .i64 7]) (by simp [results, Try.results57, go_sem]) rfl ⟨rfl, HB.out⟩
set_option maxHeartbeats 4000000 in
set_option maxRecDepth 8000 in
theorem pnil_core (A : Option Addr) (m c : Nat) (a : Int) (w : World) : Calls Try.prog 14 #[.slice A m c, .int .i64 a] w fun e w' => e = .returned (.bool true) ∧ Below w.heap.size w w' := by
  by_cases h60 : (60 : Int) < m
  · go_enter Try.func14, Try.ntmps14
    go_wp2_with fail
    refine (ptwo_calls _).mono ?_
    rintro e w1 ⟨rfl, hb⟩
    go_wp2_with fail
    go_ret
    exact ⟨rfl, hb⟩
  have HB := Aside0.mk (Below.refl w.heap.size w)
  go_enter Try.func14, Try.ntmps14
  go_wp2_with fail
  refine (PolNew_nil _ _).mono ?_
  rintro e w1 ⟨rfl, hb⟩
  replace HB := Aside0.mk (below_step HB.out hb)
  clear hb
  go_wp2_with fail
  refine (Find_nil _ _ _).mono ?_
  rintro e w2 ⟨rfl, hb⟩
  replace HB := Aside0.mk (below_step HB.out hb)
  clear hb
  go_wp2_with fail
  refine (Rule_nil _ _).mono ?_
  rintro e w3 ⟨rfl, hb⟩
  have hal := below_alloc (Below.refl w3.heap.size w3) (.cells #[.int .i64 0, .int .i64 0, .int .i64 0] 58)
  have HR := Aside0.mk (blk_new w3 (.cells #[.int .i64 0, .int .i64 0, .int .i64 0] 58))
  replace HB := Aside0.mk (below_step (below_step HB.out hb) hal)
  clear hb hal
  go_wp2_with fail
  generalize w3.alloc (.cells #[.int .i64 0, .int .i64 0, .int .i64 0] 58) = W3 at *
  generalize w3.heap.size = rb at *
  refine (Ledger_nil _ _).mono ?_
  rintro e w4 ⟨rfl, hb⟩
  replace HR := Aside0.mk (blk_below HR.out hb)
  replace HB := Aside0.mk (below_step HB.out hb)
  clear hb
  go_wp2_with fail
  refine (Tick_nil _).mono ?_
  rintro e w5 ⟨rfl, hb⟩
  replace HR := Aside0.mk (blk_below HR.out hb)
  replace HB := Aside0.mk (below_step HB.out hb)
  clear hb
  have c0 : w5.cell? ⟨rb, 0, none⟩ = some (.int .i64 0) := (blk_cell HR.out 0).trans rfl
  have c1 : w5.cell? ⟨rb, 1, none⟩ = some (.int .i64 0) := (blk_cell HR.out 1).trans rfl
  have c2 : w5.cell? ⟨rb, 2, none⟩ = some (.int .i64 0) := (blk_cell HR.out 2).trans rfl
  go_wp2_with fail
  refine (Psize_nil (w := _)).mono ?_
  rintro e w6 ⟨rfl, hb⟩
  replace HB := Aside0.mk (below_step HB.out hb)
  clear hb c0 c1 c2 HR
  go_wp2_with fail
  refine (Left_nil (w := _) _).mono ?_
  rintro e w7 ⟨rfl, hb⟩
  replace HB := Aside0.mk (below_step HB.out hb)
  clear hb
  go_wp2_with fail
  refine (Spend_nil (w := _) _).mono ?_
  rintro e w8 ⟨rfl, hb⟩
  replace HB := Aside0.mk (below_step HB.out hb)
  clear hb
  go_wp2_with fail
  refine (ptwo_then HB.out).mono ?_
  rintro e w9 ⟨rfl, hb⟩
  go_wp2_with fail
  go_ret
  exact ⟨rfl, hb⟩
theorem pnil_walk (a0 : Option Addr) (len0 cap0 : Nat) (a1 : Int) (w : World) : Calls Try.prog 14 #[.slice a0 len0 cap0, .int .i64 a1] w fun e w' => e = .returned (.bool true) ∧ Below w.heap.size w w' := pnil_core a0 len0 cap0 a1 w
end Go.Proofs.Yteopponjfkeagaa.Lat

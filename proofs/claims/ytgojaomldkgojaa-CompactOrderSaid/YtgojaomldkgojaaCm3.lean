import Derived.Test.YtgojaomldkgojaaCm2
namespace Go.Proofs.Ytgojaomldkgojaa.Cm
set_option linter.unusedVariables false
set_option linter.unusedSimpArgs false
open Go.RowKit Go.Maps Go.Proofs.YtgojaomldkgojaaW.PrintWords Go.Proofs.YtgojaomldkgojaaW.PrintLast Go.Proofs.YtgojaomldkgojaaW.PrintMore Go.Proofs.Ytgojaomldkgojaa.PCm Go.Proofs.Ytgojaomldkgojaa.Wire
theorem keep_len (dead : Int) (l : List Rc) : (keepF dead l).length ≤ l.length := by
  induction l with
  | nil => exact Nat.le_refl _
  | cons r l ih =>
    show (keepL kL [] (·.f4) (oldB dead) (r :: l)).length ≤ _
    unfold keepL
    split
    · exact Nat.succ_le_succ ih
    · exact Nat.le_succ_of_le ih
set_option maxHeartbeats 4000000 in
theorem garbage_calls (A : Option Addr) (k : Nat) (l : List Rc) (dead : Int) (w : World) (hr : Kd.C k32 w A l.length l) (hl : l.length ≤ 1000) (hz : ∀ r ∈ l, r.f2.size ≤ 1000) :
    Calls Try.prog 19 #[.slice A l.length k, .int .i64 dead] w fun e w' => e = .returned (.int .i64 ((l.length : Int) - ((keepF dead l).length : Int))) ∧ Below w.heap.size w w' := by
  have hkp := Aside0.mk (keep_calls A k l dead w hr hl hz)
  have hle := keep_len dead l
  have hw : IntKind.i64.wrap ((l.length : Int) - ((keepF dead l).length : Int)) = (l.length : Int) - ((keepF dead l).length : Int) := IntWalk.i64_in _ (by omega)
  generalize keepF dead l = kf at *
  clear hr hz
  go_enter Try.func19, Try.ntmps19
  go_wp2_with fail
  refine hkp.out.mono ?_
  rintro e w1 ⟨u, rfl, hR, hb⟩
  obtain ⟨C, c, hu⟩ := Kd.R_slice hR
  subst hu
  go_wp2_with fail
  go_ret
  exact ⟨by first | rfl | simp [hw] | rw [hw], hb⟩
end Go.Proofs.Ytgojaomldkgojaa.Cm

import Derived.Test.YtlgihjhlkpmpnaaRWireU
import Derived.BigQuiet
import Derived.Deep.QuietTactic
import Derived.RegionTactic
namespace Go.Proofs.Ytlgihjhlkpmpnaa.Wire
set_option linter.unusedVariables false
set_option linter.unusedSimpArgs false
open Go.RowKit Go.Proofs.YtlgihjhlkpmpnaaW.PrintWords Go.Proofs.YtlgihjhlkpmpnaaW.PrintLast Go.Proofs.YtlgihjhlkpmpnaaW.PrintMore Go.Proofs.Ytlgihjhlkpmpnaa.Hand Go.Proofs.Ytlgihjhlkpmpnaa.PWire Go.Proofs.Ytlgihjhlkpmpnaa.PureNums
/-! A parser: a block of two cells. -/
def prow (held : ByteArray) (br : Bool) : Obj := .cells #[.string held, .bool br] 98 (0, 0)
theorem far_refl (w : World) (g : Option Nat) : w.grownBy w g := ⟨rfl, rfl, rfl, Nat.le_refl _, fun _ _ _ => rfl⟩
theorem far_drew {w W : World} {g : Option Nat} (h : w.grownBy W g) : w.grownBy W.drew g := ⟨h.os, h.tape, h.output, h.size, h.block⟩
theorem far_drewN {w W : World} {g : Option Nat} (h : w.grownBy W g) (n : Nat) : w.grownBy (W.drewN n) g := ⟨h.os, h.tape, h.output, h.size, h.block⟩
theorem far_trans {w W W' : World} {g : Option Nat} (h : w.grownBy W g) (k : W.grownBy W' g) : w.grownBy W' g :=
  ⟨k.os.trans h.os, k.tape.trans h.tape, k.output.trans h.output, Nat.le_trans h.size k.size, fun i hi hne => (k.block i (Nat.lt_of_lt_of_le hi h.size) hne).trans (h.block i hi hne)⟩
theorem far_new {w W W' : World} {g g2 : Nat} (h : w.grownBy W (some g)) (k : W.grownBy W' (some g2)) (h2 : w.heap.size ≤ g2) : w.grownBy W' (some g) :=
  ⟨k.os.trans h.os, k.tape.trans h.tape, k.output.trans h.output, Nat.le_trans h.size k.size, fun i hi hne => (k.block i (Nat.lt_of_lt_of_le hi h.size) (fun e => by have := Option.some.inj e; omega)).trans (h.block i hi hne)⟩
theorem far_below {w W W' : World} {g : Option Nat} (h : w.grownBy W g) (k : Below W.heap.size W W') : w.grownBy W' g :=
  ⟨k.os.trans h.os, k.tape.trans h.tape, k.output.trans h.output, Nat.le_trans h.size k.size, fun i hi hne => (k.block i (Nat.lt_of_lt_of_le hi h.size)).trans (h.block i hi hne)⟩
theorem far_of_below {w W : World} (g : Option Nat) (k : Below w.heap.size w W) : w.grownBy W g := far_below (far_refl w g) k
theorem far_set {w W : World} {g : Nat} (h : w.grownBy W (some g)) (i : Nat) (u : Value) : w.grownBy (W.setCell ⟨g, i, none⟩ u) (some g) := far_trans h (grown_setCell W g i u)
theorem new_calls (w : World) : Calls Try.prog 15 #[] w fun e w' => ∃ g, e = .returned (.pointer (some ⟨g, 0, none⟩)) ∧ w.heap.size ≤ g ∧ w'.heap[g]? = some (prow ⟨#[]⟩ false) ∧ Below w.heap.size w w' := by
  go_enter Try.func15, Try.ntmps15
  go_wp2_with fail
  go_ret
  exact ⟨w.heap.size, rfl, Nat.le_refl _, blk_new w _, below_alloc (Below.refl _ _) _⟩
theorem held_calls (g : Nat) (held : ByteArray) (br : Bool) (w : World) (hg : w.heap[g]? = some (prow held br)) : Calls Try.prog 18 #[.pointer (some ⟨g, 0, none⟩)] w fun e w' => e = .returned (.int .i64 held.size) ∧ w' = w := by
  have c0 : w.cell? ⟨g, 0, none⟩ = some (.string held) := (blk_cell hg 0).trans rfl
  go_enter Try.func18, Try.ntmps18
  go_wp2_with fail
  go_ret
  exact ⟨rfl, rfl⟩
theorem broken_calls (g : Nat) (held : ByteArray) (br : Bool) (w : World) (hg : w.heap[g]? = some (prow held br)) : Calls Try.prog 19 #[.pointer (some ⟨g, 0, none⟩)] w fun e w' => e = .returned (.bool br) ∧ w' = w := by
  have c0 : w.cell? ⟨g, 1, none⟩ = some (.bool br) := (blk_cell hg 1).trans rfl
  go_enter Try.func19, Try.ntmps19
  go_wp2_with fail
  go_ret
  exact ⟨rfl, rfl⟩
theorem held_nil (w : World) : Calls Try.prog 18 #[.pointer none] w fun e w' => e = .returned (.int .i64 0) ∧ w' = w := by
  go_enter Try.func18, Try.ntmps18
  go_wp2_with fail
  go_ret
  exact ⟨rfl, rfl⟩
theorem broken_nil (w : World) : Calls Try.prog 19 #[.pointer none] w fun e w' => e = .returned (.bool false) ∧ w' = w := by
  have hund : ∀ b, some undef = some (Value.bool b) → False := fun b h => by simp [undef] at h
  go_enter Try.func19, Try.ntmps19
  go_wp2_with fail
  go_ret
  exact ⟨rfl, rfl⟩
theorem unless_nil (f : Value) (w : World) : Calls Try.prog 50 #[.pointer none, f] w fun e w' => e = .returned (.int .i64 7) ∧ w' = w := by
  go_enter Try.func50, Try.ntmps50
  go_wp2_with fail
  go_ret
  exact ⟨rfl, rfl⟩
theorem unless_broken (f : Value) (g : Nat) (held : ByteArray) (w : World) (hg : w.heap[g]? = some (prow held true)) : Calls Try.prog 50 #[.pointer (some ⟨g, 0, none⟩), f] w fun e w' => e = .returned (.int .i64 38) ∧ w' = w := by
  have c0 : w.cell? ⟨g, 1, none⟩ = some (.bool true) := (blk_cell hg 1).trans rfl
  go_enter Try.func50, Try.ntmps50
  go_wp2_with fail
  go_ret
  exact ⟨rfl, rfl⟩
theorem unless_calls (k : Nat) (caps : Array Value) (hk : ∀ args W, (callFunc k args).run Try.prog W = .ok (.enter k args) W) (g : Nat) (held : ByteArray) (w : World) (hg : w.heap[g]? = some (prow held false)) (Q : Int → World → Prop)
    (hdo : Calls Try.prog k caps w fun e w' => ∃ v, e = .returned (.int .i64 v) ∧ Q v w') :
    Calls Try.prog 50 #[.pointer (some ⟨g, 0, none⟩), .func (Fn.func k) #[] caps] w fun e w' => ∃ v, e = .returned (.int .i64 v) ∧ Q v w' := by
  have c0 : w.cell? ⟨g, 1, none⟩ = some (.bool false) := (blk_cell hg 1).trans rfl
  go_enter Try.func50, Try.ntmps50
  go_wp2_with fail
  refine hdo.mono ?_
  rintro e w1 ⟨v, rfl, hq⟩
  go_wp2_with fail
  go_ret
  exact ⟨v, rfl, hq⟩
def feedR (held s : ByteArray) : ByteArray × Int := if 4000 < held.size + s.size then (held, 2) else (held ++ s, 0)
set_option maxHeartbeats 4000000 in
theorem feed1_calls (gp gs g : Nat) (held s : ByteArray) (w : World) (hp : w.heap[gp]? = some (.cells #[.pointer (some ⟨g, 0, none⟩)] 25 (0, 0))) (hs : w.heap[gs]? = some (.cells #[.string s] 9 (0, 0))) (hg : w.heap[g]? = some (prow held false)) (hz : held.size ≤ 4000) (hz2 : s.size ≤ 140737488355328) (d1 : gp ≠ g) (d2 : gs ≠ g) :
    Calls Try.prog 51 #[.pointer (some ⟨gp, 0, none⟩), .pointer (some ⟨gs, 0, none⟩)] w fun e w' => ∃ v, e = .returned (.int .i64 v) ∧ v = (feedR held s).2 ∧ w'.heap[g]? = some (prow (feedR held s).1 false) ∧ w.grownBy w' (some g) := by
  have c0 : w.cell? ⟨gp, 0, none⟩ = some (.pointer (some ⟨g, 0, none⟩)) := (blk_cell hp 0).trans rfl
  have c1 : w.cell? ⟨gs, 0, none⟩ = some (.string s) := (blk_cell hs 0).trans rfl
  have c2 : w.cell? ⟨g, 0, none⟩ = some (.string held) := (blk_cell hg 0).trans rfl
  have fz : w.frozen? ⟨g, 0, none⟩ = false := blk_frozen hg 0
  have hn : ¬ 9223372036854775807 < held.size + s.size := by omega
  by_cases hb : 4000 < held.size + s.size
  · have hR : feedR held s = (held, 2) := if_pos hb
    rw [hR]
    have t1 : (4000 : Int) < (held.size : Int) + (s.size : Int) := by omega
    go_enter Try.func51, Try.ntmps51
    go_wp2_with fail
    go_quiet (fail)
    go_wp2_with fail
    go_ret
    exact ⟨2, rfl, rfl, hg, far_drewN (far_refl _ _) _⟩
  · have hR : feedR held s = (held ++ s, 0) := if_neg hb
    rw [hR]
    have t1 : ¬ (4000 : Int) < (held.size : Int) + (s.size : Int) := by omega
    go_enter Try.func51, Try.ntmps51
    go_wp2_with fail
    go_quiet (fail)
    go_wp2_with fail
    go_region
    go_wp2_with fail
    go_ret
    exact ⟨0, rfl, rfl, blk_set hg 0 _, far_set (far_drewN (far_refl _ _) _) 0 _⟩
end Go.Proofs.Ytlgihjhlkpmpnaa.Wire

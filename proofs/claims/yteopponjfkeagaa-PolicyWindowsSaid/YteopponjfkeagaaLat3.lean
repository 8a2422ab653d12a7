import Derived.Test.YteopponjfkeagaaLat2
namespace Go.Proofs.Yteopponjfkeagaa.Lat
open Go.RowKit Go.Proofs.YteopponjfkeagaaW.PrintWords Go.Proofs.YteopponjfkeagaaW.PrintLast Go.Proofs.YteopponjfkeagaaW.PrintMore
set_option linter.unusedVariables false
set_option linter.unusedSimpArgs false

theorem info_int : (Try.prog.info? 3).map (fun i => (i.zero, i.size, i.bytes)) = some (some (.int .i64 0), 1, 8) := by kernel_rfl
/-- the numbers below n that count, rising -/
def pick (T : Int → Bool) (n : Nat) : List Int := ((List.range n).filter fun i : Nat => T (i : Int)).map fun i : Nat => (i : Int)
theorem pick_succ (T : Int → Bool) (i : Nat) : pick T (i + 1) = if T i = true then pick T i ++ [(i : Int)] else pick T i := by
  unfold pick
  rw [List.range_succ, List.filter_append, List.map_append]
  cases h : T i <;> simp [h]
theorem pick_length (T : Int → Bool) (n : Nat) : (pick T n).length ≤ n := by
  unfold pick
  rw [List.length_map]
  exact Nat.le_trans (List.length_filter_le _ _) (by simp)
theorem those_calls (k : Nat) (first caps : Array Value) (hk : ∀ args W, (callFunc k args).run Try.prog W = .ok (.enter k args) W) {v : Value} {n : Nat} {w : World} (hn : n ≤ 6) (hS : Sized v n w) (T : Int → Bool)
    (hT : ∀ W, Below w.heap.size w W → ∀ i : Nat, i < n → Calls Try.prog k (first.push (.int .i64 i) ++ caps) W fun e w' => e = .returned (.bool (T i)) ∧ Below W.heap.size W w') :
    Calls Try.prog 69 #[v, .func (Fn.func k) first caps] w fun e w' => ∃ u : Value, e = .returned u ∧ Kd.R (Kd.int .i64) 3 w' w.heap.size (fun _ => True) u (pick T n) ∧ Below w.heap.size w w' := by
  go_enter Try.func69, Try.ntmps69
  go_wp2_with fail
  refine (hS _ (Below.refl _ _)).mono ?_
  rintro e w1 ⟨rfl, hb⟩
  have HB := Aside0.mk hb
  clear hb hS
  go_wp2_with fail
  go_loopw [5, 9] (fun o x wr => ∃ i : Nat, x = .int .i64 (i : Int) ∧ i ≤ n ∧ Aside0 (Kd.R (Kd.int .i64) 3 wr w.heap.size (fun _ => True) o (pick T i)) ∧ Aside0 (Below w.heap.size w wr)) (fun _ x _ => n - (intOf x).toNat)
  case atStart => exact ⟨0, rfl, Nat.zero_le _, ⟨by rw [show pick T 0 = [] from rfl]; exact Kd.R_nil _ _ _ _ _⟩, HB⟩
  case round =>
    clear HB
    obtain ⟨i, rfl, hi, HR, HB⟩ := hrel
    by_cases hx : (i : Int) < n
    · go_wp2_with fail
      refine (hT _ HB.out i (by omega)).mono ?_
      rintro e w2 ⟨rfl, hb⟩
      have HB2 := Aside0.mk (below_step HB.out hb)
      have HR2 := Aside0.mk (Kd.R_below HR.out hb)
      clear HB HR hb
      cases ht : T i
      · go_wp2_with fail
        exact ⟨⟨i + 1, rfl, by omega, ⟨by rw [pick_succ, ht]; exact HR2.out⟩, HB2⟩, by simp [intOf]; omega⟩
      · have hl := pick_length T i
        go_wp2_with (first | ((with_reducible refine gate_builtin (b := .append) (xs := #[.tmp 15, .tmp 17]) rfl ?_); at_builtin; refine Kd.R_append (Kd.int .i64) (w0 := w) w.heap.size rfl (.tmp 15) (.tmp 17) 39 3 (.int .i64 0) 8 rfl Try.underlying39 info_int rfl (by decide) (by omega) u5 (pick T i) (i : Int) [.int .i64 (i : Int)] (fun _ => True) (fun _ => False) rfl rfl ?aP (fun _ hk => hk.elim) ?aF ?aO ?aB ?aS ?aL ?_; (case aP => exact rfl); (case aB => exact HB2.out); (case aF => exact (fun _ _ => trivial)); (case aO => exact HR2.out); (case aS => exact below_size HB2.out); (case aL => omega); intro v163 w11 ho hb hg hat))
        exact ⟨⟨i + 1, rfl, by omega, ⟨by rw [pick_succ, if_pos ht]; exact ho⟩, ⟨hb⟩⟩, by simp [intOf]; omega⟩
    · obtain rfl : i = n := by omega
      go_wp2_with fail
      go_ret
      exact ⟨_, rfl, HR.out, HB.out⟩
end Go.Proofs.Yteopponjfkeagaa.Lat

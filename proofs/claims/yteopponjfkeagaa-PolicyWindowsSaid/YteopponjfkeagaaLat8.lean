import Derived.Test.YteopponjfkeagaaLat7
namespace Go.Proofs.Yteopponjfkeagaa.Lat
open Go.RowKit Go.Maps Go.Proofs.YteopponjfkeagaaW.PrintWords Go.Proofs.YteopponjfkeagaaW.PrintLast Go.Proofs.YteopponjfkeagaaW.PrintMore
set_option linter.unusedVariables false
set_option linter.unusedSimpArgs false

set_option maxHeartbeats 2000000 in
theorem bounds_calls (k : Nat) (first caps : Array Value) (hk : ∀ args W, (callFunc k args).run Try.prog W = .ok (.enter k args) W) {g n : Nat} {F : Nat → Bool} {jm mm : Nat} {bot top : Int} {w : World} (hg : w.heap[g]? = some (.cells (latC n F jm mm bot top) 79 (0, 0))) (hn : n ≤ 6) (a b : Int) (T : Int → Int → Bool)
    (hT : ∀ W, Below w.heap.size w W → ∀ (y : Int) (i : Nat), y = a ∨ y = b → i < n → Calls Try.prog k (first ++ (#[.int .i64 y, .int .i64 i] ++ caps)) W fun e w' => e = .returned (.bool (T y i)) ∧ Below W.heap.size W w') :
    Calls Try.prog 77 #[P g, pairV a b, .func (Fn.func k) first caps] w fun e w' => ∃ u : Value, e = .returned u ∧ Kd.R (Kd.int .i64) 3 w' w.heap.size (fun _ => True) u (pick (fun x => T a x && T b x) n) ∧ Below w.heap.size w w' := by
  have HP := Aside0.mk (blk_new w (.cells #[.int .i64 a, .int .i64 b] 82))
  have HB := Aside0.mk (below_alloc (Below.refl w.heap.size w) (.cells #[.int .i64 a, .int .i64 b] 82))
  have c0 : w.cell? ⟨g, 0, none⟩ = some (.int .i64 n) := (blk_cell hg 0).trans rfl
  have lt : g < w.heap.size := blk_lt hg
  have hne : g ≠ w.heap.size := by omega
  go_enter Try.func77, Try.ntmps77
  go_wp2_with fail
  generalize w.alloc (.cells #[.int .i64 a, .int .i64 b] 82) = W0 at *
  go_loopw [7, 13] (fun o x wr => ∃ i : Nat, x = .int .i64 (i : Int) ∧ i ≤ n ∧ Aside0 (Kd.R (Kd.int .i64) 3 wr w.heap.size (fun q => q ≠ w.heap.size) o (pick (fun x => T a x && T b x) i)) ∧ Aside0 (wr.heap[w.heap.size]? = some (.cells #[.int .i64 a, .int .i64 b] 82 (0, 0))) ∧ Aside0 (Below w.heap.size w wr)) (fun _ x _ => n - (intOf x).toNat)
  case atStart => exact ⟨0, rfl, Nat.zero_le _, ⟨by rw [show pick (fun x => T a x && T b x) 0 = [] from rfl]; exact Kd.R_nil _ _ _ _ _⟩, HP, HB⟩
  case round =>
    clear HB HP
    obtain ⟨i, rfl, hi, HR, HP, HB⟩ := hrel
    have p0 : wr.cell? ⟨w.heap.size, 0, none⟩ = some (.int .i64 a) := (blk_cell HP.out 0).trans rfl
    have p1 : wr.cell? ⟨w.heap.size, 1, none⟩ = some (.int .i64 b) := (blk_cell HP.out 1).trans rfl
    by_cases hx : (i : Int) < n
    · go_wp2_with fail
      refine (hT _ HB.out a i (.inl rfl) (by omega)).mono ?_
      rintro e w2 ⟨rfl, hb⟩
      have HB2 := Aside0.mk (below_step HB.out hb)
      have HR2 := Aside0.mk (Kd.R_below HR.out hb)
      have HP2 := Aside0.mk (blk_below HP.out hb)
      clear HB HR HP hb p0 p1
      have q1 : w2.cell? ⟨w.heap.size, 1, none⟩ = some (.int .i64 b) := (blk_cell HP2.out 1).trans rfl
      cases ht : T a i
      · go_wp2_with fail
        exact ⟨⟨i + 1, rfl, by omega, ⟨by rw [pick_succ, ht]; exact HR2.out⟩, HP2, HB2⟩, by simp [intOf]; omega⟩
      · go_wp2_with fail
        refine (hT _ HB2.out b i (.inr rfl) (by omega)).mono ?_
        rintro e w3 ⟨rfl, hb⟩
        have HB3 := Aside0.mk (below_step HB2.out hb)
        have HR3 := Aside0.mk (Kd.R_below HR2.out hb)
        have HP3 := Aside0.mk (blk_below HP2.out hb)
        clear HB2 HR2 HP2 hb q1
        cases ht2 : T b i
        · go_wp2_with fail
          exact ⟨⟨i + 1, rfl, by omega, ⟨by rw [pick_succ, ht, ht2]; exact HR3.out⟩, HP3, HB3⟩, by simp [intOf]; omega⟩
        · have hl := pick_length (fun x => T a x && T b x) i
          have hsz := below_size HB3.out
          go_wp2_with (first | ((with_reducible refine gate_builtin (b := .append) (xs := #[.tmp 28, .tmp 30]) rfl ?_); at_builtin; refine Kd.R_append (Kd.int .i64) (w0 := w) w.heap.size rfl (.tmp 28) (.tmp 30) 39 3 (.int .i64 0) 8 rfl Try.underlying39 info_int rfl (by decide) (by omega) u7 (pick (fun x => T a x && T b x) i) (i : Int) [.int .i64 (i : Int)] (fun q => q ≠ w.heap.size) (fun _ => False) rfl rfl ?aP (fun _ hk => hk.elim) ?aF ?aO ?aB ?aS ?aL ?_; (case aP => exact rfl); (case aB => exact HB3.out); (case aF => exact (fun q hq => by have := blk_lt HP3.out; omega)); (case aO => exact HR3.out); (case aS => exact below_size HB3.out); (case aL => omega); intro v163 w11 ho hb hg2 hat))
          have HP4 := Aside0.mk (hg2.block w.heap.size (blk_lt HP3.out) (fun e => (HR3.out.1 _ e.symm) rfl) |>.trans HP3.out)
          exact ⟨⟨i + 1, rfl, by omega, ⟨by rw [pick_succ, if_pos (by rw [ht, ht2]; rfl)]; exact ho⟩, HP4, ⟨hb⟩⟩, by simp [intOf]; omega⟩
    · obtain rfl : i = n := by omega
      go_wp2_with fail
      go_ret
      exact ⟨_, rfl, Kd.R_mono HR.out (fun _ _ => trivial), HB.out⟩
end Go.Proofs.Yteopponjfkeagaa.Lat

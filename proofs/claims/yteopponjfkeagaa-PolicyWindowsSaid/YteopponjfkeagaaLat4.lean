import Derived.Test.YteopponjfkeagaaLat3
namespace Go.Proofs.Yteopponjfkeagaa.Lat
open Go.RowKit Go.Proofs.YteopponjfkeagaaW.PrintWords Go.Proofs.YteopponjfkeagaaW.PrintLast Go.Proofs.YteopponjfkeagaaW.PrintMore
set_option linter.unusedVariables false
set_option linter.unusedSimpArgs false

/-- whatever the two labels: what Flows tells from here on -/
def Flowing (v : Value) (T : Int → Int → Bool) (w : World) : Prop := ∀ W, Below w.heap.size w W → ∀ a b : Int, Calls Try.prog 21 #[v, .int .i64 a, .int .i64 b] W fun e w' => e = .returned (.bool (T a b)) ∧ Below W.heap.size W w'
theorem flowing_nil (w : World) : Flowing (.pointer none) (fun _ _ => false) w := fun W hb a b => Flows_none (sized_nil W) a b (.inl (by unfold inN; rw [Bool.eq_false_iff]; intro h; simp at h; omega))
theorem flowing_at {g n : Nat} {F : Nat → Bool} {jm mm : Nat} {bot top : Int} {w : World} (hg : w.heap[g]? = some (.cells (latC n F jm mm bot top) 79 (0, 0))) (hn : n ≤ 6) : Flowing (P g) (flowsF n F) w :=
  fun W hb a b => Flows_calls (blk_below hg hb) hn a b
theorem Flowing.later {v : Value} {T : Int → Int → Bool} {w w' : World} (h : Flowing v T w) (hb : Below w.heap.size w w') : Flowing v T w' := fun W hW => h W (below_step hb hW)
theorem Above1_calls {v : Value} {T : Int → Int → Bool} {w : World} (hT : Flowing v T w) (lb ab : Nat) (a x : Int) (hl : w.heap[lb]? = some (.cells #[v] 25 (0, 0))) (ha : w.heap[ab]? = some (.cells #[.int .i64 a] 3 (0, 0))) :
    Calls Try.prog 70 #[.int .i64 x, .pointer (some ⟨lb, 0, none⟩), .pointer (some ⟨ab, 0, none⟩)] w fun e w' => e = .returned (.bool (T a x)) ∧ Below w.heap.size w w' := by
  have c1 : w.cell? ⟨lb, 0, none⟩ = some v := (blk_cell hl 0).trans rfl
  have c2 : w.cell? ⟨ab, 0, none⟩ = some (.int .i64 a) := (blk_cell ha 0).trans rfl
  clear hl ha
  go_enter Try.func70, Try.ntmps70
  go_wp2_with fail
  refine (hT _ (Below.refl _ _) a x).mono ?_
  rintro e w1 ⟨rfl, hb⟩
  go_wp2_with fail
  go_ret
  exact ⟨rfl, hb⟩
theorem Below1_calls {v : Value} {T : Int → Int → Bool} {w : World} (hT : Flowing v T w) (lb ab : Nat) (a x : Int) (hl : w.heap[lb]? = some (.cells #[v] 25 (0, 0))) (ha : w.heap[ab]? = some (.cells #[.int .i64 a] 3 (0, 0))) :
    Calls Try.prog 71 #[.int .i64 x, .pointer (some ⟨lb, 0, none⟩), .pointer (some ⟨ab, 0, none⟩)] w fun e w' => e = .returned (.bool (T x a)) ∧ Below w.heap.size w w' := by
  have c1 : w.cell? ⟨lb, 0, none⟩ = some v := (blk_cell hl 0).trans rfl
  have c2 : w.cell? ⟨ab, 0, none⟩ = some (.int .i64 a) := (blk_cell ha 0).trans rfl
  clear hl ha
  go_enter Try.func71, Try.ntmps71
  go_wp2_with fail
  refine (hT _ (Below.refl _ _) x a).mono ?_
  rintro e w1 ⟨rfl, hb⟩
  go_wp2_with fail
  go_ret
  exact ⟨rfl, hb⟩
theorem Above_calls {o : Option Addr} {n : Nat} {T : Int → Int → Bool} {w : World} (hn : n ≤ 6) (hS : Sized (.pointer o) n w) (hT : Flowing (.pointer o) T w) (a : Int) :
    Calls Try.prog 31 #[.pointer o, .int .i64 a] w fun e w' => ∃ u : Value, e = .returned u ∧ Kd.R (Kd.int .i64) 3 w' w.heap.size (fun _ => True) u (pick (fun x => T a x) n) ∧ Below w.heap.size w w' := by
  have hmf : ∀ (fn : Fn) (first cap : Array Value) (w : World), (Instr.makeFunc fn first cap).run Try.prog w = .ok (.func fn first cap) w := fun _ _ _ _ => rfl
  go_enter Try.func31, Try.ntmps31
  go_wp2_with fail
  have H1 : ((w.alloc (.cells #[.pointer o] 25)).alloc (.cells #[.int .i64 a] 3)).heap[w.heap.size]? = some (.cells #[.pointer o] 25 (0, 0)) := blk_alloc (blk_new w _) _
  have H2 : ((w.alloc (.cells #[.pointer o] 25)).alloc (.cells #[.int .i64 a] 3)).heap[w.heap.size + 1]? = some (.cells #[.int .i64 a] 3 (0, 0)) := by
    have := blk_new (w.alloc (.cells #[.pointer o] 25)) (.cells #[.int .i64 a] 3)
    rw [World.size_alloc] at this
    exact this
  have HB := below_alloc (below_alloc (Below.refl w.heap.size w) (.cells #[.pointer o] 25)) (.cells #[.int .i64 a] 3)
  have HS := hS.later HB
  have HT := hT.later HB
  refine (those_calls 70 #[] #[.pointer (some ⟨w.heap.size, 0, none⟩), .pointer (some ⟨w.heap.size + 1, 0, none⟩)] (fun _ _ => enters_ Try.func70 (by kernel_rfl) rfl _ _) hn HS (fun x => T a x) (fun W hW i hi => Above1_calls (HT.later hW) w.heap.size (w.heap.size + 1) a i (blk_below H1 hW) (blk_below H2 hW))).mono ?_
  rintro e w1 ⟨u, rfl, hR, hb⟩
  clear H1 H2 HS HT
  go_wp2_with fail
  go_ret
  exact ⟨u, rfl, Kd.R_lower hR HB.size, below_step HB hb⟩
theorem Below_calls {o : Option Addr} {n : Nat} {T : Int → Int → Bool} {w : World} (hn : n ≤ 6) (hS : Sized (.pointer o) n w) (hT : Flowing (.pointer o) T w) (a : Int) :
    Calls Try.prog 33 #[.pointer o, .int .i64 a] w fun e w' => ∃ u : Value, e = .returned u ∧ Kd.R (Kd.int .i64) 3 w' w.heap.size (fun _ => True) u (pick (fun x => T x a) n) ∧ Below w.heap.size w w' := by
  have hmf : ∀ (fn : Fn) (first cap : Array Value) (w : World), (Instr.makeFunc fn first cap).run Try.prog w = .ok (.func fn first cap) w := fun _ _ _ _ => rfl
  go_enter Try.func33, Try.ntmps33
  go_wp2_with fail
  have H1 : ((w.alloc (.cells #[.pointer o] 25)).alloc (.cells #[.int .i64 a] 3)).heap[w.heap.size]? = some (.cells #[.pointer o] 25 (0, 0)) := blk_alloc (blk_new w _) _
  have H2 : ((w.alloc (.cells #[.pointer o] 25)).alloc (.cells #[.int .i64 a] 3)).heap[w.heap.size + 1]? = some (.cells #[.int .i64 a] 3 (0, 0)) := by
    have := blk_new (w.alloc (.cells #[.pointer o] 25)) (.cells #[.int .i64 a] 3)
    rw [World.size_alloc] at this
    exact this
  have HB := below_alloc (below_alloc (Below.refl w.heap.size w) (.cells #[.pointer o] 25)) (.cells #[.int .i64 a] 3)
  have HS := hS.later HB
  have HT := hT.later HB
  refine (those_calls 71 #[] #[.pointer (some ⟨w.heap.size, 0, none⟩), .pointer (some ⟨w.heap.size + 1, 0, none⟩)] (fun _ _ => enters_ Try.func71 (by kernel_rfl) rfl _ _) hn HS (fun x => T x a) (fun W hW i hi => Below1_calls (HT.later hW) w.heap.size (w.heap.size + 1) a i (blk_below H1 hW) (blk_below H2 hW))).mono ?_
  rintro e w1 ⟨u, rfl, hR, hb⟩
  clear H1 H2 HS HT
  go_wp2_with fail
  go_ret
  exact ⟨u, rfl, Kd.R_lower hR HB.size, below_step HB hb⟩
end Go.Proofs.Yteopponjfkeagaa.Lat

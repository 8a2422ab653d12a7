import Derived.Test.YtohhlkabejangaaMb0
namespace Go.Proofs.Ytohhlkabejangaa.Mb
set_option linter.unusedVariables false
set_option linter.unusedSimpArgs false
open Go.RowKit Go.Maps Go.Proofs.YtohhlkabejangaaW.PrintWords Go.Proofs.YtohhlkabejangaaW.PrintLast Go.Proofs.YtohhlkabejangaaW.PrintMore Go.Proofs.Ytohhlkabejangaa.PAs Go.Proofs.Ytohhlkabejangaa.As
/-- a group: its partitions, the time to wait, the generation, the last slot, the members -/
structure MG where
  p : Int
  w : Int
  g : Int
  s : Int
  L : List Me
def MG.cs (m : MG) (b : Nat) : Array Value := #[.int .i64 m.p, .int .i64 m.w, .int .i64 m.g, .int .i64 m.s, .map (some b)]
/-- block a is the group, block b its map -/
structure Tab (W : World) (a b : Nat) (m : MG) : Prop where
  cell : W.heap[a]? = some (.cells (m.cs b) 145 (0, 0))
  own : W.ownsMap Try.prog 9 (plainElem (H := Unit) Try.prog 3) b m.L.length (datM m.L)
  ris : RisM m.L
/-- all but two blocks stay -/
structure Far (W W' : World) (a b : Nat) : Prop where
  os : W'.os = W.os
  tape : W'.tape = W.tape
  output : W'.output = W.output
  size : W.heap.size ≤ W'.heap.size
  block : ∀ k, k < W.heap.size → k ≠ a → k ≠ b → W'.heap[k]? = W.heap[k]?
theorem Far.refl (W : World) (a b : Nat) : Far W W a b := ⟨rfl, rfl, rfl, Nat.le_refl _, fun _ _ _ _ => rfl⟩
theorem Far.trans {W W1 W2 : World} {a b : Nat} (h : Far W W1 a b) (k : Far W1 W2 a b) : Far W W2 a b :=
  ⟨k.os.trans h.os, k.tape.trans h.tape, k.output.trans h.output, Nat.le_trans h.size k.size, fun i hi h1 h2 => (k.block i (Nat.lt_of_lt_of_le hi h.size) h1 h2).trans (h.block i hi h1 h2)⟩
theorem Far.below {W W1 : World} {a b : Nat} (k : Below W.heap.size W W1) : Far W W1 a b := ⟨k.os, k.tape, k.output, k.size, fun i hi _ _ => k.block i hi⟩
theorem Far.grown {W W1 : World} {a b : Nat} (k : W.grownBy W1 (some b)) : Far W W1 a b := ⟨k.os, k.tape, k.output, k.size, fun i hi _ h => k.block i hi (fun e => h (Option.some.inj e))⟩
theorem Far.new {W W1 : World} {a b r : Nat} (k : W.grownBy W1 none) : Far W W1 a b := ⟨k.os, k.tape, k.output, k.size, fun i hi _ h => k.block i hi (by simp)⟩
theorem Far.set (W : World) (a b j : Nat) (u : Value) : Far W (W.setCell ⟨a, j, none⟩ u) a b :=
  ⟨rfl, rfl, rfl, by simp [World.setCell], fun i _ h _ => Below.heap_setCell W ⟨a, j, none⟩ u i h⟩
theorem Far.from {w W W' : World} {a b : Nat} (h : Below w.heap.size w W) (k : Far W W' a b) (ha : w.heap.size ≤ a) (hb : w.heap.size ≤ b) : Below w.heap.size w W' :=
  ⟨k.os.trans h.os, k.tape.trans h.tape, k.output.trans h.output, Nat.le_trans h.size k.size, fun i hi => (k.block i (Nat.lt_of_lt_of_le hi h.size) (by omega) (by omega)).trans (h.block i hi)⟩
theorem own_exact {w : World} {b n : Nat} {l : List Me} (h : w.ownsMap Try.prog 9 (plainElem (H := Unit) Try.prog 3) b n (datM l)) : w.ownsMap Try.prog 9 (plainElem (H := Unit) Try.prog 3) b l.length (datM l) := by
  obtain ⟨es, clock, hb, F, hs, hD⟩ := h
  refine ⟨es, clock, hb, F, ?_, hD⟩
  have h9 : (datM l) = .map (l.map entM) := rfl
  rw [h9] at hD
  injection hD with hD
  have := congrArg List.length hD
  rw [length_read, List.length_map] at this
  omega
theorem Tab.ne {W : World} {a b : Nat} {m : MG} (h : Tab W a b m) : a ≠ b := by
  intro e
  obtain ⟨es, clock, hb, _⟩ := h.own
  have := h.cell
  rw [e, hb] at this
  cases this
theorem Tab.lt {W : World} {a b : Nat} {m : MG} (h : Tab W a b m) : a < W.heap.size := (Array.getElem?_eq_some_iff.1 h.cell).1
theorem Tab.later {W W' : World} {a b : Nat} {m : MG} (h : Tab W a b m) (k : Below W.heap.size W W') : Tab W' a b m :=
  ⟨(k.block a h.lt).trans h.cell, h.own.kept (row := none) ⟨k.os, k.tape, k.output, k.size, fun i hi _ => k.block i hi⟩ (by simp), h.ris⟩
theorem Tab.set {W : World} {a b : Nat} {m m' : MG} (h : Tab W a b m) (j : Nat) (u : Value) (hc : (m.cs b).setIfInBounds j u = m'.cs b) (hL : m'.L = m.L) : Tab (W.setCell ⟨a, j, none⟩ u) a b m' :=
  ⟨blk_put h.cell j u hc, by rw [hL]; exact h.own.kept (row := some a) ⟨rfl, rfl, rfl, by simp [World.setCell], fun i hi hne => Below.heap_setCell W ⟨a, j, none⟩ u i (fun e => hne (by rw [e]))⟩ (fun e => h.ne (Option.some.inj e).symm), by rw [hL]; exact h.ris⟩
theorem Tab.turn {W W' : World} {a b n : Nat} {m : MG} {L : List Me} (h : Tab W a b m) (hg : W.grownBy W' (some b)) (ho : W'.ownsMap Try.prog 9 (plainElem (H := Unit) Try.prog 3) b n (datM L)) (hr : RisM L) : Tab W' a b { m with L := L } :=
  ⟨(hg.block a h.lt (fun e => h.ne (Option.some.inj e))).trans h.cell, own_exact ho, hr⟩
theorem Tab.c {W : World} {a b : Nat} {m : MG} (h : Tab W a b m) (j : Nat) : W.cell? ⟨a, j, none⟩ = (m.cs b)[j]? := blk_cell h.cell j
theorem Tab.z {W : World} {a b : Nat} {m : MG} (h : Tab W a b m) (j : Nat) : W.frozen? ⟨a, j, none⟩ = false := blk_frozen h.cell j
theorem zeroI (w : World) : (zeroValue 3).run Try.prog w = .ok (.int .i64 0) w := by kernel_rfl
theorem Tab.look {W : World} {a b : Nat} {m : MG} (h : Tab W a b m) (x : ByteArray) (hx : x.size ≤ 1000) :
    ∃ c : Int, (Instr.lookup 143 (.map (some b)) (.string x) true).run Try.prog W = .ok (.tuple #[.int .i64 c, .bool (isM m.L x.toList)]) W := by
  obtain ⟨v, ps, hrun, hv⟩ := h.own.look_ok str_law Try.underlying143 (zeroI W) (plainElem_int Try.underlying3 (by decide)) (key_B x hx)
  obtain ⟨c, rfl, _⟩ := plainElem_int_inv Try.underlying3 hv
  rw [hasM] at hrun
  exact ⟨c, hrun⟩
theorem Tab.len {W : World} {a b : Nat} {m : MG} (h : Tab W a b m) (ty : TypeId) : (Builtin.len_ #[143] ty #[.map (some b)]).run Try.prog W = .ok (.int .i64 (m.L.length : Int)) W := by
  have h9 := h.own.len Try.underlying143 ty
  rw [h9, sizeM]
/-! ### what calls come to -/
def okS (m : MG) (slot : Int) : Bool := decide (slot ≥ m.s) && decide (slot ≤ 1099511627776)
def sweepM (m : MG) (slot : Int) : MG := { m with s := slot, g := if (keepM m.w slot m.L).length < m.L.length then m.g + 1 else m.g, L := keepM m.w slot m.L }
def outM (m : MG) (slot : Int) : Int := (m.L.length : Int) - ((keepM m.w slot m.L).length : Int)
structure okM (m : MG) : Prop where
  p : 0 ≤ m.p ∧ m.p ≤ 4
  w : 1 ≤ m.w ∧ m.w ≤ 1048576
  g : 0 ≤ m.g
  s : 0 ≤ m.s ∧ m.s ≤ 1099511627776
  n : m.L.length ≤ 8
  a : ∀ x ∈ m.L, nameB x.f0 = true ∧ 0 ≤ x.f1 ∧ x.f1 ≤ 1099511627776
theorem okM_sweep {m : MG} (h : okM m) {slot : Int} (hs : okS m slot = true) : okM (sweepM m slot) := by
  unfold okS at hs
  simp only [Bool.and_eq_true, decide_eq_true_eq] at hs
  have hg := h.g
  have h0 := h.s
  refine ⟨h.p, h.w, ?_, ⟨by show 0 ≤ slot; omega, hs.2⟩, Nat.le_trans (List.length_filter_le _ _) h.n, fun x hx => h.a x (List.mem_filter.1 hx).1⟩
  unfold sweepM
  simp only []
  split <;> omega
set_option maxHeartbeats 16000000 in
set_option maxRecDepth 100000 in
theorem new_bad (p wt : Int) (w : World) (h : p < 0 ∨ p > 4 ∨ wt < 1 ∨ wt > 1048576) :
    Calls Try.prog 29 #[.int .i64 p, .int .i64 wt] w fun e w' => e = .returned (.tuple #[.pointer none, .int .i64 1]) ∧ Below w.heap.size w w' := by
  have hund : ∀ b, some undef = some (Value.bool b) → False := fun b h => by simp [undef] at h
  have hh : p < 0 ∨ ¬ p < 0 ∧ (p > 4 ∨ ¬ p > 4 ∧ (wt < 1 ∨ ¬ wt < 1 ∧ wt > 1048576)) := by omega
  clear h
  rcases hh with h | ⟨h, h1 | ⟨h1, h2 | ⟨h2, h3⟩⟩⟩
  · have c1 : decide (p < 0) = true := decide_eq_true h
    clear h
    go_enter Try.func29, Try.ntmps29
    go_wp2_with fail
    exact bodyPost_ret (v := .tuple #[.pointer none, .int .i64 1]) (by simp [results, Try.results29, go_sem]) rfl ⟨rfl, Below.refl _ _⟩
  · have c1 : decide (p < 0) = false := decide_eq_false h
    have c2 : decide (p > 4) = true := decide_eq_true h1
    have c2' : decide (4 < p) = true := decide_eq_true h1
    clear h h1
    go_enter Try.func29, Try.ntmps29
    go_wp2_with fail
    exact bodyPost_ret (v := .tuple #[.pointer none, .int .i64 1]) (by simp [results, Try.results29, go_sem]) rfl ⟨rfl, Below.refl _ _⟩
  · have c1 : decide (p < 0) = false := decide_eq_false h
    have c2 : decide (p > 4) = false := decide_eq_false h1
    have c2' : decide (4 < p) = false := decide_eq_false h1
    have c3 : decide (wt < 1) = true := decide_eq_true h2
    clear h h1 h2
    go_enter Try.func29, Try.ntmps29
    go_wp2_with fail
    exact bodyPost_ret (v := .tuple #[.pointer none, .int .i64 1]) (by simp [results, Try.results29, go_sem]) rfl ⟨rfl, Below.refl _ _⟩
  · have c1 : decide (p < 0) = false := decide_eq_false h
    have c2 : decide (p > 4) = false := decide_eq_false h1
    have c2' : decide (4 < p) = false := decide_eq_false h1
    have c3 : decide (wt < 1) = false := decide_eq_false h2
    have c4 : decide (wt > 1048576) = true := decide_eq_true h3
    have c4' : decide (1048576 < wt) = true := decide_eq_true h3
    clear h h1 h2 h3
    go_enter Try.func29, Try.ntmps29
    go_wp2_with fail
    exact bodyPost_ret (v := .tuple #[.pointer none, .int .i64 1]) (by simp [results, Try.results29, go_sem]) rfl ⟨rfl, Below.refl _ _⟩
set_option maxHeartbeats 16000000 in
set_option maxRecDepth 100000 in
theorem new_calls (p wt : Int) (w : World) (h : 0 ≤ p ∧ p ≤ 4 ∧ 1 ≤ wt ∧ wt ≤ 1048576) :
    Calls Try.prog 29 #[.int .i64 p, .int .i64 wt] w fun e w' => ∃ a b, e = .returned (.tuple #[.pointer (some ⟨a, 0, none⟩), .int .i64 0]) ∧ Tab w' a b ⟨p, wt, 0, 0, []⟩ ∧ w.heap.size ≤ a ∧ w.heap.size ≤ b ∧ Below w.heap.size w w' := by
  have hund : ∀ b, some undef = some (Value.bool b) → False := fun b h => by simp [undef] at h
  have hmm := @run_makeMap Try.prog
  obtain ⟨h1, h2, h3, h4⟩ := h
  have c1 : decide (p < 0) = false := decide_eq_false (by omega)
  have c2 : decide (p > 4) = false := decide_eq_false (by omega)
  have c2' : decide (4 < p) = false := decide_eq_false (by omega)
  have c3 : decide (wt < 1) = false := decide_eq_false (by omega)
  have c4 : decide (wt > 1048576) = false := decide_eq_false (by omega)
  have c4' : decide (1048576 < wt) = false := decide_eq_false (by omega)
  clear h1 h2 h3 h4
  go_enter Try.func29, Try.ntmps29
  go_wp2_with (first
    | ((with_reducible refine gate_dst (N := 24) rfl ?_); refine box_event rfl (N := 24) rfl (cs := #[.int .i64 p, .int .i64 wt, .int .i64 0, .int .i64 0, .map (some w.heap.size)]) (t := 145) ?hr ?_; (case hr => first | (go_simp; done) | (go_simp; rfl)); intro g3 hg3 w1 hbx hbl; have HB := Aside0.mk hbl; have G3 := Aside0.mk hg3; have Y := Aside0.mk hbx; clear hbl hg3 hbx))
  refine bodyPost_ret (v := .tuple #[.pointer (some ⟨g3, 0, none⟩), .int .i64 0]) (by simp [results, Try.results29, go_sem]) rfl ?_
  refine ⟨g3, w.heap.size, rfl, ⟨Y.out, ?_, List.Pairwise.nil⟩, ?_, Nat.le_refl _, below_step (below_alloc (Below.refl _ _) _) HB.out⟩
  · exact (World.ownsMap_made w _ _ _).kept (row := none) ⟨HB.out.os, HB.out.tape, HB.out.output, HB.out.size, fun i hi _ => HB.out.block i hi⟩ (by simp)
  · rw [G3.out]
    simp
set_option maxHeartbeats 16000000 in
set_option maxRecDepth 100000 in
theorem may_calls (a b : Nat) (m : MG) (slot : Int) (w : World) (hT : Tab w a b m) :
    Calls Try.prog 89 #[.pointer (some ⟨a, 0, none⟩), .int .i64 slot] w fun e w' => e = .returned (.bool (okS m slot)) ∧ Below w.heap.size w w' := by
  have hund : ∀ b, some undef = some (Value.bool b) → False := fun b h => by simp [undef] at h
  have hc : w.cell? ⟨a, 3, none⟩ = some (.int .i64 m.s) := hT.c 3
  clear hT
  unfold okS
  obtain ⟨b1, hb1⟩ : ∃ b1, decide (slot ≥ m.s) = b1 := ⟨_, rfl⟩
  rw [hb1]
  cases b1 with
  | false =>
    go_enter Try.func89, Try.ntmps89
    go_wp2_with fail
    go_ret
    exact ⟨rfl, Below.refl _ _⟩
  | true =>
    go_enter Try.func89, Try.ntmps89
    go_wp2_with fail
    go_ret
    exact ⟨by simp, Below.refl _ _⟩
set_option maxHeartbeats 16000000 in
set_option maxRecDepth 100000 in
theorem is_calls (a b : Nat) (m : MG) (x : ByteArray) (hx : x.size ≤ 1000) (w : World) (hT : Tab w a b m) :
    Calls Try.prog 88 #[.pointer (some ⟨a, 0, none⟩), .string x] w fun e w' => e = .returned (.bool (isM m.L x.toList)) ∧ Below w.heap.size w w' := by
  have hc : w.cell? ⟨a, 4, none⟩ = some (.map (some b)) := hT.c 4
  obtain ⟨c, hlk⟩ := hT.look x hx
  clear hT
  go_enter Try.func88, Try.ntmps88
  go_wp2_with fail
  go_ret
  exact ⟨rfl, Below.refl _ _⟩
end Go.Proofs.Ytohhlkabejangaa.Mb

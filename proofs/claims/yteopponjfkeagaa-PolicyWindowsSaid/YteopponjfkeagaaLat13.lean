import Derived.Test.YteopponjfkeagaaLat12
namespace Go.Proofs.Yteopponjfkeagaa.Lat
open Go.RowKit Go.Maps Go.Proofs.YteopponjfkeagaaW.PrintWords Go.Proofs.YteopponjfkeagaaW.PrintLast Go.Proofs.YteopponjfkeagaaW.PrintMore
set_option linter.unusedVariables false
set_option linter.unusedSimpArgs false

theorem IsLat.later {w w' : World} {g n : Nat} {F : Nat → Bool} (h : IsLat w g n F) (hb : Below w.heap.size w w') : IsLat w' g n F := by
  obtain ⟨jm, mm, h1, h2, h3⟩ := h
  exact ⟨jm, mm, blk_below h1 hb, h2.later hb, h3.later hb⟩
section
variable {w : World} {g n : Nat} {F : Nat → Bool}
theorem lat_Join (h : IsLat w g n F) (hn : n ≤ 6) (a b : Int) : Calls Try.prog 19 #[P g, .int .i64 a, .int .i64 b] w fun e w' => e = .returned (.tuple #[.int .i64 (findF n (jT n F) a b).1, .int .i64 (findF n (jT n F) a b).2]) ∧ Below w.heap.size w w' := by
  obtain ⟨jm, mm, h1, h2, h3⟩ := h
  exact Join_calls h1 hn h2 a b
theorem lat_Meet (h : IsLat w g n F) (hn : n ≤ 6) (a b : Int) : Calls Try.prog 20 #[P g, .int .i64 a, .int .i64 b] w fun e w' => e = .returned (.tuple #[.int .i64 (findF n (mT n F) a b).1, .int .i64 (findF n (mT n F) a b).2]) ∧ Below w.heap.size w w' := by
  obtain ⟨jm, mm, h1, h2, h3⟩ := h
  exact Meet_calls h1 hn h3 a b
theorem lat_Top (h : IsLat w g n F) : Calls Try.prog 24 #[P g] w fun e w' => e = .returned (.int .i64 (least (jT n F) n)) ∧ Below w.heap.size w w' := by
  obtain ⟨jm, mm, h1, h2, h3⟩ := h
  exact Top_calls h1
theorem lat_Bottom (h : IsLat w g n F) : Calls Try.prog 26 #[P g] w fun e w' => e = .returned (.int .i64 (least (mT n F) n)) ∧ Below w.heap.size w w' := by
  obtain ⟨jm, mm, h1, h2, h3⟩ := h
  exact Bottom_calls h1
theorem lat_Flows (h : IsLat w g n F) (hn : n ≤ 6) (a b : Int) : Calls Try.prog 21 #[P g, .int .i64 a, .int .i64 b] w fun e w' => e = .returned (.bool (flowsF n F a b)) ∧ Below w.heap.size w w' := by
  obtain ⟨jm, mm, h1, h2, h3⟩ := h
  exact Flows_calls h1 hn a b
theorem lat_Size (h : IsLat w g n F) : Calls Try.prog 23 #[P g] w fun e w' => e = .returned (.int .i64 n) ∧ Below w.heap.size w w' := by
  obtain ⟨jm, mm, h1, h2, h3⟩ := h
  exact Size_calls g n F jm mm _ _ w h1
theorem lat_flowing (h : IsLat w g n F) (hn : n ≤ 6) : Flowing (P g) (flowsF n F) w := by
  obtain ⟨jm, mm, h1, h2, h3⟩ := h
  exact flowing_at h1 hn
theorem lat_sized (h : IsLat w g n F) : Sized (P g) n w := by
  obtain ⟨jm, mm, h1, h2, h3⟩ := h
  exact sized_at h1
end

/-- a row of its own that holds just these -/
theorem bools_C {w : World} {g : Nat} {l : List Bool} (hg : w.heap[g]? = some (.cells (l.map Value.bool).toArray 4 (0, 0))) (hl : l.length ≤ 9223372036854775807) : Kd.bool.C w (some ⟨g, 0, none⟩) l.length l :=
  ⟨rfl, hl, fun _ => ⟨_, rfl, fun j p hj => ⟨[.bool p], rfl, rfl, fun i u hu => by
    obtain ⟨rfl, rfl⟩ : i = 0 ∧ u = .bool p := by
      cases i with
      | zero => exact ⟨rfl, by simpa using hu.symm⟩
      | succ i => simp at hu
    have : w.cell? ⟨g, j, none⟩ = some (.bool p) := (blk_cell hg j).trans (by simp [hj])
    have e : (⟨g, 0, none⟩ : Addr).add (j * Kd.bool.sz + 0) = ⟨g, j, none⟩ := by
      show (⟨g, 0, none⟩ : Addr).add (j * 1 + 0) = ⟨g, j, none⟩
      simp [Addr.add] <;> omega
    rw [e]
    exact this⟩⟩⟩
theorem rows_C {w : World} {h : Nat} {f : List (List Bool)} {cs : Array Value} (hh : w.heap[h]? = some (.cells cs 37 (0, 0))) (hl : f.length ≤ 9223372036854775807)
    (hr : ∀ (j : Nat) (row : List Bool), f[j]? = some row → ∃ (A : Option Addr) (c : Nat), cs[j]? = some (Value.slice A row.length c) ∧ row.length ≤ c ∧ Kd.bool.C w A row.length row) : Kd.C (Kd.slice 4 Kd.bool) w (some ⟨h, 0, none⟩) f.length f :=
  ⟨rfl, hl, fun _ => ⟨_, rfl, fun j p hj => by
    obtain ⟨A, c, h1, h2, h3⟩ := hr j p hj
    refine ⟨[.slice A p.length c], rfl, ⟨A, c, rfl, h2, h3⟩, fun i u hu => ?_⟩
    obtain ⟨rfl, rfl⟩ : i = 0 ∧ u = .slice A p.length c := by
      cases i with
      | zero => exact ⟨rfl, by simpa using hu.symm⟩
      | succ i => simp at hu
    have : w.cell? ⟨h, j, none⟩ = some (.slice A p.length c) := (blk_cell hh j).trans h1
    have e : (⟨h, 0, none⟩ : Addr).add (j * (Kd.slice 4 Kd.bool).sz + 0) = ⟨h, j, none⟩ := by
      show (⟨h, 0, none⟩ : Addr).add (j * 1 + 0) = ⟨h, j, none⟩
      simp [Addr.add] <;> omega
    rw [e]
    exact this⟩⟩

def f4 : List (List Bool) := [[true, true, true, true], [false, true, false, true], [false, false, true, true], [false, false, false, true]]
abbrev row4 (b0 b1 b2 b3 : Bool) : Obj := .cells #[.bool b0, .bool b1, .bool b2, .bool b3] 4
abbrev sl4 (g : Nat) : Value := .slice (some ⟨g, 0, none⟩) 4 4
abbrev W4 (w : World) : World := ((((w.alloc (row4 true true true true)).alloc (row4 false true false true)).alloc (row4 false false true true)).alloc (row4 false false false true)).alloc (.cells #[sl4 w.heap.size, sl4 (w.heap.size + 1), sl4 (w.heap.size + 1 + 1), sl4 (w.heap.size + 1 + 1 + 1)] 37)
theorem four_blocks (w : World) (o0 o1 o2 o3 o4 : Obj) : (((((w.alloc o0).alloc o1).alloc o2).alloc o3).alloc o4).heap[w.heap.size]? = some o0 ∧ (((((w.alloc o0).alloc o1).alloc o2).alloc o3).alloc o4).heap[w.heap.size + 1]? = some o1 ∧ (((((w.alloc o0).alloc o1).alloc o2).alloc o3).alloc o4).heap[w.heap.size + 1 + 1]? = some o2 ∧ (((((w.alloc o0).alloc o1).alloc o2).alloc o3).alloc o4).heap[w.heap.size + 1 + 1 + 1]? = some o3 ∧ (((((w.alloc o0).alloc o1).alloc o2).alloc o3).alloc o4).heap[w.heap.size + 1 + 1 + 1 + 1]? = some o4 := by
  have e1 : (w.alloc o0).heap.size = w.heap.size + 1 := by simp
  have e2 : ((w.alloc o0).alloc o1).heap.size = w.heap.size + 1 + 1 := by simp
  have e3 : (((w.alloc o0).alloc o1).alloc o2).heap.size = w.heap.size + 1 + 1 + 1 := by simp
  have e4 : ((((w.alloc o0).alloc o1).alloc o2).alloc o3).heap.size = w.heap.size + 1 + 1 + 1 + 1 := by simp
  have g0 := blk_new w o0
  have g1 := blk_new (w.alloc o0) o1
  have g2 := blk_new ((w.alloc o0).alloc o1) o2
  have g3 := blk_new (((w.alloc o0).alloc o1).alloc o2) o3
  have g4 := blk_new ((((w.alloc o0).alloc o1).alloc o2).alloc o3) o4
  rw [e1] at g1
  rw [e2] at g2
  rw [e3] at g3
  rw [e4] at g4
  exact ⟨blk_alloc (blk_alloc (blk_alloc (blk_alloc g0 _) _) _) _, blk_alloc (blk_alloc (blk_alloc g1 _) _) _, blk_alloc (blk_alloc g2 _) _, blk_alloc g3 _, g4⟩
theorem four_C (w : World) : Kd.C (Kd.slice 4 Kd.bool) (W4 w) (some ⟨w.heap.size + 1 + 1 + 1 + 1, 0, none⟩) 4 f4 := by
  obtain ⟨g0, g1, g2, g3, g4⟩ := four_blocks w (row4 true true true true) (row4 false true false true) (row4 false false true true) (row4 false false false true) (.cells #[sl4 w.heap.size, sl4 (w.heap.size + 1), sl4 (w.heap.size + 1 + 1), sl4 (w.heap.size + 1 + 1 + 1)] 37)
  refine rows_C g4 (by decide) ?_
  intro j row hj
  rcases j with _ | _ | _ | _ | j
  · obtain rfl := Option.some.inj hj
    exact ⟨_, 4, rfl, by decide, bools_C (l := [true, true, true, true]) g0 (by decide)⟩
  · obtain rfl := Option.some.inj hj
    exact ⟨_, 4, rfl, by decide, bools_C (l := [false, true, false, true]) g1 (by decide)⟩
  · obtain rfl := Option.some.inj hj
    exact ⟨_, 4, rfl, by decide, bools_C (l := [false, false, true, true]) g2 (by decide)⟩
  · obtain rfl := Option.some.inj hj
    exact ⟨_, 4, rfl, by decide, bools_C (l := [false, false, false, true]) g3 (by decide)⟩
  · simp [f4] at hj
theorem below5 (w : World) (o0 o1 o2 o3 o4 : Obj) : Below w.heap.size w (((((w.alloc o0).alloc o1).alloc o2).alloc o3).alloc o4) := below_alloc (below_alloc (below_alloc (below_alloc (below_alloc (Below.refl _ _) _) _) _) _) _
theorem sq4 : sq f4 := ⟨by decide, by decide, by decide⟩
theorem order4 : orderP 4 (flR f4 4) := by
  unfold orderP okA okB okC
  decide +kernel
theorem full4 : full 4 (lt 4 (flR f4 4)) := fun i j hi hj => (show ∀ i : Nat, i < 4 → ∀ j : Nat, j < 4 → G 4 (lt 4 (flR f4 4)) i j ≠ -1 by decide +kernel) i hi j hj
theorem full4' : full 4 (gt 4 (flR f4 4)) := fun i j hi hj => (show ∀ i : Nat, i < 4 → ∀ j : Nat, j < 4 → G 4 (gt 4 (flR f4 4)) i j ≠ -1 by decide +kernel) i hi j hj
theorem new4 {e : Ending} {w' : World} (h : NewTells f4 e w') : ∃ g, e = .returned (.tuple #[P g, .int .i64 0]) ∧ IsLat w' g 4 (flR f4 4) := by
  rcases h with ⟨h, _⟩ | ⟨_, h, _⟩ | ⟨_, _, h, _⟩ | ⟨_, _, _, _, h⟩
  · exact absurd sq4 h
  · exact absurd order4 h
  · exact absurd ⟨full4, full4'⟩ h
  · exact h
theorem join4 : findF 4 (jT 4 (flR f4 4)) 1 2 = (3, 0) := by decide +kernel
theorem meet4 : findF 4 (mT 4 (flR f4 4)) 1 2 = (0, 0) := by decide +kernel
theorem top4 : least (jT 4 (flR f4 4)) 4 = 3 := by decide +kernel
theorem bottom4 : least (mT 4 (flR f4 4)) 4 = 0 := by decide +kernel
theorem flows4 : flowsF 4 (flR f4 4) 1 3 = true := by decide +kernel
theorem flows4' : flowsF 4 (flR f4 4) 1 2 = false := by decide +kernel

set_option maxHeartbeats 4000000 in
theorem four_calls (w : World) : Calls Try.prog 16 #[] w fun e w' => e = .returned (.bool true) ∧ Below w.heap.size w w' := by
  have HC := Aside0.mk (four_C w)
  have HB : Aside0 (Below w.heap.size w (W4 w)) := Aside0.mk (below5 w (row4 true true true true) (row4 false true false true) (row4 false false true true) (row4 false false false true) (.cells #[sl4 w.heap.size, sl4 (w.heap.size + 1), sl4 (w.heap.size + 1 + 1), sl4 (w.heap.size + 1 + 1 + 1)] 37))
  go_enter Try.func16, Try.ntmps16
  go_wp2_with fail
  change Calls _ _ _ (W4 w) _
  generalize W4 w = W at *
  refine (New_calls' (n := 4) f4 ⟨rfl⟩ HC.out).mono ?_
  rintro e w1 ⟨hnew, hb⟩
  obtain ⟨g, rfl, hlat⟩ := new4 hnew
  clear hnew HC
  have HL := Aside0.mk hlat
  replace HB := Aside0.mk (below_step HB.out hb)
  clear hb hlat
  go_wp2_with fail
  refine (lat_Join HL.out (by decide) 1 2).mono ?_
  rw [join4]
  rintro e w2 ⟨rfl, hb⟩
  replace HL := Aside0.mk (HL.out.later hb)
  replace HB := Aside0.mk (below_step HB.out hb)
  clear hb
  go_wp2_with fail
  refine (lat_Meet HL.out (by decide) 1 2).mono ?_
  rw [meet4]
  rintro e w3 ⟨rfl, hb⟩
  replace HL := Aside0.mk (HL.out.later hb)
  replace HB := Aside0.mk (below_step HB.out hb)
  clear hb
  go_wp2_with fail
  refine (lat_Top HL.out).mono ?_
  rw [top4]
  rintro e w4 ⟨rfl, hb⟩
  replace HL := Aside0.mk (HL.out.later hb)
  replace HB := Aside0.mk (below_step HB.out hb)
  clear hb
  go_wp2_with fail
  refine (lat_Bottom HL.out).mono ?_
  rw [bottom4]
  rintro e w5 ⟨rfl, hb⟩
  replace HL := Aside0.mk (HL.out.later hb)
  replace HB := Aside0.mk (below_step HB.out hb)
  clear hb
  go_wp2_with fail
  refine (lat_Flows HL.out (by decide) 1 3).mono ?_
  rw [flows4]
  rintro e w6 ⟨rfl, hb⟩
  replace HL := Aside0.mk (HL.out.later hb)
  replace HB := Aside0.mk (below_step HB.out hb)
  clear hb
  go_wp2_with fail
  refine (lat_Flows HL.out (by decide) 1 2).mono ?_
  rw [flows4']
  rintro e w7 ⟨rfl, hb⟩
  replace HL := Aside0.mk (HL.out.later hb)
  replace HB := Aside0.mk (below_step HB.out hb)
  clear hb
  go_wp2_with fail
  refine (lat_Size HL.out).mono ?_
  rintro e w8 ⟨rfl, hb⟩
  replace HB := Aside0.mk (below_step HB.out hb)
  clear hb HL
  go_wp2_with fail
  go_ret
  exact ⟨rfl, HB.out⟩
end Go.Proofs.Yteopponjfkeagaa.Lat

import Derived.Test.YteopponjfkeagaaMb
import Derived.Test.YteopponjfkeagaaPLatticex
import Derived.Deep.Grids
namespace Go.Proofs.Yteopponjfkeagaa.Lat
open Go.RowKit Go.Maps Go.Proofs.YteopponjfkeagaaW.PrintWords Go.Proofs.YteopponjfkeagaaW.PrintLast Go.Proofs.YteopponjfkeagaaW.PrintMore
set_option linter.unusedVariables false
set_option linter.unusedSimpArgs false

theorem IsLat.later {w w' : World} {g n : Nat} {F : Nat → Bool} (h : IsLat w g n F) (hb : Below w.heap.size w w') : IsLat w' g n F := by
  obtain ⟨jm, mm, h1, h2, h3⟩ := h
  exact ⟨jm, mm, blk_below h1 hb, h2.later hb, h3.later hb⟩
section
variable {w : World} {g n : Nat} {F : Nat → Bool}
theorem lat_Join (h : IsLat w g n F) (hn : n ≤ 6) (a b : Int) : Calls Try.prog 19 #[P g, .int .i64 a, .int .i64 b] w fun e w' => e = .returned (.tuple #[.int .i64 (findF n (jT n F) a b).1, .int .i64 (findF n (jT n F) a b).2]) ∧ Below w.heap.size w w' := by
  obtain ⟨jm, mm, h1, h2, h3⟩ := h
  exact Join_calls h1 hn h2 a b
theorem lat_Meet (h : IsLat w g n F) (hn : n ≤ 6) (a b : Int) : Calls Try.prog 20 #[P g, .int .i64 a, .int .i64 b] w fun e w' => e = .returned (.tuple #[.int .i64 (findF n (mT n F) a b).1, .int .i64 (findF n (mT n F) a b).2]) ∧ Below w.heap.size w w' := by
  obtain ⟨jm, mm, h1, h2, h3⟩ := h
  exact Meet_calls h1 hn h3 a b
theorem lat_Top (h : IsLat w g n F) : Calls Try.prog 24 #[P g] w fun e w' => e = .returned (.int .i64 (least (jT n F) n)) ∧ Below w.heap.size w w' := by
  obtain ⟨jm, mm, h1, h2, h3⟩ := h
  exact Top_calls h1
theorem lat_Bottom (h : IsLat w g n F) : Calls Try.prog 26 #[P g] w fun e w' => e = .returned (.int .i64 (least (mT n F) n)) ∧ Below w.heap.size w w' := by
  obtain ⟨jm, mm, h1, h2, h3⟩ := h
  exact Bottom_calls h1
theorem lat_Flows (h : IsLat w g n F) (hn : n ≤ 6) (a b : Int) : Calls Try.prog 21 #[P g, .int .i64 a, .int .i64 b] w fun e w' => e = .returned (.bool (flowsF n F a b)) ∧ Below w.heap.size w w' := by
  obtain ⟨jm, mm, h1, h2, h3⟩ := h
  exact Flows_calls h1 hn a b
theorem lat_Size (h : IsLat w g n F) : Calls Try.prog 23 #[P g] w fun e w' => e = .returned (.int .i64 n) ∧ Below w.heap.size w w' := by
  obtain ⟨jm, mm, h1, h2, h3⟩ := h
  exact Size_calls g n F jm mm _ _ w h1
theorem lat_flowing (h : IsLat w g n F) (hn : n ≤ 6) : Flowing (P g) (flowsF n F) w := by
  obtain ⟨jm, mm, h1, h2, h3⟩ := h
  exact flowing_at h1 hn
theorem lat_sized (h : IsLat w g n F) : Sized (P g) n w := by
  obtain ⟨jm, mm, h1, h2, h3⟩ := h
  exact sized_at h1
end

/-- a row of its own that holds just these -/
theorem bools_C {w : World} {g : Nat} {l : List Bool} (hg : w.heap[g]? = some (.cells (l.map Value.bool).toArray 4 (0, 0))) (hl : l.length ≤ 9223372036854775807) : Kd.bool.C w (some ⟨g, 0, none⟩) l.length l :=
  ⟨rfl, hl, fun _ => ⟨_, rfl, fun j p hj => ⟨[.bool p], rfl, rfl, fun i u hu => by
    obtain ⟨rfl, rfl⟩ : i = 0 ∧ u = .bool p := by
      cases i with
      | zero => exact ⟨rfl, by simpa using hu.symm⟩
      | succ i => simp at hu
    have : w.cell? ⟨g, j, none⟩ = some (.bool p) := (blk_cell hg j).trans (by simp [hj])
    have e : (⟨g, 0, none⟩ : Addr).add (j * Kd.bool.sz + 0) = ⟨g, j, none⟩ := by
      show (⟨g, 0, none⟩ : Addr).add (j * 1 + 0) = ⟨g, j, none⟩
      simp [Addr.add] <;> omega
    rw [e]
    exact this⟩⟩⟩
theorem rows_C {w : World} {h : Nat} {f : List (List Bool)} {cs : Array Value} (hh : w.heap[h]? = some (.cells cs 37 (0, 0))) (hl : f.length ≤ 9223372036854775807)
    (hr : ∀ (j : Nat) (row : List Bool), f[j]? = some row → ∃ (A : Option Addr) (c : Nat), cs[j]? = some (Value.slice A row.length c) ∧ row.length ≤ c ∧ Kd.bool.C w A row.length row) : Kd.C (Kd.slice 4 Kd.bool) w (some ⟨h, 0, none⟩) f.length f :=
  ⟨rfl, hl, fun _ => ⟨_, rfl, fun j p hj => by
    obtain ⟨A, c, h1, h2, h3⟩ := hr j p hj
    refine ⟨[.slice A p.length c], rfl, ⟨A, c, rfl, h2, h3⟩, fun i u hu => ?_⟩
    obtain ⟨rfl, rfl⟩ : i = 0 ∧ u = .slice A p.length c := by
      cases i with
      | zero => exact ⟨rfl, by simpa using hu.symm⟩
      | succ i => simp at hu
    have : w.cell? ⟨h, j, none⟩ = some (.slice A p.length c) := (blk_cell hh j).trans h1
    have e : (⟨h, 0, none⟩ : Addr).add (j * (Kd.slice 4 Kd.bool).sz + 0) = ⟨h, j, none⟩ := by
      show (⟨h, 0, none⟩ : Addr).add (j * 1 + 0) = ⟨h, j, none⟩
      simp [Addr.add] <;> omega
    rw [e]
    exact this⟩⟩

def f4 : List (List Bool) := [[true, true, true, true], [false, true, false, true], [false, false, true, true], [false, false, false, true]]
abbrev row4 (b0 b1 b2 b3 : Bool) : Obj := .cells #[.bool b0, .bool b1, .bool b2, .bool b3] 4
abbrev sl4 (g : Nat) : Value := .slice (some ⟨g, 0, none⟩) 4 4
abbrev W4 (w : World) : World := ((((w.alloc (row4 true true true true)).alloc (row4 false true false true)).alloc (row4 false false true true)).alloc (row4 false false false true)).alloc (.cells #[sl4 w.heap.size, sl4 (w.heap.size + 1), sl4 (w.heap.size + 1 + 1), sl4 (w.heap.size + 1 + 1 + 1)] 37)
theorem four_blocks (w : World) (o0 o1 o2 o3 o4 : Obj) : (((((w.alloc o0).alloc o1).alloc o2).alloc o3).alloc o4).heap[w.heap.size]? = some o0 ∧ (((((w.alloc o0).alloc o1).alloc o2).alloc o3).alloc o4).heap[w.heap.size + 1]? = some o1 ∧ (((((w.alloc o0).alloc o1).alloc o2).alloc o3).alloc o4).heap[w.heap.size + 1 + 1]? = some o2 ∧ (((((w.alloc o0).alloc o1).alloc o2).alloc o3).alloc o4).heap[w.heap.size + 1 + 1 + 1]? = some o3 ∧ (((((w.alloc o0).alloc o1).alloc o2).alloc o3).alloc o4).heap[w.heap.size + 1 + 1 + 1 + 1]? = some o4 := by
  have e1 : (w.alloc o0).heap.size = w.heap.size + 1 := by simp
  have e2 : ((w.alloc o0).alloc o1).heap.size = w.heap.size + 1 + 1 := by simp
  have e3 : (((w.alloc o0).alloc o1).alloc o2).heap.size = w.heap.size + 1 + 1 + 1 := by simp
  have e4 : ((((w.alloc o0).alloc o1).alloc o2).alloc o3).heap.size = w.heap.size + 1 + 1 + 1 + 1 := by simp
  have g0 := blk_new w o0
  have g1 := blk_new (w.alloc o0) o1
  have g2 := blk_new ((w.alloc o0).alloc o1) o2
  have g3 := blk_new (((w.alloc o0).alloc o1).alloc o2) o3
  have g4 := blk_new ((((w.alloc o0).alloc o1).alloc o2).alloc o3) o4
  rw [e1] at g1
  rw [e2] at g2
  rw [e3] at g3
  rw [e4] at g4
  exact ⟨blk_alloc (blk_alloc (blk_alloc (blk_alloc g0 _) _) _) _, blk_alloc (blk_alloc (blk_alloc g1 _) _) _, blk_alloc (blk_alloc g2 _) _, blk_alloc g3 _, g4⟩
theorem four_C (w : World) : Kd.C (Kd.slice 4 Kd.bool) (W4 w) (some ⟨w.heap.size + 1 + 1 + 1 + 1, 0, none⟩) 4 f4 := by
  obtain ⟨g0, g1, g2, g3, g4⟩ := four_blocks w (row4 true true true true) (row4 false true false true) (row4 false false true true) (row4 false false false true) (.cells #[sl4 w.heap.size, sl4 (w.heap.size + 1), sl4 (w.heap.size + 1 + 1), sl4 (w.heap.size + 1 + 1 + 1)] 37)
  refine rows_C g4 (by decide) ?_
  intro j row hj
  rcases j with _ | _ | _ | _ | j
  · obtain rfl := Option.some.inj hj
    exact ⟨_, 4, rfl, by decide, bools_C (l := [true, true, true, true]) g0 (by decide)⟩
  · obtain rfl := Option.some.inj hj
    exact ⟨_, 4, rfl, by decide, bools_C (l := [false, true, false, true]) g1 (by decide)⟩
  · obtain rfl := Option.some.inj hj
    exact ⟨_, 4, rfl, by decide, bools_C (l := [false, false, true, true]) g2 (by decide)⟩
  · obtain rfl := Option.some.inj hj
    exact ⟨_, 4, rfl, by decide, bools_C (l := [false, false, false, true]) g3 (by decide)⟩
  · simp [f4] at hj
theorem below5 (w : World) (o0 o1 o2 o3 o4 : Obj) : Below w.heap.size w (((((w.alloc o0).alloc o1).alloc o2).alloc o3).alloc o4) := below_alloc (below_alloc (below_alloc (below_alloc (below_alloc (Below.refl _ _) _) _) _) _) _
theorem sq4 : sq f4 := ⟨by decide, by decide, by decide⟩
theorem order4 : orderP 4 (flR f4 4) := by
  unfold orderP okA okB okC
  decide +kernel
theorem full4 : full 4 (lt 4 (flR f4 4)) := fun i j hi hj => (show ∀ i : Nat, i < 4 → ∀ j : Nat, j < 4 → G 4 (lt 4 (flR f4 4)) i j ≠ -1 by decide +kernel) i hi j hj
theorem full4' : full 4 (gt 4 (flR f4 4)) := fun i j hi hj => (show ∀ i : Nat, i < 4 → ∀ j : Nat, j < 4 → G 4 (gt 4 (flR f4 4)) i j ≠ -1 by decide +kernel) i hi j hj
theorem new4 {e : Ending} {w' : World} (h : NewTells f4 e w') : ∃ g, e = .returned (.tuple #[P g, .int .i64 0]) ∧ IsLat w' g 4 (flR f4 4) := by
  rcases h with ⟨h, _⟩ | ⟨_, h, _⟩ | ⟨_, _, h, _⟩ | ⟨_, _, _, _, h⟩
  · exact absurd sq4 h
  · exact absurd order4 h
  · exact absurd ⟨full4, full4'⟩ h
  · exact h
theorem join4 : findF 4 (jT 4 (flR f4 4)) 1 2 = (3, 0) := by decide +kernel
theorem meet4 : findF 4 (mT 4 (flR f4 4)) 1 2 = (0, 0) := by decide +kernel
theorem top4 : least (jT 4 (flR f4 4)) 4 = 3 := by decide +kernel
theorem bottom4 : least (mT 4 (flR f4 4)) 4 = 0 := by decide +kernel
theorem flows4 : flowsF 4 (flR f4 4) 1 3 = true := by decide +kernel
theorem flows4' : flowsF 4 (flR f4 4) 1 2 = false := by decide +kernel

set_option maxHeartbeats 4000000 in
theorem four_calls (w : World) : Calls Try.prog 16 #[] w fun e w' => e = .returned (.bool true) ∧ Below w.heap.size w w' := by
  have HC := Aside0.mk (four_C w)
  have HB : Aside0 (Below w.heap.size w (W4 w)) := Aside0.mk (below5 w (row4 true true true true) (row4 false true false true) (row4 false false true true) (row4 false false false true) (.cells #[sl4 w.heap.size, sl4 (w.heap.size + 1), sl4 (w.heap.size + 1 + 1), sl4 (w.heap.size + 1 + 1 + 1)] 37))
  go_enter Try.func16, Try.ntmps16
  go_wp2_with fail
  change Calls _ _ _ (W4 w) _
  generalize W4 w = W at *
  refine (New_calls' (n := 4) f4 ⟨rfl⟩ HC.out).mono ?_
  rintro e w1 ⟨hnew, hb⟩
  obtain ⟨g, rfl, hlat⟩ := new4 hnew
  clear hnew HC
  have HL := Aside0.mk hlat
  replace HB := Aside0.mk (below_step HB.out hb)
  clear hb hlat
  go_wp2_with fail
  refine (lat_Join HL.out (by decide) 1 2).mono ?_
  rw [join4]
  rintro e w2 ⟨rfl, hb⟩
  replace HL := Aside0.mk (HL.out.later hb)
  replace HB := Aside0.mk (below_step HB.out hb)
  clear hb
  go_wp2_with fail
  refine (lat_Meet HL.out (by decide) 1 2).mono ?_
  rw [meet4]
  rintro e w3 ⟨rfl, hb⟩
  replace HL := Aside0.mk (HL.out.later hb)
  replace HB := Aside0.mk (below_step HB.out hb)
  clear hb
  go_wp2_with fail
  refine (lat_Top HL.out).mono ?_
  rw [top4]
  rintro e w4 ⟨rfl, hb⟩
  replace HL := Aside0.mk (HL.out.later hb)
  replace HB := Aside0.mk (below_step HB.out hb)
  clear hb
  go_wp2_with fail
  refine (lat_Bottom HL.out).mono ?_
  rw [bottom4]
  rintro e w5 ⟨rfl, hb⟩
  replace HL := Aside0.mk (HL.out.later hb)
  replace HB := Aside0.mk (below_step HB.out hb)
  clear hb
  go_wp2_with fail
  refine (lat_Flows HL.out (by decide) 1 3).mono ?_
  rw [flows4]
  rintro e w6 ⟨rfl, hb⟩
  replace HL := Aside0.mk (HL.out.later hb)
  replace HB := Aside0.mk (below_step HB.out hb)
  clear hb
  go_wp2_with fail
  refine (lat_Flows HL.out (by decide) 1 2).mono ?_
  rw [flows4']
  rintro e w7 ⟨rfl, hb⟩
  replace HL := Aside0.mk (HL.out.later hb)
  replace HB := Aside0.mk (below_step HB.out hb)
  clear hb
  go_wp2_with fail
  refine (lat_Size HL.out).mono ?_
  rintro e w8 ⟨rfl, hb⟩
  replace HB := Aside0.mk (below_step HB.out hb)
  clear hb HL
  go_wp2_with fail
  go_ret
  exact ⟨rfl, HB.out⟩
end Go.Proofs.Yteopponjfkeagaa.Lat
namespace Go.Proofs.Yteopponjfkeagaa.Lat
open Go.RowKit Go.Maps Go.Proofs.YteopponjfkeagaaW.PrintWords Go.Proofs.YteopponjfkeagaaW.PrintLast Go.Proofs.YteopponjfkeagaaW.PrintMore Go.Proofs.Yteopponjfkeagaa.PLattice
set_option linter.unusedVariables false
set_option linter.unusedSimpArgs false

/-- what flows by a table -/
abbrev TT (f : List (List Bool)) : Int → Int → Bool := flowsF f.length (flR f f.length)
theorem w64s (i : Nat) (h : i < 1000000) : wrap64 ((i : Int) + 1) = ((i + 1 : Nat) : Int) := by unfold wrap64; omega
theorem w64S (i : Nat) (h : i < 9223372036854775807) : wrap64 ((i : Int) + 1) = ((i + 1 : Nat) : Int) := by unfold wrap64; omega
theorem lti {a b : Nat} (h : a < b) : (a : Int) < (b : Int) := by omega
theorem nni (a : Nat) : (0 : Int) ≤ (a : Int) := by omega
section
variable {f : List (List Bool)} (hs : sq f)
include hs
theorem row_len (i : Nat) (hi : i < f.length) : (rd_L1 f i).length = f.length := by
  have := hs.2.2 i hi
  unfold rowOf at this
  unfold rd_L1
  rwa [Int.toNat_natCast]
theorem at_TT (i j : Nat) (hi : i < f.length) (hj : j < f.length) : rdOf false (rd_L1 f i) j = TT f i j := by
  unfold TT flowsF inN flR rdOf rd_L1
  have h6 := hs.2.1
  have e1 : (i * 6 + j) / 6 = i := by omega
  have e2 : (i * 6 + j) % 6 = j := by omega
  simp only [Int.toNat_natCast, e1, e2, if_pos hi]
  have d1 : decide ((0 : Int) ≤ (i : Int)) = true := decide_eq_true (by omega)
  have d2 : decide ((i : Int) < (f.length : Int)) = true := decide_eq_true (by omega)
  have d3 : decide ((0 : Int) ≤ (j : Int)) = true := decide_eq_true (by omega)
  have d4 : decide ((j : Int) < (f.length : Int)) = true := decide_eq_true (by omega)
  rw [d1, d2, d3, d4]
  rfl

/-- all that two flow to, the one flows to -/
def allG (T : Int → Int → Bool) (a b x : Nat) (s d : Nat) : Bool := (List.range' s d).all fun y => !(T a y && T b y) || T x y
theorem isJoin_l0 (a b x : Nat) (ha : a < f.length) (hb : b < f.length) (hx : x < f.length) : ∀ (d s k : Nat), s + d = f.length → d + 1 ≤ k → weighlockref04_isJoin.l0 k f a b x f.length s = some (allG (TT f) a b x s d)
  | 0, s, k, hd, hk => by
    obtain ⟨k, rfl⟩ : ∃ m, k = m + 1 := ⟨k - 1, by omega⟩
    unfold weighlockref04_isJoin.l0
    rw [if_neg (by omega)]
    rfl
  | d + 1, s, k, hd, hk => by
    obtain ⟨k, rfl⟩ : ∃ m, k = m + 1 := ⟨k - 1, by omega⟩
    have h6 := hs.2.1
    have ih := isJoin_l0 a b x ha hb hx d (s + 1) k (by omega) (by omega)
    have hss : s < f.length := by omega
    unfold weighlockref04_isJoin.l0
    rw [row_len hs a ha, row_len hs b hb, row_len hs x hx, at_TT hs a s ha hss, at_TT hs b s hb hss, at_TT hs x s hx hss, w64s s (by omega), ih]
    simp only [eq_true (lti hss), eq_true (lti ha), eq_true (lti hb), eq_true (lti hx), eq_true (nni a), eq_true (nni b), eq_true (nni x), eq_true (nni s), if_true]
    unfold allG
    rw [List.range'_succ, List.all_cons]
    cases TT f a s <;> cases TT f b s <;> cases TT f x s <;> simp
theorem isJoin_f (a b x : Nat) (ha : a < f.length) (hb : b < f.length) (hx : x < f.length) (k : Nat) (hk : f.length + 2 ≤ k) : weighlockref04_isJoin.f k f a b x = some (TT f a x && TT f b x && allG (TT f) a b x 0 f.length) := by
  obtain ⟨k, rfl⟩ : ∃ m, k = m + 1 := ⟨k - 1, by omega⟩
  have h0 := isJoin_l0 hs a b x ha hb hx f.length 0 k (by omega) (by omega)
  unfold weighlockref04_isJoin.f
  rw [row_len hs a ha, row_len hs b hb, at_TT hs a x ha hx, at_TT hs b x hb hx]
  unfold weighlockref04_isJoin.j0
  rw [show ((0 : Nat) : Int) = 0 from rfl] at h0
  simp only [eq_true (lti ha), eq_true (lti hb), eq_true (lti hx), eq_true (nni a), eq_true (nni b), eq_true (nni x), if_true, h0]
  cases TT f a x <;> cases TT f b x <;> simp
omit hs in
/-- the first label that is the join -/
def jF (n : Nat) (T : Int → Int → Bool) (a b : Nat) (s d : Nat) : Int :=
  (((List.range' s d).find? fun x : Nat => T a x && T b x && allG T a b x 0 n).map fun x : Nat => (x : Int)).getD (-1)
theorem Join_l0 (a b : Nat) (ha : a < f.length) (hb : b < f.length) : ∀ (d s k : Nat), s + d = f.length → d + f.length + 3 ≤ k → weighlockref04_Join.l0 k f a b f.length s = some (jF f.length (TT f) a b s d)
  | 0, s, k, hd, hk => by
    obtain ⟨k, rfl⟩ : ∃ m, k = m + 1 := ⟨k - 1, by omega⟩
    unfold weighlockref04_Join.l0
    rw [if_neg (by omega)]
    rfl
  | d + 1, s, k, hd, hk => by
    obtain ⟨k, rfl⟩ : ∃ m, k = m + 1 := ⟨k - 1, by omega⟩
    have h6 := hs.2.1
    have ih := Join_l0 a b ha hb d (s + 1) k (by omega) (by omega)
    unfold weighlockref04_Join.l0
    rw [if_pos (by omega), isJoin_f hs a b s ha hb (by omega) k (by omega), w64s s (by omega), ih, Option.bind_some]
    unfold jF
    rw [List.range'_succ, List.find?_cons]
    cases hq : (TT f a s && TT f b s && allG (TT f) a b s 0 f.length)
    · rw [if_neg (by decide)]
    · rw [if_pos rfl]
      rfl
omit hs in
theorem jF_G (n : Nat) (T : Int → Int → Bool) (a b : Nat) : jF n T a b 0 n = G n T a b := by
  unfold jF G greatestF pick
  rw [List.find?_map, List.find?_filter, List.range_eq_range']
  congr 2
  refine congrArg (fun p => List.find? p _) (funext fun x => ?_)
  rw [Bool.eq_iff_iff]
  simp [allG, List.all_map, List.all_filter, Function.comp_def]
theorem Join_f (a b : Nat) (ha : a < f.length) (hb : b < f.length) (k : Nat) (hk : 2 * f.length + 3 ≤ k) : weighlockref04_Join.f k f a b = some (G f.length (TT f) a b) := by
  have h := Join_l0 hs a b ha hb f.length 0 k (by omega) (by omega)
  unfold weighlockref04_Join.f
  rw [← jF_G]
  exact h
end
end Go.Proofs.Yteopponjfkeagaa.Lat
namespace Go.Proofs.Yteopponjfkeagaa.Lat
open Go.RowKit Go.Maps Go.Proofs.YteopponjfkeagaaW.PrintWords Go.Proofs.YteopponjfkeagaaW.PrintLast Go.Proofs.YteopponjfkeagaaW.PrintMore Go.Proofs.Yteopponjfkeagaa.PLattice
set_option linter.unusedVariables false
set_option linter.unusedSimpArgs false

/-! the table turned round -/
def trow (T : Int → Int → Bool) (a n : Nat) : List Bool := (List.range n).map fun b : Nat => T (b : Int) (a : Int)
def tr (f : List (List Bool)) : List (List Bool) := (List.range f.length).map fun a : Nat => trow (TT f) a f.length
theorem tr_length (f : List (List Bool)) : (tr f).length = f.length := by unfold tr; simp
theorem tr_row (f : List (List Bool)) (i : Nat) (hi : i < f.length) : rowOf (tr f) i = trow (TT f) i f.length := by
  unfold rowOf tr
  rw [List.getD_eq_getElem?_getD, List.getElem?_map, List.getElem?_range hi]
  rfl
theorem tr_sq {f : List (List Bool)} (hs : sq f) : sq (tr f) :=
  ⟨by rw [tr_length]; exact hs.1, by rw [tr_length]; exact hs.2.1, fun i hi => by
    rw [tr_length] at hi ⊢
    rw [tr_row f i hi]
    unfold trow
    simp⟩
theorem TT_out {f : List (List Bool)} {a b : Int} (h : ¬ (0 ≤ a ∧ a < f.length ∧ 0 ≤ b ∧ b < f.length)) : TT f a b = false := by
  unfold TT flowsF
  cases ha : inN f.length a
  · rfl
  · cases hb : inN f.length b
    · rfl
    · exact absurd ⟨(inN_iff.1 ha).1, (inN_iff.1 ha).2, inN_iff.1 hb⟩ h
theorem tr_TT {f : List (List Bool)} (hs : sq f) (a b : Int) : TT (tr f) a b = TT f b a := by
  by_cases h : 0 ≤ a ∧ a < f.length ∧ 0 ≤ b ∧ b < f.length
  · obtain ⟨h1, h2, h3, h4⟩ := h
    obtain ⟨i, rfl⟩ := Int.eq_ofNat_of_zero_le h1
    obtain ⟨j, rfl⟩ := Int.eq_ofNat_of_zero_le h3
    have hi : i < f.length := by omega
    have hj : j < f.length := by omega
    rw [← at_TT (tr_sq hs) i j (by rw [tr_length]; exact hi) (by rw [tr_length]; exact hj)]
    have e : rd_L1 (tr f) i = trow (TT f) i f.length := by
      have := tr_row f i hi
      unfold rowOf at this
      unfold rd_L1
      rwa [Int.toNat_natCast]
    rw [e]
    unfold rdOf trow
    rw [Int.toNat_natCast, List.getD_eq_getElem?_getD, List.getElem?_map, List.getElem?_range hj]
    rfl
  · rw [TT_out (f := tr f) (by rw [tr_length]; exact h), TT_out (f := f) (by omega)]
theorem tr_fun {f : List (List Bool)} (hs : sq f) : TT (tr f) = gt f.length (flR f f.length) := by
  funext a b
  exact tr_TT hs a b
section
variable {f : List (List Bool)} (hs : sq f)
include hs
theorem Turned_l (n : Nat) (hn : f.length = n) : ∀ (d : Nat) (a : Nat), a + d = n → 
    (∀ k (acc : List (List Bool)), acc.length ≤ 10 → acc.length = a → d * (n + 2) + 1 ≤ k → weighlockref04_Turned.l0 k f acc n a = some (acc ++ (List.range' a d).map fun i => trow (TT f) i n))
  | 0, a, hd, k, acc, h10, hl, hk => by
    obtain ⟨k, rfl⟩ : ∃ m, k = m + 1 := ⟨k - 1, by omega⟩
    unfold weighlockref04_Turned.l0
    rw [if_neg (by omega)]
    simp
  | d + 1, a, hd, k, acc, h10, hl, hk => by
    have h6 := hs.2.1
    have hk2 : (d + 1) * (n + 2) = d * (n + 2) + (n + 2) := Nat.succ_mul d (n + 2)
    obtain ⟨k, rfl⟩ : ∃ m, k = m + 1 := ⟨k - 1, by omega⟩
    have ih := Turned_l n hn d (a + 1) (by omega)
    have hin : ∀ (e b k : Nat) (row : List Bool), b + e = n → row.length = b → e + 1 + (d * (n + 2) + 1) ≤ k → weighlockref04_Turned.l1 k f acc a row n a n b = some (acc ++ [row ++ (List.range' b e).map fun j : Nat => TT f (j : Int) (a : Int)] ++ (List.range' (a + 1) d).map fun i => trow (TT f) i n) := by
      intro e
      induction e with
      | zero =>
        intro b k row hb hrow hk
        obtain ⟨k, rfl⟩ : ∃ m, k = m + 1 := ⟨k - 1, by omega⟩
        unfold weighlockref04_Turned.l1
        rw [if_neg (by omega), if_pos (by omega), w64s a (by omega), ih k (acc ++ [row]) (by simp; omega) (by simp; omega) (by omega)]
        simp
      | succ e ihe =>
        intro b k row hb hrow hk
        obtain ⟨k, rfl⟩ : ∃ m, k = m + 1 := ⟨k - 1, by omega⟩
        have hbn : b < f.length := by omega
        have han : a < f.length := by omega
        unfold weighlockref04_Turned.l1
        rw [row_len hs b hbn, at_TT hs b a hbn han, w64s b (by omega), if_pos (by omega), if_pos (by omega), if_pos (by omega), if_pos (by omega), if_pos (by omega), if_pos (by omega), ihe (b + 1) k (row ++ [TT f b a]) (by omega) (by simp; omega) (by omega), List.range'_succ]
        simp
    unfold weighlockref04_Turned.l0
    rw [if_pos (by omega), hn]
    have h0 := hin n 0 k [] (by omega) rfl (by omega)
    rw [show ((0 : Nat) : Int) = 0 from rfl] at h0
    rw [h0, List.range'_succ]
    simp [trow, List.range_eq_range']
theorem Turned_f (k : Nat) (hk : 49 ≤ k) : weighlockref04_Turned.f k f = some (tr f) := by
  have h6 := hs.2.1
  have hm : f.length * (f.length + 2) ≤ 6 * 8 := Nat.mul_le_mul h6 (by omega)
  have h := Turned_l hs f.length rfl f.length 0 (by omega) k [] (by simp) rfl (by omega)
  rw [show ((0 : Nat) : Int) = 0 from rfl] at h
  unfold weighlockref04_Turned.f
  rw [h]
  unfold tr
  rw [List.range_eq_range', List.nil_append]
theorem Meet_f (a b : Nat) (ha : a < f.length) (hb : b < f.length) (k : Nat) (hk : 49 ≤ k) : weighlockref04_Meet.f k f a b = some (G f.length (gt f.length (flR f f.length)) a b) := by
  have h6 := hs.2.1
  unfold weighlockref04_Meet.f
  rw [Turned_f hs k hk, Option.bind_some, Join_f (tr_sq hs) a b (by rw [tr_length]; exact ha) (by rw [tr_length]; exact hb) k (by rw [tr_length]; omega), tr_fun hs, tr_length]
  rfl

/-! which tables are an order -/
def okP (T : Int → Int → Bool) (n a b : Nat) : Prop := (a = b → T a a = true) ∧ (a ≠ b → ¬ (T a b = true ∧ T b a = true)) ∧ ∀ c : Nat, c < n → ¬ (T a b = true ∧ T b c = true ∧ T a c = false)
omit hs in
theorem F_TT {a b : Nat} (ha : a < f.length) (hb : b < f.length) : TT f a b = flR f f.length (a * 6 + b) := by
  unfold TT flowsF
  rw [inN_iff.2 ⟨by omega, by omega⟩, inN_iff.2 ⟨by omega, by omega⟩]
  rfl
omit hs in
theorem order_iff : orderP f.length (flR f f.length) ↔ ∀ a b : Nat, a < f.length → b < f.length → okP (TT f) f.length a b := by
  unfold orderP okA okB okC okP
  constructor
  · intro h a b ha hb
    obtain ⟨h1, h2⟩ := h a ha
    obtain ⟨h3, h4⟩ := h2 b hb
    refine ⟨fun e => by rw [F_TT ha ha]; exact h1, fun hne q => h3 ⟨hne, ?_, ?_⟩, fun c hc q => h4 c hc ?_⟩
    · rw [← F_TT ha hb]; exact q.1
    · rw [← F_TT hb ha]; exact q.2
    · rw [← F_TT ha hb, ← F_TT hb hc, ← F_TT ha hc]; exact q
  · intro h a ha
    refine ⟨by rw [← F_TT ha ha]; exact (h a a ha ha).1 rfl, fun b hb => ⟨fun q => (h a b ha hb).2.1 q.1 ?_, fun c hc q => (h a b ha hb).2.2 c hc ?_⟩⟩
    · rw [F_TT ha hb, F_TT hb ha]; exact q.2
    · rw [F_TT ha hb, F_TT hb hc, F_TT ha hc]; exact q
end
end Go.Proofs.Yteopponjfkeagaa.Lat
namespace Go.Proofs.Yteopponjfkeagaa.Lat
open Go.RowKit Go.Maps Go.Proofs.YteopponjfkeagaaW.PrintWords Go.Proofs.YteopponjfkeagaaW.PrintLast Go.Proofs.YteopponjfkeagaaW.PrintMore Go.Proofs.Yteopponjfkeagaa.PLattice
set_option linter.unusedVariables false
set_option linter.unusedSimpArgs false

/-- a Bool that tells a proposition -/
def Tells (o : Option Bool) (p : Prop) : Prop := ∃ r : Bool, o = some r ∧ (r = true ↔ p)
theorem Tells.yes {o : Option Bool} {p : Prop} (h : o = some true) (hp : p) : Tells o p := ⟨true, h, fun _ => hp, fun _ => rfl⟩
theorem Tells.no {o : Option Bool} {p : Prop} (h : o = some false) (hp : ¬ p) : Tells o p := ⟨false, h, fun e => absurd e (by decide), fun e => absurd e hp⟩
theorem Tells.iff {o : Option Bool} {p q : Prop} (h : Tells o p) (e : p ↔ q) : Tells o q := by
  obtain ⟨r, h1, h2⟩ := h
  exact ⟨r, h1, h2.trans e⟩
theorem all_from {p : Nat → Prop} {s n : Nat} (hs : s < n) : (∀ i, s ≤ i → i < n → p i) ↔ (p s ∧ ∀ i, s + 1 ≤ i → i < n → p i) :=
  ⟨fun h => ⟨h s (Nat.le_refl _) hs, fun i h1 h2 => h i (by omega) h2⟩, fun h i h1 h2 => by
    rcases Nat.eq_or_lt_of_le h1 with rfl | h3
    · exact h.1
    · exact h.2 i h3 h2⟩
section
variable {f : List (List Bool)} (hs : sq f)
include hs
theorem Order_l2 (n : Nat) (hn : f.length = n) (a b : Nat) (ha : a < f.length) (hb : b < f.length) (q : Prop) (K : Nat) (hnext : ∀ k, K ≤ k → Tells (weighlockref04_Order.l1 k f a n a n ((b + 1 : Nat) : Int)) q) :
    ∀ (d c k : Nat), c + d = n → d + 1 + K ≤ k → Tells (weighlockref04_Order.l2 k f a b n a n b n c) ((∀ i : Nat, c ≤ i → i < n → ¬ (TT f a b = true ∧ TT f b i = true ∧ TT f a i = false)) ∧ q)
  | 0, c, k, hd, hk => by
    obtain ⟨k, rfl⟩ : ∃ m, k = m + 1 := ⟨k - 1, by omega⟩
    have h6 := hs.2.1
    unfold weighlockref04_Order.l2
    rw [if_neg (by omega), w64s b (by omega)]
    exact (hnext k (by omega)).iff ⟨fun h => ⟨fun i h1 h2 => absurd h1 (by omega), h⟩, fun h => h.2⟩
  | d + 1, c, k, hd, hk => by
    obtain ⟨k, rfl⟩ : ∃ m, k = m + 1 := ⟨k - 1, by omega⟩
    have h6 := hs.2.1
    have ih := Order_l2 n hn a b ha hb q K hnext d (c + 1) k (by omega) (by omega)
    have hc : c < f.length := by omega
    unfold weighlockref04_Order.l2
    rw [row_len hs a ha, row_len hs b hb, at_TT hs a b ha hb, at_TT hs b c hb hc, at_TT hs a c ha hc, w64s c (by omega), all_from (by omega)]
    simp only [← hn] at ih ⊢
    simp only [eq_true (lti ha), eq_true (lti hb), eq_true (lti hc), eq_true (nni a), eq_true (nni b), eq_true (nni c), if_true]
    cases h1 : TT f a b
    · simp only [Bool.false_eq_true, if_false]
      rw [h1] at ih
      exact ih.iff (by simp)
    · rw [h1] at ih
      cases h2 : TT f b c
      · simp only [if_true, Bool.false_eq_true, if_false]
        exact ih.iff (by simp)
      · cases h3 : TT f a c
        · simp only [if_true, Bool.false_eq_true, if_false]
          exact Tells.no rfl (by simp)
        · simp only [if_true]
          exact ih.iff (by simp)
theorem Order_l1 (n : Nat) (hn : f.length = n) (a : Nat) (ha : a < f.length) (q : Prop) (K : Nat) (hnext : ∀ k, K ≤ k → Tells (weighlockref04_Order.l0 k f n ((a + 1 : Nat) : Int)) q) :
    ∀ (d b k : Nat), b + d = n → d * (n + 3) + 1 + K ≤ k → Tells (weighlockref04_Order.l1 k f a n a n b) ((∀ i : Nat, b ≤ i → i < n → okP (TT f) n a i) ∧ q)
  | 0, b, k, hd, hk => by
    obtain ⟨k, rfl⟩ : ∃ m, k = m + 1 := ⟨k - 1, by omega⟩
    have h6 := hs.2.1
    unfold weighlockref04_Order.l1
    rw [if_neg (by omega), w64s a (by omega)]
    exact (hnext k (by omega)).iff ⟨fun h => ⟨fun i h1 h2 => absurd h1 (by omega), h⟩, fun h => h.2⟩
  | d + 1, b, k, hd, hk => by
    have hk2 : (d + 1) * (n + 3) = d * (n + 3) + (n + 3) := Nat.succ_mul d (n + 3)
    obtain ⟨k, rfl⟩ : ∃ m, k = m + 2 := ⟨k - 2, by omega⟩
    have h6 := hs.2.1
    have hb : b < f.length := by omega
    have ih := Order_l2 hs n hn a b ha hb _ (d * (n + 3) + 1 + K) (fun k hk => Order_l1 n hn a ha q K hnext d (b + 1) k (by omega) (by omega)) n 0 k (by omega) (by omega)
    rw [show ((0 : Nat) : Int) = 0 from rfl] at ih
    unfold weighlockref04_Order.l1 weighlockref04_Order.j2
    rw [row_len hs a ha, row_len hs b hb, at_TT hs a b ha hb, at_TT hs b a hb ha, all_from (by omega)]
    simp only [← hn] at ih ⊢
    simp only [eq_true (lti ha), eq_true (lti hb), eq_true (nni a), eq_true (nni b), if_true]
    by_cases hab : a = b
    · subst hab
      rw [if_pos rfl]
      cases h1 : TT f a a
      · simp only [Bool.false_eq_true, if_false, if_true]
        exact Tells.no rfl (fun h => by have := h.1.1.1 rfl; rw [h1] at this; exact absurd this (by decide))
      · rw [h1] at ih
        simp only [Bool.false_eq_true, if_false, if_true]
        refine ih.iff ⟨fun h => ⟨⟨⟨fun _ => h1, fun e => absurd rfl e, fun c hc q => h.1 c (Nat.zero_le _) hc ⟨rfl, q.2.1, q.2.2⟩⟩, h.2.1⟩, h.2.2⟩, fun h => ⟨fun c _ hc q => h.1.1.2.2 c hc ⟨h1, q.2.1, q.2.2⟩, h.1.2, h.2⟩⟩
    · rw [if_neg (by omega)]
      cases h1 : TT f a b
      · rw [h1] at ih
        simp only [Bool.false_eq_true, if_false, if_true]
        refine ih.iff ⟨fun h => ⟨⟨⟨fun e => absurd e hab, fun _ q => absurd (h1.symm.trans q.1) (by decide), fun c hc q => absurd (h1.symm.trans q.1) (by decide)⟩, h.2.1⟩, h.2.2⟩, fun h => ⟨fun c _ hc q => absurd q.1 (by decide), h.1.2, h.2⟩⟩
      · rw [h1] at ih
        cases h2 : TT f b a
        · simp only [Bool.false_eq_true, if_false, if_true]
          refine ih.iff ⟨fun h => ⟨⟨⟨fun e => absurd e hab, fun _ q => absurd (h2.symm.trans q.2) (by decide), fun c hc q => h.1 c (Nat.zero_le _) hc ⟨rfl, q.2.1, q.2.2⟩⟩, h.2.1⟩, h.2.2⟩, fun h => ⟨fun c _ hc q => h.1.1.2.2 c hc ⟨h1, q.2.1, q.2.2⟩, h.1.2, h.2⟩⟩
        · simp only [if_true]
          exact Tells.no rfl (fun h => h.1.1.2.1 hab ⟨h1, h2⟩)
theorem Order_l0 (n : Nat) (hn : f.length = n) : ∀ (d a k : Nat), a + d = n → d * (n * (n + 3) + 2) + 1 ≤ k → Tells (weighlockref04_Order.l0 k f n a) (∀ i : Nat, a ≤ i → i < n → ∀ j : Nat, j < n → okP (TT f) n i j)
  | 0, a, k, hd, hk => by
    obtain ⟨k, rfl⟩ : ∃ m, k = m + 1 := ⟨k - 1, by omega⟩
    unfold weighlockref04_Order.l0
    rw [if_neg (by omega)]
    exact Tells.yes rfl (fun i h1 h2 => absurd h1 (by omega))
  | d + 1, a, k, hd, hk => by
    have hk2 : (d + 1) * (n * (n + 3) + 2) = d * (n * (n + 3) + 2) + (n * (n + 3) + 2) := Nat.succ_mul d _
    obtain ⟨k, rfl⟩ : ∃ m, k = m + 1 := ⟨k - 1, by omega⟩
    have h6 := hs.2.1
    have h := Order_l1 hs n hn a (by omega) _ (d * (n * (n + 3) + 2) + 1) (fun k hk => Order_l0 n hn d (a + 1) k (by omega) hk) n 0 k (by omega) (by omega)
    rw [show ((0 : Nat) : Int) = 0 from rfl] at h
    unfold weighlockref04_Order.l0
    rw [if_pos (by omega), hn, all_from (by omega)]
    exact h.iff ⟨fun h => ⟨fun j hj => h.1 j (Nat.zero_le _) hj, h.2⟩, fun h => ⟨fun j _ hj => h.1 j hj, h.2⟩⟩
theorem Order_f (k : Nat) (hk : 400 ≤ k) : Tells (weighlockref04_Order.f k f) (orderP f.length (flR f f.length)) := by
  have h6 := hs.2.1
  have hm1 : f.length * (f.length + 3) ≤ 6 * 9 := Nat.mul_le_mul h6 (by omega)
  have hm : f.length * (f.length * (f.length + 3) + 2) ≤ 6 * 56 := Nat.mul_le_mul h6 (by omega)
  have h := Order_l0 hs f.length rfl f.length 0 k (by omega) (by omega)
  rw [show ((0 : Nat) : Int) = 0 from rfl] at h
  unfold weighlockref04_Order.f
  exact h.iff ⟨fun h => order_iff.2 fun a b ha hb => h a (Nat.zero_le _) ha b hb, fun h a _ ha b hb => order_iff.1 h a b ha hb⟩
end
theorem Square_l0 (f : List (List Bool)) (n : Nat) (hn : f.length = n) (hmax : n < 9223372036854775807) : ∀ (d i k : Nat), i + d = n → d + 1 ≤ k → Tells (weighlockref04_Square.l0 k f f n i) ((∀ j : Nat, i ≤ j → j < n → (rowOf f j).length = n) ∧ 0 < n ∧ n ≤ 6)
  | 0, i, k, hd, hk => by
    obtain ⟨k, rfl⟩ : ∃ m, k = m + 1 := ⟨k - 1, by omega⟩
    unfold weighlockref04_Square.l0
    rw [if_neg (by omega), hn]
    by_cases h0 : (n : Int) > 0
    · rw [if_pos h0]
      exact ⟨_, rfl, by
        rw [decide_eq_true_iff]
        exact ⟨fun h => ⟨fun j h1 h2 => absurd h1 (by omega), by omega, by omega⟩, fun h => by omega⟩⟩
    · rw [if_neg h0]
      exact Tells.no rfl (fun h => by omega)
  | d + 1, i, k, hd, hk => by
    obtain ⟨k, rfl⟩ : ∃ m, k = m + 1 := ⟨k - 1, by omega⟩
    have ih := Square_l0 f n hn hmax d (i + 1) k (by omega) (by omega)
    have e : rd_L1 f i = rowOf f i := by
      unfold rd_L1 rowOf
      rw [Int.toNat_natCast]
    unfold weighlockref04_Square.l0
    rw [if_pos (by omega), if_pos (by omega), if_pos (by omega), w64S i (by omega), hn, all_from (by omega), e]
    by_cases h : (rowOf f i).length = n
    · rw [if_pos (by omega)]
      exact ih.iff ⟨fun q => ⟨⟨h, q.1⟩, q.2⟩, fun q => ⟨q.1.2, q.2⟩⟩
    · rw [if_neg (by omega)]
      exact Tells.no rfl (fun q => h q.1.1)
theorem Square_f (f : List (List Bool)) (hmax : f.length < 9223372036854775807) (k : Nat) (hk : f.length + 1 ≤ k) : Tells (weighlockref04_Square.f k f) (sq f) := by
  have h := Square_l0 f f.length rfl hmax f.length 0 k (by omega) (by omega)
  rw [show ((0 : Nat) : Int) = 0 from rfl] at h
  unfold weighlockref04_Square.f
  exact h.iff ⟨fun h => ⟨h.2.1, h.2.2, fun i hi => h.1 i (Nat.zero_le _) hi⟩, fun h => ⟨fun i _ hi => h.2.2 i hi, h.1, h.2.1⟩⟩
theorem large_l0 (f : List (List Bool)) (n : Nat) (hn : f.length = n) (hmax : n < 9223372036854775807) : ∀ (d i k : Nat), i + d = n → d + 1 ≤ k → ∃ r, weighlocklaw04_large.l0 k f n i = some r
  | 0, i, k, hd, hk => by
    obtain ⟨k, rfl⟩ : ∃ m, k = m + 1 := ⟨k - 1, by omega⟩
    unfold weighlocklaw04_large.l0
    rw [if_neg (by omega)]
    exact ⟨_, rfl⟩
  | d + 1, i, k, hd, hk => by
    obtain ⟨k, rfl⟩ : ∃ m, k = m + 1 := ⟨k - 1, by omega⟩
    obtain ⟨r, ih⟩ := large_l0 f n hn hmax d (i + 1) k (by omega) (by omega)
    unfold weighlocklaw04_large.l0
    rw [if_pos (by omega), if_pos (by omega), if_pos (by omega), w64S i (by omega)]
    split
    · exact ⟨_, rfl⟩
    · exact ⟨r, ih⟩
/-- is it more than is gone through: an answer there is; with no more than 40 rows if it is not -/
theorem large_f (f : List (List Bool)) (hmax : f.length ≤ 9223372036854775807) : ∃ k r, weighlocklaw04_large.f k f = some r ∧ (r = false → f.length ≤ 40) := by
  unfold weighlocklaw04_large.f
  by_cases h : (f.length : Int) > 40
  · exact ⟨0, true, by rw [if_pos h], fun e => absurd e (by decide)⟩
  · obtain ⟨r, hr⟩ := large_l0 f f.length rfl (by omega) f.length 0 (f.length + 1) (by omega) (by omega)
    exact ⟨f.length + 1, r, by rw [if_neg h]; exact hr, fun _ => by omega⟩
end Go.Proofs.Yteopponjfkeagaa.Lat
namespace Go.Proofs.Yteopponjfkeagaa.Lat
open Go.RowKit Go.Maps Go.Proofs.YteopponjfkeagaaW.PrintWords Go.Proofs.YteopponjfkeagaaW.PrintLast Go.Proofs.YteopponjfkeagaaW.PrintMore Go.Proofs.Yteopponjfkeagaa.PLattice
set_option linter.unusedVariables false
set_option linter.unusedSimpArgs false

/-- nothing is wrong, or there is a bound that is none -/
def Zeros (o : Option Int) (p : Prop) : Prop := (o = some 0 ∧ p) ∨ (o = some 6 ∧ ¬ p)
theorem Zeros.iff {o : Option Int} {p q : Prop} (h : Zeros o p) (e : p ↔ q) : Zeros o q := by
  rcases h with h | h
  · exact .inl ⟨h.1, e.1 h.2⟩
  · exact .inr ⟨h.1, fun hq => h.2 (e.2 hq)⟩
theorem neg_of {n : Nat} {T : Int → Int → Bool} {a b : Int} : G n T a b < 0 ↔ G n T a b = -1 := by
  constructor
  · intro h
    apply Classical.byContradiction
    intro hne
    have := G_range hne
    omega
  · intro h
    omega
section
variable {f : List (List Bool)} (hs : sq f)
include hs
abbrev bothP (f : List (List Bool)) (a b : Nat) : Prop := G f.length (lt f.length (flR f f.length)) a b ≠ -1 ∧ G f.length (gt f.length (flR f f.length)) a b ≠ -1
theorem Wrong_l1 (n : Nat) (hn : f.length = n) (a : Nat) (ha : a < f.length) (q : Prop) (K : Nat) (hK : 49 ≤ K) (hnext : ∀ k, K ≤ k → Zeros (weighlockref04_Wrong.l0 k f n ((a + 1 : Nat) : Int)) q) :
    ∀ (d b k : Nat), b + d = n → d + 1 + K ≤ k → Zeros (weighlockref04_Wrong.l1 k f a n a n b) ((∀ i : Nat, b ≤ i → i < n → bothP f a i) ∧ q)
  | 0, b, k, hd, hk => by
    obtain ⟨k, rfl⟩ : ∃ m, k = m + 1 := ⟨k - 1, by omega⟩
    have h6 := hs.2.1
    unfold weighlockref04_Wrong.l1
    rw [if_neg (by omega), w64s a (by omega)]
    exact (hnext k (by omega)).iff ⟨fun h => ⟨fun i h1 h2 => absurd h1 (by omega), h⟩, fun h => h.2⟩
  | d + 1, b, k, hd, hk => by
    obtain ⟨k, rfl⟩ : ∃ m, k = m + 1 := ⟨k - 1, by omega⟩
    have h6 := hs.2.1
    have hb : b < f.length := by omega
    have ih := Wrong_l1 n hn a ha q K hK hnext d (b + 1) k (by omega) (by omega)
    unfold weighlockref04_Wrong.l1
    rw [if_pos (by omega), Join_f hs a b ha hb k (by omega), Option.bind_some, Meet_f hs a b ha hb k (by omega), Option.bind_some, w64s b (by omega), all_from (by omega)]
    by_cases h1 : G f.length (TT f) a b < 0
    · rw [if_pos h1]
      exact .inr ⟨rfl, fun h => h.1.1.1 (neg_of.1 h1)⟩
    · rw [if_neg h1]
      by_cases h2 : G f.length (gt f.length (flR f f.length)) a b < 0
      · rw [if_pos h2]
        exact .inr ⟨rfl, fun h => h.1.1.2 (neg_of.1 h2)⟩
      · rw [if_neg h2]
        exact ih.iff ⟨fun h => ⟨⟨⟨fun e => h1 (neg_of.2 e), fun e => h2 (neg_of.2 e)⟩, h.1⟩, h.2⟩, fun h => ⟨h.1.2, h.2⟩⟩
theorem Wrong_l0 (n : Nat) (hn : f.length = n) : ∀ (d a k : Nat), a + d = n → d * (n + 2) + 50 ≤ k → Zeros (weighlockref04_Wrong.l0 k f n a) (∀ i : Nat, a ≤ i → i < n → ∀ j : Nat, j < n → bothP f i j)
  | 0, a, k, hd, hk => by
    obtain ⟨k, rfl⟩ : ∃ m, k = m + 1 := ⟨k - 1, by omega⟩
    unfold weighlockref04_Wrong.l0
    rw [if_neg (by omega)]
    exact .inl ⟨rfl, fun i h1 h2 => absurd h1 (by omega)⟩
  | d + 1, a, k, hd, hk => by
    have hk2 : (d + 1) * (n + 2) = d * (n + 2) + (n + 2) := Nat.succ_mul d _
    obtain ⟨k, rfl⟩ : ∃ m, k = m + 1 := ⟨k - 1, by omega⟩
    have h6 := hs.2.1
    have h := Wrong_l1 hs n hn a (by omega) _ (d * (n + 2) + 50) (by omega) (fun k hk => Wrong_l0 n hn d (a + 1) k (by omega) hk) n 0 k (by omega) (by omega)
    rw [show ((0 : Nat) : Int) = 0 from rfl] at h
    unfold weighlockref04_Wrong.l0
    rw [if_pos (by omega), hn, all_from (by omega)]
    exact h.iff ⟨fun h => ⟨fun j hj => h.1 j (Nat.zero_le _) hj, h.2⟩, fun h => ⟨fun j _ hj => h.1 j hj, h.2⟩⟩
omit hs in
/-- what is wrong with a table -/
def WrongIs (f : List (List Bool)) (r : Int) : Prop :=
  (¬ sq f ∧ r = 1) ∨ (sq f ∧ ¬ orderP f.length (flR f f.length) ∧ r = 4) ∨
  (sq f ∧ orderP f.length (flR f f.length) ∧ ¬ (full f.length (lt f.length (flR f f.length)) ∧ full f.length (gt f.length (flR f f.length))) ∧ r = 6) ∨
  (sq f ∧ orderP f.length (flR f f.length) ∧ full f.length (lt f.length (flR f f.length)) ∧ full f.length (gt f.length (flR f f.length)) ∧ r = 0)
omit hs in
theorem Wrong_f (f : List (List Bool)) (hmax : f.length ≤ 40) : ∃ r, weighlockref04_Wrong.f 400 f = some r ∧ WrongIs f r := by
  obtain ⟨r1, e1, h1⟩ := Square_f f (by omega) 400 (by omega)
  unfold weighlockref04_Wrong.f
  rw [e1, Option.bind_some]
  cases r1
  · exact ⟨1, rfl, .inl ⟨fun h => absurd (h1.2 h) (by decide), rfl⟩⟩
  · have hs := h1.1 rfl
    obtain ⟨r2, e2, h2⟩ := Order_f hs 400 (by omega)
    rw [if_pos rfl, e2, Option.bind_some]
    cases r2
    · exact ⟨4, rfl, .inr (.inl ⟨hs, fun h => absurd (h2.2 h) (by decide), rfl⟩)⟩
    · have ho := h2.1 rfl
      have h6 := hs.2.1
      have hm : f.length * (f.length + 2) ≤ 6 * 8 := Nat.mul_le_mul h6 (by omega)
      have h3 := Wrong_l0 hs f.length rfl f.length 0 400 (by omega) (by omega)
      rw [show ((0 : Nat) : Int) = 0 from rfl] at h3
      rw [if_pos rfl]
      rcases h3 with ⟨e3, h3⟩ | ⟨e3, h3⟩
      · exact ⟨0, e3, .inr (.inr (.inr ⟨hs, ho, fun i j hi hj => (h3 i (Nat.zero_le _) hi j hj).1, fun i j hi hj => (h3 i (Nat.zero_le _) hi j hj).2, rfl⟩))⟩
      · exact ⟨6, e3, .inr (.inr (.inl ⟨hs, ho, fun h => h3 fun i _ hi j hj => ⟨h.1 i j hi hj, h.2 i j hi hj⟩, rfl⟩))⟩
theorem Top_l0 (n : Nat) (hn : f.length = n) (hf : full f.length (TT f)) : ∀ (d i k : Nat), i + d = n → d + 2 * n + 4 ≤ k → weighlockref04_Top.l0 k f (least (jT f.length (flR f f.length)) i) n i = some (least (jT f.length (flR f f.length)) n)
  | 0, i, k, hd, hk => by
    obtain ⟨k, rfl⟩ : ∃ m, k = m + 1 := ⟨k - 1, by omega⟩
    unfold weighlockref04_Top.l0
    rw [if_neg (by omega)]
    rw [show i = n by omega]
  | d + 1, i, k, hd, hk => by
    obtain ⟨k, rfl⟩ : ∃ m, k = m + 1 := ⟨k - 1, by omega⟩
    have h6 := hs.2.1
    have h0 := hs.1
    have ih := Top_l0 n hn hf d (i + 1) k (by omega) (by omega)
    have hr : 0 ≤ least (jT f.length (flR f f.length)) i ∧ least (jT f.length (flR f f.length)) i < f.length := least_range hf h0 i (by omega)
    have e : least (jT f.length (flR f f.length)) (i + 1) = G f.length (TT f) (least (jT f.length (flR f f.length)) i) i := by
      show jT f.length (flR f f.length) (least (jT f.length (flR f f.length)) i) i = _
      unfold jT J
      rw [if_pos ⟨hr.1, by omega, by omega, .inl hr.2⟩]
    obtain ⟨m, hm⟩ := Int.eq_ofNat_of_zero_le hr.1
    rw [hm] at hr e
    unfold weighlockref04_Top.l0
    rw [if_pos (by omega), hm, Join_f hs m i (by omega) (by omega) k (by omega), Option.bind_some, w64s i (by omega), ← e]
    exact ih
theorem Top_f (hf : full f.length (TT f)) (k : Nat) (hk : 30 ≤ k) : weighlockref04_Top.f k f = some (least (jT f.length (flR f f.length)) f.length) := by
  have h6 := hs.2.1
  have h := Top_l0 hs f.length rfl hf f.length 0 k (by omega) (by omega)
  unfold weighlockref04_Top.f
  exact h
theorem Above_l0 (n : Nat) (hn : f.length = n) (a : Nat) (ha : a < f.length) : ∀ (d i k : Nat), i + d = n → d + 1 ≤ k → weighlockref04_Above.l0 k f a (pick (fun x => TT f a x) i) n i = some (pick (fun x => TT f a x) n)
  | 0, i, k, hd, hk => by
    obtain ⟨k, rfl⟩ : ∃ m, k = m + 1 := ⟨k - 1, by omega⟩
    unfold weighlockref04_Above.l0
    rw [if_neg (by omega)]
    rw [show i = n by omega]
  | d + 1, i, k, hd, hk => by
    obtain ⟨k, rfl⟩ : ∃ m, k = m + 1 := ⟨k - 1, by omega⟩
    have h6 := hs.2.1
    have hi : i < f.length := by omega
    have ih := Above_l0 n hn a ha d (i + 1) k (by omega) (by omega)
    have hl := pick_length (fun x => TT f a x) i
    rw [pick_succ] at ih
    unfold weighlockref04_Above.l0
    rw [row_len hs a ha, at_TT hs a i ha hi, w64s i (by omega), if_pos (by omega), if_pos (by omega), if_pos (by omega), if_pos (by omega), if_pos (by omega)]
    cases h1 : TT f a i
    · rw [h1] at ih
      rw [if_neg (by decide)]
      exact ih
    · rw [h1] at ih
      rw [if_pos rfl, if_pos (by omega)]
      exact ih
theorem Above_f (a : Nat) (ha : a < f.length) (k : Nat) (hk : 10 ≤ k) : weighlockref04_Above.f k f a = some (pick (fun x => TT f a x) f.length) := by
  have h6 := hs.2.1
  have h := Above_l0 hs f.length rfl a ha f.length 0 k (by omega) (by omega)
  unfold weighlockref04_Above.f
  exact h
end
theorem rd_at (l : List Int) (i : Nat) (h : i < l.length) : rd l i = l[i] := by
  unfold rd
  rw [Int.toNat_natCast, List.getD_eq_getElem?_getD, List.getElem?_eq_getElem h]
  rfl
theorem in_l0 (l : List Int) (x : Int) (hl : l.length < 1000000) : ∀ (d i k : Nat), i + d = l.length → d + 1 ≤ k → Tells (weighlocklaw04_in.l0 k x l l.length i) (x ∈ l.drop i)
  | 0, i, k, hd, hk => by
    obtain ⟨k, rfl⟩ : ∃ m, k = m + 1 := ⟨k - 1, by omega⟩
    unfold weighlocklaw04_in.l0
    rw [if_neg (by omega)]
    exact Tells.no rfl (by rw [List.drop_eq_nil_of_le (by omega)]; exact List.not_mem_nil)
  | d + 1, i, k, hd, hk => by
    obtain ⟨k, rfl⟩ : ∃ m, k = m + 1 := ⟨k - 1, by omega⟩
    have ih := in_l0 l x hl d (i + 1) k (by omega) (by omega)
    have hi : i < l.length := by omega
    unfold weighlocklaw04_in.l0
    rw [if_pos (by omega), if_pos (by omega), if_pos (by omega), w64s i (by omega), rd_at l i hi, List.drop_eq_getElem_cons hi]
    by_cases h : l[i] = x
    · rw [if_pos h]
      exact Tells.yes rfl (by rw [h]; exact List.mem_cons_self)
    · rw [if_neg h]
      refine ih.iff ⟨fun q => List.mem_cons_of_mem _ q, fun q => ?_⟩
      rcases List.mem_cons.1 q with q | q
      · exact absurd q.symm h
      · exact q
theorem in_f (l : List Int) (x : Int) (hl : l.length < 1000) (k : Nat) (hk : l.length + 1 ≤ k) : Tells (weighlocklaw04_in.f k l x) (x ∈ l) := by
  have h := in_l0 l x (by omega) l.length 0 k (by omega) hk
  unfold weighlocklaw04_in.f
  exact h
theorem Ints_l0 (l : List Int) (hl : l.length < 1000000) : ∀ (d i k : Nat), i + d = l.length → d + 1 ≤ k → weighlockplain_Ints.l0 k l l l.length i = some true
  | 0, i, k, hd, hk => by
    obtain ⟨k, rfl⟩ : ∃ m, k = m + 1 := ⟨k - 1, by omega⟩
    unfold weighlockplain_Ints.l0
    rw [if_neg (by omega)]
  | d + 1, i, k, hd, hk => by
    obtain ⟨k, rfl⟩ : ∃ m, k = m + 1 := ⟨k - 1, by omega⟩
    have ih := Ints_l0 l hl d (i + 1) k (by omega) (by omega)
    unfold weighlockplain_Ints.l0
    rw [if_pos (by omega), if_pos (by omega), if_pos (by omega), if_pos (by omega), if_pos rfl, w64s i (by omega)]
    exact ih
theorem Ints_f (l : List Int) (hl : l.length < 1000) (k : Nat) (hk : l.length + 1 ≤ k) : weighlockplain_Ints.f k l l = some true := by
  have h := Ints_l0 l (by omega) l.length 0 k (by omega) hk
  unfold weighlockplain_Ints.f
  rw [if_pos rfl]
  exact h
theorem mem_pick {T : Int → Bool} {n : Nat} {x : Int} : x ∈ pick T n ↔ 0 ≤ x ∧ x < n ∧ T x = true := by
  unfold pick
  rw [List.mem_map]
  constructor
  · rintro ⟨i, hi, rfl⟩
    rw [List.mem_filter, List.mem_range] at hi
    exact ⟨by omega, by omega, hi.2⟩
  · rintro ⟨h0, h1, h2⟩
    obtain ⟨i, rfl⟩ := Int.eq_ofNat_of_zero_le h0
    exact ⟨i, by rw [List.mem_filter, List.mem_range]; exact ⟨by omega, h2⟩, rfl⟩
theorem pick_all {T : Int → Bool} : ∀ {n : Nat}, (∀ i : Nat, i < n → T i = true) → (pick T n).length = n
  | 0, _ => rfl
  | n + 1, h => by
    rw [pick_succ, if_pos (h n (by omega)), List.length_append, pick_all (fun i hi => h i (by omega))]
    rfl
end Go.Proofs.Yteopponjfkeagaa.Lat
namespace Go.Proofs.Yteopponjfkeagaa.Lat
open Go.RowKit Go.Maps Go.Proofs.YteopponjfkeagaaW.PrintWords Go.Proofs.YteopponjfkeagaaW.PrintLast Go.Proofs.YteopponjfkeagaaW.PrintMore Go.Proofs.Yteopponjfkeagaa.PLattice
set_option linter.unusedVariables false
set_option linter.unusedSimpArgs false

theorem WrongIs.one {f : List (List Bool)} {r r' : Int} (h : WrongIs f r) (h' : WrongIs f r') : r = r' := by
  rcases h with ⟨a, rfl⟩ | ⟨a, b, rfl⟩ | ⟨a, b, c, rfl⟩ | ⟨a, b, c, d, rfl⟩ <;> rcases h' with ⟨a', rfl⟩ | ⟨a', b', rfl⟩ | ⟨a', b', c', rfl⟩ | ⟨a', b', c', d', rfl⟩ <;>
    first | rfl | exact absurd ‹sq f› ‹¬ sq f› | exact absurd ‹orderP _ _› ‹¬ orderP _ _› | exact absurd ⟨‹full _ (lt _ _)›, ‹full _ (gt _ _)›⟩ ‹¬ (full _ _ ∧ full _ _)›
/-- what New tells, beside what is wrong -/
theorem news_tells {f : List (List Bool)} {e : Ending} {w' : World} (h : NewTells f e w') :
    ∃ (o : Option Addr) (r : Int), e = .returned (.tuple #[.pointer o, .int .i64 r]) ∧ WrongIs f r ∧ ((o = none ∧ (r = 1 ∨ r = 4 ∨ r = 6)) ∨ (r = 0 ∧ ∃ g, o = some ⟨g, 0, none⟩ ∧ IsLat w' g f.length (flR f f.length))) := by
  rcases h with ⟨a, rfl⟩ | ⟨a, b, rfl⟩ | ⟨a, b, c, rfl⟩ | ⟨a, b, c, d, g, rfl, hl⟩
  · exact ⟨none, 1, rfl, .inl ⟨a, rfl⟩, .inl ⟨rfl, .inl rfl⟩⟩
  · exact ⟨none, 4, rfl, .inr (.inl ⟨a, b, rfl⟩), .inl ⟨rfl, .inr (.inl rfl)⟩⟩
  · exact ⟨none, 6, rfl, .inr (.inr (.inl ⟨a, b, c, rfl⟩)), .inl ⟨rfl, .inr (.inr rfl)⟩⟩
  · exact ⟨_, 0, rfl, .inr (.inr (.inr ⟨a, b, c, d, rfl⟩)), .inr ⟨rfl, g, rfl, hl⟩⟩
/-- just if nothing is wrong: a table that is one, an order, and has all joins and meets -/
structure Good (f : List (List Bool)) : Prop where
  s : sq f
  o : orderP f.length (flR f f.length)
  j : full f.length (lt f.length (flR f f.length))
  m : full f.length (gt f.length (flR f f.length))
theorem WrongIs.good {f : List (List Bool)} (h : WrongIs f 0) : Good f := by
  rcases h with ⟨a, h⟩ | ⟨a, b, h⟩ | ⟨a, b, c, h⟩ | ⟨a, b, c, d, _⟩
  · exact absurd h (by decide)
  · exact absurd h (by decide)
  · exact absurd h (by decide)
  · exact ⟨a, b, c, d⟩
theorem Good.new {f : List (List Bool)} (h : Good f) {e : Ending} {w' : World} (hn : NewTells f e w') : ∃ g, e = .returned (.tuple #[P g, .int .i64 0]) ∧ IsLat w' g f.length (flR f f.length) := by
  rcases hn with ⟨a, _⟩ | ⟨_, b, _⟩ | ⟨_, _, c, _⟩ | ⟨_, _, _, _, hn⟩
  · exact absurd h.s a
  · exact absurd h.o b
  · exact absurd ⟨h.j, h.m⟩ c
  · exact hn
end Go.Proofs.Yteopponjfkeagaa.Lat
namespace Go.Proofs.Yteopponjfkeagaa.Lat
open Go.RowKit Go.Maps Go.Proofs.YteopponjfkeagaaW.PrintWords Go.Proofs.YteopponjfkeagaaW.PrintLast Go.Proofs.YteopponjfkeagaaW.PrintMore Go.Proofs.Yteopponjfkeagaa.PLattice
set_option linter.unusedVariables false
set_option linter.unusedSimpArgs false

theorem jT_in {n : Nat} {T : Int → Int → Bool} {i j : Nat} (hi : i < n) (hj : j < n) : J n T n 0 i j = G n T i j := by
  unfold J
  rw [if_pos ⟨by omega, by omega, by omega, .inl (by omega)⟩]
theorem find_in {n : Nat} {K : Int → Int → Int} {i j : Nat} (hi : i < n) (hj : j < n) : findF n K i j = (K i j, 0) := by
  unfold findF
  rw [if_pos ⟨inN_iff.2 ⟨by omega, by omega⟩, inN_iff.2 ⟨by omega, by omega⟩⟩]
theorem find_out {n : Nat} {K : Int → Int → Int} {a b : Int} (h : ¬ (0 ≤ a ∧ a < n ∧ 0 ≤ b ∧ b < n)) : findF n K a b = (0, 1) := by
  unfold findF
  rw [if_neg (fun q => h ⟨(inN_iff.1 q.1).1, (inN_iff.1 q.1).2, inN_iff.1 q.2⟩)]
theorem flows_out {n : Nat} {F : Nat → Bool} {a b : Int} (h : ¬ (0 ≤ a ∧ a < n ∧ 0 ≤ b ∧ b < n)) : flowsF n F a b = false := by
  unfold flowsF
  cases ha : inN n a
  · rfl
  · cases hb : inN n b
    · rfl
    · exact absurd ⟨(inN_iff.1 ha).1, (inN_iff.1 ha).2, inN_iff.1 hb⟩ h
section
variable {f : List (List Bool)} {n c : Nat} {A : Option Addr} {w : World}
theorem tr_jT (hs : sq f) (hn : f.length = n) : jT n (flR (tr f) n) = mT n (flR f n) := by
  subst hn
  have h : lt f.length (flR (tr f) f.length) = gt f.length (flR f f.length) := by
    have := tr_fun hs
    rw [show TT (tr f) = flowsF (tr f).length (flR (tr f) (tr f).length) from rfl, tr_length] at this
    exact this
  unfold jT mT
  rw [h]
theorem tr_full (hs : sq f) (hn : f.length = n) (hf : full n (gt n (flR f n))) : full (tr f).length (TT (tr f)) := by
  subst hn
  rw [tr_fun hs, tr_length]
  exact hf
theorem rj (hs : sq f) (hn : f.length = n) (hC : Kd.C (Kd.slice 4 Kd.bool) w A n f) (hc : n ≤ c) {i j : Nat} (hi : i < n) (hj : j < n) :
    Calls Try.prog 28 #[.slice A n c, .int .i64 (i : Int), .int .i64 (j : Int)] w fun e w' => e = .returned (.int .i64 (G n (lt n (flR f n)) i j)) ∧ Below w.heap.size w w' := by
  subst hn
  have h6 := hs.2.1
  exact (weighlockref04_Join.calls 100 A c f i j _ w hC hc (Join_f hs i j hi hj 100 (by omega))).mono fun e w' h => ⟨h.1, h.2.below⟩
theorem rm (hs : sq f) (hn : f.length = n) (hC : Kd.C (Kd.slice 4 Kd.bool) w A n f) (hc : n ≤ c) {i j : Nat} (hi : i < n) (hj : j < n) :
    Calls Try.prog 29 #[.slice A n c, .int .i64 (i : Int), .int .i64 (j : Int)] w fun e w' => e = .returned (.int .i64 (G n (gt n (flR f n)) i j)) ∧ Below w.heap.size w w' := by
  subst hn
  exact weighlockref04_Meet.calls 100 A c f i j _ w hC hc (Meet_f hs i j hi hj 100 (by omega))
theorem rt (hs : sq f) (hn : f.length = n) (hf : full n (lt n (flR f n))) (hC : Kd.C (Kd.slice 4 Kd.bool) w A n f) (hc : n ≤ c) :
    Calls Try.prog 25 #[.slice A n c] w fun e w' => e = .returned (.int .i64 (least (jT n (flR f n)) n)) ∧ Below w.heap.size w w' := by
  subst hn
  exact (weighlockref04_Top.calls 100 A c f _ w hC hc (Top_f hs hf 100 (by omega))).mono fun e w' h => ⟨h.1, h.2.below⟩
theorem ru (hs : sq f) (hn : f.length = n) (hC : Kd.C (Kd.slice 4 Kd.bool) w A n f) (hc : n ≤ c) :
    Calls Try.prog 27 #[.slice A n c] w fun e w' => ∃ A' c', e = .returned (.slice A' n c') ∧ n ≤ c' ∧ Kd.C (Kd.slice 4 Kd.bool) w' A' n (tr f) ∧ Below w.heap.size w w' := by
  subst hn
  refine (weighlockref04_Turned.calls 100 A c f _ w hC hc (Turned_f hs 100 (by omega))).mono ?_
  rintro e w' ⟨v, rfl, hS, hb⟩
  obtain ⟨A', c', rfl, h1, h2⟩ := Kd.R_reads (Kd.S_R hS)
  rw [tr_length] at h1 h2 ⊢
  exact ⟨A', c', rfl, h1, h2, hb⟩
theorem rtu (hs : sq f) (hn : f.length = n) (hf : full n (gt n (flR f n))) (hC : Kd.C (Kd.slice 4 Kd.bool) w A n (tr f)) (hc : n ≤ c) :
    Calls Try.prog 25 #[.slice A n c] w fun e w' => e = .returned (.int .i64 (least (mT n (flR f n)) n)) ∧ Below w.heap.size w w' := by
  have hl : (tr f).length = n := (tr_length f).trans hn
  have h := tr_full hs hn hf
  rw [hl] at h
  rw [← tr_jT hs hn]
  exact rt (tr_sq hs) hl (by
    have e : lt n (flR (tr f) n) = TT (tr f) := by unfold lt TT; rw [hl]
    rw [e]
    exact h) hC hc
theorem ra (hs : sq f) (hn : f.length = n) (hC : Kd.C (Kd.slice 4 Kd.bool) w A n f) (hc : n ≤ c) {i : Nat} (hi : i < n) :
    Calls Try.prog 32 #[.slice A n c, .int .i64 (i : Int)] w fun e w' => ∃ A' c', e = .returned (.slice A' (pick (fun x => flowsF n (flR f n) i x) n).length c') ∧ (pick (fun x => flowsF n (flR f n) i x) n).length ≤ c' ∧ Kd.C (Kd.int .i64) w' A' (pick (fun x => flowsF n (flR f n) i x) n).length (pick (fun x => flowsF n (flR f n) i x) n) ∧ Below w.heap.size w w' := by
  subst hn
  refine (weighlockref04_Above.calls 100 A c f i _ w hC hc (Above_f hs i hi 100 (by omega))).mono ?_
  rintro e w' ⟨v, rfl, hR, hb⟩
  obtain ⟨A', c', rfl, h1, h2⟩ := Kd.R_reads hR
  exact ⟨A', c', rfl, h1, h2, hb⟩
theorem rau (hs : sq f) (hn : f.length = n) (hC : Kd.C (Kd.slice 4 Kd.bool) w A n (tr f)) (hc : n ≤ c) {i : Nat} (hi : i < n) :
    Calls Try.prog 32 #[.slice A n c, .int .i64 (i : Int)] w fun e w' => ∃ A' c', e = .returned (.slice A' (pick (fun x => flowsF n (flR f n) x i) n).length c') ∧ (pick (fun x => flowsF n (flR f n) x i) n).length ≤ c' ∧ Kd.C (Kd.int .i64) w' A' (pick (fun x => flowsF n (flR f n) x i) n).length (pick (fun x => flowsF n (flR f n) x i) n) ∧ Below w.heap.size w w' := by
  have hl : (tr f).length = n := (tr_length f).trans hn
  have h := ra (i := i) (tr_sq hs) hl hC hc hi
  have e : (fun x => flowsF n (flR (tr f) n) i x) = fun x => flowsF n (flR f n) x i := by
    funext x
    have := tr_TT hs i x
    rw [show TT (tr f) = flowsF (tr f).length (flR (tr f) (tr f).length) from rfl, show TT f = flowsF f.length (flR f f.length) from rfl, hl, hn] at this
    exact this
  rw [e] at h
  exact h
theorem lat_Above {g : Nat} {F : Nat → Bool} (h : IsLat w g n F) (h6 : n ≤ 6) (a : Int) : Calls Try.prog 31 #[P g, .int .i64 a] w fun e w' => ∃ A' c', e = .returned (.slice A' (pick (fun x => flowsF n F a x) n).length c') ∧ (pick (fun x => flowsF n F a x) n).length ≤ c' ∧ Kd.C (Kd.int .i64) w' A' (pick (fun x => flowsF n F a x) n).length (pick (fun x => flowsF n F a x) n) ∧ Below w.heap.size w w' := by
  refine (Above_calls h6 (lat_sized h) (lat_flowing h h6) a).mono ?_
  rintro e w' ⟨v, rfl, hR, hb⟩
  obtain ⟨A', c', rfl, h1, h2⟩ := Kd.R_reads hR
  exact ⟨A', c', rfl, h1, h2, hb⟩
theorem lat_Below {g : Nat} {F : Nat → Bool} (h : IsLat w g n F) (h6 : n ≤ 6) (a : Int) : Calls Try.prog 33 #[P g, .int .i64 a] w fun e w' => ∃ A' c', e = .returned (.slice A' (pick (fun x => flowsF n F x a) n).length c') ∧ (pick (fun x => flowsF n F x a) n).length ≤ c' ∧ Kd.C (Kd.int .i64) w' A' (pick (fun x => flowsF n F x a) n).length (pick (fun x => flowsF n F x a) n) ∧ Below w.heap.size w w' := by
  refine (Below_calls h6 (lat_sized h) (lat_flowing h h6) a).mono ?_
  rintro e w' ⟨v, rfl, hR, hb⟩
  obtain ⟨A', c', rfl, h1, h2⟩ := Kd.R_reads hR
  exact ⟨A', c', rfl, h1, h2, hb⟩
theorem ints_same {l : List Int} {A B : Option Addr} {c d : Nat} (h1000 : l.length < 1000) (h1 : Kd.C (Kd.int .i64) w A l.length l) (hc : l.length ≤ c) (h2 : Kd.C (Kd.int .i64) w B l.length l) (hd : l.length ≤ d) :
    Calls Try.prog 30 #[.slice A l.length c, .slice B l.length d] w fun e w' => e = .returned (.bool true) ∧ Below w.heap.size w w' :=
  (weighlockplain_Ints.calls 1100 A c l B d l true w h1 hc h2 hd (Ints_f l h1000 1100 (by omega))).mono fun e w' h => ⟨h.1, h.2.below⟩
/-- the cells of a table, two labels of it -/
theorem cells_at (hs : sq f) (hn : f.length = n) (hC : Kd.C (Kd.slice 4 Kd.bool) w A n f) {i j : Nat} (hi : i < n) (hj : j < n) :
    ∃ ad ad0 c0, A = some ad ∧ w.cell? (ad.add i) = some (.slice (some ad0) n c0) ∧ n ≤ c0 ∧ w.cell? (ad0.add j) = some (.bool (flowsF n (flR f n) i j)) := by
  subst hn
  obtain ⟨ad, A0, c0, rfl, h1, h2, h3⟩ := at_row hC i hi
  have hl := hs.2.2 i hi
  obtain ⟨ad0, rfl, h4⟩ := Kd.at_bool h3 (j : Int) (by omega) (by omega)
  rw [hl] at h1 h2
  refine ⟨ad, ad0, c0, rfl, h1, h2, ?_⟩
  rw [Int.toNat_natCast] at h4
  rw [h4]
  congr 2
  have := at_TT hs i j hi hj
  rw [show TT f = flowsF f.length (flR f f.length) from rfl] at this
  rw [← this]
  unfold rd_L1 rowOf
  rw [Int.toNat_natCast]
end
end Go.Proofs.Yteopponjfkeagaa.Lat
namespace Go.Proofs.Yteopponjfkeagaa.Lat
open Go.RowKit Go.Maps Go.Proofs.YteopponjfkeagaaW.PrintWords Go.Proofs.YteopponjfkeagaaW.PrintLast Go.Proofs.YteopponjfkeagaaW.PrintMore Go.Proofs.Yteopponjfkeagaa.PLattice
set_option linter.unusedVariables false
set_option linter.unusedSimpArgs false

section
variable {f : List (List Bool)} {n c : Nat} {A : Option Addr} {w : World}
abbrev Ok (w : World) (B : Nat) (W : World) (k : Nat) (args : Array Value) (v : Value) : Prop := Calls Try.prog k args W fun e w' => e = .returned v ∧ Below B w w'
theorem four_then {W : World} (hb : Below w.heap.size w W) : Ok w w.heap.size W 16 #[] (.bool true) := (four_calls W).mono fun e w' h => ⟨h.1, below_step hb h.2⟩
/-- whether the table is larger than is gone through, whether it is wrong -/
theorem rlarge (hn : f.length = n) (hC : Kd.C (Kd.slice 4 Kd.bool) w A n f) (hc : n ≤ c) : ∃ r : Bool, (r = false → n ≤ 40) ∧ Ok w w.heap.size w 15 #[.slice A n c] (.bool r) := by
  subst hn
  obtain ⟨k, r, hr, h40⟩ := large_f f (Kd.C_max hC)
  exact ⟨r, h40, (weighlocklaw04_large.calls k A c f r w hC hc hr).mono fun e w' h => ⟨h.1, h.2.below⟩⟩
theorem rwrong (hn : f.length = n) (hC : Kd.C (Kd.slice 4 Kd.bool) w A n f) (hc : n ≤ c) (h40 : n ≤ 40) : ∃ r : Int, WrongIs f r ∧ ∀ W, Below w.heap.size w W → Ok w w.heap.size W 18 #[.slice A n c] (.int .i64 r) := by
  subst hn
  obtain ⟨r, hr, hw⟩ := Wrong_f f h40
  exact ⟨r, hw, fun W hW => (weighlockref04_Wrong.calls 400 A c f r W (Kd.C_below hC hW) hc hr).mono fun e w' h => ⟨h.1, below_step hW h.2⟩⟩
theorem lat_Join_in {g : Nat} {F : Nat → Bool} (h : IsLat w g n F) (h6 : n ≤ 6) {i j : Nat} (hi : i < n) (hj : j < n) : Calls Try.prog 19 #[P g, .int .i64 (i : Int), .int .i64 (j : Int)] w fun e w' => e = .returned (.tuple #[.int .i64 (G n (lt n F) i j), .int .i64 0]) ∧ Below w.heap.size w w' := by
  have := lat_Join h h6 i j
  rw [find_in hi hj] at this
  rw [← jT_in hi hj]
  exact this
theorem lat_Meet_in {g : Nat} {F : Nat → Bool} (h : IsLat w g n F) (h6 : n ≤ 6) {i j : Nat} (hi : i < n) (hj : j < n) : Calls Try.prog 20 #[P g, .int .i64 (i : Int), .int .i64 (j : Int)] w fun e w' => e = .returned (.tuple #[.int .i64 (G n (gt n F) i j), .int .i64 0]) ∧ Below w.heap.size w w' := by
  have := lat_Meet h h6 i j
  rw [find_in hi hj] at this
  rw [← jT_in hi hj]
  exact this
end
end Go.Proofs.Yteopponjfkeagaa.Lat
namespace Go.Proofs.Yteopponjfkeagaa.Lat
open Go.RowKit Go.Maps Go.Proofs.YteopponjfkeagaaW.PrintWords Go.Proofs.YteopponjfkeagaaW.PrintLast Go.Proofs.YteopponjfkeagaaW.PrintMore Go.Proofs.Yteopponjfkeagaa.PLattice
set_option linter.unusedVariables false
set_option linter.unusedSimpArgs false

/-- the join, by an order: above both, and below all that are -/
def IsJ (R : Nat → Nat → Prop) (n a b m : Nat) : Prop := m < n ∧ R a m ∧ R b m ∧ ∀ y, y < n → R a y → R b y → R m y
theorem G_isJ {n : Nat} {T : Int → Int → Bool} {a b : Nat} (h : G n T a b ≠ -1) : ∃ m : Nat, G n T a b = m ∧ IsJ (fun i j => T i j = true) n a b m := by
  have hr := G_range h
  rw [← jF_G] at h hr ⊢
  unfold jF at h hr ⊢
  cases hf : (List.range' 0 n).find? fun x : Nat => T a x && T b x && allG T a b x 0 n with
  | none => rw [hf] at h; exact absurd rfl h
  | some m =>
    rw [hf] at hr
    have hp := List.find?_some hf
    simp only [Bool.and_eq_true] at hp
    refine ⟨m, rfl, ?_, hp.1.1, hp.1.2, fun y hy h1 h2 => ?_⟩
    · have : ((m : Nat) : Int) < n := hr.2
      omega
    · have h3 := hp.2
      unfold allG at h3
      rw [List.all_eq_true] at h3
      have h4 := h3 y (by rw [List.mem_range']; exact ⟨y, hy, by omega⟩)
      rw [h1, h2] at h4
      simpa using h4
/-- a lattice's order, as it is -/
structure Ord (n : Nat) (R : Nat → Nat → Prop) : Prop where
  refl : ∀ i, i < n → R i i
  anti : ∀ i j, i < n → j < n → R i j → R j i → i = j
  trans : ∀ i j k, i < n → j < n → k < n → R i j → R j k → R i k
theorem Ord.dual {n : Nat} {R : Nat → Nat → Prop} (h : Ord n R) : Ord n (fun i j => R j i) := ⟨h.refl, fun i j hi hj a b => h.anti i j hi hj b a, fun i j k hi hj hk a b => h.trans k j i hk hj hi b a⟩
section
variable {n : Nat} {R : Nat → Nat → Prop} (o : Ord n R)
include o
theorem IsJ.one {a b m m' : Nat} (h : IsJ R n a b m) (h' : IsJ R n a b m') : m = m' := o.anti m m' h.1 h'.1 (h.2.2.2 m' h'.1 h'.2.1 h'.2.2.1) (h'.2.2.2 m h.1 h.2.1 h.2.2.1)
omit o in
theorem IsJ.swap {a b m : Nat} (h : IsJ R n a b m) : IsJ R n b a m := ⟨h.1, h.2.2.1, h.2.1, fun y hy h1 h2 => h.2.2.2 y hy h2 h1⟩
theorem IsJ.self {a : Nat} (ha : a < n) : IsJ R n a a a := ⟨ha, o.refl a ha, o.refl a ha, fun y hy h _ => h⟩
theorem IsJ.of_le {a b : Nat} (ha : a < n) (hb : b < n) (h : R a b) : IsJ R n a b b := ⟨hb, h, o.refl b hb, fun y hy _ h2 => h2⟩
theorem IsJ.le_iff {a b m : Nat} (ha : a < n) (hb : b < n) (h : IsJ R n a b m) : m = b ↔ R a b :=
  ⟨fun e => by subst e; exact h.2.1, fun hr => IsJ.one o h (IsJ.of_le o ha hb hr)⟩
/-- (a b) c is a (b c) -/
theorem IsJ.assoc {a b c x y u : Nat} (ha : a < n) (hb : b < n) (hc : c < n) (hx : IsJ R n a b x) (hy : IsJ R n b c y) (hu : IsJ R n x c u) : IsJ R n a y u :=
  ⟨hu.1, o.trans a x u ha hx.1 hu.1 hx.2.1 hu.2.1, hy.2.2.2 u hu.1 (o.trans b x u hb hx.1 hu.1 hx.2.2.1 hu.2.1) hu.2.2.1, fun z hz h1 h2 =>
    hu.2.2.2 z hz (hx.2.2.2 z hz h1 (o.trans b y z hb hy.1 hz hy.2.1 h2)) (o.trans c y z hc hy.1 hz hy.2.2.1 h2)⟩
/-- a joined with what is below it is a -/
theorem IsJ.absorb {a y : Nat} (ha : a < n) (hy : y < n) (h : R y a) : IsJ R n a y a := IsJ.swap (IsJ.of_le o hy ha h)
theorem IsJ.two {a b x c : Nat} (ha : a < n) (hb : b < n) (hc : c < n) (hx : IsJ R n a b x) : (R a c ∧ R b c) ↔ R x c :=
  ⟨fun h => hx.2.2.2 c hc h.1 h.2, fun h => ⟨o.trans a x c ha hx.1 hc hx.2.1 h, o.trans b x c hb hx.1 hc hx.2.2.1 h⟩⟩
end
section
variable {f : List (List Bool)} {n : Nat}
theorem good_ord (h : Good f) (hn : f.length = n) : Ord n (fun i j => flowsF n (flR f n) i j = true) := by
  subst hn
  have ho := order_iff.1 h.o
  refine ⟨fun i hi => (ho i i hi hi).1 rfl, fun i j hi hj h1 h2 => ?_, fun i j k hi hj hk h1 h2 => ?_⟩
  · apply Classical.byContradiction
    intro hne
    exact (ho i j hi hj).2.1 hne ⟨h1, h2⟩
  · have := (ho i j hi hj).2.2 k hk
    cases h3 : flowsF f.length (flR f f.length) i k
    · exact absurd ⟨h1, h2, h3⟩ this
    · rfl
/-- the join of two labels of a lattice -/
def jn (f : List (List Bool)) (n i j : Nat) : Nat := (G n (lt n (flR f n)) i j).toNat
def mn (f : List (List Bool)) (n i j : Nat) : Nat := (G n (gt n (flR f n)) i j).toNat
theorem jn_is (h : Good f) (hn : f.length = n) {i j : Nat} (hi : i < n) (hj : j < n) : G n (lt n (flR f n)) i j = (jn f n i j : Nat) ∧ IsJ (fun i j => flowsF n (flR f n) i j = true) n i j (jn f n i j) := by
  have hf := h.j
  rw [hn] at hf
  obtain ⟨m, e, hm⟩ := G_isJ (hf i j hi hj)
  have : jn f n i j = m := by unfold jn; rw [e]; exact Int.toNat_natCast m
  rw [this]
  exact ⟨e, hm⟩
theorem mn_is (h : Good f) (hn : f.length = n) {i j : Nat} (hi : i < n) (hj : j < n) : G n (gt n (flR f n)) i j = (mn f n i j : Nat) ∧ IsJ (fun i j => flowsF n (flR f n) j i = true) n i j (mn f n i j) := by
  have hf := h.m
  rw [hn] at hf
  obtain ⟨m, e, hm⟩ := G_isJ (hf i j hi hj)
  have : mn f n i j = m := by unfold mn; rw [e]; exact Int.toNat_natCast m
  rw [this]
  exact ⟨e, hm⟩
section
variable (h : Good f) (hn : f.length = n)
include h hn
theorem jn_lt {i j : Nat} (hi : i < n) (hj : j < n) : jn f n i j < n := (jn_is h hn hi hj).2.1
theorem mn_lt {i j : Nat} (hi : i < n) (hj : j < n) : mn f n i j < n := (mn_is h hn hi hj).2.1
theorem jn_comm {i j : Nat} (hi : i < n) (hj : j < n) : jn f n i j = jn f n j i := IsJ.one (good_ord h hn) (jn_is h hn hi hj).2 (jn_is h hn hj hi).2.swap
theorem mn_comm {i j : Nat} (hi : i < n) (hj : j < n) : mn f n i j = mn f n j i := IsJ.one (good_ord h hn).dual (mn_is h hn hi hj).2 (mn_is h hn hj hi).2.swap
theorem jn_self {i : Nat} (hi : i < n) : jn f n i i = i := IsJ.one (good_ord h hn) (jn_is h hn hi hi).2 (IsJ.self (good_ord h hn) hi)
theorem mn_self {i : Nat} (hi : i < n) : mn f n i i = i := IsJ.one (good_ord h hn).dual (mn_is h hn hi hi).2 (IsJ.self (good_ord h hn).dual hi)
theorem jn_mn {i j : Nat} (hi : i < n) (hj : j < n) : jn f n i (mn f n i j) = i :=
  IsJ.one (good_ord h hn) (jn_is h hn hi (mn_lt h hn hi hj)).2 (IsJ.absorb (good_ord h hn) hi (mn_lt h hn hi hj) (mn_is h hn hi hj).2.2.1)
theorem mn_jn {i j : Nat} (hi : i < n) (hj : j < n) : mn f n i (jn f n i j) = i :=
  IsJ.one (good_ord h hn).dual (mn_is h hn hi (jn_lt h hn hi hj)).2 (IsJ.absorb (good_ord h hn).dual hi (jn_lt h hn hi hj) (jn_is h hn hi hj).2.2.1)
theorem jn_flows {i j : Nat} (hi : i < n) (hj : j < n) : jn f n i j = j ↔ flowsF n (flR f n) i j = true := IsJ.le_iff (good_ord h hn) hi hj (jn_is h hn hi hj).2
theorem jn_assoc {i j k : Nat} (hi : i < n) (hj : j < n) (hk : k < n) : jn f n (jn f n i j) k = jn f n i (jn f n j k) :=
  IsJ.one (good_ord h hn) (IsJ.assoc (good_ord h hn) hi hj hk (jn_is h hn hi hj).2 (jn_is h hn hj hk).2 (jn_is h hn (jn_lt h hn hi hj) hk).2) (jn_is h hn hi (jn_lt h hn hj hk)).2
theorem mn_assoc {i j k : Nat} (hi : i < n) (hj : j < n) (hk : k < n) : mn f n (mn f n i j) k = mn f n i (mn f n j k) :=
  IsJ.one (good_ord h hn).dual (IsJ.assoc (good_ord h hn).dual hi hj hk (mn_is h hn hi hj).2 (mn_is h hn hj hk).2 (mn_is h hn (mn_lt h hn hi hj) hk).2) (mn_is h hn hi (mn_lt h hn hj hk)).2
theorem two_flow {i j k : Nat} (hi : i < n) (hj : j < n) (hk : k < n) : flowsF n (flR f n) (jn f n i j) k = (flowsF n (flR f n) i k && flowsF n (flR f n) j k) := by
  rw [Bool.eq_iff_iff, Bool.and_eq_true]
  exact (IsJ.two (good_ord h hn) hi hj hk (jn_is h hn hi hj).2).symm
end
/-- the contracts, by the labels themselves -/
theorem cj (h : Good f) (hn : f.length = n) (h6 : n ≤ 6) {w : World} {g : Nat} (hl : IsLat w g n (flR f n)) {i j : Nat} (hi : i < n) (hj : j < n) : Calls Try.prog 19 #[P g, .int .i64 (i : Int), .int .i64 (j : Int)] w fun e w' => e = .returned (.tuple #[.int .i64 ((jn f n i j : Nat) : Int), .int .i64 0]) ∧ Below w.heap.size w w' := by
  rw [← (jn_is h hn hi hj).1]
  exact lat_Join_in hl h6 hi hj
theorem cm (h : Good f) (hn : f.length = n) (h6 : n ≤ 6) {w : World} {g : Nat} (hl : IsLat w g n (flR f n)) {i j : Nat} (hi : i < n) (hj : j < n) : Calls Try.prog 20 #[P g, .int .i64 (i : Int), .int .i64 (j : Int)] w fun e w' => e = .returned (.tuple #[.int .i64 ((mn f n i j : Nat) : Int), .int .i64 0]) ∧ Below w.heap.size w w' := by
  rw [← (mn_is h hn hi hj).1]
  exact lat_Meet_in hl h6 hi hj
theorem okJ {w W : World} (hb : Below w.heap.size w W) {g : Nat} (hl : IsLat W g n (flR f n)) {k : Nat} {args : Array Value} {v : Value} (hc : Calls Try.prog k args W fun e w' => e = .returned v ∧ Below W.heap.size W w') :
    Calls Try.prog k args W fun e w' => e = .returned v ∧ Aside0 (IsLat w' g n (flR f n)) ∧ Aside0 (Below w.heap.size w w') :=
  hc.mono fun e w' h => ⟨h.1, ⟨hl.later h.2⟩, ⟨below_step hb h.2⟩⟩
set_option maxHeartbeats 4000000 in
set_option maxRecDepth 8000 in
theorem third_calls (h : Good f) (hn : f.length = n) (h6 : n ≤ 6) {w : World} {g : Nat} (hl : IsLat w g n (flR f n)) {i j k : Nat} (hi : i < n) (hj : j < n) (hk : k < n) :
    Calls Try.prog 22 #[P g, .int .i64 (i : Int), .int .i64 (j : Int), .int .i64 (k : Int)] w fun e w' => e = .returned (.bool true) ∧ Below w.heap.size w w' := by
  have x1 := jn_lt h hn hi hj
  have x2 := jn_lt h hn hj hk
  have x3 := mn_lt h hn hi hj
  have x4 := mn_lt h hn hj hk
  have e1 := Aside0.mk (jn_assoc h hn hi hj hk)
  have e2 := Aside0.mk (mn_assoc h hn hi hj hk)
  have e3 := Aside0.mk (two_flow h hn hi hj hk)
  replace h := Aside0.mk h
  replace hn := Aside0.mk hn
  have HL := Aside0.mk hl
  have HB := Aside0.mk (Below.refl w.heap.size w)
  clear hl
  go_enter Try.func22, Try.ntmps22
  go_wp2_with fail
  refine (okJ HB.out HL.out (cj h.out hn.out h6 HL.out hi hj)).mono ?_
  clear HL HB
  rintro e w1 ⟨rfl, HL, HB⟩
  go_wp2_with fail
  refine (okJ HB.out HL.out (cj h.out hn.out h6 HL.out hj hk)).mono ?_
  clear HL HB
  rintro e w2 ⟨rfl, HL, HB⟩
  go_wp2_with fail
  refine (okJ HB.out HL.out (cj h.out hn.out h6 HL.out x1 hk)).mono ?_
  clear HL HB
  rintro e w3 ⟨rfl, HL, HB⟩
  go_wp2_with fail
  refine (okJ HB.out HL.out (cj h.out hn.out h6 HL.out hi x2)).mono ?_
  clear HL HB
  rw [← e1.out]
  rintro e w4 ⟨rfl, HL, HB⟩
  go_wp2_with fail
  refine (okJ HB.out HL.out (cm h.out hn.out h6 HL.out hi hj)).mono ?_
  clear HL HB
  rintro e w5 ⟨rfl, HL, HB⟩
  go_wp2_with fail
  refine (okJ HB.out HL.out (cm h.out hn.out h6 HL.out hj hk)).mono ?_
  clear HL HB
  rintro e w6 ⟨rfl, HL, HB⟩
  go_wp2_with fail
  refine (okJ HB.out HL.out (cm h.out hn.out h6 HL.out x3 hk)).mono ?_
  clear HL HB
  rintro e w7 ⟨rfl, HL, HB⟩
  go_wp2_with fail
  refine (okJ HB.out HL.out (cm h.out hn.out h6 HL.out hi x4)).mono ?_
  clear HL HB
  rw [← e2.out]
  rintro e w8 ⟨rfl, HL, HB⟩
  go_wp2_with fail
  refine (okJ HB.out HL.out (lat_Flows HL.out h6 i k)).mono ?_
  clear HL HB
  cases hp : flowsF n (flR f n) i k
  · rw [hp] at e3
    rintro e w9 ⟨rfl, HL, HB⟩
    go_wp2_with fail
    refine (okJ HB.out HL.out (lat_Flows HL.out h6 (jn f n i j : Nat) k)).mono ?_
    clear HL HB
    rw [e3.out]
    rintro e w10 ⟨rfl, HL, HB⟩
    go_wp2_with fail
    go_ret
    exact ⟨rfl, HB.out⟩
  · rw [hp] at e3
    rintro e w9 ⟨rfl, HL, HB⟩
    go_wp2_with fail
    refine (okJ HB.out HL.out (lat_Flows HL.out h6 j k)).mono ?_
    clear HL HB
    obtain ⟨q, hq⟩ : ∃ q, flowsF n (flR f n) j k = q := ⟨_, rfl⟩
    rw [hq] at e3 ⊢
    clear hq
    rintro e w10 ⟨rfl, HL, HB⟩
    go_wp2_with fail
    refine (okJ HB.out HL.out (lat_Flows HL.out h6 (jn f n i j : Nat) k)).mono ?_
    clear HL HB
    rw [e3.out]
    rintro e w11 ⟨rfl, HL, HB⟩
    cases q
    · go_wp2_with fail
      go_ret
      exact ⟨rfl, HB.out⟩
    · go_wp2_with fail
      go_ret
      exact ⟨rfl, HB.out⟩
end
end Go.Proofs.Yteopponjfkeagaa.Lat
namespace Go.Proofs.Yteopponjfkeagaa.Lat
open Go.RowKit Go.Maps Go.Deep Go.ChangeShapes Go.WideShapes Go.Proofs.YteopponjfkeagaaW.PrintWords Go.Proofs.YteopponjfkeagaaW.PrintLast Go.Proofs.YteopponjfkeagaaW.PrintMore
set_option linter.unusedVariables false
set_option linter.unusedSimpArgs false

/-- a table that comes in, opened -/
theorem table_open {H : Type} {enc : TypeId × Value → H} {W : World} {a : Option Addr} {l c : Nat} {fuel : Nat} {x : DataW H × List MemPlace} (h : DataW.trod enc Try.prog W 0 (fun _ => true) true fuel 22 (Value.cells (.slice a l c)).toList = some x) :
    ∃ f : List (List Bool), f.length = l ∧ l ≤ c ∧ Kd.C (Kd.slice 4 Kd.bool) W a l f := by
  rcases open_bool_rows Try.underlying22 Try.underlying37 Try.underlying4 (by kernel_rfl) (by kernel_rfl) h with ⟨hcs, _⟩ | ⟨a', len, cap, A, L, C, B, hcs, _, hl, hm, _, hrows⟩
  · simp [Value.cells] at hcs
    obtain ⟨rfl, rfl, rfl⟩ := hcs
    exact ⟨[], rfl, Nat.le_refl _, Kd.C_nil _ _⟩
  · simp [Value.cells] at hcs
    obtain ⟨rfl, rfl, rfl⟩ := hcs
    have hmax : maxLen ≤ 9223372036854775807 := by unfold maxLen; omega
    refine ⟨(List.range l).map fun r => (List.range (L r)).map (B r), by simp, hl, by simp, by omega, fun hn => ⟨a', rfl, fun j p hj => ?_⟩⟩
    have hjl : j < l := by
      have := (List.getElem?_eq_some_iff.1 hj).1
      simpa using this
    obtain rfl : p = (List.range (L j)).map (B j) := by
      rw [List.getElem?_map, List.getElem?_range hjl] at hj
      exact (Option.some.inj hj).symm
    obtain ⟨r1, r2, r3, r4, r5⟩ := hrows j (by omega)
    have hlen : ((List.range (L j)).map (B j)).length = L j := by simp
    refine ⟨[.slice (A j) (L j) (C j)], rfl, ⟨A j, C j, by rw [hlen], by rw [hlen]; exact r2, by
      rw [hlen]
      refine ⟨hlen, by omega, fun h0 => ?_⟩
      cases hA : A j with
      | none => exact absurd (r4 hA) (by omega)
      | some aj =>
        refine ⟨aj, rfl, fun i b hi => ⟨[.bool b], rfl, rfl, fun q u hu => ?_⟩⟩
        have hil : i < L j := by
          have := (List.getElem?_eq_some_iff.1 hi).1
          simpa using this
        obtain rfl : b = B j i := by
          rw [List.getElem?_map, List.getElem?_range hil] at hi
          exact (Option.some.inj hi).symm
        obtain ⟨rfl, rfl⟩ : q = 0 ∧ u = .bool (B j i) := by
          cases q with
          | zero => exact ⟨rfl, by simpa using hu.symm⟩
          | succ q => simp at hu
        have e : aj.add (i * Kd.bool.sz + 0) = aj.add i := by
          show aj.add (i * 1 + 0) = aj.add i
          rw [Nat.mul_one, Nat.add_zero]
        rw [e]
        exact (r5 aj hA).2 i (by omega)⟩, fun i u hu => ?_⟩
    obtain ⟨rfl, rfl⟩ : i = 0 ∧ u = .slice (A j) (L j) (C j) := by
      cases i with
      | zero => exact ⟨rfl, by simpa using hu.symm⟩
      | succ i => simp at hu
    have e : a'.add (j * (Kd.slice 4 Kd.bool).sz + 0) = a'.add j := by
      show a'.add (j * 1 + 0) = a'.add j
      rw [Nat.mul_one, Nat.add_zero]
    rw [e]
    exact r1
end Go.Proofs.Yteopponjfkeagaa.Lat

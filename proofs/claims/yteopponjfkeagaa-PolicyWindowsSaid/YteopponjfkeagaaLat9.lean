import Derived.Test.YteopponjfkeagaaLat8
namespace Go.Proofs.Yteopponjfkeagaa.Lat
open Go.RowKit Go.Maps Go.Proofs.YteopponjfkeagaaW.PrintWords Go.Proofs.YteopponjfkeagaaW.PrintLast Go.Proofs.YteopponjfkeagaaW.PrintMore
set_option linter.unusedVariables false
set_option linter.unusedSimpArgs false

/-- all blocks of w but mb are as they were -/
def Like (mb : Nat) (w W : World) : Prop := w.heap.size ≤ W.heap.size ∧ ∀ i, i < w.heap.size → i ≠ mb → W.heap[i]? = w.heap[i]?
theorem Like.refl (mb : Nat) (w : World) : Like mb w w := ⟨Nat.le_refl _, fun _ _ _ => rfl⟩
theorem Like.blk {mb g : Nat} {w W : World} {o : Obj} (h : Like mb w W) (hg : w.heap[g]? = some o) (hne : g ≠ mb) : W.heap[g]? = some o := (h.2 g (blk_lt hg) hne).trans hg
theorem Like.below {mb : Nat} {w W W' : World} (h : Like mb w W) (hb : Below W.heap.size W W') : Like mb w W' := ⟨Nat.le_trans h.1 hb.size, fun i hi hne => (hb.block i (Nat.lt_of_lt_of_le hi h.1)).trans (h.2 i hi hne)⟩
theorem fill1_calls (k : Nat) (first caps : Array Value) (hk : ∀ args W, (callFunc k args).run Try.prog W = .ok (.enter k args) W) (fb : Nat) (T : Int → Int → Bool) {w : World} (hf : w.heap[fb]? = some (.cells #[.func (Fn.func k) first caps] 32 (0, 0))) (a b : Int)
    (hT : Calls Try.prog k (first ++ (#[.int .i64 b, .int .i64 a] ++ caps)) w fun e w' => e = .returned (.bool (T b a)) ∧ Below w.heap.size w w') :
    Calls Try.prog 75 #[.int .i64 a, .int .i64 b, .pointer (some ⟨fb, 0, none⟩)] w fun e w' => e = .returned (.bool (T b a)) ∧ Below w.heap.size w w' := by
  have c0 : w.cell? ⟨fb, 0, none⟩ = some (.func (Fn.func k) first caps) := (blk_cell hf 0).trans rfl
  clear hf
  go_enter Try.func75, Try.ntmps75
  go_wp2_with fail
  refine hT.mono ?_
  rintro e w1 ⟨rfl, hb⟩
  go_wp2_with fail
  go_ret
  exact ⟨rfl, hb⟩
def G (n : Nat) (T : Int → Int → Bool) (a b : Int) : Int := greatestF (fun y x => T x y) (pick (fun x => T a x && T b x) n)
def J (n : Nat) (T : Int → Int → Bool) (a b : Nat) (i j : Int) : Int := if 0 ≤ i ∧ 0 ≤ j ∧ j < n ∧ (i < a ∨ (i = a ∧ j < b)) then G n T i j else 0
theorem J_start (n : Nat) (T : Int → Int → Bool) : J n T 0 0 = fun _ _ => 0 := by
  funext i j
  unfold J
  rw [if_neg (by omega)]
theorem J_row (n : Nat) (T : Int → Int → Bool) (a : Nat) : J n T a n = J n T (a + 1) 0 := by
  funext i j
  unfold J
  by_cases h : 0 ≤ i ∧ 0 ≤ j ∧ j < (n : Int) ∧ (i < (a : Int) ∨ (i = (a : Int) ∧ j < (n : Int)))
  · rw [if_pos h, if_pos (by omega)]
  · rw [if_neg h, if_neg (by omega)]
theorem J_put (n : Nat) (T : Int → Int → Bool) (a b : Nat) (hb : b < n) : (fun i j => if i = (a : Int) ∧ j = (b : Int) then G n T a b else J n T a b i j) = J n T a (b + 1) := by
  funext i j
  unfold J
  by_cases h : i = (a : Int) ∧ j = (b : Int)
  · obtain ⟨rfl, rfl⟩ := h
    rw [if_pos ⟨rfl, rfl⟩, if_pos (by omega)]
  · rw [if_neg h]
    by_cases h2 : 0 ≤ i ∧ 0 ≤ j ∧ j < (n : Int) ∧ (i < (a : Int) ∨ (i = (a : Int) ∧ j < (b : Int)))
    · rw [if_pos h2, if_pos (by omega)]
    · rw [if_neg h2, if_neg (by omega)]
theorem Tab.mono {w : World} {b m m' : Nat} {J : Int → Int → Int} (h : Tab w b m J) (hm : m ≤ m') : Tab w b m' J := by
  obtain ⟨D, ho, hi, hJ⟩ := h
  exact ⟨D, ho.mono hm, hi, hJ⟩
theorem pick_range {T : Int → Bool} {n : Nat} {x : Int} (h : x ∈ pick T n) : 0 ≤ x ∧ x < n := by
  unfold pick at h
  obtain ⟨i, hi, rfl⟩ := List.mem_map.1 h
  have := List.mem_range.1 (List.mem_filter.1 hi).1
  omega
theorem G_range {n : Nat} {T : Int → Int → Bool} {a b : Int} (h : G n T a b ≠ -1) : 0 ≤ G n T a b ∧ G n T a b < n := by
  unfold G greatestF at h ⊢
  cases hf : (pick (fun x => T a x && T b x) n).find? (fun x => (pick (fun x => T a x && T b x) n).all fun y => T x y) with
  | none => rw [hf] at h; exact absurd rfl h
  | some x => exact pick_range (List.mem_of_find?_eq_some hf)
theorem rows_all {p : Nat → Nat → Prop} {n a : Nat} (h : ∀ i j, i < a → j < n → p i j) (h2 : ∀ j, j < n → p a j) : ∀ i j, i < a + 1 → j < n → p i j := fun i j hi hj => by
  rcases Nat.lt_or_ge i a with h1 | h1
  · exact h i j h1 hj
  · obtain rfl : i = a := by omega
    exact h2 j hj
set_option maxHeartbeats 4000000 in
theorem fill_calls (B : Nat) (w0 : World) (k : Nat) (first caps : Array Value) (hk : ∀ args W, (callFunc k args).run Try.prog W = .ok (.enter k args) W) {g n : Nat} {F : Nat → Bool} {jm mm : Nat} {bot top : Int} {w : World} (hg : w.heap[g]? = some (.cells (latC n F jm mm bot top) 79 (0, 0))) (hn : n ≤ 6) (mb : Nat) (hgm : g ≠ mb) (T : Int → Int → Bool)
    (hB : Below B w0 w) (hBw : B ≤ w.heap.size) (hBm : B ≤ mb) (hT : ∀ W, Like mb w W → ∀ y x : Int, Calls Try.prog k (first ++ (#[.int .i64 y, .int .i64 x] ++ caps)) W fun e w' => e = .returned (.bool (T y x)) ∧ Below W.heap.size W w') (hM : Tab w mb 0 (fun _ _ => 0)) :
    Calls Try.prog 61 #[P g, .map (some mb), .func (Fn.func k) first caps] w fun e w' => Below B w0 w' ∧ Like mb w w' ∧ ((e = .returned (.bool true) ∧ (∀ i j : Nat, i < n → j < n → G n T i j ≠ -1) ∧ Tab w' mb 36 (J n T n 0)) ∨ (e = .returned (.bool false) ∧ ∃ i j : Nat, i < n ∧ j < n ∧ G n T i j = -1)) := by
  have hmf : ∀ (fn : Fn) (first cap : Array Value) (w : World), (Instr.makeFunc fn first cap).run Try.prog w = .ok (.func fn first cap) w := fun _ _ _ _ => rfl
  have HG := Aside0.mk hg
  have c0 : w.cell? ⟨g, 0, none⟩ = some (.int .i64 n) := (blk_cell hg 0).trans rfl
  have lt : g < w.heap.size := blk_lt hg
  have hne : g ≠ w.heap.size := by omega
  go_enter Try.func61, Try.ntmps61
  go_wp2_with fail
  have HF := Aside0.mk (blk_new w (.cells #[.func (Fn.func k) first caps] 32))
  have HB := Aside0.mk (hB.alloc hBw (.cells #[.func (Fn.func k) first caps] 32))
  have HL := Aside0.mk ((Like.refl mb w).below (below_alloc (Below.refl _ _) (.cells #[.func (Fn.func k) first caps] 32)))
  have HM := Aside0.mk (hM.later (below_alloc (Below.refl _ _) (.cells #[.func (Fn.func k) first caps] 32)))
  generalize w.alloc (.cells #[.func (Fn.func k) first caps] 32) = W1 at *
  clear hM hB hg
  go_loopw [17] (fun x wr => ∃ a : Nat, x = .int .i64 (a : Int) ∧ a ≤ n ∧ Aside0 (∀ i j : Nat, i < a → j < n → G n T i j ≠ -1) ∧ Aside0 (Tab wr mb (6 * a) (J n T a 0)) ∧ Aside0 (wr.heap[w.heap.size]? = some (.cells #[.func (Fn.func k) first caps] 32 (0, 0))) ∧ Aside0 (Like mb w wr) ∧ Aside0 (Below B w0 wr)) (fun x _ => n - (intOf x).toNat)
  case atStart => exact ⟨0, rfl, Nat.zero_le _, ⟨fun i j h => absurd h (by omega)⟩, ⟨by rw [J_start]; exact HM.out⟩, HF, HL, HB⟩
  case round =>
    clear HF HB HL HM
    obtain ⟨a, rfl, ha, HA, HM, HF, HL, HB⟩ := hrel
    by_cases hx : (a : Int) < n
    · have d0 : wr.cell? ⟨g, 0, none⟩ = some (.int .i64 n) := (blk_cell (HL.out.blk HG.out hgm) 0).trans rfl
      go_wp2_with fail
      go_loopw [24] (fun x wr' => ∃ b : Nat, x = .int .i64 (b : Int) ∧ b ≤ n ∧ Aside0 (∀ j : Nat, j < b → G n T a j ≠ -1) ∧ Aside0 (Tab wr' mb (6 * a + b) (J n T a b)) ∧ Aside0 (wr'.heap[w.heap.size]? = some (.cells #[.func (Fn.func k) first caps] 32 (0, 0))) ∧ Aside0 (Like mb w wr') ∧ Aside0 (Below B w0 wr')) (fun x _ => n - (intOf x).toNat)
      case atStart => exact ⟨0, rfl, Nat.zero_le _, ⟨fun j h => absurd h (by omega)⟩, HM, HF, HL, HB⟩
      case round =>
        clear HF HB HL HM d0
        obtain ⟨b, rfl, hb, HBB, HM, HF, HL, HB⟩ := hrel
        by_cases hy : (b : Int) < n
        · have HP := Aside0.mk (blk_new wr (.cells #[.int .i64 (a : Int), .int .i64 (b : Int)] 82))
          have hbel := below_alloc (Below.refl wr.heap.size wr) (.cells #[.int .i64 (a : Int), .int .i64 (b : Int)] 82)
          have HF2 := Aside0.mk (blk_below HF.out hbel)
          have HL2 := Aside0.mk (HL.out.below hbel)
          have HM2 := Aside0.mk (HM.out.later hbel)
          have HB2 := Aside0.mk (HB.out.alloc (Nat.le_trans hBw HL.out.1) (.cells #[.int .i64 (a : Int), .int .i64 (b : Int)] 82))
          have hfn : w.heap.size ≠ wr.heap.size := by have := blk_lt HF.out; omega
          have f0 : wr.cell? ⟨w.heap.size, 0, none⟩ = some (.func (Fn.func k) first caps) := (blk_cell HF.out 0).trans rfl
          have fl := blk_lt HF.out
          clear hbel HF HL HM HB
          go_wp2_with fail
          refine (bounds_calls k first caps hk (HL2.out.blk HG.out hgm) hn a b T (fun W hW y i _ hi => hT W (HL2.out.below hW) y i)).mono ?_
          rintro e w2 ⟨u, rfl, hR, hb2⟩
          obtain ⟨A, c, rfl, hc, hC⟩ := Kd.R_reads hR
          have HP3 := Aside0.mk (blk_below HP.out hb2)
          have HF3 := Aside0.mk (blk_below HF2.out hb2)
          have HL3 := Aside0.mk (HL2.out.below hb2)
          have HM3 := Aside0.mk (HM2.out.later hb2)
          have HB3 := Aside0.mk (HB2.out.trans (hb2.mono (Nat.le_trans hBw HL2.out.1)))
          clear hR hb2 HP HF2 HL2 HM2 HB2
          go_wp2_with fail
          refine (greatest_calls 75 #[] #[.pointer (some ⟨w.heap.size, 0, none⟩)] (fun _ _ => enters_ Try.func75 (by kernel_rfl) rfl _ _) hC hc (fun y x => T x y) (fun W hW y x _ _ => fill1_calls k first caps hk w.heap.size T (blk_below HF3.out hW) y x (hT W (HL3.out.below hW) x y))).mono ?_
          rw [show greatestF (fun y x => T x y) (pick (fun x => T a x && T b x) n) = G n T a b from rfl]
          rintro e w3 ⟨rfl, hb3⟩
          have HP4 := Aside0.mk (blk_below HP3.out hb3)
          have HF4 := Aside0.mk (blk_below HF3.out hb3)
          have HL4 := Aside0.mk (HL3.out.below hb3)
          have HM4 := Aside0.mk (HM3.out.later hb3)
          have HB4 := Aside0.mk (HB3.out.trans (hb3.mono (Nat.le_trans hBw HL3.out.1)))
          clear hb3 hC HP3 HF3 HL3 HM3 HB3
          have p0 : w3.cell? ⟨wr.heap.size, 0, none⟩ = some (.int .i64 (a : Int)) := (blk_cell HP4.out 0).trans rfl
          have p1 : w3.cell? ⟨wr.heap.size, 1, none⟩ = some (.int .i64 (b : Int)) := (blk_cell HP4.out 1).trans rfl
          by_cases hG : G n T a b = -1
          · rw [hG]
            go_wp2_with fail
            go_ret
            exact ⟨HB4.out, HL4.out, .inr ⟨rfl, a, b, by omega, by omega, hG⟩⟩
          · have HG0 := Aside0.mk hG
            obtain ⟨x, hxx⟩ : ∃ x, G n T a b = x := ⟨_, rfl⟩
            rw [hxx] at hG ⊢
            have HX := Aside0.mk hxx
            clear hxx
            have hne1 : (x == -1) = false := by simpa using hG
            have hr := G_range HG0.out
            rw [HX.out] at hr
            obtain ⟨w4, hrun, hM5, hg5⟩ := HM4.out.put (by omega) (okI_small (a := (a : Int)) (by omega) (by omega)) (okI_small (a := (b : Int)) (by omega) (by omega)) (okI_small (a := x) (by omega) (by omega))
            rw [← HX.out, J_put n T a b (by omega)] at hM5
            have HM5 := Aside0.mk hM5
            have hfm : w.heap.size ≠ mb := fun e => by
              subst e
              obtain ⟨D, ⟨es, clock, hk1, _⟩, _⟩ := HM4.out
              rw [HF4.out] at hk1
              exact absurd hk1 (by simp)
            have HF5 := Aside0.mk ((hg5.block w.heap.size (blk_lt HF4.out) (fun e => hfm (Option.some.inj e))).trans HF4.out)
            have HL5 : Aside0 (Like mb w w4) := ⟨⟨Nat.le_trans HL4.out.1 hg5.size, fun i hi hne => (hg5.block i (Nat.lt_of_lt_of_le hi HL4.out.1) (fun e => hne (Option.some.inj e))).trans (HL4.out.2 i hi hne)⟩⟩
            have HB5 := Aside0.mk (HB4.out.grown hg5 (Nat.le_trans hBw HL4.out.1) (fun q e => by cases e; exact hBm))
            clear hM5 hg5 HM4 HL4 HB4 HF4 HP4
            go_wp2_with fail
            exact ⟨⟨b + 1, rfl, by omega, ⟨step_all HBB.out HG0.out⟩, HM5, HF5, HL5, HB5⟩, by simp [intOf]; omega⟩
        · obtain rfl : b = n := by omega
          go_wp2_with fail
          exact ⟨⟨a + 1, rfl, by omega, ⟨rows_all HA.out HBB.out⟩, ⟨by rw [← J_row]; exact HM.out.mono (by omega)⟩, HF, HL, HB⟩, by simp [intOf]; omega⟩
    · obtain rfl : a = n := by omega
      go_wp2_with fail
      go_ret
      exact ⟨HB.out, HL.out, .inl ⟨rfl, HA.out, HM.out.mono (by omega)⟩⟩
end Go.Proofs.Yteopponjfkeagaa.Lat

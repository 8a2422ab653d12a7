import Derived.Test.YteopponjfkeagaaLat5
namespace Go.Proofs.Yteopponjfkeagaa.Lat
open Go.RowKit Go.Maps Go.Proofs.YteopponjfkeagaaW.PrintWords Go.Proofs.YteopponjfkeagaaW.PrintLast Go.Proofs.YteopponjfkeagaaW.PrintMore
set_option linter.unusedVariables false
set_option linter.unusedSimpArgs false

/-- what Join and Meet tell of two labels -/
def findF (n : Nat) (J : Int → Int → Int) (a b : Int) : Int × Int := if inN n a = true ∧ inN n b = true then (J a b, 0) else (0, 1)
theorem find_calls {g n : Nat} {F : Nat → Bool} {jm mm : Nat} {bot top : Int} {w : World} (hg : w.heap[g]? = some (.cells (latC n F jm mm bot top) 79 (0, 0))) (hn : n ≤ 6) (k lb mb m : Nat) (J : Int → Int → Int)
    (hk : ∀ args W, (callFunc k args).run Try.prog W = .ok (.enter k args) W) (hW : ∀ W, Below w.heap.size w W → Calls Try.prog k #[.pointer (some ⟨lb, 0, none⟩)] W fun e w' => e = .returned (.map (some mb)) ∧ Below W.heap.size W w') (hJ : Tab w mb m J) (a b : Int) :
    Calls Try.prog 64 #[P g, .int .i64 a, .int .i64 b, .func (Fn.func k) #[] #[.pointer (some ⟨lb, 0, none⟩)]] w fun e w' => e = .returned (.tuple #[.int .i64 (findF n J a b).1, .int .i64 (findF n J a b).2]) ∧ Below w.heap.size w w' := by
  have hS := sized_at hg
  have HJ := Aside0.mk hJ
  clear hg hJ
  go_enter Try.func64, Try.ntmps64
  cases ha : inN n a
  · go_wp2_with fail
    refine (is_calls hS a).mono ?_
    rw [ha]
    rintro e w1 ⟨rfl, hb⟩
    go_wp2_with fail
    exact bodyPost_ret (v := .tuple #[.int .i64 0, .int .i64 1]) (by simp [results, Try.results64, go_sem]) rfl ⟨by simp [findF, ha], hb⟩
  · go_wp2_with fail
    refine (is_calls hS a).mono ?_
    rw [ha]
    rintro e w1 ⟨rfl, hb⟩
    go_wp2_with fail
    refine (is_calls (hS.later hb) b).mono ?_
    cases hbn : inN n b
    · rintro e w2 ⟨rfl, hb2⟩
      go_wp2_with fail
      exact bodyPost_ret (v := .tuple #[.int .i64 0, .int .i64 1]) (by simp [results, Try.results64, go_sem]) rfl ⟨by simp [findF, hbn], below_step hb hb2⟩
    · rintro e w2 ⟨rfl, hb2⟩
      go_wp2_with fail
      refine (hW _ (below_step hb hb2)).mono ?_
      rintro e w3 ⟨rfl, hb3⟩
      have HB := below_step (below_step hb hb2) hb3
      have h1 := inN_iff.1 ha
      have h2 := inN_iff.1 hbn
      have hl := (HJ.out.later HB).look (okI_small (a := a) (by omega) (by omega)) (okI_small (a := b) (by omega) (by omega))
      go_wp2_with fail
      exact bodyPost_ret (v := .tuple #[.int .i64 (J a b), .int .i64 0]) (by simp [results, Try.results64, go_sem]) rfl ⟨by simp [findF, ha, hbn], HB⟩
theorem find_nil (v : Value) (a b : Int) (w : World) : Calls Try.prog 64 #[.pointer none, .int .i64 a, .int .i64 b, v] w fun e w' => e = .returned (.tuple #[.int .i64 0, .int .i64 7]) ∧ Below w.heap.size w w' := by
  go_enter Try.func64, Try.ntmps64
  go_wp2_with fail
  exact bodyPost_ret (v := .tuple #[.int .i64 0, .int .i64 7]) (by simp [results, Try.results64, go_sem]) rfl ⟨rfl, Below.refl _ _⟩
theorem Join1_calls {g n : Nat} {F : Nat → Bool} {jm mm : Nat} {bot top : Int} {w : World} (lb : Nat) (hg : w.heap[g]? = some (.cells (latC n F jm mm bot top) 79 (0, 0))) (hl : w.heap[lb]? = some (.cells #[P g] 25 (0, 0))) :
    Calls Try.prog 65 #[.pointer (some ⟨lb, 0, none⟩)] w fun e w' => e = .returned (.map (some jm)) ∧ Below w.heap.size w w' := by
  have c1 : w.cell? ⟨lb, 0, none⟩ = some (P g) := (blk_cell hl 0).trans rfl
  have c2 : w.cell? ⟨g, 37, none⟩ = some (.map (some jm)) := (blk_cell hg 37).trans rfl
  clear hg hl
  go_enter Try.func65, Try.ntmps65
  go_wp2_with fail
  go_ret
  exact ⟨rfl, Below.refl _ _⟩
theorem Join_calls {g n : Nat} {F : Nat → Bool} {jm mm : Nat} {bot top : Int} {w : World} (hg : w.heap[g]? = some (.cells (latC n F jm mm bot top) 79 (0, 0))) (hn : n ≤ 6) {m : Nat} {J : Int → Int → Int} (hJ : Tab w jm m J) (a b : Int) :
    Calls Try.prog 19 #[P g, .int .i64 a, .int .i64 b] w fun e w' => e = .returned (.tuple #[.int .i64 (findF n J a b).1, .int .i64 (findF n J a b).2]) ∧ Below w.heap.size w w' := by
  have hmf : ∀ (fn : Fn) (first cap : Array Value) (w : World), (Instr.makeFunc fn first cap).run Try.prog w = .ok (.func fn first cap) w := fun _ _ _ _ => rfl
  have HG := Aside0.mk (blk_alloc hg (.cells #[P g] 25))
  have HL := Aside0.mk (blk_new w (.cells #[P g] 25))
  have HB := Aside0.mk (below_alloc (Below.refl w.heap.size w) (.cells #[P g] 25))
  have HJ := Aside0.mk (hJ.later HB.out)
  clear hg hJ
  go_enter Try.func19, Try.ntmps19
  go_wp2_with fail
  refine (find_calls HG.out hn 65 w.heap.size jm m J (fun _ _ => enters_ Try.func65 (by kernel_rfl) rfl _ _) (fun W hW => Join1_calls w.heap.size (blk_below HG.out hW) (blk_below HL.out hW)) HJ.out a b).mono ?_
  rintro e w1 ⟨rfl, hb⟩
  obtain ⟨⟨r1, r2⟩, he⟩ : ∃ r, findF n J a b = r := ⟨_, rfl⟩
  rw [he]
  have HE := Aside0.mk he
  clear he
  go_wp2_with fail
  exact bodyPost_ret (v := .tuple #[.int .i64 r1, .int .i64 r2]) (by simp [results, Try.results19, go_sem]) rfl ⟨by rw [HE.out], below_step HB.out hb⟩
theorem Join_nil (a b : Int) (w : World) : Calls Try.prog 19 #[.pointer none, .int .i64 a, .int .i64 b] w fun e w' => e = .returned (.tuple #[.int .i64 0, .int .i64 7]) ∧ Below w.heap.size w w' := by
  have hmf : ∀ (fn : Fn) (first cap : Array Value) (w : World), (Instr.makeFunc fn first cap).run Try.prog w = .ok (.func fn first cap) w := fun _ _ _ _ => rfl
  have HB := Aside0.mk (below_alloc (Below.refl w.heap.size w) (.cells #[.pointer none] 25))
  go_enter Try.func19, Try.ntmps19
  go_wp2_with fail
  refine (find_nil _ a b _).mono ?_
  rintro e w1 ⟨rfl, hb⟩
  go_wp2_with fail
  exact bodyPost_ret (v := .tuple #[.int .i64 0, .int .i64 7]) (by simp [results, Try.results19, go_sem]) rfl ⟨rfl, below_step HB.out hb⟩
theorem Meet1_calls {g n : Nat} {F : Nat → Bool} {jm mm : Nat} {bot top : Int} {w : World} (lb : Nat) (hg : w.heap[g]? = some (.cells (latC n F jm mm bot top) 79 (0, 0))) (hl : w.heap[lb]? = some (.cells #[P g] 25 (0, 0))) :
    Calls Try.prog 66 #[.pointer (some ⟨lb, 0, none⟩)] w fun e w' => e = .returned (.map (some mm)) ∧ Below w.heap.size w w' := by
  have c1 : w.cell? ⟨lb, 0, none⟩ = some (P g) := (blk_cell hl 0).trans rfl
  have c2 : w.cell? ⟨g, 38, none⟩ = some (.map (some mm)) := (blk_cell hg 38).trans rfl
  clear hg hl
  go_enter Try.func66, Try.ntmps66
  go_wp2_with fail
  go_ret
  exact ⟨rfl, Below.refl _ _⟩
theorem Meet_calls {g n : Nat} {F : Nat → Bool} {jm mm : Nat} {bot top : Int} {w : World} (hg : w.heap[g]? = some (.cells (latC n F jm mm bot top) 79 (0, 0))) (hn : n ≤ 6) {m : Nat} {J : Int → Int → Int} (hJ : Tab w mm m J) (a b : Int) :
    Calls Try.prog 20 #[P g, .int .i64 a, .int .i64 b] w fun e w' => e = .returned (.tuple #[.int .i64 (findF n J a b).1, .int .i64 (findF n J a b).2]) ∧ Below w.heap.size w w' := by
  have hmf : ∀ (fn : Fn) (first cap : Array Value) (w : World), (Instr.makeFunc fn first cap).run Try.prog w = .ok (.func fn first cap) w := fun _ _ _ _ => rfl
  have HG := Aside0.mk (blk_alloc hg (.cells #[P g] 25))
  have HL := Aside0.mk (blk_new w (.cells #[P g] 25))
  have HB := Aside0.mk (below_alloc (Below.refl w.heap.size w) (.cells #[P g] 25))
  have HJ := Aside0.mk (hJ.later HB.out)
  clear hg hJ
  go_enter Try.func20, Try.ntmps20
  go_wp2_with fail
  refine (find_calls HG.out hn 66 w.heap.size mm m J (fun _ _ => enters_ Try.func66 (by kernel_rfl) rfl _ _) (fun W hW => Meet1_calls w.heap.size (blk_below HG.out hW) (blk_below HL.out hW)) HJ.out a b).mono ?_
  rintro e w1 ⟨rfl, hb⟩
  obtain ⟨⟨r1, r2⟩, he⟩ : ∃ r, findF n J a b = r := ⟨_, rfl⟩
  rw [he]
  have HE := Aside0.mk he
  clear he
  go_wp2_with fail
  exact bodyPost_ret (v := .tuple #[.int .i64 r1, .int .i64 r2]) (by simp [results, Try.results20, go_sem]) rfl ⟨by rw [HE.out], below_step HB.out hb⟩
theorem Meet_nil (a b : Int) (w : World) : Calls Try.prog 20 #[.pointer none, .int .i64 a, .int .i64 b] w fun e w' => e = .returned (.tuple #[.int .i64 0, .int .i64 7]) ∧ Below w.heap.size w w' := by
  have hmf : ∀ (fn : Fn) (first cap : Array Value) (w : World), (Instr.makeFunc fn first cap).run Try.prog w = .ok (.func fn first cap) w := fun _ _ _ _ => rfl
  have HB := Aside0.mk (below_alloc (Below.refl w.heap.size w) (.cells #[.pointer none] 25))
  go_enter Try.func20, Try.ntmps20
  go_wp2_with fail
  refine (find_nil _ a b _).mono ?_
  rintro e w1 ⟨rfl, hb⟩
  go_wp2_with fail
  exact bodyPost_ret (v := .tuple #[.int .i64 0, .int .i64 7]) (by simp [results, Try.results20, go_sem]) rfl ⟨rfl, below_step HB.out hb⟩
end Go.Proofs.Yteopponjfkeagaa.Lat

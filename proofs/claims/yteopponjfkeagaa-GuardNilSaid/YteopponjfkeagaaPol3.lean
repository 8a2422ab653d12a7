import Derived.Test.YteopponjfkeagaaPol2
namespace Go.Proofs.Yteopponjfkeagaa.Lat
open Go.RowKit Go.Maps Go.Proofs.YteopponjfkeagaaW.PrintWords Go.Proofs.YteopponjfkeagaaW.PrintLast Go.Proofs.YteopponjfkeagaaW.PrintMore Go.Proofs.Yteopponjfkeagaa.PPol
set_option linter.unusedVariables false
set_option linter.unusedSimpArgs false

/-- a rule's number, or that there is none -/
def foundF (l : List S58) (a b : Int) : Int × Int := match findJ l a b with | some k => (k, 0) | none => (0, 6)
theorem Find_nil (a b : Int) (w : World) : Calls Try.prog 56 #[.pointer none, .int .i64 a, .int .i64 b] w fun e w' => e = .returned (.tuple #[.int .i64 0, .int .i64 7]) ∧ Below w.heap.size w w' := by
  go_enter Try.func56, Try.ntmps56
  go_wp2_with fail
  exact bodyPost_ret (v := .tuple #[.int .i64 0, .int .i64 7]) (by simp [results, Try.results56, go_sem]) rfl ⟨rfl, Below.refl _ _⟩
theorem Find_calls {w : World} {pg : Nat} {l : List S58} (h : IsPol w pg l) {a b : Int} (ha : okI a) (hb : okI b) : Calls Try.prog 56 #[P pg, .int .i64 a, .int .i64 b] w fun e w' => e = .returned (.tuple #[.int .i64 (foundF l a b).1, .int .i64 (foundF l a b).2]) ∧ Below w.heap.size w w' := by
  obtain ⟨pm, base, u, h1, h2, h3⟩ := h
  have lk := h3.look ha hb
  have c1 : w.cell? ⟨pg, 1, none⟩ = some (.map (some pm)) := (blk_cell h1 1).trans rfl
  obtain ⟨J, hJ⟩ : ∃ J, findJ l a b = J := ⟨_, rfl⟩
  unfold foundF
  rw [hJ] at lk ⊢
  clear h1 h2 h3 ha hb hJ
  cases J with
  | none =>
    simp only [Option.getD_none, Option.isSome_none] at lk
    go_enter Try.func56, Try.ntmps56
    go_wp2_with fail
    exact bodyPost_ret (v := .tuple #[.int .i64 0, .int .i64 6]) (by simp [results, Try.results56, go_sem]) rfl ⟨rfl, Below.refl _ _⟩
  | some k =>
    simp only [Option.getD_some, Option.isSome_some] at lk
    go_enter Try.func56, Try.ntmps56
    go_wp2_with fail
    exact bodyPost_ret (v := .tuple #[.int .i64 k, .int .i64 0]) (by simp [results, Try.results56, go_sem]) rfl ⟨rfl, Below.refl _ _⟩

/-! guard -/
def readF (T : Int → Int → Bool) (s o : Int) : Int := if T o s then 1 else 0
def writeF (T : Int → Int → Bool) (s o : Int) : Int := if T s o then (if s = o then 1 else 2) else 0
def orderF (T : Int → Int → Bool) (s o : Int) : Int := if s = o ∧ T s o = true then 1 else 0
section
variable {v : Value} {T : Int → Int → Bool} {w : World} (hT : Flowing v T w)
include hT
theorem Read_calls (s o : Int) : Calls Try.prog 37 #[v, .int .i64 s, .int .i64 o] w fun e w' => e = .returned (.int .i64 (readF T s o)) ∧ Below w.heap.size w w' := by
  have hc := fun W hW => hT W hW o s
  replace hc := Aside0.mk hc
  cases h : T o s
  all_goals
    first
      | rw [show readF T s o = 0 by unfold readF; rw [h]; rfl]
      | rw [show readF T s o = 1 by unfold readF; rw [h]; rfl]
    rw [h] at hc
    go_enter Try.func37, Try.ntmps37
    go_wp2_with fail
    refine (hc.out _ (Below.refl _ _)).mono ?_
    rintro e w1 ⟨rfl, hb⟩
    go_wp2_with fail
    go_ret
    exact ⟨rfl, hb⟩
theorem Write_calls (s o : Int) : Calls Try.prog 39 #[v, .int .i64 s, .int .i64 o] w fun e w' => e = .returned (.int .i64 (writeF T s o)) ∧ Below w.heap.size w w' := by
  have hc := fun W hW => hT W hW s o
  replace hc := Aside0.mk hc
  cases h : T s o
  · rw [show writeF T s o = 0 by unfold writeF; rw [h]; rfl]
    rw [h] at hc
    go_enter Try.func39, Try.ntmps39
    go_wp2_with fail
    refine (hc.out _ (Below.refl _ _)).mono ?_
    rintro e w1 ⟨rfl, hb⟩
    go_wp2_with fail
    go_ret
    exact ⟨rfl, hb⟩
  · rw [h] at hc
    by_cases hso : s = o
    · rw [show writeF T s o = 1 by unfold writeF; rw [h, if_pos rfl, if_pos hso]]
      subst hso
      go_enter Try.func39, Try.ntmps39
      go_wp2_with fail
      refine (hc.out _ (Below.refl _ _)).mono ?_
      rintro e w1 ⟨rfl, hb⟩
      go_wp2_with fail
      go_ret
      exact ⟨rfl, hb⟩
    · rw [show writeF T s o = 2 by unfold writeF; rw [h, if_pos rfl, if_neg hso]]
      have hso2 : (s == o) = false := by simpa using hso
      go_enter Try.func39, Try.ntmps39
      go_wp2_with fail
      refine (hc.out _ (Below.refl _ _)).mono ?_
      rintro e w1 ⟨rfl, hb⟩
      go_wp2_with fail
      go_ret
      exact ⟨rfl, hb⟩
theorem Order_calls (s o : Int) : Calls Try.prog 38 #[v, .int .i64 s, .int .i64 o] w fun e w' => e = .returned (.int .i64 (orderF T s o)) ∧ Below w.heap.size w w' := by
  have hc := fun W hW => hT W hW s o
  replace hc := Aside0.mk hc
  by_cases hso : s = o
  · cases h : T s o
    all_goals
      first
        | rw [show orderF T s o = 0 by unfold orderF; exact if_neg (fun q => by rw [h] at q; exact absurd q.2 (by decide))]
        | rw [show orderF T s o = 1 by unfold orderF; exact if_pos ⟨hso, h⟩]
      rw [h] at hc
      subst hso
      go_enter Try.func38, Try.ntmps38
      go_wp2_with fail
      refine (hc.out _ (Below.refl _ _)).mono ?_
      rintro e w1 ⟨rfl, hb⟩
      go_wp2_with fail
      go_ret
      exact ⟨rfl, hb⟩
  · rw [show orderF T s o = 0 by unfold orderF; exact if_neg (fun q => hso q.1)]
    have hso2 : (s == o) = false := by simpa using hso
    go_enter Try.func38, Try.ntmps38
    go_wp2_with fail
    go_ret
    exact ⟨rfl, Below.refl _ _⟩
end
/-- what is told of a release -/
def relF (T : Int → Int → Bool) (r : Int × Int) (s o : Int) : Int × Int := if r.2 = 0 ∧ T s s = true ∧ T o o = true then (r.1, 1) else (0, 0)
theorem Release_calls {v q : Value} {T : Int → Int → Bool} {r : Int × Int} {s o : Int} {w : World} (hT : Flowing v T w) (hF : Calls Try.prog 56 #[q, .int .i64 s, .int .i64 o] w fun e w' => e = .returned (.tuple #[.int .i64 r.1, .int .i64 r.2]) ∧ Below w.heap.size w w') :
    Calls Try.prog 53 #[v, q, .int .i64 s, .int .i64 o] w fun e w' => e = .returned (.tuple #[.int .i64 (relF T r s o).1, .int .i64 (relF T r s o).2]) ∧ Below w.heap.size w w' := by
  obtain ⟨n, x⟩ := r
  simp only at hF
  obtain ⟨res, hres⟩ : ∃ res, relF T (n, x) s o = res := ⟨_, rfl⟩
  rw [hres]
  have one : ¬ (x = 0 ∧ T s s = true ∧ T o o = true) → res = (0, 0) := fun h => by rw [← hres]; exact if_neg h
  have two : (x = 0 ∧ T s s = true ∧ T o o = true) → res = (n, 1) := fun h => by rw [← hres]; exact if_pos h
  clear hres
  replace one := Aside0.mk one
  replace two := Aside0.mk two
  replace hT := Aside0.mk hT
  replace hF := Aside0.mk hF
  go_enter Try.func53, Try.ntmps53
  go_wp2_with fail
  refine hF.out.mono ?_
  rintro e w1 ⟨rfl, hb⟩
  replace hT := Aside0.mk (hT.out.later hb)
  replace hb := Aside0.mk hb
  by_cases hx : x = 0
  case neg =>
    obtain rfl := one.out (fun q => hx q.1)
    have hx2 : (x == 0) = false := by simpa using hx
    go_wp2_with fail
    exact bodyPost_ret (v := .tuple #[.int .i64 0, .int .i64 0]) (by simp [results, Try.results53, go_sem]) rfl ⟨rfl, hb.out⟩
  subst hx
  go_wp2_with fail
  refine (hT.out _ (Below.refl _ _) s s).mono ?_
  cases h1 : T s s
  · obtain rfl := one.out (fun q => by rw [h1] at q; exact absurd q.2.1 (by decide))
    rintro e w2 ⟨rfl, hb2⟩
    replace hb2 := Aside0.mk (below_step hb.out hb2)
    go_wp2_with fail
    exact bodyPost_ret (v := .tuple #[.int .i64 0, .int .i64 0]) (by simp [results, Try.results53, go_sem]) rfl ⟨rfl, hb2.out⟩
  rintro e w2 ⟨rfl, hb2⟩
  replace hT := Aside0.mk (hT.out.later hb2)
  replace hb2 := Aside0.mk (below_step hb.out hb2)
  go_wp2_with fail
  refine (hT.out _ (Below.refl _ _) o o).mono ?_
  cases h2 : T o o
  · obtain rfl := one.out (fun q => by rw [h2] at q; exact absurd q.2.2 (by decide))
    rintro e w3 ⟨rfl, hb3⟩
    replace hb3 := Aside0.mk (below_step hb2.out hb3)
    go_wp2_with fail
    exact bodyPost_ret (v := .tuple #[.int .i64 0, .int .i64 0]) (by simp [results, Try.results53, go_sem]) rfl ⟨rfl, hb3.out⟩
  · obtain rfl := two.out ⟨by trivial, h1, h2⟩
    rintro e w3 ⟨rfl, hb3⟩
    replace hb3 := Aside0.mk (below_step hb2.out hb3)
    go_wp2_with fail
    exact bodyPost_ret (v := .tuple #[.int .i64 n, .int .i64 1]) (by simp [results, Try.results53, go_sem]) rfl ⟨rfl, hb3.out⟩

/-! two labels, a rule -/
def f2 : List (List Bool) := [[true, true], [false, true]]
abbrev row2 (b0 b1 : Bool) : Obj := .cells #[.bool b0, .bool b1] 4
abbrev sl2 (g : Nat) : Value := .slice (some ⟨g, 0, none⟩) 2 2
abbrev W2 (w : World) : World := ((w.alloc (row2 true true)).alloc (row2 false true)).alloc (.cells #[sl2 w.heap.size, sl2 (w.heap.size + 1)] 37)
theorem two_C (w : World) : Kd.C (Kd.slice 4 Kd.bool) (W2 w) (some ⟨w.heap.size + 1 + 1, 0, none⟩) 2 f2 := by
  have e1 : (w.alloc (row2 true true)).heap.size = w.heap.size + 1 := by simp
  have e2 : ((w.alloc (row2 true true)).alloc (row2 false true)).heap.size = w.heap.size + 1 + 1 := by simp
  have g0 := blk_new w (row2 true true)
  have g1 := blk_new (w.alloc (row2 true true)) (row2 false true)
  have g2 := blk_new ((w.alloc (row2 true true)).alloc (row2 false true)) (.cells #[sl2 w.heap.size, sl2 (w.heap.size + 1)] 37)
  rw [e1] at g1
  rw [e2] at g2
  refine rows_C g2 (by decide) ?_
  intro j row hj
  rcases j with _ | _ | j
  · obtain rfl := Option.some.inj hj
    exact ⟨_, 2, rfl, by decide, bools_C (l := [true, true]) (blk_alloc (blk_alloc g0 _) _) (by decide)⟩
  · obtain rfl := Option.some.inj hj
    exact ⟨_, 2, rfl, by decide, bools_C (l := [false, true]) (blk_alloc g1 _) (by decide)⟩
  · simp [f2] at hj
theorem below3 (w : World) (o0 o1 o2 : Obj) : Below w.heap.size w (((w.alloc o0).alloc o1).alloc o2) := below_alloc (below_alloc (below_alloc (Below.refl _ _) _) _) _
theorem sq2 : sq f2 := ⟨by decide, by decide, by decide⟩
theorem order2 : orderP 2 (flR f2 2) := by
  unfold orderP okA okB okC
  decide +kernel
theorem full2 : full 2 (lt 2 (flR f2 2)) := fun i j hi hj => (show ∀ i : Nat, i < 2 → ∀ j : Nat, j < 2 → G 2 (lt 2 (flR f2 2)) i j ≠ -1 by decide +kernel) i hi j hj
theorem full2' : full 2 (gt 2 (flR f2 2)) := fun i j hi hj => (show ∀ i : Nat, i < 2 → ∀ j : Nat, j < 2 → G 2 (gt 2 (flR f2 2)) i j ≠ -1 by decide +kernel) i hi j hj
theorem new2 {e : Ending} {w' : World} (h : NewTells f2 e w') : ∃ g, e = .returned (.tuple #[P g, .int .i64 0]) ∧ IsLat w' g 2 (flR f2 2) := by
  rcases h with ⟨h, _⟩ | ⟨_, h, _⟩ | ⟨_, _, h, _⟩ | ⟨_, _, _, _, h⟩
  · exact absurd sq2 h
  · exact absurd order2 h
  · exact absurd ⟨full2, full2'⟩ h
  · exact h
/-- one rule, in a row of its own -/
theorem rule_C {w : World} {g : Nat} {x y z : Int} (hg : w.heap[g]? = some (.cells #[.int .i64 x, .int .i64 y, .int .i64 z] 58 (0, 0))) : Kd.C k58 w (some ⟨g, 0, none⟩) 1 [⟨x, y, z⟩] :=
  ⟨rfl, by decide, fun _ => ⟨_, rfl, fun j p hj => by
    rcases j with _ | j
    · obtain rfl := Option.some.inj hj
      refine ⟨[.int .i64 x, .int .i64 y, .int .i64 z], rfl, k58_mk _ _, fun i u hu => ?_⟩
      have h := blk_cell hg i
      have e : (⟨g, 0, none⟩ : Addr).add (0 * k58.sz + i) = ⟨g, i, none⟩ := by
        rw [Nat.zero_mul, Nat.zero_add]
        simp [Addr.add] <;> omega
      rw [e, h]
      simpa using hu
    · simp at hj⟩⟩
theorem pol2 {F : Nat → Bool} {l : List S58} {n : Nat} {e : Ending} {w' : World} (h0 : polNew n F l = 0) (h : NewPol n F l e w') : ∃ pg, e = .returned (.tuple #[P pg, .int .i64 0]) ∧ IsPol w' pg l := by
  rcases h with ⟨h, _⟩ | ⟨_, h⟩
  · exact absurd h0 h
  · exact h
theorem fl10 : flowsF 2 (flR f2 2) 1 0 = false := by decide +kernel
theorem fl01 : flowsF 2 (flR f2 2) 0 1 = true := by decide +kernel
theorem fl00 : flowsF 2 (flR f2 2) 0 0 = true := by decide +kernel
theorem fl11 : flowsF 2 (flR f2 2) 1 1 = true := by decide +kernel
end Go.Proofs.Yteopponjfkeagaa.Lat

import Derived.Test.YteopponjfkeagaaPol3
import Derived.Test.YteopponjfkeagaaLat15
namespace Go.Proofs.Yteopponjfkeagaa.Lat
open Go.RowKit Go.Maps Go.Proofs.YteopponjfkeagaaW.PrintWords Go.Proofs.YteopponjfkeagaaW.PrintLast Go.Proofs.YteopponjfkeagaaW.PrintMore Go.Proofs.Yteopponjfkeagaa.PPol
set_option linter.unusedVariables false
set_option linter.unusedSimpArgs false

theorem okLP {f : List (List Bool)} {n : Nat} {w W : World} (hb : Below w.heap.size w W) {g pg : Nat} {l : List S58} (hl : IsLat W g n (flR f n)) (hp : IsPol W pg l) {k : Nat} {args : Array Value} {v : Value} (hc : Calls Try.prog k args W fun e w' => e = .returned v ∧ Below W.heap.size W w') :
    Calls Try.prog k args W fun e w' => e = .returned v ∧ Aside0 (IsLat w' g n (flR f n)) ∧ Aside0 (IsPol w' pg l) ∧ Aside0 (Below w.heap.size w w') :=
  hc.mono fun e w' h => ⟨h.1, ⟨hl.later h.2⟩, ⟨hp.later h.2⟩, ⟨below_step hb h.2⟩⟩
theorem g1 : polNew 2 (flR f2 2) [⟨1, 0, 1⟩] = 0 := by decide +kernel
theorem g2 : relF (flowsF 2 (flR f2 2)) (foundF [⟨1, 0, 1⟩] 1 0) 1 0 = (0, 1) := by decide +kernel
theorem g3 : relF (flowsF 2 (flR f2 2)) (foundF [⟨1, 0, 1⟩] 0 1) 0 1 = (0, 0) := by decide +kernel
theorem g4 : readF (flowsF 2 (flR f2 2)) 1 0 = 1 := by decide +kernel
theorem g5 : readF (flowsF 2 (flR f2 2)) 0 1 = 0 := by decide +kernel
theorem g6 : writeF (flowsF 2 (flR f2 2)) 0 1 = 2 := by decide +kernel
theorem g7 : writeF (flowsF 2 (flR f2 2)) 1 0 = 0 := by decide +kernel
theorem g8 : orderF (flowsF 2 (flR f2 2)) 1 1 = 1 := by decide +kernel
section
variable {w : World} {g pg : Nat}
theorem cRel {a b x y : Int} {l : List S58} {F : Nat → Bool} {n : Nat} (h6 : n ≤ 6) (hl : IsLat w g n F) (hp : IsPol w pg l) (ha : okI a) (hb : okI b) (e : relF (flowsF n F) (foundF l a b) a b = (x, y)) :
    Calls Try.prog 53 #[P g, P pg, .int .i64 a, .int .i64 b] w fun e w' => e = .returned (.tuple #[.int .i64 x, .int .i64 y]) ∧ Below w.heap.size w w' := by
  have h := Release_calls (lat_flowing hl h6) (Find_calls hp ha hb)
  rw [e] at h
  exact h
end
set_option maxHeartbeats 4000000 in
set_option maxRecDepth 8000 in
theorem gtwo_calls (w : World) : Calls Try.prog 36 #[] w fun e w' => e = .returned (.bool true) ∧ Below w.heap.size w w' := by
  have HC := Aside0.mk (two_C w)
  have HB : Aside0 (Below w.heap.size w (W2 w)) := Aside0.mk (below3 w (row2 true true) (row2 false true) (.cells #[sl2 w.heap.size, sl2 (w.heap.size + 1)] 37))
  go_enter Try.func36, Try.ntmps36
  go_wp2_with fail
  change Calls _ _ _ (W2 w) _
  generalize W2 w = W at *
  refine (New_calls' (n := 2) f2 ⟨rfl⟩ HC.out).mono ?_
  rintro e w1 ⟨hnew, hb⟩
  obtain ⟨g, rfl, hlat⟩ := new2 hnew
  clear hnew HC
  have HR := Aside0.mk (rule_C (blk_new w1 (.cells #[.int .i64 1, .int .i64 0, .int .i64 1] 58)))
  have hal := below_alloc (Below.refl w1.heap.size w1) (.cells #[.int .i64 1, .int .i64 0, .int .i64 1] 58)
  have HL := Aside0.mk (hlat.later hal)
  replace HB := Aside0.mk (below_step (below_step HB.out hb) hal)
  clear hb hlat hal
  go_wp2_with fail
  generalize w1.alloc (.cells #[.int .i64 1, .int .i64 0, .int .i64 1] 58) = W1 at *
  refine (PolNew_calls [⟨1, 0, 1⟩] ⟨rfl⟩ (by decide) (lat_sized HL.out) (lat_flowing HL.out (by decide)) HR.out).mono ?_
  rintro e w2 ⟨hnew, hb⟩
  obtain ⟨pg, rfl, hpol⟩ := pol2 g1 hnew
  have HP := Aside0.mk hpol
  replace HL := Aside0.mk (HL.out.later hb)
  replace HB := Aside0.mk (below_step HB.out hb)
  clear hb hpol hnew HR
  go_wp2_with fail
  refine (okLP HB.out HL.out HP.out (cRel (by decide) HL.out HP.out (okI_small (by decide) (by decide)) (okI_small (by decide) (by decide)) g2)).mono ?_
  clear HL HP HB
  rintro e w3 ⟨rfl, HL, HP, HB⟩
  go_wp2_with fail
  refine (okLP HB.out HL.out HP.out (cRel (by decide) HL.out HP.out (okI_small (by decide) (by decide)) (okI_small (by decide) (by decide)) g3)).mono ?_
  clear HL HP HB
  rintro e w4 ⟨rfl, HL, HP, HB⟩
  go_wp2_with fail
  refine (okLP HB.out HL.out HP.out (Read_calls (lat_flowing HL.out (by decide)) 1 0)).mono ?_
  clear HL HP HB
  rw [g4]
  rintro e w5 ⟨rfl, HL, HP, HB⟩
  go_wp2_with fail
  refine (okLP HB.out HL.out HP.out (Read_calls (lat_flowing HL.out (by decide)) 0 1)).mono ?_
  clear HL HP HB
  rw [g5]
  rintro e w6 ⟨rfl, HL, HP, HB⟩
  go_wp2_with fail
  refine (okLP HB.out HL.out HP.out (Write_calls (lat_flowing HL.out (by decide)) 0 1)).mono ?_
  clear HL HP HB
  rw [g6]
  rintro e w7 ⟨rfl, HL, HP, HB⟩
  go_wp2_with fail
  refine (okLP HB.out HL.out HP.out (Write_calls (lat_flowing HL.out (by decide)) 1 0)).mono ?_
  clear HL HP HB
  rw [g7]
  rintro e w8 ⟨rfl, HL, HP, HB⟩
  go_wp2_with fail
  refine (okLP HB.out HL.out HP.out (Order_calls (lat_flowing HL.out (by decide)) 1 1)).mono ?_
  clear HL HP HB
  rw [g8]
  rintro e w9 ⟨rfl, HL, HP, HB⟩
  go_wp2_with fail
  go_ret
  exact ⟨rfl, HB.out⟩
theorem gtwo_then {w W : World} (hb : Below w.heap.size w W) : Ok w w.heap.size W 36 #[] (.bool true) := (gtwo_calls W).mono fun e w' h => ⟨h.1, below_step hb h.2⟩
abbrev noT : Int → Int → Bool := fun _ _ => false
theorem gn1 (a b : Int) : readF noT a b = 0 := rfl
theorem gn2 (a b : Int) : writeF noT a b = 0 := rfl
theorem gn3 (a b : Int) : orderF noT a b = 0 := if_neg (fun q => absurd q.2 Bool.false_ne_true)
theorem visible_nil (w : World) (a : Int) : Calls Try.prog 55 #[.pointer none, .int .i64 a] w fun e w' => ∃ A c, e = .returned (.slice A 0 c) ∧ Below w.heap.size w w' := by
  go_enter Try.func55, Try.ntmps55
  go_wp2_with fail
  refine (Below_calls (n := 0) (by decide) (sized_nil _) (flowing_nil _) a).mono ?_
  rintro e w7 ⟨u, rfl, hR, hb⟩
  rw [pick_zero] at hR
  obtain ⟨A7, c7, rfl⟩ := no_cells hR
  go_wp2_with fail
  go_ret
  exact ⟨A7, c7, rfl, hb⟩
set_option maxHeartbeats 4000000 in
theorem gnil_core (a b : Int) (w : World) : Calls Try.prog 12 #[.int .i64 a, .int .i64 b] w fun e w' => e = .returned (.bool true) ∧ Below w.heap.size w w' := by
  have HB := Aside0.mk (Below.refl w.heap.size w)
  go_enter Try.func12, Try.ntmps12
  go_wp2_with fail
  refine (Release_calls (r := (0, 7)) (flowing_nil _) (Find_nil a b _)).mono ?_
  rw [show relF (fun _ _ => false) (0, 7) a b = (0, 0) from if_neg (fun q => absurd q.1 (by decide))]
  rintro e w1 ⟨rfl, hb⟩
  replace HB := Aside0.mk (below_step HB.out hb)
  clear hb
  go_wp2_with fail
  refine (Read_calls (flowing_nil _) a b).mono ?_
  rw [gn1]
  rintro e w2 ⟨rfl, hb⟩
  replace HB := Aside0.mk (below_step HB.out hb)
  clear hb
  go_wp2_with fail
  refine (Write_calls (flowing_nil _) a b).mono ?_
  rw [gn2]
  rintro e w3 ⟨rfl, hb⟩
  replace HB := Aside0.mk (below_step HB.out hb)
  clear hb
  go_wp2_with fail
  refine (Order_calls (flowing_nil _) a b).mono ?_
  rw [gn3]
  rintro e w4 ⟨rfl, hb⟩
  replace HB := Aside0.mk (below_step HB.out hb)
  clear hb
  go_wp2_with fail
  refine (visible_nil _ a).mono ?_
  rintro e w5 ⟨A5, c5, rfl, hb⟩
  replace HB := Aside0.mk (below_step HB.out hb)
  clear hb
  go_wp2_with fail
  refine (gtwo_then HB.out).mono ?_
  rintro e w6 ⟨rfl, hb⟩
  go_wp2_with fail
  go_ret
  exact ⟨rfl, hb⟩
theorem gnil_walk (a0 a1 : Int) (w : World) (w0 : (Lit.int .i64 a0).wf = true) (w1 : (Lit.int .i64 a1).wf = true) : Calls Try.prog 12 #[.int .i64 a0, .int .i64 a1] w fun e w' => e = .returned (.bool true) ∧ Below w.heap.size w w' := gnil_core a0 a1 w
end Go.Proofs.Yteopponjfkeagaa.Lat

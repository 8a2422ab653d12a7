import Derived.Test.YteopponjfkeagaaLat24
import Derived.Deep.RegionHeld3
namespace Go.Proofs.Yteopponjfkeagaa.Lat
open Go.RowKit Go.Maps Go.Proofs.YteopponjfkeagaaW.PrintWords Go.Proofs.YteopponjfkeagaaW.PrintLast Go.Proofs.YteopponjfkeagaaW.PrintMore Go.Proofs.Yteopponjfkeagaa.PLattice
set_option linter.unusedVariables false
set_option linter.unusedSimpArgs false

section
variable {f : List (List Bool)} {n c : Nat} {A : Option Addr} {w : World}
abbrev Ok (w : World) (B : Nat) (W : World) (k : Nat) (args : Array Value) (v : Value) : Prop := Calls Try.prog k args W fun e w' => e = .returned v ∧ Below B w w'
theorem four_then {W : World} (hb : Below w.heap.size w W) : Ok w w.heap.size W 16 #[] (.bool true) := (four_calls W).mono fun e w' h => ⟨h.1, below_step hb h.2⟩
/-- whether the table is larger than is gone through, whether it is wrong -/
theorem rlarge (hn : f.length = n) (hC : Kd.C (Kd.slice 4 Kd.bool) w A n f) (hc : n ≤ c) : ∃ r : Bool, (r = false → n ≤ 40) ∧ Ok w w.heap.size w 15 #[.slice A n c] (.bool r) := by
  subst hn
  obtain ⟨k, r, hr, h40⟩ := large_f f (Kd.C_max hC)
  exact ⟨r, h40, (weighlocklaw04_large.calls k A c f r w hC hc hr).mono fun e w' h => ⟨h.1, h.2.below⟩⟩
theorem rwrong (hn : f.length = n) (hC : Kd.C (Kd.slice 4 Kd.bool) w A n f) (hc : n ≤ c) (h40 : n ≤ 40) : ∃ r : Int, WrongIs f r ∧ ∀ W, Below w.heap.size w W → Ok w w.heap.size W 18 #[.slice A n c] (.int .i64 r) := by
  subst hn
  obtain ⟨r, hr, hw⟩ := Wrong_f f h40
  exact ⟨r, hw, fun W hW => (weighlockref04_Wrong.calls 400 A c f r W (Kd.C_below hC hW) hc hr).mono fun e w' h => ⟨h.1, below_step hW h.2⟩⟩
theorem lat_Join_in {g : Nat} {F : Nat → Bool} (h : IsLat w g n F) (h6 : n ≤ 6) {i j : Nat} (hi : i < n) (hj : j < n) : Calls Try.prog 19 #[P g, .int .i64 (i : Int), .int .i64 (j : Int)] w fun e w' => e = .returned (.tuple #[.int .i64 (G n (lt n F) i j), .int .i64 0]) ∧ Below w.heap.size w w' := by
  have := lat_Join h h6 i j
  rw [find_in hi hj] at this
  rw [← jT_in hi hj]
  exact this
theorem lat_Meet_in {g : Nat} {F : Nat → Bool} (h : IsLat w g n F) (h6 : n ≤ 6) {i j : Nat} (hi : i < n) (hj : j < n) : Calls Try.prog 20 #[P g, .int .i64 (i : Int), .int .i64 (j : Int)] w fun e w' => e = .returned (.tuple #[.int .i64 (G n (gt n F) i j), .int .i64 0]) ∧ Below w.heap.size w w' := by
  have := lat_Meet h h6 i j
  rw [find_in hi hj] at this
  rw [← jT_in hi hj]
  exact this
end
set_option maxHeartbeats 8000000 in
set_option maxRecDepth 8000 in
theorem tells_core {A : Option Addr} {c n : Nat} (f : List (List Bool)) (hn : Aside0 (f.length = n)) (a b : Int) (w : World) (hC : Kd.C (Kd.slice 4 Kd.bool) w A n f) (hc : n ≤ c) :
    Ok w w.heap.size w 5 #[.slice A n c, .int .i64 a, .int .i64 b] (.bool true) := by
  have HC := Aside0.mk hC
  obtain ⟨r, h40, HL⟩ := rlarge hn.out hC hc
  replace HL := Aside0.mk HL
  replace h40 := Aside0.mk h40
  clear hC
  go_enter Try.func5, Try.ntmps5
  go_wp2_with fail
  refine HL.out.mono ?_
  rintro e w1 ⟨rfl, hb⟩
  have HB := Aside0.mk hb
  clear hb HL
  cases r
  case true =>
    go_wp2_with fail
    refine (four_then HB.out).mono ?_
    rintro e w2 ⟨rfl, hb⟩
    go_wp2_with fail
    go_ret
    exact ⟨rfl, hb⟩
  replace h40 : n ≤ 40 := h40.out rfl
  obtain ⟨r, hw, HW⟩ := rwrong hn.out HC.out hc h40
  replace HW := Aside0.mk HW
  replace hw := Aside0.mk hw
  go_wp2_with fail
  refine (HW.out _ HB.out).mono ?_
  rintro e w2 ⟨rfl, hb⟩
  replace HB := Aside0.mk hb
  clear hb HW
  by_cases hr : r = 0
  case neg =>
    have hr2 : (r == 0) = false := by simpa using hr
    go_wp2_with fail
    refine (four_then HB.out).mono ?_
    rintro e w3 ⟨rfl, hb⟩
    go_wp2_with fail
    go_ret
    exact ⟨rfl, hb⟩
  subst hr
  have HG := Aside0.mk hw.out.good
  have hsq := HG.out.s
  have h0 : 0 < n := by have := hsq.1; rw [hn.out] at this; exact this
  have h6 : n ≤ 6 := by have := hsq.2.1; rw [hn.out] at this; exact this
  have hj : Aside0 (full n (lt n (flR f n))) := ⟨by have := HG.out.j; rw [hn.out] at this; exact this⟩
  have hm : Aside0 (full n (gt n (flR f n))) := ⟨by have := HG.out.m; rw [hn.out] at this; exact this⟩
  replace hsq := Aside0.mk hsq
  clear hw
  go_wp2_with fail
  refine (New_calls' f hn (Kd.C_below HC.out HB.out)).mono ?_
  rintro e w3 ⟨hnew, hb⟩
  obtain ⟨g, rfl, hlat⟩ := HG.out.new hnew
  rw [hn.out] at hlat
  have HL := Aside0.mk hlat
  replace HB := Aside0.mk (below_step HB.out hb)
  clear hb hlat hnew
  go_wp2_with fail
  refine (lat_Size HL.out).mono ?_
  rintro e w4 ⟨rfl, hb⟩
  replace HL := Aside0.mk (HL.out.later hb)
  replace HB := Aside0.mk (below_step HB.out hb)
  clear hb
  go_wp2_with fail
  refine (lat_Top HL.out).mono ?_
  obtain ⟨tp, htp⟩ : ∃ tp, least (jT n (flR f n)) n = tp := ⟨_, rfl⟩
  rw [htp]
  have HT := Aside0.mk htp
  clear htp
  rintro e w5 ⟨rfl, hb⟩
  replace HL := Aside0.mk (HL.out.later hb)
  replace HB := Aside0.mk (below_step HB.out hb)
  clear hb
  go_wp2_with fail
  refine (rt hsq.out hn.out hj.out (Kd.C_below HC.out HB.out) hc).mono ?_
  rw [HT.out]
  rintro e w6 ⟨rfl, hb⟩
  replace HL := Aside0.mk (HL.out.later hb)
  replace HB := Aside0.mk (below_step HB.out hb)
  clear hb
  go_wp2_with fail
  refine (lat_Bottom HL.out).mono ?_
  obtain ⟨bt, hbt⟩ : ∃ bt, least (mT n (flR f n)) n = bt := ⟨_, rfl⟩
  rw [hbt]
  have HBT := Aside0.mk hbt
  clear hbt
  rintro e w7 ⟨rfl, hb⟩
  replace HL := Aside0.mk (HL.out.later hb)
  replace HB := Aside0.mk (below_step HB.out hb)
  clear hb
  go_wp2_with fail
  refine (ru hsq.out hn.out (Kd.C_below HC.out HB.out) hc).mono ?_
  rintro e w8 ⟨A8, c8, rfl, hc8, hC8, hb⟩
  have HC8 := Aside0.mk hC8
  replace HL := Aside0.mk (HL.out.later hb)
  replace HB := Aside0.mk (below_step HB.out hb)
  clear hb hC8
  go_wp2_with fail
  refine (rtu hsq.out hn.out hm.out HC8.out hc8).mono ?_
  rw [HBT.out]
  rintro e w9 ⟨rfl, hb⟩
  replace HL := Aside0.mk (HL.out.later hb)
  replace HB := Aside0.mk (below_step HB.out hb)
  clear hb HC8
  by_cases hin : 0 ≤ a ∧ a < n ∧ 0 ≤ b ∧ b < n
  case neg =>
    have e1 := find_out (K := jT n (flR f n)) hin
    have e2 := find_out (K := mT n (flR f n)) hin
    have e3 := flows_out (F := flR f n) hin
    replace e1 := Aside0.mk e1
    replace e2 := Aside0.mk e2
    replace e3 := Aside0.mk e3
    replace hin := Aside0.mk hin
    go_wp2_with fail
    refine (lat_Join HL.out h6 a b).mono ?_
    rw [e1.out]
    rintro e w10 ⟨rfl, hb⟩
    replace HL := Aside0.mk (HL.out.later hb)
    replace HB := Aside0.mk (below_step HB.out hb)
    clear hb
    go_wp2_with fail
    refine (lat_Meet HL.out h6 a b).mono ?_
    rw [e2.out]
    rintro e w11 ⟨rfl, hb⟩
    replace HL := Aside0.mk (HL.out.later hb)
    replace HB := Aside0.mk (below_step HB.out hb)
    clear hb
    have h4 : a < 0 ∨ (0 ≤ a ∧ (n : Int) ≤ a) ∨ (0 ≤ a ∧ a < n ∧ b < 0) ∨ (0 ≤ a ∧ a < n ∧ 0 ≤ b ∧ (n : Int) ≤ b) := by have := hin.out; omega
    rcases h4 with p1 | ⟨p1, p2⟩ | ⟨p1, p2, p3⟩ | ⟨p1, p2, p3, p4⟩
    all_goals
      go_wp2_with fail
      refine (lat_Flows HL.out h6 a b).mono ?_
      rw [e3.out]
      rintro e w12 ⟨rfl, hb⟩
      have HB2 := Aside0.mk (below_step HB.out hb)
      clear hb
      go_wp2_with fail
      refine (four_then HB2.out).mono ?_
      rintro e w13 ⟨rfl, hb⟩
      go_wp2_with fail
      go_ret
      exact ⟨rfl, hb⟩
  obtain ⟨ha0, ha1, hb0, hb1⟩ := hin
  obtain ⟨i, rfl⟩ := Int.eq_ofNat_of_zero_le ha0
  obtain ⟨j, rfl⟩ := Int.eq_ofNat_of_zero_le hb0
  have hi : i < n := by omega
  have hj' : j < n := by omega
  go_wp2_with fail
  refine (lat_Join_in HL.out h6 hi hj').mono ?_
  have rjx := fun W (hW : Below w.heap.size w W) => rj (j := j) hsq.out hn.out (Kd.C_below HC.out hW) hc hi hj'
  have rmx := fun W (hW : Below w.heap.size w W) => rm (j := j) hsq.out hn.out (Kd.C_below HC.out hW) hc hi hj'
  obtain ⟨x, hx⟩ : ∃ x, G n (lt n (flR f n)) i j = x := ⟨_, rfl⟩
  obtain ⟨y, hy⟩ : ∃ y, G n (gt n (flR f n)) i j = y := ⟨_, rfl⟩
  rw [hx] at rjx ⊢
  rw [hy] at rmx
  replace rjx := Aside0.mk rjx
  replace rmx := Aside0.mk rmx
  rintro e w10 ⟨rfl, hb⟩
  replace HL := Aside0.mk (HL.out.later hb)
  replace HB := Aside0.mk (below_step HB.out hb)
  clear hb
  have HY := Aside0.mk hy
  clear hx hy
  go_wp2_with fail
  refine (lat_Meet_in HL.out h6 hi hj').mono ?_
  rw [HY.out]
  clear HY
  rintro e w11 ⟨rfl, hb⟩
  replace HL := Aside0.mk (HL.out.later hb)
  replace HB := Aside0.mk (below_step HB.out hb)
  clear hb
  obtain ⟨ad, ad0, c0, rfl, hx1, hc0, hx2⟩ := cells_at hsq.out hn.out HC.out hi hj'
  have fl := fun W (hW : IsLat W g n (flR f n)) => lat_Flows hW h6 i j
  obtain ⟨t, ht⟩ : ∃ t, flowsF n (flR f n) i j = t := ⟨_, rfl⟩
  rw [ht] at hx2 fl
  clear ht
  have KEEP : Aside0 (∀ W, Below w.heap.size w W → W.cell? (ad.add i) = some (.slice (some ad0) n c0) ∧ W.cell? (ad0.add j) = some (.bool t)) := ⟨fun W hW => ⟨(hW.cell (World.block_lt_of_cell? w _ hx1)).trans hx1, (hW.cell (World.block_lt_of_cell? w _ hx2)).trans hx2⟩⟩
  replace fl := Aside0.mk fl
  clear hx1 hx2
  go_upto_region 11 with fail
  have HLd := Aside0.mk (HL.out.later (below_drew (Below.refl _ _)))
  have HBd := Aside0.mk (below_drew HB.out)
  go_region_held3 (fun w' => w'.cell? (ad.add i) = some (.slice (some ad0) n c0) ∧ w'.cell? (ad0.add j) = some (.bool t))
    (first | exact KEEP.out _ k3.out | exact KEEP.out _ k2.out | exact KEEP.out _ k1.out | exact KEEP.out _ HBd.out)
    (first | (go_at_call 21; refine (fl.out _ l2.out).mono ?_; rintro e w' ⟨rfl, hb⟩; have k3 := Aside0.mk (below_step k2.out hb); have l3 := Aside0.mk (l2.out.later hb); clear hb) | (go_at_call 29; refine (rmx.out _ k1.out).mono ?_; rintro e w' ⟨rfl, hb⟩; have k2 := Aside0.mk (below_step k1.out hb); have l2 := Aside0.mk (l1.out.later hb); clear hb) | (go_at_call 28; refine (rjx.out _ HBd.out).mono ?_; rintro e w' ⟨rfl, hb⟩; have k1 := Aside0.mk (below_step HBd.out hb); have l1 := Aside0.mk (HLd.out.later hb); clear hb))
  clear HL HB HLd HBd k1 k2 l1 l2 rjx rmx KEEP fl
  go_wp2_with fail
  refine (lat_Above l3.out h6 i).mono ?_
  rintro e w14 ⟨A14, c14, rfl, hc14, hC14, hb⟩
  have hl1000 : (pick (fun x => flowsF n (flR f n) i x) n).length < 1000 := by have := pick_length (fun x => flowsF n (flR f n) i x) n; omega
  have ra' := fun W (hW : Below w.heap.size w W) => ra hsq.out hn.out (Kd.C_below HC.out hW) hc hi
  obtain ⟨l, hl⟩ : ∃ l, pick (fun x => flowsF n (flR f n) i x) n = l := ⟨_, rfl⟩
  rw [hl] at hc14 hC14 hl1000 ra' ⊢
  clear hl
  replace hC14 := Aside0.mk hC14
  replace ra' := Aside0.mk ra'
  replace l3 := Aside0.mk (l3.out.later hb)
  replace k3 := Aside0.mk (below_step k3.out hb)
  clear hb
  go_wp2_with fail
  refine (ra'.out _ k3.out).mono ?_
  rintro e w15 ⟨A15, c15, rfl, hc15, hC15, hb⟩
  replace hC15 := Aside0.mk hC15
  replace hC14 := Aside0.mk (Kd.C_below hC14.out hb)
  replace l3 := Aside0.mk (l3.out.later hb)
  replace k3 := Aside0.mk (below_step k3.out hb)
  clear hb ra'
  go_wp2_with fail
  refine (ints_same hl1000 hC14.out hc14 hC15.out hc15).mono ?_
  rintro e w16 ⟨rfl, hb⟩
  replace l3 := Aside0.mk (l3.out.later hb)
  replace k3 := Aside0.mk (below_step k3.out hb)
  clear hb hC14 hC15 hl1000
  go_wp2_with fail
  refine (lat_Below l3.out h6 i).mono ?_
  rintro e w17 ⟨A17, c17, rfl, hc17, hC17, hb⟩
  have hl1000 : (pick (fun x => flowsF n (flR f n) x i) n).length < 1000 := by have := pick_length (fun x => flowsF n (flR f n) x i) n; omega
  have rau' := fun W (A' : Option Addr) c' (hc' : n ≤ c') (hW : Kd.C (Kd.slice 4 Kd.bool) W A' n (tr f)) => rau hsq.out hn.out hW hc' hi
  obtain ⟨l', hl⟩ : ∃ l, pick (fun x => flowsF n (flR f n) x i) n = l := ⟨_, rfl⟩
  rw [hl] at hc17 hC17 hl1000 rau' ⊢
  clear hl
  replace hC17 := Aside0.mk hC17
  replace rau' := Aside0.mk rau'
  replace k3 := Aside0.mk (below_step k3.out hb)
  clear hb l3
  go_wp2_with fail
  refine (ru hsq.out hn.out (Kd.C_below HC.out k3.out) hc).mono ?_
  rintro e w18 ⟨A18, c18, rfl, hc18, hC18, hb⟩
  replace hC18 := Aside0.mk hC18
  replace hC17 := Aside0.mk (Kd.C_below hC17.out hb)
  replace k3 := Aside0.mk (below_step k3.out hb)
  clear hb
  go_wp2_with fail
  refine (rau'.out _ _ _ hc18 hC18.out).mono ?_
  rintro e w19 ⟨A19, c19, rfl, hc19, hC19, hb⟩
  replace hC19 := Aside0.mk hC19
  replace hC17 := Aside0.mk (Kd.C_below hC17.out hb)
  replace k3 := Aside0.mk (below_step k3.out hb)
  clear hb hC18 rau'
  go_wp2_with fail
  refine (ints_same hl1000 hC17.out hc17 hC19.out hc19).mono ?_
  rintro e w20 ⟨rfl, hb⟩
  replace k3 := Aside0.mk (below_step k3.out hb)
  clear hb hC17 hC19
  go_wp2_with fail
  refine (four_then k3.out).mono ?_
  rintro e w21 ⟨rfl, hb⟩
  go_wp2_with fail
  go_ret
  exact ⟨rfl, hb⟩
theorem tells_walk (a0 : Option Addr) (len0 cap0 : Nat) (z0 : List (List Bool)) (a1 a2 : Int) (w : World) (w0 : z0.length = len0 ∧ len0 ≤ cap0 ∧ Kd.C (Kd.slice 4 Kd.bool) w a0 len0 z0) (w1 : (Lit.int .i64 a1).wf = true) (w2 : (Lit.int .i64 a2).wf = true) : Calls Try.prog 5 #[.slice a0 len0 cap0, .int .i64 a1, .int .i64 a2] w fun e w' => e = .returned (.bool true) ∧ Below w.heap.size w w' :=
  tells_core z0 ⟨w0.1⟩ a1 a2 w w0.2.2 w0.2.1
end Go.Proofs.Yteopponjfkeagaa.Lat

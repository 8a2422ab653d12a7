import Derived.Test.YtohhlkabejangaaAs13
namespace Go.Proofs.Ytohhlkabejangaa.As
open Go.RowKit Go.Maps Go.Sort Go.ChangeShapes Go.Proofs.YtohhlkabejangaaW.PrintWords Go.Proofs.YtohhlkabejangaaW.PrintLast Go.Proofs.YtohhlkabejangaaW.PrintMore Go.Proofs.Ytohhlkabejangaa.PAs
set_option linter.unusedVariables false
set_option linter.unusedSimpArgs false
theorem errOf_in {l : List ByteArray} {n : Int} {x : List UInt8} (h : errA l n = 0) : errOf l n x = if isIn l x = true then 0 else 6 := by
  unfold errOf
  rw [if_pos h]
theorem ofR_in {l : List ByteArray} {n : Nat} {x : List UInt8} (h : errA l n = 0) : ofR l n x = if isIn l x = true then ofL l n x else [] := by
  unfold ofR
  rw [errOf_in h]
  cases isIn l x <;> simp
set_option maxHeartbeats 16000000 in
set_option maxRecDepth 100000 in
theorem ranges_out (l : List ByteArray) (A : Option Addr) (n k : Nat) (parts : Int) (member : ByteArray) (w : World) (hp : Ss k w A n l) (h : largeB l = true ∨ largeB l = false ∧ 100 < member.size) :
    Calls Try.prog 3 #[.slice A n k, .int .i64 parts, .string member] w fun e w' => e = .returned (.bool true) ∧ Below w.heap.size w w' := by
  have hund : ∀ b, some undef = some (Value.bool b) → False := fun b h => by simp [undef] at h
  obtain ⟨rfl, hnk, hC⟩ := hp
  have hlg := Aside0.mk (large_calls A k l w hC hnk)
  clear hC
  rcases h with h | ⟨h, h0⟩
  · rw [h] at hlg
    go_enter Try.func3, Try.ntmps3
    go_wp2_with fail
    refine hlg.out.mono ?_
    rintro e w1 ⟨rfl, hb⟩
    have HB := Aside0.mk hb
    clear hb hlg
    go_wp2_with fail
    refine (three_calls w1).mono ?_
    rintro e wz ⟨rfl, hb⟩
    have HZ := Aside0.mk (below_step HB.out hb)
    clear hb HB
    go_wp2_with fail
    go_ret
    exact ⟨rfl, HZ.out⟩
  · rw [h] at hlg
    have c1 : decide ((member.size : Int) > 100) = true := decide_eq_true (by omega)
    have c2 : decide ((100 : Int) < (member.size : Int)) = true := decide_eq_true (by omega)
    go_enter Try.func3, Try.ntmps3
    go_wp2_with fail
    refine hlg.out.mono ?_
    rintro e w1 ⟨rfl, hb⟩
    have HB := Aside0.mk hb
    clear hb hlg
    go_wp2_with fail
    refine (three_calls w1).mono ?_
    rintro e wz ⟨rfl, hb⟩
    have HZ := Aside0.mk (below_step HB.out hb)
    clear hb HB
    go_wp2_with fail
    go_ret
    exact ⟨rfl, HZ.out⟩
set_option maxHeartbeats 16000000 in
set_option maxRecDepth 100000 in
theorem ranges_bad (l : List ByteArray) (A : Option Addr) (n k : Nat) (parts : Int) (member : ByteArray) (w : World) (hp : Ss k w A n l) (h : largeB l = false) (hm : member.size ≤ 100) (he : errA l parts ≠ 0) :
    Calls Try.prog 3 #[.slice A n k, .int .i64 parts, .string member] w fun e w' => e = .returned (.bool true) ∧ Below w.heap.size w w' := by
  have hund : ∀ b, some undef = some (Value.bool b) → False := fun b h => by simp [undef] at h
  obtain ⟨rfl, hnk, hC⟩ := hp
  have hlg := Aside0.mk (large_calls A k l w hC hnk)
  rw [h] at hlg
  obtain ⟨hl20, hz⟩ := large_no h
  have hl : l.length ≤ 1000 := by omega
  have HZ := Aside0.mk (fun s hs => Nat.le_trans (hz s hs) (by omega) : ∀ s ∈ l, s.size ≤ 1000)
  have HC := Aside0.mk hC
  have c1 : decide ((member.size : Int) > 100) = false := decide_eq_false (by omega)
  have c2 : decide ((100 : Int) < (member.size : Int)) = false := decide_eq_false (by omega)
  obtain ⟨hb1, hb2⟩ := errA_bad he
  have e1 : errOf l parts member.toList = errA l parts := by
    unfold errOf
    rw [if_neg he]
  have e2 : ofR l parts member.toList = [] := by
    unfold ofR
    rw [e1, if_neg he]
  have hs0 : wrongL l ≠ 0 → srtR l = [] := fun h => by
    unfold srtR
    rw [if_neg h]
  have hrg := Aside0.mk (fun W (hb : Below w.heap.size w W) => range_bad A k l parts (errA l parts) W (Kd.C_below HC.out hb) hl HZ.out hb1 hb2)
  have hof := Aside0.mk (fun W (hb : Below w.heap.size w W) => offR_calls A k l parts member (by omega) W (Kd.C_below HC.out hb) hl HZ.out)
  simp only [e1, e2] at hof
  have hso := Aside0.mk (fun W (hb : Below w.heap.size w W) => sortedR_calls A k l W (Kd.C_below HC.out hb) hl HZ.out)
  have hwr := Aside0.mk (fun W (hb : Below w.heap.size w W) => rwrong_calls A k l hl HZ.out hnk W (Kd.C_below HC.out hb))
  have hcase : (wrongL l = 0 ∧ errA l parts = 1 ∧ (parts < 0 ∨ parts > 4)) ∨ (wrongL l ≠ 0 ∧ errA l parts = wrongL l ∧ srtR l = []) := by
    by_cases h9 : wrongL l = 0
    · rw [if_pos h9] at hb2
      rcases hb1 with h1 | h1
      · exact (h1 h9).elim
      · exact .inl ⟨h9, hb2, h1⟩
    · rw [if_neg h9] at hb2
      exact .inr ⟨h9, hb2, hs0 h9⟩
  have HCASE := Aside0.mk hcase
  have HE := Aside0.mk he
  clear hcase he e1 e2 hs0 hb1 hb2 hz h hC HC HZ
  go_enter Try.func3, Try.ntmps3
  go_wp2_with fail
  refine hlg.out.mono ?_
  rintro e w1 ⟨rfl, hb⟩
  have HB := Aside0.mk hb
  clear hb hlg
  go_wp2_with fail
  refine (hrg.out w1 HB.out).mono ?_
  rintro e w2 ⟨rfl, hb⟩
  have n_HB := Aside0.mk (below_step HB.out hb)
  clear HB hb
  have HB := n_HB
  clear n_HB
  go_wp2_with fail
  refine (hof.out w2 HB.out).mono ?_
  rintro e w3 ⟨A3, c3, rfl, _, _, hb⟩
  have n_HB := Aside0.mk (below_step HB.out hb)
  clear HB hb
  have HB := n_HB
  clear n_HB
  go_wp2_with fail
  refine (hso.out w3 HB.out).mono ?_
  rintro e w4 ⟨A4, c4, rfl, _, _, hb⟩
  have n_HB := Aside0.mk (below_step HB.out hb)
  clear HB hb
  have HB := n_HB
  clear n_HB
  go_wp2_with fail
  refine (hwr.out w4 HB.out).mono ?_
  rintro e w5 ⟨rfl, hb⟩
  have n_HB := Aside0.mk (below_step HB.out hb)
  clear HB hb
  have HB := n_HB
  clear n_HB
  clear hrg hof hso hwr
  have hcase := HCASE.out
  have he := HE.out
  clear HCASE HE
  generalize errA l parts = z at *
  generalize wrongL l = g at *
  generalize srtR l = zs at *
  rcases hcase with ⟨rfl, rfl, h1⟩ | ⟨h1, rfl, rfl⟩
  · by_cases h2 : parts < 0
    · have d1 : decide (parts < 0) = true := decide_eq_true h2
      clear h1 h2 he
      go_wp2_with fail
      refine (three_calls w5).mono ?_
      rintro e wz ⟨rfl, hb⟩
      have HZ := Aside0.mk (below_step HB.out hb)
      clear hb HB
      go_wp2_with fail
      go_ret
      exact ⟨rfl, HZ.out⟩
    · have d1 : decide (parts < 0) = false := decide_eq_false h2
      have d2 : decide (parts > 4) = true := decide_eq_true (by omega)
      have d3 : decide (4 < parts) = true := decide_eq_true (by omega)
      clear h1 h2 he
      go_wp2_with fail
      refine (three_calls w5).mono ?_
      rintro e wz ⟨rfl, hb⟩
      have HZ := Aside0.mk (below_step HB.out hb)
      clear hb HB
      go_wp2_with fail
      go_ret
      exact ⟨rfl, HZ.out⟩
  · have d1 : (z != z) = false := by simp
    have d2 : (z != 0) = true := by simpa using h1
    have d3 : (z == 0) = false := by simpa using h1
    have d4 : (z == z) = true := by simp
    clear h1 he
    go_wp2_with fail
    refine (three_calls w5).mono ?_
    rintro e wz ⟨rfl, hb⟩
    have HZ := Aside0.mk (below_step HB.out hb)
    clear hb HB
    go_wp2_with fail
    go_ret
    exact ⟨rfl, HZ.out⟩
set_option maxHeartbeats 16000000 in
set_option maxRecDepth 100000 in
theorem ranges_in (l : List ByteArray) (A : Option Addr) (n k : Nat) (parts : Nat) (member : ByteArray) (w : World) (hp : Ss k w A n l) (h : largeB l = false) (hm : member.size ≤ 100) (he : errA l parts = 0) :
    Calls Try.prog 3 #[.slice A n k, .int .i64 (parts : Int), .string member] w fun e w' => e = .returned (.bool true) ∧ Below w.heap.size w w' := by
  have hund : ∀ b, some undef = some (Value.bool b) → False := fun b h => by simp [undef] at h
  obtain ⟨rfl, hnk, hC⟩ := hp
  have hlg := Aside0.mk (large_calls A k l w hC hnk)
  rw [h] at hlg
  obtain ⟨hl20, hz⟩ := large_no h
  obtain ⟨hw0, _, hp4⟩ := errA_zero he
  have hl : l.length ≤ 1000 := by omega
  have HZ := Aside0.mk (fun s hs => Nat.le_trans (hz s hs) (by omega) : ∀ s ∈ l, s.size ≤ 1000)
  have HC := Aside0.mk hC
  have c1 : decide ((member.size : Int) > 100) = false := decide_eq_false (by omega)
  have c2 : decide ((100 : Int) < (member.size : Int)) = false := decide_eq_false (by omega)
  have c3 : decide ((parts : Int) < 0) = false := decide_eq_false (by omega)
  have c4 : decide ((parts : Int) > 4) = false := decide_eq_false (by omega)
  have c5 : decide (4 < (parts : Int)) = false := decide_eq_false (by omega)
  have hrg := Aside0.mk (fun W (hb : Below w.heap.size w W) => range_calls A k l parts W (Kd.C_below HC.out hb) hl HZ.out hw0 (by omega))
  have hof := Aside0.mk (fun W (hb : Below w.heap.size w W) => offR_calls A k l parts member (by omega) W (Kd.C_below HC.out hb) hl HZ.out)
  simp only [errOf_in he, ofR_in he] at hof
  obtain ⟨zo, hzo⟩ : ∃ z : Int, (if isIn l member.toList = true then (0 : Int) else 6) = z := ⟨_, rfl⟩
  obtain ⟨zm, hzm⟩ : ∃ z : List Int, (if isIn l member.toList = true then ofL l parts member.toList else []) = z := ⟨_, rfl⟩
  rw [hzo, hzm] at hof
  have HZO := Aside0.mk hzo
  have HZM := Aside0.mk hzm
  clear hzo hzm
  have hso := Aside0.mk (fun W (hb : Below w.heap.size w W) => sortedR_calls A k l W (Kd.C_below HC.out hb) hl HZ.out)
  have e1 : srtR l = srtB l := if_pos hw0
  simp only [e1] at hso
  have hwr := Aside0.mk (fun W (hb : Below w.heap.size w W) => rwrong_calls A k l hl HZ.out hnk W (Kd.C_below HC.out hb))
  simp only [hw0] at hso hwr
  have HL := Aside0.mk (srtB_length l)
  have HAT := Aside0.mk (fun j hj => srtB_at l hw0 j hj)
  have HANY := Aside0.mk (any_srtB l member)
  have HW0 := Aside0.mk hw0
  have HMS := Aside0.mk (show member.size ≤ 1000 by omega)
  have HOL := Aside0.mk (fun x => Nat.le_trans (ofL_none l parts x) (by omega) : ∀ x, (ofL l parts x).length ≤ 1000)
  have hp1 : parts ≤ 1000 := by omega
  clear e1 hw0 he hz h hC hp4
  go_enter Try.func3, Try.ntmps3
  go_wp2_with fail
  refine hlg.out.mono ?_
  rintro e w1 ⟨rfl, hb⟩
  have HB := Aside0.mk hb
  clear hb hlg
  go_wp2_with fail
  refine (hrg.out w1 HB.out).mono ?_
  rintro e w2 ⟨b, qq, rfl, _, hqq, hG, hb⟩
  have n_HB := Aside0.mk (below_step HB.out hb)
  clear HB hb
  have HB := n_HB
  clear n_HB
  have HG := Aside0.mk (show Grp w2 b qq l parts from hG)
  clear hG
  go_wp2_with fail
  refine (hof.out w2 HB.out).mono ?_
  rintro e w3 ⟨A3, c3', rfl, hc3, hC3, hb⟩
  have n_HB := Aside0.mk (below_step HB.out hb)
  have n_HG := Aside0.mk (HG.out.later hb)
  clear HB HG hb
  have HB := n_HB
  have HG := n_HG
  clear n_HB n_HG
  have HC3 := Aside0.mk hC3
  have HC3L := Aside0.mk hc3
  clear hC3 hc3
  go_wp2_with fail
  refine (hso.out w3 HB.out).mono ?_
  rintro e w4 ⟨A4, c4', rfl, hc4, hC4, hb⟩
  have n_HB := Aside0.mk (below_step HB.out hb)
  have n_HG := Aside0.mk (HG.out.later hb)
  have n_HC3 := Aside0.mk (Kd.C_below HC3.out hb)
  clear HB HG HC3 hb
  have HB := n_HB
  have HG := n_HG
  have HC3 := n_HC3
  clear n_HB n_HG n_HC3
  have HC4 := Aside0.mk hC4
  clear hC4 hc4
  go_wp2_with fail
  refine (hwr.out w4 HB.out).mono ?_
  rintro e w5 ⟨rfl, hb⟩
  have n_HB := Aside0.mk (below_step HB.out hb)
  have n_HG := Aside0.mk (HG.out.later hb)
  have n_HC3 := Aside0.mk (Kd.C_below HC3.out hb)
  have n_HC4 := Aside0.mk (Kd.C_below HC4.out hb)
  clear HB HG HC3 HC4 hb
  have HB := n_HB
  have HG := n_HG
  have HC3 := n_HC3
  have HC4 := n_HC4
  clear n_HB n_HG n_HC3 n_HC4
  clear hrg hof hso hwr
  generalize srtB l = ss at *
  go_wp2_with fail
  have HC5 := Aside0.mk (Kd.C_below HC.out HB.out)
  have hsb : ss.length ≤ 1000 := by rw [HL.out]; exact hl
  clear HC
  go_loopw [14, 92] (fun bv iv wr => ∃ j : Nat, j ≤ ss.length ∧ bv = .bool ((ss.take j).any (fun x => x.toList == member.toList)) ∧ iv = .int .i64 j ∧ Aside0 (Below w5.heap.size w5 wr)) (fun _ iv _ => ss.length - (intOf iv).toNat)
  case atStart => exact ⟨0, Nat.zero_le _, rfl, rfl, ⟨Below.refl _ _⟩⟩
  case round =>
    obtain ⟨j, hj, rfl, rfl, HW⟩ := hrel
    by_cases hjl : j < ss.length
    · obtain ⟨ad, hA4, hx⟩ := Kd.at_string (Kd.C_below HC4.out HW.out) (j : Int) (by omega) (by omega)
      subst hA4
      rw [rd_at ss j hjl, Int.toNat_natCast] at hx
      obtain ⟨r1, r2, r3⟩ := HAT.out j hjl
      have r3 := r3 HZ.out
      have htk : (ss.take (j + 1)).any (fun x => x.toList == member.toList) = ((ss.take j).any (fun x => x.toList == member.toList) || (ss[j].toList == member.toList)) := by
        rw [List.take_add_one, List.getElem?_eq_getElem hjl, List.any_append]
        simp
      have HTK := Aside0.mk htk
      obtain ⟨x, hxe⟩ : ∃ x, ss[j] = x := ⟨_, rfl⟩
      rw [hxe] at hx r1 r2 r3 HTK
      have R1 := Aside0.mk r1
      have R2 := Aside0.mk r2
      clear hxe htk r1 r2
      have k1 : decide ((j : Int) < (ss.length : Int)) = true := decide_eq_true (by omega)
      have k2 : (0 ≤ (j : Int)) = True := eq_true (by omega)
      have k3 : ((j : Int) < (ss.length : Int)) = True := eq_true (by omega)
      have hneq : ((j : Int) != (j : Int)) = false := by simp
      obtain ⟨Ai, ci, hlk, hci, hCi⟩ := (HG.out.later HW.out).look hqq HW0.out x r3 R2.out
      have HLK := Aside0.mk hlk
      have HCi := Aside0.mk hCi
      have HCiL := Aside0.mk hci
      have HWW := Aside0.mk (Below.refl wr.heap.size wr)
      clear hlk hCi hci
      have hoL := HOL.out x.toList
      have R3 := Aside0.mk (rank_calls A k l x hl hnk)
      simp only [R1.out] at R3
      have R4 := Aside0.mk (fun W hA => rof_calls A k l parts x hl hp1 hnk W hA)
      generalize ofL l parts x.toList = zi at *
      generalize (ss.take j).any (fun x => x.toList == member.toList) = bb at *
      clear R1 R2
      cases bb with
      | true =>
        go_wp2_with fail
        have n_WW := Aside0.mk (below_drew1 HWW.out)
        clear HWW
        have HWW := n_WW
        clear n_WW
        refine start_ (n := 16) (S := fun w' => (Instr.lookup 25 (.map (some b)) (.string x) false).run Try.prog w' = .ok (.slice Ai zi.length ci) w') (ds := []) #[false, false, false, false, false, false, false, false, false, false, false, false, false, false, false, false] (by kernel_rfl) rfl rfl (HLK.out _ HWW.out) (fun _ => ?_)
        have n_HW := Aside0.mk (below_drew1 HW.out)
        have n_HCi := Aside0.mk (Kd.C_below HCi.out (below_drew1 (Below.refl _ _)))
        clear HW HCi
        have HW := n_HW
        have HCi := n_HCi
        clear n_HW n_HCi
        generalize wr.drew = V0 at *
        refine pure_ (i := 0) (N := some 103) (v := ?_) (a' := ?_) #[true, false, false, false, false, false, false, false, false, false, false, false, false, false, false, false] rfl rfl (by kernel_rfl) (fun _ _ _ h => h) (Or.inl ⟨by rfl, ?_⟩) ?_ ?_
        rotate_left
        · intro w'
          go_simp
          with_reducible rfl
        rotate_left
        · simp only [Act.put, List.setIfInBounds_toArray, List.set_cons_zero, List.set_cons_succ]
          rfl
        refine pure_ (i := 1) (N := some 104) (v := ?_) (a' := ?_) #[true, true, false, false, false, false, false, false, false, false, false, false, false, false, false, false] rfl rfl (by kernel_rfl) (fun _ _ _ h => h) (Or.inl ⟨by rfl, ?_⟩) ?_ ?_
        rotate_left
        · intro w'
          go_simp
          with_reducible rfl
        rotate_left
        · simp only [Act.put, List.setIfInBounds_toArray, List.set_cons_zero, List.set_cons_succ]
          rfl
        refine pure_ (i := 3) (N := some 106) (v := ?_) (a' := ?_) #[true, true, false, true, false, false, false, false, false, false, false, false, false, false, false, false] rfl rfl (by kernel_rfl) (fun _ _ _ h => h) (Or.inl ⟨by rfl, ?_⟩) ?_ ?_
        rotate_left
        · intro w'
          go_simp
          with_reducible rfl
        rotate_left
        · simp only [Act.put, List.setIfInBounds_toArray, List.set_cons_zero, List.set_cons_succ]
          rfl
        refine one_ (i := 2) (N := some 105) #[true, true, true, true, false, false, false, false, false, false, false, false, false, false, false, false] rfl rfl (by kernel_rfl) (by simp) (fun K hK => ?_)
        refine goes_ Try.func22 (by kernel_rfl) rfl #[.slice A l.length k, .string x] (by rfl) rfl rfl (by simp only [List.map_toArray, List.map_cons, List.map_nil] <;> rfl) ?_
        refine (R3.out V0 (Kd.C_below HC5.out HW.out)).mono ?_
        rintro e V1 ⟨rfl, hb⟩
        have n_HW := Aside0.mk (below_step HW.out hb)
        have n_HWW := Aside0.mk (below_step HWW.out hb)
        have n_HCi := Aside0.mk (Kd.C_below HCi.out hb)
        clear HW HWW HCi hb
        have HW := n_HW
        have HWW := n_HWW
        have HCi := n_HCi
        clear n_HW n_HWW n_HCi
        refine ⟨_, rfl, hK.out _ _ (HLK.out _ HWW.out) (fun _ => ?_)⟩
        clear hK K
        refine norm_ (a' := ?_) ?_ ?_
        rotate_left
        · simp only [Act.put, List.setIfInBounds_toArray, List.set_cons_zero, List.set_cons_succ]
          rfl
        refine pure_ (i := 4) (N := some 107) (v := ?_) (a' := ?_) #[true, true, true, true, true, false, false, false, false, false, false, false, false, false, false, false] rfl rfl (by kernel_rfl) (fun _ _ _ h => h) (Or.inl ⟨by rfl, ?_⟩) ?_ ?_
        rotate_left
        · intro w'
          go_simp
          with_reducible rfl
        rotate_left
        · simp only [Act.put, List.setIfInBounds_toArray, List.set_cons_zero, List.set_cons_succ]
          rfl
        refine pure_ (i := 5) (N := some 108) (v := ?_) (a' := ?_) #[true, true, true, true, true, true, false, false, false, false, false, false, false, false, false, false] rfl rfl (by kernel_rfl) (fun _ _ _ h => h) (Or.inl ⟨by rfl, ?_⟩) ?_ ?_
        rotate_left
        · intro w'
          go_simp
          with_reducible rfl
        rotate_left
        · simp only [Act.put, List.setIfInBounds_toArray, List.set_cons_zero, List.set_cons_succ]
          rfl
        refine pure_ (i := 6) (N := some 109) (v := ?_) (a' := ?_) #[true, true, true, true, true, true, true, false, false, false, false, false, false, false, false, false] rfl rfl (by kernel_rfl) (fun _ _ _ h => h) (Or.inl ⟨by rfl, ?_⟩) ?_ ?_
        rotate_left
        · intro w'
          go_simp
          with_reducible rfl
        rotate_left
        · simp only [Act.put, List.setIfInBounds_toArray, List.set_cons_zero, List.set_cons_succ]
          rfl
        refine pure_ (i := 7) (N := some 110) (v := ?_) (a' := ?_) #[true, true, true, true, true, true, true, true, false, false, false, false, false, false, false, false] rfl rfl (by kernel_rfl) (fun _ _ _ h => h) (Or.inl ⟨by rfl, ?_⟩) ?_ ?_
        rotate_left
        · intro w'
          go_simp
          with_reducible rfl
        rotate_left
        · simp only [Act.put, List.setIfInBounds_toArray, List.set_cons_zero, List.set_cons_succ]
          rfl
        refine take_ (i := 8) (N := some 111) (v := ?_) (a' := ?_) #[true, true, true, true, true, true, true, true, true, false, false, false, false, false, false, false] rfl rfl (by kernel_rfl) (fun _ _ _ h => h) (Or.inl ⟨by rfl, ?_⟩) (HLK.out _ HWW.out) ?_ ?_
        rotate_left
        · intro w' hS
          obtain h1 := hS
          go_simp
          with_reducible rfl
        rotate_left
        · simp only [Act.put, List.setIfInBounds_toArray, List.set_cons_zero, List.set_cons_succ]
          rfl
        refine pure_ (i := 9) (N := some 112) (v := ?_) (a' := ?_) #[true, true, true, true, true, true, true, true, true, true, false, false, false, false, false, false] rfl rfl (by kernel_rfl) (fun _ _ _ h => h) (Or.inl ⟨by rfl, ?_⟩) ?_ ?_
        rotate_left
        · intro w'
          go_simp
          with_reducible rfl
        rotate_left
        · simp only [Act.put, List.setIfInBounds_toArray, List.set_cons_zero, List.set_cons_succ]
          rfl
        refine pure_ (i := 10) (N := some 113) (v := ?_) (a' := ?_) #[true, true, true, true, true, true, true, true, true, true, true, false, false, false, false, false] rfl rfl (by kernel_rfl) (fun _ _ _ h => h) (Or.inl ⟨by rfl, ?_⟩) ?_ ?_
        rotate_left
        · intro w'
          go_simp
          with_reducible rfl
        rotate_left
        · simp only [Act.put, List.setIfInBounds_toArray, List.set_cons_zero, List.set_cons_succ]
          rfl
        refine pure_ (i := 11) (N := some 114) (v := ?_) (a' := ?_) #[true, true, true, true, true, true, true, true, true, true, true, true, false, false, false, false] rfl rfl (by kernel_rfl) (fun _ _ _ h => h) (Or.inl ⟨by rfl, ?_⟩) ?_ ?_
        rotate_left
        · intro w'
          go_simp
          with_reducible rfl
        rotate_left
        · simp only [Act.put, List.setIfInBounds_toArray, List.set_cons_zero, List.set_cons_succ]
          rfl
        refine one_ (i := 12) (N := some 115) #[true, true, true, true, true, true, true, true, true, true, true, true, true, false, false, false] rfl rfl (by kernel_rfl) (by simp) (fun K hK => ?_)
        refine goes_ Try.func24 (by kernel_rfl) rfl #[.slice A l.length k, .int .i64 (parts : Int), .string x] (by rfl) rfl rfl (by simp only [List.map_toArray, List.map_cons, List.map_nil] <;> rfl) ?_
        refine (R4.out V1 (Kd.C_below HC5.out HW.out)).mono ?_
        rintro e V2 ⟨v2, rfl, hR2, hb⟩
        obtain ⟨A2, c2', rfl, hc2', hC2⟩ := Kd.R_reads hR2
        have n_HW := Aside0.mk (below_step HW.out hb)
        have n_HWW := Aside0.mk (below_step HWW.out hb)
        have n_HCi := Aside0.mk (Kd.C_below HCi.out hb)
        clear HW HWW HCi hb hR2
        have HW := n_HW
        have HWW := n_HWW
        have HCi := n_HCi
        clear n_HW n_HWW n_HCi
        have HC2 := Aside0.mk hC2
        clear hC2
        refine ⟨_, rfl, hK.out _ _ (HLK.out _ HWW.out) (fun _ => ?_)⟩
        clear hK K
        refine norm_ (a' := ?_) ?_ ?_
        rotate_left
        · simp only [Act.put, List.setIfInBounds_toArray, List.set_cons_zero, List.set_cons_succ]
          rfl
        refine one_ (i := 13) (N := some 116) #[true, true, true, true, true, true, true, true, true, true, true, true, true, true, false, false] rfl rfl (by kernel_rfl) (by simp) (fun K hK => ?_)
        refine goes_ Try.func23 (by kernel_rfl) rfl #[.slice Ai zi.length ci, .slice A2 zi.length c2'] (by rfl) rfl rfl (by simp only [List.map_toArray, List.map_cons, List.map_nil] <;> rfl) ?_
        refine (ints_calls Ai A2 ci c2' zi hoL HCiL.out hc2' V2 HCi.out HC2.out).mono ?_
        rintro e V3 ⟨rfl, hb⟩
        have n_HW := Aside0.mk (below_step HW.out hb)
        have n_HWW := Aside0.mk (below_step HWW.out hb)
        clear HW HWW hb HC2 HCi
        have HW := n_HW
        have HWW := n_HWW
        clear n_HW n_HWW
        refine ⟨_, rfl, hK.out _ _ (HLK.out _ HWW.out) (fun _ => ?_)⟩
        clear hK K
        refine norm_ (a' := ?_) ?_ ?_
        rotate_left
        · simp only [Act.put, List.setIfInBounds_toArray, List.set_cons_zero, List.set_cons_succ]
          rfl
        refine pure_ (i := 14) (N := some 117) (v := ?_) (a' := ?_) #[true, true, true, true, true, true, true, true, true, true, true, true, true, true, true, false] rfl rfl (by kernel_rfl) (fun _ _ _ h => h) (Or.inl ⟨by rfl, ?_⟩) ?_ ?_
        rotate_left
        · intro w'
          go_simp
          with_reducible rfl
        rotate_left
        · simp only [Act.put, List.setIfInBounds_toArray, List.set_cons_zero, List.set_cons_succ]
          rfl
        refine pure_ (i := 15) (N := some 118) (v := ?_) (a' := ?_) #[true, true, true, true, true, true, true, true, true, true, true, true, true, true, true, true] rfl rfl (by kernel_rfl) (fun _ _ _ h => h) (Or.inl ⟨by rfl, ?_⟩) ?_ ?_
        rotate_left
        · intro w'
          go_simp
          with_reducible rfl
        rotate_left
        · simp only [Act.put, List.setIfInBounds_toArray, List.set_cons_zero, List.set_cons_succ]
          rfl
        refine done_ (by kernel_rfl) ?_
        go_wp2_with fail
        go_roundw
        case rel => exact ⟨j + 1, by omega, by first | rfl | (rw [HTK.out]; first | rfl | simp) | (rw [HTK.out]; simp [*]), by first | rfl | simp, HW⟩
        case measure => simp [intOf]; omega
      | false =>
        go_wp2_with fail
        have n_WW := Aside0.mk (below_drew1 HWW.out)
        clear HWW
        have HWW := n_WW
        clear n_WW
        refine start_ (n := 16) (S := fun w' => (Instr.lookup 25 (.map (some b)) (.string x) false).run Try.prog w' = .ok (.slice Ai zi.length ci) w') (ds := []) #[false, false, false, false, false, false, false, false, false, false, false, false, false, false, false, false] (by kernel_rfl) rfl rfl (HLK.out _ HWW.out) (fun _ => ?_)
        have n_HW := Aside0.mk (below_drew1 HW.out)
        have n_HCi := Aside0.mk (Kd.C_below HCi.out (below_drew1 (Below.refl _ _)))
        clear HW HCi
        have HW := n_HW
        have HCi := n_HCi
        clear n_HW n_HCi
        generalize wr.drew = V0 at *
        refine pure_ (i := 0) (N := some 103) (v := ?_) (a' := ?_) #[true, false, false, false, false, false, false, false, false, false, false, false, false, false, false, false] rfl rfl (by kernel_rfl) (fun _ _ _ h => h) (Or.inl ⟨by rfl, ?_⟩) ?_ ?_
        rotate_left
        · intro w'
          go_simp
          with_reducible rfl
        rotate_left
        · simp only [Act.put, List.setIfInBounds_toArray, List.set_cons_zero, List.set_cons_succ]
          rfl
        refine pure_ (i := 1) (N := some 104) (v := ?_) (a' := ?_) #[true, true, false, false, false, false, false, false, false, false, false, false, false, false, false, false] rfl rfl (by kernel_rfl) (fun _ _ _ h => h) (Or.inl ⟨by rfl, ?_⟩) ?_ ?_
        rotate_left
        · intro w'
          go_simp
          with_reducible rfl
        rotate_left
        · simp only [Act.put, List.setIfInBounds_toArray, List.set_cons_zero, List.set_cons_succ]
          rfl
        refine pure_ (i := 3) (N := some 106) (v := ?_) (a' := ?_) #[true, true, false, true, false, false, false, false, false, false, false, false, false, false, false, false] rfl rfl (by kernel_rfl) (fun _ _ _ h => h) (Or.inl ⟨by rfl, ?_⟩) ?_ ?_
        rotate_left
        · intro w'
          go_simp
          with_reducible rfl
        rotate_left
        · simp only [Act.put, List.setIfInBounds_toArray, List.set_cons_zero, List.set_cons_succ]
          rfl
        refine one_ (i := 2) (N := some 105) #[true, true, true, true, false, false, false, false, false, false, false, false, false, false, false, false] rfl rfl (by kernel_rfl) (by simp) (fun K hK => ?_)
        refine goes_ Try.func22 (by kernel_rfl) rfl #[.slice A l.length k, .string x] (by rfl) rfl rfl (by simp only [List.map_toArray, List.map_cons, List.map_nil] <;> rfl) ?_
        refine (R3.out V0 (Kd.C_below HC5.out HW.out)).mono ?_
        rintro e V1 ⟨rfl, hb⟩
        have n_HW := Aside0.mk (below_step HW.out hb)
        have n_HWW := Aside0.mk (below_step HWW.out hb)
        have n_HCi := Aside0.mk (Kd.C_below HCi.out hb)
        clear HW HWW HCi hb
        have HW := n_HW
        have HWW := n_HWW
        have HCi := n_HCi
        clear n_HW n_HWW n_HCi
        refine ⟨_, rfl, hK.out _ _ (HLK.out _ HWW.out) (fun _ => ?_)⟩
        clear hK K
        refine norm_ (a' := ?_) ?_ ?_
        rotate_left
        · simp only [Act.put, List.setIfInBounds_toArray, List.set_cons_zero, List.set_cons_succ]
          rfl
        refine pure_ (i := 4) (N := some 107) (v := ?_) (a' := ?_) #[true, true, true, true, true, false, false, false, false, false, false, false, false, false, false, false] rfl rfl (by kernel_rfl) (fun _ _ _ h => h) (Or.inl ⟨by rfl, ?_⟩) ?_ ?_
        rotate_left
        · intro w'
          go_simp
          with_reducible rfl
        rotate_left
        · simp only [Act.put, List.setIfInBounds_toArray, List.set_cons_zero, List.set_cons_succ]
          rfl
        refine pure_ (i := 5) (N := some 108) (v := ?_) (a' := ?_) #[true, true, true, true, true, true, false, false, false, false, false, false, false, false, false, false] rfl rfl (by kernel_rfl) (fun _ _ _ h => h) (Or.inl ⟨by rfl, ?_⟩) ?_ ?_
        rotate_left
        · intro w'
          go_simp
          with_reducible rfl
        rotate_left
        · simp only [Act.put, List.setIfInBounds_toArray, List.set_cons_zero, List.set_cons_succ]
          rfl
        refine pure_ (i := 6) (N := some 109) (v := ?_) (a' := ?_) #[true, true, true, true, true, true, true, false, false, false, false, false, false, false, false, false] rfl rfl (by kernel_rfl) (fun _ _ _ h => h) (Or.inl ⟨by rfl, ?_⟩) ?_ ?_
        rotate_left
        · intro w'
          go_simp
          with_reducible rfl
        rotate_left
        · simp only [Act.put, List.setIfInBounds_toArray, List.set_cons_zero, List.set_cons_succ]
          rfl
        refine pure_ (i := 7) (N := some 110) (v := ?_) (a' := ?_) #[true, true, true, true, true, true, true, true, false, false, false, false, false, false, false, false] rfl rfl (by kernel_rfl) (fun _ _ _ h => h) (Or.inl ⟨by rfl, ?_⟩) ?_ ?_
        rotate_left
        · intro w'
          go_simp
          with_reducible rfl
        rotate_left
        · simp only [Act.put, List.setIfInBounds_toArray, List.set_cons_zero, List.set_cons_succ]
          rfl
        refine take_ (i := 8) (N := some 111) (v := ?_) (a' := ?_) #[true, true, true, true, true, true, true, true, true, false, false, false, false, false, false, false] rfl rfl (by kernel_rfl) (fun _ _ _ h => h) (Or.inl ⟨by rfl, ?_⟩) (HLK.out _ HWW.out) ?_ ?_
        rotate_left
        · intro w' hS
          obtain h1 := hS
          go_simp
          with_reducible rfl
        rotate_left
        · simp only [Act.put, List.setIfInBounds_toArray, List.set_cons_zero, List.set_cons_succ]
          rfl
        refine pure_ (i := 9) (N := some 112) (v := ?_) (a' := ?_) #[true, true, true, true, true, true, true, true, true, true, false, false, false, false, false, false] rfl rfl (by kernel_rfl) (fun _ _ _ h => h) (Or.inl ⟨by rfl, ?_⟩) ?_ ?_
        rotate_left
        · intro w'
          go_simp
          with_reducible rfl
        rotate_left
        · simp only [Act.put, List.setIfInBounds_toArray, List.set_cons_zero, List.set_cons_succ]
          rfl
        refine pure_ (i := 10) (N := some 113) (v := ?_) (a' := ?_) #[true, true, true, true, true, true, true, true, true, true, true, false, false, false, false, false] rfl rfl (by kernel_rfl) (fun _ _ _ h => h) (Or.inl ⟨by rfl, ?_⟩) ?_ ?_
        rotate_left
        · intro w'
          go_simp
          with_reducible rfl
        rotate_left
        · simp only [Act.put, List.setIfInBounds_toArray, List.set_cons_zero, List.set_cons_succ]
          rfl
        refine pure_ (i := 11) (N := some 114) (v := ?_) (a' := ?_) #[true, true, true, true, true, true, true, true, true, true, true, true, false, false, false, false] rfl rfl (by kernel_rfl) (fun _ _ _ h => h) (Or.inl ⟨by rfl, ?_⟩) ?_ ?_
        rotate_left
        · intro w'
          go_simp
          with_reducible rfl
        rotate_left
        · simp only [Act.put, List.setIfInBounds_toArray, List.set_cons_zero, List.set_cons_succ]
          rfl
        refine one_ (i := 12) (N := some 115) #[true, true, true, true, true, true, true, true, true, true, true, true, true, false, false, false] rfl rfl (by kernel_rfl) (by simp) (fun K hK => ?_)
        refine goes_ Try.func24 (by kernel_rfl) rfl #[.slice A l.length k, .int .i64 (parts : Int), .string x] (by rfl) rfl rfl (by simp only [List.map_toArray, List.map_cons, List.map_nil] <;> rfl) ?_
        refine (R4.out V1 (Kd.C_below HC5.out HW.out)).mono ?_
        rintro e V2 ⟨v2, rfl, hR2, hb⟩
        obtain ⟨A2, c2', rfl, hc2', hC2⟩ := Kd.R_reads hR2
        have n_HW := Aside0.mk (below_step HW.out hb)
        have n_HWW := Aside0.mk (below_step HWW.out hb)
        have n_HCi := Aside0.mk (Kd.C_below HCi.out hb)
        clear HW HWW HCi hb hR2
        have HW := n_HW
        have HWW := n_HWW
        have HCi := n_HCi
        clear n_HW n_HWW n_HCi
        have HC2 := Aside0.mk hC2
        clear hC2
        refine ⟨_, rfl, hK.out _ _ (HLK.out _ HWW.out) (fun _ => ?_)⟩
        clear hK K
        refine norm_ (a' := ?_) ?_ ?_
        rotate_left
        · simp only [Act.put, List.setIfInBounds_toArray, List.set_cons_zero, List.set_cons_succ]
          rfl
        refine one_ (i := 13) (N := some 116) #[true, true, true, true, true, true, true, true, true, true, true, true, true, true, false, false] rfl rfl (by kernel_rfl) (by simp) (fun K hK => ?_)
        refine goes_ Try.func23 (by kernel_rfl) rfl #[.slice Ai zi.length ci, .slice A2 zi.length c2'] (by rfl) rfl rfl (by simp only [List.map_toArray, List.map_cons, List.map_nil] <;> rfl) ?_
        refine (ints_calls Ai A2 ci c2' zi hoL HCiL.out hc2' V2 HCi.out HC2.out).mono ?_
        rintro e V3 ⟨rfl, hb⟩
        have n_HW := Aside0.mk (below_step HW.out hb)
        have n_HWW := Aside0.mk (below_step HWW.out hb)
        clear HW HWW hb HC2 HCi
        have HW := n_HW
        have HWW := n_HWW
        clear n_HW n_HWW
        refine ⟨_, rfl, hK.out _ _ (HLK.out _ HWW.out) (fun _ => ?_)⟩
        clear hK K
        refine norm_ (a' := ?_) ?_ ?_
        rotate_left
        · simp only [Act.put, List.setIfInBounds_toArray, List.set_cons_zero, List.set_cons_succ]
          rfl
        refine pure_ (i := 14) (N := some 117) (v := ?_) (a' := ?_) #[true, true, true, true, true, true, true, true, true, true, true, true, true, true, true, false] rfl rfl (by kernel_rfl) (fun _ _ _ h => h) (Or.inl ⟨by rfl, ?_⟩) ?_ ?_
        rotate_left
        · intro w'
          go_simp
          with_reducible rfl
        rotate_left
        · simp only [Act.put, List.setIfInBounds_toArray, List.set_cons_zero, List.set_cons_succ]
          rfl
        refine pure_ (i := 15) (N := some 118) (v := ?_) (a' := ?_) #[true, true, true, true, true, true, true, true, true, true, true, true, true, true, true, true] rfl rfl (by kernel_rfl) (fun _ _ _ h => h) (Or.inl ⟨by rfl, ?_⟩) ?_ ?_
        rotate_left
        · intro w'
          go_simp
          with_reducible rfl
        rotate_left
        · simp only [Act.put, List.setIfInBounds_toArray, List.set_cons_zero, List.set_cons_succ]
          rfl
        refine done_ (by kernel_rfl) ?_
        go_wp2_with fail
        go_roundw
        case rel => exact ⟨j + 1, by omega, by first | rfl | (rw [HTK.out]; first | rfl | simp) | (rw [HTK.out]; simp [*]), by first | rfl | simp, HW⟩
        case measure => simp [intOf]; omega
    · obtain rfl : j = ss.length := by omega
      have k1 : decide ((ss.length : Int) < (ss.length : Int)) = false := decide_eq_false (by omega)
      have hin : (ss.take ss.length).any (fun x => x.toList == member.toList) = isIn l member.toList := by rw [List.take_length]; exact HANY.out
      rw [hin]
      have hG := HG.out.later HW.out
      have hlen := fun ty => hG.len ty
      have e2 : ((l.length : Int) == (l.length : Int)) = true := by simp
      have e3 : ((ss.length : Int) == (l.length : Int)) = true := by rw [HL.out]; simp
      have hzo := HZO.out
      have hzm := HZM.out
      have HB := Aside0.mk (below_step HB.out HW.out)
      cases hmm : isIn l member.toList with
      | false =>
        rw [hmm] at hzo hzm
        have hzo' : zo = 6 := by simpa using hzo.symm
        have hzm' : zm = [] := by simpa using hzm.symm
        subst hzo' hzm'
        clear hzo hzm hin HZO HZM hG HG HC3 HC4 HC5
        go_wp2_with fail
        refine (three_calls wr).mono ?_
        rintro e w9 ⟨rfl, hb⟩
        have HB9 := Aside0.mk (below_step HB.out hb)
        clear hb HB
        go_wp2_with fail
        go_ret
        exact ⟨rfl, HB9.out⟩
      | true =>
        rw [hmm] at hzo hzm
        have hzo' : zo = 0 := by simpa using hzo.symm
        subst hzo'
        obtain ⟨Ai, ci, hlk, hci, hCi⟩ := hG.at' hqq HW0.out member HMS.out hmm
        have hzm' : ofL l parts member.toList = zm := by simpa using hzm
        have hoL := HOL.out member.toList
        rw [hzm'] at hlk hci hCi hoL
        have HCi := Aside0.mk hCi
        have HCiL := Aside0.mk hci
        have HG9 := Aside0.mk hG
        clear hzo hzm hin HZO HZM hG HG HC4 HC5 hci hCi hzm'
        go_wp2_with fail
        refine (ints_calls A3 Ai c3' ci zm hoL HC3L.out HCiL.out wr (Kd.C_below HC3.out HW.out) HCi.out).mono ?_
        rintro e w8 ⟨rfl, hb⟩
        have HB8 := Aside0.mk (below_step HB.out hb)
        have HG8 := Aside0.mk (HG9.out.later hb)
        clear hb HB HCi HC3 hlk hlen HG9
        have hlen8 := fun ty => HG8.out.len ty
        clear HG8
        go_wp2_with fail
        refine (three_calls w8).mono ?_
        rintro e w9 ⟨rfl, hb⟩
        have HB9 := Aside0.mk (below_step HB8.out hb)
        clear hb HB8
        go_wp2_with fail
        go_ret
        exact ⟨rfl, HB9.out⟩
theorem ranges_calls (l : List ByteArray) (A : Option Addr) (n k : Nat) (parts : Int) (member : ByteArray) (w : World) (hp : Ss k w A n l) :
    Calls Try.prog 3 #[.slice A n k, .int .i64 parts, .string member] w fun e w' => e = .returned (.bool true) ∧ Below w.heap.size w w' := by
  cases hbig : largeB l with
  | true => exact ranges_out l A n k parts member w hp (.inl hbig)
  | false =>
    by_cases h : 100 < member.size
    · exact ranges_out l A n k parts member w hp (.inr ⟨hbig, h⟩)
    · by_cases he : errA l parts = 0
      · obtain ⟨_, h0, h4⟩ := errA_zero he
        obtain ⟨m, rfl⟩ : ∃ m : Nat, parts = m := ⟨parts.toNat, by omega⟩
        exact ranges_in l A n k m member w hp hbig (by omega) he
      · exact ranges_bad l A n k parts member w hp hbig (by omega) he
end Go.Proofs.Ytohhlkabejangaa.As

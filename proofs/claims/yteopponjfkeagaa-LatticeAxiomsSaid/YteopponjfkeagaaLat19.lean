import Derived.Test.YteopponjfkeagaaLat25
namespace Go.Proofs.Yteopponjfkeagaa.Lat
open Go.RowKit Go.Maps Go.Proofs.YteopponjfkeagaaW.PrintWords Go.Proofs.YteopponjfkeagaaW.PrintLast Go.Proofs.YteopponjfkeagaaW.PrintMore Go.Proofs.Yteopponjfkeagaa.PLattice
set_option linter.unusedVariables false
set_option linter.unusedSimpArgs false

set_option maxHeartbeats 8000000 in
set_option maxRecDepth 8000 in
theorem axioms_core {A : Option Addr} {c n : Nat} (f : List (List Bool)) (hn : Aside0 (f.length = n)) (w : World) (hC : Kd.C (Kd.slice 4 Kd.bool) w A n f) (hc : n ≤ c) :
    Ok w w.heap.size w 4 #[.slice A n c] (.bool true) := by
  have HC := Aside0.mk hC
  obtain ⟨r, h40, HL⟩ := rlarge hn.out hC hc
  replace HL := Aside0.mk HL
  replace h40 := Aside0.mk h40
  clear hC
  go_enter Try.func4, Try.ntmps4
  go_wp2_with fail
  refine HL.out.mono ?_
  rintro e w1 ⟨rfl, hb⟩
  have HB := Aside0.mk hb
  clear hb HL
  cases r
  case true =>
    go_wp2_with fail
    refine (four_then HB.out).mono ?_
    rintro e w2 ⟨rfl, hb⟩
    go_wp2_with fail
    go_ret
    exact ⟨rfl, hb⟩
  replace h40 : n ≤ 40 := h40.out rfl
  obtain ⟨r, hw, HW⟩ := rwrong hn.out HC.out hc h40
  replace HW := Aside0.mk HW
  replace hw := Aside0.mk hw
  go_wp2_with fail
  refine (HW.out _ HB.out).mono ?_
  rintro e w2 ⟨rfl, hb⟩
  replace HB := Aside0.mk hb
  clear hb HW
  by_cases hr : r = 0
  case neg =>
    have hr2 : (r == 0) = false := by simpa using hr
    go_wp2_with fail
    refine (four_then HB.out).mono ?_
    rintro e w3 ⟨rfl, hb⟩
    go_wp2_with fail
    go_ret
    exact ⟨rfl, hb⟩
  subst hr
  have HG := Aside0.mk hw.out.good
  have h6 : n ≤ 6 := by have := HG.out.s.2.1; rw [hn.out] at this; exact this
  clear hw
  go_wp2_with fail
  refine (New_calls' f hn (Kd.C_below HC.out HB.out)).mono ?_
  rintro e w3 ⟨hnew, hb⟩
  obtain ⟨g, rfl, hlat⟩ := HG.out.new hnew
  rw [hn.out] at hlat
  have HL := Aside0.mk hlat
  replace HB := Aside0.mk (below_step HB.out hb)
  clear hb hlat hnew
  go_wp2_with fail
  go_loopw [37] (fun x wr => ∃ i : Nat, x = .int .i64 (i : Int) ∧ i ≤ n ∧ Aside0 (IsLat wr g n (flR f n)) ∧ Aside0 (Below w.heap.size w wr)) (fun x _ => n - (intOf x).toNat)
  case atStart => exact ⟨0, rfl, Nat.zero_le _, HL, HB⟩
  case round =>
    clear HL HB
    obtain ⟨i, rfl, hi, HL, HB⟩ := hrel
    by_cases hx : (i : Int) < n
    · go_wp2_with fail
      go_loopw [41] (fun x wr => ∃ j : Nat, x = .int .i64 (j : Int) ∧ j ≤ n ∧ Aside0 (IsLat wr g n (flR f n)) ∧ Aside0 (Below w.heap.size w wr)) (fun x _ => n - (intOf x).toNat)
      case atStart => exact ⟨0, rfl, Nat.zero_le _, HL, HB⟩
      case round =>
        clear HL HB
        obtain ⟨j, rfl, hj, HL, HB⟩ := hrel
        by_cases hy : (j : Int) < n
        · have hi' : i < n := by omega
          have hj' : j < n := by omega
          have x1 := jn_lt HG.out hn.out hi' hj'
          have x2 := mn_lt HG.out hn.out hi' hj'
          have e1 := Aside0.mk (jn_comm HG.out hn.out hj' hi')
          have e2 := Aside0.mk (mn_comm HG.out hn.out hj' hi')
          have e3 := Aside0.mk (jn_mn HG.out hn.out hi' hj')
          have e4 := Aside0.mk (mn_jn HG.out hn.out hi' hj')
          have e5 := Aside0.mk (jn_flows HG.out hn.out hi' hj')
          have c1 := fun W (hW : IsLat W g n (flR f n)) => cj HG.out hn.out h6 hW hi' hj'
          have c2 := fun W (hW : IsLat W g n (flR f n)) => cm HG.out hn.out h6 hW hi' hj'
          have c3 := fun W (hW : IsLat W g n (flR f n)) => cj HG.out hn.out h6 hW hj' hi'
          have c4 := fun W (hW : IsLat W g n (flR f n)) => cm HG.out hn.out h6 hW hj' hi'
          have c5 := fun W (hW : IsLat W g n (flR f n)) => cj HG.out hn.out h6 hW hi' x2
          have c6 := fun W (hW : IsLat W g n (flR f n)) => cm HG.out hn.out h6 hW hi' x1
          rw [e1.out] at c3
          rw [e2.out] at c4
          rw [e3.out] at c5
          rw [e4.out] at c6
          have same : i = j → jn f n i j = i ∧ mn f n i j = i := fun e => by
            subst e
            exact ⟨jn_self HG.out hn.out hi', mn_self HG.out hn.out hi'⟩
          obtain ⟨m, hm⟩ : ∃ m, jn f n i j = m := ⟨_, rfl⟩
          obtain ⟨q, hq⟩ : ∃ q, mn f n i j = q := ⟨_, rfl⟩
          rw [hm] at c1 c3 c6 x1 e5 same
          rw [hq] at c2 c4 c5 x2 same
          clear hm hq e1 e2 e3 e4
          replace c1 := Aside0.mk c1
          replace c2 := Aside0.mk c2
          replace c3 := Aside0.mk c3
          replace c4 := Aside0.mk c4
          replace c5 := Aside0.mk c5
          replace c6 := Aside0.mk c6
          replace same := Aside0.mk same
          go_wp2_with fail
          refine (okJ HB.out HL.out (c1.out _ HL.out)).mono ?_
          clear HL HB
          rintro e v1 ⟨rfl, HL, HB⟩
          go_wp2_with fail
          refine (okJ HB.out HL.out (c2.out _ HL.out)).mono ?_
          clear HL HB
          rintro e v2 ⟨rfl, HL, HB⟩
          go_wp2_with fail
          refine (okJ HB.out HL.out (c3.out _ HL.out)).mono ?_
          clear HL HB
          rintro e v3 ⟨rfl, HL, HB⟩
          go_wp2_with fail
          refine (okJ HB.out HL.out (c4.out _ HL.out)).mono ?_
          clear HL HB
          rintro e v4 ⟨rfl, HL, HB⟩
          go_wp2_with fail
          refine (okJ HB.out HL.out (c5.out _ HL.out)).mono ?_
          clear HL HB
          rintro e v5 ⟨rfl, HL, HB⟩
          go_wp2_with fail
          refine (okJ HB.out HL.out (c6.out _ HL.out)).mono ?_
          clear HL HB c1 c2 c3 c4 c5 c6
          rintro e v6 ⟨rfl, HL, HB⟩
          go_wp2_with fail
          refine (okJ HB.out HL.out (lat_Flows HL.out h6 i j)).mono ?_
          clear HL HB
          have key : ∃ t : Bool, flowsF n (flR f n) i j = t ∧ ((m : Int) == (j : Int)) = t ∧ (i = j → m = i ∧ q = i) := by
            refine ⟨_, rfl, ?_, same.out⟩
            rw [Bool.eq_iff_iff, ← e5.out, beq_iff_eq]
            omega
          obtain ⟨t, ht, hmj, hs⟩ := key
          rw [ht]
          clear ht same e5
          replace hs := Aside0.mk hs
          rintro e v7 ⟨rfl, HL, HB⟩
          have goes : (j = i ∧ j = m ∧ j = q ∧ true = t) ∨ (((i : Int) == (j : Int)) = false ∧ ((j = m ∧ true = t) ∨ (((m : Int) == (j : Int)) = false ∧ false = t))) := by
            by_cases hij : i = j
            · obtain ⟨a1, a2⟩ := hs.out hij
              refine .inl ⟨hij.symm, (a1.trans hij).symm, (a2.trans hij).symm, ?_⟩
              rw [← hmj]
              symm
              rw [beq_iff_eq]
              omega
            · refine .inr ⟨by rw [beq_eq_false_iff_ne]; omega, ?_⟩
              cases t
              · exact .inr ⟨hmj, rfl⟩
              · rw [beq_iff_eq] at hmj
                exact .inl ⟨by omega, rfl⟩
          clear hs hmj
          have hund : ∀ b : Bool, some undef = some (Value.bool b) → False := fun b e => by cases e
          rcases goes with ⟨rfl, rfl, rfl, rfl⟩ | ⟨hij, ⟨rfl, rfl⟩ | ⟨hmj, rfl⟩⟩
          all_goals
            go_wp2_with fail
            clear hund
            go_loopw [154] (fun x wr => ∃ k : Nat, x = .int .i64 (k : Int) ∧ k ≤ n ∧ Aside0 (IsLat wr g n (flR f n)) ∧ Aside0 (Below w.heap.size w wr)) (fun x _ => n - (intOf x).toNat)
            case atStart => exact ⟨0, rfl, Nat.zero_le _, HL, HB⟩
            case round =>
              clear HL HB
              obtain ⟨k, rfl, hk, HL, HB⟩ := hrel
              by_cases hz : (k : Int) < n
              · have hk' : k < n := by omega
                go_wp2_with fail
                refine (okJ HB.out HL.out (third_calls HG.out hn.out h6 HL.out hi' hj' hk')).mono ?_
                clear HL HB
                rintro e v8 ⟨rfl, HL, HB⟩
                go_wp2_with fail
                exact ⟨⟨k + 1, rfl, by omega, HL, HB⟩, by simp [intOf]; omega⟩
              · obtain rfl : n = k := by omega
                go_wp2_with fail
                exact ⟨⟨j + 1, rfl, by omega, HL, HB⟩, by simp [intOf]; omega⟩
        · obtain rfl : n = j := by omega
          go_wp2_with fail
          exact ⟨⟨i + 1, rfl, by omega, HL, HB⟩, by simp [intOf]; omega⟩
    · obtain rfl : n = i := by omega
      go_wp2_with fail
      refine (four_then HB.out).mono ?_
      rintro e w8 ⟨rfl, hb⟩
      go_wp2_with fail
      go_ret
      exact ⟨rfl, hb⟩
theorem axioms_walk (a0 : Option Addr) (len0 cap0 : Nat) (z0 : List (List Bool)) (w : World) (w0 : z0.length = len0 ∧ len0 ≤ cap0 ∧ Kd.C (Kd.slice 4 Kd.bool) w a0 len0 z0) : Calls Try.prog 4 #[.slice a0 len0 cap0] w fun e w' => e = .returned (.bool true) ∧ Below w.heap.size w w' :=
  axioms_core z0 ⟨w0.1⟩ w w0.2.2 w0.2.1
end Go.Proofs.Yteopponjfkeagaa.Lat

import Derived.Test.YteopponjfkeagaaPolA
import Derived.Test.YteopponjfkeagaaPPolx3
namespace Go.Proofs.Yteopponjfkeagaa.Lat
open Go.RowKit Go.Maps Go.Proofs.YteopponjfkeagaaW.PrintWords Go.Proofs.YteopponjfkeagaaW.PrintLast Go.Proofs.YteopponjfkeagaaW.PrintMore Go.Proofs.Yteopponjfkeagaa.PPol
set_option linter.unusedVariables false
set_option linter.unusedSimpArgs false

section
variable {f : List (List Bool)} {n c : Nat} {A : Option Addr} {w : World}
theorem glarge_j (f : List (List Bool)) (n : Nat) (hn : f.length = n) (hmax : n < 9223372036854775807) : ∀ (d i k : Nat), i + d = n → d + 1 ≤ k → ∃ r, weighlocklaw32_large.l0 k f n i = some r
  | 0, i, k, hd, hk => by
    obtain ⟨k, rfl⟩ : ∃ m, k = m + 1 := ⟨k - 1, by omega⟩
    unfold weighlocklaw32_large.l0
    rw [if_neg (by omega)]
    exact ⟨_, rfl⟩
  | d + 1, i, k, hd, hk => by
    obtain ⟨k, rfl⟩ : ∃ m, k = m + 1 := ⟨k - 1, by omega⟩
    obtain ⟨r, ih⟩ := glarge_j f n hn hmax d (i + 1) k (by omega) (by omega)
    unfold weighlocklaw32_large.l0
    rw [if_pos (by omega), if_pos (by omega), if_pos (by omega), w64S i (by omega)]
    split
    · exact ⟨_, rfl⟩
    · exact ⟨r, ih⟩
theorem glarge_f (f : List (List Bool)) (l : List S58) (hmax : f.length ≤ 9223372036854775807) : ∃ k r, weighlocklaw32_large.f k f l = some r ∧ (r = false → f.length ≤ 40 ∧ l.length ≤ 40) := by
  unfold weighlocklaw32_large.f
  by_cases h : (f.length : Int) > 20
  · exact ⟨1, true, by rw [if_pos h]; rfl, fun e => absurd e (by decide)⟩
  · by_cases h2 : (l.length : Int) > 40
    · exact ⟨1, true, by rw [if_neg h]; exact if_pos (decide_eq_true h2), fun e => absurd e (by decide)⟩
    · obtain ⟨r, hr⟩ := glarge_j f f.length rfl (by omega) f.length 0 (f.length + 1) (by omega) (by omega)
      rw [show ((0 : Nat) : Int) = 0 from rfl] at hr
      refine ⟨f.length + 2, r, ?_, fun _ => ⟨by omega, by omega⟩⟩
      rw [if_neg h]
      exact (if_neg (by rw [decide_eq_false h2]; decide)).trans hr
theorem grlarge (hn : f.length = n) (hC : Kd.C (Kd.slice 4 Kd.bool) w A n f) (hc : n ≤ c) {A1 : Option Addr} {c1 m : Nat} {l : List S58} (hm : l.length = m) (hC1 : Kd.C k58 w A1 m l) (hc1 : m ≤ c1) : ∃ r : Bool, (r = false → n ≤ 40 ∧ m ≤ 40) ∧ Ok w w.heap.size w 35 #[.slice A n c, .slice A1 m c1] (.bool r) := by
  subst hn hm
  obtain ⟨k, r, hr, h40⟩ := glarge_f f l (Kd.C_max hC)
  exact ⟨r, h40, (weighlocklaw32_large.calls k A c f A1 c1 l r w hC hc hC1 hc1 hr).mono fun e w' h => ⟨h.1, h.2.below⟩⟩
end
set_option maxHeartbeats 8000000 in
set_option maxRecDepth 8000 in
theorem gflows_core {A : Option Addr} {c n : Nat} (f : List (List Bool)) (hn : Aside0 (f.length = n)) (w : World) (hC : Kd.C (Kd.slice 4 Kd.bool) w A n f) (hc : n ≤ c) :
    Ok w w.heap.size w 8 #[.slice A n c] (.bool true) := by
  have HC := Aside0.mk hC
  obtain ⟨r, h40, HL⟩ := grlarge hn.out hC hc (l := []) rfl (Kd.C_nil _ _) (Nat.le_refl _)
  replace HL := Aside0.mk HL
  replace h40 := Aside0.mk h40
  clear hC
  go_enter Try.func8, Try.ntmps8
  go_wp2_with fail
  refine HL.out.mono ?_
  rintro e w1 ⟨rfl, hb⟩
  have HB := Aside0.mk hb
  clear hb HL
  cases r
  case true =>
    go_wp2_with fail
    refine (gtwo_then HB.out).mono ?_
    rintro e w2 ⟨rfl, hb⟩
    go_wp2_with fail
    go_ret
    exact ⟨rfl, hb⟩
  replace h40 : n ≤ 40 := (h40.out rfl).1
  obtain ⟨r, hw, HW⟩ := rwrong hn.out HC.out hc h40
  replace HW := Aside0.mk HW
  replace hw := Aside0.mk hw
  go_wp2_with fail
  refine (HW.out _ HB.out).mono ?_
  rintro e w2 ⟨rfl, hb⟩
  replace HB := Aside0.mk hb
  clear hb HW
  by_cases hr : r = 0
  case neg =>
    have hr2 : (r == 0) = false := by simpa using hr
    go_wp2_with fail
    refine (gtwo_then HB.out).mono ?_
    rintro e w3 ⟨rfl, hb⟩
    go_wp2_with fail
    go_ret
    exact ⟨rfl, hb⟩
  subst hr
  have HG := Aside0.mk hw.out.good
  have h6 : n ≤ 6 := by have := HG.out.s.2.1; rw [hn.out] at this; exact this
  clear hw
  go_wp2_with fail
  refine (New_calls' f hn (Kd.C_below HC.out HB.out)).mono ?_
  rintro e w3 ⟨hnew, hb⟩
  obtain ⟨g, rfl, hlat⟩ := HG.out.new hnew
  rw [hn.out] at hlat
  have HL := Aside0.mk hlat
  replace HB := Aside0.mk (below_step HB.out hb)
  clear hb hlat hnew
  have hund : ∀ b : Bool, some undef = some (Value.bool b) → False := fun b e => by cases e
  have ord := Aside0.mk (good_ord HG.out hn.out)
  go_wp2_with fail
  go_loopw [26] (fun x wr => ∃ i : Nat, x = .int .i64 (i : Int) ∧ i ≤ n ∧ Aside0 (IsLat wr g n (flR f n)) ∧ Aside0 (Below w.heap.size w wr)) (fun x _ => n - (intOf x).toNat)
  case atStart => exact ⟨0, rfl, Nat.zero_le _, HL, HB⟩
  case round =>
    clear HL HB
    obtain ⟨i, rfl, hi, HL, HB⟩ := hrel
    by_cases hx : (i : Int) < n
    · go_wp2_with fail
      go_loopw [31] (fun x wr => ∃ j : Nat, x = .int .i64 (j : Int) ∧ j ≤ n ∧ Aside0 (IsLat wr g n (flR f n)) ∧ Aside0 (Below w.heap.size w wr)) (fun x _ => n - (intOf x).toNat)
      case atStart => exact ⟨0, rfl, Nat.zero_le _, HL, HB⟩
      case round =>
        clear HL HB
        obtain ⟨j, rfl, hj, HL, HB⟩ := hrel
        by_cases hy : (j : Int) < n
        · have hi' : i < n := by omega
          have hj' : j < n := by omega
          have cr := fun W (hW : IsLat W g n (flR f n)) => Read_calls (lat_flowing hW h6) (i : Int) (j : Int)
          have co := fun W (hW : IsLat W g n (flR f n)) => Order_calls (lat_flowing hW h6) (i : Int) (j : Int)
          have cw := fun W (hW : IsLat W g n (flR f n)) => Write_calls (lat_flowing hW h6) (i : Int) (j : Int)
          replace cr := Aside0.mk cr
          replace co := Aside0.mk co
          replace cw := Aside0.mk cw
          have three : (flowsF n (flR f n) j i = true ∧ readF (flowsF n (flR f n)) i j = 1 ∧ orderF (flowsF n (flR f n)) i j = 1 ∧ writeF (flowsF n (flR f n)) i j = 1) ∨ (flowsF n (flR f n) j i = true ∧ readF (flowsF n (flR f n)) i j = 1 ∧ orderF (flowsF n (flR f n)) i j = 0) ∨ (readF (flowsF n (flR f n)) i j = 0 ∧ orderF (flowsF n (flR f n)) i j = 0) := by
            by_cases hij : i = j
            · subst hij
              have hr := ord.out.refl i hi'
              refine .inl ⟨hr, ?_, ?_, ?_⟩
              · unfold readF; rw [hr]; rfl
              · unfold orderF; exact if_pos ⟨rfl, hr⟩
              · unfold writeF; rw [hr, if_pos rfl, if_pos rfl]
            · have hne : ¬ (i : Int) = (j : Int) := by omega
              refine .inr ?_
              cases hr : flowsF n (flR f n) j i
              · exact .inr ⟨by unfold readF; rw [hr]; rfl, by unfold orderF; exact if_neg (fun q => hne q.1)⟩
              · exact .inl ⟨rfl, by unfold readF; rw [hr]; rfl, by unfold orderF; exact if_neg (fun q => hne q.1)⟩
          rcases three with ⟨hji, e1, e2, e3⟩ | ⟨hji, e1, e2⟩ | ⟨e1, e2⟩
          case inl =>
            rw [e1] at cr
            rw [e2] at co
            rw [e3] at cw
            clear e1 e2 e3
            go_wp2_with fail
            refine (okJ HB.out HL.out (cr.out _ HL.out)).mono ?_
            clear HL HB
            rintro e v1 ⟨rfl, HL, HB⟩
            go_wp2_with fail
            refine (okJ HB.out HL.out (co.out _ HL.out)).mono ?_
            clear HL HB
            rintro e v2 ⟨rfl, HL, HB⟩
            go_wp2_with fail
            refine (okJ HB.out HL.out (cw.out _ HL.out)).mono ?_
            clear HL HB
            rintro e v3 ⟨rfl, HL, HB⟩
            go_wp2_with fail
            refine (okJ HB.out HL.out (cr.out _ HL.out)).mono ?_
            clear HL HB
            rintro e v4 ⟨rfl, HL, HB⟩
            clear cr co cw
            go_wp2_with fail
            go_loopw [65] (fun x wr => ∃ k : Nat, x = .int .i64 (k : Int) ∧ k ≤ n ∧ Aside0 (IsLat wr g n (flR f n)) ∧ Aside0 (Below w.heap.size w wr)) (fun x _ => n - (intOf x).toNat)
            case atStart => exact ⟨0, rfl, Nat.zero_le _, HL, HB⟩
            case round =>
              clear HL HB
              obtain ⟨k, rfl, hk, HL, HB⟩ := hrel
              by_cases hz : (k : Int) < n
              · have hk' : k < n := by omega
                have cw := fun W (hW : IsLat W g n (flR f n)) => Write_calls (lat_flowing hW h6) (i : Int) (k : Int)
                have co := fun W (hW : IsLat W g n (flR f n)) => Order_calls (lat_flowing hW h6) (i : Int) (k : Int)
                have cf := fun W (hW : IsLat W g n (flR f n)) => lat_Flows hW h6 (i : Int) (k : Int)
                have cab := fun W (hW : IsLat W g n (flR f n)) => lat_Flows hW h6 (j : Int) (k : Int)
                have cba := fun W (hW : IsLat W g n (flR f n)) => Read_calls (lat_flowing hW h6) (k : Int) (j : Int)
                replace cw := Aside0.mk cw
                replace co := Aside0.mk co
                replace cf := Aside0.mk cf
                replace cab := Aside0.mk cab
                replace cba := Aside0.mk cba
                cases hik : flowsF n (flR f n) i k
                · rw [show writeF (flowsF n (flR f n)) (i : Int) (k : Int) = 0 by unfold writeF; rw [hik]; rfl] at cw
                  rw [show orderF (flowsF n (flR f n)) (i : Int) (k : Int) = 0 by unfold orderF; exact if_neg (fun q => by rw [hik] at q; exact absurd q.2 (by decide))] at co
                  rw [hik] at cf
                  clear hik cab cba
                  go_wp2_with fail
                  refine (okJ HB.out HL.out (cw.out _ HL.out)).mono ?_
                  clear HL HB
                  rintro e v5 ⟨rfl, HL, HB⟩
                  go_wp2_with fail
                  refine (okJ HB.out HL.out (co.out _ HL.out)).mono ?_
                  clear HL HB
                  rintro e v6 ⟨rfl, HL, HB⟩
                  go_wp2_with fail
                  refine (okJ HB.out HL.out (cf.out _ HL.out)).mono ?_
                  clear HL HB
                  rintro e v7 ⟨rfl, HL, HB⟩
                  go_wp2_with fail
                  exact ⟨⟨k + 1, rfl, by omega, HL, HB⟩, by simp [intOf]; omega⟩
                · obtain ⟨x, hx0, hx1, hx2⟩ : ∃ x, writeF (flowsF n (flR f n)) (i : Int) (k : Int) = x ∧ (x == 0) = false ∧ ¬ x = 0 := by
                    refine ⟨_, rfl, ?_⟩
                    unfold writeF
                    rw [hik, if_pos rfl]
                    split <;> exact ⟨rfl, by decide⟩
                  have hjk : flowsF n (flR f n) j k = true := ord.out.trans j i k hj' hi' hk' hji hik
                  rw [hx0] at cw
                  rw [hik] at cf
                  rw [hjk] at cab
                  rw [show readF (flowsF n (flR f n)) (k : Int) (j : Int) = 1 by unfold readF; rw [hjk]; rfl] at cba
                  clear hik hx0 hjk
                  go_wp2_with fail
                  refine (okJ HB.out HL.out (cw.out _ HL.out)).mono ?_
                  clear HL HB
                  rintro e v5 ⟨rfl, HL, HB⟩
                  go_wp2_with fail
                  refine (okJ HB.out HL.out (cab.out _ HL.out)).mono ?_
                  clear HL HB
                  rintro e v6 ⟨rfl, HL, HB⟩
                  go_wp2_with fail
                  refine (okJ HB.out HL.out (cf.out _ HL.out)).mono ?_
                  clear HL HB
                  rintro e v7 ⟨rfl, HL, HB⟩
                  go_wp2_with fail
                  refine (okJ HB.out HL.out (cba.out _ HL.out)).mono ?_
                  clear HL HB
                  rintro e v8 ⟨rfl, HL, HB⟩
                  go_wp2_with fail
                  exact ⟨⟨k + 1, rfl, by omega, HL, HB⟩, by simp [intOf]; omega⟩
              · obtain rfl : n = k := by omega
                go_wp2_with fail
                exact ⟨⟨j + 1, rfl, by omega, HL, HB⟩, by simp [intOf]; omega⟩
          case inr.inl =>
            rw [e1] at cr
            rw [e2] at co
            clear e1 e2 cw
            go_wp2_with fail
            refine (okJ HB.out HL.out (cr.out _ HL.out)).mono ?_
            clear HL HB
            rintro e v1 ⟨rfl, HL, HB⟩
            go_wp2_with fail
            refine (okJ HB.out HL.out (co.out _ HL.out)).mono ?_
            clear HL HB
            rintro e v2 ⟨rfl, HL, HB⟩
            go_wp2_with fail
            refine (okJ HB.out HL.out (cr.out _ HL.out)).mono ?_
            clear HL HB
            rintro e v4 ⟨rfl, HL, HB⟩
            clear cr co
            go_wp2_with fail
            go_loopw [65] (fun x wr => ∃ k : Nat, x = .int .i64 (k : Int) ∧ k ≤ n ∧ Aside0 (IsLat wr g n (flR f n)) ∧ Aside0 (Below w.heap.size w wr)) (fun x _ => n - (intOf x).toNat)
            case atStart => exact ⟨0, rfl, Nat.zero_le _, HL, HB⟩
            case round =>
              clear HL HB
              obtain ⟨k, rfl, hk, HL, HB⟩ := hrel
              by_cases hz : (k : Int) < n
              · have hk' : k < n := by omega
                have cw := fun W (hW : IsLat W g n (flR f n)) => Write_calls (lat_flowing hW h6) (i : Int) (k : Int)
                have co := fun W (hW : IsLat W g n (flR f n)) => Order_calls (lat_flowing hW h6) (i : Int) (k : Int)
                have cf := fun W (hW : IsLat W g n (flR f n)) => lat_Flows hW h6 (i : Int) (k : Int)
                have cab := fun W (hW : IsLat W g n (flR f n)) => lat_Flows hW h6 (j : Int) (k : Int)
                have cba := fun W (hW : IsLat W g n (flR f n)) => Read_calls (lat_flowing hW h6) (k : Int) (j : Int)
                replace cw := Aside0.mk cw
                replace co := Aside0.mk co
                replace cf := Aside0.mk cf
                replace cab := Aside0.mk cab
                replace cba := Aside0.mk cba
                cases hik : flowsF n (flR f n) i k
                · rw [show writeF (flowsF n (flR f n)) (i : Int) (k : Int) = 0 by unfold writeF; rw [hik]; rfl] at cw
                  rw [show orderF (flowsF n (flR f n)) (i : Int) (k : Int) = 0 by unfold orderF; exact if_neg (fun q => by rw [hik] at q; exact absurd q.2 (by decide))] at co
                  rw [hik] at cf
                  clear hik cab cba
                  go_wp2_with fail
                  refine (okJ HB.out HL.out (cw.out _ HL.out)).mono ?_
                  clear HL HB
                  rintro e v5 ⟨rfl, HL, HB⟩
                  go_wp2_with fail
                  refine (okJ HB.out HL.out (co.out _ HL.out)).mono ?_
                  clear HL HB
                  rintro e v6 ⟨rfl, HL, HB⟩
                  go_wp2_with fail
                  refine (okJ HB.out HL.out (cf.out _ HL.out)).mono ?_
                  clear HL HB
                  rintro e v7 ⟨rfl, HL, HB⟩
                  go_wp2_with fail
                  exact ⟨⟨k + 1, rfl, by omega, HL, HB⟩, by simp [intOf]; omega⟩
                · obtain ⟨x, hx0, hx1, hx2⟩ : ∃ x, writeF (flowsF n (flR f n)) (i : Int) (k : Int) = x ∧ (x == 0) = false ∧ ¬ x = 0 := by
                    refine ⟨_, rfl, ?_⟩
                    unfold writeF
                    rw [hik, if_pos rfl]
                    split <;> exact ⟨rfl, by decide⟩
                  have hjk : flowsF n (flR f n) j k = true := ord.out.trans j i k hj' hi' hk' hji hik
                  rw [hx0] at cw
                  rw [hik] at cf
                  rw [hjk] at cab
                  rw [show readF (flowsF n (flR f n)) (k : Int) (j : Int) = 1 by unfold readF; rw [hjk]; rfl] at cba
                  clear hik hx0 hjk
                  go_wp2_with fail
                  refine (okJ HB.out HL.out (cw.out _ HL.out)).mono ?_
                  clear HL HB
                  rintro e v5 ⟨rfl, HL, HB⟩
                  go_wp2_with fail
                  refine (okJ HB.out HL.out (cab.out _ HL.out)).mono ?_
                  clear HL HB
                  rintro e v6 ⟨rfl, HL, HB⟩
                  go_wp2_with fail
                  refine (okJ HB.out HL.out (cf.out _ HL.out)).mono ?_
                  clear HL HB
                  rintro e v7 ⟨rfl, HL, HB⟩
                  go_wp2_with fail
                  refine (okJ HB.out HL.out (cba.out _ HL.out)).mono ?_
                  clear HL HB
                  rintro e v8 ⟨rfl, HL, HB⟩
                  go_wp2_with fail
                  exact ⟨⟨k + 1, rfl, by omega, HL, HB⟩, by simp [intOf]; omega⟩
              · obtain rfl : n = k := by omega
                go_wp2_with fail
                exact ⟨⟨j + 1, rfl, by omega, HL, HB⟩, by simp [intOf]; omega⟩
          case inr.inr =>
            rw [e1] at cr
            rw [e2] at co
            clear e1 e2 cw
            go_wp2_with fail
            refine (okJ HB.out HL.out (cr.out _ HL.out)).mono ?_
            clear HL HB
            rintro e v1 ⟨rfl, HL, HB⟩
            go_wp2_with fail
            refine (okJ HB.out HL.out (co.out _ HL.out)).mono ?_
            clear HL HB
            rintro e v2 ⟨rfl, HL, HB⟩
            go_wp2_with fail
            refine (okJ HB.out HL.out (cr.out _ HL.out)).mono ?_
            clear HL HB
            rintro e v4 ⟨rfl, HL, HB⟩
            clear cr co
            go_wp2_with fail
            go_loopw [65] (fun x wr => ∃ k : Nat, x = .int .i64 (k : Int) ∧ k ≤ n ∧ Aside0 (IsLat wr g n (flR f n)) ∧ Aside0 (Below w.heap.size w wr)) (fun x _ => n - (intOf x).toNat)
            case atStart => exact ⟨0, rfl, Nat.zero_le _, HL, HB⟩
            case round =>
              clear HL HB
              obtain ⟨k, rfl, hk, HL, HB⟩ := hrel
              by_cases hz : (k : Int) < n
              · have hk' : k < n := by omega
                have cw := fun W (hW : IsLat W g n (flR f n)) => Write_calls (lat_flowing hW h6) (i : Int) (k : Int)
                have co := fun W (hW : IsLat W g n (flR f n)) => Order_calls (lat_flowing hW h6) (i : Int) (k : Int)
                have cf := fun W (hW : IsLat W g n (flR f n)) => lat_Flows hW h6 (i : Int) (k : Int)
                replace cw := Aside0.mk cw
                replace co := Aside0.mk co
                cases hik : flowsF n (flR f n) i k
                · rw [show writeF (flowsF n (flR f n)) (i : Int) (k : Int) = 0 by unfold writeF; rw [hik]; rfl] at cw
                  rw [show orderF (flowsF n (flR f n)) (i : Int) (k : Int) = 0 by unfold orderF; exact if_neg (fun q => by rw [hik] at q; exact absurd q.2 (by decide))] at co
                  clear hik cf
                  go_wp2_with fail
                  refine (okJ HB.out HL.out (cw.out _ HL.out)).mono ?_
                  clear HL HB
                  rintro e v5 ⟨rfl, HL, HB⟩
                  go_wp2_with fail
                  refine (okJ HB.out HL.out (co.out _ HL.out)).mono ?_
                  clear HL HB
                  rintro e v6 ⟨rfl, HL, HB⟩
                  go_wp2_with fail
                  exact ⟨⟨k + 1, rfl, by omega, HL, HB⟩, by simp [intOf]; omega⟩
                · obtain ⟨x, hx0, hx1, hx2⟩ : ∃ x, writeF (flowsF n (flR f n)) (i : Int) (k : Int) = x ∧ (x == 0) = false ∧ ¬ x = 0 := by
                    refine ⟨_, rfl, ?_⟩
                    unfold writeF
                    rw [hik, if_pos rfl]
                    split <;> exact ⟨rfl, by decide⟩
                  rw [hx0] at cw
                  clear hik cf hx0
                  go_wp2_with fail
                  refine (okJ HB.out HL.out (cw.out _ HL.out)).mono ?_
                  clear HL HB
                  rintro e v5 ⟨rfl, HL, HB⟩
                  go_wp2_with fail
                  exact ⟨⟨k + 1, rfl, by omega, HL, HB⟩, by simp [intOf]; omega⟩
              · obtain rfl : n = k := by omega
                go_wp2_with fail
                exact ⟨⟨j + 1, rfl, by omega, HL, HB⟩, by simp [intOf]; omega⟩
        · obtain rfl : n = j := by omega
          go_wp2_with fail
          exact ⟨⟨i + 1, rfl, by omega, HL, HB⟩, by simp [intOf]; omega⟩
    · obtain rfl : n = i := by omega
      go_wp2_with fail
      refine (gtwo_then HB.out).mono ?_
      rintro e w8 ⟨rfl, hb⟩
      go_wp2_with fail
      go_ret
      exact ⟨rfl, hb⟩
theorem gflows_walk (a0 : Option Addr) (len0 cap0 : Nat) (z0 : List (List Bool)) (w : World) (w0 : z0.length = len0 ∧ len0 ≤ cap0 ∧ Kd.C (Kd.slice 4 Kd.bool) w a0 len0 z0) : Calls Try.prog 8 #[.slice a0 len0 cap0] w fun e w' => e = .returned (.bool true) ∧ Below w.heap.size w w' :=
  gflows_core z0 ⟨w0.1⟩ w w0.2.2 w0.2.1
end Go.Proofs.Yteopponjfkeagaa.Lat

import Derived.Test.YtohhlkabejangaaAs1
namespace Go.Proofs.Ytohhlkabejangaa.As
open Go.RowKit Go.Maps Go.Sort Go.Proofs.YtohhlkabejangaaW.PrintWords Go.Proofs.YtohhlkabejangaaW.PrintLast Go.Proofs.YtohhlkabejangaaW.PrintMore Go.Proofs.Ytohhlkabejangaa.PAs
set_option linter.unusedVariables false
set_option linter.unusedSimpArgs false
theorem values_calls (a : Option Addr) (len cap : Nat) (w : World) :
    Calls Try.prog 76 #[.slice a len cap] w fun e w' => e = .returned (.func (.func 124) #[] #[.pointer (some ⟨w.heap.size, 0, none⟩)]) ∧ w' = w.alloc (.cells #[.slice a len cap] 22) :=
  callsIn_wide.1 (AsV.values_in Fence.wide 5 trivial rfl a len cap w)
/-- what Clone and Compact tell of a sorted row: how many there are without those that stand twice -/
theorem clone_calls (w : World) (base : Nat) (v : Value) (zs : List (List UInt8)) (hl : zs.length ≤ 1000) (h : w.ownsRow base 9 1 v zs.length (zs.map encStr)) :
    Calls Try.prog 78 #[v] w fun e w' => ∃ u, e = .returned u ∧ w'.ownsRow w.heap.size 9 1 u zs.length (zs.map encStr) ∧ Below w.heap.size w w' := by
  obtain ⟨h1, h2⟩ := h
  rcases h2 with ⟨rfl, hn⟩ | ⟨g, cap, cur, rfl, hbg, hg, r1, r2, r3, r4⟩
  · obtain rfl := List.eq_nil_of_length_eq_zero hn
    refine (Any.slices_Clone_string_nil Try.laysNm216 0 0 w).mono ?_
    rintro e w' ⟨rfl, rfl⟩
    exact ⟨_, rfl, ⟨h1, .inl ⟨rfl, rfl⟩⟩, Below.refl _ _⟩
  · have hH : Holds encStr w g 0 zs.toArray := holds_of_block hg (by simpa using r4)
    refine (Any.slices_Clone_string Try.laysNm216 g 0 zs.length cap (zs.map (fun x => (⟨x.toArray⟩ : ByteArray))) w (by simp) (by omega) (fun j hj => ?_)).mono ?_
    · rw [List.length_map] at hj
      have := (hH j (by simpa using hj)).1
      rw [this, getElem!_pos _ j (by simpa using hj)]
      simp [encStr, List.getD_eq_getElem?_getD, hj]
    · rintro e w' ⟨u, rfl, hu, _, hb⟩
      refine ⟨u, rfl, ?_, hb⟩
      have e : ((zs.map (fun x => (⟨x.toArray⟩ : ByteArray))).take zs.length).map Value.string = zs.map encStr := by
        rw [List.take_of_length_le (by simp), List.map_map]
        rfl
      rw [e] at hu
      exact hu
theorem compact_calls (w : World) (base : Nat) (v : Value) (zs : List (List UInt8)) (hl : zs.length ≤ 1000) (h : w.ownsRow base 9 1 v zs.length (zs.map encStr)) :
    Calls Try.prog 77 #[v] w fun e w' => ∃ a c, e = .returned (.slice a (Lib.compact zs).length c) ∧ (∀ B, B ≤ base → B ≤ w.heap.size → Below B w w') := by
  obtain ⟨h1, h2⟩ := h
  rcases h2 with ⟨rfl, hn⟩ | ⟨g, cap, cur, rfl, hbg, hg, r1, r2, r3, r4⟩
  · obtain rfl := List.eq_nil_of_length_eq_zero hn
    refine (Any.slices_Compact_string_empty Try.lays194 none 0 w).mono ?_
    rintro e w' ⟨rfl, rfl⟩
    exact ⟨none, 0, rfl, fun B _ _ => Below.refl _ _⟩
  · have hH : Holds encStr w g 0 zs.toArray := holds_of_block hg (by simpa using r4)
    refine (Any.slices_Compact_string Try.lays194 g 0 cap zs w hH (by omega) (by omega)).mono ?_
    rintro e w' ⟨rfl, q, rfl⟩
    refine ⟨_, _, rfl, fun B hB hBs => ?_⟩
    have := grownBy_sorted (w := w) (g := g) (n := q) (os := #[]) (Lib.compact zs ++ List.replicate (zs.length - (Lib.compact zs).length) []).toArray
    rw [grow_empty] at this
    exact (Below.refl B w).grown this hBs (fun k hk => by cases hk; omega)
set_option maxHeartbeats 16000000 in
set_option maxRecDepth 100000 in
theorem sorted_calls (A : Option Addr) (c : Nat) (l : List ByteArray) (w : World) (hA : Kd.C Kd.string w A l.length l) (hl : l.length ≤ 1000) (hz : ∀ s ∈ l, s.size ≤ 1000) :
    Calls Try.prog 20 #[.slice A l.length c] w fun e w' => ∃ u, e = .returned (.tuple #[u, .int .i64 (wrongL l)]) ∧ Kd.R kStr 9 w' w.heap.size (fun _ => True) u (if wrongL l = 0 then srt l else []) ∧ Below w.heap.size w w' := by
  have HR := Aside0.mk hA
  have HZ := Aside0.mk hz
  clear hA hz
  go_enter Try.func20, Try.ntmps20
  go_wp2_with fail
  go_loopw [9] (fun iv wr => ∃ k : Nat, k ≤ l.length ∧ iv = .int .i64 k ∧ Aside0 ((l.take k).all nameB = true) ∧ Drawn0 w wr) (fun iv _ => l.length - (intOf iv).toNat)
  case atStart => exact ⟨0, Nat.zero_le _, rfl, ⟨rfl⟩, Drawn0.refl _⟩
  case round =>
    obtain ⟨k, hk, rfl, HA, ⟨m, rfl⟩⟩ := hrel
    by_cases hkl : k < l.length
    · obtain ⟨ad, rfl, hx⟩ := Kd.at_string HR.out (k : Int) (by omega) (by omega)
      rw [rd_at l k hkl, Int.toNat_natCast] at hx
      have hname := topic_Name.calls 20 l[k] (nameB l[k]) (w.drewN m) (name_eq l[k] (by have := HZ.out l[k] (List.getElem_mem hkl); omega) 20 (Nat.le_refl _))
      have c1 : decide ((k : Int) < (l.length : Int)) = true := decide_eq_true (by omega)
      have c2 : (0 ≤ (k : Int)) = True := eq_true (by omega)
      have c3 : ((k : Int) < (l.length : Int)) = True := eq_true (by omega)
      go_wp2_with fail
      refine hname.mono ?_
      rintro e w1 ⟨rfl, ⟨m1, rfl⟩⟩
      cases hn : nameB l[k] with
      | true =>
        go_wp2_with fail
        go_roundw
        case rel =>
          refine ⟨k + 1, by omega, ?_, ⟨?_⟩, ⟨⟨m + m1, rfl⟩⟩⟩
          · first | rfl | simp
          · rw [List.take_add_one, List.all_append, HA.out, List.getElem?_eq_getElem hkl]
            simp [hn]
        case measure =>
          simp [intOf]
          omega
      | false =>
        have hw : wrongL l = 1 := by
          unfold wrongL
          rw [if_neg]
          intro h
          rw [List.all_eq_true] at h
          rw [h l[k] (List.getElem_mem hkl)] at hn
          cases hn
        go_wp2_with fail
        exact bodyPost_ret (v := .tuple #[.slice none 0 0, .int .i64 1]) (by simp [results, Try.results20, go_sem]) rfl ⟨.slice none 0 0, by first | rfl | rw [hw], by first | exact Kd.R_nil _ _ _ _ _ | (rw [hw]; exact Kd.R_nil _ _ _ _ _), (Drawn0.step (Drawn0.refl w) (m + m1)).below⟩
    · obtain rfl : k = l.length := by omega
      have c1 : decide ((l.length : Int) < (l.length : Int)) = false := decide_eq_false (by omega)
      have hall : l.all nameB = true := by have := HA.out; rwa [List.take_length] at this
      have hC := Kd.C_below HR.out (Drawn0.step (Drawn0.refl w) m).below
      have hS := strs_of l A c (w.drewN m) hC
      go_wp2_with fail
      refine (values_calls A l.length c (w.drewN m)).mono ?_
      rintro e w1 ⟨rfl, rfl⟩
      go_wp2_with fail
      refine (callsIn_wide.1 (AsV.sortedV A l.length c (l.map (·.toList)) (w.drewN m) (by rw [List.length_map]; omega) hS)).mono ?_
      rintro e w2 ⟨v, rfl, hrow, _, hb2⟩
      have e1 : (l.map (·.toList)).length = (srt l).length := by rw [srt_length, List.length_map]
      rw [e1] at hrow
      have HB2 := Aside0.mk (below_step (below_alloc (Drawn0.step (Drawn0.refl w) m).below (.cells #[.slice A l.length c] 22)) hb2)
      have hs : w.heap.size ≤ ((w.drewN m).alloc (.cells #[.slice A l.length c] 22)).heap.size := (below_alloc (Drawn0.step (Drawn0.refl w) m).below (.cells #[.slice A l.length c] 22)).size
      have HRow := Aside0.mk (own_less hrow hs)
      clear hrow hb2 hS hC
      have hsl : (srt l).length ≤ 1000 := by rw [srt_length]; exact hl
      go_wp2_with fail
      refine (clone_calls w2 w.heap.size v (srt l) hsl HRow.out).mono ?_
      rintro e w3 ⟨u, rfl, hu, hb3⟩
      go_wp2_with fail
      refine (compact_calls w3 w2.heap.size u (srt l) hsl hu).mono ?_
      rintro e w4 ⟨a4, c4, rfl, hb4⟩
      have HB24 := Aside0.mk (hb3.trans (hb4 w2.heap.size (Nat.le_refl _) hb3.size))
      have HB4 := Aside0.mk (below_step HB2.out HB24.out)
      have HRR := Aside0.mk (Kd.R_step (Kd.R_of_own (enc := encStr) (h1 := fun _ => rfl) (e := 9) (ok := fun _ => True) HRow.out (fun _ _ => trivial)) (fun k _ hk => HB24.out.block k hk))
      obtain ⟨a2, n2, c2, rfl, hn2⟩ : ∃ a2 n2 c2, v = .slice a2 n2 c2 ∧ n2 = l.length := by
        rcases HRow.out.2 with ⟨rfl, hn⟩ | ⟨g, cap, cur, rfl, _⟩
        · exact ⟨none, 0, 0, rfl, by rw [srt_length] at hn; omega⟩
        · exact ⟨_, _, _, rfl, srt_length l⟩
      subst hn2
      clear hu hb3 hb4 HB2
      by_cases hnd : (l.map (·.toList)).Nodup
      · have hw : wrongL l = 0 := by
          unfold wrongL
          rw [if_pos hall, if_pos hnd]
        have hcl : (Lib.compact (srt l)).length = l.length := by rw [compact_nodup _ ((srt_nodup l).2 hnd), srt_length]
        rw [hcl]
        go_wp2_with fail
        exact bodyPost_ret (v := .tuple #[.slice a2 l.length c2, .int .i64 0]) (by simp [results, Try.results20, go_sem]) rfl ⟨.slice a2 l.length c2, by first | rfl | rw [hw], by first | exact HRR.out | (rw [hw]; exact HRR.out), HB4.out⟩
      · have hw : wrongL l = 8 := by
          unfold wrongL
          rw [if_pos hall, if_neg hnd]
        have hcl : (Lib.compact (srt l)).length < l.length := by
          have := compact_lt (srt l) (srt_sorted l) (fun h => hnd ((srt_nodup l).1 h))
          rwa [srt_length] at this
        have c5 : decide (((Lib.compact (srt l)).length : Int) < (l.length : Int)) = true := decide_eq_true (by omega)
        go_wp2_with fail
        exact bodyPost_ret (v := .tuple #[.slice none 0 0, .int .i64 8]) (by simp [results, Try.results20, go_sem]) rfl ⟨.slice none 0 0, by first | rfl | rw [hw], by first | exact Kd.R_nil _ _ _ _ _ | (rw [hw]; exact Kd.R_nil _ _ _ _ _), HB4.out⟩
end Go.Proofs.Ytohhlkabejangaa.As

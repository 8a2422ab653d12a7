import Derived.Test.YtohhlkabejangaaAs11
namespace Go.Proofs.Ytohhlkabejangaa.As
open Go.RowKit Go.Maps Go.Sort Go.ChangeShapes Go.Proofs.YtohhlkabejangaaW.PrintWords Go.Proofs.YtohhlkabejangaaW.PrintLast Go.Proofs.YtohhlkabejangaaW.PrintMore Go.Proofs.Ytohhlkabejangaa.PAs
set_option linter.unusedVariables false
set_option linter.unusedSimpArgs false
/-- texts that come in: n of them, with room for k -/
def Ss (k : Nat) (W : World) (A : Option Addr) (n : Nat) (l : List ByteArray) : Prop := l.length = n ∧ n ≤ k ∧ Kd.C Kd.string W A n l
def ofR (l : List ByteArray) (n : Int) (x : List UInt8) : List Int := if errOf l n x = 0 then ofL l n.toNat x else []
theorem ofR_len (l : List ByteArray) (n : Int) (x : List UInt8) : (ofR l n x).length ≤ 1000 := by
  unfold ofR
  split
  · rename_i h
    have h1 := ofL_none l n.toNat x
    have : errA l n = 0 := by
      unfold errOf at h
      split at h
      · assumption
      · rename_i h2
        exact (h2 h).elim
    have := errA_zero this
    omega
  · simp
theorem perm_ofR {l m : List ByteArray} (h : l.Perm m) (n : Int) (x : List UInt8) : ofR l n x = ofR m n x := by
  unfold ofR
  rw [perm_errOf h, perm_ofL h]
theorem infoS : (Try.prog.info? 9).map (fun i => (i.zero, i.size, i.bytes)) = some (some (.string ⟨#[]⟩), 1, 16) := by kernel_rfl
theorem offR_calls (A : Option Addr) (c : Nat) (l : List ByteArray) (n : Int) (s : ByteArray) (hs : s.size ≤ 1000) (w : World) (hA : Kd.C Kd.string w A l.length l) (hl : l.length ≤ 1000) (hz : ∀ s ∈ l, s.size ≤ 1000) :
    Calls Try.prog 19 #[.slice A l.length c, .int .i64 n, .string s] w fun e w' => ∃ A1 c1, e = .returned (.tuple #[.slice A1 (ofR l n s.toList).length c1, .int .i64 (errOf l n s.toList)]) ∧ (ofR l n s.toList).length ≤ c1 ∧ Kd.C (Kd.int .i64) w' A1 (ofR l n s.toList).length (ofR l n s.toList) ∧ Below w.heap.size w w' := by
  refine (off_calls A c l n s hs w hA hl hz).mono ?_
  rintro e w' ⟨v, rfl, hR, hb⟩
  obtain ⟨A1, c1, rfl, hc, hC⟩ := Kd.R_reads hR
  exact ⟨A1, c1, rfl, hc, hC, hb⟩
def srtB (l : List ByteArray) : List ByteArray := (srt l).map mkB
theorem srtB_length (l : List ByteArray) : (srtB l).length = l.length := by
  unfold srtB
  rw [List.length_map, srt_length]
/-- what Sorted tells -/
def srtR (l : List ByteArray) : List ByteArray := if wrongL l = 0 then srtB l else []
theorem srtR_len (l : List ByteArray) : (srtR l).length ≤ l.length := by
  unfold srtR
  split
  · rw [srtB_length]; exact Nat.le_refl _
  · simp
theorem sortedR_calls (A : Option Addr) (c : Nat) (l : List ByteArray) (w : World) (hA : Kd.C Kd.string w A l.length l) (hl : l.length ≤ 1000) (hz : ∀ s ∈ l, s.size ≤ 1000) :
    Calls Try.prog 20 #[.slice A l.length c] w fun e w' => ∃ A1 c1, e = .returned (.tuple #[.slice A1 (srtR l).length c1, .int .i64 (wrongL l)]) ∧ (srtR l).length ≤ c1 ∧ Kd.C Kd.string w' A1 (srtR l).length (srtR l) ∧ Below w.heap.size w w' := by
  refine (sorted_calls A c l w hA hl hz).mono ?_
  rintro e w' ⟨v, rfl, hR, hb⟩
  have e1 : (if wrongL l = 0 then srt l else []).map mkB = srtR l := by
    unfold srtR srtB
    split <;> rfl
  have hR := str_R hR
  rw [e1] at hR
  obtain ⟨A1, c1, rfl, hc, hC⟩ := Kd.R_reads hR
  exact ⟨A1, c1, rfl, hc, hC, hb⟩
theorem perm_srtR {l m : List ByteArray} (h : l.Perm m) : srtR l = srtR m := by
  unfold srtR srtB
  rw [(perm_facts h).1, (perm_facts h).2.2.2]
set_option maxHeartbeats 16000000 in
set_option maxRecDepth 100000 in
theorem turned_out (l : List ByteArray) (A : Option Addr) (n k : Nat) (parts turn : Int) (w : World) (hp : Ss k w A n l) (h : largeB l = true ∨ largeB l = false ∧ (l.length = 0 ∨ turn < 0)) :
    Calls Try.prog 5 #[.slice A n k, .int .i64 parts, .int .i64 turn] w fun e w' => e = .returned (.bool true) ∧ Below w.heap.size w w' := by
  have hund : ∀ b, some undef = some (Value.bool b) → False := fun b h => by simp [undef] at h
  obtain ⟨rfl, hnk, hC⟩ := hp
  have hlg := Aside0.mk (large_calls A k l w hC hnk)
  have fin : ∀ w1, Below w.heap.size w w1 → Calls Try.prog 17 #[] w1 fun e w' => e = .returned (.bool true) ∧ Below w.heap.size w w' := fun w1 hb => (three_calls w1).mono (by
    rintro e w2 ⟨rfl, h2⟩
    exact ⟨rfl, below_step hb h2⟩)
  have fin := Aside0.mk fin
  clear hC
  rcases h with h | ⟨h, h0⟩
  · rw [h] at hlg
    go_enter Try.func5, Try.ntmps5
    go_wp2_with fail
    refine hlg.out.mono ?_
    rintro e w1 ⟨rfl, hb⟩
    have HB := Aside0.mk hb
    clear hb hlg
    go_wp2_with fail
    refine (fin.out w1 HB.out).mono ?_
    rintro e w2 ⟨rfl, hb⟩
    have HB2 := Aside0.mk hb
    clear hb HB
    go_wp2_with fail
    go_ret
    exact ⟨rfl, HB2.out⟩
  · rw [h] at hlg
    by_cases hl0 : l.length = 0
    · have c1 : ((l.length : Int) == 0) = true := by rw [hl0]; rfl
      clear h0 hl0
      go_enter Try.func5, Try.ntmps5
      go_wp2_with fail
      refine hlg.out.mono ?_
      rintro e w1 ⟨rfl, hb⟩
      have HB := Aside0.mk hb
      clear hb hlg
      go_wp2_with fail
      refine (fin.out w1 HB.out).mono ?_
      rintro e w2 ⟨rfl, hb⟩
      have HB2 := Aside0.mk hb
      clear hb HB
      go_wp2_with fail
      go_ret
      exact ⟨rfl, HB2.out⟩
    · have ht : turn < 0 := by omega
      have c1 : ((l.length : Int) == 0) = false := beq_eq_false_iff_ne.2 (by omega)
      have c2 : decide (turn < 0) = true := decide_eq_true ht
      clear h0 hl0 ht
      go_enter Try.func5, Try.ntmps5
      go_wp2_with fail
      refine hlg.out.mono ?_
      rintro e w1 ⟨rfl, hb⟩
      have HB := Aside0.mk hb
      clear hb hlg
      go_wp2_with fail
      refine (fin.out w1 HB.out).mono ?_
      rintro e w2 ⟨rfl, hb⟩
      have HB2 := Aside0.mk hb
      clear hb HB
      go_wp2_with fail
      go_ret
      exact ⟨rfl, HB2.out⟩
set_option maxHeartbeats 16000000 in
set_option maxRecDepth 100000 in
theorem turned_in (l : List ByteArray) (A : Option Addr) (n k : Nat) (parts turn : Int) (w : World) (hp : Ss k w A n l) (hbig : largeB l = false) (h0 : l.length ≠ 0) (ht : 0 ≤ turn) :
    Calls Try.prog 5 #[.slice A n k, .int .i64 parts, .int .i64 turn] w fun e w' => e = .returned (.bool true) ∧ Below w.heap.size w w' := by
  have hund : ∀ b, some undef = some (Value.bool b) → False := fun b h => by simp [undef] at h
  obtain ⟨i0S, hiS, _, hszS, _⟩ := info_parts infoS
  obtain ⟨rfl, hnk, hC⟩ := hp
  have hlg := Aside0.mk (large_calls A k l w hC hnk)
  rw [hbig] at hlg
  obtain ⟨hl20, hz⟩ := large_no hbig
  have hl : l.length ≤ 1000 := by omega
  have HZ := Aside0.mk (fun s hs => Nat.le_trans (hz s hs) (by omega) : ∀ s ∈ l, s.size ≤ 1000)
  have HC := Aside0.mk hC
  have c1 : ((l.length : Int) == 0) = false := beq_eq_false_iff_ne.2 (by omega)
  have c2 : decide (turn < 0) = false := decide_eq_false (by omega)
  have hne : ¬ (l.length : Int) = 0 := by omega
  obtain ⟨d, hd, hdl⟩ : ∃ d : Nat, Int.tmod turn (l.length : Int) = d ∧ d < l.length := by
    have h1 := Int.tmod_nonneg (l.length : Int) ht
    have h2 := Int.tmod_lt_of_pos turn (show (0 : Int) < l.length by omega)
    exact ⟨(Int.tmod turn (l.length : Int)).toNat, by omega, by omega⟩
  have hwr : wrap64 (d : Int) = d := w64 _ (by omega) (by omega)
  have hwr2 : IntKind.i64.wrap (d : Int) = d := IntWalk.i64_in _ (by omega)
  have hcut1 := cut_from (P := Try.prog) 22 9 .i64 Try.underlying22 hiS 1 hszS A l.length k (d : Int) (by omega) (by omega)
  have hcut2 := cut_to (P := Try.prog) 22 9 .i64 Try.underlying22 hiS A l.length k (d : Int) (by omega) (by omega) hnk
  have hkd : ¬ k = d := by omega
  rw [Int.toNat_natCast, if_neg hkd, Nat.mul_one] at hcut1
  rw [Int.toNat_natCast] at hcut2
  have hperm : l.Perm (l.drop d ++ l.take d) := turn_perm l d
  have hC1 : Aside0 (∀ W, Below w.heap.size w W → Kd.C Kd.string W (A.map (·.add d)) (l.length - d) (l.drop d)) := ⟨fun W hb => by
    have h9 := Kd.C_drop (m := d) (c := k) hC (by omega) hnk
    rw [List.length_drop, if_neg hkd, show Kd.string.sz = 1 from rfl, Nat.mul_one] at h9
    exact Kd.C_below h9 hb⟩
  have hC2 : Aside0 (∀ W, Below w.heap.size w W → Kd.C Kd.string W A d (l.take d)) := ⟨fun W hb => by
    have h9 := Kd.C_take (m := d) hC (by omega)
    rw [List.length_take, Nat.min_eq_left (by omega)] at h9
    exact Kd.C_below h9 hb⟩
  obtain ⟨AD, hAD⟩ : ∃ X, A.map (·.add d) = X := ⟨_, rfl⟩
  rw [hAD] at hcut1 hC1
  clear hAD
  obtain ⟨m, hm⟩ : ∃ m, l.drop d ++ l.take d = m := ⟨_, rfl⟩
  have HM := Aside0.mk hm
  rw [hm] at hperm
  have hml : m.length = l.length := hperm.length_eq.symm
  have HMZ := Aside0.mk (fun s hs => HZ.out s (hperm.mem_iff.2 hs) : ∀ s ∈ m, s.size ≤ 1000)
  have HP := Aside0.mk hperm
  have HML := Aside0.mk hml
  clear hm hperm hml hC hz hbig hszS hiS
  go_enter Try.func5, Try.ntmps5
  go_wp2_with fail
  refine hlg.out.mono ?_
  rintro e w1 ⟨rfl, hb⟩
  have HB := Aside0.mk hb
  have Ra : Aside0 (Kd.R Kd.string 9 w1 w1.heap.size (fun _ => True) (.slice none 0 0) []) := ⟨Kd.R_nil _ _ _ _ _⟩
  have Ha := Aside0.mk (Below.refl w1.heap.size w1)
  clear hb hlg
  go_wp2_with (first
    | ((with_reducible refine gate_builtin (b := .append) (xs := #[.tmp 35, .tmp 38]) rfl ?_); at_builtin; refine Kd.R_append_row Value.string ⟨#[]⟩ (h1 := fun _ => rfl) (w0 := w1) w1.heap.size rfl (.tmp 35) (.tmp 38) 22 9 (.string ⟨#[]⟩) 16 rfl Try.underlying22 infoS rfl (by decide) _ [] (l.drop d) (AD) (l.length - d) (k - d) (fun _ => True) rfl rfl (fun _ _ => trivial) Ra.out (hC1.out _ (below_step HB.out Ha.out)) Ha.out Ha.out.size ?aL ?_; (case aL => (try simp only [List.length_nil, Nat.zero_add, List.length_drop, List.length_take]); omega); intro xa1 w4 ho hb hgr hat; have n_R : Aside0 (Kd.R Kd.string 9 w4 w1.heap.size (fun _ => True) xa1 (l.drop d)) := ⟨ho⟩; clear Ra Ha ho hgr hat; have Ra := n_R; have Ha := Aside0.mk hb; clear hb n_R)
    | ((with_reducible refine gate_builtin (b := .append) (xs := #[.tmp 40, .tmp 43]) rfl ?_); at_builtin; refine Kd.R_append_row Value.string ⟨#[]⟩ (h1 := fun _ => rfl) (w0 := w1) w1.heap.size rfl (.tmp 40) (.tmp 43) 22 9 (.string ⟨#[]⟩) 16 rfl Try.underlying22 infoS rfl (by decide) _ (l.drop d) (l.take d) (A) (d) (k) (fun _ => True) rfl rfl (fun _ _ => trivial) Ra.out (hC2.out _ (below_step HB.out Ha.out)) Ha.out Ha.out.size ?aL ?_; (case aL => (try simp only [List.length_nil, Nat.zero_add, List.length_drop, List.length_take]); omega); intro xa2 w5 ho hb hgr hat; have n_R : Aside0 (Kd.R Kd.string 9 w5 w1.heap.size (fun _ => True) xa2 m) := ⟨by rw [← HM.out]; exact ho⟩; clear Ra Ha ho hgr hat; have Ra := n_R; have Ha := Aside0.mk hb; clear hb n_R; obtain ⟨Am, cm, hum, hcm, hCm⟩ := Kd.R_reads Ra.out; subst hum))
  have HCm := Aside0.mk hCm
  have HB5 := Aside0.mk (below_step HB.out Ha.out)
  have HCM := Aside0.mk hcm
  clear hCm hcm Ra Ha HB hcut1 hcut2 hC1 hC2 HM
  have hml := HML.out
  have HML1 := Aside0.mk (show m.length ≤ 1000 by omega)
  have HC5 := Aside0.mk (Kd.C_below HC.out HB5.out)
  clear HML HC hml
  go_loopw [47] (fun iv wr => ∃ j : Nat, j ≤ l.length ∧ iv = .int .i64 j ∧ Aside0 (Below w5.heap.size w5 wr)) (fun iv _ => l.length - (intOf iv).toNat)
  case atStart => exact ⟨0, Nat.zero_le _, rfl, ⟨Below.refl _ _⟩⟩
  case round =>
    obtain ⟨j, hj, rfl, HW⟩ := hrel
    by_cases hjl : j < l.length
    · obtain ⟨ad, rfl, hx⟩ := Kd.at_string (Kd.C_below HC5.out HW.out) (j : Int) (by omega) (by omega)
      rw [rd_at l j hjl, Int.toNat_natCast] at hx
      obtain ⟨x, hxe⟩ : ∃ x, l[j] = x := ⟨_, rfl⟩
      rw [hxe] at hx
      have hxs : x.size ≤ 1000 := by rw [← hxe]; exact HZ.out _ (List.getElem_mem hjl)
      have k1 : decide ((j : Int) < (l.length : Int)) = true := decide_eq_true (by omega)
      have k2 : (0 ≤ (j : Int)) = True := eq_true (by omega)
      have k3 : ((j : Int) < (l.length : Int)) = True := eq_true (by omega)
      clear hxe
      go_wp2_with fail
      refine (offR_calls _ k l parts x hxs wr (Kd.C_below HC5.out HW.out) hl HZ.out).mono ?_
      rintro e w6 ⟨A1, c6, rfl, hc6, hC6, hb⟩
      have n_W := Aside0.mk (below_step HW.out hb)
      have HC6 := Aside0.mk hC6
      clear HW hb hC6
      have HW := n_W
      clear n_W
      go_wp2_with fail
      refine (offR_calls Am cm m parts x hxs w6 (Kd.C_below HCm.out HW.out) HML1.out HMZ.out).mono ?_
      rw [← perm_errOf HP.out, ← perm_ofR HP.out]
      rintro e w7 ⟨A2, c7, rfl, hc7, hC7, hb⟩
      have n_W := Aside0.mk (below_step HW.out hb)
      have n_6 := Aside0.mk (Kd.C_below HC6.out hb)
      have HC7 := Aside0.mk hC7
      clear HW hb hC7 HC6
      have HW := n_W
      have HC6 := n_6
      clear n_W n_6
      have hor := ofR_len l parts x.toList
      generalize errOf l parts x.toList = z at *
      generalize ofR l parts x.toList = zs at *
      have k4 : (z != z) = false := by simp
      go_wp2_with fail
      refine (ints_calls A1 A2 c6 c7 zs hor hc6 hc7 w7 HC6.out HC7.out).mono ?_
      rintro e w8 ⟨rfl, hb⟩
      have n_W := Aside0.mk (below_step HW.out hb)
      clear HW hb HC6 HC7
      have HW := n_W
      clear n_W
      go_wp2_with fail
      go_roundw
      case rel => exact ⟨j + 1, by omega, by first | rfl | simp, HW⟩
      case measure => simp [intOf]; omega
    · obtain rfl : j = l.length := by omega
      have k1 : decide ((l.length : Int) < (l.length : Int)) = false := decide_eq_false (by omega)
      go_wp2_with fail
      refine (sortedR_calls _ k l wr (Kd.C_below HC5.out HW.out) hl HZ.out).mono ?_
      rintro e w6 ⟨A1, c6, rfl, hc6, hC6, hb⟩
      have n_W := Aside0.mk (below_step HW.out hb)
      have HC6 := Aside0.mk hC6
      clear HW hb hC6
      have HW := n_W
      clear n_W
      go_wp2_with fail
      refine (sortedR_calls Am cm m w6 (Kd.C_below HCm.out HW.out) HML1.out HMZ.out).mono ?_
      rw [← (perm_facts HP.out).1, ← perm_srtR HP.out]
      rintro e w7 ⟨A2, c7, rfl, hc7, hC7, hb⟩
      have n_W := Aside0.mk (below_step HW.out hb)
      have n_6 := Aside0.mk (Kd.C_below HC6.out hb)
      have HC7 := Aside0.mk hC7
      clear HW hb hC7 HC6
      have HW := n_W
      have HC6 := n_6
      clear n_W n_6
      have hor := srtR_len l
      generalize wrongL l = z at *
      generalize srtR l = zs at *
      have hor : zs.length ≤ 1000 := by omega
      have k4 : (z == z) = true := by simp
      go_wp2_with fail
      refine (texts_calls A1 A2 c6 c7 zs hor hc6 hc7 w7 HC6.out HC7.out).mono ?_
      rintro e w8 ⟨rfl, hb⟩
      have HB8 := Aside0.mk (below_step HB5.out (below_step HW.out hb))
      clear HW hb HC6 HC7
      go_wp2_with fail
      refine (three_calls w8).mono ?_
      rintro e w9 ⟨rfl, hb⟩
      have HB9 := Aside0.mk (below_step HB8.out hb)
      clear hb HB8
      go_wp2_with fail
      go_ret
      exact ⟨rfl, HB9.out⟩
theorem turned_calls (l : List ByteArray) (A : Option Addr) (n k : Nat) (parts turn : Int) (w : World) (hp : Ss k w A n l) :
    Calls Try.prog 5 #[.slice A n k, .int .i64 parts, .int .i64 turn] w fun e w' => e = .returned (.bool true) ∧ Below w.heap.size w w' := by
  cases hbig : largeB l with
  | true => exact turned_out l A n k parts turn w hp (.inl hbig)
  | false =>
    by_cases h : l.length = 0 ∨ turn < 0
    · exact turned_out l A n k parts turn w hp (.inr ⟨hbig, h⟩)
    · exact turned_in l A n k parts turn w hp hbig (fun h0 => h (.inl h0)) (by omega)
end Go.Proofs.Ytohhlkabejangaa.As

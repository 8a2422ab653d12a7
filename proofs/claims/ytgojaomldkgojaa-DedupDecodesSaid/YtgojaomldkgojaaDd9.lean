import Derived.Test.YtgojaomldkgojaaDd8
import Derived.Test.YtgojaomldkgojaaDd7
namespace Go.Proofs.Ytgojaomldkgojaa.Dd
set_option linter.unusedVariables false
set_option linter.unusedSimpArgs false
open Go.RowKit Go.Maps Go.Proofs.YtgojaomldkgojaaW.PrintWords Go.Proofs.YtgojaomldkgojaaW.PrintLast Go.Proofs.YtgojaomldkgojaaW.PrintMore Go.Proofs.Ytgojaomldkgojaa.PDd Go.Proofs.Ytgojaomldkgojaa.Wire Go.Proofs.Ytgojaomldkgojaa.Hand
def rdr (s : ByteArray) (a : Int) (bad : Bool) : Obj := .cells #[.string s, .int .i64 a, .bool bad] 111 (0, 0)
theorem number_calls (s : ByteArray) (hs : s.size ≤ 10000) (g15 : Nat) (a : Int) (bad : Bool) (h0 : 0 ≤ a) (h1 : a ≤ s.size) (w0 w : World) (hI : w.heap[g15]? = some (rdr s a bad)) (hg : w0.heap.size ≤ g15) (hB : Below w0.heap.size w0 w) :
    Calls Try.prog 62 #[.pointer (some ⟨g15, 0, none⟩)] w fun e w' => e = .returned (.int .i64 (nmP s a bad).1) ∧ w'.heap[g15]? = some (rdr s (nmP s a bad).2.1 (nmP s a bad).2.2) ∧ Below w0.heap.size w0 w' ∧ w.heap.size ≤ w'.heap.size ∧ (∀ i, i < w.heap.size → i ≠ g15 → w'.heap[i]? = w.heap[i]?) := by
  refine (dedup_reader_number.calls 30 g15 s a bad _ _ _ _ w0 w ⟨hI, hg⟩ hB (number_f s a bad h0 h1 hs)).mono ?_
  rintro e w' ⟨rfl, hI2, hB2, hk⟩
  exact ⟨rfl, hI2.1, hB2, hk.1, fun i hi hn => hk.2 i hi hn (by simp)⟩
/-- how Decode ends, by what the bytes tell -/
def DecEnd (w : World) (r : Option (List La × Int)) (e : Ending) (w' : World) : Prop :=
  (match r with
  | none => e = .returned (.tuple #[.pointer none, .int .i64 0, .int .i64 4])
  | some (l, a) => ∃ g b, e = .returned (.tuple #[.pointer (some ⟨g, 0, none⟩), .int .i64 a, .int .i64 0]) ∧ Tab w' g b l ∧ w.heap.size ≤ g ∧ w.heap.size ≤ b) ∧ Below w.heap.size w w'
set_option maxHeartbeats 32000000 in
set_option maxRecDepth 100000 in
theorem dec_calls (s : ByteArray) (hs : s.size ≤ 10000) (w : World) : Calls Try.prog 42 #[.string s] w fun e w' => DecEnd w (dec s) e w' := by
  have hund : ∀ b, some undef = some (Value.bool b) → False := fun b h => by simp [undef] at h
  go_enter Try.func42, Try.ntmps42
  go_wp2_with (first
    | ((with_reducible refine gate_dst (N := 15) rfl ?_); refine box_event rfl (N := 15) rfl (cs := #[.string s, .int .i64 0, .bool false]) (t := 111) ?hr ?_; (case hr => first | (go_simp; done) | (go_simp; rfl)); intro g15 hg15 w1 hbx hbl; have HB := Aside0.mk hbl; have G15 := Aside0.mk (show w.heap.size ≤ g15 by rw [hg15]; exact Nat.le_refl _); have Y := Aside0.mk (show w1.heap[g15]? = some (rdr s 0 false) from hbx); clear hbl hbx hg15))
  refine (new_calls w1).mono ?_
  rintro e w2 ⟨g, b, rfl, hT, hg, hbs, hb⟩
  have DG : Aside0 (g15 ≠ g) := ⟨Nat.ne_of_lt (Nat.lt_of_lt_of_le (Array.getElem?_eq_some_iff.1 Y.out).1 hg)⟩
  have DB : Aside0 (g15 ≠ b) := ⟨Nat.ne_of_lt (Nat.lt_of_lt_of_le (Array.getElem?_eq_some_iff.1 Y.out).1 hbs)⟩
  have GG := Aside0.mk (Nat.le_trans HB.out.size hg)
  have GB := Aside0.mk (Nat.le_trans HB.out.size hbs)
  have HT := Aside0.mk hT
  have n_Y := Aside0.mk ((hb.block g15 (Array.getElem?_eq_some_iff.1 Y.out).1).trans Y.out)
  have n_HB := Aside0.mk (below_step HB.out hb)
  clear Y HB hb hT hg hbs
  have Y := n_Y
  have HB := n_HB
  clear n_Y n_HB
  go_wp2_with fail
  have hnm := Aside0.mk (number_calls s hs g15 0 false (by omega) (by omega) w w2 Y.out G15.out HB.out)
  have hrg := nmP_range (s := s) (a := 0) (by omega) (by omega) false
  cases hn : nm s 0 with
  | none =>
    have e0 : nmP s 0 false = (0, 0, true) := by unfold nmP; rw [hn]
    have ed : dec s = none := by unfold dec; rw [hn]
    have HE := Aside0.mk ed
    simp only [e0] at hnm
    clear ed e0 hrg hn
    refine hnm.out.mono ?_
    clear hnm
    rintro e w3 ⟨rfl, hY, hB3, _, _⟩
    have HB3 := Aside0.mk hB3
    have Y3 := Aside0.mk hY
    have y2 : w3.cell? ⟨g15, 2, none⟩ = some (.bool true) := (blk_cell Y3.out 2).trans rfl
    clear HB Y HT hY hB3
    go_wp2_with fail
    go_loopw [22] (fun iv wr => iv = .int .i64 0 ∧ Aside0 (wr.cell? ⟨g15, 2, none⟩ = some (.bool true)) ∧ Aside0 (Below w.heap.size w wr)) (fun _ _ => 0)
    case atStart => exact ⟨rfl, ⟨y2⟩, HB3⟩
    case round =>
      obtain ⟨rfl, y2, HB⟩ := hrel
      have y3 := y2.out
      go_wp2_with fail
      exact bodyPost_ret (v := .tuple #[.pointer none, .int .i64 0, .int .i64 4]) (by simp [results, Try.results42, go_sem]) rfl ⟨by rw [HE.out], HB.out⟩
  | some x =>
    obtain ⟨n, a0⟩ := x
    have hr0 := nm_range (by omega) (by omega) hn
    have e0 : nmP s 0 false = (n, a0, false) := by unfold nmP; rw [hn]
    have ed : dec s = (if 16 < n then none else decR s n.toNat a0 []) := by unfold dec; rw [hn]
    simp only [e0] at hnm
    clear e0 hrg hn
    refine hnm.out.mono ?_
    clear hnm
    rintro e w3 ⟨rfl, hY, hB3, hsz3, hk3⟩
    have n_T := Aside0.mk (HT.out.blocks (hk3 g HT.out.lt (fun e => DG.out e.symm)) (hk3 b HT.out.blt (fun e => DB.out e.symm)))
    clear HT Y HB hk3 hsz3
    have HT := n_T
    have HB := Aside0.mk hB3
    have Y := Aside0.mk hY
    clear n_T hY hB3
    by_cases h16 : 16 < n
    · rw [if_pos h16] at ed
      have HE := Aside0.mk ed
      have hd : decide (16 < n) = true := decide_eq_true h16
      clear ed
      go_wp2_with fail
      exact bodyPost_ret (v := .tuple #[.pointer none, .int .i64 0, .int .i64 4]) (by simp [results, Try.results42, go_sem]) rfl ⟨by rw [HE.out], HB.out⟩
    rw [if_neg h16] at ed
    have hd : decide (16 < n) = false := decide_eq_false h16
    obtain ⟨nn, rfl⟩ := Int.eq_ofNat_of_zero_le hr0.1
    rw [Int.toNat_natCast] at ed
    have hn16 : nn ≤ 16 := by omega
    obtain ⟨D, hD⟩ : ∃ D, dec s = D := ⟨_, rfl⟩
    rw [hD] at ed
    have HD := Aside0.mk hD
    have HE := Aside0.mk ed
    clear hD ed h16
    go_wp2_with fail
    go_loopw [8, 22] (fun bv iv wr => ∃ (i : Nat) (a : Int) (l : List La), iv = .int .i64 i ∧ bv = .int .i64 (lastP l) ∧ i ≤ nn ∧ l.length = i ∧ 0 ≤ a ∧ a ≤ s.size ∧ Aside0 (D = decR s (nn - i) a l) ∧ Aside0 (Tab wr g b l) ∧ Aside0 (wr.heap[g15]? = some (rdr s a false)) ∧ Aside0 (Below w.heap.size w wr)) (fun _ iv _ => nn - (intOf iv).toNat)
    case atStart => exact ⟨0, a0, [], rfl, rfl, Nat.zero_le _, rfl, by omega, hr0.2.2.2, ⟨by rw [Nat.sub_zero]; exact HE.out⟩, HT, Y, HB⟩
    case round =>
      clear HT Y HB HE
      obtain ⟨i, a, l, rfl, rfl, hil, hll, ha0, ha1, HE, HT, Y, HB⟩ := hrel
      by_cases hlt : i < nn
      · obtain ⟨c, hc⟩ : ∃ c, nn - i = c + 1 := ⟨nn - i - 1, by omega⟩
        have HE2 : Aside0 (D = match four s a with | none => none | some (q, a2) => if lastP l < (toLa q).f0 ∧ noteE l (toLa q) = 0 then decR s c a2 (l ++ [toLa q]) else none) := ⟨by rw [HE.out, hc]; rfl⟩
        obtain ⟨X1, hX1⟩ : ∃ X, nmP s a false = X := ⟨_, rfl⟩
        have r1 := nmP_range (s := s) (a := a) ha0 ha1 false
        rw [hX1] at r1
        obtain ⟨X2, hX2⟩ : ∃ X, nmP s X1.2.1 X1.2.2 = X := ⟨_, rfl⟩
        have r2 := nmP_range (s := s) (a := X1.2.1) r1.1 r1.2.1 X1.2.2
        rw [hX2] at r2
        obtain ⟨X3, hX3⟩ : ∃ X, nmP s X2.2.1 X2.2.2 = X := ⟨_, rfl⟩
        have r3 := nmP_range (s := s) (a := X2.2.1) r2.1 r2.2.1 X2.2.2
        rw [hX3] at r3
        obtain ⟨X4, hX4⟩ : ∃ X, nmP s X3.2.1 X3.2.2 = X := ⟨_, rfl⟩
        have r4 := nmP_range (s := s) (a := X3.2.1) r3.1 r3.2.1 X3.2.2
        rw [hX4] at r4
        have hF := four_P s a X1 X2 X3 X4 hX1 hX2 hX3 hX4
        obtain ⟨v1, a1, f1⟩ := X1
        obtain ⟨v2, a2, f2⟩ := X2
        obtain ⟨v3, a3, f3⟩ := X3
        obtain ⟨v4, a4, f4⟩ := X4
        simp only at hX1 hX2 hX3 hX4 r1 r2 r3 r4 hF
        have hq1 := Aside0.mk (fun (W : World) (hI : W.heap[g15]? = some (rdr s a false)) (hB : Below w.heap.size w W) => number_calls s hs g15 a false ha0 ha1 w W hI G15.out hB)
        simp only [hX1] at hq1
        have hq2 := Aside0.mk (fun (W : World) (hI : W.heap[g15]? = some (rdr s a1 f1)) (hB : Below w.heap.size w W) => number_calls s hs g15 a1 f1 r1.1 r1.2.1 w W hI G15.out hB)
        simp only [hX2] at hq2
        have hq3 := Aside0.mk (fun (W : World) (hI : W.heap[g15]? = some (rdr s a2 f2)) (hB : Below w.heap.size w W) => number_calls s hs g15 a2 f2 r2.1 r2.2.1 w W hI G15.out hB)
        simp only [hX3] at hq3
        have hq4 := Aside0.mk (fun (W : World) (hI : W.heap[g15]? = some (rdr s a3 f3)) (hB : Below w.heap.size w W) => number_calls s hs g15 a3 f3 r3.1 r3.2.1 w W hI G15.out hB)
        simp only [hX4] at hq4
        clear hX1 hX2 hX3 hX4
        go_wp2_with fail
        refine (hq1.out _ Y.out HB.out).mono ?_
        rintro e w4 ⟨rfl, hY, hB3, hsz3, hk3⟩
        have n_T := Aside0.mk (HT.out.blocks (hk3 g HT.out.lt (fun e => DG.out e.symm)) (hk3 b HT.out.blt (fun e => DB.out e.symm)))
        clear HT Y HB hk3 hsz3 hq1
        have HT := n_T
        have HB := Aside0.mk hB3
        have Y := Aside0.mk hY
        clear n_T hY hB3
        go_wp2_with fail
        refine (hq2.out _ Y.out HB.out).mono ?_
        rintro e w5 ⟨rfl, hY, hB3, hsz3, hk3⟩
        have n_T := Aside0.mk (HT.out.blocks (hk3 g HT.out.lt (fun e => DG.out e.symm)) (hk3 b HT.out.blt (fun e => DB.out e.symm)))
        clear HT Y HB hk3 hsz3 hq2
        have HT := n_T
        have HB := Aside0.mk hB3
        have Y := Aside0.mk hY
        clear n_T hY hB3
        go_wp2_with fail
        refine (hq3.out _ Y.out HB.out).mono ?_
        rintro e w6 ⟨rfl, hY, hB3, hsz3, hk3⟩
        have n_T := Aside0.mk (HT.out.blocks (hk3 g HT.out.lt (fun e => DG.out e.symm)) (hk3 b HT.out.blt (fun e => DB.out e.symm)))
        clear HT Y HB hk3 hsz3 hq3
        have HT := n_T
        have HB := Aside0.mk hB3
        have Y := Aside0.mk hY
        clear n_T hY hB3
        go_wp2_with fail
        refine (hq4.out _ Y.out HB.out).mono ?_
        rintro e w7 ⟨rfl, hY, hB3, hsz3, hk3⟩
        have n_T := Aside0.mk (HT.out.blocks (hk3 g HT.out.lt (fun e => DG.out e.symm)) (hk3 b HT.out.blt (fun e => DB.out e.symm)))
        clear HT Y HB hk3 hsz3 hq4
        have HT := n_T
        have HB := Aside0.mk hB3
        have Y := Aside0.mk hY
        clear n_T hY hB3
        have y2 : w7.cell? ⟨g15, 2, none⟩ = some (.bool f4) := (blk_cell Y.out 2).trans rfl
        rcases hF with ⟨hf, hF⟩ | ⟨hf, hF⟩
        · subst hf
          have HE3 := Aside0.mk (show dec s = none by rw [HD.out, HE2.out, hF])
          go_wp2_with fail
          exact bodyPost_ret (v := .tuple #[.pointer none, .int .i64 0, .int .i64 4]) (by simp [results, Try.results42, go_sem]) rfl ⟨by rw [HE3.out], HB.out⟩
        subst hf
        have HE3 : Aside0 (D = if lastP l < v1 ∧ noteE l ⟨v1, v2, v3, v4⟩ = 0 then decR s c a4 (l ++ [⟨v1, v2, v3, v4⟩]) else none) := ⟨by rw [HE2.out, hF]; rfl⟩
        clear hF HE2
        by_cases hp : v1 ≤ lastP l
        · have hd1 : decide (v1 ≤ lastP l) = true := decide_eq_true hp
          have HE4 := Aside0.mk (show dec s = none by rw [HD.out, HE3.out, if_neg (fun h => by omega)])
          generalize lastP l = LP at *
          clear hp
          go_wp2_with fail
          exact bodyPost_ret (v := .tuple #[.pointer none, .int .i64 0, .int .i64 4]) (by simp [results, Try.results42, go_sem]) rfl ⟨by rw [HE4.out], HB.out⟩
        have hd1 : decide (v1 ≤ lastP l) = false := decide_eq_false hp
        have hgt := last_gt l HT.out.ris v1 (by omega)
        have hnt := Aside0.mk (note_calls g b l v1 v2 v3 v4 w7 HT.out (by omega))
        have hR : Aside0 (noteE l ⟨v1, v2, v3, v4⟩ = 0 → noteR l ⟨v1, v2, v3, v4⟩ = l ++ [⟨v1, v2, v3, v4⟩]) := ⟨fun h => by unfold noteR; rw [if_pos h]; exact note_end l _ hgt⟩
        have hLP : lastP l < v1 := by omega
        generalize lastP l = LP at *
        obtain ⟨E, hE⟩ : ∃ E, noteE l ⟨v1, v2, v3, v4⟩ = E := ⟨_, rfl⟩
        obtain ⟨l2, hl2⟩ : ∃ l2, noteR l ⟨v1, v2, v3, v4⟩ = l2 := ⟨_, rfl⟩
        simp only [hE, hl2] at hnt hR HE3
        clear hE hl2 hgt hp
        go_wp2_with fail
        refine hnt.out.mono ?_
        clear hnt
        rintro e w8 ⟨rfl, hT8, hgr⟩
        have n_Y := Aside0.mk ((hgr.block g15 (Array.getElem?_eq_some_iff.1 Y.out).1 (fun e => DB.out (Option.some.inj e))).trans Y.out)
        have n_B := Aside0.mk (below_put HB.out GB.out hgr HB.out.size)
        clear HT Y HB hgr y2
        have HT := Aside0.mk hT8
        have Y := n_Y
        have HB := n_B
        clear n_Y n_B hT8
        by_cases hE0 : E = 0
        · subst hE0
          have hl3 := hR.out (by first | rfl | trivial)
          have HE4 := Aside0.mk (HE3.out.trans (if_pos ⟨hLP, rfl⟩))
          subst hl3
          go_wp2_with fail
          go_roundw
          case rel => exact ⟨i + 1, a4, l ++ [⟨v1, v2, v3, v4⟩], by go_num, by rw [last_snoc], by omega, by rw [List.length_append]; simp; omega, by omega, by omega, ⟨by rw [show nn - (i + 1) = c by omega]; exact HE4.out⟩, HT, Y, HB⟩
          case measure => simp [intOf]; omega
        · have hEn : (E == 0) = false := beq_eq_false_iff_ne.2 hE0
          have HE4 := Aside0.mk (show dec s = none by rw [HD.out, HE3.out, if_neg (fun h => hE0 h.2)])
          go_wp2_with fail
          exact bodyPost_ret (v := .tuple #[.pointer none, .int .i64 0, .int .i64 4]) (by simp [results, Try.results42, go_sem]) rfl ⟨by rw [HE4.out], HB.out⟩
      · obtain rfl : i = nn := by omega
        have HE4 : Aside0 (dec s = some (l, a)) := ⟨by rw [HD.out, HE.out, Nat.sub_self]; rfl⟩
        have y2 : wr.cell? ⟨g15, 2, none⟩ = some (.bool false) := (blk_cell Y.out 2).trans rfl
        have y1 : wr.cell? ⟨g15, 1, none⟩ = some (.int .i64 a) := (blk_cell Y.out 1).trans rfl
        go_wp2_with fail
        go_quiet (fail)
        go_wp2_with fail
        exact bodyPost_ret (v := .tuple #[.pointer (some ⟨g, 0, none⟩), .int .i64 a, .int .i64 0]) (by simp [results, Try.results42, go_sem]) rfl ⟨by rw [HE4.out]; exact ⟨g, b, rfl, HT.out.later (pw_below_drewN (Below.refl _ _) _), GG.out, GB.out⟩, pw_below_drewN HB.out _⟩
end Go.Proofs.Ytgojaomldkgojaa.Dd

import Derived.Test.YtbpdgpaoibcilaaHandLayout3
namespace Go.Proofs.Ytbpdgpaoibcilaa.HandLayout
open Go.RowKit Go.Proofs.YtbpdgpaoibcilaaW.PrintWords Go.Proofs.YtbpdgpaoibcilaaW.PrintLast Go.Proofs.YtbpdgpaoibcilaaW.PrintMore Go.Proofs.Ytbpdgpaoibcilaa.PLayout
set_option linter.unusedVariables false

theorem may_calls (A : Option Addr) (c : Nat) (segs : List Int) (b : Bool) (w : World) (hr : Kd.C (Kd.int .i64) w A segs.length segs) (hc : segs.length ≤ c) (hb : goodB segs = b) :
    Calls Try.prog 15 #[.slice A segs.length c] w fun e w' => e = .returned (.bool b) ∧ Drawn0 w w' :=
  weighlockref06_May.calls (segs.length + 1) A c segs b w hr hc (by rw [← hb]; exact may_eq segs (Kd.C_max hr))
theorem owners_calls (A : Option Addr) (c : Nat) (segs : List Int) (w : World) (hr : Kd.C (Kd.int .i64) w A segs.length segs) (hc : segs.length ≤ c) (hg : Good segs) :
    Calls Try.prog 18 #[.slice A segs.length c] w fun e w' => ∃ (A' : Option Addr) (c' : Nat), e = .returned (.slice A' (ownL segs segs.length).length c') ∧ Kd.C (Kd.int .i64) w' A' (ownL segs segs.length).length (ownL segs segs.length) ∧ Below w.heap.size w w' := by
  refine (weighlockref06_Owners.calls 7000 A c segs _ w hr hc (owners_eq segs hg 7000 (Nat.le_refl _))).mono ?_
  rintro e w' ⟨v, rfl, hR, hb⟩
  obtain ⟨A', c', rfl, hle, hC⟩ := Kd.R_reads hR
  exact ⟨A', c', rfl, hC, hb⟩
open Classical in
theorem good_true {l : List Int} (h : Good l) : goodB l = true := decide_eq_true h
open Classical in
theorem good_false {l : List Int} (h : ¬ Good l) : goodB l = false := decide_eq_false h
set_option maxHeartbeats 2000000 in
theorem news_core (A : Option Addr) (c : Nat) (l : List Int) (w : World) (hr : Kd.C (Kd.int .i64) w A l.length l) (hc : l.length ≤ c) (hm : l.length ≤ 17592186044416) :
    Calls Try.prog 3 #[.slice A l.length c] w fun e w' => e = .returned (.bool true) ∧ Below w.heap.size w w' := by
  have HR := Aside0.mk hr
  have HC := Aside0.mk hc
  clear hr hc
  by_cases h40 : 40 < l.length
  · go_enter Try.func3, Try.ntmps3
    go_wp2_with fail
    refine (pair_true _).mono ?_
    rintro e w' ⟨rfl, hb⟩
    go_wp2_with fail
    go_ret
    exact ⟨rfl, hb⟩
  by_cases hg : Good l
  · have G := Aside0.mk hg
    have hgb : Aside0 (goodB l = true) := ⟨good_true hg⟩
    have heq : (bg l l.length == ((ownL l l.length).length : Int)) = true := by rw [ownL_length l l.length hg.2.2]; simp
    have h6 := hg.2.1
    clear hg
    go_enter Try.func3, Try.ntmps3
    go_wp2_with fail
    refine (new_good _ _ l _ HR.out HC.out G.out).mono ?_
    rintro e w1 ⟨rfl, hL, hb⟩
    have HL := Aside0.mk hL
    have HB := Aside0.mk hb
    have HR1 := Aside0.mk (Kd.C_below HR.out hb)
    clear hL hb
    go_wp2_with fail
    refine (may_calls _ _ l true _ HR1.out HC.out hgb.out).mono ?_
    rintro e w2 ⟨rfl, ⟨⟨n2, rfl⟩⟩⟩
    go_wp2_with fail
    refine (lab _ l _ (HL.out.drawN _)).mono ?_
    rintro e w3 ⟨rfl, ⟨⟨n3, rfl⟩⟩⟩
    go_wp2_with fail
    refine (sec _ l _ (HL.out.drawN _) h6).mono ?_
    rintro e w4 ⟨rfl, ⟨⟨n4, rfl⟩⟩⟩
    go_wp2_with fail
    refine (owners_calls _ _ l _ (Kd.C_drewN HR1.out _) HC.out G.out).mono ?_
    rintro e w5 ⟨A5, c5, rfl, hC5, hb⟩
    have HB5 := Aside0.mk (below_step (pw_below_drewN HB.out _) hb)
    clear hb hC5
    go_wp2_with fail
    refine (pair_true _).mono ?_
    rintro e w6 ⟨rfl, hb⟩
    have HB6 := Aside0.mk (below_step HB5.out hb)
    clear hb
    go_wp2_with fail
    go_ret
    exact ⟨rfl, HB6.out⟩
  · have hgb : Aside0 (goodB l = false) := ⟨good_false hg⟩
    have G := Aside0.mk hg
    clear hg
    go_enter Try.func3, Try.ntmps3
    go_wp2_with fail
    refine (new_bad _ _ l _ HR.out HC.out (by omega) G.out).mono ?_
    rintro e w1 ⟨rfl, hb⟩
    have HB := Aside0.mk hb
    have HR1 := Aside0.mk (Kd.C_below HR.out hb)
    clear hb
    go_wp2_with fail
    refine (may_calls _ _ l false _ HR1.out HC.out hgb.out).mono ?_
    rintro e w2 ⟨rfl, ⟨⟨n2, rfl⟩⟩⟩
    go_wp2_with fail
    refine (pair_true _).mono ?_
    rintro e w6 ⟨rfl, hb⟩
    have HB6 := Aside0.mk (below_step (pw_below_drewN HB.out _) hb)
    clear hb
    go_wp2_with fail
    go_ret
    exact ⟨rfl, HB6.out⟩
set_option maxHeartbeats 2000000 in
theorem nil_core (n : Int) (w : World) : Calls Try.prog 8 #[.int .i64 n] w fun e w' => e = .returned (.bool true) ∧ Below w.heap.size w w' := by
  go_enter Try.func8, Try.ntmps8
  go_wp2_with fail
  refine (ext_nil n _).mono ?_
  rintro e w1 ⟨rfl, hb⟩
  have HB := Aside0.mk hb
  clear hb
  go_wp2_with fail
  refine (own_nil n _).mono ?_
  rintro e w2 ⟨rfl, ⟨⟨n2, rfl⟩⟩⟩
  go_wp2_with fail
  refine (lab_nil _).mono ?_
  rintro e w3 ⟨rfl, ⟨⟨n3, rfl⟩⟩⟩
  go_wp2_with fail
  refine (sec_nil _).mono ?_
  rintro e w4 ⟨rfl, ⟨⟨n4, rfl⟩⟩⟩
  go_wp2_with fail
  refine (pair_true _).mono ?_
  rintro e w6 ⟨rfl, hb⟩
  have HB6 := Aside0.mk (below_step (pw_below_drewN (below_alloc HB.out _) _) hb)
  clear hb
  go_wp2_with fail
  go_ret
  exact ⟨rfl, HB6.out⟩
def OwnSpec (l : List Int) (sc r f : Int) : Prop := ((sc < 0 ∨ bg l l.length ≤ sc) ∧ r = 0 ∧ f = 20) ∨ (∃ j s : Nat, sc = s ∧ j < l.length ∧ bg l j ≤ s ∧ (s : Int) < bg l (j + 1) ∧ r = j ∧ f = 0)
theorem label_of (l : List Int) (s : Int) (h0 : 0 ≤ s) (n : Nat) (h1 : s < bg l n) : ∃ j : Nat, j < n ∧ bg l j ≤ s ∧ s < bg l (j + 1) := by
  induction n with
  | zero => simp [bg] at h1; omega
  | succ n ih =>
    by_cases h : s < bg l n
    · obtain ⟨j, a, b⟩ := ih h
      exact ⟨j, by omega, b⟩
    · exact ⟨n, by omega, by omega, h1⟩
theorem own_any (g : Nat) (l : List Int) (sc : Int) (w : World) (h : IsLay w g l) (hg : Good l) : Calls Try.prog 24 #[.pointer (some ⟨g, 0, none⟩), .int .i64 sc] w fun e w' => ∃ r f, e = .returned (.tuple #[.int .i64 r, .int .i64 f]) ∧ OwnSpec l sc r f ∧ Drawn0 w w' := by
  by_cases hs : sc < 0 ∨ bg l l.length ≤ sc
  · exact (own_bad g l sc w h hg.2.1 hs).mono fun e w' ⟨he, hd⟩ => ⟨_, _, he, .inl ⟨hs, rfl, rfl⟩, hd⟩
  · obtain ⟨s, rfl⟩ := Int.eq_ofNat_of_zero_le (show 0 ≤ sc by omega)
    obtain ⟨j, hj, h0, h1⟩ := label_of l s (by omega) l.length (by omega)
    exact (own_good g l j s w h hg hj h0 h1).mono fun e w' ⟨he, hd⟩ => ⟨_, _, he, .inr ⟨j, s, rfl, hj, h0, h1, rfl, rfl⟩, hd⟩
end Go.Proofs.Ytbpdgpaoibcilaa.HandLayout

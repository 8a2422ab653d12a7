import Derived.Test.YteopponjfkeagaaLat1
import Derived.Deep.CutRange
namespace Go.Proofs.Yteopponjfkeagaa.Lat
open Go.RowKit Go.Proofs.YteopponjfkeagaaW.PrintWords Go.Proofs.YteopponjfkeagaaW.PrintLast Go.Proofs.YteopponjfkeagaaW.PrintMore
set_option linter.unusedVariables false
set_option linter.unusedSimpArgs false

def okC (F : Nat → Bool) (a b c : Nat) : Prop := ¬ (F (a * 6 + b) = true ∧ F (b * 6 + c) = true ∧ F (a * 6 + c) = false)
instance (F : Nat → Bool) (a b c : Nat) : Decidable (okC F a b c) := by unfold okC; infer_instance
def okB (n : Nat) (F : Nat → Bool) (a b : Nat) : Prop := ¬ (a ≠ b ∧ F (a * 6 + b) = true ∧ F (b * 6 + a) = true) ∧ ∀ c, c < n → okC F a b c
def okA (n : Nat) (F : Nat → Bool) (a : Nat) : Prop := F (a * 6 + a) = true ∧ ∀ b, b < n → okB n F a b
/-- is the table an order -/
def orderP (n : Nat) (F : Nat → Bool) : Prop := ∀ a, a < n → okA n F a
/-- the call returns a bool that says whether p holds -/
def IsB (e : Ending) (p : Prop) : Prop := ∃ r : Bool, e = .returned (.bool r) ∧ (r = true ↔ p)
theorem IsB.yes {p : Prop} (h : p) : IsB (.returned (.bool true)) p := ⟨true, rfl, fun _ => h, fun _ => rfl⟩
theorem IsB.no {p : Prop} (h : ¬ p) : IsB (.returned (.bool false)) p := ⟨false, rfl, fun e => absurd e (by decide), fun e => absurd e h⟩
theorem step_all {p : Nat → Prop} {k : Nat} (h : ∀ i, i < k → p i) (hk : p k) : ∀ i, i < k + 1 → p i := fun i hi => by
  rcases Nat.lt_or_ge i k with h1 | h1
  · exact h i h1
  · obtain rfl : i = k := by omega
    exact hk
set_option maxHeartbeats 2000000 in
set_option maxRecDepth 4000 in
theorem order_calls {g n : Nat} {F : Nat → Bool} {jm mm : Nat} {bot top : Int} {w : World} (hg : w.heap[g]? = some (.cells (latC n F jm mm bot top) 79 (0, 0))) (hn : n ≤ 6) :
    Calls Try.prog 60 #[P g] w fun e w' => IsB e (orderP n F) ∧ w' = w := by
  have c0 : w.cell? ⟨g, 0, none⟩ = some (.int .i64 n) := (blk_cell hg 0).trans rfl
  have hc : Aside0 (∀ a b, a < n → b < n → w.cell? ⟨g, 1 + a * 6 + b, none⟩ = some (.bool (F (a * 6 + b)))) := ⟨fun a b h1 h2 => by
    rw [Nat.add_assoc]
    exact (blk_cell hg (1 + (a * 6 + b))).trans (latC_flow n F jm mm bot top (a * 6 + b) (by omega))⟩
  clear hg
  go_enter Try.func60, Try.ntmps60
  go_wp2_with fail
  go_loopw [10] (fun x wr => ∃ a : Nat, x = .int .i64 (a : Int) ∧ a ≤ n ∧ Aside0 (∀ i, i < a → okA n F i) ∧ wr = w) (fun x _ => n - (intOf x).toNat)
  case atStart => exact ⟨0, rfl, Nat.zero_le _, ⟨fun i h => absurd h (by omega)⟩, rfl⟩
  case round =>
    obtain ⟨a, rfl, hle, HA, rfl⟩ := hrel
    by_cases ha : (a : Int) < n
    · have e1 := hc.out a a (by omega) (by omega)
      cases hf : F (a * 6 + a)
      · rw [hf] at e1
        go_wp2_with fail
        go_ret
        exact ⟨IsB.no fun h => absurd (h a (by omega)).1 (by rw [hf]; decide), rfl⟩
      · rw [hf] at e1
        go_wp2_with fail
        go_loopw [26] (fun x wr' => ∃ b : Nat, x = .int .i64 (b : Int) ∧ b ≤ n ∧ Aside0 (∀ i, i < b → okB n F a i) ∧ wr' = wr) (fun x _ => n - (intOf x).toNat)
        case atStart => exact ⟨0, rfl, Nat.zero_le _, ⟨fun i h => absurd h (by omega)⟩, rfl⟩
        case round =>
          obtain ⟨b, rfl, hleb, HB, rfl⟩ := hrel
          by_cases hb : (b : Int) < n
          · have e2 := hc.out a b (by omega) (by omega)
            have e3 := hc.out b a (by omega) (by omega)
            go_upto_region 9 with fail
            go_cut [26, 51] from 26 to 89 (fun i r wx => i = .int .i64 (b : Int) ∧ r = .bool (decide (a ≠ b ∧ F (a * 6 + b) = true ∧ F (b * 6 + a) = true)) ∧ wx = wr)
            case first =>
              by_cases hab : a = b
              · subst hab
                go_wp2_with fail
                go_meet
                case rel => exact ⟨rfl, by simp, rfl⟩
              · have hne : ((a : Int) != (b : Int)) = true := by rw [bne_iff_ne]; omega
                cases h1 : F (a * 6 + b)
                · rw [h1] at e2
                  go_wp2_with fail
                  go_meet
                  case rel => exact ⟨rfl, by rw [decide_eq_false (by intro h; rw [h1] at h; exact absurd h.2.1 (by decide))], rfl⟩
                · rw [h1] at e2
                  go_wp2_with fail
                  go_meet
                  case rel => exact ⟨rfl, by congr 1; rw [Bool.eq_iff_iff, decide_eq_true_iff]; exact ⟨fun h => ⟨hab, h1, h⟩, fun h => h.2.2⟩, rfl⟩
            case rest =>
              obtain ⟨rfl, rfl, rfl⟩ := hcut
              by_cases hbad : a ≠ b ∧ F (a * 6 + b) = true ∧ F (b * 6 + a) = true
              · have hd : decide (a ≠ b ∧ F (a * 6 + b) = true ∧ F (b * 6 + a) = true) = true := decide_eq_true hbad
                rw [hd]
                go_wp2_with fail
                go_ret
                exact ⟨IsB.no fun h => ((h a (by omega)).2 b (by omega)).1 hbad, rfl⟩
              · have hd : decide (a ≠ b ∧ F (a * 6 + b) = true ∧ F (b * 6 + a) = true) = false := decide_eq_false hbad
                rw [hd]
                have HBAD := Aside0.mk hbad
                clear hbad
                go_wp2_with fail
                clear hd
                go_loopw [56] (fun x wr' => ∃ c : Nat, x = .int .i64 (c : Int) ∧ c ≤ n ∧ Aside0 (∀ i, i < c → okC F a b i) ∧ wr' = wc) (fun x _ => n - (intOf x).toNat)
                case atStart => exact ⟨0, rfl, Nat.zero_le _, ⟨fun i h => absurd h (by omega)⟩, rfl⟩
                case round =>
                  obtain ⟨c, rfl, hlec, HC, rfl⟩ := hrel
                  by_cases hcn : (c : Int) < n
                  · have e4 := hc.out b c (by omega) (by omega)
                    have e5 := hc.out a c (by omega) (by omega)
                    go_upto_region 14 with fail
                    go_cut [56, 87] from 56 to 88 (fun i r wx => i = .int .i64 (c : Int) ∧ r = .bool (decide (¬ okC F a b c)) ∧ wx = wr)
                    case first =>
                      cases h1 : F (a * 6 + b)
                      · rw [h1] at e2
                        go_wp2_with fail
                        go_meet
                        case rel => exact ⟨rfl, by rw [decide_eq_false]; unfold okC; rw [h1]; simp, rfl⟩
                      · rw [h1] at e2
                        cases h2 : F (b * 6 + c)
                        · rw [h2] at e4
                          go_wp2_with fail
                          go_meet
                          case rel => exact ⟨rfl, by rw [decide_eq_false]; unfold okC; rw [h2]; simp, rfl⟩
                        · rw [h2] at e4
                          go_wp2_with fail
                          go_meet
                          case rel => exact ⟨rfl, by congr 1; cases h3 : F (a * 6 + c); exact (decide_eq_true (by unfold okC; simp [h1, h2, h3])).symm; exact (decide_eq_false (by unfold okC; simp [h1, h2, h3])).symm, rfl⟩
                    case rest =>
                      obtain ⟨rfl, rfl, rfl⟩ := hcut
                      by_cases hbc : okC F a b c
                      · have hd2 : decide (¬ okC F a b c) = false := decide_eq_false (fun h => h hbc)
                        rw [hd2]
                        go_wp2_with fail
                        exact ⟨⟨c + 1, rfl, by omega, ⟨step_all HC.out hbc⟩, by first | rfl | trivial⟩, by simp [intOf]; omega⟩
                      · have hd2 : decide (¬ okC F a b c) = true := decide_eq_true hbc
                        rw [hd2]
                        go_wp2_with fail
                        go_ret
                        exact ⟨IsB.no fun h => hbc (((h a (by omega)).2 b (by omega)).2 c (by omega)), rfl⟩
                  · go_wp2_with fail
                    exact ⟨⟨b + 1, rfl, by omega, ⟨step_all HB.out ⟨HBAD.out, fun j hj => HC.out j (by omega)⟩⟩, by first | rfl | trivial⟩, by simp [intOf]; omega⟩
          · go_wp2_with fail
            exact ⟨⟨a + 1, rfl, by omega, ⟨step_all HA.out ⟨hf, fun j hj => HB.out j (by omega)⟩⟩, by first | rfl | trivial⟩, by simp [intOf]; omega⟩
    · go_wp2_with fail
      go_ret
      exact ⟨IsB.yes fun i hi => HA.out i (by omega), rfl⟩
end Go.Proofs.Yteopponjfkeagaa.Lat

import Derived.Test.YtohhlkabejangaaAs9
namespace Go.Proofs.Ytohhlkabejangaa.As
open Go.RowKit Go.Maps Go.Sort Go.ChangeShapes Go.Proofs.YtohhlkabejangaaW.PrintWords Go.Proofs.YtohhlkabejangaaW.PrintLast Go.Proofs.YtohhlkabejangaaW.PrintMore Go.Proofs.Ytohhlkabejangaa.PAs
set_option linter.unusedVariables false
set_option linter.unusedSimpArgs false
theorem ints_R {W : World} {B : Nat} {v : Value} {zs : List Int} (h : W.ownsInts B 3 .i64 v zs) : Kd.R (Kd.int .i64) 3 W B (fun _ => True) v zs :=
  Kd.R_of_own (enc := Value.int .i64) (h1 := fun _ => rfl) h.1 (fun _ _ => trivial)
theorem dz_row {v : Value} {zs xs : List Int} {w : World} {base e : Nat} (h : w.ownsInts base e .i64 v zs) (hd : dz xs = rowDatum .i64 v zs) : zs = xs := row_eq h hd.symm
/-- Of: a member's partitions, or why it has none -/
theorem off_calls (A : Option Addr) (c : Nat) (l : List ByteArray) (n : Int) (s : ByteArray) (hs : s.size ≤ 1000) (w : World) (hA : Kd.C Kd.string w A l.length l) (hl : l.length ≤ 1000) (hz : ∀ s ∈ l, s.size ≤ 1000) :
    Calls Try.prog 19 #[.slice A l.length c, .int .i64 n, .string s] w fun e w' => ∃ v, e = .returned (.tuple #[v, .int .i64 (errOf l n s.toList)]) ∧ Kd.R (Kd.int .i64) 3 w' w.heap.size (fun _ => True) v (if errOf l n s.toList = 0 then ofL l n.toNat s.toList else []) ∧ Below w.heap.size w w' := by
  by_cases h : errA l n = 0
  · obtain ⟨hw, h0, h4⟩ := errA_zero h
    obtain ⟨m, rfl⟩ : ∃ m : Nat, n = m := ⟨n.toNat, by omega⟩
    refine (of_calls A c l m s hs w hA hl hz hw (by omega)).mono ?_
    rintro e w' ⟨v, rfl, ⟨zs, hoi, h1, h2⟩, hb⟩
    have e1 : ofZ (datG (rowsG m (srt l) l.length)) s = errOf l m s.toList := by
      unfold ofZ errOf
      rw [datG_has, if_pos h]
    rw [e1]
    rw [datG_has] at h1 h2
    refine ⟨v, rfl, ?_, hb⟩
    unfold errOf
    rw [if_pos h]
    cases hin : isIn l s.toList with
    | true =>
      rw [if_pos rfl, if_pos rfl, Int.toNat_natCast]
      have := h1 hin
      rw [datG_at l hw m s.toList hin] at this
      rw [← dz_row hoi this]
      exact ints_R hoi
    | false =>
      obtain ⟨rfl, rfl⟩ := h2 hin
      rw [if_neg (by decide)]
      exact Kd.R_nil _ _ _ _ _
  · obtain ⟨h1, h2⟩ := errA_bad h
    refine (of_bad A c l n (errA l n) s w hA hl hz h1 h2).mono ?_
    rintro e w' ⟨rfl, hb⟩
    have e1 : errOf l n s.toList = errA l n := by
      unfold errOf
      rw [if_neg h]
    rw [e1, if_neg h]
    exact ⟨_, rfl, Kd.R_nil _ _ _ _ _, hb⟩
theorem some_row (w : World) (zs : List Int) (hl : zs.length ≤ 1000) (hz : ∀ z ∈ zs, -9223372036854775808 ≤ z ∧ z ≤ 9223372036854775807) : ∃ (W : World) (v : Value), rowDatum (H := Unit) .i64 v zs = dz zs ∧ W.ownsInts 0 3 .i64 v zs := by
  by_cases h : zs = []
  · subst h
    exact ⟨w, .slice none 0 0, rfl, World.ownsInts_nil _ _ _ _⟩
  · refine ⟨w.alloc (.cells (zs.map (Value.int .i64)).toArray 3), .slice (some ⟨w.heap.size, 0, none⟩) zs.length zs.length, ?_, ⟨⟨by simp, .inr ⟨w.heap.size, zs.length, _, rfl, Nat.zero_le _, blk_new w _, Nat.le_refl _, by unfold maxLen; omega, by simp, ?_⟩⟩, fun z hz' => WalkArith.wf_i64 (hz z hz')⟩⟩
    · unfold dz
      rw [if_neg h]
      rfl
    · rw [List.take_of_length_le (by simp)]
/-- Owner: who has a partition -/
def OwnP (l : List ByteArray) (n : Nat) (p : Int) (s : ByteArray) (z : Int) : Prop :=
  (z = 0 ∧ isIn l s.toList = true ∧ p ∈ ofL l n s.toList) ∨ (z = 6 ∧ s = ⟨#[]⟩ ∧ ∀ x, isIn l x = true → p ∉ ofL l n x)
theorem ownerf_calls (A : Option Addr) (c : Nat) (l : List ByteArray) (n : Nat) (p : Int) (w : World) (hA : Kd.C Kd.string w A l.length l) (hl : l.length ≤ 1000) (hz : ∀ s ∈ l, s.size ≤ 1000) (hw : wrongL l = 0) (hn : n ≤ 4) :
    Calls Try.prog 25 #[.slice A l.length c, .int .i64 (n : Int), .int .i64 p] w fun e w' => ∃ s z, e = .returned (.tuple #[.string s, .int .i64 z]) ∧ OwnP l n p s z ∧ Below w.heap.size w w' := by
  have key : ∀ x v zs W B, World.ownsInts W B 3 .i64 v zs → isIn l x = true → (datG (rowsG n (srt l) l.length)).atKey (.string x) .nil = rowDatum .i64 v zs → zs = ofL l n x := by
    intro x v zs W B h1 h2 h3
    rw [datG_at l hw n x h2] at h3
    exact dz_row h1 h3
  have atno : ∀ x, isIn l x = false → (datG (rowsG n (srt l) l.length)).atKey (.string x) .nil = .nil := by
    intro x hx
    refine atG_none _ x (fun y hy e => ?_)
    have := datG_has l n x
    rw [hx, hasG, List.any_eq_false] at this
    exact this y hy (decide_eq_true e)
  refine (owner_calls A c l n p w hA hl hz hw hn (fun x v zs W B h1 h2 => ?_)).mono ?_
  · cases hx : isIn l x with
    | true =>
      rw [key x v zs W B h1 hx h2]
      have := ofL_none l n x
      omega
    | false =>
      rw [atno x hx] at h2
      have : zs = [] := dz_row h1 (xs := []) (by rw [← h2]; rfl)
      rw [this]
      decide
  · rintro e w' ⟨s, z, rfl, hP, hb⟩
    refine ⟨s, z, rfl, ?_, hb⟩
    rcases hP with ⟨rfl, v, zs, W, B, h1, h2, h3, h4⟩ | ⟨rfl, rfl, h1⟩
    · rw [datG_has] at h2
      refine .inl ⟨rfl, h2, ?_⟩
      rw [← key _ v zs W B h1 h2 h3]
      exact h4
    · refine .inr ⟨rfl, rfl, fun x hx hp => ?_⟩
      have hat := datG_at l hw n x hx
      obtain ⟨W, v, hv1, hoi⟩ := some_row w (ofL l n x) (by have := ofL_none l n x; omega) (fun z hz => by have := ofL_range l n x z hz; omega)
      exact h1 x v _ (by rw [datG_has]; exact hx) rfl (by rw [hat, hv1]) ⟨W, 0, hoi⟩ hp
end Go.Proofs.Ytohhlkabejangaa.As

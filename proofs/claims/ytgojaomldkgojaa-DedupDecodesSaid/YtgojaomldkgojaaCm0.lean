import Derived.WalkKit
namespace Go.Proofs.Ytgojaomldkgojaa.Cm
set_option linter.unusedVariables false
/-! The plain law of compaction, over whatever has a key, may be a tombstone, and may be old. -/
section
variable {α κ : Type} [DecidableEq κ] (key : α → κ) (nk : κ) (gone old : α → Bool)
/-- the last one with a key -/
def lastOf : List α → κ → Option α
  | [], _ => none
  | r :: l, k => match lastOf l k with
    | some x => some x
    | none => if key r = k then some r else none
/-- is no later one of its key? -/
def fresh (l : List α) (k : κ) : Bool := l.all (fun x => decide (key x ≠ k))
def keepL : List α → List α
  | [] => []
  | r :: l => if key r = nk ∨ (fresh key l (key r) = true ∧ (gone r && old r) = false) then r :: keepL l else keepL l
def liveL : List α → List α
  | [] => []
  | r :: l => if key r ≠ nk ∧ fresh key l (key r) = true ∧ gone r = false then r :: liveL l else liveL l
theorem fresh_none (l : List α) (k : κ) : fresh key l k = true ↔ lastOf key l k = none := by
  induction l with
  | nil => simp [fresh, lastOf]
  | cons r l ih =>
    unfold fresh at ih ⊢
    simp only [List.all_cons, Bool.and_eq_true, decide_eq_true_eq, lastOf]
    cases h : lastOf key l k with
    | some x =>
      rw [h] at ih
      constructor
      · intro hh
        exact absurd (ih.1 hh.2) (by simp)
      · intro hh
        cases hh
    | none =>
      rw [h] at ih
      simp only
      constructor
      · intro hh
        rw [if_neg hh.1]
      · intro hh
        refine ⟨fun e => ?_, ih.2 rfl⟩
        rw [if_pos e] at hh
        cases hh
theorem last_key (l : List α) (k : κ) (x : α) (h : lastOf key l k = some x) : key x = k ∧ x ∈ l := by
  induction l with
  | nil => cases h
  | cons r l ih =>
    unfold lastOf at h
    cases hl : lastOf key l k with
    | some y =>
      rw [hl] at h
      obtain rfl := Option.some.inj h
      exact ⟨(ih hl).1, List.mem_cons_of_mem _ (ih hl).2⟩
    | none =>
      rw [hl] at h
      simp only at h
      split at h
      · obtain rfl := Option.some.inj h
        exact ⟨by assumption, List.mem_cons_self⟩
      · cases h
theorem last_append (a b : List α) (k : κ) : lastOf key (a ++ b) k = match lastOf key b k with | some x => some x | none => lastOf key a k := by
  induction a with
  | nil =>
    cases h : lastOf key b k <;> simp [lastOf, h]
  | cons r a ih =>
    show (match lastOf key (a ++ b) k with | some x => some x | none => if key r = k then some r else none) = _
    rw [ih]
    cases h : lastOf key b k with
    | some x => rfl
    | none => rfl
theorem live_mem (l : List α) (x : α) : x ∈ liveL key nk gone l ↔ key x ≠ nk ∧ gone x = false ∧ lastOf key l (key x) = some x := by
  induction l with
  | nil => simp [liveL, lastOf]
  | cons r l ih =>
    have hcons : lastOf key (r :: l) (key x) = match lastOf key l (key x) with | some y => some y | none => if key r = key x then some r else none := rfl
    unfold liveL
    by_cases hc : key r ≠ nk ∧ fresh key l (key r) = true ∧ gone r = false
    · rw [if_pos hc, List.mem_cons, ih, hcons]
      have hn := (fresh_none key l (key r)).1 hc.2.1
      constructor
      · rintro (rfl | ⟨h1, h2, h3⟩)
        · rw [hn]
          exact ⟨hc.1, hc.2.2, if_pos rfl⟩
        · rw [h3]
          exact ⟨h1, h2, rfl⟩
      · rintro ⟨h1, h2, h3⟩
        cases hl : lastOf key l (key x) with
        | some y =>
          rw [hl] at h3
          obtain rfl := Option.some.inj h3
          exact .inr ⟨h1, h2, rfl⟩
        | none =>
          rw [hl] at h3
          simp only at h3
          split at h3
          · exact .inl (Option.some.inj h3).symm
          · cases h3
    · rw [if_neg hc, ih, hcons]
      constructor
      · rintro ⟨h1, h2, h3⟩
        rw [h3]
        exact ⟨h1, h2, rfl⟩
      · rintro ⟨h1, h2, h3⟩
        refine ⟨h1, h2, ?_⟩
        cases hl : lastOf key l (key x) with
        | some y =>
          rw [hl] at h3
          exact h3
        | none =>
          rw [hl] at h3
          simp only at h3
          split at h3
          · rename_i he
            obtain rfl := Option.some.inj h3
            exact absurd ⟨h1, (fresh_none key l (key r)).2 hl, h2⟩ hc
          · cases h3
theorem keep_last (l : List α) (k : κ) (hk : k ≠ nk) : lastOf key (keepL key nk gone old l) k = match lastOf key l k with | some x => (if (gone x && old x) = true then none else some x) | none => none := by
  induction l with
  | nil => rfl
  | cons r l ih =>
    have hcons : lastOf key (r :: l) k = match lastOf key l k with | some y => some y | none => if key r = k then some r else none := rfl
    unfold keepL
    by_cases hc : key r = nk ∨ (fresh key l (key r) = true ∧ (gone r && old r) = false)
    · rw [if_pos hc]
      show (match lastOf key (keepL key nk gone old l) k with | some y => some y | none => if key r = k then some r else none) = _
      rw [ih, hcons]
      cases hl : lastOf key l k with
      | some y =>
        simp only
        by_cases hg : (gone y && old y) = true
        · simp only [if_pos hg]
          have hne : key r ≠ k := by
            rintro rfl
            rcases hc with hc | hc
            · exact hk hc
            · rw [(fresh_none key l (key r)).1 hc.1] at hl
              cases hl
          rw [if_neg hne]
        · simp only [if_neg hg]
      | none =>
        simp only
        by_cases he : key r = k
        · rw [if_pos he]
          simp only
          rcases hc with hc | hc
          · exact absurd (he.symm.trans hc) hk
          · rw [hc.2]
            simp
        · rw [if_neg he]
    · rw [if_neg hc, ih, hcons]
      cases hl : lastOf key l k with
      | some y => rfl
      | none =>
        simp only
        by_cases he : key r = k
        · rw [if_pos he]
          simp only
          have hf : fresh key l (key r) = true := (fresh_none key l (key r)).2 (by rw [he]; exact hl)
          have hg : (gone r && old r) = true := by
            cases hgo : (gone r && old r) with
            | true => rfl
            | false => exact absurd (.inr ⟨hf, hgo⟩) hc
          rw [if_pos hg]
        · rw [if_neg he]
theorem keep_sub (l : List α) (x : α) (h : x ∈ keepL key nk gone old l) : x ∈ l := by
  induction l with
  | nil => exact h
  | cons r l ih =>
    unfold keepL at h
    split at h
    · rcases List.mem_cons.1 h with rfl | h
      · exact List.mem_cons_self
      · exact List.mem_cons_of_mem _ (ih h)
    · exact List.mem_cons_of_mem _ (ih h)
/-- what is kept of what is kept is all of it -/
theorem keep_keep (l : List α) : keepL key nk gone old (keepL key nk gone old l) = keepL key nk gone old l := by
  induction l with
  | nil => rfl
  | cons r l ih =>
    by_cases hc : key r = nk ∨ (fresh key l (key r) = true ∧ (gone r && old r) = false)
    · have e : keepL key nk gone old (r :: l) = r :: keepL key nk gone old l := by
        show (if _ then _ else _) = _
        rw [if_pos hc]
      rw [e]
      show (if _ then _ else _) = _
      rw [if_pos, ih]
      rcases hc with hc | hc
      · exact .inl hc
      · refine .inr ⟨?_, hc.2⟩
        unfold fresh at *
        rw [List.all_eq_true] at *
        exact fun x hx => hc.1 x (keep_sub key nk gone old l x hx)
    · have e : keepL key nk gone old (r :: l) = keepL key nk gone old l := by
        show (if _ then _ else _) = _
        rw [if_neg hc]
      rw [e, ih]
/-- the view of what is kept, and of what comes behind it -/
theorem live_keep (l more : List α) (x : α) : x ∈ liveL key nk gone (keepL key nk gone old l ++ more) ↔ x ∈ liveL key nk gone (l ++ more) := by
  rw [live_mem, live_mem]
  constructor
  · rintro ⟨h1, h2, h3⟩
    refine ⟨h1, h2, ?_⟩
    rw [last_append] at h3 ⊢
    cases hm : lastOf key more (key x) with
    | some y => rw [hm] at h3; exact h3
    | none =>
      rw [hm] at h3
      simp only at h3 ⊢
      rw [keep_last key nk gone old l _ h1] at h3
      cases hl : lastOf key l (key x) with
      | none => rw [hl] at h3; cases h3
      | some y =>
        rw [hl] at h3
        simp only at h3
        split at h3
        · cases h3
        · exact h3
  · rintro ⟨h1, h2, h3⟩
    refine ⟨h1, h2, ?_⟩
    rw [last_append] at h3 ⊢
    cases hm : lastOf key more (key x) with
    | some y => rw [hm] at h3; exact h3
    | none =>
      rw [hm] at h3
      simp only at h3 ⊢
      rw [keep_last key nk gone old l _ h1, h3]
      simp only
      rw [h2]
      rfl
theorem live_keep0 (l : List α) (x : α) : x ∈ liveL key nk gone (keepL key nk gone old l) ↔ x ∈ liveL key nk gone l := by
  have h := live_keep key nk gone old l [] x
  simpa using h
/-- no key twice -/
theorem live_nodup (l : List α) : (liveL key nk gone l).Pairwise (fun a b => key a ≠ key b) := by
  induction l with
  | nil => exact List.Pairwise.nil
  | cons r l ih =>
    unfold liveL
    split
    · rename_i hc
      refine List.Pairwise.cons (fun b hb => ?_) ih
      have hb2 := (live_mem key nk gone l b).1 hb
      intro he
      have hn := (fresh_none key l (key r)).1 hc.2.1
      rw [he, hb2.2.2] at hn
      cases hn
    · exact ih
end
section
variable {α κ : Type} (key : α → κ) (lt : κ → κ → Prop)
/-- two rising rows of the same are one -/
theorem rising_eq (hirr : ∀ k, ¬ lt k k) (hasym : ∀ a b, lt a b → ¬ lt b a) : ∀ (a b : List α), a.Pairwise (fun x y => lt (key x) (key y)) → b.Pairwise (fun x y => lt (key x) (key y)) → (∀ x, x ∈ a ↔ x ∈ b) → a = b
  | [], b, _, _, h => by
    cases b with
    | nil => rfl
    | cons y b => exact absurd ((h y).2 List.mem_cons_self) (by simp)
  | x :: a, [], _, _, h => absurd ((h x).1 List.mem_cons_self) (by simp)
  | x :: a, y :: b, ha, hb, h => by
    obtain ⟨ha1, ha2⟩ := List.pairwise_cons.1 ha
    obtain ⟨hb1, hb2⟩ := List.pairwise_cons.1 hb
    have hxy : x = y := by
      rcases List.mem_cons.1 ((h x).1 List.mem_cons_self) with e | hx
      · exact e
      · rcases List.mem_cons.1 ((h y).2 List.mem_cons_self) with e | hy
        · exact e.symm
        · exact absurd (hb1 x hx) (hasym _ _ (ha1 y hy))
    subst hxy
    congr 1
    refine rising_eq hirr hasym a b ha2 hb2 fun z => ?_
    constructor
    · intro hz
      rcases List.mem_cons.1 ((h z).1 (List.mem_cons_of_mem _ hz)) with rfl | hz'
      · exact absurd (ha1 z hz) (hirr _)
      · exact hz'
    · intro hz
      rcases List.mem_cons.1 ((h z).2 (List.mem_cons_of_mem _ hz)) with rfl | hz'
      · exact absurd (hb1 z hz) (hirr _)
      · exact hz'
end
section
variable {α κ : Type} (key : α → κ) (ltb : κ → κ → Bool)
/-- one more, in its place -/
def putL : List α → α → List α
  | [], x => [x]
  | r :: l, x => if ltb (key x) (key r) = true then x :: r :: l else r :: putL l x
theorem put_mem (l : List α) (x z : α) : z ∈ putL key ltb l x ↔ z = x ∨ z ∈ l := by
  induction l with
  | nil => simp [putL]
  | cons r l ih =>
    unfold putL
    split
    · simp
    · rw [List.mem_cons, ih, List.mem_cons]
      constructor
      · rintro (h | h | h)
        · exact .inr (.inl h)
        · exact .inl h
        · exact .inr (.inr h)
      · rintro (h | h | h)
        · exact .inr (.inl h)
        · exact .inl h
        · exact .inr (.inr h)
theorem put_rising (htr : ∀ a b c, ltb a b = true → ltb b c = true → ltb a c = true) (htot : ∀ a b, a ≠ b → ltb a b = false → ltb b a = true) (l : List α) (x : α) (h : l.Pairwise (fun a b => ltb (key a) (key b) = true)) (hx : ∀ r ∈ l, key r ≠ key x) :
    (putL key ltb l x).Pairwise (fun a b => ltb (key a) (key b) = true) := by
  induction l with
  | nil => exact List.pairwise_singleton _ _
  | cons r l ih =>
    obtain ⟨h1, h2⟩ := List.pairwise_cons.1 h
    unfold putL
    split
    · rename_i hlt
      refine List.Pairwise.cons (fun b hb => ?_) h
      rcases List.mem_cons.1 hb with rfl | hb
      · exact hlt
      · exact htr _ _ _ hlt (h1 b hb)
    · rename_i hlt
      have hrx : ltb (key r) (key x) = true := htot _ _ (fun e => hx r List.mem_cons_self e.symm) (by simpa using hlt)
      refine List.Pairwise.cons (fun b hb => ?_) (ih h2 (fun q hq => hx q (List.mem_cons_of_mem _ hq)))
      rcases (put_mem key ltb l x b).1 hb with rfl | hb
      · exact hrx
      · exact h1 b hb
/-- the view: one put behind the other -/
def viewL (l : List α) : List α := l.foldl (putL key ltb) []
theorem view_law (htr : ∀ a b c, ltb a b = true → ltb b c = true → ltb a c = true) (htot : ∀ a b, a ≠ b → ltb a b = false → ltb b a = true) (l : List α) (hn : l.Pairwise (fun a b => key a ≠ key b)) :
    (viewL key ltb l).Pairwise (fun a b => ltb (key a) (key b) = true) ∧ ∀ z, z ∈ viewL key ltb l ↔ z ∈ l := by
  have : ∀ (l acc : List α), acc.Pairwise (fun a b => ltb (key a) (key b) = true) → l.Pairwise (fun a b => key a ≠ key b) → (∀ a ∈ acc, ∀ b ∈ l, key a ≠ key b) →
      (l.foldl (putL key ltb) acc).Pairwise (fun a b => ltb (key a) (key b) = true) ∧ ∀ z, z ∈ l.foldl (putL key ltb) acc ↔ z ∈ acc ∨ z ∈ l := by
    intro l
    induction l with
    | nil => intro acc h _ _; exact ⟨h, fun z => by simp⟩
    | cons x l ih =>
      intro acc h hn hd
      obtain ⟨n1, n2⟩ := List.pairwise_cons.1 hn
      have hp := put_rising key ltb htr htot acc x h (fun r hr => hd r hr x List.mem_cons_self)
      obtain ⟨i1, i2⟩ := ih (putL key ltb acc x) hp n2 (fun a ha b hb => by
        rcases (put_mem key ltb acc x a).1 ha with rfl | ha
        · exact n1 b hb
        · exact hd a ha b (List.mem_cons_of_mem _ hb))
      refine ⟨i1, fun z => ?_⟩
      rw [List.foldl_cons, i2, put_mem, List.mem_cons]
      constructor
      · rintro ((h | h) | h)
        · exact .inr (.inl h)
        · exact .inl h
        · exact .inr (.inr h)
      · rintro (h | h | h)
        · exact .inl (.inr h)
        · exact .inl (.inl h)
        · exact .inr h
  obtain ⟨a, b⟩ := this l [] List.Pairwise.nil hn (fun a ha => absurd ha (by simp))
  exact ⟨a, fun z => by rw [viewL, b]; simp⟩
end
end Go.Proofs.Ytgojaomldkgojaa.Cm

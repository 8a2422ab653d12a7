import Derived.Test.YtohhlkabejangaaUOf5
-- halved
namespace Go.Proofs.Ytohhlkabejangaa.Of
set_option linter.unusedVariables false
set_option linter.unusedSimpArgs false
open Go.RowKit Go.Maps Go.Sort Go.Lib Go.Shelf Go.Proofs.YtohhlkabejangaaW.PrintWords Go.Proofs.YtohhlkabejangaaW.PrintLast Go.Proofs.YtohhlkabejangaaW.PrintMore Go.Proofs.Ytohhlkabejangaa.POf
structure Rw where
 k : Ky
 v : Int
 deriving Inhabited, DecidableEq
instance (x y : Ky) : Decidable (kLt x y) := by unfold kLt; infer_instance
def putT : List Rw → Rw → List Rw
 | [], x => [x]
 | y :: l, x => if kLt x.k y.k then x :: y :: l else if y.k = x.k then x :: l else y :: putT l x
def isT (T : List Rw) (x : Ky) : Bool := T.any (fun r => decide (r.k = x))
structure Rep (D : DataW Unit) (T : List Rw) : Prop where
 tidy : Tidy D
 size : Maps.size D = T.length
 ris : T.Pairwise (fun a b => kLt a.k b.k)
 ok : ∀ r ∈ T, okK r.k
 has : ∀ x, okK x → (Maps.has D (litK x) = true ↔ ∃ r ∈ T, r.k = x)
 at_ : ∀ r ∈ T, ∀ z, D.atKey (litK r.k) z = .lit (.int .i64 r.v)
theorem putT_mem : ∀ (T : List Rw) (x r : Rw), T.Pairwise (fun a b => kLt a.k b.k) → (r ∈ putT T x ↔ r = x ∨ (r ∈ T ∧ r.k ≠ x.k))
 | [], x, r, _ => by simp [putT]
 | y :: l, x, r, h => by
  obtain ⟨h1, h2⟩ := List.pairwise_cons.1 h
  unfold putT
  by_cases c1 : kLt x.k y.k
  ·rw [if_pos c1]
   have hne : ∀ q ∈ y :: l, q.k ≠ x.k := by
    intro q hq e
    rcases List.mem_cons.1 hq with rfl | hq
    ·exact kLt_irr _ (e ▸ c1)
    ·exact kLt_irr _ (kLt_trans c1 (e ▸ h1 q hq))
   constructor
   ·intro hm
    rcases List.mem_cons.1 hm with e | hm
    ·exact .inl e
    ·exact .inr ⟨hm, hne r hm⟩
   ·rintro (e | ⟨hm, _⟩)
    ·exact List.mem_cons.2 (.inl e)
    ·exact List.mem_cons.2 (.inr hm)
  ·rw [if_neg c1]
   by_cases c2 : y.k = x.k
   ·rw [if_pos c2]
    have hne : ∀ q ∈ l, q.k ≠ x.k := fun q hq e => kLt_irr _ (e ▸ c2 ▸ h1 q hq)
    constructor
    ·intro hm
     rcases List.mem_cons.1 hm with e | hm
     ·exact .inl e
     ·exact .inr ⟨List.mem_cons.2 (.inr hm), hne r hm⟩
    ·rintro (e | ⟨hm, hn⟩)
     ·exact List.mem_cons.2 (.inl e)
     ·rcases List.mem_cons.1 hm with rfl | hm
      ·exact (hn c2).elim
      ·exact List.mem_cons.2 (.inr hm)
   ·rw [if_neg c2, List.mem_cons, putT_mem l x r h2]
    constructor
    ·rintro (rfl | e | ⟨hm, hn⟩)
     ·exact .inr ⟨List.mem_cons.2 (.inl rfl), c2⟩
     ·exact .inl e
     ·exact .inr ⟨List.mem_cons.2 (.inr hm), hn⟩
    ·rintro (e | ⟨hm, hn⟩)
     ·exact .inr (.inl e)
     ·rcases List.mem_cons.1 hm with e | hm
      ·exact .inl e
      ·exact .inr (.inr ⟨hm, hn⟩)
theorem key_tri (x y : Ky) : kLt x y ∨ x = y ∨ kLt y x := by
 rcases kLt_tri x y with h | ⟨e1, e2, e3⟩ | h
 ·exact .inl h
 ·refine .inr (.inl ?_)
  obtain ⟨a, b, c⟩ := x
  obtain ⟨a', b', c'⟩ := y
  have f1 := toList_inj e1
  have f2 := toList_inj e2
  dsimp only at f1 f2 e3
  subst f1 f2 e3
  rfl
 ·exact .inr (.inr h)
theorem putT_ris : ∀ (T : List Rw) (x : Rw), T.Pairwise (fun a b => kLt a.k b.k) → (putT T x).Pairwise (fun a b => kLt a.k b.k)
 | [], x, _ => by simp [putT]
 | y :: l, x, h => by
  obtain ⟨h1, h2⟩ := List.pairwise_cons.1 h
  unfold putT
  split
  ·rename_i c1
   refine List.pairwise_cons.2 ⟨fun q hq => ?_, h⟩
   rcases List.mem_cons.1 hq with rfl | hq
   ·exact c1
   ·exact kLt_trans c1 (h1 q hq)
  ·rename_i c1
   split
   ·rename_i c2
    exact List.pairwise_cons.2 ⟨fun q hq => c2 ▸ h1 q hq, h2⟩
   ·rename_i c2
    refine List.pairwise_cons.2 ⟨fun q hq => ?_, putT_ris l x h2⟩
    rcases (putT_mem l x q h2).1 hq with rfl | ⟨hq, _⟩
    ·rcases key_tri q.k y.k with h | h | h
     ·exact (c1 h).elim
     ·exact (c2 h.symm).elim
     ·exact h
    ·exact h1 q hq
theorem isT_iff (T : List Rw) (x : Ky) : isT T x = true ↔ ∃ r ∈ T, r.k = x := by simp [isT]
theorem putT_len : ∀ (T : List Rw) (x : Rw), T.Pairwise (fun a b => kLt a.k b.k) → (putT T x).length = if isT T x.k = true then T.length else T.length + 1
 | [], x, _ => by simp [putT, isT]
 | y :: l, x, h => by
  obtain ⟨h1, h2⟩ := List.pairwise_cons.1 h
  unfold putT
  by_cases c1 : kLt x.k y.k
  ·rw [if_pos c1, if_neg]
   ·rfl
   ·intro hi
    obtain ⟨q, hq, e⟩ := (isT_iff _ _).1 hi
    rcases List.mem_cons.1 hq with rfl | hq
    ·exact kLt_irr _ (e ▸ c1)
    ·exact kLt_irr _ (kLt_trans c1 (e ▸ h1 q hq))
  ·rw [if_neg c1]
   by_cases c2 : y.k = x.k
   ·rw [if_pos c2, if_pos ((isT_iff _ _).2 ⟨y, by simp, c2⟩)]
    rfl
   ·have ih := putT_len l x h2
    have e : isT (y :: l) x.k = isT l x.k := by simp [isT, c2]
    rw [if_neg c2, List.length_cons, ih, e]
    split <;> rfl
theorem isKey (x : Ky) : WideAt.IsKeyLit (litK x) := trivial
theorem rep_new : Rep (.map []) [] := ⟨tidy_empty, rfl, List.Pairwise.nil, fun _ h => (by cases h), fun x _ => ⟨fun h => (by cases h), fun ⟨r, h, _⟩ => (by cases h)⟩, fun _ h => (by cases h)⟩
theorem rep_put {D : DataW Unit} {T : List Rw} (h : Rep D T) {x : Rw} (hx : okK x.k) : Rep (D.put (litK x.k) (.lit (.int .i64 x.v))) (putT T x) := by
 have hm := fun r => putT_mem T x r h.ris
 refine ⟨h.tidy.put (isKey _) _, ?_, putT_ris T x h.ris, fun r hr => ?_, fun y hy => ?_, fun r hr z => ?_⟩
 ·rw [size_put h.tidy, putT_len T x h.ris, h.size]
  have hh := h.has x.k hx
  by_cases c : isT T x.k = true
  ·rw [if_pos c, if_pos (hh.2 ((isT_iff _ _).1 c))]
  ·rw [if_neg c, if_neg (fun h2 => c ((isT_iff _ _).2 (hh.1 h2)))]
 ·rcases (hm r).1 hr with rfl | ⟨hr, _⟩
  ·exact hx
  ·exact h.ok r hr
 ·by_cases c : y = x.k
  ·subst c
   rw [has_put_same h.tidy.isMap (isKey _)]
   exact ⟨fun _ => ⟨x, (hm x).2 (.inl rfl), rfl⟩, fun _ => rfl⟩
  ·have hne : litK y ≠ litK x.k := fun e => c (litK_inj hy hx e)
   rw [has_put_other hne, h.has y hy]
   constructor
   ·rintro ⟨r, hr, e⟩
    exact ⟨r, (hm r).2 (.inr ⟨hr, by rw [e]; exact c⟩), e⟩
   ·rintro ⟨r, hr, e⟩
    rcases (hm r).1 hr with rfl | ⟨hr, _⟩
    ·exact (c e.symm).elim
    ·exact ⟨r, hr, e⟩
 ·rcases (hm r).1 hr with rfl | ⟨hr, hn⟩
  ·exact atKey_put_same h.tidy.isMap (isKey _) _ _
  ·rw [atKey_put_other (fun e => hn (litK_inj (h.ok r hr) hx e))]
   exact h.at_ r hr z
theorem keys_eq {D : DataW Unit} {T : List Rw} (h : Rep D T) {ys : List Ky} (hk : KeysD D ys) (hr : ys.Pairwise kLt) : ys = T.map (·.k) := by
 have hT : (T.map (·.k)).Pairwise kLt := List.pairwise_map.2 h.ris
 have hn : (T.map (·.k)).Nodup := List.nodup_iff_pairwise_ne.2 (hT.imp (fun {a b} (hab : kLt a b) (e : a = b) => kLt_irr b (by rw [e] at hab; exact hab)))
 have hp : ys.Perm (T.map (·.k)) := (List.perm_ext_iff_of_nodup hk.1 hn).2 (fun x => by
  rw [hk.2 x, List.mem_map]
  constructor
  ·rintro ⟨h1, h2⟩
   exact (h.has x h1).1 h2
  ·rintro ⟨r, hr, rfl⟩
   exact ⟨h.ok r hr, (h.has _ (h.ok r hr)).2 ⟨r, hr, rfl⟩⟩)
 exact List.Perm.eq_of_pairwise (le := kLt) (fun a b _ _ h1 h2 => (kLt_irr _ (kLt_trans h1 h2)).elim) hr hT hp
theorem rep_del {D : DataW Unit} {T : List Rw} (h : Rep D T) {x : Ky} (hx : okK x) : Rep (D.del (litK x)) (T.filter (fun r => !decide (r.k = x))) := by
 have hm : ∀ r, r ∈ T.filter (fun r => !decide (r.k = x)) ↔ r ∈ T ∧ r.k ≠ x := fun r => by simp
 have hlen : (T.filter (fun r => !decide (r.k = x))).length + (if isT T x = true then 1 else 0) = T.length := by
  have hris := h.ris
  clear h hm
  induction T with
  | nil => rfl
  | cons y l ih =>
   obtain ⟨h1, h2⟩ := List.pairwise_cons.1 hris
   have ih := ih h2
   by_cases c : y.k = x
   ·have hne : isT l x = false := by
     cases hi : isT l x
     ·rfl
     ·obtain ⟨q, hq, e⟩ := (isT_iff _ _).1 hi
      exact (kLt_irr _ (c ▸ e ▸ h1 q hq)).elim
    rw [hne] at ih
    have e : isT (y :: l) x = true := (isT_iff _ _).2 ⟨y, by simp, c⟩
    rw [e, List.filter_cons_of_neg (by simp [c])]
    simp at ih ⊢
    exact ih
   ·have e : isT (y :: l) x = isT l x := by simp [isT, c]
    rw [e, List.filter_cons_of_pos (by simp [c]), List.length_cons, List.length_cons]
    omega
 refine ⟨h.tidy.del _, ?_, h.ris.filter _, fun r hr => h.ok r ((hm r).1 hr).1, fun y hy => ?_, fun r hr z => ?_⟩
 ·have h1 := size_del (k := litK x) h.tidy
  have hh := h.has x hx
  rw [h.size] at h1
  by_cases c : isT T x = true
  ·rw [if_pos c] at hlen
   rw [if_pos (hh.2 ((isT_iff _ _).1 c))] at h1
   omega
  ·rw [if_neg c] at hlen
   rw [if_neg (fun h2 => c ((isT_iff _ _).2 (hh.1 h2)))] at h1
   omega
 ·by_cases c : y = x
  ·subst c
   rw [has_del_same]
   exact ⟨fun h => (by cases h), fun ⟨r, hr, e⟩ => (((hm r).1 hr).2 e).elim⟩
  ·rw [has_del_other (fun e => c (litK_inj hy hx e)), h.has y hy]
   constructor
   ·rintro ⟨r, hr, e⟩
    exact ⟨r, (hm r).2 ⟨hr, by rw [e]; exact c⟩, e⟩
   ·rintro ⟨r, hr, e⟩
    exact ⟨r, ((hm r).1 hr).1, e⟩
 ·obtain ⟨h1, h2⟩ := (hm r).1 hr
  rw [atKey_del_other (fun e => h2 (litK_inj (h.ok r h1) hx e))]
  exact h.at_ r h1 z
end Go.Proofs.Ytohhlkabejangaa.Of

import Derived.Test.YtgojaomldkgojaaCm10
import Derived.Test.YtgojaomldkgojaaCm6
namespace Go.Proofs.Ytgojaomldkgojaa.Cm
set_option linter.unusedVariables false
set_option linter.unusedSimpArgs false
open Go.RowKit Go.Maps Go.Sort Go.Proofs.YtgojaomldkgojaaW.PrintWords Go.Proofs.YtgojaomldkgojaaW.PrintLast Go.Proofs.YtgojaomldkgojaaW.PrintMore Go.Proofs.Ytgojaomldkgojaa.PCm Go.Proofs.Ytgojaomldkgojaa.Wire
theorem insert_apart {H : Type} (a : Lit × DataW H) : ∀ (es : List (Lit × DataW H)), es.Pairwise (fun p q => p.1 ≠ q.1) → (∀ p ∈ es, a.1 ≠ p.1) → (DataW.insert a es).Pairwise (fun p q => p.1 ≠ q.1)
  | [], _, _ => by
    unfold DataW.insert
    exact List.pairwise_singleton _ _
  | q :: es, h, ha => by
    obtain ⟨h1, h2⟩ := List.pairwise_cons.1 h
    unfold DataW.insert
    split
    · exact List.Pairwise.cons ha h
    · refine List.Pairwise.cons (fun b hb => ?_) (insert_apart a es h2 (fun p hp => ha p (List.mem_cons_of_mem _ hp)))
      rcases (mem_insert' a es b).1 hb with rfl | hb
      · exact (ha q List.mem_cons_self).symm
      · exact h1 b hb
theorem dat_apart (l : List Rc) (i : Nat) : ∃ es, dat l i = .map es ∧ es.Pairwise (fun p q => p.1 ≠ q.1) := by
  induction i with
  | zero => exact ⟨[], rfl, List.Pairwise.nil⟩
  | succ i ih =>
    obtain ⟨es, he, hp⟩ := ih
    by_cases h0 : (l.getD i z32).f2.toList = []
    · refine ⟨es, ?_, hp⟩
      unfold dat
      rw [if_pos h0, he]
    · refine ⟨DataW.insert (keyLit (l.getD i z32), .lit (.int .i64 (i : Int))) (es.filter fun p => !p.1.sameKey (keyLit (l.getD i z32))), ?_, insert_apart _ _ (hp.filter _) (fun p hq e => ?_)⟩
      · show (if (l.getD i z32).f2.toList = [] then dat l i else (dat l i).put (keyLit (l.getD i z32)) _) = _
        rw [if_neg h0, he]
        rfl
      · have h9 := (List.mem_filter.1 hq).2
        rw [← (show keyLit (l.getD i z32) = p.1 from e)] at h9
        simp [keyLit, Lit.sameKey] at h9
theorem keys_nodup (l : List Rc) : (strKeys (dat l l.length)).Nodup := by
  obtain ⟨es, he, hp⟩ := dat_apart l l.length
  obtain ⟨es2, he2, h1, _⟩ := dat_keys l l.length (Nat.le_refl _)
  obtain rfl : es = es2 := by
    rw [he] at he2
    injection he2
  rw [he]
  show (es.map fun p => strOf p.1).Nodup
  unfold List.Nodup
  rw [List.pairwise_map]
  refine List.Pairwise.imp_of_mem ?_ hp
  intro a b ha hb hne e
  obtain ⟨j, _, ea, _⟩ := h1 a ha
  obtain ⟨j2, _, eb, _⟩ := h1 b hb
  refine hne ?_
  rw [ea, eb] at e ⊢
  unfold keyLit at e ⊢
  have e2 : (l.getD j z32).f2.data.toList = (l.getD j2 z32).f2.data.toList := e
  rw [e2]
theorem keys_all (l : List Rc) (x : List UInt8) : x ∈ strKeys (dat l l.length) ↔ ∃ j, ∃ (hj : j < l.length), kL l[j] = x ∧ x ≠ [] := by
  constructor
  · exact key_in l x
  · rintro ⟨j, hj, rfl, hne⟩
    obtain ⟨es, he, _, h2⟩ := dat_keys l l.length (Nat.le_refl _)
    have hg : l.getD j z32 = l[j] := by rw [List.getD_eq_getElem?_getD, List.getElem?_eq_getElem hj]; rfl
    obtain ⟨p, hp, e⟩ := h2 j hj (by rw [hg]; exact hne)
    rw [he]
    refine List.mem_map.2 ⟨p, hp, ?_⟩
    rw [e, hg]
    exact toList_data _
theorem lt_trans' (a b c : List UInt8) : ltK a b = true → ltK b c = true → ltK a c = true := by
  unfold ltK
  simp only [decide_eq_true_eq]
  exact fun h1 h2 => List.lt_trans h1 h2
theorem lt_tot (a b : List UInt8) : a ≠ b → ltK a b = false → ltK b a = true := by
  unfold ltK
  simp only [decide_eq_true_eq, decide_eq_false_iff_not]
  intro h1 h2
  rcases Decidable.em (b < a) with h4 | h4
  · exact h4
  · exact absurd (List.le_antisymm (List.not_lt.1 h4) (List.not_lt.1 h2)) h1
theorem pick_key (l : List Rc) (k : List UInt8) (hk : ∃ j, ∃ (hj : j < l.length), kL l[j] = k ∧ k ≠ []) (r : Rc) (h : pickV l k = some r) : kL r = k := by
  obtain ⟨j, hj, e, hne⟩ := hk
  have h9 := lastOf_ix l k l.length (Nat.le_refl _) ⟨j, hj, by rw [List.getD_eq_getElem?_getD, List.getElem?_eq_getElem hj]; exact e⟩
  rw [List.take_length] at h9
  unfold pickV at h
  split at h
  · cases h
  · obtain rfl := Option.some.inj h
    exact (last_key kL l k _ h9).1
theorem view_eq (l : List Rc) (ss : List (List UInt8)) (hs : ss.Perm (strKeys (dat l l.length))) : (ss.mergeSort leB).filterMap (pickV l) = viewR l := by
  have hperm := (List.mergeSort_perm ss leB).trans hs
  have hmem : ∀ x, x ∈ ss.mergeSort leB ↔ ∃ j, ∃ (hj : j < l.length), kL l[j] = x ∧ x ≠ [] := fun x => (hperm.mem_iff).trans (keys_all l x)
  have hnd : (ss.mergeSort leB).Nodup := hperm.nodup_iff.2 (keys_nodup l)
  have hso : (ss.mergeSort leB).Pairwise (fun a b => leB a b = true) := List.pairwise_mergeSort (fun a b c h1 h2 => by
    simp only [leB, decide_eq_true_eq] at *
    exact List.le_trans h1 h2) (fun a b => by
    simp only [leB, Bool.or_eq_true, decide_eq_true_eq]
    exact List.le_total a b) ss
  have hst : (ss.mergeSort leB).Pairwise (fun a b => a < b) := by
    refine (hso.and hnd).imp ?_
    rintro a b ⟨h1, h2⟩
    simp only [leB, decide_eq_true_eq] at h1
    rcases Decidable.em (a < b) with h4 | h4
    · exact h4
    · exact absurd (List.le_antisymm h1 (List.not_lt.1 h4)) h2
  have hv := view_law kL ltK lt_trans' lt_tot (liveL kL [] (·.f4) l) (live_nodup kL [] (·.f4) l)
  refine rising_eq kL (fun a b => ltK a b = true) (fun k h => List.lt_irrefl k (of_decide_eq_true h)) (fun a b h1 h2 => List.lt_irrefl a (List.lt_trans (of_decide_eq_true h1) (of_decide_eq_true h2))) _ _ ?_ hv.1 (fun z => (view_mem l _ hmem z).trans (hv.2 z).symm)
  rw [List.pairwise_filterMap]
  refine List.Pairwise.imp_of_mem ?_ hst
  intro a b ha hb hab x hx y hy
  rw [pick_key l a ((hmem a).1 ha) x hx, pick_key l b ((hmem b).1 hb) y hy]
  exact decide_eq_true hab
theorem pview_calls (A : Option Addr) (k : Nat) (l : List Rc) (w : World) (hr : Kd.C k32 w A l.length l) (hl : l.length ≤ 1000) (hz : ∀ r ∈ l, r.f2.size ≤ 1000) :
    Calls Try.prog 17 #[.slice A l.length k] w fun e w' => ∃ u, e = .returned u ∧ Kd.R k32 32 w' w.heap.size (fun _ => True) u (viewR l) ∧ Below w.heap.size w w' := by
  refine (view_calls A k l w hr hl hz).mono ?_
  rintro e w' ⟨u, ss, rfl, hs, hR, hb⟩
  exact ⟨u, rfl, view_eq l ss hs ▸ hR, hb⟩
theorem keepF_mem (dead : Int) (l : List Rc) : ∀ r ∈ keepF dead l, r ∈ l := by
  induction l with
  | nil => intro r h; exact absurd h (by simp [keepF, keepL])
  | cons x l ih =>
    intro r h
    rw [keepF, keepL] at h
    split at h
    · rcases List.mem_cons.1 h with rfl | h
      · exact List.mem_cons_self
      · exact List.mem_cons_of_mem _ (ih r h)
    · exact List.mem_cons_of_mem _ (ih r h)
theorem viewR_keep (dead : Int) (l more : List Rc) : viewR (keepF dead l ++ more) = viewR (l ++ more) := by
  have h1 := view_law kL ltK lt_trans' lt_tot (liveL kL [] (·.f4) (keepF dead l ++ more)) (live_nodup kL [] (·.f4) _)
  have h2 := view_law kL ltK lt_trans' lt_tot (liveL kL [] (·.f4) (l ++ more)) (live_nodup kL [] (·.f4) _)
  refine rising_eq kL (fun a b => ltK a b = true) (fun k h => List.lt_irrefl k (of_decide_eq_true h)) (fun a b h1 h2 => List.lt_irrefl a (List.lt_trans (of_decide_eq_true h1) (of_decide_eq_true h2))) _ _ h1.1 h2.1 (fun z => ?_)
  rw [h1.2 z, h2.2 z]
  exact live_keep kL [] (·.f4) (oldB dead) l more z
theorem viewR_keep0 (dead : Int) (l : List Rc) : viewR (keepF dead l) = viewR l := by
  have h := viewR_keep dead l []
  simpa using h
theorem keepF_keepF (dead : Int) (l : List Rc) : keepF dead (keepF dead l) = keepF dead l := keep_keep kL [] (·.f4) (oldB dead) l
end Go.Proofs.Ytgojaomldkgojaa.Cm

import Derived.Test.YtohhlkabejangaaUOfS
-- halved
namespace Go.Proofs.Ytohhlkabejangaa.Of
set_option linter.unusedVariables false
set_option linter.unusedSimpArgs false
open Go.RowKit Go.Maps Go.Sort Go.Lib Go.Shelf Go.Proofs.YtohhlkabejangaaW.PrintWords Go.Proofs.YtohhlkabejangaaW.PrintLast Go.Proofs.YtohhlkabejangaaW.PrintMore Go.Proofs.Ytohhlkabejangaa.Hand Go.Proofs.Ytohhlkabejangaa.POf Go.Proofs.Ytohhlkabejangaa.Wire
def grpL : List Ky → ByteArray → List ByteArray
 | [], _ => []
 | k :: ks, b => if k.g = b then grpL ks b else k.g :: grpL ks k.g
theorem grp_len : ∀ (ks : List Ky) (n : Int) (b : ByteArray), (ks.foldl grpF (n, b)).1 = n + (grpL ks b).length
 | [], n, b => by simp [grpL]
 | k :: ks, n, b => by
  rw [List.foldl_cons]
  unfold grpF grpL
  dsimp only
  by_cases h : k.g = b
  ·rw [if_pos h, if_pos h, h]
   exact grp_len ks n b
  ·rw [if_neg h, if_neg h, List.length_cons]
   have := grp_len ks (n + 1) k.g
   unfold grpF at this
   rw [this]
   omega
structure GrpOk (ks : List Ky) (b : ByteArray) (L : List ByteArray) : Prop where
 ris : L.Pairwise (fun x y => x.toList < y.toList)
 gt : ∀ x ∈ L, b.toList < x.toList
 cov : ∀ k ∈ ks, k.g = b ∨ k.g ∈ L
 from_ : ∀ x ∈ L, ∃ k ∈ ks, k.g = x
theorem grp_ok : ∀ (ks : List Ky) (b : ByteArray), ks.Pairwise kLt → (∀ k ∈ ks, k.g = b ∨ b.toList < k.g.toList) → GrpOk ks b (grpL ks b)
 | [], b, _, _ => ⟨List.Pairwise.nil, fun _ h => (by cases h), fun _ h => (by cases h), fun _ h => (by cases h)⟩
 | k :: ks, b, hr, hb => by
  obtain ⟨h1, h2⟩ := List.pairwise_cons.1 hr
  unfold grpL
  by_cases h : k.g = b
  ·rw [if_pos h]
   have ih := grp_ok ks b h2 (fun q hq => hb q (List.mem_cons_of_mem _ hq))
   refine ⟨ih.ris, ih.gt, fun q hq => ?_, fun x hx => ?_⟩
   ·rcases List.mem_cons.1 hq with rfl | hq
    ·exact .inl h
    ·exact ih.cov q hq
   ·obtain ⟨q, hq, e⟩ := ih.from_ x hx
    exact ⟨q, List.mem_cons_of_mem _ hq, e⟩
  ·rw [if_neg h]
   have hbk : b.toList < k.g.toList := by
    rcases hb k (List.mem_cons_self ..) with e | e
    ·exact absurd e h
    ·exact e
   have ih := grp_ok ks k.g h2 (fun q hq => by
    rcases h1 q hq with e | ⟨e, _⟩
    ·exact .inr e
    ·exact .inl (toList_inj e).symm)
   refine ⟨List.pairwise_cons.2 ⟨fun x hx => ih.gt x hx, ih.ris⟩, fun x hx => ?_, fun q hq => ?_, fun x hx => ?_⟩
   ·rcases List.mem_cons.1 hx with rfl | hx
    ·exact hbk
    ·exact List.lt_trans hbk (ih.gt x hx)
   ·rcases List.mem_cons.1 hq with rfl | hq
    ·exact .inr (List.mem_cons_self ..)
    ·rcases ih.cov q hq with e | e
     ·rw [e]; exact .inr (List.mem_cons_self ..)
     ·exact .inr (List.mem_cons_of_mem _ e)
   ·rcases List.mem_cons.1 hx with rfl | hx
    ·exact ⟨k, List.mem_cons_self .., rfl⟩
    ·obtain ⟨q, hq, e⟩ := ih.from_ x hx
     exact ⟨q, List.mem_cons_of_mem _ hq, e⟩
theorem nodup_le {α : Type} [DecidableEq α] : ∀ {L M : List α}, L.Nodup → (∀ x ∈ L, x ∈ M) → L.length ≤ M.length
 | [], _, _, _ => Nat.zero_le _
 | x :: L, M, hn, hs => by
  obtain ⟨h1, h2⟩ := List.nodup_cons.1 hn
  have hx := hs x (List.mem_cons_self ..)
  have ih := nodup_le (L := L) (M := M.erase x) h2 (fun y hy => (List.mem_erase_of_ne (show y ≠ x from fun e => h1 (by rw [← e]; exact hy))).2 (hs y (List.mem_cons_of_mem _ hy)))
  have := List.length_erase_of_mem hx
  have hpos : 0 < M.length := List.length_pos_of_mem hx
  rw [List.length_cons]
  omega
theorem grps {T : List Rw} (hr : T.Pairwise (fun a b => kLt a.k b.k)) (hne : ∀ r ∈ T, 1 ≤ r.k.g.size) : ∃ L : List ByteArray, L.Nodup ∧ grpT T = L.length ∧ (∀ r ∈ T, r.k.g ∈ L) ∧ ∀ x ∈ L, ∃ r ∈ T, r.k.g = x := by
 have hT : (T.map (·.k)).Pairwise kLt := List.pairwise_map.2 hr
 have hnil : ∀ s : ByteArray, 1 ≤ s.size → s.toList ≠ [] := fun s h e => by
  have := (Go.Proofs.Ytohhlkabejangaa.PureNums.nil_size s).1 e
  omega
 have hb : ∀ k ∈ T.map (·.k), k.g = (⟨#[]⟩ : ByteArray) ∨ (⟨#[]⟩ : ByteArray).toList < k.g.toList := fun k hk => by
  obtain ⟨r, hr, rfl⟩ := List.mem_map.1 hk
  right
  have h1 := hnil _ (hne r hr)
  rw [(Go.Proofs.Ytohhlkabejangaa.PureNums.nil_size (⟨#[]⟩ : ByteArray)).2 rfl]
  cases hx : r.k.g.toList with
  | nil => exact absurd hx h1
  | cons a l => exact List.Lex.nil
 have h := grp_ok _ _ hT hb
 refine ⟨grpL (T.map (·.k)) ⟨#[]⟩, ?_, ?_, fun r hr => ?_, fun x hx => ?_⟩
 ·exact List.nodup_iff_pairwise_ne.2 (h.ris.imp (fun {a b} (hab : a.toList < b.toList) (e : a = b) => List.lt_irrefl _ (e ▸ hab)))
 ·unfold grpT grpK
  rw [grp_len]
  omega
 ·rcases h.cov r.k (List.mem_map.2 ⟨r, hr, rfl⟩) with e | e
  ·have := hne r hr
   rw [e] at this
   exact absurd this (by decide)
  ·exact e
 ·obtain ⟨k, hk, e⟩ := h.from_ x hx
  obtain ⟨r, hr, rfl⟩ := List.mem_map.1 hk
  exact ⟨r, hr, e⟩
theorem grp_sub {T : List Rw} (hr : T.Pairwise (fun a b => kLt a.k b.k)) (hne : ∀ r ∈ T, 1 ≤ r.k.g.size) (G : List ByteArray) (hs : ∀ r ∈ T, r.k.g ∈ G) : grpT T ≤ G.length := by
 obtain ⟨L, hn, hl, _, hf⟩ := grps hr hne
 rw [hl]
 have := nodup_le hn (M := G) (fun x hx => by obtain ⟨r, hr, rfl⟩ := hf x hx; exact hs r hr)
 omega
theorem grp_filter {T T' : List Rw} (hr : T.Pairwise (fun a b => kLt a.k b.k)) (hr' : T'.Pairwise (fun a b => kLt a.k b.k)) (hne : ∀ r ∈ T, 1 ≤ r.k.g.size) (hs : ∀ r ∈ T', ∃ q ∈ T, q.k.g = r.k.g) : grpT T' ≤ grpT T := by
 obtain ⟨L, _, hl, hc, _⟩ := grps hr hne
 rw [hl]
 exact grp_sub hr' (fun r h => by obtain ⟨q, hq, e⟩ := hs r h; rw [← e]; exact hne q hq) L (fun r h => by obtain ⟨q, hq, e⟩ := hs r h; rw [← e]; exact hc q hq)
theorem grp_put {T : List Rw} (hr : T.Pairwise (fun a b => kLt a.k b.k)) (hne : ∀ r ∈ T, 1 ≤ r.k.g.size) {x : Rw} (hx : 1 ≤ x.k.g.size) (hroom : roomB T x.k.g = true) (h8 : grpT T ≤ 8) : grpT (putT T x) ≤ 8 := by
 have hr' := putT_ris T x hr
 have hne' : ∀ r ∈ putT T x, 1 ≤ r.k.g.size := fun r h => by
  rcases (putT_mem T x r hr).1 h with rfl | ⟨h, _⟩
  ·exact hx
  ·exact hne r h
 obtain ⟨L, hn, hl, hc, _⟩ := grps hr hne
 unfold roomB at hroom
 rw [Bool.or_eq_true] at hroom
 rcases hroom with h | h
 ·obtain ⟨q, hq, e⟩ := List.any_eq_true.1 h
  have e : q.k.g = x.k.g := of_decide_eq_true e
  have := grp_sub hr' hne' L (fun r h => by
   rcases (putT_mem T x r hr).1 h with rfl | ⟨h, _⟩
   ·rw [← e]; exact hc q hq
   ·exact hc r h)
  omega
 ·have h := of_decide_eq_true h
  have := grp_sub hr' hne' (x.k.g :: L) (fun r h => by
   rcases (putT_mem T x r hr).1 h with rfl | ⟨h, _⟩
   ·exact List.mem_cons_self ..
   ·exact List.mem_cons_of_mem _ (hc r h))
  rw [List.length_cons] at this
  omega
theorem run8 (l : List Ac) : grpT (runT l) ≤ 8 := by
 have h : ∀ (l : List Ac) (T : List Rw), okT T ∧ T.Pairwise (fun a b => kLt a.k b.k) ∧ grpT T ≤ 8 → grpT (l.foldl actT T) ≤ 8 := by
  intro l
  induction l with
  | nil => intro T h; exact h.2.2
  | cons x l ih =>
   intro T h
   rw [List.foldl_cons]
   refine ih _ ?_
   have h1 : okT (actT T x) ∧ (actT T x).Pairwise (fun a b => kLt a.k b.k) := by
    unfold actT
    split
    ·refine ⟨okT_app h.1 h.2.1 _ _, ?_⟩
     unfold appT cmtT clrT witT
     split
     ·split
      ·exact h.2.1
      ·split
       ·exact putT_ris _ _ h.2.1
       ·exact h.2.1
     ·split
      ·split
       ·exact h.2.1
       ·exact h.2.1.filter _
      ·exact h.2.1
    ·exact ⟨h.1, h.2.1⟩
   refine ⟨h1.1, h1.2, ?_⟩
   unfold actT
   split
   ·unfold appT cmtT clrT witT
    split
    ·split
     ·exact h.2.2
     ·rename_i y hy
      split
      ·rename_i hroom
       exact grp_put h.2.1 (okT_ne h.1) (nameB_size (mayB_iff.1 (okE_may hy)).1.1).1 hroom h.2.2
      ·exact h.2.2
    ·split
     ·split
      ·exact h.2.2
      ·exact Int.le_trans (grp_filter h.2.1 (h.2.1.filter _) (okT_ne h.1) (fun r hr => ⟨r, (List.mem_filter.1 hr).1, rfl⟩)) h.2.2
     ·exact h.2.2
   ·exact h.2.2
 exact h l [] ⟨fun r hr => (by cases hr), List.Pairwise.nil, by decide⟩
theorem room_next {T : List Rw} (hr : T.Pairwise (fun a b => kLt a.k b.k)) (hne : ∀ r ∈ T, 1 ≤ r.k.g.size) (h8 : grpT T ≤ 8) (j : Nat) (hj : j < T.length) : roomB (T.take j) T[j].k.g = true := by
 unfold roomB
 cases h : (T.take j).any (fun r => decide (r.k.g = T[j].k.g))
 ·rw [Bool.false_or]
  apply decide_eq_true
  have hr' : (T.take j).Pairwise (fun a b => kLt a.k b.k) := hr.sublist (List.take_sublist _ _)
  have hne' : ∀ r ∈ T.take j, 1 ≤ r.k.g.size := fun r h => hne r (List.mem_of_mem_take h)
  obtain ⟨L, hn, hl, hc, hf⟩ := grps hr' hne'
  obtain ⟨M, _, hM, hcM, _⟩ := grps hr hne
  have hno : T[j].k.g ∉ L := fun hx => by
   obtain ⟨r, hr, e⟩ := hf _ hx
   have := List.any_eq_false.1 h r hr
   simp [e] at this
  have := nodup_le (L := T[j].k.g :: L) (M := M) (List.nodup_cons.2 ⟨hno, hn⟩) (fun x hx => by
   rcases List.mem_cons.1 hx with rfl | hx
   ·exact hcM _ (List.getElem_mem hj)
   ·obtain ⟨r, hr, rfl⟩ := hf x hx
    exact hcM r (List.mem_of_mem_take hr))
  rw [List.length_cons] at this
  omega
 ·rfl
theorem put_next {T : List Rw} (hr : T.Pairwise (fun a b => kLt a.k b.k)) (j : Nat) (hj : j < T.length) : putT (T.take j) T[j] = T.take (j + 1) := by
 rw [List.take_succ_eq_append_getElem hj]
 refine putT_last _ _ (fun r h => ?_)
 obtain ⟨i, hi, rfl⟩ := List.mem_iff_getElem.1 h
 rw [List.length_take] at hi
 rw [List.getElem_take]
 exact List.pairwise_iff_getElem.1 hr i j (by omega) hj (by omega)
end Go.Proofs.Ytohhlkabejangaa.Of

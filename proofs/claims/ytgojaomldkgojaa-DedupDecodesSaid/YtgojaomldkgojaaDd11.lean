import Derived.Test.YtgojaomldkgojaaDdN
namespace Go.Proofs.Ytgojaomldkgojaa.Dd
set_option linter.unusedVariables false
set_option linter.unusedSimpArgs false
open Go.RowKit Go.Maps Go.Proofs.YtgojaomldkgojaaW.PrintWords Go.Proofs.YtgojaomldkgojaaW.PrintLast Go.Proofs.YtgojaomldkgojaaW.PrintMore Go.Proofs.Ytgojaomldkgojaa.PDd Go.Proofs.Ytgojaomldkgojaa.Hand Go.Proofs.Ytgojaomldkgojaa.PureNums
/-! Decode of Encode is the table; Encode of Decode are the bytes. -/
theorem ex_behind (A X : ByteArray) : (A ++ X).extract A.size (A ++ X).size = X := by
  apply ByteArray.ext
  apply Array.toList_inj.1
  rw [ByteArray.data_extract, Array.toList_extract, ByteArray.data_append, Array.toList_append, ByteArray.size_append]
  have h1 : A.size = A.data.toList.length := (data_length A).symm
  have h2 : X.size = X.data.toList.length := (data_length X).symm
  rw [h1, h2]
  simp
  exact List.take_of_length_le (by omega)
theorem ex_join (s : ByteArray) (i j : Nat) (h : i ≤ j) (hj : j ≤ s.size) : s.extract 0 i ++ s.extract i j = s.extract 0 j := by
  apply ByteArray.ext
  apply Array.toList_inj.1
  rw [ByteArray.data_append, Array.toList_append, ByteArray.data_extract, ByteArray.data_extract, ByteArray.data_extract, Array.toList_extract, Array.toList_extract, Array.toList_extract]
  simp only [List.extract_eq_take_drop, Nat.sub_zero, List.drop_zero]
  rw [show j = i + (j - i) by omega, List.take_add, show i + (j - i) - i = j - i by omega]
theorem ex_ex (s : ByteArray) (i k : Nat) (h : i + k ≤ s.size) : (s.extract i s.size).extract 0 k = s.extract i (i + k) := by
  apply ByteArray.ext
  apply Array.toList_inj.1
  rw [ByteArray.data_extract, ByteArray.data_extract, ByteArray.data_extract, Array.toList_extract, Array.toList_extract, Array.toList_extract]
  simp only [List.extract_eq_take_drop, Nat.sub_zero, List.drop_zero]
  have h1 : s.size = s.data.toList.length := (data_length s).symm
  rw [List.take_take, show i + k - i = k by omega, show min k (s.size - i) = k by omega]
theorem bytes_eq' {a b : ByteArray} (h : a.toList = b.toList) : a = b := by
  rw [ByteArray.toList_eq, ByteArray.toList_eq] at h
  exact ByteArray.ext (Array.toList_inj.1 h)
def catL : List La → ByteArray
  | [] => ⟨#[]⟩
  | x :: l => chs (one4 x) ++ catL l
theorem cat_fold (l : List La) (acc : ByteArray) : l.foldl encS acc = acc ++ catL l := by
  induction l generalizing acc with
  | nil => exact (str_nil_append acc).symm
  | cons x l ih =>
    rw [List.foldl_cons, ih, catL, encS, ByteArray.append_assoc]
theorem enc_cat (l : List La) : encL l = chN (l.length : Int) ++ catL l := by
  unfold encL
  rw [cat_fold]
  have e : chs [(l.length : Int)] = chN (l.length : Int) := nil_app _
  rw [e]
theorem cat_snoc (l : List La) (x : La) : catL (l ++ [x]) = catL l ++ chs (one4 x) := by
  induction l with
  | nil => show chs (one4 x) ++ ⟨#[]⟩ = ⟨#[]⟩ ++ chs (one4 x); rw [str_nil_append, nil_app]
  | cons y l ih => rw [List.cons_append, catL, ih, catL, ByteArray.append_assoc]
theorem nm_chain (A B : ByteArray) (v : Int) (h : okN v) (h2 : v ≤ 1099511627776) : nm (A ++ (chN v ++ B)) (A.size : Int) = some (v, ((A ++ chN v).size : Int)) := by
  unfold nm
  rw [Int.toNat_natCast, ex_behind, U_chain v h B]
  simp only
  rw [if_pos ⟨by trivial, h2⟩, ByteArray.size_append]
  simp
theorem nm_J (B : ByteArray) : ∀ (vs : List Int) (A : ByteArray) (q : List Int), (∀ v ∈ vs, okN v ∧ v ≤ 1099511627776) → nmJ (A ++ (chs vs ++ B)) vs.length (A.size : Int) q = some (q ++ vs, ((A ++ chs vs).size : Int)) := by
  intro vs
  induction vs with
  | nil =>
    intro A q h
    show some (q, (A.size : Int)) = _
    have : chs [] = ⟨#[]⟩ := rfl
    rw [this, str_nil_append, List.append_nil]
  | cons v vs ih =>
    intro A q h
    have hv := h v List.mem_cons_self
    have e : chs (v :: vs) = chN v ++ chs vs := by
      show vs.foldl (fun s n => s ++ chN n) (⟨#[]⟩ ++ chN v) = _
      rw [chs_acc, nil_app]
    rw [e, ByteArray.append_assoc, List.length_cons, nmJ, nm_chain A (chs vs ++ B) v hv.1 hv.2]
    simp only
    have := ih (A ++ chN v) (q ++ [v]) (fun w hw => h w (List.mem_cons_of_mem _ hw))
    rw [ByteArray.append_assoc] at this
    rw [this]
    simp only [List.append_assoc, List.cons_append, List.nil_append, ByteArray.append_assoc]
theorem one4_ok {x : La} (h : okL x) : ∀ v ∈ one4 x, okN v ∧ v ≤ 1099511627776 := by
  have h1 := of_decide_eq_true h.1
  have h2 := h.2
  intro n hn
  unfold okN
  simp only [one4, List.mem_cons, List.not_mem_nil, or_false] at hn
  rcases hn with rfl | rfl | rfl | rfl <;> omega
theorem noteE_ok (l : List La) (x : La) (h : okL x) (hl : l.length < 16) : noteE l x = 0 := by
  unfold noteE
  rw [if_pos (show mayB x.f0 x.f1 x.f2 = true ∧ 0 ≤ x.f3 ∧ x.f3 ≤ 1048576 from h), if_neg (fun hh => by omega)]
theorem dec_cat (more : ByteArray) : ∀ (rest done : List La) (A : ByteArray), Ris (done ++ rest) → (∀ x ∈ rest, okL x) → (∀ x ∈ done, 1 ≤ x.f0) → done.length + rest.length ≤ 16 →
    decR (A ++ (catL rest ++ more)) rest.length (A.size : Int) done = some (done ++ rest, ((A ++ catL rest).size : Int)) := by
  intro rest
  induction rest with
  | nil =>
    intro done A _ _ _ _
    show some (done, (A.size : Int)) = some (done ++ [], ((A ++ (⟨#[]⟩ : ByteArray)).size : Int))
    rw [str_nil_append, List.append_nil]
  | cons x rest ih =>
    intro done A hr hok hd hlen
    have hx := hok x List.mem_cons_self
    have h4 : four (A ++ (catL (x :: rest) ++ more)) (A.size : Int) = some (one4 x, ((A ++ chs (one4 x)).size : Int)) := by
      have := nm_J (catL rest ++ more) (one4 x) A [] (one4_ok hx)
      rw [catL, ByteArray.append_assoc]
      exact this
    have hx1 : 1 ≤ x.f0 := by have := of_decide_eq_true hx.1; exact this.1
    have hlp : lastP done < x.f0 := by
      unfold lastP
      cases hl : done.getLast? with
      | none => simp only; omega
      | some y =>
        simp only
        have hy := List.mem_of_getLast? hl
        exact (List.pairwise_append.1 hr).2.2 y hy x List.mem_cons_self
    rw [List.length_cons] at hlen ⊢
    have hto : toLa (one4 x) = x := rfl
    rw [decR, h4]
    simp only [hto]
    rw [if_pos ⟨hlp, noteE_ok done x hx (by omega)⟩]
    have := ih (done ++ [x]) (A ++ chs (one4 x)) (by rw [List.append_assoc]; exact hr) (fun y hy => hok y (List.mem_cons_of_mem _ hy)) (fun y hy => by
      rcases List.mem_append.1 hy with hy | hy
      · exact hd y hy
      · rw [List.mem_singleton.1 hy]; exact hx1) (by rw [List.length_append]; simp; omega)
    rw [ByteArray.append_assoc] at this
    rw [catL, ByteArray.append_assoc, this]
    simp only [List.append_assoc, List.cons_append, List.nil_append, ByteArray.append_assoc]
/-- Decode of Encode is the table, whatever stands behind -/
theorem dec_enc (l : List La) (more : ByteArray) (hr : Ris l) (hok : ∀ x ∈ l, okL x) (hl : l.length ≤ 16) : dec (encL l ++ more) = some (l, ((encL l).size : Int)) := by
  have h0 : nm (encL l ++ more) 0 = some ((l.length : Int), ((chN (l.length : Int)).size : Int)) := by
    have := nm_chain ⟨#[]⟩ (catL l ++ more) (l.length : Int) ⟨by omega, by omega⟩ (by omega)
    rw [nil_app, nil_app] at this
    rw [enc_cat, ByteArray.append_assoc]
    exact this
  unfold dec
  rw [h0]
  simp only
  rw [if_neg (by omega), Int.toNat_natCast, enc_cat, ByteArray.append_assoc]
  exact dec_cat more l [] (chN (l.length : Int)) hr hok (fun x hx => absurd hx (by simp)) (by simpa using hl)
theorem nm_back {s : ByteArray} {a v a2 : Int} (h0 : 0 ≤ a) (h1 : a ≤ s.size) (h : nm s a = some (v, a2)) : chN v = s.extract a.toNat a2.toNat := by
  have hr := nm_range h0 h1 h
  unfold nm at h
  have hu := U_range (s.extract a.toNat s.size)
  split at h
  · rename_i c
    have h9 := Option.some.inj h
    have e1 := congrArg Prod.fst h9
    have e2 := congrArg Prod.snd h9
    simp only at e1 e2
    have hb := U_back _ c.1
    rw [e1] at hb
    rw [bytes_eq' hb, ex_ex s _ _ (by omega)]
    congr 1
    omega
  · cases h
theorem nmJ_back (s : ByteArray) : ∀ (r : Nat) (a : Int) (q q2 : List Int) (a2 : Int), 0 ≤ a → a ≤ s.size → nmJ s r a q = some (q2, a2) → ∃ vs, vs.length = r ∧ q2 = q ++ vs ∧ chs vs = s.extract a.toNat a2.toNat ∧ a ≤ a2 ∧ a2 ≤ s.size
  | 0, a, q, q2, a2, h0, h1, h => by
    have h9 := Option.some.inj h
    obtain rfl := congrArg Prod.fst h9
    obtain rfl := congrArg Prod.snd h9
    refine ⟨[], rfl, (List.append_nil _).symm, ?_, Int.le_refl _, h1⟩
    show (⟨#[]⟩ : ByteArray) = s.extract a.toNat a.toNat
    apply ByteArray.ext
    simp
  | r + 1, a, q, q2, a2, h0, h1, h => by
    rw [nmJ] at h
    cases hn : nm s a with
    | none => rw [hn] at h; cases h
    | some x =>
      obtain ⟨v, a1⟩ := x
      rw [hn] at h
      simp only at h
      have hr := nm_range h0 h1 hn
      obtain ⟨vs, e1, e2, e3, e4, e5⟩ := nmJ_back s r a1 (q ++ [v]) q2 a2 (by omega) (by omega) h
      refine ⟨v :: vs, by rw [List.length_cons, e1], by rw [e2]; simp, ?_, by omega, e5⟩
      have e : chs (v :: vs) = chN v ++ chs vs := by
        show vs.foldl (fun s n => s ++ chN n) (⟨#[]⟩ ++ chN v) = _
        rw [chs_acc, nil_app]
      rw [e, nm_back h0 h1 hn, e3]
      have hj := ex_join s a1.toNat a2.toNat (by omega) (by omega)
      have hi := ex_join s a.toNat a1.toNat (by omega) (by omega)
      have hk := ex_join s a.toNat a2.toNat (by omega) (by omega)
      have hm : s.extract 0 a.toNat ++ (s.extract a.toNat a1.toNat ++ s.extract a1.toNat a2.toNat) = s.extract 0 a.toNat ++ s.extract a.toNat a2.toNat := by
        rw [← ByteArray.append_assoc, hi, hj, hk]
      have := congrArg (fun b => b.data.toList) hm
      simp only [ByteArray.data_append, Array.toList_append, List.append_cancel_left_eq] at this
      apply ByteArray.ext
      apply Array.toList_inj.1
      rw [ByteArray.data_append, Array.toList_append]
      exact this
theorem decR_back (s : ByteArray) : ∀ (c : Nat) (a : Int) (done l : List La) (a2 : Int), 0 ≤ a → a ≤ s.size → decR s c a done = some (l, a2) →
    l.length = done.length + c ∧ a ≤ a2 ∧ a2 ≤ s.size ∧ ∀ P : ByteArray, P ++ catL done = s.extract 0 a.toNat → P ++ catL l = s.extract 0 a2.toNat
  | 0, a, done, l, a2, h0, h1, h => by
    have h9 := Option.some.inj h
    obtain rfl := congrArg Prod.fst h9
    obtain rfl := congrArg Prod.snd h9
    exact ⟨rfl, Int.le_refl _, h1, fun P hP => hP⟩
  | c + 1, a, done, l, a2, h0, h1, h => by
    rw [decR] at h
    cases hf : four s a with
    | none => rw [hf] at h; cases h
    | some x =>
      obtain ⟨q, a1⟩ := x
      rw [hf] at h
      simp only at h
      obtain ⟨vs, e1, e2, e3, e4, e5⟩ := nmJ_back s 4 a [] q a1 h0 h1 hf
      rw [List.nil_append] at e2
      obtain rfl := e2
      obtain ⟨v0, v1, v2, v3, rfl⟩ : ∃ a b c d, q = [a, b, c, d] := by
        match q, e1 with
        | [a, b, c, d], _ => exact ⟨a, b, c, d, rfl⟩
      split at h
      · obtain ⟨g1, g2, g3, g4⟩ := decR_back s c a1 (done ++ [toLa [v0, v1, v2, v3]]) l a2 (by omega) e5 h
        refine ⟨by rw [g1, List.length_append]; simp; omega, by omega, g3, fun P hP => g4 P ?_⟩
        rw [cat_snoc, ← ByteArray.append_assoc, hP]
        have e6 : chs (one4 (toLa [v0, v1, v2, v3])) = s.extract a.toNat a1.toNat := e3
        rw [e6, ex_join s a.toNat a1.toNat (by omega) (by omega)]
      · cases h
/-- Encode of Decode are the bytes -/
theorem dec_back (s : ByteArray) (l : List La) (a : Int) (h : dec s = some (l, a)) : 0 ≤ a ∧ a ≤ s.size ∧ l.length ≤ 16 ∧ encL l = s.extract 0 a.toNat := by
  unfold dec at h
  cases hn : nm s 0 with
  | none => rw [hn] at h; cases h
  | some x =>
    obtain ⟨n, a0⟩ := x
    rw [hn] at h
    simp only at h
    have hr := nm_range (by omega) (by omega) hn
    split at h
    · cases h
    · rename_i h16
      obtain ⟨g1, g2, g3, g4⟩ := decR_back s n.toNat a0 [] l a (by omega) (by omega) h
      have g5 := g4 (chN n) (by
        show chN n ++ ⟨#[]⟩ = _
        rw [str_nil_append, nm_back (by omega) (by omega) hn]
        rfl)
      have hl : l.length = n.toNat := by rw [g1]; simp
      refine ⟨by omega, g3, by omega, ?_⟩
      rw [enc_cat, hl, Int.toNat_of_nonneg hr.1]
      exact g5
end Go.Proofs.Ytgojaomldkgojaa.Dd

import Derived.Test.YtohhlkabejangaaUAcRec
import Derived.Test.YtohhlkabejangaaUPOfx1
import Derived.Test.YtohhlkabejangaaUPOfx2
-- halved
namespace Go.Proofs.Ytohhlkabejangaa.Of
set_option linter.unusedVariables false
set_option linter.unusedSimpArgs false
open Go.RowKit Go.Maps Go.Sort Go.Lib Go.Shelf Go.Proofs.YtohhlkabejangaaW.PrintWords Go.Proofs.YtohhlkabejangaaW.PrintLast Go.Proofs.YtohhlkabejangaaW.PrintMore Go.Proofs.Ytohhlkabejangaa.POf Go.Proofs.Ytohhlkabejangaa.Wire
theorem eqA74 (d : Nat) (w : World) (x0 y0 x1 y1 : ByteArray) (x2 y2 : Int) :
  (Op.equalIn (d + 3) 74 (.agg #[.string x0, .string x1, .int .i64 x2]) (.agg #[.string y0, .string y1, .int .i64 y2])).run Try.prog w = .ok (x0.toList == y0.toList && (x1.toList == y1.toList && (x2 == y2))) w := by
 refine eqA_of Try.underlying74 (by kernel_rfl) ?_
 refine eqf_cons (by rfl) (by go_simp; rfl) (by go_simp; rfl) (by go_simp) ?_
 exact eqf_last (by rfl) (by go_simp <;> rfl) (by go_simp <;> rfl) (eqA72 d w x1 y1 x2 y2)
def bigA (r : Ac) : Bool := decide (100 < r.f2.f0.size) || (decide (100 < r.f2.f1.f0.size) || decide (300 < r.f3.f1.size))
def largeA (l : List Ac) : Bool := decide (40 < l.length) || l.any bigA
theorem rd_act (l : List Ac) (i : Nat) (hi : i < l.length) : rd_T81 l (i : Int) = l[i] := by
 unfold rd_T81
 rw [Int.toNat_natCast, List.getD_eq_getElem?_getD, List.getElem?_eq_getElem hi]
 rfl
theorem large_loop (l : List Ac) (hl : l.length ≤ 40) : ∀ (d i k : Nat), i + d = l.length → d < k → weighlocklaw24_large.l0 k l (l.length : Int) (i : Int) = some ((l.drop i).any bigA)
 | 0, i, k, hi, hk => by
  obtain ⟨k, rfl⟩ : ∃ k', k = k' + 1 := ⟨k - 1, by omega⟩
  rw [weighlocklaw24_large.l0, if_neg (by omega), List.drop_of_length_le (by omega)]
  rfl
 | d + 1, i, k, hi, hk => by
  obtain ⟨k, rfl⟩ : ∃ k', k = k' + 1 := ⟨k - 1, by omega⟩
  have hin : i < l.length := by omega
  rw [weighlocklaw24_large.l0, if_pos (by omega), if_pos (by omega), if_pos (by omega), rd_act l i hin, List.drop_eq_getElem_cons hin, List.any_cons]
  unfold bigA
  by_cases h1 : ((l[i].f2.f0.size : Int) > 100)
  ·rw [if_pos h1, decide_eq_true (show 100 < l[i].f2.f0.size by omega), Bool.true_or, Bool.true_or]
  ·rw [if_neg h1, decide_eq_false (show ¬ 100 < l[i].f2.f0.size by omega), Bool.false_or]
   by_cases h2 : ((l[i].f2.f1.f0.size : Int) > 100)
   ·rw [if_pos h2, decide_eq_true (show 100 < l[i].f2.f1.f0.size by omega), Bool.true_or, Bool.true_or]
   ·rw [if_neg h2, decide_eq_false (show ¬ 100 < l[i].f2.f1.f0.size by omega), Bool.false_or]
    by_cases h3 : ((l[i].f3.f1.size : Int) > 300)
    ·rw [if_pos h3, decide_eq_true (show 300 < l[i].f3.f1.size by omega), Bool.true_or]
    ·rw [if_neg h3, decide_eq_false (show ¬ 300 < l[i].f3.f1.size by omega), Bool.false_or, w64o _ (by omega) (by omega)]
     exact large_loop l hl d (i + 1) k (by omega) (by omega)
theorem large_f (l : List Ac) : weighlocklaw24_large.f 100 l = some (largeA l) := by
 unfold weighlocklaw24_large.f largeA
 by_cases h : (l.length : Int) > 40
 ·rw [if_pos h, decide_eq_true (show 40 < l.length by omega), Bool.true_or]
 ·rw [if_neg h, decide_eq_false (show ¬ 40 < l.length by omega), Bool.false_or]
  exact large_loop l (by omega) l.length 0 100 (by omega) (by omega)
theorem largeA_no {l : List Ac} (h : largeA l = false) : l.length ≤ 40 ∧ ∀ r ∈ l, r.f2.f0.size ≤ 100 ∧ r.f2.f1.f0.size ≤ 100 ∧ r.f3.f1.size ≤ 300 := by
 unfold largeA at h
 rw [Bool.or_eq_false_iff, decide_eq_false_iff_not, List.any_eq_false] at h
 refine ⟨by omega, fun s hs => ?_⟩
 have := h.2 s hs
 unfold bigA at this
 simp at this
 omega
theorem large_calls (A : Option Addr) (c : Nat) (l : List Ac) (w : World) (hA : Kd.C k81 w A l.length l) (hc : l.length ≤ c) :
  Calls Try.prog 42 #[.slice A l.length c] w fun e w' => e = .returned (.bool (largeA l)) ∧ Below w.heap.size w w' := by
 refine (weighlocklaw24_large.calls 100 A c l _ w hA hc (large_f l)).mono ?_
 rintro e w' h
 first
  | exact h
  | (obtain ⟨rfl, ⟨nd, rfl⟩⟩ := h; exact ⟨rfl, pw_below_drewN (Below.refl _ _) nd⟩)
  | (obtain ⟨h1, h2⟩ := h; exact ⟨h1, h2.below⟩)
theorem at_act {w : World} {A : Option Addr} {n : Nat} {xs : List Ac} (h : Kd.C k81 w A n xs) (i : Nat) (hi : i < n) (hx : i < xs.length) :
  ∃ ad, A = some ad ∧ (∀ (j : Nat) (u : Value), (Ac.cs xs[i])[j]? = some u → w.cell? ((ad.add (i * 7)).add j) = some u) := by
 obtain ⟨ad, c, e, hs, hK, hc⟩ := Kd.C_get h z81 (i : Int) (by omega) (by omega)
 have hq := k81_open hK
 rw [Int.toNat_natCast] at hc hq
 have hgd : xs.getD i z81 = xs[i] := by rw [List.getD_eq_getElem?_getD, List.getElem?_eq_getElem hx]; rfl
 rw [hgd] at hq
 subst hq
 refine ⟨ad, e, fun j u hu => ?_⟩
 rw [Go.Deep.add_add]
 exact hc j u (by simpa [Ac.cs] using hu)
def actE (T : List Rw) (x : Ac) : To := madE T x.f0 x.f1 x.f2.f0 x.f2.f1.f0 x.f2.f1.f1 x.f3.f0 x.f3.f1
noncomputable def actT (T : List Rw) (x : Ac) : List Rw := if (actE T x).err = 0 then appT T (actE T x).kind (actE T x).pl else T
noncomputable def runT (l : List Ac) : List Rw := l.foldl actT []
theorem runT_step (l : List Ac) (j : Nat) (hj : j < l.length) : runT (l.take (j + 1)) = actT (runT (l.take j)) l[j] := by
 unfold runT
 rw [List.take_succ_eq_append_getElem hj, List.foldl_append]
 rfl
theorem putT_le (x : Rw) : ∀ T : List Rw, (putT T x).length ≤ T.length + 1
 | [] => by simp [putT]
 | y :: l => by
  unfold putT
  split
  ·simp
  ·split
   ·simp
   ·simp only [List.length_cons]
    have := putT_le x l
    omega
theorem appT_le (T : List Rw) (k : Int) (s : ByteArray) : (appT T k s).length ≤ T.length + 1 := by
 unfold appT cmtT clrT witT
 split
 ·split
  ·omega
  ·split
   ·exact putT_le _ _
   ·omega
 ·split
  ·split
   ·omega
   ·exact Nat.le_succ_of_le (List.length_filter_le _ _)
  ·omega
theorem actT_le (T : List Rw) (x : Ac) : (actT T x).length ≤ T.length + 1 := by
 unfold actT
 split
 ·exact appT_le _ _ _
 ·omega
theorem runT_le (l : List Ac) : (runT l).length ≤ l.length := by
 have h : ∀ (l : List Ac) (T : List Rw), (l.foldl actT T).length ≤ T.length + l.length := by
  intro l
  induction l with
  | nil => intro T; simp
  | cons x l ih =>
   intro T
   rw [List.foldl_cons, List.length_cons]
   have h1 := ih (actT T x)
   have h2 := actT_le T x
   omega
 have := h l []
 simpa [runT] using this
theorem comE_cases (T : List Rw) (k0 k1 : ByteArray) (k2 n : Int) : (comE T k0 k1 k2 n = ⟨1, entS k0 k1 k2 n, 0⟩ ∧ mayB k0 k1 k2 n = true ∧ roomB T k0 = true) ∨ (∃ e : Int, comE T k0 k1 k2 n = ⟨0, ⟨#[]⟩, e⟩ ∧ e ≠ 0) := by
 unfold comE
 by_cases h1 : mayB k0 k1 k2 n = true
 ·rw [if_pos h1]
  by_cases h2 : roomB T k0 = true
  ·rw [if_pos h2]; exact .inl ⟨rfl, h1, h2⟩
  ·rw [if_neg h2]; exact .inr ⟨5, rfl, by decide⟩
 ·rw [if_neg h1]; exact .inr ⟨1, rfl, by decide⟩
theorem clrE_cases (x : ByteArray) : (clrE x = ⟨2, textS x, 0⟩ ∧ nameB x = true) ∨ (clrE x = ⟨0, ⟨#[]⟩, 1⟩ ∧ nameB x = false) := by
 unfold clrE
 cases h : nameB x
 ·exact .inr ⟨rfl, rfl⟩
 ·exact .inl ⟨rfl, rfl⟩
theorem actE_size (T : List Rw) (x : Ac) (hx : x.f3.f1.size ≤ 300) : (actE T x).pl.size ≤ 300 := by
 unfold actE madE
 split
 ·rcases comE_cases T x.f2.f0 x.f2.f1.f0 x.f2.f1.f1 x.f1 with ⟨e, h, _⟩ | ⟨_, e, _⟩
  ·rw [e]; exact Nat.le_trans (entS_size h) (by omega)
  ·rw [e]; exact Nat.zero_le _
 ·split
  ·rcases clrE_cases x.f2.f1.f0 with ⟨e, h⟩ | ⟨e, _⟩
   ·rw [e]
    have h1 := nameB_size h
    have h2 := textS_size x.f2.f1.f0 (by omega)
    show (textS x.f2.f1.f0).size ≤ 300
    omega
   ·rw [e]; exact Nat.zero_le _
  ·exact hx
theorem app_com {T : List Rw} {k0 k1 : ByteArray} {k2 n : Int} (h1 : mayB k0 k1 k2 n = true) (h2 : roomB T k0 = true) : appB T 1 (entS k0 k1 k2 n) = true ∧ appT T 1 (entS k0 k1 k2 n) = putT T ⟨⟨k0, k1, k2⟩, n⟩ := by
 unfold appB appT cmtB cmtT
 rw [if_pos rfl, if_pos rfl, okE_ent h1]
 exact ⟨h2, if_pos h2⟩
theorem okC_text {x : ByteArray} (h : nameB x = true) : okC (textS x) = some x := by
 have z := nameB_size h
 have e : rdText (textS x, false) = (x, (⟨#[]⟩, false)) := by
  have := text_fwd x (by omega) ⟨#[]⟩
  rwa [Go.Proofs.Ytohhlkabejangaa.PureNums.str_nil_append] at this
 unfold okC
 rw [e]
 dsimp only
 rw [if_neg (by simp), if_pos (show (⟨#[]⟩ : ByteArray).size = 0 from rfl), if_pos h]
theorem app_clr {T : List Rw} {x : ByteArray} (h : nameB x = true) : appB T 2 (textS x) = true ∧ appT T 2 (textS x) = witT T x := by
 unfold appB appT clrT
 rw [if_neg (by decide), if_pos rfl, if_neg (by decide), if_pos rfl, okC_text h]
 exact ⟨rfl, rfl⟩
theorem valT_mem {T : List Rw} (hr : T.Pairwise (fun a b => kLt a.k b.k)) {r : Rw} (h : r ∈ T) : valT T r.k = r.v ∧ isT T r.k = true := by
 refine ⟨?_, (isT_iff _ _).2 ⟨r, h, rfl⟩⟩
 unfold valT
 cases hf : T.find? (fun q => decide (q.k = r.k)) with
 | none =>
  have := List.find?_eq_none.1 hf r h
  simp at this
 | some q =>
  have hq := List.mem_of_find?_eq_some hf
  have hq2 : q.k = r.k := by simpa using List.find?_some hf
  by_cases e : q = r
  ·rw [e]
  ·exfalso
   obtain ⟨i, hi, rfl⟩ := List.mem_iff_getElem.1 hq
   obtain ⟨j, hj, rfl⟩ := List.mem_iff_getElem.1 h
   have hij : i ≠ j := fun q => by subst q; exact e rfl
   rcases Nat.lt_or_gt_of_ne hij with h1 | h1
   ·exact kLt_irr _ (hq2 ▸ List.pairwise_iff_getElem.1 hr i j hi hj h1)
   ·exact kLt_irr _ (hq2 ▸ List.pairwise_iff_getElem.1 hr j i hj hi h1)
theorem Tab.ris {W : World} {a b : Nat} {T : List Rw} (h : Tab W a b T) : T.Pairwise (fun a b => kLt a.k b.k) := by
 obtain ⟨_, _, _, q⟩ := h.own
 exact q.ris
theorem Tab.okk {W : World} {a b : Nat} {T : List Rw} (h : Tab W a b T) : ∀ r ∈ T, okK r.k := by
 obtain ⟨_, _, _, q⟩ := h.own
 exact q.ok
end Go.Proofs.Ytohhlkabejangaa.Of

import Derived.Test.YtbpdgpaoibcilaaPureNums0
namespace Go.Proofs.Ytbpdgpaoibcilaa.PureNums
open Go.RowKit Go.Proofs.YtbpdgpaoibcilaaW.PrintWords Go.Proofs.YtbpdgpaoibcilaaW.PrintLast Go.Proofs.YtbpdgpaoibcilaaW.PrintMore Go.Proofs.Ytbpdgpaoibcilaa.Hand Go.Proofs.Ytbpdgpaoibcilaa.PNums
set_option linter.unusedVariables false

theorem some_ok : weighlocklaw01_some.f 40 = some true := by decide +kernel
theorem wf_u64 {x : Int} (h : (Lit.int .u64 x).wf = true) : 0 ≤ x ∧ x < 18446744073709551616 := by
  simp only [Lit.wf, Bool.and_eq_true, decide_eq_true_eq] at h
  have a : IntKind.u64.min = 0 := by decide +kernel
  have b : IntKind.u64.max = 18446744073709551615 := by decide +kernel
  omega
theorem wf_i64 {x : Int} (h : (Lit.int .i64 x).wf = true) : -9223372036854775808 ≤ x ∧ x ≤ 9223372036854775807 := by
  simp only [Lit.wf, Bool.and_eq_true, decide_eq_true_eq] at h
  have a : IntKind.i64.min = -9223372036854775808 := by decide +kernel
  have b : IntKind.i64.max = 9223372036854775807 := by decide +kernel
  omega

theorem str_append (a b : List Int) : strOfNums (a ++ b) = strOfNums a ++ strOfNums b := by
  apply ByteArray.ext
  rw [ByteArray.data_append]
  simp [strOfNums]
theorem str_toList (s : ByteArray) : s.toList = s.data.toList := by
  exact ByteArray.toList_eq s
theorem bt_str (xs : List Int) (more : ByteArray) (i : Nat) (hi : i < xs.length) (h0 : 0 ≤ xs[i]) (h1 : xs[i] < 256) : bt (strOfNums xs ++ more) i = xs[i] := by
  unfold bt
  have hsz : (strOfNums xs).size = xs.length := strOfNums_size xs
  have hlt : (i : Int).toNat < (strOfNums xs ++ more).size := by rw [ByteArray.size_append, hsz]; omega
  rw [dif_pos hlt]
  have e : (strOfNums xs ++ more)[(i : Int).toNat] = UInt8.ofNat (xs[i]).toNat := by
    rw [ByteArray.getElem_append_left (by rw [hsz]; omega)]
    show (strOfNums xs).data[(i : Int).toNat]'_ = _
    simp [strOfNums]
  rw [e]
  simp
  omega

/-- what a list of bytes is worth -/
def lv : List Int → Int
  | [] => 0
  | b :: t => b % 128 + 128 * lv t
theorem rv_lv (s : ByteArray) (xs : List Int) : ∀ m : Nat, (∀ i (h : i < xs.length), bt s ((m + i : Nat) : Int) = xs[i]) → rv s m xs.length = lv xs := by
  induction xs with
  | nil => intro m _; rfl
  | cons x xs ih =>
    intro m h
    have h0 := h 0 (by simp)
    have h1 := ih (m + 1) (fun i hi => by have := h (i + 1) (by simp; omega); rw [show m + 1 + i = m + (i + 1) by omega]; simpa using this)
    simp only [List.length_cons, rv, lv, h1]
    have : bt s (m : Int) = x := by simpa using h0
    rw [this]
/-- the chain of a number: its bytes -/
structure ChainOf (f : Nat) (v : Int) (xs : List Int) : Prop where
  pos : 1 ≤ xs.length
  le : xs.length ≤ f
  on : ∀ i (h : i < xs.length), i + 1 < xs.length → 128 ≤ xs[i] ∧ xs[i] < 256
  last : ∀ (h : xs.length - 1 < xs.length), 0 ≤ xs[xs.length - 1] ∧ xs[xs.length - 1] < 128
  nz : 0 < v → ∀ (h : xs.length - 1 < xs.length), xs[xs.length - 1] ≠ 0
  top : v < 2 * 128 ^ (f - 1) → xs.length = f → ∀ (h : xs.length - 1 < xs.length), xs[xs.length - 1] ≤ 1
  worth : lv xs = v
theorem chain_of (f : Nat) : ∀ v : Int, 1 ≤ f → 0 ≤ v → v < 128 ^ f → ChainOf f v (chainF f v) := by
  induction f with
  | zero => intro v h; omega
  | succ f ih =>
    intro v _ h0 h1
    by_cases hv : v < 128
    · rw [chainF_last _ _ hv (by omega)]
      refine ⟨by simp, by simp, by simp, by simp; omega, by simp; omega, ?_, ?_⟩
      · intro ht hl h
        simp at hl
        subst hl
        simp at ht ⊢
        omega
      · simp [lv]; omega
    · rw [chainF_more _ _ hv (by omega), Nat.add_sub_cancel]
      have hp := pow_two_le (f + 1) v h1 (by omega)
      have hq : v / 128 < 128 ^ f := hp.2
      have := ih (v / 128) (by omega) (by omega) hq
      refine ⟨by simp, by simp; exact this.le, ?_, ?_, ?_, ?_, ?_⟩
      · intro i h hi
        match i with
        | 0 => simp; omega
        | i + 1 => simpa using this.on i (by simpa using h) (by simpa using hi)
      · have hl := this.pos
        have e : ((v % 128 + 128) :: chainF f (v / 128)).length - 1 = ((chainF f (v / 128)).length - 1) + 1 := by simp; omega
        intro h
        have := this.last (by omega)
        simp only [e, List.getElem_cons_succ]
        exact this
      · intro _
        have e : ((v % 128 + 128) :: chainF f (v / 128)).length - 1 = ((chainF f (v / 128)).length - 1) + 1 := by have := this.pos; simp; omega
        intro h
        simp only [e, List.getElem_cons_succ]
        exact this.nz (by omega) _
      · intro ht hl h
        have e : ((v % 128 + 128) :: chainF f (v / 128)).length - 1 = ((chainF f (v / 128)).length - 1) + 1 := by have := this.pos; simp; omega
        simp only [e, List.getElem_cons_succ]
        refine this.top ?_ (by simpa using hl) _
        have hf2 : 2 ≤ f + 1 := hp.1
        obtain ⟨g, rfl⟩ : ∃ g, f = g + 1 := ⟨f - 1, by omega⟩
        simp only [Nat.add_sub_cancel] at ht ⊢
        rw [Int.pow_succ] at ht
        generalize (128 : Int) ^ g = p at *
        omega
      · simp only [lv, this.worth]
        omega

theorem small_wrap (x : Int) (h0 : 0 ≤ x) (h1 : x < 256) : (IntKind.u64.wrap x) % 256 = x := by rw [wu64 _ h0 (by omega)]; omega
theorem ref_chain (f : Nat) : ∀ v : Int, 1 ≤ f → f ≤ 10 → 0 ≤ v → v < 18446744073709551616 → v < 128 ^ f → weighlockref01_Chain.f f v = some (strOfNums (chainF f v)) := by
  induction f with
  | zero => intro v h; omega
  | succ f ih =>
    intro v _ hf h0 hu h1
    simp only [weighlockref01_Chain.f]
    by_cases hv : v < 128
    · rw [if_pos hv, chainF_last _ _ hv (by omega), show v % 256 = v by omega]
    · rw [if_neg hv, chainF_more _ _ hv (by omega), Nat.add_sub_cancel]
      have hp := pow_two_le (f + 1) v h1 (by omega)
      have hq : v / 128 < 128 ^ f := hp.2
      have ht : Int.tmod v 128 = v % 128 := Int.tmod_eq_emod_of_nonneg h0
      have hd : Int.tdiv v 128 = v / 128 := Int.tdiv_eq_ediv_of_nonneg h0
      have g1 : (IntKind.u64.wrap (128 + v % 128)) % 256 = v % 128 + 128 := by rw [small_wrap _ (by omega) (by omega)]; omega
      have g2 : IntKind.u64.wrap (v / 128) = v / 128 := wu64 _ (by omega) (by omega)
      have hc := chain_of f (v / 128) (by omega) (by omega) hq
      rw [ht, hd, g1, g2, ih (v / 128) (by omega) (by omega) (by omega) (by omega) hq]
      simp only [Option.bind_some]
      rw [if_pos (by rw [strOfNums_size, strOfNums_size]; have := hc.le; simp; omega), ← str_append]
      rfl
/-- Unchain of a chain, whatever stands behind -/
theorem run_chain (v : Int) (h0 : 0 ≤ v) (h1 : v < 18446744073709551616) (more : ByteArray) :
    Run (strOfNums (chainF 10 v) ++ more) ((chainF 10 v).length - 1) ∧ unch (strOfNums (chainF 10 v) ++ more) ((chainF 10 v).length - 1) = (v, ((chainF 10 v).length : Int), 0) := by
  have hp : v < 128 ^ 10 := by have : (128 : Int) ^ 10 = 1180591620717411303424 := by decide +kernel
                               rw [this]; omega
  have hc := chain_of 10 v (by omega) h0 hp
  have ht9 : v < 2 * 128 ^ (10 - 1) := by have : (128 : Int) ^ (10 - 1) = 9223372036854775808 := by decide +kernel
                                          rw [this]; omega
  have hl1 : (chainF 10 v).length ≠ 1 → 0 < v := by
    intro h
    rcases Int.lt_or_le 0 v with q | q
    · exact q
    · exact absurd (by rw [chainF_last 10 v (by omega) (by omega)]; rfl) h
  generalize hx : chainF 10 v = xs at *
  have hpos := hc.pos
  have hle := hc.le
  have hlast := hc.last (by omega)
  have hsz : (strOfNums xs ++ more).size = xs.length + more.size := by rw [ByteArray.size_append, strOfNums_size]
  have hbt : ∀ i (h : i < xs.length), bt (strOfNums xs ++ more) i = xs[i] := by
    intro i h
    by_cases hi : i + 1 < xs.length
    · have := hc.on i h hi
      exact bt_str xs more i h (by omega) (by omega)
    · have e : i = xs.length - 1 := by omega
      subst e
      exact bt_str xs more _ h (by omega) (by omega)
  have hbl := hbt (xs.length - 1) (by omega)
  refine ⟨⟨by omega, ?_, .inr (.inr ⟨by omega, by rw [hbl]; omega⟩)⟩, ?_⟩
  · intro i hi
    refine ⟨by omega, ?_⟩
    rw [hbt i (by omega)]
    exact (hc.on i (by omega) (by omega)).1
  · unfold unch
    rw [if_neg, if_neg (by omega), if_neg]
    · have hval : pv (strOfNums xs ++ more) xs.length = v := by
        have a := pv_rv (strOfNums xs ++ more) xs.length 0
        have b := rv_lv (strOfNums xs ++ more) xs 0 (fun i h => by rw [Nat.zero_add]; exact hbt i h)
        rw [Nat.zero_add, b, hc.worth] at a
        simpa [pv] using a
      rw [show xs.length - 1 + 1 = xs.length by omega, hval]
      congr 2
      omega
    · rintro ⟨a, b⟩
      rw [hbl] at b
      exact hc.nz (hl1 (by omega)) (by omega) b
    · rintro (h | ⟨h9, hs, hb⟩)
      · omega
      · have h10 : xs.length = 10 := by omega
        have q : xs[9] ≤ 1 := by
          have q := hc.top ht9 h10 (by omega)
          simpa [h9] using q
        have h99 := hbt 9 (by omega)
        have c9 : ((9 : Nat) : Int) = 9 := rfl
        rw [c9] at h99
        omega
/-- the bytes from m on, j of them -/
def bl (s : ByteArray) : Nat → Nat → List Int
  | _, 0 => []
  | m, j + 1 => bt s m :: bl s (m + 1) j
theorem bl_str (s : ByteArray) (j : Nat) : ∀ m : Nat, m + j ≤ s.size → (strOfNums (bl s m j)).data.toList = (s.data.toList.drop m).take j := by
  induction j with
  | zero => intro m _; simp [bl, strOfNums]
  | succ j ih =>
    intro m h
    have hm : m < s.size := by omega
    have hl : m < s.data.toList.length := by rw [data_length]; exact hm
    rw [List.drop_eq_getElem_cons hl, List.take_succ_cons, ← ih (m + 1) (by omega)]
    simp only [bl, strOfNums, List.map_cons]
    congr 1
    unfold bt
    rw [dif_pos (by simpa using hm)]
    simp
    rfl
theorem bl_extract (s : ByteArray) (j : Nat) (h : j ≤ s.size) : (strOfNums (bl s 0 j)).toList = (s.extract 0 j).toList := by
  rw [str_toList, str_toList, bl_str s j 0 (by omega)]
  simp [ByteArray.data_extract, Array.toList_extract]
theorem chain_back (s : ByteArray) (j : Nat) : ∀ (m f : Nat), j + 1 ≤ f → (∀ i : Nat, i < j → 128 ≤ bt s ((m + i : Nat) : Int)) → bt s ((m + j : Nat) : Int) < 128 → (0 < j → bt s ((m + j : Nat) : Int) ≠ 0) →
    chainF f (rv s m (j + 1)) = bl s m (j + 1) ∧ (bt s ((m + j : Nat) : Int) ≠ 0 → 1 ≤ rv s m (j + 1)) := by
  induction j with
  | zero =>
    intro m f hf _ hlt _
    have hb := bt_range s m
    simp only [Nat.add_zero] at hlt ⊢
    simp only [rv, bl]
    rw [chainF_last f _ (by omega) (by omega)]
    refine ⟨by congr 1; omega, fun h => by omega⟩
  | succ j ih =>
    intro m f hf hon hlt hnz
    have hb := bt_range s m
    have h0 := hon 0 (by omega)
    rw [Nat.add_zero] at h0
    have e : m + 1 + j = m + (j + 1) := by omega
    obtain ⟨h1, h2⟩ := ih (m + 1) (f - 1) (by omega) (fun i hi => by have := hon (i + 1) (by omega); rwa [show m + 1 + i = m + (i + 1) by omega]) (by rw [e]; exact hlt) (fun _ => by rw [e]; exact hnz (by omega))
    rw [e] at h2
    have h3 := h2 (hnz (by omega))
    have er : rv s m (j + 1 + 1) = bt s m % 128 + 128 * rv s (m + 1) (j + 1) := rfl
    have eb : bl s m (j + 1 + 1) = bt s m :: bl s (m + 1) (j + 1) := rfl
    rw [er, eb, chainF_more f _ (by omega) (by omega), ← h1]
    refine ⟨?_, fun _ => by omega⟩
    congr 1
    · omega
    · congr 1; omega
theorem pv_top (s : ByteArray) (n : Nat) (hn : n ≤ 9) (h9 : n = 9 → bt s 9 ≤ 1) : pv s (n + 1) < 18446744073709551616 := by
  have e9 : (128 : Int) ^ 9 = 9223372036854775808 := by decide +kernel
  by_cases h : n = 9
  · subst h
    have h1 := h9 rfl
    have h2 := pv_range s 9
    have h3 := bt_range s 9
    have e : pv s (9 + 1) = pv s 9 + (bt s 9 % 128) * 128 ^ 9 := rfl
    rw [e, e9]
    rw [e9] at h2
    omega
  · have h2 := (pv_range s (n + 1)).2
    have hp : (128 : Int) ^ (n + 1) ≤ 128 ^ 9 := by
      have := Nat.pow_le_pow_right (show 0 < 128 by decide) (show n + 1 ≤ 9 by omega)
      exact_mod_cast this
    omega
/-- where Unchain tells no error, Chain of the number are the bytes that were read -/
theorem unch_chain (s : ByteArray) (n : Nat) (h : Run s n) (e : (unch s n).2.2 = 0) :
    unch s n = (pv s (n + 1), (n : Int) + 1, 0) ∧ n < s.size ∧ ∃ t, nums_Chain.f (pv s (n + 1)) = some t ∧ t.toList = (s.extract 0 (n + 1)).toList := by
  have hle := h.le
  unfold unch at e ⊢
  by_cases h1 : n = 10 ∨ (n = 9 ∧ 9 < s.size ∧ 1 < bt s 9)
  · rw [if_pos h1] at e; exact absurd e (by decide)
  rw [if_neg h1] at e ⊢
  by_cases h2 : n = s.size
  · rw [if_pos h2] at e; exact absurd e (by decide)
  rw [if_neg h2] at e ⊢
  by_cases h3 : 0 < n ∧ bt s n = 0
  · rw [if_pos h3] at e; exact absurd e (by decide)
  rw [if_neg h3]
  have hout : n < s.size ∧ bt s n < 128 := by
    rcases h.out with q | q | q
    · omega
    · omega
    · exact q
  have hrv : pv s (n + 1) = rv s 0 (n + 1) := by have := pv_rv s (n + 1) 0; simp [pv] at this; simp [pv]; exact this
  have hb := (chain_back s n 0 10 (by omega) (fun i hi => by rw [Nat.zero_add]; exact (h.on i hi).2) (by rw [Nat.zero_add]; exact hout.2) (fun q => by rw [Nat.zero_add]; exact fun z => h3 ⟨q, z⟩)).1
  have h99 : n = 9 → bt s 9 ≤ 1 := by
    intro q
    subst q
    by_cases z : 1 < bt s 9
    · exact absurd (.inr ⟨rfl, hout.1, z⟩) h1
    · omega
  refine ⟨rfl, hout.1, strOfNums (bl s 0 (n + 1)), ?_, bl_extract s (n + 1) (by omega)⟩
  unfold nums_Chain.f
  rw [if_pos ⟨(pv_range s (n + 1)).1, pv_top s n (by omega) h99⟩, hrv, hb]
theorem chain_f (v : Int) (h0 : 0 ≤ v) (h1 : v < 18446744073709551616) : nums_Chain.f v = some (strOfNums (chainF 10 v)) := by
  unfold nums_Chain.f; rw [if_pos ⟨h0, h1⟩]
theorem p10 (v : Int) (h1 : v < 18446744073709551616) : v < 128 ^ 10 := by
  have : (128 : Int) ^ 10 = 1180591620717411303424 := by decide +kernel
  rw [this]; omega

theorem NumsChains : weighlocklaw01_NumsChains.Pure := by
  intro v more hv hm
  obtain ⟨h0, h1⟩ := wf_u64 hv
  refine ⟨50, ?_⟩
  have hs : weighlocklaw01_some.f 50 = some true := at_rounds (g := fun k => weighlocklaw01_some.f k) weighlocklaw01_some.mono (by omega) some_ok
  unfold weighlocklaw01_NumsChains.f
  rw [hs]
  simp only [Option.bind_some]
  by_cases hl : (more.size : Int) > 100
  · rw [if_pos hl]
  · rw [if_neg hl, chain_f v h0 h1]
    have hc := chain_of 10 v (by omega) h0 (p10 v h1)
    have hle := hc.le
    obtain ⟨hr, hu⟩ := run_chain v h0 h1 more
    have hn : nums_Unchain.f 50 (strOfNums (chainF 10 v) ++ more) = some (v, ((chainF 10 v).length : Int), 0) := by
      rw [← hu]; exact at_rounds (nums_Unchain.mono _) (by omega) (nums_spec _ _ hr)
    have hr : weighlockref01_Chain.f 50 v = some (strOfNums (chainF 10 v)) := at_rounds (weighlockref01_Chain.mono _) (by omega) (ref_chain 10 v (by omega) (by omega) h0 h1 (p10 v h1))
    simp only [Option.bind_some]
    rw [if_pos (by rw [strOfNums_size]; omega), hn, hr]
    simp only [Option.bind_some]
    simp only [if_true]
    rw [if_pos (by rw [strOfNums_size]), if_pos (by rw [strOfNums_size]; omega)]
theorem NumsUnchains : weighlocklaw01_NumsUnchains.Pure := by
  intro s hm
  refine ⟨60, ?_⟩
  have hs : ∀ k, 40 ≤ k → weighlocklaw01_some.f k = some true := fun k hk => at_rounds (g := fun k => weighlocklaw01_some.f k) weighlocklaw01_some.mono hk some_ok
  unfold weighlocklaw01_NumsUnchains.f
  by_cases hl : (s.size : Int) > 100
  · rw [if_pos hl, hs 60 (by omega)]; rfl
  · obtain ⟨n, hr⟩ := run_is s
    rw [if_neg hl, at_rounds (nums_Unchain.mono _) (by omega) (nums_spec _ _ hr), at_rounds (weighlockref01_Unchain.mono _) (by omega) (ref_spec _ _ hr hm)]
    simp only [Option.bind_some]
    rw [if_pos trivial, if_pos trivial]
    simp only [weighlocklaw01_NumsUnchains.j0]
    rw [if_neg (by simp)]
    by_cases he : (unch s n).2.2 = 0
    · obtain ⟨hu, hsz, t, ht, hte⟩ := unch_chain s n hr he
      rw [if_pos he, hu]
      simp only
      rw [ht]
      simp only [Option.bind_some]
      rw [if_pos (by omega), if_pos (by omega), hs 59 (by omega), if_pos]
      · rfl
      · rw [hte]; congr 2
    · rw [if_neg he, hs 59 (by omega)]; rfl
end Go.Proofs.Ytbpdgpaoibcilaa.PureNums

import Derived.Test.YtlgihjhlkpmpnaaRWireS
namespace Go.Proofs.Ytlgihjhlkpmpnaa.Wire
set_option linter.unusedVariables false
set_option linter.unusedSimpArgs false
open Go.RowKit Go.Proofs.YtlgihjhlkpmpnaaW.PrintWords Go.Proofs.YtlgihjhlkpmpnaaW.PrintLast Go.Proofs.YtlgihjhlkpmpnaaW.PrintMore Go.Proofs.Ytlgihjhlkpmpnaa.Hand Go.Proofs.Ytlgihjhlkpmpnaa.PWire Go.Proofs.Ytlgihjhlkpmpnaa.PureNums
theorem fix2_list (n : Int) : fix2 n = strOfNums [n / 256 % 256, n % 256] := by
  unfold fix2
  congr 1
  simp [fixedL, List.range_succ]
theorem ext_bl (s : ByteArray) (i j : Nat) (h : i + j ≤ s.size) : s.extract i (i + j) = strOfNums (bl s i j) := by
  apply ba_ext
  rw [ext_list, bl_str s j i h]
  congr 1
  omega
theorem fix2_be2 (s : ByteArray) (i : Nat) (h : i + 2 ≤ s.size) : fix2 (be2 s i) = s.extract i (i + 2) := by
  have h1 := bt_range s (i : Int)
  have h2 := bt_range s ((i + 1 : Nat) : Int)
  rw [fix2_list, ext_bl s i 2 h]
  have e1 : be2 s i / 256 % 256 = bt s (i : Int) := by unfold be2; omega
  have e2 : be2 s i % 256 = bt s ((i + 1 : Nat) : Int) := by unfold be2; omega
  rw [e1, e2]
  rfl
theorem setNum_kind (y : Rq) (c n : Int) : (setNum y c n).kind = y.kind ∧ (setNum y c n).id = y.id := by
  unfold setNum
  repeat' split
  all_goals exact ⟨rfl, rfl⟩
theorem setText_kind (y : Rq) (c : Int) (s : ByteArray) : (setText y c s).kind = y.kind ∧ (setText y c s).id = y.id := by
  unfold setText
  repeat' split
  all_goals exact ⟨rfl, rfl⟩
theorem reqStep_kind (t : Rst) (c : Int) : (reqStep t c).y.kind = t.y.kind ∧ (reqStep t c).y.id = t.y.id := by
  unfold reqStep
  split
  · exact setNum_kind _ _ _
  split
  · exact setText_kind _ _ _
  split
  · exact ⟨rfl, rfl⟩
  split
  · exact ⟨rfl, rfl⟩
  exact ⟨rfl, rfl⟩
theorem reqL_kind (y : Rq) (r : Rd) (ls : List Int) : (reqL y r ls).y.kind = y.kind ∧ (reqL y r ls).y.id = y.id := by
  have : ∀ (ls : List Int) (t : Rst), (ls.foldl reqStep t).y.kind = t.y.kind ∧ (ls.foldl reqStep t).y.id = t.y.id := by
    intro ls
    induction ls with
    | nil => intro t; exact ⟨rfl, rfl⟩
    | cons c ls ih =>
      intro t
      have h1 := ih (reqStep t c)
      have h2 := reqStep_kind t c
      exact ⟨h1.1.trans h2.1, h1.2.trans h2.2⟩
  exact this ls _
theorem body_back (k i : Int) (a : Rd) (h : (reqL (rq0 k i) a (lets (formF k))).r.2 = false) (he : (reqL (rq0 k i) a (lets (formF k))).r.1.toList = []) (hm : mayB (reqL (rq0 k i) a (lets (formF k))).y (reqL (rq0 k i) a (lets (formF k))).ps = true) : bodyOf (reqL (rq0 k i) a (lets (formF k))).y (reqL (rq0 k i) a (lets (formF k))).ps = a.1 := by
  have hk := form_kind _ (may_parts hm).2.2.2
  rw [(reqL_kind _ _ _).1] at hk
  have hk1 : 1 ≤ k := hk.1
  have hk2 : k ≤ 12 := hk.2
  rcases (show k = 1 ∨ k = 2 ∨ k = 3 ∨ k = 4 ∨ k = 5 ∨ k = 6 ∨ k = 7 ∨ k = 8 ∨ k = 9 ∨ k = 10 ∨ k = 11 ∨ k = 12 by omega) with rfl | rfl | rfl | rfl | rfl | rfl | rfl | rfl | rfl | rfl | rfl | rfl
  · exact body_back1 i a h he hm
  · exact body_back2 i a h he hm
  · exact body_back3 i a h he hm
  · exact body_back4 i a h he hm
  · exact body_back5 i a h he hm
  · exact body_back6 i a h he hm
  · exact body_back7 i a h he hm
  · exact body_back8 i a h he hm
  · exact body_back9 i a h he hm
  · exact body_back10 i a h he hm
  · exact body_back11 i a h he hm
  · exact body_back12 i a h he hm
/-- what Decode tells: an error of 3 or 38, or a request that Encode gives back -/
theorem dec_cases (s : ByteArray) : (((decW s).err = 3 ∨ (decW s).err = 38) ∧ (decW s).n = 0 ∧ (decW s).y = rq0 0 0 ∧ (decW s).ps = []) ∨
    ((decW s).err = 0 ∧ (decW s).n = peekI s ∧ 5 ≤ (decW s).n ∧ (decW s).n ≤ 1000 ∧ (decW s).n ≤ s.size ∧ (decW s).ps.length ≤ 17 ∧ mayB (decW s).y (decW s).ps = true ∧ encW (decW s).y (decW s).ps = (s.extract 0 (decW s).n.toNat, 0)) := by
  have hp : 0 ≤ peekI s := by
    have := be2_range s 0
    unfold peekI
    split <;> omega
  unfold decW
  by_cases h1 : peekI s > 1000
  · rw [if_pos h1]; exact .inl ⟨.inr rfl, rfl, rfl, rfl⟩
  rw [if_neg h1]
  by_cases h2 : peekI s = 0 ∨ (s.size : Int) < peekI s
  · rw [if_pos h2]; exact .inl ⟨.inl rfl, rfl, rfl, rfl⟩
  rw [if_neg h2]
  by_cases h3 : peekI s < 5
  · rw [if_pos h3]; exact .inl ⟨.inr rfl, rfl, rfl, rfl⟩
  rw [if_neg h3]
  by_cases h4 : (decSt s).r.2 = true
  · rw [if_pos h4]; exact .inl ⟨.inr rfl, rfl, rfl, rfl⟩
  rw [if_neg h4]
  by_cases h5 : (decSt s).r.1.toList ≠ []
  · rw [if_pos h5]; exact .inl ⟨.inr rfl, rfl, rfl, rfl⟩
  rw [if_neg h5]
  by_cases h6 : mayB (decSt s).y (decSt s).ps = true
  case neg => rw [if_neg h6]; exact .inl ⟨.inr rfl, rfl, rfl, rfl⟩
  rw [if_pos h6]
  have g1 : 5 ≤ peekI s := by omega
  have g2 : peekI s ≤ 1000 := by omega
  have g3 : peekI s ≤ s.size := by omega
  have h4' : (decSt s).r.2 = false := by simpa using h4
  have h5' : (decSt s).r.1.toList = [] := by simpa using h5
  refine .inr ⟨rfl, rfl, g1, g2, g3, reqL_ps _ _ _, h6, ?_⟩
  have hb : bodyOf (decSt s).y (decSt s).ps = s.extract 5 (peekI s).toNat := body_back (bt s 2) (be2 s 3) (s.extract 5 (peekI s).toNat, false) h4' h5' h6
  have hkd : (decSt s).y.kind = bt s 2 := (reqL_kind _ _ _).1
  have hid : (decSt s).y.id = be2 s 3 := (reqL_kind _ _ _).2
  have hpk : peekI s = be2 s 0 + 2 := by
    unfold peekI at h2 h3 ⊢
    split
    · rename_i q
      rw [if_pos q] at h3
      exact absurd (by omega) h3
    · rfl
  obtain ⟨n, hn⟩ : ∃ n : Nat, peekI s = n := ⟨(peekI s).toNat, by omega⟩
  rw [hn] at hb h1 h2 h3 hpk
  simp only [Int.toNat_natCast] at hb
  have hz : (s.extract 5 n).size = n - 5 := by rw [ByteArray.size_extract]; omega
  unfold encW
  rw [if_pos h6, hb, hz, if_neg (by omega)]
  unfold encS
  rw [hb, hz, hkd, hid]
  simp only
  have e1 : (3 : Int) + ((n - 5 : Nat) : Int) = be2 s 0 := by omega
  rw [e1, fix2_be2 s 0 (by omega), fix2_be2 s 3 (by omega)]
  have e2 : strOfNums [bt s 2] = s.extract 2 3 := by
    have := ext_bl s 2 1 (by omega)
    rw [this]
    rfl
  rw [e2, hn, Int.toNat_natCast, ← split_mid s 0 2 3 (by omega) (by omega), ← split_mid s 0 3 5 (by omega) (by omega), ← split_mid s 0 5 n (by omega) (by omega)]
-- the request for a list
def rl : Rq := {rq0 11 5 with label := 1}
def sl : ByteArray := ⟨#[0, 4, 11, 0, 5, 1]⟩
def slm : ByteArray := ⟨#[0, 4, 11, 0, 5, 1, 109, 111, 114, 101]⟩
theorem rl_may : mayB rl [] = true := by decide +kernel
theorem un_one : un ⟨#[1]⟩ = (1, 1, 0) := by
  have h := un_nums ⟨#[1]⟩ 30 (Nat.le_refl _)
  have h2 : nums_Unchain.f 30 ⟨#[1]⟩ = some (1, 1, 0) := by decide +kernel
  rw [h2] at h
  exact (Option.some.inj h).symm
theorem num_one : rdNum (⟨#[1]⟩, false) = (1, (⟨#[]⟩, false)) := by
  unfold rdNum
  simp only
  rw [un_one]
  simp only [Bool.false_eq_true, if_false, if_true]
  rw [if_neg (by omega)]
  have e : (⟨#[1]⟩ : ByteArray).extract (Int.toNat 1) (⟨#[1]⟩ : ByteArray).size = ⟨#[]⟩ := ba_ext (by decide +kernel)
  rw [e]
end Go.Proofs.Ytlgihjhlkpmpnaa.Wire

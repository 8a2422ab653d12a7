import Derived.Test.YtlgihjhlkpmpnaaRWireF
import Derived.Test.YtlgihjhlkpmpnaaRPureGen
namespace Go.Proofs.Ytlgihjhlkpmpnaa.Wire
set_option linter.unusedVariables false
set_option linter.unusedSimpArgs false
open Go.RowKit Go.Proofs.YtlgihjhlkpmpnaaW.PrintWords Go.Proofs.YtlgihjhlkpmpnaaW.PrintLast Go.Proofs.YtlgihjhlkpmpnaaW.PrintMore Go.Proofs.Ytlgihjhlkpmpnaa.Hand Go.Proofs.Ytlgihjhlkpmpnaa.PWire Go.Proofs.Ytlgihjhlkpmpnaa.PureNums

/-- the chain with which bytes begin: its number, its bytes, an error -/
noncomputable def un (s : ByteArray) : Int × Int × Int := unch s (Classical.choose (run_is s))
theorem un_spec (s : ByteArray) : Run s (Classical.choose (run_is s)) := Classical.choose_spec (run_is s)
theorem un_nums (s : ByteArray) (k : Nat) (hk : 30 ≤ k) : nums_Unchain.f k s = some (un s) := at_rounds (nums_Unchain.mono _) hk (nums_spec _ _ (un_spec s))
theorem un_range (s : ByteArray) : 0 ≤ (un s).1 ∧ (un s).1 < 18446744073709551616 ∧ 0 ≤ (un s).2.1 ∧ (un s).2.1 ≤ s.size := unch_range s _ (un_spec s)
noncomputable def ux (s : ByteArray) : ByteArray × Int × Int := untx s (un s)
theorem ux_nums (s : ByteArray) (k : Nat) (hk : 50 ≤ k) (hz : s.size ≤ 140737488351232) : nums_Untext.f k s = some (ux s) := untext_eq s _ (un_spec s) hz k hk
theorem ux_range (s : ByteArray) : 0 ≤ (ux s).2.1 ∧ (ux s).2.1 ≤ s.size ∧ (ux s).1.size ≤ s.size := by
  obtain ⟨a, b, c, d⟩ := un_range s
  unfold ux untx
  generalize un s = u at *
  by_cases e : u.2.2 = 0
  · rw [if_pos e]
    by_cases g : u.1 > 1099511627776
    · rw [if_pos g]; exact ⟨by simp, by simp, Nat.zero_le _⟩
    · rw [if_neg g]
      by_cases h : (s.size : Int) - u.2.1 < u.1
      · rw [if_pos h]; exact ⟨by simp, by simp, Nat.zero_le _⟩
      · rw [if_neg h]
        refine ⟨by simp only; omega, by simp only; omega, ?_⟩
        simp only [ByteArray.size_extract]
        omega
  · rw [if_neg e]; exact ⟨by simp, by simp, Nat.zero_le _⟩
/-- a reader: what is left, and whether something was none -/
abbrev Rd := ByteArray × Bool
noncomputable def rdNum (r : Rd) : Int × Rd := if r.2 = true then (0, r.1, true) else if (un r.1).2.2 = 0 then (if (un r.1).1 > 1099511627776 then (0, r.1, true) else ((un r.1).1, r.1.extract (un r.1).2.1.toNat r.1.size, r.2)) else (0, r.1, true)
noncomputable def rdText (r : Rd) : ByteArray × Rd := if r.2 = true then (⟨#[]⟩, r.1, true) else if (ux r.1).2.2 = 0 then ((ux r.1).1, r.1.extract (ux r.1).2.1.toNat r.1.size, r.2) else (⟨#[]⟩, r.1, true)
noncomputable def rdFlag (r : Rd) : Bool × Rd := ((rdNum r).1 == 1, (rdNum r).2.1, (rdNum r).2.2 || decide ((rdNum r).1 > 1))
noncomputable def rdPair (r : Rd) : S102 × Rd := (⟨(rdText (rdFlag r).2).1, (rdText (rdText (rdFlag r).2).2).1, (rdFlag r).1⟩, (rdText (rdText (rdFlag r).2).2).2)
noncomputable def rdPairN : Nat → List S102 → Rd → List S102 × Rd
  | 0, l, r => (l, r)
  | n + 1, l, r => rdPairN n (l ++ [(rdPair r).1]) (rdPair r).2
noncomputable def rdPairs (r : Rd) : List S102 × Rd := rdPairN (mn (rdNum r).1 17).toNat [] (rdNum r).2
structure Sp where
  n : ByteArray
  p : Int
  a : Int
  z : Int
  c : Bool
noncomputable def rdSpec (r : Rd) : Sp × Rd :=
  let t := rdText r; let p := rdNum t.2; let a := rdNum p.2; let z := rdNum a.2; let c := rdFlag z.2; (⟨t.1, p.1, a.1, z.1, c.1⟩, c.2)
theorem rdNum_size (r : Rd) : (rdNum r).2.1.size ≤ r.1.size := by
  unfold rdNum
  split
  · exact Nat.le_refl _
  · split
    · split
      · exact Nat.le_refl _
      · simp only [ByteArray.size_extract]; omega
    · exact Nat.le_refl _
theorem rdText_size (r : Rd) : (rdText r).2.1.size ≤ r.1.size := by
  unfold rdText
  split
  · exact Nat.le_refl _
  · split
    · simp only [ByteArray.size_extract]; omega
    · exact Nat.le_refl _
theorem rdNum_range (r : Rd) : 0 ≤ (rdNum r).1 ∧ (rdNum r).1 ≤ 1099511627776 := by
  have := (un_range r.1).1
  unfold rdNum
  split
  · simp
  · split
    · split
      · simp
      · simp only; omega
    · simp
theorem rdFlag_size (r : Rd) : (rdFlag r).2.1.size ≤ r.1.size := rdNum_size r
theorem rdPair_size (r : Rd) : (rdPair r).2.1.size ≤ r.1.size := by
  have h1 := rdFlag_size r
  have h2 := rdText_size (rdFlag r).2
  have h3 := rdText_size (rdText (rdFlag r).2).2
  unfold rdPair
  simp only
  omega
theorem rdPairN_size : ∀ (n : Nat) (l : List S102) (r : Rd), (rdPairN n l r).2.1.size ≤ r.1.size
  | 0, _, _ => Nat.le_refl _
  | n + 1, l, r => Nat.le_trans (rdPairN_size n _ _) (rdPair_size r)
theorem rdPairs_size (r : Rd) : (rdPairs r).2.1.size ≤ r.1.size := Nat.le_trans (rdPairN_size _ _ _) (rdNum_size r)
theorem rdSpec_size (r : Rd) : (rdSpec r).2.1.size ≤ r.1.size := by
  unfold rdSpec
  simp only
  have h1 := rdText_size r
  have h2 := rdNum_size (rdText r).2
  have h3 := rdNum_size (rdNum (rdText r).2).2
  have h4 := rdNum_size (rdNum (rdNum (rdText r).2).2).2
  have h5 := rdFlag_size (rdNum (rdNum (rdNum (rdText r).2).2).2).2
  omega
theorem rdPairN_len : ∀ (n : Nat) (l : List S102) (r : Rd), (rdPairN n l r).1.length = l.length + n
  | 0, _, _ => rfl
  | n + 1, l, r => by rw [rdPairN, rdPairN_len n]; simp; omega
theorem rdNum_some (r : Rd) (k : Nat) (hk : 30 ≤ k) : wire_reader_number.f k r.1 r.2 = some ((rdNum r).1, (rdNum r).2.1, (rdNum r).2.2) := by
  obtain ⟨a, b, c, d⟩ := un_range r.1
  unfold wire_reader_number.f rdNum
  rw [un_nums _ k hk]
  simp only [Option.bind_some]
  split
  · rfl
  · split
    · split
      · rfl
      · rw [w64 _ (by omega) (by omega)]
    · rfl
theorem rdText_some (r : Rd) (k : Nat) (hk : 50 ≤ k) (hz : r.1.size ≤ 140737488351232) : wire_reader_text.f k r.1 r.2 = some ((rdText r).1, (rdText r).2.1, (rdText r).2.2) := by
  obtain ⟨c, d, _⟩ := ux_range r.1
  unfold wire_reader_text.f rdText
  rw [ux_nums _ k hk hz]
  simp only [Option.bind_some]
  split
  · rfl
  · split
    · rfl
    · rfl
theorem rdFlag_some (r : Rd) (k : Nat) (hk : 30 ≤ k) : wire_reader_flag.f k r.1 r.2 = some ((rdFlag r).1, (rdFlag r).2.1, (rdFlag r).2.2) := by
  unfold wire_reader_flag.f rdFlag
  rw [rdNum_some r k hk]
  simp only [Option.bind_some]
  split
  · rename_i h
    rw [h]
    simp
  · rename_i h
    rw [Bool.not_eq_true] at h
    rw [h]
    simp
theorem rdPairN_some : ∀ (n : Nat) (k : Nat) (l : List S102) (i m : Int) (r : Rd), 60 + n ≤ k → m - i = n → 0 ≤ i → m ≤ 100 → r.1.size ≤ 100000 → l.length ≤ 100 + i →
    wire_reader_pairs.l0 k l m i r.1 r.2 = some ((rdPairN n l r).1, (rdPairN n l r).2.1, (rdPairN n l r).2.2) := by
  intro n
  induction n with
  | zero =>
    intro k l i m r hk hm h0 h1 hz hl
    obtain ⟨k, rfl⟩ : ∃ q, k = q + 1 := ⟨k - 1, by omega⟩
    simp only [wire_reader_pairs.l0]
    rw [if_neg (by omega)]
    rfl
  | succ n ih =>
    intro k l i m r hk hm h0 h1 hz hl
    obtain ⟨k, rfl⟩ : ∃ q, k = q + 1 := ⟨k - 1, by omega⟩
    have z1 := rdFlag_size r
    have z2 := rdText_size (rdFlag r).2
    have z3 := rdText_size (rdText (rdFlag r).2).2
    simp only [wire_reader_pairs.l0]
    rw [if_pos (by omega), rdFlag_some r k (by omega)]
    simp only [Option.bind_some]
    rw [rdText_some _ k (by omega) (by omega)]
    simp only [Option.bind_some]
    rw [rdText_some _ k (by omega) (by omega)]
    simp only [Option.bind_some]
    rw [if_pos (by omega), w64 (i + 1) (by omega) (by omega)]
    exact ih k (l ++ [(rdPair r).1]) (i + 1) m (rdPair r).2 (by omega) (by omega) (by omega) h1 (by have := rdPair_size r; omega) (by simp; omega)
theorem rdPairs_some (r : Rd) (k : Nat) (hk : 80 ≤ k) (hz : r.1.size ≤ 100000) : wire_reader_pairs.f k r.1 r.2 = some ((rdPairs r).1, (rdPairs r).2.1, (rdPairs r).2.2) := by
  obtain ⟨a, b⟩ := rdNum_range r
  unfold wire_reader_pairs.f
  rw [rdNum_some r k (by omega)]
  simp only [Option.bind_some]
  have hm : 0 ≤ mn (rdNum r).1 17 ∧ mn (rdNum r).1 17 ≤ 17 := by unfold mn; omega
  exact rdPairN_some (mn (rdNum r).1 17).toNat k [] 0 (mn (rdNum r).1 17) (rdNum r).2 (by omega) (by omega) (by omega) (by omega) (by have := rdNum_size r; omega) (by simp)
theorem rdSpec_some (r : Rd) (k : Nat) (hk : 80 ≤ k) (hz : r.1.size ≤ 100000) : wire_reader_spec.f k r.1 r.2 = some ((rdSpec r).1.n, (rdSpec r).1.p, (rdSpec r).1.a, (rdSpec r).1.z, (rdSpec r).1.c, (rdSpec r).2.1, (rdSpec r).2.2) := by
  unfold wire_reader_spec.f rdSpec
  rw [rdText_some r k (by omega) (by omega)]
  simp only [Option.bind_some]
  rw [rdNum_some _ k (by omega)]
  simp only [Option.bind_some]
  rw [rdNum_some _ k (by omega)]
  simp only [Option.bind_some]
  rw [rdNum_some _ k (by omega)]
  simp only [Option.bind_some]
  rw [rdFlag_some _ k (by omega)]
  rfl
/-- a request that is being read -/
structure Rst where
  y : Rq
  ps : List S102
  r : Rd
noncomputable def reqStep (t : Rst) (c : Int) : Rst :=
  if (numF t.y c).2 = true then ⟨setNum t.y c (rdNum t.r).1, t.ps, (rdNum t.r).2⟩
  else if (textF t.y c).2 = true then ⟨setText t.y c (rdText t.r).1, t.ps, (rdText t.r).2⟩
  else if c = 66 then ⟨t.y, (rdPairs t.r).1, (rdPairs t.r).2⟩
  else if c = 67 then ⟨{t.y with sn := (rdSpec t.r).1.n, sp := (rdSpec t.r).1.p, sa := (rdSpec t.r).1.a, ss := (rdSpec t.r).1.z, sc := (rdSpec t.r).1.c}, t.ps, (rdSpec t.r).2⟩
  else t
noncomputable def reqL (y : Rq) (r : Rd) (ls : List Int) : Rst := ls.foldl reqStep ⟨y, [], r⟩
theorem reqL_snoc (y : Rq) (r : Rd) (ls : List Int) (c : Int) : reqL y r (ls ++ [c]) = reqStep (reqL y r ls) c := by simp [reqL]
theorem reqStep_size (t : Rst) (c : Int) : (reqStep t c).r.1.size ≤ t.r.1.size := by
  unfold reqStep
  split
  · exact rdNum_size _
  split
  · exact rdText_size _
  split
  · exact rdPairs_size _
  split
  · exact rdSpec_size _
  exact Nat.le_refl _
end Go.Proofs.Ytlgihjhlkpmpnaa.Wire

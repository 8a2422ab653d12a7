import Derived.Test.YteopponjfkeagaaLat22
namespace Go.Proofs.Yteopponjfkeagaa.Lat
open Go.RowKit Go.Maps Go.Proofs.YteopponjfkeagaaW.PrintWords Go.Proofs.YteopponjfkeagaaW.PrintLast Go.Proofs.YteopponjfkeagaaW.PrintMore Go.Proofs.Yteopponjfkeagaa.PLattice
set_option linter.unusedVariables false
set_option linter.unusedSimpArgs false

/-- nothing is wrong, or there is a bound that is none -/
def Zeros (o : Option Int) (p : Prop) : Prop := (o = some 0 ∧ p) ∨ (o = some 6 ∧ ¬ p)
theorem Zeros.iff {o : Option Int} {p q : Prop} (h : Zeros o p) (e : p ↔ q) : Zeros o q := by
  rcases h with h | h
  · exact .inl ⟨h.1, e.1 h.2⟩
  · exact .inr ⟨h.1, fun hq => h.2 (e.2 hq)⟩
theorem neg_of {n : Nat} {T : Int → Int → Bool} {a b : Int} : G n T a b < 0 ↔ G n T a b = -1 := by
  constructor
  · intro h
    apply Classical.byContradiction
    intro hne
    have := G_range hne
    omega
  · intro h
    omega
section
variable {f : List (List Bool)} (hs : sq f)
include hs
abbrev bothP (f : List (List Bool)) (a b : Nat) : Prop := G f.length (lt f.length (flR f f.length)) a b ≠ -1 ∧ G f.length (gt f.length (flR f f.length)) a b ≠ -1
theorem Wrong_l1 (n : Nat) (hn : f.length = n) (a : Nat) (ha : a < f.length) (q : Prop) (K : Nat) (hK : 49 ≤ K) (hnext : ∀ k, K ≤ k → Zeros (weighlockref04_Wrong.l0 k f n ((a + 1 : Nat) : Int)) q) :
    ∀ (d b k : Nat), b + d = n → d + 1 + K ≤ k → Zeros (weighlockref04_Wrong.l1 k f a n a n b) ((∀ i : Nat, b ≤ i → i < n → bothP f a i) ∧ q)
  | 0, b, k, hd, hk => by
    obtain ⟨k, rfl⟩ : ∃ m, k = m + 1 := ⟨k - 1, by omega⟩
    have h6 := hs.2.1
    unfold weighlockref04_Wrong.l1
    rw [if_neg (by omega), w64s a (by omega)]
    exact (hnext k (by omega)).iff ⟨fun h => ⟨fun i h1 h2 => absurd h1 (by omega), h⟩, fun h => h.2⟩
  | d + 1, b, k, hd, hk => by
    obtain ⟨k, rfl⟩ : ∃ m, k = m + 1 := ⟨k - 1, by omega⟩
    have h6 := hs.2.1
    have hb : b < f.length := by omega
    have ih := Wrong_l1 n hn a ha q K hK hnext d (b + 1) k (by omega) (by omega)
    unfold weighlockref04_Wrong.l1
    rw [if_pos (by omega), Join_f hs a b ha hb k (by omega), Option.bind_some, Meet_f hs a b ha hb k (by omega), Option.bind_some, w64s b (by omega), all_from (by omega)]
    by_cases h1 : G f.length (TT f) a b < 0
    · rw [if_pos h1]
      exact .inr ⟨rfl, fun h => h.1.1.1 (neg_of.1 h1)⟩
    · rw [if_neg h1]
      by_cases h2 : G f.length (gt f.length (flR f f.length)) a b < 0
      · rw [if_pos h2]
        exact .inr ⟨rfl, fun h => h.1.1.2 (neg_of.1 h2)⟩
      · rw [if_neg h2]
        exact ih.iff ⟨fun h => ⟨⟨⟨fun e => h1 (neg_of.2 e), fun e => h2 (neg_of.2 e)⟩, h.1⟩, h.2⟩, fun h => ⟨h.1.2, h.2⟩⟩
theorem Wrong_l0 (n : Nat) (hn : f.length = n) : ∀ (d a k : Nat), a + d = n → d * (n + 2) + 50 ≤ k → Zeros (weighlockref04_Wrong.l0 k f n a) (∀ i : Nat, a ≤ i → i < n → ∀ j : Nat, j < n → bothP f i j)
  | 0, a, k, hd, hk => by
    obtain ⟨k, rfl⟩ : ∃ m, k = m + 1 := ⟨k - 1, by omega⟩
    unfold weighlockref04_Wrong.l0
    rw [if_neg (by omega)]
    exact .inl ⟨rfl, fun i h1 h2 => absurd h1 (by omega)⟩
  | d + 1, a, k, hd, hk => by
    have hk2 : (d + 1) * (n + 2) = d * (n + 2) + (n + 2) := Nat.succ_mul d _
    obtain ⟨k, rfl⟩ : ∃ m, k = m + 1 := ⟨k - 1, by omega⟩
    have h6 := hs.2.1
    have h := Wrong_l1 hs n hn a (by omega) _ (d * (n + 2) + 50) (by omega) (fun k hk => Wrong_l0 n hn d (a + 1) k (by omega) hk) n 0 k (by omega) (by omega)
    rw [show ((0 : Nat) : Int) = 0 from rfl] at h
    unfold weighlockref04_Wrong.l0
    rw [if_pos (by omega), hn, all_from (by omega)]
    exact h.iff ⟨fun h => ⟨fun j hj => h.1 j (Nat.zero_le _) hj, h.2⟩, fun h => ⟨fun j _ hj => h.1 j hj, h.2⟩⟩
omit hs in
/-- what is wrong with a table -/
def WrongIs (f : List (List Bool)) (r : Int) : Prop :=
  (¬ sq f ∧ r = 1) ∨ (sq f ∧ ¬ orderP f.length (flR f f.length) ∧ r = 4) ∨
  (sq f ∧ orderP f.length (flR f f.length) ∧ ¬ (full f.length (lt f.length (flR f f.length)) ∧ full f.length (gt f.length (flR f f.length))) ∧ r = 6) ∨
  (sq f ∧ orderP f.length (flR f f.length) ∧ full f.length (lt f.length (flR f f.length)) ∧ full f.length (gt f.length (flR f f.length)) ∧ r = 0)
omit hs in
theorem Wrong_f (f : List (List Bool)) (hmax : f.length ≤ 40) : ∃ r, weighlockref04_Wrong.f 400 f = some r ∧ WrongIs f r := by
  obtain ⟨r1, e1, h1⟩ := Square_f f (by omega) 400 (by omega)
  unfold weighlockref04_Wrong.f
  rw [e1, Option.bind_some]
  cases r1
  · exact ⟨1, rfl, .inl ⟨fun h => absurd (h1.2 h) (by decide), rfl⟩⟩
  · have hs := h1.1 rfl
    obtain ⟨r2, e2, h2⟩ := Order_f hs 400 (by omega)
    rw [if_pos rfl, e2, Option.bind_some]
    cases r2
    · exact ⟨4, rfl, .inr (.inl ⟨hs, fun h => absurd (h2.2 h) (by decide), rfl⟩)⟩
    · have ho := h2.1 rfl
      have h6 := hs.2.1
      have hm : f.length * (f.length + 2) ≤ 6 * 8 := Nat.mul_le_mul h6 (by omega)
      have h3 := Wrong_l0 hs f.length rfl f.length 0 400 (by omega) (by omega)
      rw [show ((0 : Nat) : Int) = 0 from rfl] at h3
      rw [if_pos rfl]
      rcases h3 with ⟨e3, h3⟩ | ⟨e3, h3⟩
      · exact ⟨0, e3, .inr (.inr (.inr ⟨hs, ho, fun i j hi hj => (h3 i (Nat.zero_le _) hi j hj).1, fun i j hi hj => (h3 i (Nat.zero_le _) hi j hj).2, rfl⟩))⟩
      · exact ⟨6, e3, .inr (.inr (.inl ⟨hs, ho, fun h => h3 fun i _ hi j hj => ⟨h.1 i j hi hj, h.2 i j hi hj⟩, rfl⟩))⟩
theorem Top_l0 (n : Nat) (hn : f.length = n) (hf : full f.length (TT f)) : ∀ (d i k : Nat), i + d = n → d + 2 * n + 4 ≤ k → weighlockref04_Top.l0 k f (least (jT f.length (flR f f.length)) i) n i = some (least (jT f.length (flR f f.length)) n)
  | 0, i, k, hd, hk => by
    obtain ⟨k, rfl⟩ : ∃ m, k = m + 1 := ⟨k - 1, by omega⟩
    unfold weighlockref04_Top.l0
    rw [if_neg (by omega)]
    rw [show i = n by omega]
  | d + 1, i, k, hd, hk => by
    obtain ⟨k, rfl⟩ : ∃ m, k = m + 1 := ⟨k - 1, by omega⟩
    have h6 := hs.2.1
    have h0 := hs.1
    have ih := Top_l0 n hn hf d (i + 1) k (by omega) (by omega)
    have hr : 0 ≤ least (jT f.length (flR f f.length)) i ∧ least (jT f.length (flR f f.length)) i < f.length := least_range hf h0 i (by omega)
    have e : least (jT f.length (flR f f.length)) (i + 1) = G f.length (TT f) (least (jT f.length (flR f f.length)) i) i := by
      show jT f.length (flR f f.length) (least (jT f.length (flR f f.length)) i) i = _
      unfold jT J
      rw [if_pos ⟨hr.1, by omega, by omega, .inl hr.2⟩]
    obtain ⟨m, hm⟩ := Int.eq_ofNat_of_zero_le hr.1
    rw [hm] at hr e
    unfold weighlockref04_Top.l0
    rw [if_pos (by omega), hm, Join_f hs m i (by omega) (by omega) k (by omega), Option.bind_some, w64s i (by omega), ← e]
    exact ih
theorem Top_f (hf : full f.length (TT f)) (k : Nat) (hk : 30 ≤ k) : weighlockref04_Top.f k f = some (least (jT f.length (flR f f.length)) f.length) := by
  have h6 := hs.2.1
  have h := Top_l0 hs f.length rfl hf f.length 0 k (by omega) (by omega)
  unfold weighlockref04_Top.f
  exact h
theorem Above_l0 (n : Nat) (hn : f.length = n) (a : Nat) (ha : a < f.length) : ∀ (d i k : Nat), i + d = n → d + 1 ≤ k → weighlockref04_Above.l0 k f a (pick (fun x => TT f a x) i) n i = some (pick (fun x => TT f a x) n)
  | 0, i, k, hd, hk => by
    obtain ⟨k, rfl⟩ : ∃ m, k = m + 1 := ⟨k - 1, by omega⟩
    unfold weighlockref04_Above.l0
    rw [if_neg (by omega)]
    rw [show i = n by omega]
  | d + 1, i, k, hd, hk => by
    obtain ⟨k, rfl⟩ : ∃ m, k = m + 1 := ⟨k - 1, by omega⟩
    have h6 := hs.2.1
    have hi : i < f.length := by omega
    have ih := Above_l0 n hn a ha d (i + 1) k (by omega) (by omega)
    have hl := pick_length (fun x => TT f a x) i
    rw [pick_succ] at ih
    unfold weighlockref04_Above.l0
    rw [row_len hs a ha, at_TT hs a i ha hi, w64s i (by omega), if_pos (by omega), if_pos (by omega), if_pos (by omega), if_pos (by omega), if_pos (by omega)]
    cases h1 : TT f a i
    · rw [h1] at ih
      rw [if_neg (by decide)]
      exact ih
    · rw [h1] at ih
      rw [if_pos rfl, if_pos (by omega)]
      exact ih
theorem Above_f (a : Nat) (ha : a < f.length) (k : Nat) (hk : 10 ≤ k) : weighlockref04_Above.f k f a = some (pick (fun x => TT f a x) f.length) := by
  have h6 := hs.2.1
  have h := Above_l0 hs f.length rfl a ha f.length 0 k (by omega) (by omega)
  unfold weighlockref04_Above.f
  exact h
end
theorem rd_at (l : List Int) (i : Nat) (h : i < l.length) : rd l i = l[i] := by
  unfold rd
  rw [Int.toNat_natCast, List.getD_eq_getElem?_getD, List.getElem?_eq_getElem h]
  rfl
theorem in_l0 (l : List Int) (x : Int) (hl : l.length < 1000000) : ∀ (d i k : Nat), i + d = l.length → d + 1 ≤ k → Tells (weighlocklaw04_in.l0 k x l l.length i) (x ∈ l.drop i)
  | 0, i, k, hd, hk => by
    obtain ⟨k, rfl⟩ : ∃ m, k = m + 1 := ⟨k - 1, by omega⟩
    unfold weighlocklaw04_in.l0
    rw [if_neg (by omega)]
    exact Tells.no rfl (by rw [List.drop_eq_nil_of_le (by omega)]; exact List.not_mem_nil)
  | d + 1, i, k, hd, hk => by
    obtain ⟨k, rfl⟩ : ∃ m, k = m + 1 := ⟨k - 1, by omega⟩
    have ih := in_l0 l x hl d (i + 1) k (by omega) (by omega)
    have hi : i < l.length := by omega
    unfold weighlocklaw04_in.l0
    rw [if_pos (by omega), if_pos (by omega), if_pos (by omega), w64s i (by omega), rd_at l i hi, List.drop_eq_getElem_cons hi]
    by_cases h : l[i] = x
    · rw [if_pos h]
      exact Tells.yes rfl (by rw [h]; exact List.mem_cons_self)
    · rw [if_neg h]
      refine ih.iff ⟨fun q => List.mem_cons_of_mem _ q, fun q => ?_⟩
      rcases List.mem_cons.1 q with q | q
      · exact absurd q.symm h
      · exact q
theorem in_f (l : List Int) (x : Int) (hl : l.length < 1000) (k : Nat) (hk : l.length + 1 ≤ k) : Tells (weighlocklaw04_in.f k l x) (x ∈ l) := by
  have h := in_l0 l x (by omega) l.length 0 k (by omega) hk
  unfold weighlocklaw04_in.f
  exact h
theorem Ints_l0 (l : List Int) (hl : l.length < 1000000) : ∀ (d i k : Nat), i + d = l.length → d + 1 ≤ k → weighlockplain_Ints.l0 k l l l.length i = some true
  | 0, i, k, hd, hk => by
    obtain ⟨k, rfl⟩ : ∃ m, k = m + 1 := ⟨k - 1, by omega⟩
    unfold weighlockplain_Ints.l0
    rw [if_neg (by omega)]
  | d + 1, i, k, hd, hk => by
    obtain ⟨k, rfl⟩ : ∃ m, k = m + 1 := ⟨k - 1, by omega⟩
    have ih := Ints_l0 l hl d (i + 1) k (by omega) (by omega)
    unfold weighlockplain_Ints.l0
    rw [if_pos (by omega), if_pos (by omega), if_pos (by omega), if_pos (by omega), if_pos rfl, w64s i (by omega)]
    exact ih
theorem Ints_f (l : List Int) (hl : l.length < 1000) (k : Nat) (hk : l.length + 1 ≤ k) : weighlockplain_Ints.f k l l = some true := by
  have h := Ints_l0 l (by omega) l.length 0 k (by omega) hk
  unfold weighlockplain_Ints.f
  rw [if_pos rfl]
  exact h
theorem mem_pick {T : Int → Bool} {n : Nat} {x : Int} : x ∈ pick T n ↔ 0 ≤ x ∧ x < n ∧ T x = true := by
  unfold pick
  rw [List.mem_map]
  constructor
  · rintro ⟨i, hi, rfl⟩
    rw [List.mem_filter, List.mem_range] at hi
    exact ⟨by omega, by omega, hi.2⟩
  · rintro ⟨h0, h1, h2⟩
    obtain ⟨i, rfl⟩ := Int.eq_ofNat_of_zero_le h0
    exact ⟨i, by rw [List.mem_filter, List.mem_range]; exact ⟨by omega, h2⟩, rfl⟩
theorem pick_all {T : Int → Bool} : ∀ {n : Nat}, (∀ i : Nat, i < n → T i = true) → (pick T n).length = n
  | 0, _ => rfl
  | n + 1, h => by
    rw [pick_succ, if_pos (h n (by omega)), List.length_append, pick_all (fun i hi => h i (by omega))]
    rfl
end Go.Proofs.Yteopponjfkeagaa.Lat

import Derived.Test.YtohhlkabejangaaUOf18
-- halved
namespace Go.Proofs.Ytohhlkabejangaa.Of
set_option linter.unusedVariables false
set_option linter.unusedSimpArgs false
open Go.RowKit Go.Maps Go.Sort Go.Lib Go.Shelf Go.Proofs.YtohhlkabejangaaW.PrintWords Go.Proofs.YtohhlkabejangaaW.PrintLast Go.Proofs.YtohhlkabejangaaW.PrintMore Go.Proofs.Ytohhlkabejangaa.Hand Go.Proofs.Ytohhlkabejangaa.POf Go.Proofs.Ytohhlkabejangaa.Wire
abbrev Rr := S166
def toS (r : Rw) : Rr := ⟨r.k.g, ⟨r.k.t, r.k.p⟩, r.v⟩
def lS (T : List Rw) : List Rr := T.map toS
theorem lS_len (T : List Rw) : (lS T).length = T.length := List.length_map ..
theorem rd_row (T : List Rw) (i : Nat) (hi : i < T.length) : rd_T166 (lS T) (i : Int) = toS T[i] := by
 unfold rd_T166 lS
 rw [Int.toNat_natCast, List.getD_eq_getElem?_getD, List.getElem?_map, List.getElem?_eq_getElem hi]
 rfl
theorem list_eq_iff (a b : ByteArray) : a.toList = b.toList ↔ a = b := ⟨toList_inj, fun h => by rw [h]⟩
theorem grpK_snd (ys : List Ky) (i : Nat) (hi : i < ys.length) : (grpK (ys.take (i + 1))).2 = ys[i].g := by rw [grpK_step ys i hi]; rfl
theorem groups_loop (T : List Rw) (hn : T.length ≤ 100) (hne : ∀ r ∈ T, 1 ≤ r.k.g.size) : ∀ (d i k : Nat), i + d = T.length → d < k → weighlockref24_Groups.l0 k (lS T) (grpK ((T.map (·.k)).take i)).1 (lS T) (T.length : Int) (i : Int) = some (grpT T)
 | 0, i, k, hi, hk => by
  obtain ⟨k, rfl⟩ : ∃ k', k = k' + 1 := ⟨k - 1, by omega⟩
  rw [weighlockref24_Groups.l0, if_neg (by omega)]
  have e : (T.map (·.k)).take i = T.map (·.k) := List.take_of_length_le (by rw [List.length_map]; omega)
  rw [e]
  rfl
 | d + 1, i, k, hi, hk => by
  obtain ⟨k, rfl⟩ : ∃ k', k = k' + 1 := ⟨k - 1, by omega⟩
  have hin : i < T.length := by omega
  have hin2 : i < (T.map (·.k)).length := by rw [List.length_map]; exact hin
  have ih := groups_loop T hn hne d (i + 1) k (by omega) (by omega)
  have hst := grpK_step (T.map (·.k)) i hin2
  have hrg := grpK_range ((T.map (·.k)).take i)
  rw [List.length_take, List.length_map] at hrg
  rw [List.getElem_map] at hst
  rw [weighlockref24_Groups.l0, if_pos (by omega), if_pos (by omega), lS_len, if_pos (by omega), rd_row T i hin, w64o ((i : Int) + 1) (by omega) (by omega)]
  have hi1 : ((i + 1 : Nat) : Int) = (i : Int) + 1 := by omega
  rw [hi1] at ih
  by_cases h0 : i = 0
  ·subst h0
   have hg := hne T[0] (List.getElem_mem hin)
   have hs : (grpK ((T.map (·.k)).take (0 + 1))).1 = (grpK ((T.map (·.k)).take 0)).1 + 1 := by
    rw [hst]
    unfold grpF
    rw [if_neg]
    intro e
    have h1 : T[0].k.g = (⟨#[]⟩ : ByteArray) := e
    rw [h1] at hg
    exact absurd hg (by decide)
   rw [hs] at ih
   rw [if_pos (by omega), w64o ((grpK ((T.map (·.k)).take 0)).1 + 1) (by omega) (by omega)]
   exact ih
  ·obtain ⟨j, rfl⟩ : ∃ j, i = j + 1 := ⟨i - 1, by omega⟩
   have hj : j < T.length := by omega
   have hbf : (grpK ((T.map (·.k)).take (j + 1))).2 = T[j].k.g := by
    have := grpK_snd (T.map (·.k)) j (by rw [List.length_map]; exact hj)
    rwa [List.getElem_map] at this
   have hwj : wrap64 (((j + 1 : Nat) : Int) - 1) = (j : Int) := by rw [w64o _ (by omega) (by omega)]; omega
   rw [if_neg (by omega), hwj, if_pos (by omega), if_pos (by omega), rd_row T j hj]
   show (if T[j + 1].k.g.toList = T[j].k.g.toList then _ else _) = _
   by_cases hg : T[j + 1].k.g = T[j].k.g
   ·have hs : (grpK ((T.map (·.k)).take (j + 1 + 1))).1 = (grpK ((T.map (·.k)).take (j + 1))).1 := by
     rw [hst]
     unfold grpF
     rw [if_pos (hg.trans hbf.symm)]
    rw [hs] at ih
    rw [if_pos (by rw [hg])]
    exact ih
   ·have hs : (grpK ((T.map (·.k)).take (j + 1 + 1))).1 = (grpK ((T.map (·.k)).take (j + 1))).1 + 1 := by
     rw [hst]
     unfold grpF
     rw [if_neg (fun e => hg (e.trans hbf))]
    rw [hs] at ih
    rw [if_neg (fun e => hg (toList_inj e)), w64o ((grpK ((T.map (·.k)).take (j + 1))).1 + 1) (by omega) (by omega)]
    exact ih
theorem rgroups_f (T : List Rw) (hn : T.length ≤ 100) (hne : ∀ r ∈ T, 1 ≤ r.k.g.size) (k : Nat) (hk : T.length < k) : weighlockref24_Groups.f k (lS T) = some (grpT T) := by
 unfold weighlockref24_Groups.f
 rw [lS_len]
 exact groups_loop T hn hne T.length 0 k (by omega) hk
theorem room_loop (T : List Rw) (hn : T.length ≤ 100) (hne : ∀ r ∈ T, 1 ≤ r.k.g.size) (g : ByteArray) : ∀ (d i k : Nat), i + d = T.length → d + T.length + 1 < k → weighlockref24_Room.l0 k (lS T) g (lS T) (T.length : Int) (i : Int) = some ((T.drop i).any (fun r => decide (r.k.g = g)) || decide (grpT T < 8))
 | 0, i, k, hi, hk => by
  obtain ⟨k, rfl⟩ : ∃ k', k = k' + 1 := ⟨k - 1, by omega⟩
  rw [weighlockref24_Room.l0, if_neg (by omega), rgroups_f T hn hne k (by omega), List.drop_of_length_le (by omega)]
  rfl
 | d + 1, i, k, hi, hk => by
  obtain ⟨k, rfl⟩ : ∃ k', k = k' + 1 := ⟨k - 1, by omega⟩
  have hin : i < T.length := by omega
  rw [weighlockref24_Room.l0, if_pos (by omega), if_pos (by omega), lS_len, if_pos (by omega), rd_row T i hin, w64o ((i : Int) + 1) (by omega) (by omega), List.drop_eq_getElem_cons hin, List.any_cons]
  show (if T[i].k.g.toList = g.toList then _ else _) = _
  by_cases hg : T[i].k.g = g
  ·rw [if_pos (by rw [hg]), decide_eq_true hg]
   rfl
  ·rw [if_neg (fun e => hg (toList_inj e)), decide_eq_false hg, Bool.false_or]
   have ih := room_loop T hn hne g d (i + 1) k (by omega) (by omega)
   have hi1 : ((i + 1 : Nat) : Int) = (i : Int) + 1 := by omega
   rw [hi1] at ih
   exact ih
theorem rroom_f (T : List Rw) (hn : T.length ≤ 50) (hne : ∀ r ∈ T, 1 ≤ r.k.g.size) (g : ByteArray) (k : Nat) (hk : 200 ≤ k) : weighlockref24_Room.f k (lS T) g = some (roomB T g) := by
 unfold weighlockref24_Room.f
 rw [lS_len]
 exact room_loop T (by omega) hne g T.length 0 k (by omega) (by omega)
theorem before_f (a b : Rw) : weighlockref24_before.f a.k.g a.k.t a.k.p a.v b.k.g b.k.t b.k.p b.v = some (decide (kLt a.k b.k)) := by
 unfold weighlockref24_before.f
 have hl : ∀ x y : ByteArray, Op.bytesLess x.toList y.toList = decide (x.toList < y.toList) := fun x y => bytesLess_eq _ _
 by_cases h1 : a.k.g.toList = b.k.g.toList
 ·rw [if_pos h1]
  by_cases h2 : a.k.t.toList = b.k.t.toList
  ·rw [if_pos h2]
   congr 1
   rw [Bool.eq_iff_iff, decide_eq_true_eq, decide_eq_true_eq]
   unfold kLt
   constructor
   ·exact fun h => .inr ⟨h1, .inr ⟨h2, h⟩⟩
   ·rintro (h | ⟨_, h | ⟨_, h⟩⟩)
    ·rw [h1] at h; exact absurd h (List.lt_irrefl _)
    ·rw [h2] at h; exact absurd h (List.lt_irrefl _)
    ·exact h
  ·rw [if_neg h2, hl]
   congr 1
   rw [Bool.eq_iff_iff, decide_eq_true_eq, decide_eq_true_eq]
   unfold kLt
   constructor
   ·exact fun h => .inr ⟨h1, .inl h⟩
   ·rintro (h | ⟨_, h | ⟨h, _⟩⟩)
    ·rw [h1] at h; exact absurd h (List.lt_irrefl _)
    ·exact h
    ·exact absurd h h2
 ·rw [if_neg h1, hl]
  congr 1
  rw [Bool.eq_iff_iff, decide_eq_true_eq, decide_eq_true_eq]
  unfold kLt
  constructor
  ·exact fun h => .inl h
  ·rintro (h | ⟨h, _⟩)
   ·exact h
   ·exact absurd h h1
theorem put_same (r x : Rw) : (r.k.g.toList = x.k.g.toList ∧ (!(r.k.t.toList == x.k.t.toList) || (!(r.k.p == x.k.p))) = false) ↔ r.k = x.k := by
 rw [ne_lists]
 obtain ⟨⟨a, b, c⟩, v⟩ := r
 obtain ⟨⟨a', b', c'⟩, v'⟩ := x
 simp [list_eq_iff]
theorem put_true (T : List Rw) (x : Rw) (hn : T.length ≤ 100) (hT : ∀ r ∈ T, r.k ≠ x.k ∨ True) : ∀ (d i k : Nat) (acc : List Rr), i + d = T.length → 2 * d < k → acc.length ≤ 200 + i → (∀ r ∈ T.drop i, r.k ≠ x.k) →
  weighlockref24_Put.l0 k acc true (lS T) (T.length : Int) (i : Int) x.k.g x.k.t x.k.p x.v = some (acc ++ lS (T.drop i))
 | 0, i, k, acc, hi, hk, ha, hne => by
  obtain ⟨k, rfl⟩ : ∃ k', k = k' + 1 := ⟨k - 1, by omega⟩
  rw [weighlockref24_Put.l0, if_neg (by omega), if_pos rfl, List.drop_of_length_le (by omega)]
  unfold lS
  rw [List.map_nil, List.append_nil]
 | d + 1, i, k, acc, hi, hk, ha, hne => by
  obtain ⟨k, rfl⟩ : ∃ k', k = k' + 2 := ⟨k - 2, by omega⟩
  have hin : i < T.length := by omega
  have hd := List.drop_eq_getElem_cons hin
  have ih := put_true T x hn hT d (i + 1) k (acc ++ [toS T[i]]) (by omega) (by omega) (by rw [List.length_append]; simp; omega) (fun r hr => hne r (by rw [hd]; exact List.mem_cons_of_mem _ hr))
  have hi1 : ((i + 1 : Nat) : Int) = (i : Int) + 1 := by omega
  rw [hi1] at ih
  have hk0 : T[i].k ≠ x.k := hne _ (by rw [hd]; exact List.mem_cons_self ..)
  have hfin : acc ++ [toS T[i]] ++ lS (T.drop (i + 1)) = acc ++ lS (T.drop i) := by
   rw [hd, List.append_assoc]
   rfl
  rw [hfin] at ih
  rw [weighlockref24_Put.l0, if_pos (by omega), if_pos (by omega), lS_len, if_pos (by omega), if_pos rfl, rd_row T i hin, weighlockref24_Put.j1, if_neg (by simp), w64o ((i : Int) + 1) (by omega) (by omega)]
  show (if T[i].k.g.toList = x.k.g.toList then (if (!(T[i].k.t.toList == x.k.t.toList) || (!(T[i].k.p == x.k.p))) = true then _ else _) else _) = _
  have hlen : acc.length < 2932031007402 := by omega
  by_cases h1 : T[i].k.g.toList = x.k.g.toList
  ·rw [if_pos h1]
   have h2 : (!(T[i].k.t.toList == x.k.t.toList) || (!(T[i].k.p == x.k.p))) = true := by
    cases h3 : (!(T[i].k.t.toList == x.k.t.toList) || (!(T[i].k.p == x.k.p)))
    ·exact absurd ((put_same T[i] x).1 ⟨h1, h3⟩) hk0
    ·rfl
   rw [if_pos h2, if_pos hlen]
   exact ih
  ·rw [if_neg h1, if_pos hlen]
   exact ih
theorem put_false (T : List Rw) (x : Rw) (hn : T.length ≤ 100) (hr : T.Pairwise (fun a b => kLt a.k b.k)) : ∀ (d i k : Nat) (acc : List Rr), i + d = T.length → 2 * d + 1 < k → acc.length ≤ i →
  weighlockref24_Put.l0 k acc false (lS T) (T.length : Int) (i : Int) x.k.g x.k.t x.k.p x.v = some (acc ++ lS (putT (T.drop i) x))
 | 0, i, k, acc, hi, hk, ha => by
  obtain ⟨k, rfl⟩ : ∃ k', k = k' + 1 := ⟨k - 1, by omega⟩
  rw [weighlockref24_Put.l0, if_neg (by omega), if_neg (by simp), if_pos (by omega), List.drop_of_length_le (by omega)]
  rfl
 | d + 1, i, k, acc, hi, hk, ha => by
  obtain ⟨k, rfl⟩ : ∃ k', k = k' + 2 := ⟨k - 2, by omega⟩
  have hin : i < T.length := by omega
  have hd := List.drop_eq_getElem_cons hin
  have hi1 : ((i + 1 : Nat) : Int) = (i : Int) + 1 := by omega
  have hbf := before_f T[i] x
  have hlen : acc.length < 2932031007402 := by omega
  have hpd : (T.drop i).Pairwise (fun a b => kLt a.k b.k) := hr.sublist (List.drop_sublist _ _)
  rw [hd] at hpd
  obtain ⟨hp1, _⟩ := List.pairwise_cons.1 hpd
  rw [weighlockref24_Put.l0, if_pos (by omega), if_pos (by omega), lS_len, if_pos (by omega), if_neg (by simp), rd_row T i hin]
  show ((weighlockref24_before.f T[i].k.g T[i].k.t T[i].k.p T[i].v x.k.g x.k.t x.k.p x.v).bind _) = _
  rw [hbf, Option.bind_some, hd]
  unfold putT
  by_cases hlt : kLt T[i].k x.k
  ·have n1 : ¬ kLt x.k T[i].k := fun h => kLt_irr _ (kLt_trans h hlt)
   have n2 : T[i].k ≠ x.k := fun h => kLt_irr _ (h ▸ hlt)
   rw [decide_eq_true hlt, weighlockref24_Put.j1, if_neg (by simp), w64o ((i : Int) + 1) (by omega) (by omega), if_neg n1, if_neg n2]
   have ih := put_false T x hn hr d (i + 1) k (acc ++ [toS T[i]]) (by omega) (by omega) (by rw [List.length_append]; simp; omega)
   rw [hi1] at ih
   have hfin : acc ++ [toS T[i]] ++ lS (putT (T.drop (i + 1)) x) = acc ++ lS (T[i] :: putT (T.drop (i + 1)) x) := by
    rw [List.append_assoc]
    rfl
   rw [hfin] at ih
   show (if T[i].k.g.toList = x.k.g.toList then (if (!(T[i].k.t.toList == x.k.t.toList) || (!(T[i].k.p == x.k.p))) = true then _ else _) else _) = _
   by_cases h1 : T[i].k.g.toList = x.k.g.toList
   ·have h2 : (!(T[i].k.t.toList == x.k.t.toList) || (!(T[i].k.p == x.k.p))) = true := by
     cases h3 : (!(T[i].k.t.toList == x.k.t.toList) || (!(T[i].k.p == x.k.p)))
     ·exact absurd ((put_same T[i] x).1 ⟨h1, h3⟩) n2
     ·rfl
    rw [if_pos h1, if_pos h2, if_pos hlen]
    exact ih
   ·rw [if_neg h1, if_pos hlen]
    exact ih
  ·rw [decide_eq_false hlt, weighlockref24_Put.j1, if_pos (show (!false) = true from rfl), if_pos hlen, Option.bind_some, w64o ((i : Int) + 1) (by omega) (by omega)]
   have hlen2 : (acc ++ [(⟨x.k.g, ⟨x.k.t, x.k.p⟩, x.v⟩ : Rr)]).length < 2932031007402 := by rw [List.length_append]; simp; omega
   show (if T[i].k.g.toList = x.k.g.toList then (if (!(T[i].k.t.toList == x.k.t.toList) || (!(T[i].k.p == x.k.p))) = true then _ else _) else _) = _
   by_cases he : T[i].k = x.k
   ·obtain ⟨h1, h2⟩ := (put_same T[i] x).2 he
    have n1 : ¬ kLt x.k T[i].k := fun h => kLt_irr _ (he ▸ h)
    rw [if_pos h1, if_neg (by rw [h2]; simp), if_neg n1, if_pos he]
    have ih := put_true T x hn (fun _ _ => .inr trivial) d (i + 1) k (acc ++ [toS x]) (by omega) (by omega) (by rw [List.length_append]; simp; omega) (fun r hr => fun q => kLt_irr _ ((q.trans he.symm) ▸ hp1 r hr))
    rw [hi1] at ih
    have hfin : acc ++ [toS x] ++ lS (T.drop (i + 1)) = acc ++ lS (x :: T.drop (i + 1)) := by
     rw [List.append_assoc]
     rfl
    rw [hfin] at ih
    exact ih
   ·have n1 : kLt x.k T[i].k := by
     rcases key_tri x.k T[i].k with h | h | h
     ·exact h
     ·exact absurd h.symm he
     ·exact absurd h hlt
    rw [if_pos n1]
    have ih := put_true T x hn (fun _ _ => .inr trivial) d (i + 1) k (acc ++ [toS x] ++ [toS T[i]]) (by omega) (by omega) (by rw [List.length_append, List.length_append]; simp; omega) (fun r hr => fun q => kLt_irr _ (kLt_trans n1 (q ▸ hp1 r hr)))
    rw [hi1] at ih
    have hfin : acc ++ [toS x] ++ [toS T[i]] ++ lS (T.drop (i + 1)) = acc ++ lS (x :: T[i] :: T.drop (i + 1)) := by
     rw [List.append_assoc, List.append_assoc]
     rfl
    rw [hfin] at ih
    by_cases h1 : T[i].k.g.toList = x.k.g.toList
    ·have h2 : (!(T[i].k.t.toList == x.k.t.toList) || (!(T[i].k.p == x.k.p))) = true := by
      cases h3 : (!(T[i].k.t.toList == x.k.t.toList) || (!(T[i].k.p == x.k.p)))
      ·exact absurd ((put_same T[i] x).1 ⟨h1, h3⟩) he
      ·rfl
     rw [if_pos h1, if_pos h2, if_pos hlen2]
     exact ih
    ·rw [if_neg h1, if_pos hlen2]
     exact ih
theorem rput_f (T : List Rw) (x : Rw) (hn : T.length ≤ 50) (hr : T.Pairwise (fun a b => kLt a.k b.k)) (k : Nat) (hk : 200 ≤ k) : weighlockref24_Put.f k (lS T) x.k.g x.k.t x.k.p x.v = some (lS (putT T x)) := by
 unfold weighlockref24_Put.f
 rw [lS_len]
 have := put_false T x (by omega) hr T.length 0 k [] (by omega) (by omega) (by simp)
 rw [List.drop_zero, List.nil_append] at this
 exact this
theorem without_loop (T : List Rw) (hn : T.length ≤ 100) (t : ByteArray) : ∀ (d i k : Nat) (acc : List Rr), i + d = T.length → d < k → acc.length ≤ i → weighlockref24_Without.l0 k t acc (lS T) (T.length : Int) (i : Int) = some (acc ++ lS (witT (T.drop i) t))
 | 0, i, k, acc, hi, hk, ha => by
  obtain ⟨k, rfl⟩ : ∃ k', k = k' + 1 := ⟨k - 1, by omega⟩
  rw [weighlockref24_Without.l0, if_neg (by omega), List.drop_of_length_le (by omega)]
  unfold witT lS
  rw [List.filter_nil, List.map_nil, List.append_nil]
 | d + 1, i, k, acc, hi, hk, ha => by
  obtain ⟨k, rfl⟩ : ∃ k', k = k' + 1 := ⟨k - 1, by omega⟩
  have hin : i < T.length := by omega
  have hi1 : ((i + 1 : Nat) : Int) = (i : Int) + 1 := by omega
  rw [weighlockref24_Without.l0, if_pos (by omega), if_pos (by omega), lS_len, if_pos (by omega), rd_row T i hin, w64o ((i : Int) + 1) (by omega) (by omega), List.drop_eq_getElem_cons hin]
  show (if T[i].k.t.toList = t.toList then _ else _) = _
  unfold witT
  by_cases ht : T[i].k.t = t
  ·rw [if_pos (by rw [ht]), List.filter_cons_of_neg (by simp [ht])]
   have ih := without_loop T hn t d (i + 1) k acc (by omega) (by omega) (by omega)
   rw [hi1] at ih
   exact ih
  ·rw [if_neg (fun e => ht (toList_inj e)), if_pos (by omega), List.filter_cons_of_pos (by simp [ht])]
   have ih := without_loop T hn t d (i + 1) k (acc ++ [toS T[i]]) (by omega) (by omega) (by rw [List.length_append]; simp; omega)
   rw [hi1] at ih
   have hfin : acc ++ [toS T[i]] ++ lS (witT (T.drop (i + 1)) t) = acc ++ lS (T[i] :: witT (T.drop (i + 1)) t) := by
    rw [List.append_assoc]
    rfl
   rw [hfin] at ih
   exact ih
theorem rwithout_f (T : List Rw) (hn : T.length ≤ 50) (t : ByteArray) (k : Nat) (hk : 200 ≤ k) : weighlockref24_Without.f k (lS T) t = some (lS (witT T t)) := by
 unfold weighlockref24_Without.f
 rw [lS_len]
 have := without_loop T (by omega) t T.length 0 k [] (by omega) (by omega) (by simp)
 rw [List.drop_zero, List.nil_append] at this
 exact this
def findT (T : List Rw) (k : Ky) : Int := match T.find? (fun r => decide (r.k = k)) with
 | some r => r.v
 | none => -1
theorem find_loop (T : List Rw) (hn : T.length ≤ 100) (g t : ByteArray) (p : Int) : ∀ (d i k : Nat), i + d = T.length → d < k → weighlockref24_Find.l0 k g (lS T) (T.length : Int) (i : Int) t p = some (findT (T.drop i) ⟨g, t, p⟩)
 | 0, i, k, hi, hk => by
  obtain ⟨k, rfl⟩ : ∃ k', k = k' + 1 := ⟨k - 1, by omega⟩
  rw [weighlockref24_Find.l0, if_neg (by omega), List.drop_of_length_le (by omega)]
  rfl
 | d + 1, i, k, hi, hk => by
  obtain ⟨k, rfl⟩ : ∃ k', k = k' + 1 := ⟨k - 1, by omega⟩
  have hin : i < T.length := by omega
  have hi1 : ((i + 1 : Nat) : Int) = (i : Int) + 1 := by omega
  have ih := find_loop T hn g t p d (i + 1) k (by omega) (by omega)
  rw [hi1] at ih
  rw [weighlockref24_Find.l0, if_pos (by omega), if_pos (by omega), lS_len, if_pos (by omega), rd_row T i hin, w64o ((i : Int) + 1) (by omega) (by omega), List.drop_eq_getElem_cons hin]
  show (if T[i].k.g.toList = g.toList then (if (T[i].k.t.toList == t.toList && (T[i].k.p == p)) = true then (some T[i].v) else _) else _) = _
  unfold findT
  by_cases hk0 : T[i].k = ⟨g, t, p⟩
  ·rw [List.find?_cons_of_pos (by simp [hk0]), hk0, if_pos rfl, if_pos (by simp)]
  ·rw [List.find?_cons_of_neg (by simp [hk0])]
   by_cases h1 : T[i].k.g = g
   ·have h2 : (T[i].k.t.toList == t.toList && (T[i].k.p == p)) = false := by
     cases h3 : (T[i].k.t.toList == t.toList && (T[i].k.p == p))
     ·rfl
     ·exfalso
      apply hk0
      rw [ne_lists] at h3
      simp at h3
      obtain ⟨r, he⟩ : ∃ r, T[i] = r := ⟨_, rfl⟩
      rw [he] at h1 h3 ⊢
      obtain ⟨⟨a, b, c⟩, v⟩ := r
      dsimp only at h1 h3 ⊢
      rw [h1, h3.1, h3.2]
    rw [if_pos (by rw [h1]), if_neg (by rw [h2]; simp)]
    exact ih
   ·rw [if_neg (fun e => h1 (toList_inj e))]
    exact ih
theorem rfind_f (T : List Rw) (hn : T.length ≤ 50) (g t : ByteArray) (p : Int) (k : Nat) (hk : 200 ≤ k) : weighlockref24_Find.f k (lS T) g t p = some (findT T ⟨g, t, p⟩) := by
 unfold weighlockref24_Find.f
 rw [lS_len]
 exact find_loop T (by omega) g t p T.length 0 k (by omega) (by omega)
theorem snap_loop (T : List Rw) (hn : T.length ≤ 100) (hok : okT T) : ∀ (d i k : Nat) (acc : List Fr), i + d = T.length → d + 60 < k → acc.length ≤ i → weighlockref24_Snapshot.l0 k acc (lS T) (T.length : Int) (i : Int) = some (acc ++ (T.drop i).map frT)
 | 0, i, k, acc, hi, hk, ha => by
  obtain ⟨k, rfl⟩ : ∃ k', k = k' + 1 := ⟨k - 1, by omega⟩
  rw [weighlockref24_Snapshot.l0, if_neg (by omega), List.drop_of_length_le (by omega), List.map_nil, List.append_nil]
 | d + 1, i, k, acc, hi, hk, ha => by
  obtain ⟨k, rfl⟩ : ∃ k', k = k' + 1 := ⟨k - 1, by omega⟩
  have hin : i < T.length := by omega
  have hi1 : ((i + 1 : Nat) : Int) = (i : Int) + 1 := by omega
  have ih := snap_loop T hn hok d (i + 1) k (acc ++ [frT T[i]]) (by omega) (by omega) (by rw [List.length_append]; simp; omega)
  rw [hi1] at ih
  have he := rentry_f (hok T[i] (List.getElem_mem hin)) k (by omega)
  rw [weighlockref24_Snapshot.l0, if_pos (by omega), if_pos (by omega), lS_len, if_pos (by omega), rd_row T i hin, w64o ((i : Int) + 1) (by omega) (by omega), List.drop_eq_getElem_cons hin]
  show ((weighlockref24_Entry.f k T[i].k.g T[i].k.t T[i].k.p T[i].v).bind _) = _
  rw [he, Option.bind_some, if_pos (by omega), List.map_cons]
  have hfin : acc ++ [frT T[i]] ++ (T.drop (i + 1)).map frT = acc ++ (frT T[i] :: (T.drop (i + 1)).map frT) := by rw [List.append_assoc]; rfl
  rw [hfin] at ih
  exact ih
theorem rsnap_f (T : List Rw) (hn : T.length ≤ 50) (hok : okT T) (k : Nat) (hk : 200 ≤ k) : weighlockref24_Snapshot.f k (lS T) = some (T.map frT) := by
 unfold weighlockref24_Snapshot.f
 rw [lS_len]
 have := snap_loop T (by omega) hok T.length 0 k [] (by omega) (by omega) (by simp)
 rw [List.drop_zero, List.nil_append] at this
 exact this
theorem rd_fr (l : List Fr) (i : Nat) (hi : i < l.length) : rd_T79 l (i : Int) = l[i] := by
 unfold rd_T79
 rw [Int.toNat_natCast, List.getD_eq_getElem?_getD, List.getElem?_eq_getElem hi]
 rfl
theorem same_loop (l : List Fr) (hn : l.length ≤ 100) : ∀ (d i k : Nat), i + d = l.length → d < k → weighlockref08_Same.l0 k l l (l.length : Int) (i : Int) = some true
 | 0, i, k, hi, hk => by
  obtain ⟨k, rfl⟩ : ∃ k', k = k' + 1 := ⟨k - 1, by omega⟩
  rw [weighlockref08_Same.l0, if_neg (by omega)]
 | d + 1, i, k, hi, hk => by
  obtain ⟨k, rfl⟩ : ∃ k', k = k' + 1 := ⟨k - 1, by omega⟩
  have hin : i < l.length := by omega
  have hi1 : ((i + 1 : Nat) : Int) = (i : Int) + 1 := by omega
  have ih := same_loop l hn d (i + 1) k (by omega) (by omega)
  rw [hi1] at ih
  rw [weighlockref08_Same.l0, if_pos (by omega), if_pos (by omega), if_pos (by omega), if_pos (by omega), rd_fr l i hin, w64o ((i : Int) + 1) (by omega) (by omega), if_neg (by simp)]
  exact ih
theorem rsame_f (l : List Fr) (hn : l.length ≤ 50) : weighlockref08_Same.f 200 l l = some true := by
 unfold weighlockref08_Same.f
 rw [if_pos rfl]
 exact same_loop l (by omega) l.length 0 200 (by omega) (by omega)
end Go.Proofs.Ytohhlkabejangaa.Of

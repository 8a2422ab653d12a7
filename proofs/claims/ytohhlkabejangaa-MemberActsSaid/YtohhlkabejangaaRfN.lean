import Derived.Test.YtohhlkabejangaaMbN
import Derived.Deep.Slices
import Derived.Deep.Fields
import Derived.SizedLaws
import Derived.ChangeSame
import Derived.Test.YtohhlkabejangaaPAsy5
import Derived.Test.YtohhlkabejangaaPAsy6
import Derived.Sort.Walk0
namespace Go.Proofs.Ytohhlkabejangaa.Mb
set_option linter.unusedVariables false
set_option linter.unusedSimpArgs false
open Go.RowKit Go.Deep Go.ChangeShapes Go.WideShapes Go.Proofs.YtohhlkabejangaaW.PrintWords Go.Proofs.YtohhlkabejangaaW.PrintLast Go.Proofs.YtohhlkabejangaaW.PrintMore Go.Proofs.Ytohhlkabejangaa.PAs
instance : Inhabited S53 := ⟨z53⟩
theorem list4 {α : Type} {l : List α} (h : l.length = 4) : ∃ a b c d, l = [a, b, c, d] := by
  match l, h with
  | [a, b, c, d], _ => exact ⟨a, b, c, d, rfl⟩
/-- calls that come in, opened -/
theorem acts_open {H : Type} {enc : TypeId × Value → H} {W : World} {base : Nat} {sp : Nat → Bool} {held : Bool} {fuel : Nat} {A : Option Addr} {n k : Nat} {x : DataW H × List MemPlace} (h : DataW.trod enc Try.prog W base sp held fuel 44 [.slice A n k] = some x) (hz : (x.1.weights Try.prog 44).all (· ≤ reachBytes) = true) :
    ∃ l : List S53, Acs k W A n l := by
  have cR : Try.prog.cellsOf 53 = 4 := by kernel_rfl
  have cI : Try.prog.cellsOf 3 = 1 := by kernel_rfl
  have cS : Try.prog.cellsOf 9 = 1 := by kernel_rfl
  rcases open_slice Try.underlying44 h with ⟨hcs, _⟩ | ⟨a', len, cap, m, fu, D, Pl, hcs, _, hl, hm, hmm, hx0, hx⟩
  · simp at hcs
    obtain ⟨rfl, rfl, rfl⟩ := hcs
    exact ⟨[], rfl, Nat.le_refl _, Kd.C_nil _ _⟩
  · simp at hcs
    obtain ⟨rfl, rfl, rfl⟩ := hcs
    have hml : n ≤ m := by
      rw [hmm]
      split
      · exact hl
      · exact Nat.le_refl _
    have each : ∀ i, i < n → ∃ r : S53, ∀ j u, [Value.int .i64 r.f0, .string r.f1, .int .i64 r.f2, .int .i64 r.f3][j]? = some u → W.cell? (a'.add (i * 4 + j)) = some u := by
      intro i hi
      obtain ⟨cs', h1, h2⟩ := hx i (by omega)
      rw [cR] at h1
      obtain ⟨_, hlen, hcell⟩ := World.cells?_some h1
      obtain ⟨xs, k, hk, hxy, _, hxl, hf⟩ := DataW.trod_struct Try.underlying53 h2
      obtain ⟨v0, v1, v2, v3, rfl⟩ := list4 hlen
      obtain ⟨y0, y1, y2, y3, rfl⟩ := list4 hxl
      have g0 := hf 0 _ rfl
      have g1 := hf 1 _ rfl
      have g2 := hf 2 _ rfl
      have g3 := hf 3 _ rfl
      simp [cI, cS] at g0 g1 g2 g3
      obtain ⟨x0, e0, _⟩ := DataW.trod_int Try.underlying3 g0
      obtain rfl := (List.cons.inj e0).1
      obtain ⟨x1, e1, _⟩ := DataW.trod_string Try.underlying9 g1
      obtain rfl := (List.cons.inj e1).1
      obtain ⟨x2, e2, _⟩ := DataW.trod_int Try.underlying3 g2
      obtain rfl := (List.cons.inj e2).1
      obtain ⟨x3, e3, _⟩ := DataW.trod_int Try.underlying3 g3
      obtain rfl := (List.cons.inj e3).1
      refine ⟨⟨x0, x1, x2, x3⟩, fun j u hu => ?_⟩
      have hj : j < 4 := (List.getElem?_eq_some_iff.1 hu).1
      have h9 := hcell j hj
      rw [Go.Deep.add_add] at h9
      rw [h9]
      exact hu
    obtain ⟨r, hr⟩ := choose_lt each
    have hlr : ((List.range n).map r).length = n := by simp
    have hmax : maxLen ≤ 9223372036854775807 := by unfold maxLen; omega
    refine ⟨(List.range n).map r, hlr, hl, hlr, by omega, fun hn => ⟨a', rfl, fun j p hj => ?_⟩⟩
    have hjl : j < n := by
      have := (List.getElem?_eq_some_iff.1 hj).1
      simpa using this
    obtain rfl : p = r j := by
      rw [List.getElem?_map, List.getElem?_range hjl] at hj
      exact (Option.some.inj hj).symm
    exact ⟨_, rfl, k53_mk _ _, fun i u hu => hr j hjl i u hu⟩
end Go.Proofs.Ytohhlkabejangaa.Mb

namespace Go.Proofs.Ytohhlkabejangaa.Mb
set_option linter.unusedVariables false
set_option linter.unusedSimpArgs false
open Go.RowKit Go.Maps Go.Sort Go.Proofs.YtohhlkabejangaaW.PrintWords Go.Proofs.YtohhlkabejangaaW.PrintLast Go.Proofs.YtohhlkabejangaaW.PrintMore Go.Proofs.Ytohhlkabejangaa.PAs Go.Proofs.Ytohhlkabejangaa.As
/-! ### what the reference's printed functions compute -/
theorem rd_me (l : List Me) (i : Nat) (hi : i < l.length) : rd_T150 l (i : Int) = l[i] := by
  unfold rd_T150
  rw [Int.toNat_natCast, List.getD_eq_getElem?_getD, List.getElem?_eq_getElem hi]
  rfl
theorem is_loop (l : List Me) (hl : l.length ≤ 1000) (x : ByteArray) : ∀ (d i k : Nat), i + d = l.length → d < k → weighlockref29_Group_Is.l0 k x l (l.length : Int) (i : Int) = some (isM (l.drop i) x.toList)
  | 0, i, k, hi, hk => by
    obtain ⟨k, rfl⟩ : ∃ k', k = k' + 1 := ⟨k - 1, by omega⟩
    rw [weighlockref29_Group_Is.l0, if_neg (by omega), List.drop_of_length_le (by omega)]
    rfl
  | d + 1, i, k, hi, hk => by
    obtain ⟨k, rfl⟩ : ∃ k', k = k' + 1 := ⟨k - 1, by omega⟩
    have hin : i < l.length := by omega
    have e : isM (l.drop i) x.toList = (decide (kM l[i] = x.toList) || isM (l.drop (i + 1)) x.toList) := by
      unfold isM
      rw [List.drop_eq_getElem_cons hin, List.any_cons]
    rw [weighlockref29_Group_Is.l0, if_pos (by omega), if_pos (by omega), if_pos (by omega), rd_me l i hin, e]
    by_cases h : (l[i].f0).toList = x.toList
    · rw [if_pos h, decide_eq_true (show kM l[i] = x.toList from h), Bool.true_or]
    · rw [if_neg h, decide_eq_false (show ¬ kM l[i] = x.toList from h), Bool.false_or, w64 _ (by omega) (by omega)]
      exact is_loop l hl x d (i + 1) k (by omega) (by omega)
theorem is_f (m : MG) (hn : m.L.length ≤ 8) (x : ByteArray) : weighlockref29_Group_Is.f 100 m.p m.w m.g m.s m.L x = some (isM m.L x.toList) := by
  unfold weighlockref29_Group_Is.f
  exact is_loop m.L (by omega) x m.L.length 0 100 (by omega) (by omega)
theorem may_f (m : MG) (x : ByteArray) (hx : x.size ≤ 1000) (slot : Int) : weighlockref29_Group_May.f 2000 m.p m.w m.g m.s m.L x slot = some (begB m x slot) := by
  unfold weighlockref29_Group_May.f
  rw [ref_name x (by omega) 2000 (by omega), Option.bind_some]
  unfold begB okS
  by_cases h : nameB x = true
  · rw [if_pos h, h]
    by_cases h1 : slot ≥ m.s
    · rw [if_pos h1, decide_eq_true h1]
      simp
    · rw [if_neg h1, decide_eq_false h1]
      rfl
  · rw [if_neg h]
    simp only [Bool.not_eq_true] at h
    rw [h]
    rfl
theorem names_loop (l : List Me) (hl : l.length ≤ 1000) : ∀ (d i k : Nat), i + d = l.length → d < k → weighlockref29_Group_Names.l0 k (namesM (l.take i)) l (l.length : Int) (i : Int) = some (namesM l)
  | 0, i, k, hi, hk => by
    obtain ⟨k, rfl⟩ : ∃ k', k = k' + 1 := ⟨k - 1, by omega⟩
    rw [weighlockref29_Group_Names.l0, if_neg (by omega), List.take_of_length_le (by omega)]
  | d + 1, i, k, hi, hk => by
    obtain ⟨k, rfl⟩ : ∃ k', k = k' + 1 := ⟨k - 1, by omega⟩
    have hin : i < l.length := by omega
    have e : namesM (l.take (i + 1)) = namesM (l.take i) ++ [l[i].f0] := by
      unfold namesM
      rw [List.take_add_one, List.getElem?_eq_getElem hin, List.map_append]
      rfl
    have hlen : (namesM (l.take i)).length ≤ 1000 := by rw [names_len, List.length_take]; omega
    rw [weighlockref29_Group_Names.l0, if_pos (by omega), if_pos (by omega), if_pos (by omega), if_pos (by omega), rd_me l i hin, ← e, w64 _ (by omega) (by omega)]
    exact names_loop l hl d (i + 1) k (by omega) (by omega)
theorem names_f (k : Nat) (m : MG) (hn : m.L.length ≤ 8) (hk : 100 ≤ k) : weighlockref29_Group_Names.f k m.p m.w m.g m.s m.L = some (namesM m.L) := by
  unfold weighlockref29_Group_Names.f
  exact names_loop m.L (by omega) m.L.length 0 k (by omega) (by omega)
theorem has_f (m : MG) (hn : m.L.length ≤ 8) (hp : 0 ≤ m.p ∧ m.p ≤ 4) (x : ByteArray) : weighlockref29_Group_Has.f 5000 m.p m.w m.g m.s m.L x = some (ofL (namesM m.L) m.p.toNat x.toList) := by
  unfold weighlockref29_Group_Has.f
  rw [names_f 5000 m hn (by omega), Option.bind_some]
  have h := of_f (namesM m.L) m.p.toNat x (by rw [names_len]; omega) (by omega)
  rw [show ((m.p.toNat : Nat) : Int) = m.p by omega] at h
  rw [h]
  rfl
/-- what of the list is still to come, when x is put already, or not -/
def restM (pt : Bool) (l : List Me) (x : Me) : List Me := if pt = true then delM l (kM x) else putM l x
theorem del_none (l : List Me) (x : List UInt8) (h : ∀ y ∈ l, kM y ≠ x) : delM l x = l := by
  unfold delM
  rw [List.filter_eq_self]
  intro y hy
  rw [decide_eq_false (h y hy)]
  rfl
theorem with_loop (l : List Me) (hl : l.length ≤ 1000) (hr : RisM l) (p w g s slot : Int) (x : ByteArray) : ∀ (d i k : Nat) (pt : Bool) (acc : List Me), i + d = l.length → 2 * d + 1 < k → acc.length ≤ 2 * i →
    weighlockref29_Group_with.l0 k acc pt l (l.length : Int) (i : Int) p w g s l x slot = some (p, w, g, s, acc ++ restM pt (l.drop i) ⟨x, slot⟩)
  | 0, i, k, pt, acc, hi, hk, hac => by
    obtain ⟨k, rfl⟩ : ∃ k', k = k' + 1 := ⟨k - 1, by omega⟩
    rw [weighlockref29_Group_with.l0, if_neg (by omega), List.drop_of_length_le (by omega)]
    cases pt with
    | true => rw [if_pos rfl]; simp [restM, delM]
    | false => rw [if_neg (by decide), if_pos (by omega)]; simp [restM, putM]
  | d + 1, i, k, pt, acc, hi, hk, hac => by
    obtain ⟨k, rfl⟩ : ∃ k', k = k' + 1 + 1 := ⟨k - 2, by omega⟩
    have hin : i < l.length := by omega
    have hdr : l.drop i = l[i] :: l.drop (i + 1) := List.drop_eq_getElem_cons hin
    have hris : RisM (l.drop i) := List.Pairwise.sublist (List.drop_sublist i l) hr
    rw [hdr] at hris
    obtain ⟨hgt, hrs⟩ := List.pairwise_cons.1 hris
    have ih := fun pt acc h => with_loop l hl hr p w g s slot x d (i + 1) k pt acc (by omega) (by omega) h
    rw [weighlockref29_Group_with.l0, if_pos (by omega), if_pos (by omega), if_pos (by omega), rd_me l i hin, hdr, bytesLess_eq]
    have hwi : wrap64 ((i : Int) + 1) = ((i + 1 : Nat) : Int) := by rw [w64 _ (by omega) (by omega)]; rfl
    obtain ⟨yy, hy⟩ : ∃ yy, l[i] = yy := ⟨_, rfl⟩
    obtain ⟨y0, y1⟩ := yy
    simp only [hy] at hgt ⊢
    have hdel : kM (⟨y0, y1⟩ : Me) = x.toList → delM (⟨y0, y1⟩ :: l.drop (i + 1)) x.toList = delM (l.drop (i + 1)) x.toList := fun e => by
      unfold delM
      rw [List.filter_cons_of_neg (by rw [decide_eq_true e]; decide)]
    have hdel2 : kM (⟨y0, y1⟩ : Me) ≠ x.toList → delM (⟨y0, y1⟩ :: l.drop (i + 1)) x.toList = ⟨y0, y1⟩ :: delM (l.drop (i + 1)) x.toList := fun e => by
      unfold delM
      rw [List.filter_cons_of_pos (by rw [decide_eq_false e]; decide)]
    have hk0 : kM (⟨y0, y1⟩ : Me) = y0.toList := rfl
    have hkx : kM (⟨x, slot⟩ : Me) = x.toList := rfl
    cases pt with
    | true =>
      rw [if_pos rfl, weighlockref29_Group_with.j1, if_neg (by decide), hwi]
      show _ = some (p, w, g, s, acc ++ delM (⟨y0, y1⟩ :: l.drop (i + 1)) x.toList)
      by_cases h : y0.toList = x.toList
      · rw [if_pos h, ih true acc (by omega), hdel h]
        rfl
      · rw [if_neg h, if_pos (by omega), ih true (acc ++ [(⟨y0, y1⟩ : Me)]) (by simp; omega), hdel2 h]
        simp [restM, hkx]
    | false =>
      rw [if_neg (by decide), weighlockref29_Group_with.j1, hwi]
      show _ = some (p, w, g, s, acc ++ putM (⟨y0, y1⟩ :: l.drop (i + 1)) ⟨x, slot⟩)
      by_cases h1 : y0.toList < x.toList
      · have hne : ¬ y0.toList = x.toList := fun e => lt_irr _ (by rw [e] at h1; exact h1)
        have hnl : ¬ x.toList < y0.toList := fun e => lt_irr _ (List.lt_trans h1 e)
        rw [if_neg (by rw [decide_eq_true h1]; decide), if_neg hne, if_pos (by omega), ih false (acc ++ [(⟨y0, y1⟩ : Me)]) (by simp; omega)]
        rw [putM, if_neg (by rw [hk0, hkx]; exact hnl), if_neg (by rw [hk0, hkx]; exact hne)]
        simp [restM]
      · rw [if_pos (by rw [decide_eq_false h1]; rfl), if_pos (by omega), Option.bind_some]
        by_cases h : y0.toList = x.toList
        · have hnl : ¬ x.toList < y0.toList := by rw [h]; exact lt_irr _
          rw [if_pos h, ih true (acc ++ [(⟨x, slot⟩ : Me)]) (by simp; omega), putM, if_neg (by rw [hk0, hkx]; exact hnl), if_pos (by rw [hk0, hkx]; exact h)]
          have hd : delM (l.drop (i + 1)) x.toList = l.drop (i + 1) := del_none _ _ (fun z hz e => lt_irr _ (by have := hgt z hz; rw [e, hk0, h] at this; exact this))
          simp [restM, hkx, hd]
        · have hlt : x.toList < y0.toList := by
            rcases lt_tri x.toList y0.toList with h2 | h2 | h2
            · exact h2
            · exact (h h2.symm).elim
            · exact (h1 h2).elim
          rw [if_neg h, if_pos (by simp; omega), ih true (acc ++ [(⟨x, slot⟩ : Me)] ++ [(⟨y0, y1⟩ : Me)]) (by simp; omega), putM, if_pos (by rw [hk0, hkx]; exact hlt)]
          have hd : delM (l.drop (i + 1)) x.toList = l.drop (i + 1) := del_none _ _ (fun z hz e => lt_irr _ (by have := List.lt_trans hlt (hgt z hz); rw [e] at this; exact this))
          simp [restM, hkx, hd]
theorem with_f (m : MG) (hn : m.L.length ≤ 8) (hr : RisM m.L) (x : ByteArray) (slot : Int) : weighlockref29_Group_with.f 100 m.p m.w m.g m.s m.L x slot = some (m.p, m.w, m.g, m.s, putM m.L ⟨x, slot⟩) := by
  unfold weighlockref29_Group_with.f
  have := with_loop m.L (by omega) hr m.p m.w m.g m.s slot x m.L.length 0 100 false [] (by omega) (by omega) (by simp)
  exact this
end Go.Proofs.Ytohhlkabejangaa.Mb

namespace Go.Proofs.Ytohhlkabejangaa.Mb
set_option linter.unusedVariables false
set_option linter.unusedSimpArgs false
open Go.RowKit Go.Maps Go.Sort Go.Proofs.YtohhlkabejangaaW.PrintWords Go.Proofs.YtohhlkabejangaaW.PrintLast Go.Proofs.YtohhlkabejangaaW.PrintMore Go.Proofs.Ytohhlkabejangaa.PAs Go.Proofs.Ytohhlkabejangaa.As Go.Proofs.Ytohhlkabejangaa.Wire
def MG.gc (m : MG) (A : Option Addr) (n c : Nat) : Array Value := #[.int .i64 m.p, .int .i64 m.w, .int .i64 m.g, .int .i64 m.s, .slice A n c]
/-- the list of a group lies at A, with room for c, in a row of its own kind -/
structure Ls (W : World) (A : Option Addr) (c : Nat) (L : List Me) : Prop where
  own : Kd.R k150 150 W 0 (fun _ => True) (.slice A L.length c) L
theorem Ls.c {W : World} {A : Option Addr} {c : Nat} {L : List Me} (h : Ls W A c L) : L.length ≤ c := (Kd.R_reads' h.own).2.1
theorem Ls.r {W : World} {A : Option Addr} {c : Nat} {L : List Me} (h : Ls W A c L) : Kd.C k150 W A L.length L := (Kd.R_reads' h.own).2.2
theorem Ls.later {W W' : World} {A : Option Addr} {c : Nat} {L : List Me} (h : Ls W A c L) (k : Below W.heap.size W W') : Ls W' A c L := ⟨Kd.R_below h.own k⟩
/-- a block of another kind is stored into -/
theorem Ls.put {W W' : World} {A : Option Addr} {c q : Nat} {L : List Me} (h : Ls W A c L) (k : W.grownBy W' (some q)) (hq : ∀ cells, W.heap[q]? ≠ some (.cells cells 150 (0, 0))) : Ls W' A c L :=
  ⟨Kd.R_mono (Kd.R_step (Kd.R_bound h.own) (fun i hi hlt => k.block i hlt (fun e => by
    obtain ⟨_, _, _, t, ht, cells, hc⟩ := hi
    have hE : (k150).E = [] := rfl
    rw [hE] at ht
    obtain rfl := List.mem_singleton.1 ht
    rw [Option.some.inj e] at hc
    exact hq cells hc))) (fun _ _ => trivial)⟩
theorem not_me {W : World} {q t : Nat} {cs : Array Value} (h : W.heap[q]? = some (.cells cs t (0, 0))) (ht : t ≠ 150) : ∀ cells, W.heap[q]? ≠ some (.cells cells 150 (0, 0)) := fun cells e => by
  rw [h] at e
  simp only [Option.some.injEq, Obj.cells.injEq] at e
  exact ht e.2.1
theorem not_me_map {W : World} {q n : Nat} {es : Array MapEntry} (h : W.heap[q]? = some (.map es n)) : ∀ cells, W.heap[q]? ≠ some (.cells cells 150 (0, 0)) := fun cells e => by
  rw [h] at e
  cases e
theorem Ls.of_R {W : World} {B : Nat} {v : Value} {L : List Me} (h : Kd.R k150 150 W B (fun _ => True) v L) : ∃ A c, v = .slice A L.length c ∧ Ls W A c L := by
  obtain ⟨A, c, rfl, hc, hC⟩ := Kd.R_reads h
  exact ⟨A, c, rfl, ⟨Kd.R_lower h (Nat.zero_le _)⟩⟩
theorem rmay_calls (m : MG) (A : Option Addr) (c : Nat) (x : ByteArray) (hx : x.size ≤ 1000) (slot : Int) (W : World) (h : Ls W A c m.L) :
    Calls Try.prog 126 #[.agg #[.int .i64 m.p, .int .i64 m.w, .int .i64 m.g, .int .i64 m.s, .slice A m.L.length c], .string x, .int .i64 slot] W fun e w' => e = .returned (.bool (begB m x slot)) ∧ Below W.heap.size W w' :=
  weighlockref29_Group_May.calls 2000 m.p m.w m.g m.s A c m.L x slot _ W h.r h.c (may_f m x hx slot)
theorem ris_calls (m : MG) (hn : m.L.length ≤ 8) (A : Option Addr) (c : Nat) (x : ByteArray) (W : World) (h : Ls W A c m.L) :
    Calls Try.prog 86 #[.agg #[.int .i64 m.p, .int .i64 m.w, .int .i64 m.g, .int .i64 m.s, .slice A m.L.length c], .string x] W fun e w' => e = .returned (.bool (isM m.L x.toList)) ∧ Below W.heap.size W w' :=
  weighlockref29_Group_Is.calls 100 m.p m.w m.g m.s A c m.L x _ W h.r h.c (is_f m hn x)
theorem rwith_calls (m : MG) (hn : m.L.length ≤ 8) (hr : RisM m.L) (A : Option Addr) (c : Nat) (x : ByteArray) (slot : Int) (W : World) (h : Ls W A c m.L) :
    Calls Try.prog 127 #[.agg #[.int .i64 m.p, .int .i64 m.w, .int .i64 m.g, .int .i64 m.s, .slice A m.L.length c], .agg #[.string x, .int .i64 slot]] W fun e w' => ∃ A' c', e = .returned (.agg #[.int .i64 m.p, .int .i64 m.w, .int .i64 m.g, .int .i64 m.s, .slice A' (setM m x slot).L.length c']) ∧ Ls w' A' c' (setM m x slot).L ∧ Below W.heap.size W w' := by
  refine (weighlockref29_Group_with.calls 100 m.p m.w m.g m.s A c m.L x slot _ _ _ _ _ W h.r h.c (with_f m hn hr x slot)).mono ?_
  rintro e w' ⟨v, rfl, hR, hb⟩
  obtain ⟨A', c', rfl, hL⟩ := Ls.of_R hR
  exact ⟨A', c', rfl, hL, hb⟩
theorem rnames_calls (m : MG) (hn : m.L.length ≤ 8) (A : Option Addr) (c : Nat) (W : World) (h : Ls W A c m.L) :
    Calls Try.prog 33 #[.agg #[.int .i64 m.p, .int .i64 m.w, .int .i64 m.g, .int .i64 m.s, .slice A m.L.length c]] W fun e w' => ∃ v, e = .returned v ∧ Kd.R Kd.string 9 w' W.heap.size (fun _ => True) v (namesM m.L) ∧ Below W.heap.size W w' :=
  weighlockref29_Group_Names.calls 100 m.p m.w m.g m.s A c m.L _ W h.r h.c (names_f 100 m hn (by omega))
theorem rhas_calls (m : MG) (hn : m.L.length ≤ 8) (hp : 0 ≤ m.p ∧ m.p ≤ 4) (A : Option Addr) (c : Nat) (x : ByteArray) (W : World) (h : Ls W A c m.L) :
    Calls Try.prog 85 #[.agg #[.int .i64 m.p, .int .i64 m.w, .int .i64 m.g, .int .i64 m.s, .slice A m.L.length c], .string x] W fun e w' => ∃ v, e = .returned v ∧ Kd.R (Kd.int .i64) 3 w' W.heap.size (fun _ => True) v (ofL (namesM m.L) m.p.toNat x.toList) ∧ Below W.heap.size W w' :=
  weighlockref29_Group_Has.calls 5000 m.p m.w m.g m.s A c m.L x _ W h.r h.c (has_f m hn hp x)
theorem me_new {W W0 W' : World} {base b : Nat} {v : Value} {xs : List Me} (h : Kd.R k150 150 W base (fun _ => True) v xs) (hb : Below W.heap.size W W0) (hg : W0.grownBy W' (some b)) (hB : W.heap.size ≤ b) : Kd.R k150 150 W' base (fun _ => True) v xs :=
  Kd.R_mono (Kd.R_step (Kd.R_bound h) (fun k hk hlt => (hg.block k (Nat.lt_of_lt_of_le hlt hb.size) (fun e => by have := Option.some.inj e; omega)).trans (hb.block k hlt))) (fun _ _ => trivial)
theorem me_ne {W : World} {v : Value} {xs : List Me} {base g : Nat} (h : Kd.R k150 150 W base (fun _ => True) v xs) (hg : W.heap.size ≤ g) : v.ownBlock ≠ some g :=
  fun e => by have := ((Kd.R_bound h).1 g e).2.2.1; omega
theorem blk_grown2 {W W' : World} {g : Nat} {ob : Obj} {b : Option Nat} (h : W.heap[g]? = some ob) (hg : W.grownBy W' b) (hne : b ≠ some g) : W'.heap[g]? = some ob :=
  (hg.block g (Array.getElem?_eq_some_iff.1 h).1 (fun e => hne e.symm)).trans h
def Me.cs (r : Me) : Array Value := #[.string r.f0, .int .i64 r.f1]
theorem at_me {w : World} {A : Option Addr} {n : Nat} {xs : List Me} (h : Kd.C k150 w A n xs) (i : Nat) (hi : i < n) (hx : i < xs.length) :
    ∃ ad, A = some ad ∧ (∀ (j : Nat) (u : Value), (Me.cs xs[i])[j]? = some u → w.cell? ((ad.add (i * 2)).add j) = some u) := by
  obtain ⟨ad, c, e, hs, hK, hc⟩ := Kd.C_get h z150 (i : Int) (by omega) (by omega)
  have hq := k150_open hK
  rw [Int.toNat_natCast] at hc hq
  have hgd : xs.getD i z150 = xs[i] := by rw [List.getD_eq_getElem?_getD, List.getElem?_eq_getElem hx]; rfl
  rw [hgd] at hq
  subst hq
  refine ⟨ad, e, fun j u hu => ?_⟩
  rw [Go.Deep.add_add]
  exact hc j u (by simpa [Me.cs] using hu)
theorem keep_step (w slot : Int) (l : List Me) (i : Nat) (hi : i < l.length) : keepM w slot (l.take (i + 1)) = if slot - l[i].f1 ≤ w then keepM w slot (l.take i) ++ [l[i]] else keepM w slot (l.take i) := by
  unfold keepM
  rw [List.take_add_one, List.getElem?_eq_getElem hi, List.filter_append]
  by_cases h : slot - l[i].f1 ≤ w
  · rw [if_pos h]
    simp [h]
  · rw [if_neg h]
    simp [h]
theorem del_step (x : List UInt8) (l : List Me) (i : Nat) (hi : i < l.length) : delM (l.take (i + 1)) x = if kM l[i] = x then delM (l.take i) x else delM (l.take i) x ++ [l[i]] := by
  unfold delM
  rw [List.take_add_one, List.getElem?_eq_getElem hi, List.filter_append]
  by_cases h : kM l[i] = x
  · rw [if_pos h]
    simp [h]
  · rw [if_neg h]
    simp [h]
set_option maxHeartbeats 16000000 in
set_option maxRecDepth 100000 in
theorem rsweep_calls (m : MG) (hok : okM m) (hg : m.g ≤ 1000000) (A : Option Addr) (c : Nat) (slot : Int) (w : World) (h : Ls w A c m.L) :
    Calls Try.prog 84 #[.agg #[.int .i64 m.p, .int .i64 m.w, .int .i64 m.g, .int .i64 m.s, .slice A m.L.length c], .int .i64 slot] w fun e w' => ∃ A' c', e = .returned (.agg #[.int .i64 (swpM m slot).1.p, .int .i64 (swpM m slot).1.w, .int .i64 (swpM m slot).1.g, .int .i64 (swpM m slot).1.s, .slice A' (swpM m slot).1.L.length c', .int .i64 (swpM m slot).2, .int .i64 0]) ∧ Ls w' A' c' (swpM m slot).1.L ∧ Below w.heap.size w w' := by
  have hund : ∀ b, some undef = some (Value.bool b) → False := fun b h => by simp [undef] at h
  have HL := Aside0.mk h
  have hs0 := hok.s
  have hw0 := hok.w
  have hg0 := hok.g
  have HOK := Aside0.mk hok
  clear h hok
  unfold swpM
  cases hs : okS m slot with
  | false =>
    show Calls _ _ _ _ fun e w' => ∃ A' c', e = .returned (.agg #[.int .i64 m.p, .int .i64 m.w, .int .i64 m.g, .int .i64 m.s, .slice A' m.L.length c', .int .i64 0, .int .i64 0]) ∧ Ls w' A' c' m.L ∧ _
    have hcase : slot < m.s ∨ ¬ slot < m.s ∧ slot > 1099511627776 := by
      unfold okS at hs
      rw [Bool.and_eq_false_iff, decide_eq_false_iff_not, decide_eq_false_iff_not] at hs
      omega
    clear hs
    rcases hcase with h1 | ⟨h1, h2⟩
    · have d1 : decide (slot < m.s) = true := decide_eq_true h1
      clear h1
      go_enter Try.func84, Try.ntmps84
      go_wp2_with (first
        | ((with_reducible refine gate_dst (N := 2) rfl ?_); refine box_event rfl (N := 2) rfl (cs := #[.int .i64 m.p, .int .i64 m.w, .int .i64 m.g, .int .i64 m.s, .slice A m.L.length c]) (t := 51) ?hr ?_; (case hr => first | (go_simp; done) | (go_simp; rfl)); intro g2 hg2 w1 hbx hbl; have HB := Aside0.mk hbl; have G2 := Aside0.mk (show w.heap.size ≤ g2 by rw [hg2]; exact Nat.le_refl _); have X := Aside0.mk hbx; clear hbl hbx hg2)
        | ((with_reducible refine gate_dst (N := 4) rfl ?_); refine box_event rfl (N := 4) rfl (cs := #[.int .i64 0, .int .i64 0, .int .i64 0, .int .i64 0, .slice none 0 0, .int .i64 0, .int .i64 0]) (t := 57) ?hr ?_; (case hr => first | (go_simp; done) | (go_simp; rfl)); intro g4 hg4 w2 hbx hbl; have D34 := Aside0.mk (show g2 ≠ g4 by rw [hg4]; exact Nat.ne_of_lt (Array.getElem?_eq_some_iff.1 X.out).1); have G4 := Aside0.mk (show w.heap.size ≤ g4 by rw [hg4]; exact HB.out.size); have n_X := Aside0.mk ((hbl.block g2 (Array.getElem?_eq_some_iff.1 X.out).1).trans X.out); have n_B := Aside0.mk (below_step HB.out hbl); have Y := Aside0.mk hbx; clear HB X hbl hbx hg4; have HB := n_B; have X := n_X; clear n_B n_X; have k3 : w2.cell? ⟨g2, 3, none⟩ = some (.int .i64 m.s) := (blk_cell X.out 3).trans rfl)
        | ((with_reducible refine gate_dst (N := 17) rfl ?_); refine load_ev (N := 17) rfl rfl rfl (cs := #[.int .i64 m.p, .int .i64 m.w, .int .i64 m.g, .int .i64 m.s, .slice A m.L.length c]) rfl X.out Try.underlying51 rfl (by kernel_rfl) ?_)
        | ((with_reducible refine gate_store (t := 57) (p := 4) rfl ?_); refine store_ev rfl rfl rfl (cells := #[.int .i64 m.p, .int .i64 m.w, .int .i64 m.g, .int .i64 m.s, .slice A m.L.length c, .int .i64 0, .int .i64 0]) rfl rfl Y.out (by kernel_rfl) rfl (by kernel_rfl) ?_; intro wf hbx hgr; have n_B := Aside0.mk (below_put HB.out G4.out hgr HB.out.size); have n_Y := Aside0.mk hbx; have HGF := Aside0.mk hgr; clear HB Y hbx hgr; have HB := n_B; have Y := n_Y; clear n_B n_Y))
      refine bodyPost_ret (results_cell_row rfl _ _ g4 57 #[.int .i64 m.p, .int .i64 m.w, .int .i64 m.g, .int .i64 m.s, .slice A m.L.length c, .int .i64 0, .int .i64 0] (0, 0) _ rfl Y.out Try.underlying57 rfl (by kernel_rfl)) rfl ?_
      exact ⟨A, c, rfl, HL.out.later HB.out, HB.out⟩
    · have d1 : decide (slot < m.s) = false := decide_eq_false h1
      have d2 : decide (slot > 1099511627776) = true := decide_eq_true h2
      have d2' : decide (1099511627776 < slot) = true := decide_eq_true h2
      clear h1 h2
      go_enter Try.func84, Try.ntmps84
      go_wp2_with (first
        | ((with_reducible refine gate_dst (N := 2) rfl ?_); refine box_event rfl (N := 2) rfl (cs := #[.int .i64 m.p, .int .i64 m.w, .int .i64 m.g, .int .i64 m.s, .slice A m.L.length c]) (t := 51) ?hr ?_; (case hr => first | (go_simp; done) | (go_simp; rfl)); intro g2 hg2 w1 hbx hbl; have HB := Aside0.mk hbl; have G2 := Aside0.mk (show w.heap.size ≤ g2 by rw [hg2]; exact Nat.le_refl _); have X := Aside0.mk hbx; clear hbl hbx hg2)
        | ((with_reducible refine gate_dst (N := 4) rfl ?_); refine box_event rfl (N := 4) rfl (cs := #[.int .i64 0, .int .i64 0, .int .i64 0, .int .i64 0, .slice none 0 0, .int .i64 0, .int .i64 0]) (t := 57) ?hr ?_; (case hr => first | (go_simp; done) | (go_simp; rfl)); intro g4 hg4 w2 hbx hbl; have D34 := Aside0.mk (show g2 ≠ g4 by rw [hg4]; exact Nat.ne_of_lt (Array.getElem?_eq_some_iff.1 X.out).1); have G4 := Aside0.mk (show w.heap.size ≤ g4 by rw [hg4]; exact HB.out.size); have n_X := Aside0.mk ((hbl.block g2 (Array.getElem?_eq_some_iff.1 X.out).1).trans X.out); have n_B := Aside0.mk (below_step HB.out hbl); have Y := Aside0.mk hbx; clear HB X hbl hbx hg4; have HB := n_B; have X := n_X; clear n_B n_X; have k3 : w2.cell? ⟨g2, 3, none⟩ = some (.int .i64 m.s) := (blk_cell X.out 3).trans rfl)
        | ((with_reducible refine gate_dst (N := 17) rfl ?_); refine load_ev (N := 17) rfl rfl rfl (cs := #[.int .i64 m.p, .int .i64 m.w, .int .i64 m.g, .int .i64 m.s, .slice A m.L.length c]) rfl X.out Try.underlying51 rfl (by kernel_rfl) ?_)
        | ((with_reducible refine gate_store (t := 57) (p := 4) rfl ?_); refine store_ev rfl rfl rfl (cells := #[.int .i64 m.p, .int .i64 m.w, .int .i64 m.g, .int .i64 m.s, .slice A m.L.length c, .int .i64 0, .int .i64 0]) rfl rfl Y.out (by kernel_rfl) rfl (by kernel_rfl) ?_; intro wf hbx hgr; have n_B := Aside0.mk (below_put HB.out G4.out hgr HB.out.size); have n_Y := Aside0.mk hbx; have HGF := Aside0.mk hgr; clear HB Y hbx hgr; have HB := n_B; have Y := n_Y; clear n_B n_Y))
      refine bodyPost_ret (results_cell_row rfl _ _ g4 57 #[.int .i64 m.p, .int .i64 m.w, .int .i64 m.g, .int .i64 m.s, .slice A m.L.length c, .int .i64 0, .int .i64 0] (0, 0) _ rfl Y.out Try.underlying57 rfl (by kernel_rfl)) rfl ?_
      exact ⟨A, c, rfl, HL.out.later HB.out, HB.out⟩
  | true =>
    show Calls _ _ _ _ fun e w' => ∃ A' c', e = .returned (.agg #[.int .i64 (sweepM m slot).p, .int .i64 (sweepM m slot).w, .int .i64 (sweepM m slot).g, .int .i64 (sweepM m slot).s, .slice A' (sweepM m slot).L.length c', .int .i64 (outM m slot), .int .i64 0]) ∧ Ls w' A' c' (sweepM m slot).L ∧ _
    have hs2 : m.s ≤ slot ∧ slot ≤ 1099511627776 := by
      unfold okS at hs
      simpa [Bool.and_eq_true, decide_eq_true_eq] using hs
    have d1 : decide (slot < m.s) = false := decide_eq_false (by omega)
    have d2 : decide (slot > 1099511627776) = false := decide_eq_false (by omega)
    have d2' : decide (1099511627776 < slot) = false := decide_eq_false (by omega)
    clear hs
    go_enter Try.func84, Try.ntmps84
    go_wp2_with (first
      | ((with_reducible refine gate_dst (N := 2) rfl ?_); refine box_event rfl (N := 2) rfl (cs := #[.int .i64 m.p, .int .i64 m.w, .int .i64 m.g, .int .i64 m.s, .slice A m.L.length c]) (t := 51) ?hr ?_; (case hr => first | (go_simp; done) | (go_simp; rfl)); intro g2 hg2 w1 hbx hbl; have HB := Aside0.mk hbl; have G2 := Aside0.mk (show w.heap.size ≤ g2 by rw [hg2]; exact Nat.le_refl _); have X := Aside0.mk hbx; clear hbl hbx hg2)
      | ((with_reducible refine gate_dst (N := 4) rfl ?_); refine box_event rfl (N := 4) rfl (cs := #[.int .i64 0, .int .i64 0, .int .i64 0, .int .i64 0, .slice none 0 0, .int .i64 0, .int .i64 0]) (t := 57) ?hr ?_; (case hr => first | (go_simp; done) | (go_simp; rfl)); intro g4 hg4 w2 hbx hbl; have D34 := Aside0.mk (show g2 ≠ g4 by rw [hg4]; exact Nat.ne_of_lt (Array.getElem?_eq_some_iff.1 X.out).1); have G4 := Aside0.mk (show w.heap.size ≤ g4 by rw [hg4]; exact HB.out.size); have n_X := Aside0.mk ((hbl.block g2 (Array.getElem?_eq_some_iff.1 X.out).1).trans X.out); have n_B := Aside0.mk (below_step HB.out hbl); have Y := Aside0.mk hbx; clear HB X hbl hbx hg4; have HB := n_B; have X := n_X; clear n_B n_X; have k3 : w2.cell? ⟨g2, 3, none⟩ = some (.int .i64 m.s) := (blk_cell X.out 3).trans rfl; have k4 : w2.cell? ⟨g2, 4, none⟩ = some (.slice A m.L.length c) := (blk_cell X.out 4).trans rfl; have k1 : w2.cell? ⟨g2, 1, none⟩ = some (.int .i64 m.w) := (blk_cell X.out 1).trans rfl))
    have HL2 := Aside0.mk (HL.out.later HB.out)
    have K1 := Aside0.mk k1
    have g2lt := Aside0.mk (Array.getElem?_eq_some_iff.1 X.out).1
    clear k1 k3 k4
    go_loopw [5, 22] (fun ov iv wr => ∃ (i : Nat) (acc : List Me), iv = .int .i64 i ∧ i ≤ m.L.length ∧ Aside0 (acc = keepM m.w slot (m.L.take i)) ∧ Aside0 (acc.length ≤ i) ∧ Aside0 (Kd.R k150 150 wr w2.heap.size (fun _ => True) ov acc) ∧ Aside0 (Below w2.heap.size w2 wr)) (fun _ iv _ => m.L.length - (intOf iv).toNat)
    case atStart => exact ⟨0, [], rfl, Nat.zero_le _, ⟨by rw [List.take_zero]; rfl⟩, ⟨Nat.zero_le _⟩, ⟨Kd.R_nil _ _ _ _ _⟩, ⟨Below.refl _ _⟩⟩
    case round =>
      obtain ⟨i, acc, rfl, hil, HACC, HN, R, H4⟩ := hrel
      by_cases hlt : i < m.L.length
      · obtain ⟨ad, hAd, hcs⟩ := at_me (Kd.C_below HL2.out.r H4.out) i hlt hlt
        have hcs' := Aside0.mk hcs
        have HST := Aside0.mk (keep_step m.w slot m.L i hlt)
        have HYA := Aside0.mk (HOK.out.a _ (List.getElem_mem hlt))
        subst hAd
        clear hcs
        obtain ⟨pr, hpr⟩ : ∃ pr, m.L[i] = pr := ⟨_, rfl⟩
        simp only [hpr] at hcs' HST HYA
        clear hpr
        obtain ⟨y0, y1⟩ := pr
        simp only [Me.cs] at hcs'
        have hya := HYA.out.2
        have hya0 : 0 ≤ y1 ∧ y1 ≤ 1099511627776 := hya
        clear hya
        have hn8 := HOK.out.n
        have H4z := Aside0.mk H4.out.size
        have j1 : decide ((i : Int) < (m.L.length : Int)) = true := decide_eq_true (by omega)
        have j2 : (0 ≤ (i : Int)) = True := eq_true (by omega)
        have j3 : ((i : Int) < (m.L.length : Int)) = True := eq_true (by omega)
        by_cases hP : slot - y1 ≤ m.w
        · have HS2 := Aside0.mk (HST.out.trans (if_pos hP))
          have e1 : decide (slot - y1 ≤ m.w) = true := decide_eq_true hP
          have hw1 : wrap64 (slot - y1) = slot - y1 := w64 _ (by omega) (by omega)
          have hw2 : IntKind.i64.wrap (slot - y1) = slot - y1 := IntWalk.i64_in _ (by omega)
          clear hP
          go_wp2_with (first
            | ((with_reducible refine gate_dst (N := 25) rfl ?_); refine load_evm' (N := 25) rfl rfl rfl (cs := #[.string y0, .int .i64 y1]) rfl hcs'.out Try.underlying150 rfl (by kernel_rfl) ?_)
            | ((with_reducible refine gate_dst (N := 7) rfl ?_); refine box_event rfl (N := 7) rfl (cs := #[.string ⟨#[]⟩, .int .i64 0]) (t := 150) ?hr ?_; (case hr => first | (go_simp; done) | (go_simp; rfl)); intro g7 hg7 w5 hbx hbl; have n_H := Aside0.mk (below_step H4.out hbl); have HX := Aside0.mk hbl; have NE := Aside0.mk (me_ne R.out (show wr.heap.size ≤ g7 by rw [hg7]; exact Nat.le_refl _)); have G7 := Aside0.mk (show wr.heap.size ≤ g7 by rw [hg7]; exact Nat.le_refl _); have Q := Aside0.mk hbx; clear H4 hbx hbl hg7; have H4 := n_H; clear n_H)
            | ((with_reducible refine gate_store (t := 150) (p := 7) rfl ?_); refine store_ev rfl rfl rfl (cells := #[.string y0, .int .i64 y1]) rfl rfl Q.out (by kernel_rfl) rfl (by kernel_rfl) ?_; intro w6 hbx hgr; have n_R := Aside0.mk (me_new R.out HX.out hgr G7.out); have n_H := Aside0.mk (below_put H4.out (Nat.le_trans H4z.out G7.out) hgr H4.out.size); have n_Q := Aside0.mk hbx; clear H4 Q hbx hgr R HX; have H4 := n_H; have Q := n_Q; have R := n_R; clear n_H n_Q n_R; have c0 : w6.cell? ⟨g7, 0, none⟩ = some (.string y0) := (blk_cell Q.out 0).trans rfl; have c1 : w6.cell? ⟨g7, 1, none⟩ = some (.int .i64 y1) := (blk_cell Q.out 1).trans rfl; have z1 : w6.cell? ⟨g2, 1, none⟩ = some (.int .i64 m.w) := (H4.out.cell g2lt.out).trans K1.out)
            | ((with_reducible refine gate_dst (N := 34) rfl ?_); refine load_ev (N := 34) rfl rfl rfl (cs := #[.string y0, .int .i64 y1]) rfl Q.out Try.underlying150 rfl (by kernel_rfl) ?_)
            | ((with_reducible refine gate_builtin (b := .append) (xs := #[.tmp 33, .tmp 35]) rfl ?_); at_builtin; refine Kd.R_append k150 (w0 := w2) w2.heap.size rfl (.tmp 33) (.tmp 35) 49 150 (.agg #[.string ⟨#[]⟩, .int .i64 0]) 24 rfl Try.underlying49 info150 rfl (by decide) (by decide) _ acc (⟨y0, y1⟩ : Me) [.string y0, .int .i64 y1] (fun _ => True) (fun _ => False) rfl ?aX (k150_mkM _ _ _ ⟨y0, y1⟩) (fun _ hk => hk.elim) (fun _ _ => trivial) R.out H4.out H4.out.size ?aL ?_; (case aX => first | rfl | (go_simp; done) | (go_simp; rfl)); (case aL => (try simp only [List.length_append, List.length_cons, List.length_nil]); have := HN.out; omega); intro u9 w7 ho hb hgr hat; clear R H4 hgr hat; have R := Aside0.mk ho; have H4 := Aside0.mk hb; clear ho hb))
          try clear c0
          try clear c1
          try clear z1
          go_roundw
          case rel => exact ⟨i + 1, acc ++ [⟨y0, y1⟩], by go_num, by omega, ⟨by rw [HACC.out]; exact HS2.out.symm⟩, ⟨by have := HN.out; simp; omega⟩, R, H4⟩
          case measure => simp [intOf]; omega
        · have HS2 := Aside0.mk (HST.out.trans (if_neg hP))
          have e1 : decide (slot - y1 ≤ m.w) = false := decide_eq_false hP
          have hw1 : wrap64 (slot - y1) = slot - y1 := w64 _ (by omega) (by omega)
          have hw2 : IntKind.i64.wrap (slot - y1) = slot - y1 := IntWalk.i64_in _ (by omega)
          clear hP
          go_wp2_with (first
            | ((with_reducible refine gate_dst (N := 25) rfl ?_); refine load_evm' (N := 25) rfl rfl rfl (cs := #[.string y0, .int .i64 y1]) rfl hcs'.out Try.underlying150 rfl (by kernel_rfl) ?_)
            | ((with_reducible refine gate_dst (N := 7) rfl ?_); refine box_event rfl (N := 7) rfl (cs := #[.string ⟨#[]⟩, .int .i64 0]) (t := 150) ?hr ?_; (case hr => first | (go_simp; done) | (go_simp; rfl)); intro g7 hg7 w5 hbx hbl; have n_H := Aside0.mk (below_step H4.out hbl); have HX := Aside0.mk hbl; have NE := Aside0.mk (me_ne R.out (show wr.heap.size ≤ g7 by rw [hg7]; exact Nat.le_refl _)); have G7 := Aside0.mk (show wr.heap.size ≤ g7 by rw [hg7]; exact Nat.le_refl _); have Q := Aside0.mk hbx; clear H4 hbx hbl hg7; have H4 := n_H; clear n_H)
            | ((with_reducible refine gate_store (t := 150) (p := 7) rfl ?_); refine store_ev rfl rfl rfl (cells := #[.string y0, .int .i64 y1]) rfl rfl Q.out (by kernel_rfl) rfl (by kernel_rfl) ?_; intro w6 hbx hgr; have n_R := Aside0.mk (me_new R.out HX.out hgr G7.out); have n_H := Aside0.mk (below_put H4.out (Nat.le_trans H4z.out G7.out) hgr H4.out.size); have n_Q := Aside0.mk hbx; clear H4 Q hbx hgr R HX; have H4 := n_H; have Q := n_Q; have R := n_R; clear n_H n_Q n_R; have c0 : w6.cell? ⟨g7, 0, none⟩ = some (.string y0) := (blk_cell Q.out 0).trans rfl; have c1 : w6.cell? ⟨g7, 1, none⟩ = some (.int .i64 y1) := (blk_cell Q.out 1).trans rfl; have z1 : w6.cell? ⟨g2, 1, none⟩ = some (.int .i64 m.w) := (H4.out.cell g2lt.out).trans K1.out))
          try clear c0
          try clear c1
          try clear z1
          go_roundw
          case rel => exact ⟨i + 1, acc, by go_num, by omega, ⟨by rw [HACC.out]; exact HS2.out.symm⟩, ⟨by have := HN.out; omega⟩, R, H4⟩
          case measure => simp [intOf]; omega
      · obtain rfl : i = m.L.length := by omega
        have j1 : decide ((m.L.length : Int) < (m.L.length : Int)) = false := decide_eq_false (by omega)
        have hacc : acc = keepM m.w slot m.L := by have := HACC.out; rwa [List.take_length] at this
        have hal : acc.length ≤ m.L.length := HN.out
        have g4lt := Aside0.mk (Array.getElem?_eq_some_iff.1 Y.out).1
        obtain ⟨A2, c2, hv, hc2, _⟩ := Kd.R_reads R.out
        subst hv
        have n_X := Aside0.mk ((H4.out.block g2 g2lt.out).trans X.out)
        have n_Y := Aside0.mk ((H4.out.block g4 g4lt.out).trans Y.out)
        have n_HB := Aside0.mk (below_step HB.out H4.out)
        clear X Y HB H4 HN
        have X := n_X
        have Y := n_Y
        have HB := n_HB
        clear n_X n_Y n_HB
        have HACC2 := Aside0.mk hacc
        have hn8 := HOK.out.n
        clear hacc HACC HL2 K1
        have xwr2 : wr.cell? ⟨g2, 2, none⟩ = some (.int .i64 m.g) := (blk_cell X.out 2).trans rfl
        have zwr2 : wr.frozen? ⟨g2, 2, none⟩ = false := blk_frozen X.out 2
        have xwr3 : wr.cell? ⟨g2, 3, none⟩ = some (.int .i64 m.s) := (blk_cell X.out 3).trans rfl
        have zwr3 : wr.frozen? ⟨g2, 3, none⟩ = false := blk_frozen X.out 3
        have xwr4 : wr.cell? ⟨g2, 4, none⟩ = some (.slice A m.L.length c) := (blk_cell X.out 4).trans rfl
        have zwr4 : wr.frozen? ⟨g2, 4, none⟩ = false := blk_frozen X.out 4
        have hsb1 : wrap64 ((m.L.length : Int) - (acc.length : Int)) = (m.L.length : Int) - (acc.length : Int) := w64 _ (by omega) (by omega)
        have hsb2 : IntKind.i64.wrap ((m.L.length : Int) - (acc.length : Int)) = (m.L.length : Int) - (acc.length : Int) := IntWalk.i64_in _ (by omega)
        have HOUT := Aside0.mk (show outM m slot = (m.L.length : Int) - (acc.length : Int) by unfold outM; rw [HACC2.out])
        by_cases hlt2 : acc.length < m.L.length
        · have HSM := Aside0.mk (show sweepM m slot = { m with s := slot, g := m.g + 1, L := acc } by unfold sweepM; rw [← HACC2.out]; simp only [if_pos hlt2])
          have e1 : decide ((m.L.length : Int) - (acc.length : Int) > 0) = true := decide_eq_true (by omega)
          have e2 : decide (0 < (m.L.length : Int) - (acc.length : Int)) = true := decide_eq_true (by omega)
          have e3 : decide ((acc.length : Int) < (m.L.length : Int)) = true := decide_eq_true (by omega)
          have e4 : decide (acc.length < m.L.length) = true := decide_eq_true (by omega)
          have hw1 : wrap64 (m.g + 1) = m.g + 1 := w64 _ (by omega) (by omega)
          have hw2 : IntKind.i64.wrap (m.g + 1) = m.g + 1 := IntWalk.i64_in _ (by omega)
          clear hlt2
          go_wp2_with (first
            | ((with_reducible refine gate_store (t := 3) (p := 45) rfl ?_); refine fstore_ev rfl rfl rfl (g := g2) (j := 3) (u := .int .i64 slot) X.out ?hr ?_; (case hr => first | (go_simp; done) | (go_simp; rfl)); intro w7 hbx hgr; have n_R := Aside0.mk (R_past R.out hgr g2lt.out); have n_HB := Aside0.mk (below_put HB.out G2.out hgr HB.out.size); have n_Y := Aside0.mk (grown_at hgr Y.out (Ne.symm D34.out)); have n_X := Aside0.mk ((show w7.heap[g2]? = some (.cells #[.int .i64 m.p, .int .i64 m.w, .int .i64 m.g, .int .i64 slot, .slice A m.L.length c] 51 (0, 0)) from hbx)); clear R HB Y X hbx hgr; have R := n_R; have HB := n_HB; have Y := n_Y; have X := n_X; clear n_R n_HB n_Y n_X; have xw74 : w7.cell? ⟨g2, 4, none⟩ = some (.slice A m.L.length c) := (blk_cell X.out 4).trans rfl; have zw74 : w7.frozen? ⟨g2, 4, none⟩ = false := blk_frozen X.out 4)
            | ((with_reducible refine gate_store (t := 49) (p := 47) rfl ?_); refine fstore_ev rfl rfl rfl (g := g2) (j := 4) (u := .slice A2 acc.length c2) X.out ?hr ?_; (case hr => first | (go_simp; done) | (go_simp; rfl)); intro w8 hbx hgr; have n_R := Aside0.mk (R_past R.out hgr g2lt.out); have n_HB := Aside0.mk (below_put HB.out G2.out hgr HB.out.size); have n_Y := Aside0.mk (grown_at hgr Y.out (Ne.symm D34.out)); have n_X := Aside0.mk ((show w8.heap[g2]? = some (.cells #[.int .i64 m.p, .int .i64 m.w, .int .i64 m.g, .int .i64 slot, .slice A2 acc.length c2] 51 (0, 0)) from hbx)); clear R HB Y X hbx hgr; have R := n_R; have HB := n_HB; have Y := n_Y; have X := n_X; clear n_R n_HB n_Y n_X; have xw82 : w8.cell? ⟨g2, 2, none⟩ = some (.int .i64 m.g) := (blk_cell X.out 2).trans rfl; have zw82 : w8.frozen? ⟨g2, 2, none⟩ = false := blk_frozen X.out 2)
            | ((with_reducible refine gate_store (t := 3) (p := 53) rfl ?_); refine fstore_ev rfl rfl rfl (g := g2) (j := 2) (u := .int .i64 (m.g + 1)) X.out ?hr ?_; (case hr => first | (go_simp; done) | (go_simp; rfl)); intro w9 hbx hgr; have n_R := Aside0.mk (R_past R.out hgr g2lt.out); have n_HB := Aside0.mk (below_put HB.out G2.out hgr HB.out.size); have n_Y := Aside0.mk (grown_at hgr Y.out (Ne.symm D34.out)); have n_X := Aside0.mk ((show w9.heap[g2]? = some (.cells #[.int .i64 m.p, .int .i64 m.w, .int .i64 (m.g + 1), .int .i64 slot, .slice A2 acc.length c2] 51 (0, 0)) from hbx)); clear R HB Y X hbx hgr; have R := n_R; have HB := n_HB; have Y := n_Y; have X := n_X; clear n_R n_HB n_Y n_X)
            | ((with_reducible refine gate_dst (N := 54) rfl ?_); refine load_ev (N := 54) rfl rfl rfl (cs := #[.int .i64 m.p, .int .i64 m.w, .int .i64 (m.g + 1), .int .i64 slot, .slice A2 acc.length c2]) rfl X.out Try.underlying51 rfl (by kernel_rfl) ?_)
            | ((with_reducible refine gate_store (t := 57) (p := 4) rfl ?_); refine store_ev rfl rfl rfl (cells := #[.int .i64 m.p, .int .i64 m.w, .int .i64 (m.g + 1), .int .i64 slot, .slice A2 acc.length c2, .int .i64 ((m.L.length : Int) - (acc.length : Int)), .int .i64 0]) rfl rfl Y.out (by kernel_rfl) rfl (by kernel_rfl) ?_; intro wf hbx hgr; have n_B := Aside0.mk (below_put HB.out G4.out hgr HB.out.size); have n_R := Aside0.mk (R_past R.out hgr g4lt.out); have n_Y := Aside0.mk hbx; clear HB Y R hbx hgr; have HB := n_B; have Y := n_Y; have R := n_R; clear n_B n_Y n_R))
          refine bodyPost_ret (results_cell_row rfl _ _ g4 57 #[.int .i64 m.p, .int .i64 m.w, .int .i64 (m.g + 1), .int .i64 slot, .slice A2 acc.length c2, .int .i64 ((m.L.length : Int) - (acc.length : Int)), .int .i64 0] (0, 0) _ rfl Y.out Try.underlying57 rfl (by kernel_rfl)) rfl ?_
          exact ⟨A2, c2, by rw [HSM.out, HOUT.out], by rw [HSM.out]; exact ⟨Kd.R_lower R.out (Nat.zero_le _)⟩, HB.out⟩
        · have HSM := Aside0.mk (show sweepM m slot = { m with s := slot, g := m.g, L := acc } by unfold sweepM; rw [← HACC2.out]; simp only [if_neg hlt2])
          have e1 : decide ((m.L.length : Int) - (acc.length : Int) > 0) = false := decide_eq_false (by omega)
          have e2 : decide (0 < (m.L.length : Int) - (acc.length : Int)) = false := decide_eq_false (by omega)
          have e3 : decide ((acc.length : Int) < (m.L.length : Int)) = false := decide_eq_false (by omega)
          have e4 : decide (acc.length < m.L.length) = false := decide_eq_false (by omega)
          clear hlt2
          go_wp2_with (first
            | ((with_reducible refine gate_store (t := 3) (p := 45) rfl ?_); refine fstore_ev rfl rfl rfl (g := g2) (j := 3) (u := .int .i64 slot) X.out ?hr ?_; (case hr => first | (go_simp; done) | (go_simp; rfl)); intro w7 hbx hgr; have n_R := Aside0.mk (R_past R.out hgr g2lt.out); have n_HB := Aside0.mk (below_put HB.out G2.out hgr HB.out.size); have n_Y := Aside0.mk (grown_at hgr Y.out (Ne.symm D34.out)); have n_X := Aside0.mk ((show w7.heap[g2]? = some (.cells #[.int .i64 m.p, .int .i64 m.w, .int .i64 m.g, .int .i64 slot, .slice A m.L.length c] 51 (0, 0)) from hbx)); clear R HB Y X hbx hgr; have R := n_R; have HB := n_HB; have Y := n_Y; have X := n_X; clear n_R n_HB n_Y n_X; have xw74 : w7.cell? ⟨g2, 4, none⟩ = some (.slice A m.L.length c) := (blk_cell X.out 4).trans rfl; have zw74 : w7.frozen? ⟨g2, 4, none⟩ = false := blk_frozen X.out 4)
            | ((with_reducible refine gate_store (t := 49) (p := 47) rfl ?_); refine fstore_ev rfl rfl rfl (g := g2) (j := 4) (u := .slice A2 acc.length c2) X.out ?hr ?_; (case hr => first | (go_simp; done) | (go_simp; rfl)); intro w8 hbx hgr; have n_R := Aside0.mk (R_past R.out hgr g2lt.out); have n_HB := Aside0.mk (below_put HB.out G2.out hgr HB.out.size); have n_Y := Aside0.mk (grown_at hgr Y.out (Ne.symm D34.out)); have n_X := Aside0.mk ((show w8.heap[g2]? = some (.cells #[.int .i64 m.p, .int .i64 m.w, .int .i64 m.g, .int .i64 slot, .slice A2 acc.length c2] 51 (0, 0)) from hbx)); clear R HB Y X hbx hgr; have R := n_R; have HB := n_HB; have Y := n_Y; have X := n_X; clear n_R n_HB n_Y n_X; have xw82 : w8.cell? ⟨g2, 2, none⟩ = some (.int .i64 m.g) := (blk_cell X.out 2).trans rfl; have zw82 : w8.frozen? ⟨g2, 2, none⟩ = false := blk_frozen X.out 2)
            | ((with_reducible refine gate_dst (N := 54) rfl ?_); refine load_ev (N := 54) rfl rfl rfl (cs := #[.int .i64 m.p, .int .i64 m.w, .int .i64 m.g, .int .i64 slot, .slice A2 acc.length c2]) rfl X.out Try.underlying51 rfl (by kernel_rfl) ?_)
            | ((with_reducible refine gate_store (t := 57) (p := 4) rfl ?_); refine store_ev rfl rfl rfl (cells := #[.int .i64 m.p, .int .i64 m.w, .int .i64 m.g, .int .i64 slot, .slice A2 acc.length c2, .int .i64 ((m.L.length : Int) - (acc.length : Int)), .int .i64 0]) rfl rfl Y.out (by kernel_rfl) rfl (by kernel_rfl) ?_; intro wf hbx hgr; have n_B := Aside0.mk (below_put HB.out G4.out hgr HB.out.size); have n_R := Aside0.mk (R_past R.out hgr g4lt.out); have n_Y := Aside0.mk hbx; clear HB Y R hbx hgr; have HB := n_B; have Y := n_Y; have R := n_R; clear n_B n_Y n_R))
          refine bodyPost_ret (results_cell_row rfl _ _ g4 57 #[.int .i64 m.p, .int .i64 m.w, .int .i64 m.g, .int .i64 slot, .slice A2 acc.length c2, .int .i64 ((m.L.length : Int) - (acc.length : Int)), .int .i64 0] (0, 0) _ rfl Y.out Try.underlying57 rfl (by kernel_rfl)) rfl ?_
          exact ⟨A2, c2, by rw [HSM.out, HOUT.out], by rw [HSM.out]; exact ⟨Kd.R_lower R.out (Nat.zero_le _)⟩, HB.out⟩
end Go.Proofs.Ytohhlkabejangaa.Mb

namespace Go.Proofs.Ytohhlkabejangaa.Mb
set_option linter.unusedVariables false
set_option linter.unusedSimpArgs false
open Go.RowKit Go.Maps Go.Sort Go.Proofs.YtohhlkabejangaaW.PrintWords Go.Proofs.YtohhlkabejangaaW.PrintLast Go.Proofs.YtohhlkabejangaaW.PrintMore Go.Proofs.Ytohhlkabejangaa.PAs Go.Proofs.Ytohhlkabejangaa.As Go.Proofs.Ytohhlkabejangaa.Wire
theorem fld0 (a b c d e f g : Value) : ∀ W : World, (Instr.field 57 (.agg #[a, b, c, d, e, f, g]) 0).run Try.prog W = .ok (.agg #[a, b, c, d, e]) W := by
  intro W
  kernel_rfl
set_option maxHeartbeats 16000000 in
set_option maxRecDepth 100000 in
theorem rjoin_calls (m : MG) (hok : okM m) (hris : RisM m.L) (hg : m.g ≤ 1000000) (A : Option Addr) (c : Nat) (x : ByteArray) (hx : x.size ≤ 1000) (slot : Int) (w : World) (h : Ls w A c m.L) :
    Calls Try.prog 81 #[.agg #[.int .i64 m.p, .int .i64 m.w, .int .i64 m.g, .int .i64 m.s, .slice A m.L.length c], .string x, .int .i64 slot] w fun e w' => ∃ A' c', e = .returned (.agg #[.int .i64 (joinM m x slot).1.p, .int .i64 (joinM m x slot).1.w, .int .i64 (joinM m x slot).1.g, .int .i64 (joinM m x slot).1.s, .slice A' (joinM m x slot).1.L.length c', .int .i64 (joinM m x slot).2.1, .int .i64 (joinM m x slot).2.2]) ∧ Ls w' A' c' (joinM m x slot).1.L ∧ Below w.heap.size w w' := by
  have hund : ∀ b, some undef = some (Value.bool b) → False := fun b h => by simp [undef] at h
  have hfl := fld0
  have HL := Aside0.mk h
  have hmay := Aside0.mk (fun W (h : Ls W A c m.L) => rmay_calls m A c x hx slot W h)
  cases hbg : begB m x slot with
  | false =>
    rw [hbg] at hmay
    have he : joinM m x slot = (m, 0, 1) := by unfold joinM; rw [hbg]; rfl
    rw [he]
    clear he hbg
    go_enter Try.func81, Try.ntmps81
    go_wp2_with (first
      | ((with_reducible refine gate_dst (N := 3) rfl ?_); refine box_event rfl (N := 3) rfl (cs := #[.int .i64 m.p, .int .i64 m.w, .int .i64 m.g, .int .i64 m.s, .slice A m.L.length c]) (t := 51) ?hr ?_; (case hr => first | (go_simp; done) | (go_simp; rfl)); intro g2 hg2 w1 hbx hbl; have HB := Aside0.mk hbl; have G2 := Aside0.mk (show w.heap.size ≤ g2 by rw [hg2]; exact Nat.le_refl _); have X := Aside0.mk hbx; clear hbl hbx hg2)
      | ((with_reducible refine gate_dst (N := 6) rfl ?_); refine box_event rfl (N := 6) rfl (cs := #[.int .i64 0, .int .i64 0, .int .i64 0, .int .i64 0, .slice none 0 0, .int .i64 0, .int .i64 0]) (t := 57) ?hr ?_; (case hr => first | (go_simp; done) | (go_simp; rfl)); intro g4 hg4 w2 hbx hbl; have D34 := Aside0.mk (show g2 ≠ g4 by rw [hg4]; exact Nat.ne_of_lt (Array.getElem?_eq_some_iff.1 X.out).1); have G4 := Aside0.mk (show w.heap.size ≤ g4 by rw [hg4]; exact HB.out.size); have n_X := Aside0.mk ((hbl.block g2 (Array.getElem?_eq_some_iff.1 X.out).1).trans X.out); have n_B := Aside0.mk (below_step HB.out hbl); have Y := Aside0.mk hbx; clear HB X hbl hbx hg4; have HB := n_B; have X := n_X; clear n_B n_X)
      | ((with_reducible refine gate_dst (N := 7) rfl ?_); refine load_ev (N := 7) rfl rfl rfl (cs := #[.int .i64 m.p, .int .i64 m.w, .int .i64 m.g, .int .i64 m.s, .slice A m.L.length c]) rfl X.out Try.underlying51 rfl (by kernel_rfl) ?_))
    refine (hmay.out w2 (HL.out.later HB.out)).mono ?_
    rintro e w3 ⟨rfl, hb⟩
    have n_X := Aside0.mk ((hb.block g2 (blk_lt X.out)).trans X.out)
    have n_Y := Aside0.mk ((hb.block g4 (blk_lt Y.out)).trans Y.out)
    have n_HB := Aside0.mk (below_step HB.out hb)
    clear X Y HB hb
    have X := n_X
    have Y := n_Y
    have HB := n_HB
    clear n_X n_Y n_HB
    go_wp2_with (first
      | ((with_reducible refine gate_dst (N := 12) rfl ?_); refine load_ev (N := 12) rfl rfl rfl (cs := #[.int .i64 m.p, .int .i64 m.w, .int .i64 m.g, .int .i64 m.s, .slice A m.L.length c]) rfl X.out Try.underlying51 rfl (by kernel_rfl) ?_)
      | ((with_reducible refine gate_store (t := 57) (p := 6) rfl ?_); refine store_ev rfl rfl rfl (cells := #[.int .i64 m.p, .int .i64 m.w, .int .i64 m.g, .int .i64 m.s, .slice A m.L.length c, .int .i64 0, .int .i64 1]) rfl rfl Y.out (by kernel_rfl) rfl (by kernel_rfl) ?_; intro wf hbx hgr; have n_B := Aside0.mk (below_put HB.out G4.out hgr HB.out.size); have n_Y := Aside0.mk hbx; clear HB Y  hbx hgr; have HB := n_B; have Y := n_Y; clear n_B n_Y ))
    refine bodyPost_ret (results_cell_row rfl _ _ g4 57 #[.int .i64 m.p, .int .i64 m.w, .int .i64 m.g, .int .i64 m.s, .slice A m.L.length c, .int .i64 0, .int .i64 1] (0, 0) _ rfl Y.out Try.underlying57 rfl (by kernel_rfl)) rfl ?_
    exact ⟨A, c, rfl, HL.out.later HB.out, HB.out⟩
  | true =>
    rw [hbg] at hmay
    have he : joinM m x slot = jn (sweepM m slot) x slot := by unfold joinM; rw [hbg]; rfl
    rw [he]
    obtain ⟨_, hS, _⟩ := beg_parts hbg hok
    have hsw := Aside0.mk (fun W (h : Ls W A c m.L) => rsweep_calls m hok hg A c slot W h)
    simp only [show swpM m slot = (sweepM m slot, outM m slot) by unfold swpM; rw [hS]; rfl] at hsw
    have HOK := Aside0.mk (okM_sweep hok hS)
    have HR1 := Aside0.mk (show RisM (sweepM m slot).L from ris_filter hris _)
    have hgs := (sweep_g m slot).1
    clear he hbg hS hok hris
    generalize sweepM m slot = m1 at *
    generalize outM m slot = n1 at *
    have hn8 := HOK.out.n
    have hg1 : 0 ≤ m1.g ∧ m1.g ≤ 1000001 := ⟨HOK.out.g, by omega⟩
    have his := Aside0.mk (fun A c W (h : Ls W A c m1.L) => ris_calls m1 hn8 A c x W h)
    obtain ⟨bi, hbi⟩ : ∃ bi, isM m1.L x.toList = bi := ⟨_, rfl⟩
    rw [hbi] at his
    unfold jn
    cases bi with
    | true =>
      rw [if_pos hbi]
      go_enter Try.func81, Try.ntmps81
      go_wp2_with (first
        | ((with_reducible refine gate_dst (N := 3) rfl ?_); refine box_event rfl (N := 3) rfl (cs := #[.int .i64 m.p, .int .i64 m.w, .int .i64 m.g, .int .i64 m.s, .slice A m.L.length c]) (t := 51) ?hr ?_; (case hr => first | (go_simp; done) | (go_simp; rfl)); intro g2 hg2 w1 hbx hbl; have HB := Aside0.mk hbl; have G2 := Aside0.mk (show w.heap.size ≤ g2 by rw [hg2]; exact Nat.le_refl _); have X := Aside0.mk hbx; clear hbl hbx hg2)
        | ((with_reducible refine gate_dst (N := 6) rfl ?_); refine box_event rfl (N := 6) rfl (cs := #[.int .i64 0, .int .i64 0, .int .i64 0, .int .i64 0, .slice none 0 0, .int .i64 0, .int .i64 0]) (t := 57) ?hr ?_; (case hr => first | (go_simp; done) | (go_simp; rfl)); intro g4 hg4 w2 hbx hbl; have D34 := Aside0.mk (show g2 ≠ g4 by rw [hg4]; exact Nat.ne_of_lt (Array.getElem?_eq_some_iff.1 X.out).1); have G4 := Aside0.mk (show w.heap.size ≤ g4 by rw [hg4]; exact HB.out.size); have n_X := Aside0.mk ((hbl.block g2 (Array.getElem?_eq_some_iff.1 X.out).1).trans X.out); have n_B := Aside0.mk (below_step HB.out hbl); have Y := Aside0.mk hbx; clear HB X hbl hbx hg4; have HB := n_B; have X := n_X; clear n_B n_X)
        | ((with_reducible refine gate_dst (N := 7) rfl ?_); refine load_ev (N := 7) rfl rfl rfl (cs := #[.int .i64 m.p, .int .i64 m.w, .int .i64 m.g, .int .i64 m.s, .slice A m.L.length c]) rfl X.out Try.underlying51 rfl (by kernel_rfl) ?_))
      refine (hmay.out w2 (HL.out.later HB.out)).mono ?_
      rintro e w3 ⟨rfl, hb⟩
      have n_X := Aside0.mk ((hb.block g2 (blk_lt X.out)).trans X.out)
      have n_Y := Aside0.mk ((hb.block g4 (blk_lt Y.out)).trans Y.out)
      have n_HB := Aside0.mk (below_step HB.out hb)
      clear X Y HB hb
      have X := n_X
      have Y := n_Y
      have HB := n_HB
      clear n_X n_Y n_HB
      go_wp2_with (first
        | ((with_reducible refine gate_dst (N := 14) rfl ?_); refine load_ev (N := 14) rfl rfl rfl (cs := #[.int .i64 m.p, .int .i64 m.w, .int .i64 m.g, .int .i64 m.s, .slice A m.L.length c]) rfl X.out Try.underlying51 rfl (by kernel_rfl) ?_))
      refine (hsw.out w3 (HL.out.later HB.out)).mono ?_
      rintro e w4 ⟨A1, c1, rfl, hL1, hb⟩
      have HL1 := Aside0.mk hL1
      clear hL1
      have n_X := Aside0.mk ((hb.block g2 (blk_lt X.out)).trans X.out)
      have n_Y := Aside0.mk ((hb.block g4 (blk_lt Y.out)).trans Y.out)
      have n_HB := Aside0.mk (below_step HB.out hb)
      clear X Y HB hb
      have X := n_X
      have Y := n_Y
      have HB := n_HB
      clear n_X n_Y n_HB
      go_wp2_with (first
        | ((with_reducible refine gate_store (t := 51) (p := 3) rfl ?_); refine store_ev rfl rfl rfl (cells := #[.int .i64 m1.p, .int .i64 m1.w, .int .i64 m1.g, .int .i64 m1.s, .slice A1 m1.L.length c1]) rfl rfl X.out (by kernel_rfl) rfl (by kernel_rfl) ?_; intro w5 hbx hgr; have n_HB := Aside0.mk (below_put HB.out G2.out hgr HB.out.size); have n_Y := Aside0.mk (grown_at hgr Y.out (Ne.symm D34.out)); have n_HL1 := Aside0.mk (HL1.out.put hgr (not_me X.out (by decide))); have n_X := Aside0.mk ((show w5.heap[g2]? = some (.cells #[.int .i64 m1.p, .int .i64 m1.w, .int .i64 m1.g, .int .i64 m1.s, .slice A1 m1.L.length c1] 51 (0, 0)) from hbx)); clear HB Y HL1 X hbx hgr; have HB := n_HB; have Y := n_Y; have HL1 := n_HL1; have X := n_X; clear n_HB n_Y n_HL1 n_X)
        | ((with_reducible refine gate_dst (N := 18) rfl ?_); refine load_ev (N := 18) rfl rfl rfl (cs := #[.int .i64 m1.p, .int .i64 m1.w, .int .i64 m1.g, .int .i64 m1.s, .slice A1 m1.L.length c1]) rfl X.out Try.underlying51 rfl (by kernel_rfl) ?_))
      refine (his.out A1 c1 w5 HL1.out).mono ?_
      rintro e w6 ⟨rfl, hb⟩
      have n_X := Aside0.mk ((hb.block g2 (blk_lt X.out)).trans X.out)
      have n_Y := Aside0.mk ((hb.block g4 (blk_lt Y.out)).trans Y.out)
      have n_HB := Aside0.mk (below_step HB.out hb)
      have n_HL1 := Aside0.mk (HL1.out.later hb)
      clear X Y HB HL1 hb
      have X := n_X
      have Y := n_Y
      have HB := n_HB
      have HL1 := n_HL1
      clear n_X n_Y n_HB n_HL1
      have xw62 : w6.cell? ⟨g2, 2, none⟩ = some (.int .i64 m1.g) := (blk_cell X.out 2).trans rfl
      have zw62 : w6.frozen? ⟨g2, 2, none⟩ = false := blk_frozen X.out 2
      have xw64 : w6.cell? ⟨g2, 4, none⟩ = some (.slice A1 m1.L.length c1) := (blk_cell X.out 4).trans rfl
      have zw64 : w6.frozen? ⟨g2, 4, none⟩ = false := blk_frozen X.out 4
      go_wp2_with (first
        | ((with_reducible refine gate_dst (N := 32) rfl ?_); refine load_ev (N := 32) rfl rfl rfl (cs := #[.int .i64 m1.p, .int .i64 m1.w, .int .i64 m1.g, .int .i64 m1.s, .slice A1 m1.L.length c1]) rfl X.out Try.underlying51 rfl (by kernel_rfl) ?_))
      refine (rwith_calls m1 hn8 HR1.out A1 c1 x slot w6 HL1.out).mono ?_
      rintro e w7 ⟨A2, c2, rfl, hL2, hb⟩
      have HL2 := Aside0.mk hL2
      clear hL2
      have n_X := Aside0.mk ((hb.block g2 (blk_lt X.out)).trans X.out)
      have n_Y := Aside0.mk ((hb.block g4 (blk_lt Y.out)).trans Y.out)
      have n_HB := Aside0.mk (below_step HB.out hb)
      clear X Y HB hb
      have X := n_X
      have Y := n_Y
      have HB := n_HB
      clear n_X n_Y n_HB
      go_wp2_with (first
        | ((with_reducible refine gate_store (t := 51) (p := 3) rfl ?_); refine store_ev rfl rfl rfl (cells := #[.int .i64 m1.p, .int .i64 m1.w, .int .i64 m1.g, .int .i64 m1.s, .slice A2 (setM m1 x slot).L.length c2]) rfl rfl X.out (by kernel_rfl) rfl (by kernel_rfl) ?_; intro w8 hbx hgr; have n_HB := Aside0.mk (below_put HB.out G2.out hgr HB.out.size); have n_Y := Aside0.mk (grown_at hgr Y.out (Ne.symm D34.out)); have n_HL2 := Aside0.mk (HL2.out.put hgr (not_me X.out (by decide))); have n_X := Aside0.mk ((show w8.heap[g2]? = some (.cells #[.int .i64 m1.p, .int .i64 m1.w, .int .i64 m1.g, .int .i64 m1.s, .slice A2 (setM m1 x slot).L.length c2] 51 (0, 0)) from hbx)); clear HB Y HL2 X hbx hgr; have HB := n_HB; have Y := n_Y; have HL2 := n_HL2; have X := n_X; clear n_HB n_Y n_HL2 n_X; have xw82 : w8.cell? ⟨g2, 2, none⟩ = some (.int .i64 m1.g) := (blk_cell X.out 2).trans rfl; have zw82 : w8.frozen? ⟨g2, 2, none⟩ = false := blk_frozen X.out 2)
        | ((with_reducible refine gate_dst (N := 37) rfl ?_); refine load_ev (N := 37) rfl rfl rfl (cs := #[.int .i64 m1.p, .int .i64 m1.w, .int .i64 m1.g, .int .i64 m1.s, .slice A2 (setM m1 x slot).L.length c2]) rfl X.out Try.underlying51 rfl (by kernel_rfl) ?_)
        | ((with_reducible refine gate_store (t := 57) (p := 6) rfl ?_); refine store_ev rfl rfl rfl (cells := #[.int .i64 m1.p, .int .i64 m1.w, .int .i64 m1.g, .int .i64 m1.s, .slice A2 (setM m1 x slot).L.length c2, .int .i64 m1.g, .int .i64 0]) rfl rfl Y.out (by kernel_rfl) rfl (by kernel_rfl) ?_; intro wf hbx hgr; have n_B := Aside0.mk (below_put HB.out G4.out hgr HB.out.size); have n_HL2 := Aside0.mk (HL2.out.put hgr (not_me Y.out (by decide))); have n_Y := Aside0.mk hbx; clear HB Y HL2 hbx hgr; have HB := n_B; have Y := n_Y; have HL2 := n_HL2; clear n_B n_Y n_HL2))
      refine bodyPost_ret (results_cell_row rfl _ _ g4 57 #[.int .i64 m1.p, .int .i64 m1.w, .int .i64 m1.g, .int .i64 m1.s, .slice A2 (setM m1 x slot).L.length c2, .int .i64 m1.g, .int .i64 0] (0, 0) _ rfl Y.out Try.underlying57 rfl (by kernel_rfl)) rfl ?_
      exact ⟨A2, c2, rfl, HL2.out, HB.out⟩
    | false =>
      rw [if_neg (by rw [hbi]; decide)]
      by_cases h8 : m1.L.length = 8
      · rw [if_pos h8]
        have d8 : ((m1.L.length : Int) == 8) = true := by rw [h8]; rfl
        clear h8
        go_enter Try.func81, Try.ntmps81
        go_wp2_with (first
          | ((with_reducible refine gate_dst (N := 3) rfl ?_); refine box_event rfl (N := 3) rfl (cs := #[.int .i64 m.p, .int .i64 m.w, .int .i64 m.g, .int .i64 m.s, .slice A m.L.length c]) (t := 51) ?hr ?_; (case hr => first | (go_simp; done) | (go_simp; rfl)); intro g2 hg2 w1 hbx hbl; have HB := Aside0.mk hbl; have G2 := Aside0.mk (show w.heap.size ≤ g2 by rw [hg2]; exact Nat.le_refl _); have X := Aside0.mk hbx; clear hbl hbx hg2)
          | ((with_reducible refine gate_dst (N := 6) rfl ?_); refine box_event rfl (N := 6) rfl (cs := #[.int .i64 0, .int .i64 0, .int .i64 0, .int .i64 0, .slice none 0 0, .int .i64 0, .int .i64 0]) (t := 57) ?hr ?_; (case hr => first | (go_simp; done) | (go_simp; rfl)); intro g4 hg4 w2 hbx hbl; have D34 := Aside0.mk (show g2 ≠ g4 by rw [hg4]; exact Nat.ne_of_lt (Array.getElem?_eq_some_iff.1 X.out).1); have G4 := Aside0.mk (show w.heap.size ≤ g4 by rw [hg4]; exact HB.out.size); have n_X := Aside0.mk ((hbl.block g2 (Array.getElem?_eq_some_iff.1 X.out).1).trans X.out); have n_B := Aside0.mk (below_step HB.out hbl); have Y := Aside0.mk hbx; clear HB X hbl hbx hg4; have HB := n_B; have X := n_X; clear n_B n_X)
          | ((with_reducible refine gate_dst (N := 7) rfl ?_); refine load_ev (N := 7) rfl rfl rfl (cs := #[.int .i64 m.p, .int .i64 m.w, .int .i64 m.g, .int .i64 m.s, .slice A m.L.length c]) rfl X.out Try.underlying51 rfl (by kernel_rfl) ?_))
        refine (hmay.out w2 (HL.out.later HB.out)).mono ?_
        rintro e w3 ⟨rfl, hb⟩
        have n_X := Aside0.mk ((hb.block g2 (blk_lt X.out)).trans X.out)
        have n_Y := Aside0.mk ((hb.block g4 (blk_lt Y.out)).trans Y.out)
        have n_HB := Aside0.mk (below_step HB.out hb)
        clear X Y HB hb
        have X := n_X
        have Y := n_Y
        have HB := n_HB
        clear n_X n_Y n_HB
        go_wp2_with (first
          | ((with_reducible refine gate_dst (N := 14) rfl ?_); refine load_ev (N := 14) rfl rfl rfl (cs := #[.int .i64 m.p, .int .i64 m.w, .int .i64 m.g, .int .i64 m.s, .slice A m.L.length c]) rfl X.out Try.underlying51 rfl (by kernel_rfl) ?_))
        refine (hsw.out w3 (HL.out.later HB.out)).mono ?_
        rintro e w4 ⟨A1, c1, rfl, hL1, hb⟩
        have HL1 := Aside0.mk hL1
        clear hL1
        have n_X := Aside0.mk ((hb.block g2 (blk_lt X.out)).trans X.out)
        have n_Y := Aside0.mk ((hb.block g4 (blk_lt Y.out)).trans Y.out)
        have n_HB := Aside0.mk (below_step HB.out hb)
        clear X Y HB hb
        have X := n_X
        have Y := n_Y
        have HB := n_HB
        clear n_X n_Y n_HB
        go_wp2_with (first
          | ((with_reducible refine gate_store (t := 51) (p := 3) rfl ?_); refine store_ev rfl rfl rfl (cells := #[.int .i64 m1.p, .int .i64 m1.w, .int .i64 m1.g, .int .i64 m1.s, .slice A1 m1.L.length c1]) rfl rfl X.out (by kernel_rfl) rfl (by kernel_rfl) ?_; intro w5 hbx hgr; have n_HB := Aside0.mk (below_put HB.out G2.out hgr HB.out.size); have n_Y := Aside0.mk (grown_at hgr Y.out (Ne.symm D34.out)); have n_HL1 := Aside0.mk (HL1.out.put hgr (not_me X.out (by decide))); have n_X := Aside0.mk ((show w5.heap[g2]? = some (.cells #[.int .i64 m1.p, .int .i64 m1.w, .int .i64 m1.g, .int .i64 m1.s, .slice A1 m1.L.length c1] 51 (0, 0)) from hbx)); clear HB Y HL1 X hbx hgr; have HB := n_HB; have Y := n_Y; have HL1 := n_HL1; have X := n_X; clear n_HB n_Y n_HL1 n_X)
          | ((with_reducible refine gate_dst (N := 18) rfl ?_); refine load_ev (N := 18) rfl rfl rfl (cs := #[.int .i64 m1.p, .int .i64 m1.w, .int .i64 m1.g, .int .i64 m1.s, .slice A1 m1.L.length c1]) rfl X.out Try.underlying51 rfl (by kernel_rfl) ?_))
        refine (his.out A1 c1 w5 HL1.out).mono ?_
        rintro e w6 ⟨rfl, hb⟩
        have n_X := Aside0.mk ((hb.block g2 (blk_lt X.out)).trans X.out)
        have n_Y := Aside0.mk ((hb.block g4 (blk_lt Y.out)).trans Y.out)
        have n_HB := Aside0.mk (below_step HB.out hb)
        have n_HL1 := Aside0.mk (HL1.out.later hb)
        clear X Y HB HL1 hb
        have X := n_X
        have Y := n_Y
        have HB := n_HB
        have HL1 := n_HL1
        clear n_X n_Y n_HB n_HL1
        have xw62 : w6.cell? ⟨g2, 2, none⟩ = some (.int .i64 m1.g) := (blk_cell X.out 2).trans rfl
        have zw62 : w6.frozen? ⟨g2, 2, none⟩ = false := blk_frozen X.out 2
        have xw64 : w6.cell? ⟨g2, 4, none⟩ = some (.slice A1 m1.L.length c1) := (blk_cell X.out 4).trans rfl
        have zw64 : w6.frozen? ⟨g2, 4, none⟩ = false := blk_frozen X.out 4
        go_wp2_with (first
          | ((with_reducible refine gate_dst (N := 26) rfl ?_); refine load_ev (N := 26) rfl rfl rfl (cs := #[.int .i64 m1.p, .int .i64 m1.w, .int .i64 m1.g, .int .i64 m1.s, .slice A1 m1.L.length c1]) rfl X.out Try.underlying51 rfl (by kernel_rfl) ?_)
          | ((with_reducible refine gate_store (t := 57) (p := 6) rfl ?_); refine store_ev rfl rfl rfl (cells := #[.int .i64 m1.p, .int .i64 m1.w, .int .i64 m1.g, .int .i64 m1.s, .slice A1 m1.L.length c1, .int .i64 0, .int .i64 5]) rfl rfl Y.out (by kernel_rfl) rfl (by kernel_rfl) ?_; intro wf hbx hgr; have n_B := Aside0.mk (below_put HB.out G4.out hgr HB.out.size); have n_HL1 := Aside0.mk (HL1.out.put hgr (not_me Y.out (by decide))); have n_Y := Aside0.mk hbx; clear HB Y HL1 hbx hgr; have HB := n_B; have Y := n_Y; have HL1 := n_HL1; clear n_B n_Y n_HL1))
        refine bodyPost_ret (results_cell_row rfl _ _ g4 57 #[.int .i64 m1.p, .int .i64 m1.w, .int .i64 m1.g, .int .i64 m1.s, .slice A1 m1.L.length c1, .int .i64 0, .int .i64 5] (0, 0) _ rfl Y.out Try.underlying57 rfl (by kernel_rfl)) rfl ?_
        exact ⟨A1, c1, rfl, HL1.out, HB.out⟩
      · rw [if_neg h8]
        have d8 : ((m1.L.length : Int) == 8) = false := beq_eq_false_iff_ne.2 (by omega)
        have hw1 : wrap64 (m1.g + 1) = m1.g + 1 := w64 _ (by omega) (by omega)
        have hw2 : IntKind.i64.wrap (m1.g + 1) = m1.g + 1 := IntWalk.i64_in _ (by omega)
        clear h8
        go_enter Try.func81, Try.ntmps81
        go_wp2_with (first
          | ((with_reducible refine gate_dst (N := 3) rfl ?_); refine box_event rfl (N := 3) rfl (cs := #[.int .i64 m.p, .int .i64 m.w, .int .i64 m.g, .int .i64 m.s, .slice A m.L.length c]) (t := 51) ?hr ?_; (case hr => first | (go_simp; done) | (go_simp; rfl)); intro g2 hg2 w1 hbx hbl; have HB := Aside0.mk hbl; have G2 := Aside0.mk (show w.heap.size ≤ g2 by rw [hg2]; exact Nat.le_refl _); have X := Aside0.mk hbx; clear hbl hbx hg2)
          | ((with_reducible refine gate_dst (N := 6) rfl ?_); refine box_event rfl (N := 6) rfl (cs := #[.int .i64 0, .int .i64 0, .int .i64 0, .int .i64 0, .slice none 0 0, .int .i64 0, .int .i64 0]) (t := 57) ?hr ?_; (case hr => first | (go_simp; done) | (go_simp; rfl)); intro g4 hg4 w2 hbx hbl; have D34 := Aside0.mk (show g2 ≠ g4 by rw [hg4]; exact Nat.ne_of_lt (Array.getElem?_eq_some_iff.1 X.out).1); have G4 := Aside0.mk (show w.heap.size ≤ g4 by rw [hg4]; exact HB.out.size); have n_X := Aside0.mk ((hbl.block g2 (Array.getElem?_eq_some_iff.1 X.out).1).trans X.out); have n_B := Aside0.mk (below_step HB.out hbl); have Y := Aside0.mk hbx; clear HB X hbl hbx hg4; have HB := n_B; have X := n_X; clear n_B n_X)
          | ((with_reducible refine gate_dst (N := 7) rfl ?_); refine load_ev (N := 7) rfl rfl rfl (cs := #[.int .i64 m.p, .int .i64 m.w, .int .i64 m.g, .int .i64 m.s, .slice A m.L.length c]) rfl X.out Try.underlying51 rfl (by kernel_rfl) ?_))
        refine (hmay.out w2 (HL.out.later HB.out)).mono ?_
        rintro e w3 ⟨rfl, hb⟩
        have n_X := Aside0.mk ((hb.block g2 (blk_lt X.out)).trans X.out)
        have n_Y := Aside0.mk ((hb.block g4 (blk_lt Y.out)).trans Y.out)
        have n_HB := Aside0.mk (below_step HB.out hb)
        clear X Y HB hb
        have X := n_X
        have Y := n_Y
        have HB := n_HB
        clear n_X n_Y n_HB
        go_wp2_with (first
          | ((with_reducible refine gate_dst (N := 14) rfl ?_); refine load_ev (N := 14) rfl rfl rfl (cs := #[.int .i64 m.p, .int .i64 m.w, .int .i64 m.g, .int .i64 m.s, .slice A m.L.length c]) rfl X.out Try.underlying51 rfl (by kernel_rfl) ?_))
        refine (hsw.out w3 (HL.out.later HB.out)).mono ?_
        rintro e w4 ⟨A1, c1, rfl, hL1, hb⟩
        have HL1 := Aside0.mk hL1
        clear hL1
        have n_X := Aside0.mk ((hb.block g2 (blk_lt X.out)).trans X.out)
        have n_Y := Aside0.mk ((hb.block g4 (blk_lt Y.out)).trans Y.out)
        have n_HB := Aside0.mk (below_step HB.out hb)
        clear X Y HB hb
        have X := n_X
        have Y := n_Y
        have HB := n_HB
        clear n_X n_Y n_HB
        go_wp2_with (first
          | ((with_reducible refine gate_store (t := 51) (p := 3) rfl ?_); refine store_ev rfl rfl rfl (cells := #[.int .i64 m1.p, .int .i64 m1.w, .int .i64 m1.g, .int .i64 m1.s, .slice A1 m1.L.length c1]) rfl rfl X.out (by kernel_rfl) rfl (by kernel_rfl) ?_; intro w5 hbx hgr; have n_HB := Aside0.mk (below_put HB.out G2.out hgr HB.out.size); have n_Y := Aside0.mk (grown_at hgr Y.out (Ne.symm D34.out)); have n_HL1 := Aside0.mk (HL1.out.put hgr (not_me X.out (by decide))); have n_X := Aside0.mk ((show w5.heap[g2]? = some (.cells #[.int .i64 m1.p, .int .i64 m1.w, .int .i64 m1.g, .int .i64 m1.s, .slice A1 m1.L.length c1] 51 (0, 0)) from hbx)); clear HB Y HL1 X hbx hgr; have HB := n_HB; have Y := n_Y; have HL1 := n_HL1; have X := n_X; clear n_HB n_Y n_HL1 n_X)
          | ((with_reducible refine gate_dst (N := 18) rfl ?_); refine load_ev (N := 18) rfl rfl rfl (cs := #[.int .i64 m1.p, .int .i64 m1.w, .int .i64 m1.g, .int .i64 m1.s, .slice A1 m1.L.length c1]) rfl X.out Try.underlying51 rfl (by kernel_rfl) ?_))
        refine (his.out A1 c1 w5 HL1.out).mono ?_
        rintro e w6 ⟨rfl, hb⟩
        have n_X := Aside0.mk ((hb.block g2 (blk_lt X.out)).trans X.out)
        have n_Y := Aside0.mk ((hb.block g4 (blk_lt Y.out)).trans Y.out)
        have n_HB := Aside0.mk (below_step HB.out hb)
        have n_HL1 := Aside0.mk (HL1.out.later hb)
        clear X Y HB HL1 hb
        have X := n_X
        have Y := n_Y
        have HB := n_HB
        have HL1 := n_HL1
        clear n_X n_Y n_HB n_HL1
        have xw62 : w6.cell? ⟨g2, 2, none⟩ = some (.int .i64 m1.g) := (blk_cell X.out 2).trans rfl
        have zw62 : w6.frozen? ⟨g2, 2, none⟩ = false := blk_frozen X.out 2
        have xw64 : w6.cell? ⟨g2, 4, none⟩ = some (.slice A1 m1.L.length c1) := (blk_cell X.out 4).trans rfl
        have zw64 : w6.frozen? ⟨g2, 4, none⟩ = false := blk_frozen X.out 4
        go_wp2_with (first
          | ((with_reducible refine gate_store (t := 3) (p := 31) rfl ?_); refine fstore_ev rfl rfl rfl (g := g2) (j := 2) (u := .int .i64 (m1.g + 1)) X.out ?hr ?_; (case hr => first | (go_simp; done) | (go_simp; rfl)); intro wg hbx hgr; have n_HB := Aside0.mk (below_put HB.out G2.out hgr HB.out.size); have n_Y := Aside0.mk (grown_at hgr Y.out (Ne.symm D34.out)); have n_HL1 := Aside0.mk (HL1.out.put hgr (not_me X.out (by decide))); have n_X := Aside0.mk ((show wg.heap[g2]? = some (.cells #[.int .i64 m1.p, .int .i64 m1.w, .int .i64 (m1.g + 1), .int .i64 m1.s, .slice A1 m1.L.length c1] 51 (0, 0)) from hbx)); clear HB Y HL1 X hbx hgr; have HB := n_HB; have Y := n_Y; have HL1 := n_HL1; have X := n_X; clear n_HB n_Y n_HL1 n_X)
          | ((with_reducible refine gate_dst (N := 32) rfl ?_); refine load_ev (N := 32) rfl rfl rfl (cs := #[.int .i64 m1.p, .int .i64 m1.w, .int .i64 (m1.g + 1), .int .i64 m1.s, .slice A1 m1.L.length c1]) rfl X.out Try.underlying51 rfl (by kernel_rfl) ?_))
        refine (rwith_calls { m1 with g := m1.g + 1 } hn8 HR1.out A1 c1 x slot wg HL1.out).mono ?_
        rintro e w7 ⟨A2, c2, rfl, hL2, hb⟩
        have HL2 := Aside0.mk hL2
        clear hL2
        have n_X := Aside0.mk ((hb.block g2 (blk_lt X.out)).trans X.out)
        have n_Y := Aside0.mk ((hb.block g4 (blk_lt Y.out)).trans Y.out)
        have n_HB := Aside0.mk (below_step HB.out hb)
        clear X Y HB hb
        have X := n_X
        have Y := n_Y
        have HB := n_HB
        clear n_X n_Y n_HB
        go_wp2_with (first
          | ((with_reducible refine gate_store (t := 51) (p := 3) rfl ?_); refine store_ev rfl rfl rfl (cells := #[.int .i64 m1.p, .int .i64 m1.w, .int .i64 (m1.g + 1), .int .i64 m1.s, .slice A2 (setM { m1 with g := m1.g + 1 } x slot).L.length c2]) rfl rfl X.out (by kernel_rfl) rfl (by kernel_rfl) ?_; intro w8 hbx hgr; have n_HB := Aside0.mk (below_put HB.out G2.out hgr HB.out.size); have n_Y := Aside0.mk (grown_at hgr Y.out (Ne.symm D34.out)); have n_HL2 := Aside0.mk (HL2.out.put hgr (not_me X.out (by decide))); have n_X := Aside0.mk ((show w8.heap[g2]? = some (.cells #[.int .i64 m1.p, .int .i64 m1.w, .int .i64 (m1.g + 1), .int .i64 m1.s, .slice A2 (setM { m1 with g := m1.g + 1 } x slot).L.length c2] 51 (0, 0)) from hbx)); clear HB Y HL2 X hbx hgr; have HB := n_HB; have Y := n_Y; have HL2 := n_HL2; have X := n_X; clear n_HB n_Y n_HL2 n_X; have xw82 : w8.cell? ⟨g2, 2, none⟩ = some (.int .i64 (m1.g + 1)) := (blk_cell X.out 2).trans rfl; have zw82 : w8.frozen? ⟨g2, 2, none⟩ = false := blk_frozen X.out 2)
          | ((with_reducible refine gate_dst (N := 37) rfl ?_); refine load_ev (N := 37) rfl rfl rfl (cs := #[.int .i64 m1.p, .int .i64 m1.w, .int .i64 (m1.g + 1), .int .i64 m1.s, .slice A2 (setM { m1 with g := m1.g + 1 } x slot).L.length c2]) rfl X.out Try.underlying51 rfl (by kernel_rfl) ?_)
          | ((with_reducible refine gate_store (t := 57) (p := 6) rfl ?_); refine store_ev rfl rfl rfl (cells := #[.int .i64 m1.p, .int .i64 m1.w, .int .i64 (m1.g + 1), .int .i64 m1.s, .slice A2 (setM { m1 with g := m1.g + 1 } x slot).L.length c2, .int .i64 (m1.g + 1), .int .i64 0]) rfl rfl Y.out (by kernel_rfl) rfl (by kernel_rfl) ?_; intro wf hbx hgr; have n_B := Aside0.mk (below_put HB.out G4.out hgr HB.out.size); have n_HL2 := Aside0.mk (HL2.out.put hgr (not_me Y.out (by decide))); have n_Y := Aside0.mk hbx; clear HB Y HL2 hbx hgr; have HB := n_B; have Y := n_Y; have HL2 := n_HL2; clear n_B n_Y n_HL2))
        refine bodyPost_ret (results_cell_row rfl _ _ g4 57 #[.int .i64 m1.p, .int .i64 m1.w, .int .i64 (m1.g + 1), .int .i64 m1.s, .slice A2 (setM { m1 with g := m1.g + 1 } x slot).L.length c2, .int .i64 (m1.g + 1), .int .i64 0] (0, 0) _ rfl Y.out Try.underlying57 rfl (by kernel_rfl)) rfl ?_
        exact ⟨A2, c2, rfl, HL2.out, HB.out⟩
set_option maxHeartbeats 16000000 in
set_option maxRecDepth 100000 in
theorem rbeat_calls (m : MG) (hok : okM m) (hris : RisM m.L) (hg : m.g ≤ 1000000) (A : Option Addr) (c : Nat) (x : ByteArray) (hx : x.size ≤ 1000) (gen slot : Int) (w : World) (h : Ls w A c m.L) :
    Calls Try.prog 83 #[.agg #[.int .i64 m.p, .int .i64 m.w, .int .i64 m.g, .int .i64 m.s, .slice A m.L.length c], .string x, .int .i64 gen, .int .i64 slot] w fun e w' => ∃ A' c', e = .returned (.agg #[.int .i64 (beatM m x gen slot).1.p, .int .i64 (beatM m x gen slot).1.w, .int .i64 (beatM m x gen slot).1.g, .int .i64 (beatM m x gen slot).1.s, .slice A' (beatM m x gen slot).1.L.length c', .int .i64 0, .int .i64 (beatM m x gen slot).2]) ∧ Ls w' A' c' (beatM m x gen slot).1.L ∧ Below w.heap.size w w' := by
  have hund : ∀ b, some undef = some (Value.bool b) → False := fun b h => by simp [undef] at h
  have hfl := fld0
  have HL := Aside0.mk h
  have hmay := Aside0.mk (fun W (h : Ls W A c m.L) => rmay_calls m A c x hx slot W h)
  cases hbg : begB m x slot with
  | false =>
    rw [hbg] at hmay
    have he : beatM m x gen slot = (m, 1) := by unfold beatM; rw [hbg]; rfl
    rw [he]
    clear he hbg
    go_enter Try.func83, Try.ntmps83
    go_wp2_with (first
      | ((with_reducible refine gate_dst (N := 4) rfl ?_); refine box_event rfl (N := 4) rfl (cs := #[.int .i64 m.p, .int .i64 m.w, .int .i64 m.g, .int .i64 m.s, .slice A m.L.length c]) (t := 51) ?hr ?_; (case hr => first | (go_simp; done) | (go_simp; rfl)); intro g2 hg2 w1 hbx hbl; have HB := Aside0.mk hbl; have G2 := Aside0.mk (show w.heap.size ≤ g2 by rw [hg2]; exact Nat.le_refl _); have X := Aside0.mk hbx; clear hbl hbx hg2)
      | ((with_reducible refine gate_dst (N := 8) rfl ?_); refine box_event rfl (N := 8) rfl (cs := #[.int .i64 0, .int .i64 0, .int .i64 0, .int .i64 0, .slice none 0 0, .int .i64 0, .int .i64 0]) (t := 57) ?hr ?_; (case hr => first | (go_simp; done) | (go_simp; rfl)); intro g4 hg4 w2 hbx hbl; have D34 := Aside0.mk (show g2 ≠ g4 by rw [hg4]; exact Nat.ne_of_lt (Array.getElem?_eq_some_iff.1 X.out).1); have G4 := Aside0.mk (show w.heap.size ≤ g4 by rw [hg4]; exact HB.out.size); have n_X := Aside0.mk ((hbl.block g2 (Array.getElem?_eq_some_iff.1 X.out).1).trans X.out); have n_B := Aside0.mk (below_step HB.out hbl); have Y := Aside0.mk hbx; clear HB X hbl hbx hg4; have HB := n_B; have X := n_X; clear n_B n_X)
      | ((with_reducible refine gate_dst (N := 9) rfl ?_); refine load_ev (N := 9) rfl rfl rfl (cs := #[.int .i64 m.p, .int .i64 m.w, .int .i64 m.g, .int .i64 m.s, .slice A m.L.length c]) rfl X.out Try.underlying51 rfl (by kernel_rfl) ?_))
    refine (hmay.out w2 (HL.out.later HB.out)).mono ?_
    rintro e w3 ⟨rfl, hb⟩
    have n_X := Aside0.mk ((hb.block g2 (blk_lt X.out)).trans X.out)
    have n_Y := Aside0.mk ((hb.block g4 (blk_lt Y.out)).trans Y.out)
    have n_HB := Aside0.mk (below_step HB.out hb)
    clear X Y HB hb
    have X := n_X
    have Y := n_Y
    have HB := n_HB
    clear n_X n_Y n_HB
    go_wp2_with (first
      | ((with_reducible refine gate_dst (N := 14) rfl ?_); refine load_ev (N := 14) rfl rfl rfl (cs := #[.int .i64 m.p, .int .i64 m.w, .int .i64 m.g, .int .i64 m.s, .slice A m.L.length c]) rfl X.out Try.underlying51 rfl (by kernel_rfl) ?_)
      | ((with_reducible refine gate_store (t := 57) (p := 8) rfl ?_); refine store_ev rfl rfl rfl (cells := #[.int .i64 m.p, .int .i64 m.w, .int .i64 m.g, .int .i64 m.s, .slice A m.L.length c, .int .i64 0, .int .i64 1]) rfl rfl Y.out (by kernel_rfl) rfl (by kernel_rfl) ?_; intro wf hbx hgr; have n_B := Aside0.mk (below_put HB.out G4.out hgr HB.out.size); have n_Y := Aside0.mk hbx; clear HB Y  hbx hgr; have HB := n_B; have Y := n_Y; clear n_B n_Y ))
    refine bodyPost_ret (results_cell_row rfl _ _ g4 57 #[.int .i64 m.p, .int .i64 m.w, .int .i64 m.g, .int .i64 m.s, .slice A m.L.length c, .int .i64 0, .int .i64 1] (0, 0) _ rfl Y.out Try.underlying57 rfl (by kernel_rfl)) rfl ?_
    exact ⟨A, c, rfl, HL.out.later HB.out, HB.out⟩
  | true =>
    rw [hbg] at hmay
    have he : beatM m x gen slot = bt (sweepM m slot) x gen slot := by unfold beatM; rw [hbg]; rfl
    rw [he]
    obtain ⟨_, hS, _⟩ := beg_parts hbg hok
    have hsw := Aside0.mk (fun W (h : Ls W A c m.L) => rsweep_calls m hok hg A c slot W h)
    simp only [show swpM m slot = (sweepM m slot, outM m slot) by unfold swpM; rw [hS]; rfl] at hsw
    have HOK := Aside0.mk (okM_sweep hok hS)
    have HR1 := Aside0.mk (show RisM (sweepM m slot).L from ris_filter hris _)
    have hgs := (sweep_g m slot).1
    clear he hbg hS hok hris
    generalize sweepM m slot = m1 at *
    generalize outM m slot = n1 at *
    have hn8 := HOK.out.n
    have hg1 : 0 ≤ m1.g ∧ m1.g ≤ 1000001 := ⟨HOK.out.g, by omega⟩
    have his := Aside0.mk (fun A c W (h : Ls W A c m1.L) => ris_calls m1 hn8 A c x W h)
    obtain ⟨bi, hbi⟩ : ∃ bi, isM m1.L x.toList = bi := ⟨_, rfl⟩
    rw [hbi] at his
    unfold bt
    cases bi with
    | false =>
      rw [if_neg (by rw [hbi]; decide)]
      go_enter Try.func83, Try.ntmps83
      go_wp2_with (first
        | ((with_reducible refine gate_dst (N := 4) rfl ?_); refine box_event rfl (N := 4) rfl (cs := #[.int .i64 m.p, .int .i64 m.w, .int .i64 m.g, .int .i64 m.s, .slice A m.L.length c]) (t := 51) ?hr ?_; (case hr => first | (go_simp; done) | (go_simp; rfl)); intro g2 hg2 w1 hbx hbl; have HB := Aside0.mk hbl; have G2 := Aside0.mk (show w.heap.size ≤ g2 by rw [hg2]; exact Nat.le_refl _); have X := Aside0.mk hbx; clear hbl hbx hg2)
        | ((with_reducible refine gate_dst (N := 8) rfl ?_); refine box_event rfl (N := 8) rfl (cs := #[.int .i64 0, .int .i64 0, .int .i64 0, .int .i64 0, .slice none 0 0, .int .i64 0, .int .i64 0]) (t := 57) ?hr ?_; (case hr => first | (go_simp; done) | (go_simp; rfl)); intro g4 hg4 w2 hbx hbl; have D34 := Aside0.mk (show g2 ≠ g4 by rw [hg4]; exact Nat.ne_of_lt (Array.getElem?_eq_some_iff.1 X.out).1); have G4 := Aside0.mk (show w.heap.size ≤ g4 by rw [hg4]; exact HB.out.size); have n_X := Aside0.mk ((hbl.block g2 (Array.getElem?_eq_some_iff.1 X.out).1).trans X.out); have n_B := Aside0.mk (below_step HB.out hbl); have Y := Aside0.mk hbx; clear HB X hbl hbx hg4; have HB := n_B; have X := n_X; clear n_B n_X)
        | ((with_reducible refine gate_dst (N := 9) rfl ?_); refine load_ev (N := 9) rfl rfl rfl (cs := #[.int .i64 m.p, .int .i64 m.w, .int .i64 m.g, .int .i64 m.s, .slice A m.L.length c]) rfl X.out Try.underlying51 rfl (by kernel_rfl) ?_))
      refine (hmay.out w2 (HL.out.later HB.out)).mono ?_
      rintro e w3 ⟨rfl, hb⟩
      have n_X := Aside0.mk ((hb.block g2 (blk_lt X.out)).trans X.out)
      have n_Y := Aside0.mk ((hb.block g4 (blk_lt Y.out)).trans Y.out)
      have n_HB := Aside0.mk (below_step HB.out hb)
      clear X Y HB hb
      have X := n_X
      have Y := n_Y
      have HB := n_HB
      clear n_X n_Y n_HB
      go_wp2_with (first
        | ((with_reducible refine gate_dst (N := 16) rfl ?_); refine load_ev (N := 16) rfl rfl rfl (cs := #[.int .i64 m.p, .int .i64 m.w, .int .i64 m.g, .int .i64 m.s, .slice A m.L.length c]) rfl X.out Try.underlying51 rfl (by kernel_rfl) ?_))
      refine (hsw.out w3 (HL.out.later HB.out)).mono ?_
      rintro e w4 ⟨A1, c1, rfl, hL1, hb⟩
      have HL1 := Aside0.mk hL1
      clear hL1
      have n_X := Aside0.mk ((hb.block g2 (blk_lt X.out)).trans X.out)
      have n_Y := Aside0.mk ((hb.block g4 (blk_lt Y.out)).trans Y.out)
      have n_HB := Aside0.mk (below_step HB.out hb)
      clear X Y HB hb
      have X := n_X
      have Y := n_Y
      have HB := n_HB
      clear n_X n_Y n_HB
      go_wp2_with (first
        | ((with_reducible refine gate_store (t := 51) (p := 4) rfl ?_); refine store_ev rfl rfl rfl (cells := #[.int .i64 m1.p, .int .i64 m1.w, .int .i64 m1.g, .int .i64 m1.s, .slice A1 m1.L.length c1]) rfl rfl X.out (by kernel_rfl) rfl (by kernel_rfl) ?_; intro w5 hbx hgr; have n_HB := Aside0.mk (below_put HB.out G2.out hgr HB.out.size); have n_Y := Aside0.mk (grown_at hgr Y.out (Ne.symm D34.out)); have n_HL1 := Aside0.mk (HL1.out.put hgr (not_me X.out (by decide))); have n_X := Aside0.mk ((show w5.heap[g2]? = some (.cells #[.int .i64 m1.p, .int .i64 m1.w, .int .i64 m1.g, .int .i64 m1.s, .slice A1 m1.L.length c1] 51 (0, 0)) from hbx)); clear HB Y HL1 X hbx hgr; have HB := n_HB; have Y := n_Y; have HL1 := n_HL1; have X := n_X; clear n_HB n_Y n_HL1 n_X)
        | ((with_reducible refine gate_dst (N := 20) rfl ?_); refine load_ev (N := 20) rfl rfl rfl (cs := #[.int .i64 m1.p, .int .i64 m1.w, .int .i64 m1.g, .int .i64 m1.s, .slice A1 m1.L.length c1]) rfl X.out Try.underlying51 rfl (by kernel_rfl) ?_))
      refine (his.out A1 c1 w5 HL1.out).mono ?_
      rintro e w6 ⟨rfl, hb⟩
      have n_X := Aside0.mk ((hb.block g2 (blk_lt X.out)).trans X.out)
      have n_Y := Aside0.mk ((hb.block g4 (blk_lt Y.out)).trans Y.out)
      have n_HB := Aside0.mk (below_step HB.out hb)
      have n_HL1 := Aside0.mk (HL1.out.later hb)
      clear X Y HB HL1 hb
      have X := n_X
      have Y := n_Y
      have HB := n_HB
      have HL1 := n_HL1
      clear n_X n_Y n_HB n_HL1
      have xw62 : w6.cell? ⟨g2, 2, none⟩ = some (.int .i64 m1.g) := (blk_cell X.out 2).trans rfl
      have zw62 : w6.frozen? ⟨g2, 2, none⟩ = false := blk_frozen X.out 2
      have xw64 : w6.cell? ⟨g2, 4, none⟩ = some (.slice A1 m1.L.length c1) := (blk_cell X.out 4).trans rfl
      have zw64 : w6.frozen? ⟨g2, 4, none⟩ = false := blk_frozen X.out 4
      go_wp2_with (first
        | ((with_reducible refine gate_dst (N := 24) rfl ?_); refine load_ev (N := 24) rfl rfl rfl (cs := #[.int .i64 m1.p, .int .i64 m1.w, .int .i64 m1.g, .int .i64 m1.s, .slice A1 m1.L.length c1]) rfl X.out Try.underlying51 rfl (by kernel_rfl) ?_)
        | ((with_reducible refine gate_store (t := 57) (p := 8) rfl ?_); refine store_ev rfl rfl rfl (cells := #[.int .i64 m1.p, .int .i64 m1.w, .int .i64 m1.g, .int .i64 m1.s, .slice A1 m1.L.length c1, .int .i64 0, .int .i64 36]) rfl rfl Y.out (by kernel_rfl) rfl (by kernel_rfl) ?_; intro wf hbx hgr; have n_B := Aside0.mk (below_put HB.out G4.out hgr HB.out.size); have n_HL1 := Aside0.mk (HL1.out.put hgr (not_me Y.out (by decide))); have n_Y := Aside0.mk hbx; clear HB Y HL1 hbx hgr; have HB := n_B; have Y := n_Y; have HL1 := n_HL1; clear n_B n_Y n_HL1))
      refine bodyPost_ret (results_cell_row rfl _ _ g4 57 #[.int .i64 m1.p, .int .i64 m1.w, .int .i64 m1.g, .int .i64 m1.s, .slice A1 m1.L.length c1, .int .i64 0, .int .i64 36] (0, 0) _ rfl Y.out Try.underlying57 rfl (by kernel_rfl)) rfl ?_
      exact ⟨A1, c1, rfl, HL1.out, HB.out⟩
    | true =>
      rw [if_pos hbi]
      by_cases hge : gen = m1.g
      · rw [if_pos hge]
        have d8 : (gen != m1.g) = false := by rw [hge]; simp
        clear hge
        go_enter Try.func83, Try.ntmps83
        go_wp2_with (first
          | ((with_reducible refine gate_dst (N := 4) rfl ?_); refine box_event rfl (N := 4) rfl (cs := #[.int .i64 m.p, .int .i64 m.w, .int .i64 m.g, .int .i64 m.s, .slice A m.L.length c]) (t := 51) ?hr ?_; (case hr => first | (go_simp; done) | (go_simp; rfl)); intro g2 hg2 w1 hbx hbl; have HB := Aside0.mk hbl; have G2 := Aside0.mk (show w.heap.size ≤ g2 by rw [hg2]; exact Nat.le_refl _); have X := Aside0.mk hbx; clear hbl hbx hg2)
          | ((with_reducible refine gate_dst (N := 8) rfl ?_); refine box_event rfl (N := 8) rfl (cs := #[.int .i64 0, .int .i64 0, .int .i64 0, .int .i64 0, .slice none 0 0, .int .i64 0, .int .i64 0]) (t := 57) ?hr ?_; (case hr => first | (go_simp; done) | (go_simp; rfl)); intro g4 hg4 w2 hbx hbl; have D34 := Aside0.mk (show g2 ≠ g4 by rw [hg4]; exact Nat.ne_of_lt (Array.getElem?_eq_some_iff.1 X.out).1); have G4 := Aside0.mk (show w.heap.size ≤ g4 by rw [hg4]; exact HB.out.size); have n_X := Aside0.mk ((hbl.block g2 (Array.getElem?_eq_some_iff.1 X.out).1).trans X.out); have n_B := Aside0.mk (below_step HB.out hbl); have Y := Aside0.mk hbx; clear HB X hbl hbx hg4; have HB := n_B; have X := n_X; clear n_B n_X)
          | ((with_reducible refine gate_dst (N := 9) rfl ?_); refine load_ev (N := 9) rfl rfl rfl (cs := #[.int .i64 m.p, .int .i64 m.w, .int .i64 m.g, .int .i64 m.s, .slice A m.L.length c]) rfl X.out Try.underlying51 rfl (by kernel_rfl) ?_))
        refine (hmay.out w2 (HL.out.later HB.out)).mono ?_
        rintro e w3 ⟨rfl, hb⟩
        have n_X := Aside0.mk ((hb.block g2 (blk_lt X.out)).trans X.out)
        have n_Y := Aside0.mk ((hb.block g4 (blk_lt Y.out)).trans Y.out)
        have n_HB := Aside0.mk (below_step HB.out hb)
        clear X Y HB hb
        have X := n_X
        have Y := n_Y
        have HB := n_HB
        clear n_X n_Y n_HB
        go_wp2_with (first
          | ((with_reducible refine gate_dst (N := 16) rfl ?_); refine load_ev (N := 16) rfl rfl rfl (cs := #[.int .i64 m.p, .int .i64 m.w, .int .i64 m.g, .int .i64 m.s, .slice A m.L.length c]) rfl X.out Try.underlying51 rfl (by kernel_rfl) ?_))
        refine (hsw.out w3 (HL.out.later HB.out)).mono ?_
        rintro e w4 ⟨A1, c1, rfl, hL1, hb⟩
        have HL1 := Aside0.mk hL1
        clear hL1
        have n_X := Aside0.mk ((hb.block g2 (blk_lt X.out)).trans X.out)
        have n_Y := Aside0.mk ((hb.block g4 (blk_lt Y.out)).trans Y.out)
        have n_HB := Aside0.mk (below_step HB.out hb)
        clear X Y HB hb
        have X := n_X
        have Y := n_Y
        have HB := n_HB
        clear n_X n_Y n_HB
        go_wp2_with (first
          | ((with_reducible refine gate_store (t := 51) (p := 4) rfl ?_); refine store_ev rfl rfl rfl (cells := #[.int .i64 m1.p, .int .i64 m1.w, .int .i64 m1.g, .int .i64 m1.s, .slice A1 m1.L.length c1]) rfl rfl X.out (by kernel_rfl) rfl (by kernel_rfl) ?_; intro w5 hbx hgr; have n_HB := Aside0.mk (below_put HB.out G2.out hgr HB.out.size); have n_Y := Aside0.mk (grown_at hgr Y.out (Ne.symm D34.out)); have n_HL1 := Aside0.mk (HL1.out.put hgr (not_me X.out (by decide))); have n_X := Aside0.mk ((show w5.heap[g2]? = some (.cells #[.int .i64 m1.p, .int .i64 m1.w, .int .i64 m1.g, .int .i64 m1.s, .slice A1 m1.L.length c1] 51 (0, 0)) from hbx)); clear HB Y HL1 X hbx hgr; have HB := n_HB; have Y := n_Y; have HL1 := n_HL1; have X := n_X; clear n_HB n_Y n_HL1 n_X)
          | ((with_reducible refine gate_dst (N := 20) rfl ?_); refine load_ev (N := 20) rfl rfl rfl (cs := #[.int .i64 m1.p, .int .i64 m1.w, .int .i64 m1.g, .int .i64 m1.s, .slice A1 m1.L.length c1]) rfl X.out Try.underlying51 rfl (by kernel_rfl) ?_))
        refine (his.out A1 c1 w5 HL1.out).mono ?_
        rintro e w6 ⟨rfl, hb⟩
        have n_X := Aside0.mk ((hb.block g2 (blk_lt X.out)).trans X.out)
        have n_Y := Aside0.mk ((hb.block g4 (blk_lt Y.out)).trans Y.out)
        have n_HB := Aside0.mk (below_step HB.out hb)
        have n_HL1 := Aside0.mk (HL1.out.later hb)
        clear X Y HB HL1 hb
        have X := n_X
        have Y := n_Y
        have HB := n_HB
        have HL1 := n_HL1
        clear n_X n_Y n_HB n_HL1
        have xw62 : w6.cell? ⟨g2, 2, none⟩ = some (.int .i64 m1.g) := (blk_cell X.out 2).trans rfl
        have zw62 : w6.frozen? ⟨g2, 2, none⟩ = false := blk_frozen X.out 2
        have xw64 : w6.cell? ⟨g2, 4, none⟩ = some (.slice A1 m1.L.length c1) := (blk_cell X.out 4).trans rfl
        have zw64 : w6.frozen? ⟨g2, 4, none⟩ = false := blk_frozen X.out 4
        go_wp2_with (first
          | ((with_reducible refine gate_dst (N := 32) rfl ?_); refine load_ev (N := 32) rfl rfl rfl (cs := #[.int .i64 m1.p, .int .i64 m1.w, .int .i64 m1.g, .int .i64 m1.s, .slice A1 m1.L.length c1]) rfl X.out Try.underlying51 rfl (by kernel_rfl) ?_))
        refine (rwith_calls m1 hn8 HR1.out A1 c1 x slot w6 HL1.out).mono ?_
        rintro e w7 ⟨A2, c2, rfl, hL2, hb⟩
        have HL2 := Aside0.mk hL2
        clear hL2
        have n_X := Aside0.mk ((hb.block g2 (blk_lt X.out)).trans X.out)
        have n_Y := Aside0.mk ((hb.block g4 (blk_lt Y.out)).trans Y.out)
        have n_HB := Aside0.mk (below_step HB.out hb)
        clear X Y HB hb
        have X := n_X
        have Y := n_Y
        have HB := n_HB
        clear n_X n_Y n_HB
        go_wp2_with (first
          | ((with_reducible refine gate_store (t := 57) (p := 8) rfl ?_); refine store_ev rfl rfl rfl (cells := #[.int .i64 m1.p, .int .i64 m1.w, .int .i64 m1.g, .int .i64 m1.s, .slice A2 (setM m1 x slot).L.length c2, .int .i64 0, .int .i64 0]) rfl rfl Y.out (by kernel_rfl) rfl (by kernel_rfl) ?_; intro wf hbx hgr; have n_B := Aside0.mk (below_put HB.out G4.out hgr HB.out.size); have n_HL2 := Aside0.mk (HL2.out.put hgr (not_me Y.out (by decide))); have n_Y := Aside0.mk hbx; clear HB Y HL2 hbx hgr; have HB := n_B; have Y := n_Y; have HL2 := n_HL2; clear n_B n_Y n_HL2))
        refine bodyPost_ret (results_cell_row rfl _ _ g4 57 #[.int .i64 m1.p, .int .i64 m1.w, .int .i64 m1.g, .int .i64 m1.s, .slice A2 (setM m1 x slot).L.length c2, .int .i64 0, .int .i64 0] (0, 0) _ rfl Y.out Try.underlying57 rfl (by kernel_rfl)) rfl ?_
        exact ⟨A2, c2, rfl, HL2.out, HB.out⟩
      · rw [if_neg hge]
        have d8 : (gen != m1.g) = true := by simpa using hge
        clear hge
        go_enter Try.func83, Try.ntmps83
        go_wp2_with (first
          | ((with_reducible refine gate_dst (N := 4) rfl ?_); refine box_event rfl (N := 4) rfl (cs := #[.int .i64 m.p, .int .i64 m.w, .int .i64 m.g, .int .i64 m.s, .slice A m.L.length c]) (t := 51) ?hr ?_; (case hr => first | (go_simp; done) | (go_simp; rfl)); intro g2 hg2 w1 hbx hbl; have HB := Aside0.mk hbl; have G2 := Aside0.mk (show w.heap.size ≤ g2 by rw [hg2]; exact Nat.le_refl _); have X := Aside0.mk hbx; clear hbl hbx hg2)
          | ((with_reducible refine gate_dst (N := 8) rfl ?_); refine box_event rfl (N := 8) rfl (cs := #[.int .i64 0, .int .i64 0, .int .i64 0, .int .i64 0, .slice none 0 0, .int .i64 0, .int .i64 0]) (t := 57) ?hr ?_; (case hr => first | (go_simp; done) | (go_simp; rfl)); intro g4 hg4 w2 hbx hbl; have D34 := Aside0.mk (show g2 ≠ g4 by rw [hg4]; exact Nat.ne_of_lt (Array.getElem?_eq_some_iff.1 X.out).1); have G4 := Aside0.mk (show w.heap.size ≤ g4 by rw [hg4]; exact HB.out.size); have n_X := Aside0.mk ((hbl.block g2 (Array.getElem?_eq_some_iff.1 X.out).1).trans X.out); have n_B := Aside0.mk (below_step HB.out hbl); have Y := Aside0.mk hbx; clear HB X hbl hbx hg4; have HB := n_B; have X := n_X; clear n_B n_X)
          | ((with_reducible refine gate_dst (N := 9) rfl ?_); refine load_ev (N := 9) rfl rfl rfl (cs := #[.int .i64 m.p, .int .i64 m.w, .int .i64 m.g, .int .i64 m.s, .slice A m.L.length c]) rfl X.out Try.underlying51 rfl (by kernel_rfl) ?_))
        refine (hmay.out w2 (HL.out.later HB.out)).mono ?_
        rintro e w3 ⟨rfl, hb⟩
        have n_X := Aside0.mk ((hb.block g2 (blk_lt X.out)).trans X.out)
        have n_Y := Aside0.mk ((hb.block g4 (blk_lt Y.out)).trans Y.out)
        have n_HB := Aside0.mk (below_step HB.out hb)
        clear X Y HB hb
        have X := n_X
        have Y := n_Y
        have HB := n_HB
        clear n_X n_Y n_HB
        go_wp2_with (first
          | ((with_reducible refine gate_dst (N := 16) rfl ?_); refine load_ev (N := 16) rfl rfl rfl (cs := #[.int .i64 m.p, .int .i64 m.w, .int .i64 m.g, .int .i64 m.s, .slice A m.L.length c]) rfl X.out Try.underlying51 rfl (by kernel_rfl) ?_))
        refine (hsw.out w3 (HL.out.later HB.out)).mono ?_
        rintro e w4 ⟨A1, c1, rfl, hL1, hb⟩
        have HL1 := Aside0.mk hL1
        clear hL1
        have n_X := Aside0.mk ((hb.block g2 (blk_lt X.out)).trans X.out)
        have n_Y := Aside0.mk ((hb.block g4 (blk_lt Y.out)).trans Y.out)
        have n_HB := Aside0.mk (below_step HB.out hb)
        clear X Y HB hb
        have X := n_X
        have Y := n_Y
        have HB := n_HB
        clear n_X n_Y n_HB
        go_wp2_with (first
          | ((with_reducible refine gate_store (t := 51) (p := 4) rfl ?_); refine store_ev rfl rfl rfl (cells := #[.int .i64 m1.p, .int .i64 m1.w, .int .i64 m1.g, .int .i64 m1.s, .slice A1 m1.L.length c1]) rfl rfl X.out (by kernel_rfl) rfl (by kernel_rfl) ?_; intro w5 hbx hgr; have n_HB := Aside0.mk (below_put HB.out G2.out hgr HB.out.size); have n_Y := Aside0.mk (grown_at hgr Y.out (Ne.symm D34.out)); have n_HL1 := Aside0.mk (HL1.out.put hgr (not_me X.out (by decide))); have n_X := Aside0.mk ((show w5.heap[g2]? = some (.cells #[.int .i64 m1.p, .int .i64 m1.w, .int .i64 m1.g, .int .i64 m1.s, .slice A1 m1.L.length c1] 51 (0, 0)) from hbx)); clear HB Y HL1 X hbx hgr; have HB := n_HB; have Y := n_Y; have HL1 := n_HL1; have X := n_X; clear n_HB n_Y n_HL1 n_X)
          | ((with_reducible refine gate_dst (N := 20) rfl ?_); refine load_ev (N := 20) rfl rfl rfl (cs := #[.int .i64 m1.p, .int .i64 m1.w, .int .i64 m1.g, .int .i64 m1.s, .slice A1 m1.L.length c1]) rfl X.out Try.underlying51 rfl (by kernel_rfl) ?_))
        refine (his.out A1 c1 w5 HL1.out).mono ?_
        rintro e w6 ⟨rfl, hb⟩
        have n_X := Aside0.mk ((hb.block g2 (blk_lt X.out)).trans X.out)
        have n_Y := Aside0.mk ((hb.block g4 (blk_lt Y.out)).trans Y.out)
        have n_HB := Aside0.mk (below_step HB.out hb)
        have n_HL1 := Aside0.mk (HL1.out.later hb)
        clear X Y HB HL1 hb
        have X := n_X
        have Y := n_Y
        have HB := n_HB
        have HL1 := n_HL1
        clear n_X n_Y n_HB n_HL1
        have xw62 : w6.cell? ⟨g2, 2, none⟩ = some (.int .i64 m1.g) := (blk_cell X.out 2).trans rfl
        have zw62 : w6.frozen? ⟨g2, 2, none⟩ = false := blk_frozen X.out 2
        have xw64 : w6.cell? ⟨g2, 4, none⟩ = some (.slice A1 m1.L.length c1) := (blk_cell X.out 4).trans rfl
        have zw64 : w6.frozen? ⟨g2, 4, none⟩ = false := blk_frozen X.out 4
        go_wp2_with (first
          | ((with_reducible refine gate_dst (N := 30) rfl ?_); refine load_ev (N := 30) rfl rfl rfl (cs := #[.int .i64 m1.p, .int .i64 m1.w, .int .i64 m1.g, .int .i64 m1.s, .slice A1 m1.L.length c1]) rfl X.out Try.underlying51 rfl (by kernel_rfl) ?_)
          | ((with_reducible refine gate_store (t := 57) (p := 8) rfl ?_); refine store_ev rfl rfl rfl (cells := #[.int .i64 m1.p, .int .i64 m1.w, .int .i64 m1.g, .int .i64 m1.s, .slice A1 m1.L.length c1, .int .i64 0, .int .i64 35]) rfl rfl Y.out (by kernel_rfl) rfl (by kernel_rfl) ?_; intro wf hbx hgr; have n_B := Aside0.mk (below_put HB.out G4.out hgr HB.out.size); have n_HL1 := Aside0.mk (HL1.out.put hgr (not_me Y.out (by decide))); have n_Y := Aside0.mk hbx; clear HB Y HL1 hbx hgr; have HB := n_B; have Y := n_Y; have HL1 := n_HL1; clear n_B n_Y n_HL1))
        refine bodyPost_ret (results_cell_row rfl _ _ g4 57 #[.int .i64 m1.p, .int .i64 m1.w, .int .i64 m1.g, .int .i64 m1.s, .slice A1 m1.L.length c1, .int .i64 0, .int .i64 35] (0, 0) _ rfl Y.out Try.underlying57 rfl (by kernel_rfl)) rfl ?_
        exact ⟨A1, c1, rfl, HL1.out, HB.out⟩
set_option maxHeartbeats 16000000 in
set_option maxRecDepth 100000 in
theorem rleave_calls (m : MG) (hok : okM m) (hris : RisM m.L) (hg : m.g ≤ 1000000) (A : Option Addr) (c : Nat) (x : ByteArray) (hx : x.size ≤ 1000) (slot : Int) (w : World) (h : Ls w A c m.L) :
    Calls Try.prog 82 #[.agg #[.int .i64 m.p, .int .i64 m.w, .int .i64 m.g, .int .i64 m.s, .slice A m.L.length c], .string x, .int .i64 slot] w fun e w' => ∃ A' c', e = .returned (.agg #[.int .i64 (leaveM m x slot).1.p, .int .i64 (leaveM m x slot).1.w, .int .i64 (leaveM m x slot).1.g, .int .i64 (leaveM m x slot).1.s, .slice A' (leaveM m x slot).1.L.length c', .int .i64 0, .int .i64 (leaveM m x slot).2]) ∧ Ls w' A' c' (leaveM m x slot).1.L ∧ Below w.heap.size w w' := by
  have hund : ∀ b, some undef = some (Value.bool b) → False := fun b h => by simp [undef] at h
  have hfl := fld0
  have HL := Aside0.mk h
  have hmay := Aside0.mk (fun W (h : Ls W A c m.L) => rmay_calls m A c x hx slot W h)
  cases hbg : begB m x slot with
  | false =>
    rw [hbg] at hmay
    have he : leaveM m x slot = (m, 1) := by unfold leaveM; rw [hbg]; rfl
    rw [he]
    clear he hbg
    go_enter Try.func82, Try.ntmps82
    go_wp2_with (first
      | ((with_reducible refine gate_dst (N := 3) rfl ?_); refine box_event rfl (N := 3) rfl (cs := #[.int .i64 m.p, .int .i64 m.w, .int .i64 m.g, .int .i64 m.s, .slice A m.L.length c]) (t := 51) ?hr ?_; (case hr => first | (go_simp; done) | (go_simp; rfl)); intro g2 hg2 w1 hbx hbl; have HB := Aside0.mk hbl; have G2 := Aside0.mk (show w.heap.size ≤ g2 by rw [hg2]; exact Nat.le_refl _); have X := Aside0.mk hbx; clear hbl hbx hg2)
      | ((with_reducible refine gate_dst (N := 6) rfl ?_); refine box_event rfl (N := 6) rfl (cs := #[.int .i64 0, .int .i64 0, .int .i64 0, .int .i64 0, .slice none 0 0, .int .i64 0, .int .i64 0]) (t := 57) ?hr ?_; (case hr => first | (go_simp; done) | (go_simp; rfl)); intro g4 hg4 w2 hbx hbl; have D34 := Aside0.mk (show g2 ≠ g4 by rw [hg4]; exact Nat.ne_of_lt (Array.getElem?_eq_some_iff.1 X.out).1); have G4 := Aside0.mk (show w.heap.size ≤ g4 by rw [hg4]; exact HB.out.size); have n_X := Aside0.mk ((hbl.block g2 (Array.getElem?_eq_some_iff.1 X.out).1).trans X.out); have n_B := Aside0.mk (below_step HB.out hbl); have Y := Aside0.mk hbx; clear HB X hbl hbx hg4; have HB := n_B; have X := n_X; clear n_B n_X)
      | ((with_reducible refine gate_dst (N := 10) rfl ?_); refine load_ev (N := 10) rfl rfl rfl (cs := #[.int .i64 m.p, .int .i64 m.w, .int .i64 m.g, .int .i64 m.s, .slice A m.L.length c]) rfl X.out Try.underlying51 rfl (by kernel_rfl) ?_))
    refine (hmay.out w2 (HL.out.later HB.out)).mono ?_
    rintro e w3 ⟨rfl, hb⟩
    have n_X := Aside0.mk ((hb.block g2 (blk_lt X.out)).trans X.out)
    have n_Y := Aside0.mk ((hb.block g4 (blk_lt Y.out)).trans Y.out)
    have n_HB := Aside0.mk (below_step HB.out hb)
    clear X Y HB hb
    have X := n_X
    have Y := n_Y
    have HB := n_HB
    clear n_X n_Y n_HB
    go_wp2_with (first
      | ((with_reducible refine gate_dst (N := 15) rfl ?_); refine load_ev (N := 15) rfl rfl rfl (cs := #[.int .i64 m.p, .int .i64 m.w, .int .i64 m.g, .int .i64 m.s, .slice A m.L.length c]) rfl X.out Try.underlying51 rfl (by kernel_rfl) ?_)
      | ((with_reducible refine gate_store (t := 57) (p := 6) rfl ?_); refine store_ev rfl rfl rfl (cells := #[.int .i64 m.p, .int .i64 m.w, .int .i64 m.g, .int .i64 m.s, .slice A m.L.length c, .int .i64 0, .int .i64 1]) rfl rfl Y.out (by kernel_rfl) rfl (by kernel_rfl) ?_; intro wf hbx hgr; have n_B := Aside0.mk (below_put HB.out G4.out hgr HB.out.size); have n_Y := Aside0.mk hbx; clear HB Y  hbx hgr; have HB := n_B; have Y := n_Y; clear n_B n_Y ))
    refine bodyPost_ret (results_cell_row rfl _ _ g4 57 #[.int .i64 m.p, .int .i64 m.w, .int .i64 m.g, .int .i64 m.s, .slice A m.L.length c, .int .i64 0, .int .i64 1] (0, 0) _ rfl Y.out Try.underlying57 rfl (by kernel_rfl)) rfl ?_
    exact ⟨A, c, rfl, HL.out.later HB.out, HB.out⟩
  | true =>
    rw [hbg] at hmay
    have he : leaveM m x slot = lv (sweepM m slot) x := by unfold leaveM; rw [hbg]; rfl
    rw [he]
    obtain ⟨_, hS, _⟩ := beg_parts hbg hok
    have hsw := Aside0.mk (fun W (h : Ls W A c m.L) => rsweep_calls m hok hg A c slot W h)
    simp only [show swpM m slot = (sweepM m slot, outM m slot) by unfold swpM; rw [hS]; rfl] at hsw
    have HOK := Aside0.mk (okM_sweep hok hS)
    have HR1 := Aside0.mk (show RisM (sweepM m slot).L from ris_filter hris _)
    have hgs := (sweep_g m slot).1
    clear he hbg hS hok hris
    generalize sweepM m slot = m1 at *
    generalize outM m slot = n1 at *
    have hn8 := HOK.out.n
    have hg1 : 0 ≤ m1.g ∧ m1.g ≤ 1000001 := ⟨HOK.out.g, by omega⟩
    have his := Aside0.mk (fun A c W (h : Ls W A c m1.L) => ris_calls m1 hn8 A c x W h)
    obtain ⟨bi, hbi⟩ : ∃ bi, isM m1.L x.toList = bi := ⟨_, rfl⟩
    rw [hbi] at his
    unfold lv
    cases bi with
    | false =>
      rw [if_neg (by rw [hbi]; decide)]
      go_enter Try.func82, Try.ntmps82
      go_wp2_with (first
        | ((with_reducible refine gate_dst (N := 3) rfl ?_); refine box_event rfl (N := 3) rfl (cs := #[.int .i64 m.p, .int .i64 m.w, .int .i64 m.g, .int .i64 m.s, .slice A m.L.length c]) (t := 51) ?hr ?_; (case hr => first | (go_simp; done) | (go_simp; rfl)); intro g2 hg2 w1 hbx hbl; have HB := Aside0.mk hbl; have G2 := Aside0.mk (show w.heap.size ≤ g2 by rw [hg2]; exact Nat.le_refl _); have X := Aside0.mk hbx; clear hbl hbx hg2)
        | ((with_reducible refine gate_dst (N := 6) rfl ?_); refine box_event rfl (N := 6) rfl (cs := #[.int .i64 0, .int .i64 0, .int .i64 0, .int .i64 0, .slice none 0 0, .int .i64 0, .int .i64 0]) (t := 57) ?hr ?_; (case hr => first | (go_simp; done) | (go_simp; rfl)); intro g4 hg4 w2 hbx hbl; have D34 := Aside0.mk (show g2 ≠ g4 by rw [hg4]; exact Nat.ne_of_lt (Array.getElem?_eq_some_iff.1 X.out).1); have G4 := Aside0.mk (show w.heap.size ≤ g4 by rw [hg4]; exact HB.out.size); have n_X := Aside0.mk ((hbl.block g2 (Array.getElem?_eq_some_iff.1 X.out).1).trans X.out); have n_B := Aside0.mk (below_step HB.out hbl); have Y := Aside0.mk hbx; clear HB X hbl hbx hg4; have HB := n_B; have X := n_X; clear n_B n_X)
        | ((with_reducible refine gate_dst (N := 10) rfl ?_); refine load_ev (N := 10) rfl rfl rfl (cs := #[.int .i64 m.p, .int .i64 m.w, .int .i64 m.g, .int .i64 m.s, .slice A m.L.length c]) rfl X.out Try.underlying51 rfl (by kernel_rfl) ?_))
      refine (hmay.out w2 (HL.out.later HB.out)).mono ?_
      rintro e w3 ⟨rfl, hb⟩
      have n_X := Aside0.mk ((hb.block g2 (blk_lt X.out)).trans X.out)
      have n_Y := Aside0.mk ((hb.block g4 (blk_lt Y.out)).trans Y.out)
      have n_HB := Aside0.mk (below_step HB.out hb)
      clear X Y HB hb
      have X := n_X
      have Y := n_Y
      have HB := n_HB
      clear n_X n_Y n_HB
      go_wp2_with (first
        | ((with_reducible refine gate_dst (N := 17) rfl ?_); refine load_ev (N := 17) rfl rfl rfl (cs := #[.int .i64 m.p, .int .i64 m.w, .int .i64 m.g, .int .i64 m.s, .slice A m.L.length c]) rfl X.out Try.underlying51 rfl (by kernel_rfl) ?_))
      refine (hsw.out w3 (HL.out.later HB.out)).mono ?_
      rintro e w4 ⟨A1, c1, rfl, hL1, hb⟩
      have HL1 := Aside0.mk hL1
      clear hL1
      have n_X := Aside0.mk ((hb.block g2 (blk_lt X.out)).trans X.out)
      have n_Y := Aside0.mk ((hb.block g4 (blk_lt Y.out)).trans Y.out)
      have n_HB := Aside0.mk (below_step HB.out hb)
      clear X Y HB hb
      have X := n_X
      have Y := n_Y
      have HB := n_HB
      clear n_X n_Y n_HB
      go_wp2_with (first
        | ((with_reducible refine gate_store (t := 51) (p := 3) rfl ?_); refine store_ev rfl rfl rfl (cells := #[.int .i64 m1.p, .int .i64 m1.w, .int .i64 m1.g, .int .i64 m1.s, .slice A1 m1.L.length c1]) rfl rfl X.out (by kernel_rfl) rfl (by kernel_rfl) ?_; intro w5 hbx hgr; have n_HB := Aside0.mk (below_put HB.out G2.out hgr HB.out.size); have n_Y := Aside0.mk (grown_at hgr Y.out (Ne.symm D34.out)); have n_HL1 := Aside0.mk (HL1.out.put hgr (not_me X.out (by decide))); have n_X := Aside0.mk ((show w5.heap[g2]? = some (.cells #[.int .i64 m1.p, .int .i64 m1.w, .int .i64 m1.g, .int .i64 m1.s, .slice A1 m1.L.length c1] 51 (0, 0)) from hbx)); clear HB Y HL1 X hbx hgr; have HB := n_HB; have Y := n_Y; have HL1 := n_HL1; have X := n_X; clear n_HB n_Y n_HL1 n_X)
        | ((with_reducible refine gate_dst (N := 21) rfl ?_); refine load_ev (N := 21) rfl rfl rfl (cs := #[.int .i64 m1.p, .int .i64 m1.w, .int .i64 m1.g, .int .i64 m1.s, .slice A1 m1.L.length c1]) rfl X.out Try.underlying51 rfl (by kernel_rfl) ?_))
      refine (his.out A1 c1 w5 HL1.out).mono ?_
      rintro e w6 ⟨rfl, hb⟩
      have n_X := Aside0.mk ((hb.block g2 (blk_lt X.out)).trans X.out)
      have n_Y := Aside0.mk ((hb.block g4 (blk_lt Y.out)).trans Y.out)
      have n_HB := Aside0.mk (below_step HB.out hb)
      have n_HL1 := Aside0.mk (HL1.out.later hb)
      clear X Y HB HL1 hb
      have X := n_X
      have Y := n_Y
      have HB := n_HB
      have HL1 := n_HL1
      clear n_X n_Y n_HB n_HL1
      have xw62 : w6.cell? ⟨g2, 2, none⟩ = some (.int .i64 m1.g) := (blk_cell X.out 2).trans rfl
      have zw62 : w6.frozen? ⟨g2, 2, none⟩ = false := blk_frozen X.out 2
      have xw64 : w6.cell? ⟨g2, 4, none⟩ = some (.slice A1 m1.L.length c1) := (blk_cell X.out 4).trans rfl
      have zw64 : w6.frozen? ⟨g2, 4, none⟩ = false := blk_frozen X.out 4
      go_wp2_with (first
        | ((with_reducible refine gate_dst (N := 25) rfl ?_); refine load_ev (N := 25) rfl rfl rfl (cs := #[.int .i64 m1.p, .int .i64 m1.w, .int .i64 m1.g, .int .i64 m1.s, .slice A1 m1.L.length c1]) rfl X.out Try.underlying51 rfl (by kernel_rfl) ?_)
        | ((with_reducible refine gate_store (t := 57) (p := 6) rfl ?_); refine store_ev rfl rfl rfl (cells := #[.int .i64 m1.p, .int .i64 m1.w, .int .i64 m1.g, .int .i64 m1.s, .slice A1 m1.L.length c1, .int .i64 0, .int .i64 36]) rfl rfl Y.out (by kernel_rfl) rfl (by kernel_rfl) ?_; intro wf hbx hgr; have n_B := Aside0.mk (below_put HB.out G4.out hgr HB.out.size); have n_HL1 := Aside0.mk (HL1.out.put hgr (not_me Y.out (by decide))); have n_Y := Aside0.mk hbx; clear HB Y HL1 hbx hgr; have HB := n_B; have Y := n_Y; have HL1 := n_HL1; clear n_B n_Y n_HL1))
      refine bodyPost_ret (results_cell_row rfl _ _ g4 57 #[.int .i64 m1.p, .int .i64 m1.w, .int .i64 m1.g, .int .i64 m1.s, .slice A1 m1.L.length c1, .int .i64 0, .int .i64 36] (0, 0) _ rfl Y.out Try.underlying57 rfl (by kernel_rfl)) rfl ?_
      exact ⟨A1, c1, rfl, HL1.out, HB.out⟩
    | true =>
      rw [if_pos hbi]
      have hw1 : wrap64 (m1.g + 1) = m1.g + 1 := w64 _ (by omega) (by omega)
      have hw2 : IntKind.i64.wrap (m1.g + 1) = m1.g + 1 := IntWalk.i64_in _ (by omega)
      go_enter Try.func82, Try.ntmps82
      go_wp2_with (first
        | ((with_reducible refine gate_dst (N := 3) rfl ?_); refine box_event rfl (N := 3) rfl (cs := #[.int .i64 m.p, .int .i64 m.w, .int .i64 m.g, .int .i64 m.s, .slice A m.L.length c]) (t := 51) ?hr ?_; (case hr => first | (go_simp; done) | (go_simp; rfl)); intro g2 hg2 w1 hbx hbl; have HB := Aside0.mk hbl; have G2 := Aside0.mk (show w.heap.size ≤ g2 by rw [hg2]; exact Nat.le_refl _); have X := Aside0.mk hbx; clear hbl hbx hg2)
        | ((with_reducible refine gate_dst (N := 6) rfl ?_); refine box_event rfl (N := 6) rfl (cs := #[.int .i64 0, .int .i64 0, .int .i64 0, .int .i64 0, .slice none 0 0, .int .i64 0, .int .i64 0]) (t := 57) ?hr ?_; (case hr => first | (go_simp; done) | (go_simp; rfl)); intro g4 hg4 w2 hbx hbl; have D34 := Aside0.mk (show g2 ≠ g4 by rw [hg4]; exact Nat.ne_of_lt (Array.getElem?_eq_some_iff.1 X.out).1); have G4 := Aside0.mk (show w.heap.size ≤ g4 by rw [hg4]; exact HB.out.size); have n_X := Aside0.mk ((hbl.block g2 (Array.getElem?_eq_some_iff.1 X.out).1).trans X.out); have n_B := Aside0.mk (below_step HB.out hbl); have Y := Aside0.mk hbx; clear HB X hbl hbx hg4; have HB := n_B; have X := n_X; clear n_B n_X)
        | ((with_reducible refine gate_dst (N := 10) rfl ?_); refine load_ev (N := 10) rfl rfl rfl (cs := #[.int .i64 m.p, .int .i64 m.w, .int .i64 m.g, .int .i64 m.s, .slice A m.L.length c]) rfl X.out Try.underlying51 rfl (by kernel_rfl) ?_))
      refine (hmay.out w2 (HL.out.later HB.out)).mono ?_
      rintro e w3 ⟨rfl, hb⟩
      have n_X := Aside0.mk ((hb.block g2 (blk_lt X.out)).trans X.out)
      have n_Y := Aside0.mk ((hb.block g4 (blk_lt Y.out)).trans Y.out)
      have n_HB := Aside0.mk (below_step HB.out hb)
      clear X Y HB hb
      have X := n_X
      have Y := n_Y
      have HB := n_HB
      clear n_X n_Y n_HB
      go_wp2_with (first
        | ((with_reducible refine gate_dst (N := 17) rfl ?_); refine load_ev (N := 17) rfl rfl rfl (cs := #[.int .i64 m.p, .int .i64 m.w, .int .i64 m.g, .int .i64 m.s, .slice A m.L.length c]) rfl X.out Try.underlying51 rfl (by kernel_rfl) ?_))
      refine (hsw.out w3 (HL.out.later HB.out)).mono ?_
      rintro e w4 ⟨A1, c1, rfl, hL1, hb⟩
      have HL1 := Aside0.mk hL1
      clear hL1
      have n_X := Aside0.mk ((hb.block g2 (blk_lt X.out)).trans X.out)
      have n_Y := Aside0.mk ((hb.block g4 (blk_lt Y.out)).trans Y.out)
      have n_HB := Aside0.mk (below_step HB.out hb)
      clear X Y HB hb
      have X := n_X
      have Y := n_Y
      have HB := n_HB
      clear n_X n_Y n_HB
      go_wp2_with (first
        | ((with_reducible refine gate_store (t := 51) (p := 3) rfl ?_); refine store_ev rfl rfl rfl (cells := #[.int .i64 m1.p, .int .i64 m1.w, .int .i64 m1.g, .int .i64 m1.s, .slice A1 m1.L.length c1]) rfl rfl X.out (by kernel_rfl) rfl (by kernel_rfl) ?_; intro w5 hbx hgr; have n_HB := Aside0.mk (below_put HB.out G2.out hgr HB.out.size); have n_Y := Aside0.mk (grown_at hgr Y.out (Ne.symm D34.out)); have n_HL1 := Aside0.mk (HL1.out.put hgr (not_me X.out (by decide))); have n_X := Aside0.mk ((show w5.heap[g2]? = some (.cells #[.int .i64 m1.p, .int .i64 m1.w, .int .i64 m1.g, .int .i64 m1.s, .slice A1 m1.L.length c1] 51 (0, 0)) from hbx)); clear HB Y HL1 X hbx hgr; have HB := n_HB; have Y := n_Y; have HL1 := n_HL1; have X := n_X; clear n_HB n_Y n_HL1 n_X)
        | ((with_reducible refine gate_dst (N := 21) rfl ?_); refine load_ev (N := 21) rfl rfl rfl (cs := #[.int .i64 m1.p, .int .i64 m1.w, .int .i64 m1.g, .int .i64 m1.s, .slice A1 m1.L.length c1]) rfl X.out Try.underlying51 rfl (by kernel_rfl) ?_))
      refine (his.out A1 c1 w5 HL1.out).mono ?_
      rintro e w6 ⟨rfl, hb⟩
      have n_X := Aside0.mk ((hb.block g2 (blk_lt X.out)).trans X.out)
      have n_Y := Aside0.mk ((hb.block g4 (blk_lt Y.out)).trans Y.out)
      have n_HB := Aside0.mk (below_step HB.out hb)
      have n_HL1 := Aside0.mk (HL1.out.later hb)
      clear X Y HB HL1 hb
      have X := n_X
      have Y := n_Y
      have HB := n_HB
      have HL1 := n_HL1
      clear n_X n_Y n_HB n_HL1
      have xw62 : w6.cell? ⟨g2, 2, none⟩ = some (.int .i64 m1.g) := (blk_cell X.out 2).trans rfl
      have zw62 : w6.frozen? ⟨g2, 2, none⟩ = false := blk_frozen X.out 2
      have xw64 : w6.cell? ⟨g2, 4, none⟩ = some (.slice A1 m1.L.length c1) := (blk_cell X.out 4).trans rfl
      have zw64 : w6.frozen? ⟨g2, 4, none⟩ = false := blk_frozen X.out 4
      go_wp2_with fail
      have HL2 := HL1
      have g2lt := Aside0.mk (Array.getElem?_eq_some_iff.1 X.out).1
      go_loopw [7, 30] (fun ov iv wr => ∃ (i : Nat) (acc : List Me), iv = .int .i64 i ∧ i ≤ m1.L.length ∧ Aside0 (acc = delM (m1.L.take i) x.toList) ∧ Aside0 (acc.length ≤ i) ∧ Aside0 (Kd.R k150 150 wr w6.heap.size (fun _ => True) ov acc) ∧ Aside0 (Below w6.heap.size w6 wr)) (fun _ iv _ => m1.L.length - (intOf iv).toNat)
      case atStart => exact ⟨0, [], rfl, Nat.zero_le _, ⟨by rw [List.take_zero]; rfl⟩, ⟨Nat.zero_le _⟩, ⟨Kd.R_nil _ _ _ _ _⟩, ⟨Below.refl _ _⟩⟩
      case round =>
        obtain ⟨i, acc, rfl, hil, HACC, HN, R, H4⟩ := hrel
        by_cases hlt : i < m1.L.length
        · obtain ⟨ad, hAd, hcs⟩ := at_me (Kd.C_below HL2.out.r H4.out) i hlt hlt
          have hcs' := Aside0.mk hcs
          have HST := Aside0.mk (del_step x.toList m1.L i hlt)
          have HYA := Aside0.mk (HOK.out.a _ (List.getElem_mem hlt))
          subst hAd
          clear hcs
          obtain ⟨pr, hpr⟩ : ∃ pr, m1.L[i] = pr := ⟨_, rfl⟩
          simp only [hpr] at hcs' HST HYA
          clear hpr
          obtain ⟨y0, y1⟩ := pr
          simp only [Me.cs] at hcs'
          have hya := HYA.out.2
          have hya0 : 0 ≤ y1 ∧ y1 ≤ 1099511627776 := hya
          clear hya
          have hn8 := HOK.out.n
          have H4z := Aside0.mk H4.out.size
          have j1 : decide ((i : Int) < (m1.L.length : Int)) = true := decide_eq_true (by omega)
          have j2 : (0 ≤ (i : Int)) = True := eq_true (by omega)
          have j3 : ((i : Int) < (m1.L.length : Int)) = True := eq_true (by omega)
          by_cases hP : y0.toList = x.toList
          · have HS2 := Aside0.mk (HST.out.trans (if_pos hP))
            have e1 : (y0.toList != x.toList) = false := by rw [hP]; simp
            have e2 : (y0.toList == x.toList) = true := by rw [hP]; simp
            have e3 : decide (y0.toList = x.toList) = true := decide_eq_true hP
            clear hP
            go_wp2_with (first
              | ((with_reducible refine gate_dst (N := 33) rfl ?_); refine load_evm' (N := 33) rfl rfl rfl (cs := #[.string y0, .int .i64 y1]) rfl hcs'.out Try.underlying150 rfl (by kernel_rfl) ?_)
              | ((with_reducible refine gate_dst (N := 9) rfl ?_); refine box_event rfl (N := 9) rfl (cs := #[.string ⟨#[]⟩, .int .i64 0]) (t := 150) ?hr ?_; (case hr => first | (go_simp; done) | (go_simp; rfl)); intro g7 hg7 wa hbx hbl; have n_H := Aside0.mk (below_step H4.out hbl); have HX := Aside0.mk hbl; have NE := Aside0.mk (me_ne R.out (show wr.heap.size ≤ g7 by rw [hg7]; exact Nat.le_refl _)); have G7 := Aside0.mk (show wr.heap.size ≤ g7 by rw [hg7]; exact Nat.le_refl _); have Q := Aside0.mk hbx; clear H4 hbx hbl hg7; have H4 := n_H; clear n_H)
              | ((with_reducible refine gate_store (t := 150) (p := 9) rfl ?_); refine store_ev rfl rfl rfl (cells := #[.string y0, .int .i64 y1]) rfl rfl Q.out (by kernel_rfl) rfl (by kernel_rfl) ?_; intro wb hbx hgr; have n_R := Aside0.mk (me_new R.out HX.out hgr G7.out); have n_H := Aside0.mk (below_put H4.out (Nat.le_trans H4z.out G7.out) hgr H4.out.size); have n_Q := Aside0.mk hbx; clear H4 Q hbx hgr R HX; have H4 := n_H; have Q := n_Q; have R := n_R; clear n_H n_Q n_R; have c0 : wb.cell? ⟨g7, 0, none⟩ = some (.string y0) := (blk_cell Q.out 0).trans rfl; have c1 : wb.cell? ⟨g7, 1, none⟩ = some (.int .i64 y1) := (blk_cell Q.out 1).trans rfl))
            try clear c0
            try clear c1
            try clear z1
            go_roundw
            case rel => exact ⟨i + 1, acc, by go_num, by omega, ⟨by rw [HACC.out]; exact HS2.out.symm⟩, ⟨by have := HN.out; omega⟩, R, H4⟩
            case measure => simp [intOf]; omega
          · have HS2 := Aside0.mk (HST.out.trans (if_neg hP))
            have e1 : (y0.toList != x.toList) = true := by simpa using hP
            have e2 : (y0.toList == x.toList) = false := by simpa using hP
            have e3 : decide (y0.toList = x.toList) = false := decide_eq_false hP
            clear hP
            go_wp2_with (first
              | ((with_reducible refine gate_dst (N := 33) rfl ?_); refine load_evm' (N := 33) rfl rfl rfl (cs := #[.string y0, .int .i64 y1]) rfl hcs'.out Try.underlying150 rfl (by kernel_rfl) ?_)
              | ((with_reducible refine gate_dst (N := 9) rfl ?_); refine box_event rfl (N := 9) rfl (cs := #[.string ⟨#[]⟩, .int .i64 0]) (t := 150) ?hr ?_; (case hr => first | (go_simp; done) | (go_simp; rfl)); intro g7 hg7 wa hbx hbl; have n_H := Aside0.mk (below_step H4.out hbl); have HX := Aside0.mk hbl; have NE := Aside0.mk (me_ne R.out (show wr.heap.size ≤ g7 by rw [hg7]; exact Nat.le_refl _)); have G7 := Aside0.mk (show wr.heap.size ≤ g7 by rw [hg7]; exact Nat.le_refl _); have Q := Aside0.mk hbx; clear H4 hbx hbl hg7; have H4 := n_H; clear n_H)
              | ((with_reducible refine gate_store (t := 150) (p := 9) rfl ?_); refine store_ev rfl rfl rfl (cells := #[.string y0, .int .i64 y1]) rfl rfl Q.out (by kernel_rfl) rfl (by kernel_rfl) ?_; intro wb hbx hgr; have n_R := Aside0.mk (me_new R.out HX.out hgr G7.out); have n_H := Aside0.mk (below_put H4.out (Nat.le_trans H4z.out G7.out) hgr H4.out.size); have n_Q := Aside0.mk hbx; clear H4 Q hbx hgr R HX; have H4 := n_H; have Q := n_Q; have R := n_R; clear n_H n_Q n_R; have c0 : wb.cell? ⟨g7, 0, none⟩ = some (.string y0) := (blk_cell Q.out 0).trans rfl; have c1 : wb.cell? ⟨g7, 1, none⟩ = some (.int .i64 y1) := (blk_cell Q.out 1).trans rfl)
              | ((with_reducible refine gate_dst (N := 39) rfl ?_); refine load_ev (N := 39) rfl rfl rfl (cs := #[.string y0, .int .i64 y1]) rfl Q.out Try.underlying150 rfl (by kernel_rfl) ?_)
              | ((with_reducible refine gate_builtin (b := .append) (xs := #[.tmp 38, .tmp 40]) rfl ?_); at_builtin; refine Kd.R_append k150 (w0 := w6) w6.heap.size rfl (.tmp 38) (.tmp 40) 49 150 (.agg #[.string ⟨#[]⟩, .int .i64 0]) 24 rfl Try.underlying49 info150 rfl (by decide) (by decide) _ acc (⟨y0, y1⟩ : Me) [.string y0, .int .i64 y1] (fun _ => True) (fun _ => False) rfl ?aX (k150_mkM _ _ _ ⟨y0, y1⟩) (fun _ hk => hk.elim) (fun _ _ => trivial) R.out H4.out H4.out.size ?aL ?_; (case aX => first | rfl | (go_simp; done) | (go_simp; rfl)); (case aL => (try simp only [List.length_append, List.length_cons, List.length_nil]); have := HN.out; omega); intro u9 wc ho hb hgr hat; clear R H4 hgr hat; have R := Aside0.mk ho; have H4 := Aside0.mk hb; clear ho hb))
            try clear c0
            try clear c1
            try clear z1
            go_roundw
            case rel => exact ⟨i + 1, acc ++ [⟨y0, y1⟩], by go_num, by omega, ⟨by rw [HACC.out]; exact HS2.out.symm⟩, ⟨by have := HN.out; simp; omega⟩, R, H4⟩
            case measure => simp [intOf]; omega
        · obtain rfl : i = m1.L.length := by omega
          have j1 : decide ((m1.L.length : Int) < (m1.L.length : Int)) = false := decide_eq_false (by omega)
          have hacc : acc = delM m1.L x.toList := by have := HACC.out; rwa [List.take_length] at this
          obtain ⟨A2, c2, hv, hc2, _⟩ := Kd.R_reads R.out
          subst hv
          have HL2 := Aside0.mk (show Ls wr A2 c2 acc from ⟨Kd.R_lower R.out (Nat.zero_le _)⟩)
          have n_X := Aside0.mk ((H4.out.block g2 (blk_lt X.out)).trans X.out)
          have n_Y := Aside0.mk ((H4.out.block g4 (blk_lt Y.out)).trans Y.out)
          have n_HB := Aside0.mk (below_step HB.out H4.out)
          clear X Y HB H4 HN R
          have X := n_X
          have Y := n_Y
          have HB := n_HB
          clear n_X n_Y n_HB
          have HACC2 := Aside0.mk hacc
          clear hacc HACC
          have xwr2 : wr.cell? ⟨g2, 2, none⟩ = some (.int .i64 m1.g) := (blk_cell X.out 2).trans rfl
          have zwr2 : wr.frozen? ⟨g2, 2, none⟩ = false := blk_frozen X.out 2
          have xwr4 : wr.cell? ⟨g2, 4, none⟩ = some (.slice A1 m1.L.length c1) := (blk_cell X.out 4).trans rfl
          have zwr4 : wr.frozen? ⟨g2, 4, none⟩ = false := blk_frozen X.out 4
          go_wp2_with (first
            | ((with_reducible refine gate_store (t := 49) (p := 44) rfl ?_); refine fstore_ev rfl rfl rfl (g := g2) (j := 4) (u := .slice A2 acc.length c2) X.out ?hr ?_; (case hr => first | (go_simp; done) | (go_simp; rfl)); intro wg hbx hgr; have n_HB := Aside0.mk (below_put HB.out G2.out hgr HB.out.size); have n_Y := Aside0.mk (grown_at hgr Y.out (Ne.symm D34.out)); have n_HL2 := Aside0.mk (HL2.out.put hgr (not_me X.out (by decide))); have n_X := Aside0.mk ((show wg.heap[g2]? = some (.cells #[.int .i64 m1.p, .int .i64 m1.w, .int .i64 m1.g, .int .i64 m1.s, .slice A2 acc.length c2] 51 (0, 0)) from hbx)); clear HB Y HL2 X hbx hgr; have HB := n_HB; have Y := n_Y; have HL2 := n_HL2; have X := n_X; clear n_HB n_Y n_HL2 n_X; have xwg2 : wg.cell? ⟨g2, 2, none⟩ = some (.int .i64 m1.g) := (blk_cell X.out 2).trans rfl; have zwg2 : wg.frozen? ⟨g2, 2, none⟩ = false := blk_frozen X.out 2)
            | ((with_reducible refine gate_store (t := 3) (p := 48) rfl ?_); refine fstore_ev rfl rfl rfl (g := g2) (j := 2) (u := .int .i64 (m1.g + 1)) X.out ?hr ?_; (case hr => first | (go_simp; done) | (go_simp; rfl)); intro wh hbx hgr; have n_HB := Aside0.mk (below_put HB.out G2.out hgr HB.out.size); have n_Y := Aside0.mk (grown_at hgr Y.out (Ne.symm D34.out)); have n_HL2 := Aside0.mk (HL2.out.put hgr (not_me X.out (by decide))); have n_X := Aside0.mk ((show wh.heap[g2]? = some (.cells #[.int .i64 m1.p, .int .i64 m1.w, .int .i64 (m1.g + 1), .int .i64 m1.s, .slice A2 acc.length c2] 51 (0, 0)) from hbx)); clear HB Y HL2 X hbx hgr; have HB := n_HB; have Y := n_Y; have HL2 := n_HL2; have X := n_X; clear n_HB n_Y n_HL2 n_X)
            | ((with_reducible refine gate_dst (N := 49) rfl ?_); refine load_ev (N := 49) rfl rfl rfl (cs := #[.int .i64 m1.p, .int .i64 m1.w, .int .i64 (m1.g + 1), .int .i64 m1.s, .slice A2 acc.length c2]) rfl X.out Try.underlying51 rfl (by kernel_rfl) ?_)
            | ((with_reducible refine gate_store (t := 57) (p := 6) rfl ?_); refine store_ev rfl rfl rfl (cells := #[.int .i64 m1.p, .int .i64 m1.w, .int .i64 (m1.g + 1), .int .i64 m1.s, .slice A2 acc.length c2, .int .i64 0, .int .i64 0]) rfl rfl Y.out (by kernel_rfl) rfl (by kernel_rfl) ?_; intro wf hbx hgr; have n_B := Aside0.mk (below_put HB.out G4.out hgr HB.out.size); have n_HL2 := Aside0.mk (HL2.out.put hgr (not_me Y.out (by decide))); have n_Y := Aside0.mk hbx; clear HB Y HL2 hbx hgr; have HB := n_B; have Y := n_Y; have HL2 := n_HL2; clear n_B n_Y n_HL2))
          refine bodyPost_ret (results_cell_row rfl _ _ g4 57 #[.int .i64 m1.p, .int .i64 m1.w, .int .i64 (m1.g + 1), .int .i64 m1.s, .slice A2 acc.length c2, .int .i64 0, .int .i64 0] (0, 0) _ rfl Y.out Try.underlying57 rfl (by kernel_rfl)) rfl ?_
          exact ⟨A2, c2, by rw [← HACC2.out], by rw [← HACC2.out]; exact HL2.out, HB.out⟩
end Go.Proofs.Ytohhlkabejangaa.Mb

namespace Go.Proofs.Ytohhlkabejangaa.Mb
set_option linter.unusedVariables false
set_option linter.unusedSimpArgs false
open Go.RowKit Go.Maps Go.Sort Go.Proofs.YtohhlkabejangaaW.PrintWords Go.Proofs.YtohhlkabejangaaW.PrintLast Go.Proofs.YtohhlkabejangaaW.PrintMore Go.Proofs.Ytohhlkabejangaa.PAs Go.Proofs.Ytohhlkabejangaa.As Go.Proofs.Ytohhlkabejangaa.Wire
set_option maxHeartbeats 16000000 in
set_option maxRecDepth 100000 in
theorem want_calls (m : MG) (hok : okM m) (hris : RisM m.L) (hg : m.g ≤ 1000000) (A : Option Addr) (c : Nat) (x0 : Int) (x1 : ByteArray) (x2 x3 : Int) (hx : x1.size ≤ 1000) (w : World) (h : Ls w A c m.L) :
    Calls Try.prog 31 #[.agg #[.int .i64 m.p, .int .i64 m.w, .int .i64 m.g, .int .i64 m.s, .slice A m.L.length c], .agg #[.int .i64 x0, .string x1, .int .i64 x2, .int .i64 x3]] w fun e w' => ∃ A' c', e = .returned (.agg #[.int .i64 (doneM m ⟨x0, x1, x2, x3⟩).1.p, .int .i64 (doneM m ⟨x0, x1, x2, x3⟩).1.w, .int .i64 (doneM m ⟨x0, x1, x2, x3⟩).1.g, .int .i64 (doneM m ⟨x0, x1, x2, x3⟩).1.s, .slice A' (doneM m ⟨x0, x1, x2, x3⟩).1.L.length c', .int .i64 (doneM m ⟨x0, x1, x2, x3⟩).2.1, .int .i64 (doneM m ⟨x0, x1, x2, x3⟩).2.2]) ∧ Ls w' A' c' (doneM m ⟨x0, x1, x2, x3⟩).1.L ∧ Below w.heap.size w w' := by
  have hund : ∀ b, some undef = some (Value.bool b) → False := fun b h => by simp [undef] at h
  have HL := Aside0.mk h
  have HOK := Aside0.mk hok
  have HRI := Aside0.mk hris
  clear h hok hris
  unfold doneM
  by_cases h0 : x0 = 0
  · rw [if_pos h0]
    have d0 : (x0 == 0) = true := by rw [h0]; rfl
    clear h0
    go_enter Try.func31, Try.ntmps31
    go_wp2_with (first
      | ((with_reducible refine gate_dst (N := 2) rfl ?_); refine box_event rfl (N := 2) rfl (cs := #[.int .i64 m.p, .int .i64 m.w, .int .i64 m.g, .int .i64 m.s, .slice A m.L.length c]) (t := 51) ?hr ?_; (case hr => first | (go_simp; done) | (go_simp; rfl)); intro g2 hg2 w1 hbx hbl; have HB := Aside0.mk hbl; have G2 := Aside0.mk (show w.heap.size ≤ g2 by rw [hg2]; exact Nat.le_refl _); have X := Aside0.mk hbx; clear hbl hbx hg2)
      | ((with_reducible refine gate_dst (N := 3) rfl ?_); refine box_event rfl (N := 3) rfl (cs := #[.int .i64 x0, .string x1, .int .i64 x2, .int .i64 x3]) (t := 53) ?hr ?_; (case hr => first | (go_simp; done) | (go_simp; rfl)); intro g3 hg3 wx hbx hbl; have n_X := Aside0.mk ((hbl.block g2 (blk_lt X.out)).trans X.out); have n_B := Aside0.mk (below_step HB.out hbl); have Z := Aside0.mk hbx; clear HB X hbl hbx hg3; have HB := n_B; have X := n_X; clear n_B n_X)
      | ((with_reducible refine gate_dst (N := 4) rfl ?_); refine box_event rfl (N := 4) rfl (cs := #[.int .i64 0, .int .i64 0, .int .i64 0, .int .i64 0, .slice none 0 0, .int .i64 0, .int .i64 0]) (t := 57) ?hr ?_; (case hr => first | (go_simp; done) | (go_simp; rfl)); intro g4 hg4 w2 hbx hbl; have D34 := Aside0.mk (show g2 ≠ g4 by rw [hg4]; exact Nat.ne_of_lt (blk_lt X.out)); have G4 := Aside0.mk (show w.heap.size ≤ g4 by rw [hg4]; exact HB.out.size); have n_X := Aside0.mk ((hbl.block g2 (blk_lt X.out)).trans X.out); have n_Z := Aside0.mk ((hbl.block g3 (blk_lt Z.out)).trans Z.out); have n_B := Aside0.mk (below_step HB.out hbl); have Y := Aside0.mk hbx; clear HB X Z hbl hbx hg4; have HB := n_B; have X := n_X; have Z := n_Z; clear n_B n_X n_Z; have y0 : w2.cell? ⟨g3, 0, none⟩ = some (.int .i64 x0) := (blk_cell Z.out 0).trans rfl; have y1 : w2.cell? ⟨g3, 1, none⟩ = some (.string x1) := (blk_cell Z.out 1).trans rfl; have y2 : w2.cell? ⟨g3, 2, none⟩ = some (.int .i64 x2) := (blk_cell Z.out 2).trans rfl; have y3 : w2.cell? ⟨g3, 3, none⟩ = some (.int .i64 x3) := (blk_cell Z.out 3).trans rfl)
      | ((with_reducible refine gate_dst (N := 9) rfl ?_); refine load_ev (N := 9) rfl rfl rfl (cs := #[.int .i64 m.p, .int .i64 m.w, .int .i64 m.g, .int .i64 m.s, .slice A m.L.length c]) rfl X.out Try.underlying51 rfl (by kernel_rfl) ?_))
    refine (rjoin_calls m HOK.out HRI.out hg A c x1 hx x3 w2 (HL.out.later HB.out)).mono ?_
    rintro e w5 ⟨A1, c1, rfl, hL1, hb⟩
    have HL1 := Aside0.mk hL1
    clear hL1 y0 y1 y2 y3
    have n_X := Aside0.mk ((hb.block g2 (blk_lt X.out)).trans X.out)
    have n_Y := Aside0.mk ((hb.block g4 (blk_lt Y.out)).trans Y.out)
    have n_HB := Aside0.mk (below_step HB.out hb)
    clear X Y HB hb
    have X := n_X
    have Y := n_Y
    have HB := n_HB
    clear n_X n_Y n_HB
    go_wp2_with (first
      | ((with_reducible refine gate_store (t := 57) (p := 4) rfl ?_); refine store_ev rfl rfl rfl (cells := #[.int .i64 (joinM m x1 x3).1.p, .int .i64 (joinM m x1 x3).1.w, .int .i64 (joinM m x1 x3).1.g, .int .i64 (joinM m x1 x3).1.s, .slice A1 (joinM m x1 x3).1.L.length c1, .int .i64 (joinM m x1 x3).2.1, .int .i64 (joinM m x1 x3).2.2]) rfl rfl Y.out (by kernel_rfl) rfl (by kernel_rfl) ?_; intro wf hbx hgr; have n_B := Aside0.mk (below_put HB.out G4.out hgr HB.out.size); have n_HL1 := Aside0.mk (HL1.out.put hgr (not_me Y.out (by decide))); have n_Y := Aside0.mk hbx; clear HB Y HL1 hbx hgr; have HB := n_B; have Y := n_Y; have HL1 := n_HL1; clear n_B n_Y n_HL1))
    refine bodyPost_ret (results_cell_row rfl _ _ g4 57 #[.int .i64 (joinM m x1 x3).1.p, .int .i64 (joinM m x1 x3).1.w, .int .i64 (joinM m x1 x3).1.g, .int .i64 (joinM m x1 x3).1.s, .slice A1 (joinM m x1 x3).1.L.length c1, .int .i64 (joinM m x1 x3).2.1, .int .i64 (joinM m x1 x3).2.2] (0, 0) _ rfl Y.out Try.underlying57 rfl (by kernel_rfl)) rfl ?_
    exact ⟨A1, c1, rfl, HL1.out, HB.out⟩
  · rw [if_neg h0]
    have d0 : (x0 == 0) = false := beq_eq_false_iff_ne.2 h0
    by_cases h1 : x0 = 1
    · rw [if_pos h1]
      have d1 : (x0 == 1) = true := by rw [h1]; rfl
      clear h0 h1
      go_enter Try.func31, Try.ntmps31
      go_wp2_with (first
        | ((with_reducible refine gate_dst (N := 2) rfl ?_); refine box_event rfl (N := 2) rfl (cs := #[.int .i64 m.p, .int .i64 m.w, .int .i64 m.g, .int .i64 m.s, .slice A m.L.length c]) (t := 51) ?hr ?_; (case hr => first | (go_simp; done) | (go_simp; rfl)); intro g2 hg2 w1 hbx hbl; have HB := Aside0.mk hbl; have G2 := Aside0.mk (show w.heap.size ≤ g2 by rw [hg2]; exact Nat.le_refl _); have X := Aside0.mk hbx; clear hbl hbx hg2)
        | ((with_reducible refine gate_dst (N := 3) rfl ?_); refine box_event rfl (N := 3) rfl (cs := #[.int .i64 x0, .string x1, .int .i64 x2, .int .i64 x3]) (t := 53) ?hr ?_; (case hr => first | (go_simp; done) | (go_simp; rfl)); intro g3 hg3 wx hbx hbl; have n_X := Aside0.mk ((hbl.block g2 (blk_lt X.out)).trans X.out); have n_B := Aside0.mk (below_step HB.out hbl); have Z := Aside0.mk hbx; clear HB X hbl hbx hg3; have HB := n_B; have X := n_X; clear n_B n_X)
        | ((with_reducible refine gate_dst (N := 4) rfl ?_); refine box_event rfl (N := 4) rfl (cs := #[.int .i64 0, .int .i64 0, .int .i64 0, .int .i64 0, .slice none 0 0, .int .i64 0, .int .i64 0]) (t := 57) ?hr ?_; (case hr => first | (go_simp; done) | (go_simp; rfl)); intro g4 hg4 w2 hbx hbl; have D34 := Aside0.mk (show g2 ≠ g4 by rw [hg4]; exact Nat.ne_of_lt (blk_lt X.out)); have G4 := Aside0.mk (show w.heap.size ≤ g4 by rw [hg4]; exact HB.out.size); have n_X := Aside0.mk ((hbl.block g2 (blk_lt X.out)).trans X.out); have n_Z := Aside0.mk ((hbl.block g3 (blk_lt Z.out)).trans Z.out); have n_B := Aside0.mk (below_step HB.out hbl); have Y := Aside0.mk hbx; clear HB X Z hbl hbx hg4; have HB := n_B; have X := n_X; have Z := n_Z; clear n_B n_X n_Z; have y0 : w2.cell? ⟨g3, 0, none⟩ = some (.int .i64 x0) := (blk_cell Z.out 0).trans rfl; have y1 : w2.cell? ⟨g3, 1, none⟩ = some (.string x1) := (blk_cell Z.out 1).trans rfl; have y2 : w2.cell? ⟨g3, 2, none⟩ = some (.int .i64 x2) := (blk_cell Z.out 2).trans rfl; have y3 : w2.cell? ⟨g3, 3, none⟩ = some (.int .i64 x3) := (blk_cell Z.out 3).trans rfl)
        | ((with_reducible refine gate_dst (N := 17) rfl ?_); refine load_ev (N := 17) rfl rfl rfl (cs := #[.int .i64 m.p, .int .i64 m.w, .int .i64 m.g, .int .i64 m.s, .slice A m.L.length c]) rfl X.out Try.underlying51 rfl (by kernel_rfl) ?_))
      refine (rleave_calls m HOK.out HRI.out hg A c x1 hx x3 w2 (HL.out.later HB.out)).mono ?_
      rintro e w5 ⟨A1, c1, rfl, hL1, hb⟩
      have HL1 := Aside0.mk hL1
      clear hL1 y0 y1 y2 y3
      have n_X := Aside0.mk ((hb.block g2 (blk_lt X.out)).trans X.out)
      have n_Y := Aside0.mk ((hb.block g4 (blk_lt Y.out)).trans Y.out)
      have n_HB := Aside0.mk (below_step HB.out hb)
      clear X Y HB hb
      have X := n_X
      have Y := n_Y
      have HB := n_HB
      clear n_X n_Y n_HB
      go_wp2_with (first
        | ((with_reducible refine gate_store (t := 57) (p := 4) rfl ?_); refine store_ev rfl rfl rfl (cells := #[.int .i64 (leaveM m x1 x3).1.p, .int .i64 (leaveM m x1 x3).1.w, .int .i64 (leaveM m x1 x3).1.g, .int .i64 (leaveM m x1 x3).1.s, .slice A1 (leaveM m x1 x3).1.L.length c1, .int .i64 0, .int .i64 (leaveM m x1 x3).2]) rfl rfl Y.out (by kernel_rfl) rfl (by kernel_rfl) ?_; intro wf hbx hgr; have n_B := Aside0.mk (below_put HB.out G4.out hgr HB.out.size); have n_HL1 := Aside0.mk (HL1.out.put hgr (not_me Y.out (by decide))); have n_Y := Aside0.mk hbx; clear HB Y HL1 hbx hgr; have HB := n_B; have Y := n_Y; have HL1 := n_HL1; clear n_B n_Y n_HL1))
      refine bodyPost_ret (results_cell_row rfl _ _ g4 57 #[.int .i64 (leaveM m x1 x3).1.p, .int .i64 (leaveM m x1 x3).1.w, .int .i64 (leaveM m x1 x3).1.g, .int .i64 (leaveM m x1 x3).1.s, .slice A1 (leaveM m x1 x3).1.L.length c1, .int .i64 0, .int .i64 (leaveM m x1 x3).2] (0, 0) _ rfl Y.out Try.underlying57 rfl (by kernel_rfl)) rfl ?_
      exact ⟨A1, c1, rfl, HL1.out, HB.out⟩
    · rw [if_neg h1]
      have d1 : (x0 == 1) = false := beq_eq_false_iff_ne.2 h1
      by_cases h2 : x0 = 2
      · rw [if_pos h2]
        have d2 : (x0 == 2) = true := by rw [h2]; rfl
        clear h0 h1 h2
        go_enter Try.func31, Try.ntmps31
        go_wp2_with (first
          | ((with_reducible refine gate_dst (N := 2) rfl ?_); refine box_event rfl (N := 2) rfl (cs := #[.int .i64 m.p, .int .i64 m.w, .int .i64 m.g, .int .i64 m.s, .slice A m.L.length c]) (t := 51) ?hr ?_; (case hr => first | (go_simp; done) | (go_simp; rfl)); intro g2 hg2 w1 hbx hbl; have HB := Aside0.mk hbl; have G2 := Aside0.mk (show w.heap.size ≤ g2 by rw [hg2]; exact Nat.le_refl _); have X := Aside0.mk hbx; clear hbl hbx hg2)
          | ((with_reducible refine gate_dst (N := 3) rfl ?_); refine box_event rfl (N := 3) rfl (cs := #[.int .i64 x0, .string x1, .int .i64 x2, .int .i64 x3]) (t := 53) ?hr ?_; (case hr => first | (go_simp; done) | (go_simp; rfl)); intro g3 hg3 wx hbx hbl; have n_X := Aside0.mk ((hbl.block g2 (blk_lt X.out)).trans X.out); have n_B := Aside0.mk (below_step HB.out hbl); have Z := Aside0.mk hbx; clear HB X hbl hbx hg3; have HB := n_B; have X := n_X; clear n_B n_X)
          | ((with_reducible refine gate_dst (N := 4) rfl ?_); refine box_event rfl (N := 4) rfl (cs := #[.int .i64 0, .int .i64 0, .int .i64 0, .int .i64 0, .slice none 0 0, .int .i64 0, .int .i64 0]) (t := 57) ?hr ?_; (case hr => first | (go_simp; done) | (go_simp; rfl)); intro g4 hg4 w2 hbx hbl; have D34 := Aside0.mk (show g2 ≠ g4 by rw [hg4]; exact Nat.ne_of_lt (blk_lt X.out)); have G4 := Aside0.mk (show w.heap.size ≤ g4 by rw [hg4]; exact HB.out.size); have n_X := Aside0.mk ((hbl.block g2 (blk_lt X.out)).trans X.out); have n_Z := Aside0.mk ((hbl.block g3 (blk_lt Z.out)).trans Z.out); have n_B := Aside0.mk (below_step HB.out hbl); have Y := Aside0.mk hbx; clear HB X Z hbl hbx hg4; have HB := n_B; have X := n_X; have Z := n_Z; clear n_B n_X n_Z; have y0 : w2.cell? ⟨g3, 0, none⟩ = some (.int .i64 x0) := (blk_cell Z.out 0).trans rfl; have y1 : w2.cell? ⟨g3, 1, none⟩ = some (.string x1) := (blk_cell Z.out 1).trans rfl; have y2 : w2.cell? ⟨g3, 2, none⟩ = some (.int .i64 x2) := (blk_cell Z.out 2).trans rfl; have y3 : w2.cell? ⟨g3, 3, none⟩ = some (.int .i64 x3) := (blk_cell Z.out 3).trans rfl)
          | ((with_reducible refine gate_dst (N := 25) rfl ?_); refine load_ev (N := 25) rfl rfl rfl (cs := #[.int .i64 m.p, .int .i64 m.w, .int .i64 m.g, .int .i64 m.s, .slice A m.L.length c]) rfl X.out Try.underlying51 rfl (by kernel_rfl) ?_))
        refine (rbeat_calls m HOK.out HRI.out hg A c x1 hx x2 x3 w2 (HL.out.later HB.out)).mono ?_
        rintro e w5 ⟨A1, c1, rfl, hL1, hb⟩
        have HL1 := Aside0.mk hL1
        clear hL1 y0 y1 y2 y3
        have n_X := Aside0.mk ((hb.block g2 (blk_lt X.out)).trans X.out)
        have n_Y := Aside0.mk ((hb.block g4 (blk_lt Y.out)).trans Y.out)
        have n_HB := Aside0.mk (below_step HB.out hb)
        clear X Y HB hb
        have X := n_X
        have Y := n_Y
        have HB := n_HB
        clear n_X n_Y n_HB
        go_wp2_with (first
          | ((with_reducible refine gate_store (t := 57) (p := 4) rfl ?_); refine store_ev rfl rfl rfl (cells := #[.int .i64 (beatM m x1 x2 x3).1.p, .int .i64 (beatM m x1 x2 x3).1.w, .int .i64 (beatM m x1 x2 x3).1.g, .int .i64 (beatM m x1 x2 x3).1.s, .slice A1 (beatM m x1 x2 x3).1.L.length c1, .int .i64 0, .int .i64 (beatM m x1 x2 x3).2]) rfl rfl Y.out (by kernel_rfl) rfl (by kernel_rfl) ?_; intro wf hbx hgr; have n_B := Aside0.mk (below_put HB.out G4.out hgr HB.out.size); have n_HL1 := Aside0.mk (HL1.out.put hgr (not_me Y.out (by decide))); have n_Y := Aside0.mk hbx; clear HB Y HL1 hbx hgr; have HB := n_B; have Y := n_Y; have HL1 := n_HL1; clear n_B n_Y n_HL1))
        refine bodyPost_ret (results_cell_row rfl _ _ g4 57 #[.int .i64 (beatM m x1 x2 x3).1.p, .int .i64 (beatM m x1 x2 x3).1.w, .int .i64 (beatM m x1 x2 x3).1.g, .int .i64 (beatM m x1 x2 x3).1.s, .slice A1 (beatM m x1 x2 x3).1.L.length c1, .int .i64 0, .int .i64 (beatM m x1 x2 x3).2] (0, 0) _ rfl Y.out Try.underlying57 rfl (by kernel_rfl)) rfl ?_
        exact ⟨A1, c1, rfl, HL1.out, HB.out⟩
      · rw [if_neg h2]
        have d2 : (x0 == 2) = false := beq_eq_false_iff_ne.2 h2
        clear h0 h1 h2
        go_enter Try.func31, Try.ntmps31
        go_wp2_with (first
          | ((with_reducible refine gate_dst (N := 2) rfl ?_); refine box_event rfl (N := 2) rfl (cs := #[.int .i64 m.p, .int .i64 m.w, .int .i64 m.g, .int .i64 m.s, .slice A m.L.length c]) (t := 51) ?hr ?_; (case hr => first | (go_simp; done) | (go_simp; rfl)); intro g2 hg2 w1 hbx hbl; have HB := Aside0.mk hbl; have G2 := Aside0.mk (show w.heap.size ≤ g2 by rw [hg2]; exact Nat.le_refl _); have X := Aside0.mk hbx; clear hbl hbx hg2)
          | ((with_reducible refine gate_dst (N := 3) rfl ?_); refine box_event rfl (N := 3) rfl (cs := #[.int .i64 x0, .string x1, .int .i64 x2, .int .i64 x3]) (t := 53) ?hr ?_; (case hr => first | (go_simp; done) | (go_simp; rfl)); intro g3 hg3 wx hbx hbl; have n_X := Aside0.mk ((hbl.block g2 (blk_lt X.out)).trans X.out); have n_B := Aside0.mk (below_step HB.out hbl); have Z := Aside0.mk hbx; clear HB X hbl hbx hg3; have HB := n_B; have X := n_X; clear n_B n_X)
          | ((with_reducible refine gate_dst (N := 4) rfl ?_); refine box_event rfl (N := 4) rfl (cs := #[.int .i64 0, .int .i64 0, .int .i64 0, .int .i64 0, .slice none 0 0, .int .i64 0, .int .i64 0]) (t := 57) ?hr ?_; (case hr => first | (go_simp; done) | (go_simp; rfl)); intro g4 hg4 w2 hbx hbl; have D34 := Aside0.mk (show g2 ≠ g4 by rw [hg4]; exact Nat.ne_of_lt (blk_lt X.out)); have G4 := Aside0.mk (show w.heap.size ≤ g4 by rw [hg4]; exact HB.out.size); have n_X := Aside0.mk ((hbl.block g2 (blk_lt X.out)).trans X.out); have n_Z := Aside0.mk ((hbl.block g3 (blk_lt Z.out)).trans Z.out); have n_B := Aside0.mk (below_step HB.out hbl); have Y := Aside0.mk hbx; clear HB X Z hbl hbx hg4; have HB := n_B; have X := n_X; have Z := n_Z; clear n_B n_X n_Z; have y0 : w2.cell? ⟨g3, 0, none⟩ = some (.int .i64 x0) := (blk_cell Z.out 0).trans rfl; have y1 : w2.cell? ⟨g3, 1, none⟩ = some (.string x1) := (blk_cell Z.out 1).trans rfl; have y2 : w2.cell? ⟨g3, 2, none⟩ = some (.int .i64 x2) := (blk_cell Z.out 2).trans rfl; have y3 : w2.cell? ⟨g3, 3, none⟩ = some (.int .i64 x3) := (blk_cell Z.out 3).trans rfl)
          | ((with_reducible refine gate_dst (N := 33) rfl ?_); refine load_ev (N := 33) rfl rfl rfl (cs := #[.int .i64 m.p, .int .i64 m.w, .int .i64 m.g, .int .i64 m.s, .slice A m.L.length c]) rfl X.out Try.underlying51 rfl (by kernel_rfl) ?_))
        refine (rsweep_calls m HOK.out hg A c x3 w2 (HL.out.later HB.out)).mono ?_
        rintro e w5 ⟨A1, c1, rfl, hL1, hb⟩
        have HL1 := Aside0.mk hL1
        clear hL1 y0 y1 y2 y3
        have n_X := Aside0.mk ((hb.block g2 (blk_lt X.out)).trans X.out)
        have n_Y := Aside0.mk ((hb.block g4 (blk_lt Y.out)).trans Y.out)
        have n_HB := Aside0.mk (below_step HB.out hb)
        clear X Y HB hb
        have X := n_X
        have Y := n_Y
        have HB := n_HB
        clear n_X n_Y n_HB
        go_wp2_with (first
          | ((with_reducible refine gate_store (t := 57) (p := 4) rfl ?_); refine store_ev rfl rfl rfl (cells := #[.int .i64 (swpM m x3).1.p, .int .i64 (swpM m x3).1.w, .int .i64 (swpM m x3).1.g, .int .i64 (swpM m x3).1.s, .slice A1 (swpM m x3).1.L.length c1, .int .i64 (swpM m x3).2, .int .i64 0]) rfl rfl Y.out (by kernel_rfl) rfl (by kernel_rfl) ?_; intro wf hbx hgr; have n_B := Aside0.mk (below_put HB.out G4.out hgr HB.out.size); have n_HL1 := Aside0.mk (HL1.out.put hgr (not_me Y.out (by decide))); have n_Y := Aside0.mk hbx; clear HB Y HL1 hbx hgr; have HB := n_B; have Y := n_Y; have HL1 := n_HL1; clear n_B n_Y n_HL1))
        refine bodyPost_ret (results_cell_row rfl _ _ g4 57 #[.int .i64 (swpM m x3).1.p, .int .i64 (swpM m x3).1.w, .int .i64 (swpM m x3).1.g, .int .i64 (swpM m x3).1.s, .slice A1 (swpM m x3).1.L.length c1, .int .i64 (swpM m x3).2, .int .i64 0] (0, 0) _ rfl Y.out Try.underlying57 rfl (by kernel_rfl)) rfl ?_
        exact ⟨A1, c1, rfl, HL1.out, HB.out⟩
end Go.Proofs.Ytohhlkabejangaa.Mb

namespace Go.Proofs.Ytohhlkabejangaa.Mb
set_option linter.unusedVariables false
set_option linter.unusedSimpArgs false
open Go.RowKit Go.Maps Go.Sort Go.Proofs.YtohhlkabejangaaW.PrintWords Go.Proofs.YtohhlkabejangaaW.PrintLast Go.Proofs.YtohhlkabejangaaW.PrintMore Go.Proofs.Ytohhlkabejangaa.PAs Go.Proofs.Ytohhlkabejangaa.As Go.Proofs.Ytohhlkabejangaa.Wire
theorem load_run' {P : Program} {o : Oper} {a : Act} {W : World} {ty : TypeId} {p : Tmp} (ho : o.op = .load ty (.tmp p)) {g : Nat} (hx : a.eval (.tmp p) = .pointer (some ⟨g, 0, none⟩)) {t : TypeId} {cs : Array Value} {d : TypeDesc} (hg : W.heap[g]? = some (.cells cs t (0, 0)))
    (hu : P.underlying ty = some d) (hd : (match d with | .struct _ | .array _ _ => true | _ => false) = true) (hi : (P.info? ty).map (·.size) = some cs.size) : (execOp a.eval o).run P W = .ok (.value (.agg cs)) W := by
  unfold execOp
  simp only [ho, hx, Instr.loadAt, Instr.sureAddr, Sem.run_bind, Sem.run_pure, Result.andThen_ok, run_loadVar_row W g t ty cs (0, 0) d hg hu hd hi]
theorem load_evg {P : Program} {ops : Array Oper} {rest : List Oper} {o : Oper} {a : Act} {Q : Exit → Act → World → Prop} {W : World} {N : Tmp} (hN : o.dst = some N) {ty : TypeId} {p : Tmp} (ho : o.op = .load ty (.tmp p)) {g : Nat} (hx : a.eval (.tmp p) = .pointer (some ⟨g, 0, none⟩)) {t : TypeId} {cs : Array Value} {d : TypeDesc} (hg : W.heap[g]? = some (.cells cs t (0, 0)))
    (hu : P.underlying ty = some d) (hd : (match d with | .struct _ | .array _ _ => true | _ => false) = true) (hi : (P.info? ty).map (·.size) = some cs.size) (hw : Region.wanted o (yielded ops a.tmps) = true)
    (h : wpList P ops Q rest (a.put o.dst (.agg cs)) W) : wpList P ops Q (o :: rest) a W := by
  unfold wpList
  rw [if_pos hw]
  left
  unfold Oper.wp
  rw [load_run' ho hx hg hu hd hi]
  exact h
theorem run_loadVar_pre {P : Program} (w : World) (g : Nat) (t ty : TypeId) (cs ex : Array Value) (fr : Nat × Nat) (d : TypeDesc) (hg : w.heap[g]? = some (.cells (cs ++ ex) t fr))
    (hu : P.underlying ty = some d) (hd : (match d with | .struct _ | .array _ _ => true | _ => false) = true) (hi : (P.info? ty).map (·.size) = some cs.size) :
    (loadVar ty ⟨g, 0, none⟩).run P w = .ok (.agg cs) w := by
  have hl : (loadCells ⟨g, 0, none⟩ cs.toList.length).run P w = .ok cs.toList.toArray w :=
    run_loadCells_list (P := P) w ⟨g, 0, none⟩ cs.toList (fun j v hv => by
      have hadd : (⟨g, 0, none⟩ : Addr).add j = ⟨g, j, none⟩ := by unfold Addr.add; split <;> simp_all
      rw [hadd, cell_of_row w g j (cs ++ ex) t fr hg]
      have hj : j < cs.size := by
        have := List.getElem?_eq_some_iff.1 hv
        obtain ⟨q, _⟩ := this
        simpa using q
      rw [Array.getElem?_append_left hj]
      simpa using hv)
  cases hq : P.info? ty with
  | none => simp [hq] at hi
  | some i =>
    have hs : i.size = cs.size := by simpa [hq] using hi
    have hagg : (isAgg ty).run P w = .ok true w := by
      unfold isAgg
      rw [Sem.run_bind, run_underlying hu w]
      cases d <;> simp_all
    simp only [Array.length_toList, Array.toArray_toList] at hl
    simp [loadVar, Sem.run_bind, hagg, sizeOf, typeInfo, hq, hs, hl]
theorem load_evp {P : Program} {ops : Array Oper} {rest : List Oper} {o : Oper} {a : Act} {Q : Exit → Act → World → Prop} {W : World} {N : Tmp} (hN : o.dst = some N) {ty : TypeId} {p : Tmp} (ho : o.op = .load ty (.tmp p)) {g : Nat} {t : TypeId} {cs ex : Array Value} (hx : a.eval (.tmp p) = .pointer (some ⟨g, 0, none⟩)) {d : TypeDesc} (hg : W.heap[g]? = some (.cells (cs ++ ex) t (0, 0)))
    (hu : P.underlying ty = some d) (hd : (match d with | .struct _ | .array _ _ => true | _ => false) = true) (hi : (P.info? ty).map (·.size) = some cs.size) (hw : Region.wanted o (yielded ops a.tmps) = true)
    (h : wpList P ops Q rest (a.put o.dst (.agg cs)) W) : wpList P ops Q (o :: rest) a W := by
  unfold wpList
  rw [if_pos hw]
  left
  unfold Oper.wp
  have hr : (execOp a.eval o).run P W = .ok (.value (.agg cs)) W := by
    unfold execOp
    simp only [ho, hx, Instr.loadAt, Instr.sureAddr, Sem.run_bind, Sem.run_pure, Result.andThen_ok, run_loadVar_pre W g t ty cs ex (0, 0) d hg hu hd hi]
  rw [hr]
  exact h
theorem loadp_run' {P : Program} {o : Oper} {a : Act} {W : World} {ty : TypeId} {p : Tmp} (ho : o.op = .load ty (.tmp p)) {g : Nat} (hx : a.eval (.tmp p) = .pointer (some ⟨g, 0, none⟩)) {t : TypeId} {cs ex : Array Value} {d : TypeDesc} (hg : W.heap[g]? = some (.cells (cs ++ ex) t (0, 0)))
    (hu : P.underlying ty = some d) (hd : (match d with | .struct _ | .array _ _ => true | _ => false) = true) (hi : (P.info? ty).map (·.size) = some cs.size) : (execOp a.eval o).run P W = .ok (.value (.agg cs)) W := by
  unfold execOp
  simp only [ho, hx, Instr.loadAt, Instr.sureAddr, Sem.run_bind, Sem.run_pure, Result.andThen_ok, run_loadVar_pre W g t ty cs ex (0, 0) d hg hu hd hi]
def nob : ByteArray := ⟨#[110, 111, 98, 111, 100, 121]⟩
set_option maxHeartbeats 16000000 in
set_option maxRecDepth 100000 in
theorem same_calls (a b : Nat) (m : MG) (hok : okM m) (A : Option Addr) (c : Nat) (w : World) (hT : Tab w a b m) (hL : Ls w A c m.L) :
    Calls Try.prog 32 #[.pointer (some ⟨a, 0, none⟩), .agg #[.int .i64 m.p, .int .i64 m.w, .int .i64 m.g, .int .i64 m.s, .slice A m.L.length c]] w fun e w' => e = .returned (.bool true) ∧ Below w.heap.size w w' := by
  have hund : ∀ b, some undef = some (Value.bool b) → False := fun b h => by simp [undef] at h
  have HL := Aside0.mk hL
  have HT := Aside0.mk hT
  have HOK := Aside0.mk hok
  have hn8 := hok.n
  have hp := hok.p
  clear hT hL hok
  go_enter Try.func32, Try.ntmps32
  go_wp2_with (first
    | ((with_reducible refine gate_dst (N := 3) rfl ?_); refine box_event rfl (N := 3) rfl (cs := #[.int .i64 m.p, .int .i64 m.w, .int .i64 m.g, .int .i64 m.s, .slice A m.L.length c]) (t := 51) ?hr ?_; (case hr => first | (go_simp; done) | (go_simp; rfl)); intro g2 hg2 w1 hbx hbl; have HB := Aside0.mk hbl; have X := Aside0.mk hbx; have x4 : w1.cell? ⟨g2, 4, none⟩ = some (.slice A m.L.length c) := (blk_cell hbx 4).trans rfl; clear hbl hbx hg2))
  have g2lt := Aside0.mk (blk_lt X.out)
  clear x4
  go_loopw [14] (fun iv wr => ∃ (i : Nat), iv = .int .i64 i ∧ i ≤ m.L.length ∧ Aside0 (Below w1.heap.size w1 wr)) (fun iv _ => m.L.length - (intOf iv).toNat)
  case atStart => exact ⟨0, rfl, Nat.zero_le _, ⟨Below.refl _ _⟩⟩
  case round =>
    obtain ⟨i, rfl, hil, H4⟩ := hrel
    have HW := Aside0.mk (below_step HB.out H4.out)
    by_cases hlt : i < m.L.length
    · obtain ⟨ad, hAd, hcs⟩ := at_me (HL.out.later HW.out).r i hlt hlt
      have hcs' := Aside0.mk hcs
      have hmem : m.L[i].f0 ∈ namesM m.L := List.mem_map_of_mem (List.getElem_mem hlt)
      have hin := hasL_in hmem
      have hsz := name_size (HOK.out.a _ (List.getElem_mem hlt)).1
      subst hAd
      clear hcs hmem
      obtain ⟨pr, hpr⟩ : ∃ pr, m.L[i] = pr := ⟨_, rfl⟩
      simp only [hpr] at hcs' hin hsz
      clear hpr
      obtain ⟨y0, y1⟩ := pr
      simp only [Me.cs] at hcs'
      have hsz : y0.size ≤ 1000 := by have : y0.size ≤ 12 := hsz; omega
      have HHS := Aside0.mk (fun W (hT : Tab W a b m) => has_calls a b m y0 hsz W hT HOK.out)
      have HRH := Aside0.mk (fun A' W (hL : Ls W A' c m.L) => rhas_calls m hn8 hp A' c y0 W hL)
      have hol := ofL_none (namesM m.L) m.p.toNat y0.toList
      simp only [show isM m.L y0.toList = true from hin.1, show hasL m y0 = ofL (namesM m.L) m.p.toNat y0.toList from hin.2, if_true] at HHS
      generalize ofL (namesM m.L) m.p.toNat y0.toList = zs at *
      have hol1 : zs.length ≤ 1000 := by omega
      clear hin hol
      have H4z := Aside0.mk H4.out.size
      have j1 : decide ((i : Int) < (m.L.length : Int)) = true := decide_eq_true (by omega)
      have j2 : (0 ≤ (i : Int)) = True := eq_true (by omega)
      have j3 : ((i : Int) < (m.L.length : Int)) = True := eq_true (by omega)
      go_wp2_with (first
        | ((with_reducible refine gate_dst (N := 17) rfl ?_); refine load_evm' (N := 17) rfl rfl rfl (cs := #[.string y0, .int .i64 y1]) rfl hcs'.out Try.underlying150 rfl (by kernel_rfl) ?_)
        | ((with_reducible refine gate_dst (N := 6) rfl ?_); refine box_event rfl (N := 6) rfl (cs := #[.string ⟨#[]⟩, .int .i64 0]) (t := 150) ?hr ?_; (case hr => first | (go_simp; done) | (go_simp; rfl)); intro g6 hg6 wa hbx hbl; have n_H := Aside0.mk (below_step H4.out hbl); have G6 := Aside0.mk (show wr.heap.size ≤ g6 by rw [hg6]; exact Nat.le_refl _); have Q := Aside0.mk hbx; clear H4 hbx hbl hg6; have H4 := n_H; clear n_H)
        | ((with_reducible refine gate_store (t := 150) (p := 6) rfl ?_); refine store_ev rfl rfl rfl (cells := #[.string y0, .int .i64 y1]) rfl rfl Q.out (by kernel_rfl) rfl (by kernel_rfl) ?_; intro wb hbx hgr; have n_H := Aside0.mk (below_put H4.out (Nat.le_trans H4z.out G6.out) hgr H4.out.size); have n_Q := Aside0.mk hbx; clear H4 Q hbx hgr; have H4 := n_H; have Q := n_Q; clear n_H n_Q; have c0 : wb.cell? ⟨g6, 0, none⟩ = some (.string y0) := (blk_cell Q.out 0).trans rfl))
      refine (HHS.out wb (HT.out.later (below_step HB.out H4.out))).mono ?_
      rintro e w5 ⟨v5, rfl, hR5, hb⟩
      obtain ⟨A5, c5, rfl, hc5, hC5⟩ := Kd.R_reads hR5
      have HC5 := Aside0.mk hC5
      clear hR5 hC5 c0
      have n_H4 := Aside0.mk (below_step H4.out hb)
      have n_Q := Aside0.mk ((hb.block g6 (blk_lt Q.out)).trans Q.out)
      clear H4 Q hb
      have H4 := n_H4
      have Q := n_Q
      clear n_H4 n_Q
      have c0 : w5.cell? ⟨g6, 0, none⟩ = some (.string y0) := (blk_cell Q.out 0).trans rfl
      have X5 := Aside0.mk ((H4.out.block g2 g2lt.out).trans X.out)
      go_wp2_with (first
        | ((with_reducible refine gate_dst (N := 29) rfl ?_); refine load_evg (N := 29) rfl rfl (cs := #[.int .i64 m.p, .int .i64 m.w, .int .i64 m.g, .int .i64 m.s, .slice (some ad) m.L.length c]) rfl X5.out Try.underlying51 rfl (by kernel_rfl) ?hw ?_; (case hw => first | rfl | go_simp)))
      refine (HRH.out _ w5 (HL.out.later (below_step HB.out H4.out))).mono ?_
      rintro e w6 ⟨v6, rfl, hR6, hb⟩
      obtain ⟨A6, c6, rfl, hc6, hC6⟩ := Kd.R_reads hR6
      have HC6 := Aside0.mk hC6
      clear hR6 hC6 c0 X5
      have n_H4 := Aside0.mk (below_step H4.out hb)
      have n_HC5 := Aside0.mk (Kd.C_below HC5.out hb)
      clear H4 HC5 hb
      have H4 := n_H4
      have HC5 := n_HC5
      clear n_H4 n_HC5
      go_wp2_with fail
      refine (ints_calls A5 A6 c5 c6 zs hol1 hc5 hc6 w6 HC5.out HC6.out).mono ?_
      rintro e w7 ⟨rfl, hb⟩
      have n_H4 := Aside0.mk (below_step H4.out hb)
      clear H4 hb HC5 HC6
      have H4 := n_H4
      clear n_H4
      go_wp2_with fail
      go_roundw
      case rel => exact ⟨i + 1, by go_num, by omega, H4⟩
      case measure => simp [intOf]; omega
    · obtain rfl : i = m.L.length := by omega
      have j1 : decide ((m.L.length : Int) < (m.L.length : Int)) = false := decide_eq_false (by omega)
      have HHS := Aside0.mk (fun W (hT : Tab W a b m) => has_calls a b m nob (by decide) W hT HOK.out)
      have HIS := Aside0.mk (fun W (hL : Ls W A c m.L) => ris_calls m hn8 A c nob W hL)
      have hpp : (m.p == m.p) = true := by simp
      have hgg : (m.g == m.g) = true := by simp
      obtain ⟨bn, hbn⟩ : ∃ bn, isM m.L nob.toList = bn := ⟨_, rfl⟩
      simp only [hbn] at HHS HIS
      cases bn with
      | true =>
        simp only [if_true, Bool.false_eq_true, if_false] at HHS
        go_wp2_with fail
        refine (HHS.out wr (HT.out.later HW.out)).mono ?_
        rintro e w5 ⟨v5, rfl, _, hb⟩
        have n_H4 := Aside0.mk (below_step H4.out hb)
        clear H4 hb HW
        have H4 := n_H4
        clear n_H4
        have X5 := Aside0.mk ((H4.out.block g2 g2lt.out).trans X.out)
        have HW := Aside0.mk (below_step HB.out H4.out)
        clear H4 HHS
        go_wp2_with fail
        refine start_ (n := 28) (S := fun w' => w'.cell? ⟨g2, 0, none⟩ = some (.int .i64 m.p) ∧ w'.cell? ⟨g2, 2, none⟩ = some (.int .i64 m.g) ∧ w'.heap[g2]? = some (.cells #[.int .i64 m.p, .int .i64 m.w, .int .i64 m.g, .int .i64 m.s, .slice A m.L.length c] 51 (0, 0))) (ds := []) #[false, false, false, false, false, false, false, false, false, false, false, false, false, false, false, false, false, false, false, false, false, false, false, false, false, false, false, false] (by kernel_rfl) rfl rfl ⟨(blk_cell X5.out 0).trans rfl, (blk_cell X5.out 2).trans rfl, X5.out⟩ (fun _ => ?_)
        have n_HW := Aside0.mk (below_drew1 HW.out)
        have n_X5 := Aside0.mk (show w5.drew.heap[g2]? = some (.cells #[.int .i64 m.p, .int .i64 m.w, .int .i64 m.g, .int .i64 m.s, .slice A m.L.length c] 51 (0, 0)) from X5.out)
        clear HW X5
        have HW := n_HW
        have X5 := n_X5
        clear n_HW n_X5
        generalize w5.drew = V0 at *
        refine pure_ (i := 0) (N := some 42) (v := ?_) (a' := ?_) #[true, false, false, false, false, false, false, false, false, false, false, false, false, false, false, false, false, false, false, false, false, false, false, false, false, false, false, false] rfl rfl (by kernel_rfl) (fun _ _ _ h => h) (Or.inl ⟨by rfl, ?_⟩) ?_ ?_
        rotate_left
        · intro w'
          go_simp
          with_reducible rfl
        rotate_left
        · simp only [Act.put, List.setIfInBounds_toArray, List.set_cons_zero, List.set_cons_succ]
          rfl
        refine take_ (i := 2) (N := some 44) (v := .agg #[.int .i64 m.p, .int .i64 m.w, .int .i64 m.g, .int .i64 m.s, .slice A m.L.length c]) (a' := ?_) #[true, false, true, false, false, false, false, false, false, false, false, false, false, false, false, false, false, false, false, false, false, false, false, false, false, false, false, false] rfl rfl (by kernel_rfl) (fun _ _ _ h => h) (Or.inl ⟨by rfl, fun w' hS => load_run' (p := 3) rfl rfl hS.2.2 Try.underlying51 rfl (by kernel_rfl)⟩) ⟨(blk_cell X5.out 0).trans rfl, (blk_cell X5.out 2).trans rfl, X5.out⟩ ?_ ?_
        rotate_left
        · simp only [Act.put, List.setIfInBounds_toArray, List.set_cons_zero, List.set_cons_succ]
          rfl
        refine one_ (i := 1) (N := some 43) #[true, true, true, false, false, false, false, false, false, false, false, false, false, false, false, false, false, false, false, false, false, false, false, false, false, false, false, false] rfl rfl (by kernel_rfl) (by simp) (fun K hK => ?_)
        refine goes_ Try.func39 (by kernel_rfl) rfl #[.pointer (some ⟨a, 0, none⟩)] (by rfl) rfl rfl (by simp only [List.map_toArray, List.map_cons, List.map_nil] <;> rfl) ?_
        refine (members_calls a b m V0 (HT.out.later HW.out) hn8).mono ?_
        rintro e V1 ⟨u1, rfl, hR, hb⟩
        obtain ⟨A1, c1, rfl, hc1, hC1⟩ := Kd.R_reads hR
        have n_HW := Aside0.mk (below_step HW.out hb)
        have n_X5 := Aside0.mk ((hb.block g2 (blk_lt X5.out)).trans X5.out)
        clear HW X5 hb hR
        have HW := n_HW
        have X5 := n_X5
        clear n_HW n_X5
        have HC1 := Aside0.mk hC1
        clear hC1
        refine ⟨_, rfl, hK.out _ _ ⟨(blk_cell X5.out 0).trans rfl, (blk_cell X5.out 2).trans rfl, X5.out⟩ (fun _ => ?_)⟩
        clear hK K
        refine norm_ (a' := ?_) ?_ ?_
        rotate_left
        · simp only [Act.put, List.setIfInBounds_toArray, List.set_cons_zero, List.set_cons_succ]
          rfl
        refine one_ (i := 3) (N := some 45) #[true, true, true, true, false, false, false, false, false, false, false, false, false, false, false, false, false, false, false, false, false, false, false, false, false, false, false, false] rfl rfl (by kernel_rfl) (by simp) (fun K hK => ?_)
        refine goes_ Try.func33 (by kernel_rfl) rfl #[.agg #[.int .i64 m.p, .int .i64 m.w, .int .i64 m.g, .int .i64 m.s, .slice A m.L.length c]] (by rfl) rfl rfl (by simp only [List.map_toArray, List.map_cons, List.map_nil] <;> rfl) ?_
        refine (rnames_calls m hn8 A c V1 (HL.out.later HW.out)).mono ?_
        rintro e V2 ⟨u2, rfl, hR, hb⟩
        obtain ⟨A2, c2, rfl, hc2, hC2⟩ := Kd.R_reads hR
        have n_HW := Aside0.mk (below_step HW.out hb)
        have n_X5 := Aside0.mk ((hb.block g2 (blk_lt X5.out)).trans X5.out)
        have n_HC1 := Aside0.mk (Kd.C_below HC1.out hb)
        clear HW X5 HC1 hb hR
        have HW := n_HW
        have X5 := n_X5
        have HC1 := n_HC1
        clear n_HW n_X5 n_HC1
        have HC2 := Aside0.mk hC2
        clear hC2
        refine ⟨_, rfl, hK.out _ _ ⟨(blk_cell X5.out 0).trans rfl, (blk_cell X5.out 2).trans rfl, X5.out⟩ (fun _ => ?_)⟩
        clear hK K
        refine norm_ (a' := ?_) ?_ ?_
        rotate_left
        · simp only [Act.put, List.setIfInBounds_toArray, List.set_cons_zero, List.set_cons_succ]
          rfl
        refine one_ (i := 4) (N := some 46) #[true, true, true, true, true, false, false, false, false, false, false, false, false, false, false, false, false, false, false, false, false, false, false, false, false, false, false, false] rfl rfl (by kernel_rfl) (by simp) (fun K hK => ?_)
        refine goes_ Try.func26 (by kernel_rfl) rfl #[.slice A1 (namesM m.L).length c1, .slice A2 (namesM m.L).length c2] (by rfl) rfl rfl (by simp only [List.map_toArray, List.map_cons, List.map_nil] <;> rfl) ?_
        refine (texts_calls A1 A2 c1 c2 (namesM m.L) (by rw [names_len]; omega) hc1 hc2 V2 HC1.out HC2.out).mono ?_
        rintro e V3 ⟨rfl, hb⟩
        have n_HW := Aside0.mk (below_step HW.out hb)
        have n_X5 := Aside0.mk ((hb.block g2 (blk_lt X5.out)).trans X5.out)
        clear HW X5 hb HC1 HC2
        have HW := n_HW
        have X5 := n_X5
        clear n_HW n_X5
        refine ⟨_, rfl, hK.out _ _ ⟨(blk_cell X5.out 0).trans rfl, (blk_cell X5.out 2).trans rfl, X5.out⟩ (fun _ => ?_)⟩
        clear hK K
        refine norm_ (a' := ?_) ?_ ?_
        rotate_left
        · simp only [Act.put, List.setIfInBounds_toArray, List.set_cons_zero, List.set_cons_succ]
          rfl
        refine pure_ (i := 5) (N := some 47) (v := ?_) (a' := ?_) #[true, true, true, true, true, true, false, false, false, false, false, false, false, false, false, false, false, false, false, false, false, false, false, false, false, false, false, false] rfl rfl (by kernel_rfl) (fun _ _ _ h => h) (Or.inl ⟨by rfl, ?_⟩) ?_ ?_
        rotate_left
        · intro w'
          go_simp
          with_reducible rfl
        rotate_left
        · simp only [Act.put, List.setIfInBounds_toArray, List.set_cons_zero, List.set_cons_succ]
          rfl
        refine pure_ (i := 6) (N := some 48) (v := ?_) (a' := ?_) #[true, true, true, true, true, true, true, false, false, false, false, false, false, false, false, false, false, false, false, false, false, false, false, false, false, false, false, false] rfl rfl (by kernel_rfl) (fun _ _ _ h => h) (Or.inl ⟨by rfl, ?_⟩) ?_ ?_
        rotate_left
        · intro w'
          go_simp
          with_reducible rfl
        rotate_left
        · simp only [Act.put, List.setIfInBounds_toArray, List.set_cons_zero, List.set_cons_succ]
          rfl
        refine pure_ (i := 8) (N := some 50) (v := ?_) (a' := ?_) #[true, true, true, true, true, true, true, false, true, false, false, false, false, false, false, false, false, false, false, false, false, false, false, false, false, false, false, false] rfl rfl (by kernel_rfl) (fun _ _ _ h => h) (Or.inl ⟨by rfl, ?_⟩) ?_ ?_
        rotate_left
        · intro w'
          go_simp
          with_reducible rfl
        rotate_left
        · simp only [Act.put, List.setIfInBounds_toArray, List.set_cons_zero, List.set_cons_succ]
          rfl
        refine take_ (i := 9) (N := some 51) (v := ?_) (a' := ?_) #[true, true, true, true, true, true, true, false, true, true, false, false, false, false, false, false, false, false, false, false, false, false, false, false, false, false, false, false] rfl rfl (by kernel_rfl) (fun _ _ _ h => h) (Or.inl ⟨by rfl, ?_⟩) ⟨(blk_cell X5.out 0).trans rfl, (blk_cell X5.out 2).trans rfl, X5.out⟩ ?_ ?_
        rotate_left
        · intro w' hS
          obtain ⟨h1, h2, h3⟩ := hS
          go_simp
          with_reducible rfl
        rotate_left
        · simp only [Act.put, List.setIfInBounds_toArray, List.set_cons_zero, List.set_cons_succ]
          rfl
        refine one_ (i := 7) (N := some 49) #[true, true, true, true, true, true, true, true, true, true, false, false, false, false, false, false, false, false, false, false, false, false, false, false, false, false, false, false] rfl rfl (by kernel_rfl) (by simp) (fun K hK => ?_)
        refine goes_ Try.func40 (by kernel_rfl) rfl #[.pointer (some ⟨a, 0, none⟩)] (by rfl) rfl rfl (by simp only [List.map_toArray, List.map_cons, List.map_nil] <;> rfl) ?_
        refine (gen_calls a b m V3 (HT.out.later HW.out)).mono ?_
        rintro e V4 ⟨rfl, hb⟩
        have n_HW := Aside0.mk (below_step HW.out hb)
        have n_X5 := Aside0.mk ((hb.block g2 (blk_lt X5.out)).trans X5.out)
        clear HW X5 hb
        have HW := n_HW
        have X5 := n_X5
        clear n_HW n_X5
        refine ⟨_, rfl, hK.out _ _ ⟨(blk_cell X5.out 0).trans rfl, (blk_cell X5.out 2).trans rfl, X5.out⟩ (fun _ => ?_)⟩
        clear hK K
        refine norm_ (a' := ?_) ?_ ?_
        rotate_left
        · simp only [Act.put, List.setIfInBounds_toArray, List.set_cons_zero, List.set_cons_succ]
          rfl
        refine pure_ (i := 10) (N := some 52) (v := ?_) (a' := ?_) #[true, true, true, true, true, true, true, true, true, true, true, false, false, false, false, false, false, false, false, false, false, false, false, false, false, false, false, false] rfl rfl (by kernel_rfl) (fun _ _ _ h => h) (Or.inl ⟨by rfl, ?_⟩) ?_ ?_
        rotate_left
        · intro w'
          go_simp
          with_reducible rfl
        rotate_left
        · simp only [Act.put, List.setIfInBounds_toArray, List.set_cons_zero, List.set_cons_succ]
          rfl
        refine pure_ (i := 11) (N := some 53) (v := ?_) (a' := ?_) #[true, true, true, true, true, true, true, true, true, true, true, true, false, false, false, false, false, false, false, false, false, false, false, false, false, false, false, false] rfl rfl (by kernel_rfl) (fun _ _ _ h => h) (Or.inl ⟨by rfl, ?_⟩) ?_ ?_
        rotate_left
        · intro w'
          go_simp
          with_reducible rfl
        rotate_left
        · simp only [Act.put, List.setIfInBounds_toArray, List.set_cons_zero, List.set_cons_succ]
          rfl
        refine pure_ (i := 12) (N := some 54) (v := ?_) (a' := ?_) #[true, true, true, true, true, true, true, true, true, true, true, true, true, false, false, false, false, false, false, false, false, false, false, false, false, false, false, false] rfl rfl (by kernel_rfl) (fun _ _ _ h => h) (Or.inl ⟨by rfl, ?_⟩) ?_ ?_
        rotate_left
        · intro w'
          go_simp
          with_reducible rfl
        rotate_left
        · simp only [Act.put, List.setIfInBounds_toArray, List.set_cons_zero, List.set_cons_succ]
          rfl
        refine pure_ (i := 13) (N := some 55) (v := ?_) (a' := ?_) #[true, true, true, true, true, true, true, true, true, true, true, true, true, true, false, false, false, false, false, false, false, false, false, false, false, false, false, false] rfl rfl (by kernel_rfl) (fun _ _ _ h => h) (Or.inl ⟨by rfl, ?_⟩) ?_ ?_
        rotate_left
        · intro w'
          go_simp
          with_reducible rfl
        rotate_left
        · simp only [Act.put, List.setIfInBounds_toArray, List.set_cons_zero, List.set_cons_succ]
          rfl
        refine pure_ (i := 15) (N := some 57) (v := ?_) (a' := ?_) #[true, true, true, true, true, true, true, true, true, true, true, true, true, true, false, true, false, false, false, false, false, false, false, false, false, false, false, false] rfl rfl (by kernel_rfl) (fun _ _ _ h => h) (Or.inl ⟨by rfl, ?_⟩) ?_ ?_
        rotate_left
        · intro w'
          go_simp
          with_reducible rfl
        rotate_left
        · simp only [Act.put, List.setIfInBounds_toArray, List.set_cons_zero, List.set_cons_succ]
          rfl
        refine take_ (i := 16) (N := some 58) (v := ?_) (a' := ?_) #[true, true, true, true, true, true, true, true, true, true, true, true, true, true, false, true, true, false, false, false, false, false, false, false, false, false, false, false] rfl rfl (by kernel_rfl) (fun _ _ _ h => h) (Or.inl ⟨by rfl, ?_⟩) ⟨(blk_cell X5.out 0).trans rfl, (blk_cell X5.out 2).trans rfl, X5.out⟩ ?_ ?_
        rotate_left
        · intro w' hS
          obtain ⟨h1, h2, h3⟩ := hS
          go_simp
          with_reducible rfl
        rotate_left
        · simp only [Act.put, List.setIfInBounds_toArray, List.set_cons_zero, List.set_cons_succ]
          rfl
        refine one_ (i := 14) (N := some 56) #[true, true, true, true, true, true, true, true, true, true, true, true, true, true, true, true, true, false, false, false, false, false, false, false, false, false, false, false] rfl rfl (by kernel_rfl) (by simp) (fun K hK => ?_)
        refine goes_ Try.func41 (by kernel_rfl) rfl #[.pointer (some ⟨a, 0, none⟩)] (by rfl) rfl rfl (by simp only [List.map_toArray, List.map_cons, List.map_nil] <;> rfl) ?_
        refine (parts_calls' a b m V4 (HT.out.later HW.out)).mono ?_
        rintro e V5 ⟨rfl, hb⟩
        have n_HW := Aside0.mk (below_step HW.out hb)
        have n_X5 := Aside0.mk ((hb.block g2 (blk_lt X5.out)).trans X5.out)
        clear HW X5 hb
        have HW := n_HW
        have X5 := n_X5
        clear n_HW n_X5
        refine ⟨_, rfl, hK.out _ _ ⟨(blk_cell X5.out 0).trans rfl, (blk_cell X5.out 2).trans rfl, X5.out⟩ (fun _ => ?_)⟩
        clear hK K
        refine norm_ (a' := ?_) ?_ ?_
        rotate_left
        · simp only [Act.put, List.setIfInBounds_toArray, List.set_cons_zero, List.set_cons_succ]
          rfl
        refine pure_ (i := 17) (N := some 59) (v := ?_) (a' := ?_) #[true, true, true, true, true, true, true, true, true, true, true, true, true, true, true, true, true, true, false, false, false, false, false, false, false, false, false, false] rfl rfl (by kernel_rfl) (fun _ _ _ h => h) (Or.inl ⟨by rfl, ?_⟩) ?_ ?_
        rotate_left
        · intro w'
          go_simp
          with_reducible rfl
        rotate_left
        · simp only [Act.put, List.setIfInBounds_toArray, List.set_cons_zero, List.set_cons_succ]
          rfl
        refine pure_ (i := 18) (N := some 60) (v := ?_) (a' := ?_) #[true, true, true, true, true, true, true, true, true, true, true, true, true, true, true, true, true, true, true, false, false, false, false, false, false, false, false, false] rfl rfl (by kernel_rfl) (fun _ _ _ h => h) (Or.inl ⟨by rfl, ?_⟩) ?_ ?_
        rotate_left
        · intro w'
          go_simp
          with_reducible rfl
        rotate_left
        · simp only [Act.put, List.setIfInBounds_toArray, List.set_cons_zero, List.set_cons_succ]
          rfl
        refine pure_ (i := 19) (N := some 61) (v := ?_) (a' := ?_) #[true, true, true, true, true, true, true, true, true, true, true, true, true, true, true, true, true, true, true, true, false, false, false, false, false, false, false, false] rfl rfl (by kernel_rfl) (fun _ _ _ h => h) (Or.inl ⟨by rfl, ?_⟩) ?_ ?_
        rotate_left
        · intro w'
          go_simp
          with_reducible rfl
        rotate_left
        · simp only [Act.put, List.setIfInBounds_toArray, List.set_cons_zero, List.set_cons_succ]
          rfl
        refine pure_ (i := 20) (N := some 62) (v := ?_) (a' := ?_) #[true, true, true, true, true, true, true, true, true, true, true, true, true, true, true, true, true, true, true, true, true, false, false, false, false, false, false, false] rfl rfl (by kernel_rfl) (fun _ _ _ h => h) (Or.inl ⟨by rfl, ?_⟩) ?_ ?_
        rotate_left
        · intro w'
          go_simp
          with_reducible rfl
        rotate_left
        · simp only [Act.put, List.setIfInBounds_toArray, List.set_cons_zero, List.set_cons_succ]
          rfl
        refine pure_ (i := 21) (N := some 63) (v := ?_) (a' := ?_) #[true, true, true, true, true, true, true, true, true, true, true, true, true, true, true, true, true, true, true, true, true, true, false, false, false, false, false, false] rfl rfl (by kernel_rfl) (fun _ _ _ h => h) (Or.inl ⟨by rfl, ?_⟩) ?_ ?_
        rotate_left
        · intro w'
          go_simp
          with_reducible rfl
        rotate_left
        · simp only [Act.put, List.setIfInBounds_toArray, List.set_cons_zero, List.set_cons_succ]
          rfl
        refine pure_ (i := 22) (N := some 64) (v := ?_) (a' := ?_) #[true, true, true, true, true, true, true, true, true, true, true, true, true, true, true, true, true, true, true, true, true, true, true, false, false, false, false, false] rfl rfl (by kernel_rfl) (fun _ _ _ h => h) (Or.inl ⟨by rfl, ?_⟩) ?_ ?_
        rotate_left
        · intro w'
          go_simp
          with_reducible rfl
        rotate_left
        · simp only [Act.put, List.setIfInBounds_toArray, List.set_cons_zero, List.set_cons_succ]
          rfl
        refine take_ (i := 23) (N := some 65) (v := .agg #[.int .i64 m.p, .int .i64 m.w, .int .i64 m.g, .int .i64 m.s, .slice A m.L.length c]) (a' := ?_) #[true, true, true, true, true, true, true, true, true, true, true, true, true, true, true, true, true, true, true, true, true, true, true, true, false, false, false, false] rfl rfl (by kernel_rfl) (fun _ _ _ h => h) (Or.inl ⟨by rfl, fun w' hS => load_run' (p := 3) rfl rfl hS.2.2 Try.underlying51 rfl (by kernel_rfl)⟩) ⟨(blk_cell X5.out 0).trans rfl, (blk_cell X5.out 2).trans rfl, X5.out⟩ ?_ ?_
        rotate_left
        · simp only [Act.put, List.setIfInBounds_toArray, List.set_cons_zero, List.set_cons_succ]
          rfl
        refine one_ (i := 24) (N := some 66) #[true, true, true, true, true, true, true, true, true, true, true, true, true, true, true, true, true, true, true, true, true, true, true, true, true, false, false, false] rfl rfl (by kernel_rfl) (by simp) (fun K hK => ?_)
        refine goes_ Try.func86 (by kernel_rfl) rfl #[.agg #[.int .i64 m.p, .int .i64 m.w, .int .i64 m.g, .int .i64 m.s, .slice A m.L.length c], .string nob] (by rfl) rfl rfl (by simp only [List.map_toArray, List.map_cons, List.map_nil] <;> rfl) ?_
        refine (HIS.out V5 (HL.out.later HW.out)).mono ?_
        rintro e V6 ⟨rfl, hb⟩
        have n_HW := Aside0.mk (below_step HW.out hb)
        have n_X5 := Aside0.mk ((hb.block g2 (blk_lt X5.out)).trans X5.out)
        clear HW X5 hb
        have HW := n_HW
        have X5 := n_X5
        clear n_HW n_X5
        refine ⟨_, rfl, hK.out _ _ ⟨(blk_cell X5.out 0).trans rfl, (blk_cell X5.out 2).trans rfl, X5.out⟩ (fun _ => ?_)⟩
        clear hK K
        refine norm_ (a' := ?_) ?_ ?_
        rotate_left
        · simp only [Act.put, List.setIfInBounds_toArray, List.set_cons_zero, List.set_cons_succ]
          rfl
        refine pure_ (i := 25) (N := some 67) (v := ?_) (a' := ?_) #[true, true, true, true, true, true, true, true, true, true, true, true, true, true, true, true, true, true, true, true, true, true, true, true, true, true, false, false] rfl rfl (by kernel_rfl) (fun _ _ _ h => h) (Or.inl ⟨by rfl, ?_⟩) ?_ ?_
        rotate_left
        · intro w'
          go_simp
          with_reducible rfl
        rotate_left
        · simp only [Act.put, List.setIfInBounds_toArray, List.set_cons_zero, List.set_cons_succ]
          rfl
        refine pure_ (i := 26) (N := some 68) (v := ?_) (a' := ?_) #[true, true, true, true, true, true, true, true, true, true, true, true, true, true, true, true, true, true, true, true, true, true, true, true, true, true, true, false] rfl rfl (by kernel_rfl) (fun _ _ _ h => h) (Or.inl ⟨by rfl, ?_⟩) ?_ ?_
        rotate_left
        · intro w'
          go_simp
          with_reducible rfl
        rotate_left
        · simp only [Act.put, List.setIfInBounds_toArray, List.set_cons_zero, List.set_cons_succ]
          rfl
        refine pure_ (i := 27) (N := some 4) (v := ?_) (a' := ?_) #[true, true, true, true, true, true, true, true, true, true, true, true, true, true, true, true, true, true, true, true, true, true, true, true, true, true, true, true] rfl rfl (by kernel_rfl) (fun _ _ _ h => h) (Or.inl ⟨by rfl, ?_⟩) ?_ ?_
        rotate_left
        · intro w'
          go_simp
          with_reducible rfl
        rotate_left
        · simp only [Act.put, List.setIfInBounds_toArray, List.set_cons_zero, List.set_cons_succ]
          rfl
        refine done_ (by kernel_rfl) ?_
        go_wp2_with fail
        go_ret
        exact ⟨rfl, HW.out⟩
      | false =>
        simp only [if_true, Bool.false_eq_true, if_false] at HHS
        go_wp2_with fail
        refine (HHS.out wr (HT.out.later HW.out)).mono ?_
        rintro e w5 ⟨v5, rfl, _, hb⟩
        have n_H4 := Aside0.mk (below_step H4.out hb)
        clear H4 hb HW
        have H4 := n_H4
        clear n_H4
        have X5 := Aside0.mk ((H4.out.block g2 g2lt.out).trans X.out)
        have HW := Aside0.mk (below_step HB.out H4.out)
        clear H4 HHS
        go_wp2_with fail
        refine start_ (n := 28) (S := fun w' => w'.cell? ⟨g2, 0, none⟩ = some (.int .i64 m.p) ∧ w'.cell? ⟨g2, 2, none⟩ = some (.int .i64 m.g) ∧ w'.heap[g2]? = some (.cells #[.int .i64 m.p, .int .i64 m.w, .int .i64 m.g, .int .i64 m.s, .slice A m.L.length c] 51 (0, 0))) (ds := []) #[false, false, false, false, false, false, false, false, false, false, false, false, false, false, false, false, false, false, false, false, false, false, false, false, false, false, false, false] (by kernel_rfl) rfl rfl ⟨(blk_cell X5.out 0).trans rfl, (blk_cell X5.out 2).trans rfl, X5.out⟩ (fun _ => ?_)
        have n_HW := Aside0.mk (below_drew1 HW.out)
        have n_X5 := Aside0.mk (show w5.drew.heap[g2]? = some (.cells #[.int .i64 m.p, .int .i64 m.w, .int .i64 m.g, .int .i64 m.s, .slice A m.L.length c] 51 (0, 0)) from X5.out)
        clear HW X5
        have HW := n_HW
        have X5 := n_X5
        clear n_HW n_X5
        generalize w5.drew = V0 at *
        refine pure_ (i := 0) (N := some 42) (v := ?_) (a' := ?_) #[true, false, false, false, false, false, false, false, false, false, false, false, false, false, false, false, false, false, false, false, false, false, false, false, false, false, false, false] rfl rfl (by kernel_rfl) (fun _ _ _ h => h) (Or.inl ⟨by rfl, ?_⟩) ?_ ?_
        rotate_left
        · intro w'
          go_simp
          with_reducible rfl
        rotate_left
        · simp only [Act.put, List.setIfInBounds_toArray, List.set_cons_zero, List.set_cons_succ]
          rfl
        refine take_ (i := 2) (N := some 44) (v := .agg #[.int .i64 m.p, .int .i64 m.w, .int .i64 m.g, .int .i64 m.s, .slice A m.L.length c]) (a' := ?_) #[true, false, true, false, false, false, false, false, false, false, false, false, false, false, false, false, false, false, false, false, false, false, false, false, false, false, false, false] rfl rfl (by kernel_rfl) (fun _ _ _ h => h) (Or.inl ⟨by rfl, fun w' hS => load_run' (p := 3) rfl rfl hS.2.2 Try.underlying51 rfl (by kernel_rfl)⟩) ⟨(blk_cell X5.out 0).trans rfl, (blk_cell X5.out 2).trans rfl, X5.out⟩ ?_ ?_
        rotate_left
        · simp only [Act.put, List.setIfInBounds_toArray, List.set_cons_zero, List.set_cons_succ]
          rfl
        refine one_ (i := 1) (N := some 43) #[true, true, true, false, false, false, false, false, false, false, false, false, false, false, false, false, false, false, false, false, false, false, false, false, false, false, false, false] rfl rfl (by kernel_rfl) (by simp) (fun K hK => ?_)
        refine goes_ Try.func39 (by kernel_rfl) rfl #[.pointer (some ⟨a, 0, none⟩)] (by rfl) rfl rfl (by simp only [List.map_toArray, List.map_cons, List.map_nil] <;> rfl) ?_
        refine (members_calls a b m V0 (HT.out.later HW.out) hn8).mono ?_
        rintro e V1 ⟨u1, rfl, hR, hb⟩
        obtain ⟨A1, c1, rfl, hc1, hC1⟩ := Kd.R_reads hR
        have n_HW := Aside0.mk (below_step HW.out hb)
        have n_X5 := Aside0.mk ((hb.block g2 (blk_lt X5.out)).trans X5.out)
        clear HW X5 hb hR
        have HW := n_HW
        have X5 := n_X5
        clear n_HW n_X5
        have HC1 := Aside0.mk hC1
        clear hC1
        refine ⟨_, rfl, hK.out _ _ ⟨(blk_cell X5.out 0).trans rfl, (blk_cell X5.out 2).trans rfl, X5.out⟩ (fun _ => ?_)⟩
        clear hK K
        refine norm_ (a' := ?_) ?_ ?_
        rotate_left
        · simp only [Act.put, List.setIfInBounds_toArray, List.set_cons_zero, List.set_cons_succ]
          rfl
        refine one_ (i := 3) (N := some 45) #[true, true, true, true, false, false, false, false, false, false, false, false, false, false, false, false, false, false, false, false, false, false, false, false, false, false, false, false] rfl rfl (by kernel_rfl) (by simp) (fun K hK => ?_)
        refine goes_ Try.func33 (by kernel_rfl) rfl #[.agg #[.int .i64 m.p, .int .i64 m.w, .int .i64 m.g, .int .i64 m.s, .slice A m.L.length c]] (by rfl) rfl rfl (by simp only [List.map_toArray, List.map_cons, List.map_nil] <;> rfl) ?_
        refine (rnames_calls m hn8 A c V1 (HL.out.later HW.out)).mono ?_
        rintro e V2 ⟨u2, rfl, hR, hb⟩
        obtain ⟨A2, c2, rfl, hc2, hC2⟩ := Kd.R_reads hR
        have n_HW := Aside0.mk (below_step HW.out hb)
        have n_X5 := Aside0.mk ((hb.block g2 (blk_lt X5.out)).trans X5.out)
        have n_HC1 := Aside0.mk (Kd.C_below HC1.out hb)
        clear HW X5 HC1 hb hR
        have HW := n_HW
        have X5 := n_X5
        have HC1 := n_HC1
        clear n_HW n_X5 n_HC1
        have HC2 := Aside0.mk hC2
        clear hC2
        refine ⟨_, rfl, hK.out _ _ ⟨(blk_cell X5.out 0).trans rfl, (blk_cell X5.out 2).trans rfl, X5.out⟩ (fun _ => ?_)⟩
        clear hK K
        refine norm_ (a' := ?_) ?_ ?_
        rotate_left
        · simp only [Act.put, List.setIfInBounds_toArray, List.set_cons_zero, List.set_cons_succ]
          rfl
        refine one_ (i := 4) (N := some 46) #[true, true, true, true, true, false, false, false, false, false, false, false, false, false, false, false, false, false, false, false, false, false, false, false, false, false, false, false] rfl rfl (by kernel_rfl) (by simp) (fun K hK => ?_)
        refine goes_ Try.func26 (by kernel_rfl) rfl #[.slice A1 (namesM m.L).length c1, .slice A2 (namesM m.L).length c2] (by rfl) rfl rfl (by simp only [List.map_toArray, List.map_cons, List.map_nil] <;> rfl) ?_
        refine (texts_calls A1 A2 c1 c2 (namesM m.L) (by rw [names_len]; omega) hc1 hc2 V2 HC1.out HC2.out).mono ?_
        rintro e V3 ⟨rfl, hb⟩
        have n_HW := Aside0.mk (below_step HW.out hb)
        have n_X5 := Aside0.mk ((hb.block g2 (blk_lt X5.out)).trans X5.out)
        clear HW X5 hb HC1 HC2
        have HW := n_HW
        have X5 := n_X5
        clear n_HW n_X5
        refine ⟨_, rfl, hK.out _ _ ⟨(blk_cell X5.out 0).trans rfl, (blk_cell X5.out 2).trans rfl, X5.out⟩ (fun _ => ?_)⟩
        clear hK K
        refine norm_ (a' := ?_) ?_ ?_
        rotate_left
        · simp only [Act.put, List.setIfInBounds_toArray, List.set_cons_zero, List.set_cons_succ]
          rfl
        refine pure_ (i := 5) (N := some 47) (v := ?_) (a' := ?_) #[true, true, true, true, true, true, false, false, false, false, false, false, false, false, false, false, false, false, false, false, false, false, false, false, false, false, false, false] rfl rfl (by kernel_rfl) (fun _ _ _ h => h) (Or.inl ⟨by rfl, ?_⟩) ?_ ?_
        rotate_left
        · intro w'
          go_simp
          with_reducible rfl
        rotate_left
        · simp only [Act.put, List.setIfInBounds_toArray, List.set_cons_zero, List.set_cons_succ]
          rfl
        refine pure_ (i := 6) (N := some 48) (v := ?_) (a' := ?_) #[true, true, true, true, true, true, true, false, false, false, false, false, false, false, false, false, false, false, false, false, false, false, false, false, false, false, false, false] rfl rfl (by kernel_rfl) (fun _ _ _ h => h) (Or.inl ⟨by rfl, ?_⟩) ?_ ?_
        rotate_left
        · intro w'
          go_simp
          with_reducible rfl
        rotate_left
        · simp only [Act.put, List.setIfInBounds_toArray, List.set_cons_zero, List.set_cons_succ]
          rfl
        refine pure_ (i := 8) (N := some 50) (v := ?_) (a' := ?_) #[true, true, true, true, true, true, true, false, true, false, false, false, false, false, false, false, false, false, false, false, false, false, false, false, false, false, false, false] rfl rfl (by kernel_rfl) (fun _ _ _ h => h) (Or.inl ⟨by rfl, ?_⟩) ?_ ?_
        rotate_left
        · intro w'
          go_simp
          with_reducible rfl
        rotate_left
        · simp only [Act.put, List.setIfInBounds_toArray, List.set_cons_zero, List.set_cons_succ]
          rfl
        refine take_ (i := 9) (N := some 51) (v := ?_) (a' := ?_) #[true, true, true, true, true, true, true, false, true, true, false, false, false, false, false, false, false, false, false, false, false, false, false, false, false, false, false, false] rfl rfl (by kernel_rfl) (fun _ _ _ h => h) (Or.inl ⟨by rfl, ?_⟩) ⟨(blk_cell X5.out 0).trans rfl, (blk_cell X5.out 2).trans rfl, X5.out⟩ ?_ ?_
        rotate_left
        · intro w' hS
          obtain ⟨h1, h2, h3⟩ := hS
          go_simp
          with_reducible rfl
        rotate_left
        · simp only [Act.put, List.setIfInBounds_toArray, List.set_cons_zero, List.set_cons_succ]
          rfl
        refine one_ (i := 7) (N := some 49) #[true, true, true, true, true, true, true, true, true, true, false, false, false, false, false, false, false, false, false, false, false, false, false, false, false, false, false, false] rfl rfl (by kernel_rfl) (by simp) (fun K hK => ?_)
        refine goes_ Try.func40 (by kernel_rfl) rfl #[.pointer (some ⟨a, 0, none⟩)] (by rfl) rfl rfl (by simp only [List.map_toArray, List.map_cons, List.map_nil] <;> rfl) ?_
        refine (gen_calls a b m V3 (HT.out.later HW.out)).mono ?_
        rintro e V4 ⟨rfl, hb⟩
        have n_HW := Aside0.mk (below_step HW.out hb)
        have n_X5 := Aside0.mk ((hb.block g2 (blk_lt X5.out)).trans X5.out)
        clear HW X5 hb
        have HW := n_HW
        have X5 := n_X5
        clear n_HW n_X5
        refine ⟨_, rfl, hK.out _ _ ⟨(blk_cell X5.out 0).trans rfl, (blk_cell X5.out 2).trans rfl, X5.out⟩ (fun _ => ?_)⟩
        clear hK K
        refine norm_ (a' := ?_) ?_ ?_
        rotate_left
        · simp only [Act.put, List.setIfInBounds_toArray, List.set_cons_zero, List.set_cons_succ]
          rfl
        refine pure_ (i := 10) (N := some 52) (v := ?_) (a' := ?_) #[true, true, true, true, true, true, true, true, true, true, true, false, false, false, false, false, false, false, false, false, false, false, false, false, false, false, false, false] rfl rfl (by kernel_rfl) (fun _ _ _ h => h) (Or.inl ⟨by rfl, ?_⟩) ?_ ?_
        rotate_left
        · intro w'
          go_simp
          with_reducible rfl
        rotate_left
        · simp only [Act.put, List.setIfInBounds_toArray, List.set_cons_zero, List.set_cons_succ]
          rfl
        refine pure_ (i := 11) (N := some 53) (v := ?_) (a' := ?_) #[true, true, true, true, true, true, true, true, true, true, true, true, false, false, false, false, false, false, false, false, false, false, false, false, false, false, false, false] rfl rfl (by kernel_rfl) (fun _ _ _ h => h) (Or.inl ⟨by rfl, ?_⟩) ?_ ?_
        rotate_left
        · intro w'
          go_simp
          with_reducible rfl
        rotate_left
        · simp only [Act.put, List.setIfInBounds_toArray, List.set_cons_zero, List.set_cons_succ]
          rfl
        refine pure_ (i := 12) (N := some 54) (v := ?_) (a' := ?_) #[true, true, true, true, true, true, true, true, true, true, true, true, true, false, false, false, false, false, false, false, false, false, false, false, false, false, false, false] rfl rfl (by kernel_rfl) (fun _ _ _ h => h) (Or.inl ⟨by rfl, ?_⟩) ?_ ?_
        rotate_left
        · intro w'
          go_simp
          with_reducible rfl
        rotate_left
        · simp only [Act.put, List.setIfInBounds_toArray, List.set_cons_zero, List.set_cons_succ]
          rfl
        refine pure_ (i := 13) (N := some 55) (v := ?_) (a' := ?_) #[true, true, true, true, true, true, true, true, true, true, true, true, true, true, false, false, false, false, false, false, false, false, false, false, false, false, false, false] rfl rfl (by kernel_rfl) (fun _ _ _ h => h) (Or.inl ⟨by rfl, ?_⟩) ?_ ?_
        rotate_left
        · intro w'
          go_simp
          with_reducible rfl
        rotate_left
        · simp only [Act.put, List.setIfInBounds_toArray, List.set_cons_zero, List.set_cons_succ]
          rfl
        refine pure_ (i := 15) (N := some 57) (v := ?_) (a' := ?_) #[true, true, true, true, true, true, true, true, true, true, true, true, true, true, false, true, false, false, false, false, false, false, false, false, false, false, false, false] rfl rfl (by kernel_rfl) (fun _ _ _ h => h) (Or.inl ⟨by rfl, ?_⟩) ?_ ?_
        rotate_left
        · intro w'
          go_simp
          with_reducible rfl
        rotate_left
        · simp only [Act.put, List.setIfInBounds_toArray, List.set_cons_zero, List.set_cons_succ]
          rfl
        refine take_ (i := 16) (N := some 58) (v := ?_) (a' := ?_) #[true, true, true, true, true, true, true, true, true, true, true, true, true, true, false, true, true, false, false, false, false, false, false, false, false, false, false, false] rfl rfl (by kernel_rfl) (fun _ _ _ h => h) (Or.inl ⟨by rfl, ?_⟩) ⟨(blk_cell X5.out 0).trans rfl, (blk_cell X5.out 2).trans rfl, X5.out⟩ ?_ ?_
        rotate_left
        · intro w' hS
          obtain ⟨h1, h2, h3⟩ := hS
          go_simp
          with_reducible rfl
        rotate_left
        · simp only [Act.put, List.setIfInBounds_toArray, List.set_cons_zero, List.set_cons_succ]
          rfl
        refine one_ (i := 14) (N := some 56) #[true, true, true, true, true, true, true, true, true, true, true, true, true, true, true, true, true, false, false, false, false, false, false, false, false, false, false, false] rfl rfl (by kernel_rfl) (by simp) (fun K hK => ?_)
        refine goes_ Try.func41 (by kernel_rfl) rfl #[.pointer (some ⟨a, 0, none⟩)] (by rfl) rfl rfl (by simp only [List.map_toArray, List.map_cons, List.map_nil] <;> rfl) ?_
        refine (parts_calls' a b m V4 (HT.out.later HW.out)).mono ?_
        rintro e V5 ⟨rfl, hb⟩
        have n_HW := Aside0.mk (below_step HW.out hb)
        have n_X5 := Aside0.mk ((hb.block g2 (blk_lt X5.out)).trans X5.out)
        clear HW X5 hb
        have HW := n_HW
        have X5 := n_X5
        clear n_HW n_X5
        refine ⟨_, rfl, hK.out _ _ ⟨(blk_cell X5.out 0).trans rfl, (blk_cell X5.out 2).trans rfl, X5.out⟩ (fun _ => ?_)⟩
        clear hK K
        refine norm_ (a' := ?_) ?_ ?_
        rotate_left
        · simp only [Act.put, List.setIfInBounds_toArray, List.set_cons_zero, List.set_cons_succ]
          rfl
        refine pure_ (i := 17) (N := some 59) (v := ?_) (a' := ?_) #[true, true, true, true, true, true, true, true, true, true, true, true, true, true, true, true, true, true, false, false, false, false, false, false, false, false, false, false] rfl rfl (by kernel_rfl) (fun _ _ _ h => h) (Or.inl ⟨by rfl, ?_⟩) ?_ ?_
        rotate_left
        · intro w'
          go_simp
          with_reducible rfl
        rotate_left
        · simp only [Act.put, List.setIfInBounds_toArray, List.set_cons_zero, List.set_cons_succ]
          rfl
        refine pure_ (i := 18) (N := some 60) (v := ?_) (a' := ?_) #[true, true, true, true, true, true, true, true, true, true, true, true, true, true, true, true, true, true, true, false, false, false, false, false, false, false, false, false] rfl rfl (by kernel_rfl) (fun _ _ _ h => h) (Or.inl ⟨by rfl, ?_⟩) ?_ ?_
        rotate_left
        · intro w'
          go_simp
          with_reducible rfl
        rotate_left
        · simp only [Act.put, List.setIfInBounds_toArray, List.set_cons_zero, List.set_cons_succ]
          rfl
        refine pure_ (i := 19) (N := some 61) (v := ?_) (a' := ?_) #[true, true, true, true, true, true, true, true, true, true, true, true, true, true, true, true, true, true, true, true, false, false, false, false, false, false, false, false] rfl rfl (by kernel_rfl) (fun _ _ _ h => h) (Or.inl ⟨by rfl, ?_⟩) ?_ ?_
        rotate_left
        · intro w'
          go_simp
          with_reducible rfl
        rotate_left
        · simp only [Act.put, List.setIfInBounds_toArray, List.set_cons_zero, List.set_cons_succ]
          rfl
        refine pure_ (i := 20) (N := some 62) (v := ?_) (a' := ?_) #[true, true, true, true, true, true, true, true, true, true, true, true, true, true, true, true, true, true, true, true, true, false, false, false, false, false, false, false] rfl rfl (by kernel_rfl) (fun _ _ _ h => h) (Or.inl ⟨by rfl, ?_⟩) ?_ ?_
        rotate_left
        · intro w'
          go_simp
          with_reducible rfl
        rotate_left
        · simp only [Act.put, List.setIfInBounds_toArray, List.set_cons_zero, List.set_cons_succ]
          rfl
        refine pure_ (i := 21) (N := some 63) (v := ?_) (a' := ?_) #[true, true, true, true, true, true, true, true, true, true, true, true, true, true, true, true, true, true, true, true, true, true, false, false, false, false, false, false] rfl rfl (by kernel_rfl) (fun _ _ _ h => h) (Or.inl ⟨by rfl, ?_⟩) ?_ ?_
        rotate_left
        · intro w'
          go_simp
          with_reducible rfl
        rotate_left
        · simp only [Act.put, List.setIfInBounds_toArray, List.set_cons_zero, List.set_cons_succ]
          rfl
        refine pure_ (i := 22) (N := some 64) (v := ?_) (a' := ?_) #[true, true, true, true, true, true, true, true, true, true, true, true, true, true, true, true, true, true, true, true, true, true, true, false, false, false, false, false] rfl rfl (by kernel_rfl) (fun _ _ _ h => h) (Or.inl ⟨by rfl, ?_⟩) ?_ ?_
        rotate_left
        · intro w'
          go_simp
          with_reducible rfl
        rotate_left
        · simp only [Act.put, List.setIfInBounds_toArray, List.set_cons_zero, List.set_cons_succ]
          rfl
        refine pure_ (i := 23) (N := some 65) (v := undef) (a' := ?_) #[true, true, true, true, true, true, true, true, true, true, true, true, true, true, true, true, true, true, true, true, true, true, true, true, false, false, false, false] rfl rfl (by kernel_rfl) (fun _ _ _ h => h) (Or.inr ⟨by rfl, rfl⟩) ?_ ?_
        rotate_left
        · simp only [Act.put, List.setIfInBounds_toArray, List.set_cons_zero, List.set_cons_succ]
          rfl
        refine pure_ (i := 24) (N := some 66) (v := undef) (a' := ?_) #[true, true, true, true, true, true, true, true, true, true, true, true, true, true, true, true, true, true, true, true, true, true, true, true, true, false, false, false] rfl rfl (by kernel_rfl) (fun _ _ _ h => h) (Or.inr ⟨by rfl, rfl⟩) ?_ ?_
        rotate_left
        · simp only [Act.put, List.setIfInBounds_toArray, List.set_cons_zero, List.set_cons_succ]
          rfl
        refine pure_ (i := 25) (N := some 67) (v := ?_) (a' := ?_) #[true, true, true, true, true, true, true, true, true, true, true, true, true, true, true, true, true, true, true, true, true, true, true, true, true, true, false, false] rfl rfl (by kernel_rfl) (fun _ _ _ h => h) (Or.inl ⟨by rfl, ?_⟩) ?_ ?_
        rotate_left
        · intro w'
          go_simp
          with_reducible rfl
        rotate_left
        · simp only [Act.put, List.setIfInBounds_toArray, List.set_cons_zero, List.set_cons_succ]
          rfl
        refine pure_ (i := 26) (N := some 68) (v := ?_) (a' := ?_) #[true, true, true, true, true, true, true, true, true, true, true, true, true, true, true, true, true, true, true, true, true, true, true, true, true, true, true, false] rfl rfl (by kernel_rfl) (fun _ _ _ h => h) (Or.inl ⟨by rfl, ?_⟩) ?_ ?_
        rotate_left
        · intro w'
          go_simp
          with_reducible rfl
        rotate_left
        · simp only [Act.put, List.setIfInBounds_toArray, List.set_cons_zero, List.set_cons_succ]
          rfl
        refine pure_ (i := 27) (N := some 4) (v := ?_) (a' := ?_) #[true, true, true, true, true, true, true, true, true, true, true, true, true, true, true, true, true, true, true, true, true, true, true, true, true, true, true, true] rfl rfl (by kernel_rfl) (fun _ _ _ h => h) (Or.inl ⟨by rfl, ?_⟩) ?_ ?_
        rotate_left
        · intro w'
          go_simp
          with_reducible rfl
        rotate_left
        · simp only [Act.put, List.setIfInBounds_toArray, List.set_cons_zero, List.set_cons_succ]
          rfl
        refine done_ (by kernel_rfl) ?_
        go_wp2_with fail
        go_ret
        exact ⟨rfl, HW.out⟩
end Go.Proofs.Ytohhlkabejangaa.Mb

namespace Go.Proofs.Ytohhlkabejangaa.Mb
set_option linter.unusedVariables false
set_option linter.unusedSimpArgs false
open Go.RowKit Go.Maps Go.Sort Go.Proofs.YtohhlkabejangaaW.PrintWords Go.Proofs.YtohhlkabejangaaW.PrintLast Go.Proofs.YtohhlkabejangaaW.PrintMore Go.Proofs.Ytohhlkabejangaa.PAs Go.Proofs.Ytohhlkabejangaa.As Go.Proofs.Ytohhlkabejangaa.Wire
/-! ### the generation does not fall; where it stays, the members stay -/
theorem filter_same {l : List Me} {p : Me → Bool} (h : ¬ (l.filter p).length < l.length) : l.filter p = l :=
  List.Sublist.eq_of_length List.filter_sublist (by have := List.length_filter_le p l; omega)
theorem sweep_same (m : MG) (slot : Int) : m.g ≤ (sweepM m slot).g ∧ ((sweepM m slot).g = m.g → (sweepM m slot).L = m.L) := by
  refine ⟨(sweep_g m slot).2, fun h => ?_⟩
  unfold sweepM at h ⊢
  simp only [] at h ⊢
  by_cases hc : (keepM m.w slot m.L).length < m.L.length
  · rw [if_pos hc] at h
    omega
  · exact filter_same hc
theorem names_put : ∀ (l : List Me) (hr : RisM l) (x : ByteArray) (slot : Int) (h : isM l x.toList = true), namesM (putM l ⟨x, slot⟩) = namesM l
  | [], _, _, _, h => by cases h
  | y :: l, hr, x, slot, h => by
    obtain ⟨h1, h2⟩ := List.pairwise_cons.1 hr
    have hkx : kM (⟨x, slot⟩ : Me) = x.toList := rfl
    unfold putM
    rw [hkx]
    unfold isM at h
    rw [List.any_cons, Bool.or_eq_true, decide_eq_true_eq] at h
    by_cases c1 : x.toList < kM y
    · exfalso
      rcases h with h | h
      · rw [h] at c1
        exact lt_irr _ c1
      · obtain ⟨z, hz, e⟩ := List.any_eq_true.1 h
        have := List.lt_trans c1 (h1 z hz)
        rw [of_decide_eq_true e] at this
        exact lt_irr _ this
    · rw [if_neg c1]
      by_cases c2 : kM y = x.toList
      · rw [if_pos c2]
        unfold namesM
        rw [List.map_cons, List.map_cons]
        congr 1
        exact (toList_inj c2).symm
      · rw [if_neg c2]
        have ih := names_put l h2 x slot (by
          rcases h with h | h
          · exact (c2 h).elim
          · exact h)
        unfold namesM at ih ⊢
        rw [List.map_cons, List.map_cons, ih]
theorem done_same (m : MG) (hr : RisM m.L) (r : Ac) : m.g ≤ (doneM m r).1.g ∧ ((doneM m r).1.g = m.g → namesM (doneM m r).1.L = namesM m.L) := by
  obtain ⟨s1, s2⟩ := sweep_same m r.f3
  have hr2 : RisM (sweepM m r.f3).L := ris_filter hr _
  have base : m.g ≤ m.g ∧ (m.g = m.g → namesM m.L = namesM m.L) := ⟨Int.le_refl _, fun _ => rfl⟩
  have swp : m.g ≤ (sweepM m r.f3).g ∧ ((sweepM m r.f3).g = m.g → namesM (sweepM m r.f3).L = namesM m.L) := ⟨s1, fun h => by rw [s2 h]⟩
  have up : ∀ L : List Me, m.g ≤ (sweepM m r.f3).g + 1 ∧ ((sweepM m r.f3).g + 1 = m.g → namesM L = namesM m.L) := fun L => ⟨by omega, fun h => by omega⟩
  have st : ∀ x slot, isM (sweepM m r.f3).L x.toList = true → m.g ≤ (sweepM m r.f3).g ∧ ((sweepM m r.f3).g = m.g → namesM (setM (sweepM m r.f3) x slot).L = namesM m.L) := fun x slot hi => ⟨s1, fun h => by
    show namesM (putM (sweepM m r.f3).L ⟨x, slot⟩) = _
    rw [names_put _ hr2 x slot hi, s2 h]⟩
  unfold doneM
  split
  · unfold joinM
    split
    · unfold jn
      split
      · rename_i hi
        exact st _ _ hi
      · split
        · exact swp
        · exact up _
    · exact base
  · split
    · unfold leaveM
      split
      · unfold lv
        split
        · exact up _
        · exact swp
      · exact base
    · split
      · unfold beatM
        split
        · unfold bt
          split
          · rename_i hi
            split
            · exact st _ _ hi
            · exact swp
          · exact swp
        · exact base
      · unfold swpM
        split
        · exact swp
        · exact base
theorem Ls.far {W W' : World} {a b c : Nat} {A : Option Addr} {m : MG} {L : List Me} (h : Ls W A c L) (k : Far W W' a b) (hT : Tab W a b m) : Ls W' A c L :=
  ⟨Kd.R_mono (Kd.R_step (Kd.R_bound h.own) (fun i hi hlt => by
    obtain ⟨_, _, _, t, ht, cells, hc⟩ := hi
    have hE : (k150).E = [] := rfl
    rw [hE] at ht
    obtain rfl := List.mem_singleton.1 ht
    refine k.block i hlt (fun e => ?_) (fun e => ?_)
    · subst e
      exact not_me hT.cell (by decide) cells hc
    · subst e
      obtain ⟨es, clock, hb, _⟩ := hT.own
      exact not_me_map hb cells hc)) (fun _ _ => trivial)⟩
end Go.Proofs.Ytohhlkabejangaa.Mb

namespace Go.Proofs.Ytohhlkabejangaa.Mb
set_option linter.unusedVariables false
set_option linter.unusedSimpArgs false
open Go.RowKit Go.Maps Go.Sort Go.Proofs.YtohhlkabejangaaW.PrintWords Go.Proofs.YtohhlkabejangaaW.PrintLast Go.Proofs.YtohhlkabejangaaW.PrintMore Go.Proofs.Ytohhlkabejangaa.PAs Go.Proofs.Ytohhlkabejangaa.As Go.Proofs.Ytohhlkabejangaa.Wire
set_option maxHeartbeats 16000000 in
set_option maxRecDepth 100000 in
theorem macts_out (parts wait : Int) (l : List Ac) (AL : Option Addr) (n k : Nat) (w : World) (hp : Acs k w AL n l) (h : largeA l = true) :
    Calls Try.prog 6 #[.int .i64 parts, .int .i64 wait, .slice AL n k] w fun e w' => e = .returned (.bool true) ∧ Below w.heap.size w w' := by
  have hund : ∀ b, some undef = some (Value.bool b) → False := fun b h => by simp [undef] at h
  obtain ⟨rfl, hnk, hC⟩ := hp
  have hlg := Aside0.mk (largeA_calls AL k l w hC hnk)
  clear hC
  rw [h] at hlg
  clear h
  go_enter Try.func6, Try.ntmps6
  go_wp2_with fail
  refine hlg.out.mono ?_
  rintro e w1 ⟨rfl, hb⟩
  have HB := Aside0.mk hb
  clear hb hlg
  go_wp2_with fail
  refine (out_calls w1).mono ?_
  rintro e wz ⟨rfl, hb⟩
  have HZ := Aside0.mk (below_step HB.out hb)
  clear hb HB
  go_wp2_with fail
  go_ret
  exact ⟨rfl, HZ.out⟩
set_option maxHeartbeats 16000000 in
set_option maxRecDepth 100000 in
theorem macts_bad (parts wait : Int) (l : List Ac) (AL : Option Addr) (n k : Nat) (w : World) (hp : Acs k w AL n l) (h : largeA l = false) (hh : parts < 0 ∨ ¬ parts < 0 ∧ (parts > 4 ∨ ¬ parts > 4 ∧ (wait < 1 ∨ ¬ wait < 1 ∧ wait > 1048576))) :
    Calls Try.prog 6 #[.int .i64 parts, .int .i64 wait, .slice AL n k] w fun e w' => e = .returned (.bool true) ∧ Below w.heap.size w w' := by
  have hund : ∀ b, some undef = some (Value.bool b) → False := fun b h => by simp [undef] at h
  obtain ⟨rfl, hnk, hC⟩ := hp
  have hlg := Aside0.mk (largeA_calls AL k l w hC hnk)
  clear hC
  rw [h] at hlg
  clear h
  have hnew := Aside0.mk (fun W => new_bad parts wait W (by omega))
  rcases hh with h1 | ⟨h1, h2 | ⟨h2, h3 | ⟨h3, h4⟩⟩⟩
  · have d1 : decide (parts < 0) = true := decide_eq_true h1
    clear h1
    go_enter Try.func6, Try.ntmps6
    go_wp2_with fail
    refine hlg.out.mono ?_
    rintro e w1 ⟨rfl, hb⟩
    have HB := Aside0.mk hb
    clear hb hlg
    go_wp2_with fail
    refine (hnew.out w1).mono ?_
    rintro e w2 ⟨rfl, hb⟩
    have n_HB := Aside0.mk (below_step HB.out hb)
    clear HB hb hnew
    have HB := n_HB
    clear n_HB
    go_wp2_with fail
    refine (out_calls w2).mono ?_
    rintro e wz ⟨rfl, hb⟩
    have HZ := Aside0.mk (below_step HB.out hb)
    clear hb HB
    go_wp2_with fail
    go_ret
    exact ⟨rfl, HZ.out⟩
  · have d1 : decide (parts < 0) = false := decide_eq_false h1
    have d2 : decide (parts > 4) = true := decide_eq_true h2
    have d2' : decide (4 < parts) = true := decide_eq_true h2
    clear h1 h2
    go_enter Try.func6, Try.ntmps6
    go_wp2_with fail
    refine hlg.out.mono ?_
    rintro e w1 ⟨rfl, hb⟩
    have HB := Aside0.mk hb
    clear hb hlg
    go_wp2_with fail
    refine (hnew.out w1).mono ?_
    rintro e w2 ⟨rfl, hb⟩
    have n_HB := Aside0.mk (below_step HB.out hb)
    clear HB hb hnew
    have HB := n_HB
    clear n_HB
    go_wp2_with fail
    refine (out_calls w2).mono ?_
    rintro e wz ⟨rfl, hb⟩
    have HZ := Aside0.mk (below_step HB.out hb)
    clear hb HB
    go_wp2_with fail
    go_ret
    exact ⟨rfl, HZ.out⟩
  · have d1 : decide (parts < 0) = false := decide_eq_false h1
    have d2 : decide (parts > 4) = false := decide_eq_false h2
    have d2' : decide (4 < parts) = false := decide_eq_false h2
    have d3 : decide (wait < 1) = true := decide_eq_true h3
    clear h1 h2 h3
    go_enter Try.func6, Try.ntmps6
    go_wp2_with fail
    refine hlg.out.mono ?_
    rintro e w1 ⟨rfl, hb⟩
    have HB := Aside0.mk hb
    clear hb hlg
    go_wp2_with fail
    refine (hnew.out w1).mono ?_
    rintro e w2 ⟨rfl, hb⟩
    have n_HB := Aside0.mk (below_step HB.out hb)
    clear HB hb hnew
    have HB := n_HB
    clear n_HB
    go_wp2_with fail
    refine (out_calls w2).mono ?_
    rintro e wz ⟨rfl, hb⟩
    have HZ := Aside0.mk (below_step HB.out hb)
    clear hb HB
    go_wp2_with fail
    go_ret
    exact ⟨rfl, HZ.out⟩
  · have d1 : decide (parts < 0) = false := decide_eq_false h1
    have d2 : decide (parts > 4) = false := decide_eq_false h2
    have d2' : decide (4 < parts) = false := decide_eq_false h2
    have d3 : decide (wait < 1) = false := decide_eq_false h3
    have d4 : decide (wait > 1048576) = true := decide_eq_true h4
    have d4' : decide (1048576 < wait) = true := decide_eq_true h4
    clear h1 h2 h3 h4
    go_enter Try.func6, Try.ntmps6
    go_wp2_with fail
    refine hlg.out.mono ?_
    rintro e w1 ⟨rfl, hb⟩
    have HB := Aside0.mk hb
    clear hb hlg
    go_wp2_with fail
    refine (hnew.out w1).mono ?_
    rintro e w2 ⟨rfl, hb⟩
    have n_HB := Aside0.mk (below_step HB.out hb)
    clear HB hb hnew
    have HB := n_HB
    clear n_HB
    go_wp2_with fail
    refine (out_calls w2).mono ?_
    rintro e wz ⟨rfl, hb⟩
    have HZ := Aside0.mk (below_step HB.out hb)
    clear hb HB
    go_wp2_with fail
    go_ret
    exact ⟨rfl, HZ.out⟩
set_option maxHeartbeats 16000000 in
set_option maxRecDepth 100000 in
theorem macts_in (parts wait : Int) (l : List Ac) (AL : Option Addr) (n k : Nat) (w : World) (hp : Acs k w AL n l) (h : largeA l = false) (hpp : 0 ≤ parts ∧ parts ≤ 4) (hw1 : 1 ≤ wait) (hw2 : wait ≤ 1048576) :
    Calls Try.prog 6 #[.int .i64 parts, .int .i64 wait, .slice AL n k] w fun e w' => e = .returned (.bool true) ∧ Below w.heap.size w w' := by
  have hund : ∀ b, some undef = some (Value.bool b) → False := fun b h => by simp [undef] at h
  obtain ⟨rfl, hnk, hC⟩ := hp
  have hlg := Aside0.mk (largeA_calls AL k l w hC hnk)
  rw [h] at hlg
  obtain ⟨hl50, hz⟩ := largeA_no h
  have HZ := Aside0.mk hz
  have HC := Aside0.mk hC
  have d1 : decide (parts < 0) = false := decide_eq_false (by omega)
  have d2 : decide (parts > 4) = false := decide_eq_false (by omega)
  have d2' : decide (4 < parts) = false := decide_eq_false (by omega)
  have d3 : decide (wait < 1) = false := decide_eq_false (by omega)
  have d4 : decide (wait > 1048576) = false := decide_eq_false (by omega)
  have d4' : decide (1048576 < wait) = false := decide_eq_false (by omega)
  have hnew := Aside0.mk (fun W => new_calls parts wait W ⟨by omega, by omega, hw1, hw2⟩)
  have HK0 := Aside0.mk (show okM ⟨parts, wait, 0, 0, []⟩ from ⟨hpp, ⟨hw1, hw2⟩, by simp, by simp, by simp, fun x h => by cases h⟩)
  clear h hz hC hw1 hw2 hpp
  go_enter Try.func6, Try.ntmps6
  go_wp2_with fail
  refine hlg.out.mono ?_
  rintro e w1 ⟨rfl, hb⟩
  have HB := Aside0.mk hb
  clear hb hlg
  go_wp2_with fail
  refine (hnew.out w1).mono ?_
  rintro e w2 ⟨a, b, rfl, hT, ha, hbb, hb⟩
  have HA := Aside0.mk (Nat.le_trans HB.out.size ha)
  have HBB := Aside0.mk (Nat.le_trans HB.out.size hbb)
  have HT := Aside0.mk hT
  have n_B := Aside0.mk (below_step HB.out hb)
  clear hT ha hbb hb HB hnew
  have HB := n_B
  clear n_B
  have HX := Aside0.mk (Below.refl w2.heap.size w2)
  go_wp2_with (first
    | ((with_reducible refine gate_dst (N := 9) rfl ?_); refine box_event rfl (N := 9) rfl (cs := #[.int .i64 0, .int .i64 0, .int .i64 0, .int .i64 0, .slice none 0 0]) (t := 51) ?hr ?_; (case hr => first | (go_simp; done) | (go_simp; rfl)); intro g9 hg9 w3 hbx hbl; have n_X := Aside0.mk (below_step HX.out hbl); have G9 := Aside0.mk (show _ ≤ g9 by rw [hg9]; exact HX.out.size); have Y := Aside0.mk hbx; clear HX hbx hbl hg9; have HX := n_X; clear n_X)
    | ((with_reducible refine gate_store (t := 51) (p := 9) rfl ?_); refine store_ev rfl rfl rfl (cells := #[.int .i64 parts, .int .i64 wait, .int .i64 0, .int .i64 0, .slice none 0 0]) rfl rfl Y.out (by kernel_rfl) rfl (by kernel_rfl) ?_; intro w4 hbx hgr; have n_X := Aside0.mk (below_put HX.out G9.out hgr HX.out.size); have n_Y := Aside0.mk hbx; clear HX Y hbx hgr; have HX := n_X; have Y := n_Y; clear n_X n_Y))
  have HQ := Aside0.mk (show w.heap.size ≤ g9 from Nat.le_trans HB.out.size G9.out)
  have HQA := Aside0.mk (show a ≠ g9 from fun e => by have := HT.out.lt; have := G9.out; omega)
  have HQB := Aside0.mk (show b ≠ g9 from fun e => by have := HT.out.own.lt; have := G9.out; omega)
  have n_HT := Aside0.mk (HT.out.later HX.out)
  have n_HB := Aside0.mk (below_step HB.out HX.out)
  clear HT HB HX G9
  have HT := n_HT
  have HB := n_HB
  clear n_HT n_HB
  go_loopw [52] (fun iv wr => ∃ (j : Nat) (m : MG) (A : Option Addr) (c : Nat), j ≤ l.length ∧ iv = .int .i64 j ∧ m.g ≤ 2 * (j : Int) ∧ Aside0 (okM m) ∧ Aside0 (Tab wr a b m) ∧ Aside0 (wr.heap[g9]? = some (.cells #[.int .i64 m.p, .int .i64 m.w, .int .i64 m.g, .int .i64 m.s, .slice A m.L.length c] 51 (0, 0))) ∧ Aside0 (Ls wr A c m.L) ∧ Aside0 (Below w.heap.size w wr)) (fun iv _ => l.length - (intOf iv).toNat)
  case atStart => exact ⟨0, ⟨parts, wait, 0, 0, []⟩, none, 0, Nat.zero_le _, rfl, by simp, HK0, HT, ⟨Y.out⟩, ⟨⟨Kd.R_nil _ _ _ _ _⟩⟩, HB⟩
  case round =>
    clear HB HT HK0 Y
    obtain ⟨j, m, A, c, hj, rfl, hg, HOK, HT, HG, HL, HB⟩ := hrel
    by_cases hjl : j < l.length
    · obtain ⟨ad, rfl, hx⟩ := at_act (Kd.C_below HC.out HB.out) j (by omega) hjl
      have hxs : l[j].f1.size ≤ 1000 := HZ.out _ (List.getElem_mem hjl)
      obtain ⟨x, hxe⟩ : ∃ x, l[j] = x := ⟨_, rfl⟩
      rw [hxe] at hx hxs
      clear hxe
      obtain ⟨x0, x1, x2, x3⟩ := x
      have hcs := Aside0.mk hx
      have hxs : x1.size ≤ 1000 := hxs
      clear hx
      simp only [Ac.cs] at hcs
      have HM1 := Aside0.mk (okM_done HOK.out HT.out.ris ⟨x0, x1, x2, x3⟩)
      have HM2 := done_g m ⟨x0, x1, x2, x3⟩
      obtain ⟨hmo, hsa⟩ := done_same m HT.out.ris ⟨x0, x1, x2, x3⟩
      have HDN := Aside0.mk (fun W (hT : Tab W a b m) => done_calls a b m x0 x1 x2 x3 hxs W hT HOK.out (by omega))
      have HWN := Aside0.mk (fun W (hL : Ls W A c m.L) => want_calls m HOK.out HT.out.ris (by omega) A c x0 x1 x2 x3 hxs W hL)
      obtain ⟨D, hD⟩ : ∃ D, doneM m ⟨x0, x1, x2, x3⟩ = D := ⟨_, rfl⟩
      obtain ⟨m1, n1, e1⟩ := D
      simp only [hD] at HM1 HM2 hmo hsa HDN HWN
      clear hD
      have HSA := Aside0.mk hsa
      have hg1 : m1.g ≤ 2 * ((j : Int) + 1) := by omega
      clear hsa HM2
      have k1 : decide ((j : Int) < (l.length : Int)) = true := decide_eq_true (by omega)
      have k2 : (0 ≤ (j : Int)) = True := eq_true (by omega)
      have k3 : ((j : Int) < (l.length : Int)) = True := eq_true (by omega)
      have HX := Aside0.mk (Below.refl wr.heap.size wr)
      go_wp2_with (first
        | ((with_reducible refine gate_dst (N := 55) rfl ?_); refine load_evm' (N := 55) rfl rfl rfl (cs := #[.int .i64 x0, .string x1, .int .i64 x2, .int .i64 x3]) rfl hcs.out Try.underlying53 rfl (by kernel_rfl) ?_)
        | ((with_reducible refine gate_dst (N := 11) rfl ?_); refine box_event rfl (N := 11) rfl (cs := #[.int .i64 0, .string ⟨#[]⟩, .int .i64 0, .int .i64 0]) (t := 53) ?hr ?_; (case hr => first | (go_simp; done) | (go_simp; rfl)); intro g11 hg11 w5 hbx hbl; have n_X := Aside0.mk (below_step HX.out hbl); have G11 := Aside0.mk (show _ ≤ g11 by rw [hg11]; exact HX.out.size); have Y := Aside0.mk hbx; clear HX hbx hbl hg11; have HX := n_X; clear n_X)
        | ((with_reducible refine gate_store (t := 53) (p := 11) rfl ?_); refine store_ev rfl rfl rfl (cells := #[.int .i64 x0, .string x1, .int .i64 x2, .int .i64 x3]) rfl rfl Y.out (by kernel_rfl) rfl (by kernel_rfl) ?_; intro w6 hbx hgr; have n_X := Aside0.mk (below_put HX.out G11.out hgr HX.out.size); have n_Y := Aside0.mk hbx; clear HX Y hbx hgr; have HX := n_X; have Y := n_Y; clear n_X n_Y)
        | ((with_reducible refine gate_dst (N := 58) rfl ?_); refine load_ev (N := 58) rfl rfl rfl (cs := #[.int .i64 x0, .string x1, .int .i64 x2, .int .i64 x3]) rfl Y.out Try.underlying53 rfl (by kernel_rfl) ?_))
      have n_HT := Aside0.mk (HT.out.later HX.out)
      have n_HG := Aside0.mk ((HX.out.block g9 (blk_lt HG.out)).trans HG.out)
      have n_HL := Aside0.mk (HL.out.later HX.out)
      have n_HB := Aside0.mk (below_step HB.out HX.out)
      clear HT HG HL HB HX hcs
      have HT := n_HT
      have HG := n_HG
      have HL := n_HL
      have HB := n_HB
      clear n_HT n_HG n_HL n_HB
      have HN11 := Aside0.mk (show g11 ≠ a ∧ g11 ≠ b from ⟨fun e => by have h1 := HT.out.cell; rw [← e, Y.out] at h1; simp only [Option.some.injEq, Obj.cells.injEq] at h1; exact absurd h1.2.1 (by decide), fun e => by obtain ⟨_, _, h1, _⟩ := HT.out.own; rw [← e, Y.out] at h1; cases h1⟩)
      refine (HDN.out w6 HT.out).mono ?_
      rintro e w7 ⟨rfl, hT, hF⟩
      have n_HG := Aside0.mk ((hF.block g9 (blk_lt HG.out) (Ne.symm HQA.out) (Ne.symm HQB.out)).trans HG.out)
      have n_Y := Aside0.mk ((hF.block g11 (blk_lt Y.out) HN11.out.1 HN11.out.2).trans Y.out)
      have n_HL := Aside0.mk (HL.out.far hF HT.out)
      have n_HB := Aside0.mk (Far.from HB.out hF HA.out HBB.out)
      have n_HT := Aside0.mk (hT)
      clear HG Y HL HB HT hF hT G11 HN11 HDN HOK
      have HG := n_HG
      have Y := n_Y
      have HL := n_HL
      have HB := n_HB
      have HT := n_HT
      clear n_HG n_Y n_HL n_HB n_HT
      go_wp2_with (first
        | ((with_reducible refine gate_dst (N := 62) rfl ?_); refine load_ev (N := 62) rfl rfl rfl (cs := #[.int .i64 m.p, .int .i64 m.w, .int .i64 m.g, .int .i64 m.s, .slice A m.L.length c]) rfl HG.out Try.underlying51 rfl (by kernel_rfl) ?_)
        | ((with_reducible refine gate_dst (N := 63) rfl ?_); refine load_ev (N := 63) rfl rfl rfl (cs := #[.int .i64 x0, .string x1, .int .i64 x2, .int .i64 x3]) rfl Y.out Try.underlying53 rfl (by kernel_rfl) ?_))
      refine (HWN.out w7 HL.out).mono ?_
      rintro e w8 ⟨A1, c1, rfl, hL1, hb⟩
      have HL1 := Aside0.mk hL1
      clear hL1 HWN
      have n_HT := Aside0.mk (HT.out.later hb)
      have n_HG := Aside0.mk ((hb.block g9 (blk_lt HG.out)).trans HG.out)
      have n_HL := Aside0.mk (HL.out.later hb)
      have n_HB := Aside0.mk (below_step HB.out hb)
      clear HT HG HL HB hb Y
      have HT := n_HT
      have HG := n_HG
      have HL := n_HL
      have HB := n_HB
      clear n_HT n_HG n_HL n_HB
      have HX := Aside0.mk (Below.refl w8.heap.size w8)
      have hnn : (n1 != n1) = false := by simp
      have hee : (e1 != e1) = false := by simp
      go_wp2_with (first
        | ((with_reducible refine gate_dst (N := 14) rfl ?_); refine box_event rfl (N := 14) rfl (cs := #[.int .i64 0, .int .i64 0, .int .i64 0, .int .i64 0, .slice none 0 0, .int .i64 0, .int .i64 0]) (t := 57) ?hr ?_; (case hr => first | (go_simp; done) | (go_simp; rfl)); intro g14 hg14 w9 hbx hbl; have n_X := Aside0.mk (below_step HX.out hbl); have G14 := Aside0.mk (show _ ≤ g14 by rw [hg14]; exact HX.out.size); have Y := Aside0.mk hbx; clear HX hbx hbl hg14; have HX := n_X; clear n_X)
        | ((with_reducible refine gate_store (t := 57) (p := 14) rfl ?_); refine store_ev rfl rfl rfl (cells := #[.int .i64 m1.p, .int .i64 m1.w, .int .i64 m1.g, .int .i64 m1.s, .slice A1 m1.L.length c1, .int .i64 n1, .int .i64 e1]) rfl rfl Y.out (by kernel_rfl) rfl (by kernel_rfl) ?_; intro w10 hbx hgr; have n_X := Aside0.mk (below_put HX.out G14.out hgr HX.out.size); have y5 : w10.cell? ⟨g14, 5, none⟩ = some (.int .i64 n1) := (blk_cell hbx 5).trans rfl; have y6 : w10.cell? ⟨g14, 6, none⟩ = some (.int .i64 e1) := (blk_cell hbx 6).trans rfl; have YP := Aside0.mk (show w10.heap[g14]? = some (.cells ((#[.int .i64 m1.p, .int .i64 m1.w, .int .i64 m1.g, .int .i64 m1.s, .slice A1 m1.L.length c1] : Array Value) ++ (#[.int .i64 n1, .int .i64 e1] : Array Value)) 57 (0, 0)) from hbx); have n_Y := Aside0.mk hbx; clear HX Y hbx hgr; have HX := n_X; have Y := n_Y; clear n_X n_Y)
        | ((with_reducible refine gate_dst (N := 78) rfl ?_); refine load_evp (N := 78) rfl rfl (cs := #[.int .i64 m1.p, .int .i64 m1.w, .int .i64 m1.g, .int .i64 m1.s, .slice A1 m1.L.length c1]) (ex := #[.int .i64 n1, .int .i64 e1]) rfl YP.out Try.underlying51 rfl (by kernel_rfl) ?hw ?_; (case hw => first | rfl | go_simp)))
      have n_HT := Aside0.mk (HT.out.later HX.out)
      have n_HG := Aside0.mk ((HX.out.block g9 (blk_lt HG.out)).trans HG.out)
      have n_HL := Aside0.mk (HL.out.later HX.out)
      have n_HL1 := Aside0.mk (HL1.out.later HX.out)
      have n_HB := Aside0.mk (below_step HB.out HX.out)
      clear HT HG HL HL1 HB HX G14
      have HT := n_HT
      have HG := n_HG
      have HL := n_HL
      have HL1 := n_HL1
      have HB := n_HB
      clear n_HT n_HG n_HL n_HL1 n_HB
      refine (same_calls a b m1 HM1.out A1 c1 w10 HT.out HL1.out).mono ?_
      rintro e w11 ⟨rfl, hb⟩
      have n_HT := Aside0.mk (HT.out.later hb)
      have n_HG := Aside0.mk ((hb.block g9 (blk_lt HG.out)).trans HG.out)
      have n_Y := Aside0.mk ((hb.block g14 (blk_lt Y.out)).trans Y.out)
      have n_YP := Aside0.mk ((hb.block g14 (blk_lt YP.out)).trans YP.out)
      have n_HL := Aside0.mk (HL.out.later hb)
      have n_HL1 := Aside0.mk (HL1.out.later hb)
      have n_HB := Aside0.mk (below_step HB.out hb)
      clear HT HG Y YP HL HL1 HB hb y5 y6
      have HT := n_HT
      have HG := n_HG
      have Y := n_Y
      have YP := n_YP
      have HL := n_HL
      have HL1 := n_HL1
      have HB := n_HB
      clear n_HT n_HG n_Y n_YP n_HL n_HL1 n_HB
      go_wp2_with fail
      by_cases hge : m1.g = m.g
      · have HNE := Aside0.mk (HSA.out hge)
        have d5 : decide (m1.g < m.g) = false := decide_eq_false (by omega)
        have d6 : (m1.g == m.g) = true := by rw [hge]; simp
        have hn8 := HM1.out.n
        have hm8 : m.L.length ≤ 8 := by have h9 := congrArg List.length HNE.out; rw [names_len, names_len] at h9; omega
        clear hge hmo
        refine start_ (n := 23) (S := fun w' => w'.cell? ⟨g14, 2, none⟩ = some (.int .i64 m1.g) ∧ w'.cell? ⟨g9, 2, none⟩ = some (.int .i64 m.g) ∧ w'.heap[g9]? = some (.cells #[.int .i64 m.p, .int .i64 m.w, .int .i64 m.g, .int .i64 m.s, .slice A m.L.length c] 51 (0, 0)) ∧ w'.heap[g14]? = some (.cells ((#[.int .i64 m1.p, .int .i64 m1.w, .int .i64 m1.g, .int .i64 m1.s, .slice A1 m1.L.length c1] : Array Value) ++ (#[.int .i64 n1, .int .i64 e1] : Array Value)) 57 (0, 0))) (ds := []) #[false, false, false, false, false, false, false, false, false, false, false, false, false, false, false, false, false, false, false, false, false, false, false] (by kernel_rfl) rfl rfl ⟨(blk_cell Y.out 2).trans rfl, (blk_cell HG.out 2).trans rfl, HG.out, YP.out⟩ (fun _ => ?_)
        have n_HT := Aside0.mk (HT.out.later (below_drew1 (Below.refl _ _)))
        have n_HG := Aside0.mk (show w11.drew.heap[g9]? = some (.cells #[.int .i64 m.p, .int .i64 m.w, .int .i64 m.g, .int .i64 m.s, .slice A m.L.length c] 51 (0, 0)) from HG.out)
        have n_Y := Aside0.mk (show w11.drew.heap[g14]? = some (.cells #[.int .i64 m1.p, .int .i64 m1.w, .int .i64 m1.g, .int .i64 m1.s, .slice A1 m1.L.length c1, .int .i64 n1, .int .i64 e1] 57 (0, 0)) from Y.out)
        have n_YP := Aside0.mk (show w11.drew.heap[g14]? = some (.cells ((#[.int .i64 m1.p, .int .i64 m1.w, .int .i64 m1.g, .int .i64 m1.s, .slice A1 m1.L.length c1] : Array Value) ++ (#[.int .i64 n1, .int .i64 e1] : Array Value)) 57 (0, 0)) from YP.out)
        have n_HL := Aside0.mk (HL.out.later (below_drew1 (Below.refl _ _)))
        have n_HL1 := Aside0.mk (HL1.out.later (below_drew1 (Below.refl _ _)))
        have n_HB := Aside0.mk (below_drew1 HB.out)
        clear HT HG Y YP HL HL1 HB
        have HT := n_HT
        have HG := n_HG
        have Y := n_Y
        have YP := n_YP
        have HL := n_HL
        have HL1 := n_HL1
        have HB := n_HB
        clear n_HT n_HG n_Y n_YP n_HL n_HL1 n_HB
        generalize w11.drew = V0 at *
        refine pure_ (i := 0) (N := some 82) (v := ?_) (a' := ?_) #[true, false, false, false, false, false, false, false, false, false, false, false, false, false, false, false, false, false, false, false, false, false, false] rfl rfl (by kernel_rfl) (fun _ _ _ h => h) (Or.inl ⟨by rfl, ?_⟩) ?_ ?_
        rotate_left
        · intro w'
          go_simp
          with_reducible rfl
        rotate_left
        · simp only [Act.put, List.setIfInBounds_toArray, List.set_cons_zero, List.set_cons_succ]
          rfl
        refine pure_ (i := 1) (N := some 83) (v := ?_) (a' := ?_) #[true, true, false, false, false, false, false, false, false, false, false, false, false, false, false, false, false, false, false, false, false, false, false] rfl rfl (by kernel_rfl) (fun _ _ _ h => h) (Or.inl ⟨by rfl, ?_⟩) ?_ ?_
        rotate_left
        · intro w'
          go_simp
          with_reducible rfl
        rotate_left
        · simp only [Act.put, List.setIfInBounds_toArray, List.set_cons_zero, List.set_cons_succ]
          rfl
        refine take_ (i := 2) (N := some 84) (v := ?_) (a' := ?_) #[true, true, true, false, false, false, false, false, false, false, false, false, false, false, false, false, false, false, false, false, false, false, false] rfl rfl (by kernel_rfl) (fun _ _ _ h => h) (Or.inl ⟨by rfl, ?_⟩) ⟨(blk_cell Y.out 2).trans rfl, (blk_cell HG.out 2).trans rfl, HG.out, YP.out⟩ ?_ ?_
        rotate_left
        · intro w' hS
          obtain ⟨h1, h2, h3, h4⟩ := hS
          go_simp
          with_reducible rfl
        rotate_left
        · simp only [Act.put, List.setIfInBounds_toArray, List.set_cons_zero, List.set_cons_succ]
          rfl
        refine pure_ (i := 3) (N := some 85) (v := ?_) (a' := ?_) #[true, true, true, true, false, false, false, false, false, false, false, false, false, false, false, false, false, false, false, false, false, false, false] rfl rfl (by kernel_rfl) (fun _ _ _ h => h) (Or.inl ⟨by rfl, ?_⟩) ?_ ?_
        rotate_left
        · intro w'
          go_simp
          with_reducible rfl
        rotate_left
        · simp only [Act.put, List.setIfInBounds_toArray, List.set_cons_zero, List.set_cons_succ]
          rfl
        refine take_ (i := 4) (N := some 86) (v := ?_) (a' := ?_) #[true, true, true, true, true, false, false, false, false, false, false, false, false, false, false, false, false, false, false, false, false, false, false] rfl rfl (by kernel_rfl) (fun _ _ _ h => h) (Or.inl ⟨by rfl, ?_⟩) ⟨(blk_cell Y.out 2).trans rfl, (blk_cell HG.out 2).trans rfl, HG.out, YP.out⟩ ?_ ?_
        rotate_left
        · intro w' hS
          obtain ⟨h1, h2, h3, h4⟩ := hS
          go_simp
          with_reducible rfl
        rotate_left
        · simp only [Act.put, List.setIfInBounds_toArray, List.set_cons_zero, List.set_cons_succ]
          rfl
        refine pure_ (i := 5) (N := some 87) (v := ?_) (a' := ?_) #[true, true, true, true, true, true, false, false, false, false, false, false, false, false, false, false, false, false, false, false, false, false, false] rfl rfl (by kernel_rfl) (fun _ _ _ h => h) (Or.inl ⟨by rfl, ?_⟩) ?_ ?_
        rotate_left
        · intro w'
          go_simp
          with_reducible rfl
        rotate_left
        · simp only [Act.put, List.setIfInBounds_toArray, List.set_cons_zero, List.set_cons_succ]
          rfl
        refine pure_ (i := 6) (N := some 88) (v := ?_) (a' := ?_) #[true, true, true, true, true, true, true, false, false, false, false, false, false, false, false, false, false, false, false, false, false, false, false] rfl rfl (by kernel_rfl) (fun _ _ _ h => h) (Or.inl ⟨by rfl, ?_⟩) ?_ ?_
        rotate_left
        · intro w'
          go_simp
          with_reducible rfl
        rotate_left
        · simp only [Act.put, List.setIfInBounds_toArray, List.set_cons_zero, List.set_cons_succ]
          rfl
        refine pure_ (i := 7) (N := some 89) (v := ?_) (a' := ?_) #[true, true, true, true, true, true, true, true, false, false, false, false, false, false, false, false, false, false, false, false, false, false, false] rfl rfl (by kernel_rfl) (fun _ _ _ h => h) (Or.inl ⟨by rfl, ?_⟩) ?_ ?_
        rotate_left
        · intro w'
          go_simp
          with_reducible rfl
        rotate_left
        · simp only [Act.put, List.setIfInBounds_toArray, List.set_cons_zero, List.set_cons_succ]
          rfl
        refine pure_ (i := 8) (N := some 90) (v := ?_) (a' := ?_) #[true, true, true, true, true, true, true, true, true, false, false, false, false, false, false, false, false, false, false, false, false, false, false] rfl rfl (by kernel_rfl) (fun _ _ _ h => h) (Or.inl ⟨by rfl, ?_⟩) ?_ ?_
        rotate_left
        · intro w'
          go_simp
          with_reducible rfl
        rotate_left
        · simp only [Act.put, List.setIfInBounds_toArray, List.set_cons_zero, List.set_cons_succ]
          rfl
        refine take_ (i := 9) (N := some 91) (v := ?_) (a' := ?_) #[true, true, true, true, true, true, true, true, true, true, false, false, false, false, false, false, false, false, false, false, false, false, false] rfl rfl (by kernel_rfl) (fun _ _ _ h => h) (Or.inl ⟨by rfl, ?_⟩) ⟨(blk_cell Y.out 2).trans rfl, (blk_cell HG.out 2).trans rfl, HG.out, YP.out⟩ ?_ ?_
        rotate_left
        · intro w' hS
          obtain ⟨h1, h2, h3, h4⟩ := hS
          go_simp
          with_reducible rfl
        rotate_left
        · simp only [Act.put, List.setIfInBounds_toArray, List.set_cons_zero, List.set_cons_succ]
          rfl
        refine pure_ (i := 10) (N := some 92) (v := ?_) (a' := ?_) #[true, true, true, true, true, true, true, true, true, true, true, false, false, false, false, false, false, false, false, false, false, false, false] rfl rfl (by kernel_rfl) (fun _ _ _ h => h) (Or.inl ⟨by rfl, ?_⟩) ?_ ?_
        rotate_left
        · intro w'
          go_simp
          with_reducible rfl
        rotate_left
        · simp only [Act.put, List.setIfInBounds_toArray, List.set_cons_zero, List.set_cons_succ]
          rfl
        refine take_ (i := 11) (N := some 93) (v := ?_) (a' := ?_) #[true, true, true, true, true, true, true, true, true, true, true, true, false, false, false, false, false, false, false, false, false, false, false] rfl rfl (by kernel_rfl) (fun _ _ _ h => h) (Or.inl ⟨by rfl, ?_⟩) ⟨(blk_cell Y.out 2).trans rfl, (blk_cell HG.out 2).trans rfl, HG.out, YP.out⟩ ?_ ?_
        rotate_left
        · intro w' hS
          obtain ⟨h1, h2, h3, h4⟩ := hS
          go_simp
          with_reducible rfl
        rotate_left
        · simp only [Act.put, List.setIfInBounds_toArray, List.set_cons_zero, List.set_cons_succ]
          rfl
        refine pure_ (i := 12) (N := some 94) (v := ?_) (a' := ?_) #[true, true, true, true, true, true, true, true, true, true, true, true, true, false, false, false, false, false, false, false, false, false, false] rfl rfl (by kernel_rfl) (fun _ _ _ h => h) (Or.inl ⟨by rfl, ?_⟩) ?_ ?_
        rotate_left
        · intro w'
          go_simp
          with_reducible rfl
        rotate_left
        · simp only [Act.put, List.setIfInBounds_toArray, List.set_cons_zero, List.set_cons_succ]
          rfl
        refine pure_ (i := 13) (N := some 95) (v := ?_) (a' := ?_) #[true, true, true, true, true, true, true, true, true, true, true, true, true, true, false, false, false, false, false, false, false, false, false] rfl rfl (by kernel_rfl) (fun _ _ _ h => h) (Or.inl ⟨by rfl, ?_⟩) ?_ ?_
        rotate_left
        · intro w'
          go_simp
          with_reducible rfl
        rotate_left
        · simp only [Act.put, List.setIfInBounds_toArray, List.set_cons_zero, List.set_cons_succ]
          rfl
        refine pure_ (i := 14) (N := some 96) (v := ?_) (a' := ?_) #[true, true, true, true, true, true, true, true, true, true, true, true, true, true, true, false, false, false, false, false, false, false, false] rfl rfl (by kernel_rfl) (fun _ _ _ h => h) (Or.inl ⟨by rfl, ?_⟩) ?_ ?_
        rotate_left
        · intro w'
          go_simp
          with_reducible rfl
        rotate_left
        · simp only [Act.put, List.setIfInBounds_toArray, List.set_cons_zero, List.set_cons_succ]
          rfl
        refine take_ (i := 15) (N := some 97) (v := .agg #[.int .i64 m1.p, .int .i64 m1.w, .int .i64 m1.g, .int .i64 m1.s, .slice A1 m1.L.length c1]) (a' := ?_) #[true, true, true, true, true, true, true, true, true, true, true, true, true, true, true, true, false, false, false, false, false, false, false] rfl rfl (by kernel_rfl) (fun _ _ _ h => h) (Or.inl ⟨by rfl, fun w' hS => loadp_run' (p := 96) (cs := #[.int .i64 m1.p, .int .i64 m1.w, .int .i64 m1.g, .int .i64 m1.s, .slice A1 m1.L.length c1]) (ex := #[.int .i64 n1, .int .i64 e1]) rfl rfl hS.2.2.2 Try.underlying51 rfl (by kernel_rfl)⟩) ⟨(blk_cell Y.out 2).trans rfl, (blk_cell HG.out 2).trans rfl, HG.out, YP.out⟩ ?_ ?_
        rotate_left
        · simp only [Act.put, List.setIfInBounds_toArray, List.set_cons_zero, List.set_cons_succ]
          rfl
        refine take_ (i := 17) (N := some 99) (v := .agg #[.int .i64 m.p, .int .i64 m.w, .int .i64 m.g, .int .i64 m.s, .slice A m.L.length c]) (a' := ?_) #[true, true, true, true, true, true, true, true, true, true, true, true, true, true, true, true, false, true, false, false, false, false, false] rfl rfl (by kernel_rfl) (fun _ _ _ h => h) (Or.inl ⟨by rfl, fun w' hS => load_run' (p := 9) rfl rfl hS.2.2.1 Try.underlying51 rfl (by kernel_rfl)⟩) ⟨(blk_cell Y.out 2).trans rfl, (blk_cell HG.out 2).trans rfl, HG.out, YP.out⟩ ?_ ?_
        rotate_left
        · simp only [Act.put, List.setIfInBounds_toArray, List.set_cons_zero, List.set_cons_succ]
          rfl
        refine one_ (i := 16) (N := some 98) #[true, true, true, true, true, true, true, true, true, true, true, true, true, true, true, true, true, true, false, false, false, false, false] rfl rfl (by kernel_rfl) (by simp) (fun K hK => ?_)
        refine goes_ Try.func33 (by kernel_rfl) rfl #[.agg #[.int .i64 m1.p, .int .i64 m1.w, .int .i64 m1.g, .int .i64 m1.s, .slice A1 m1.L.length c1]] (by rfl) rfl rfl (by simp only [List.map_toArray, List.map_cons, List.map_nil] <;> rfl) ?_
        refine (rnames_calls m1 hn8 A1 c1 V0 HL1.out).mono ?_
        rintro e V1 ⟨u1, rfl, hR, hb⟩
        obtain ⟨B1, b1, rfl, hb1, hC1⟩ := Kd.R_reads hR
        have n_HT := Aside0.mk (HT.out.later hb)
        have n_HG := Aside0.mk ((hb.block g9 (blk_lt HG.out)).trans HG.out)
        have n_Y := Aside0.mk ((hb.block g14 (blk_lt Y.out)).trans Y.out)
        have n_YP := Aside0.mk ((hb.block g14 (blk_lt YP.out)).trans YP.out)
        have n_HL := Aside0.mk (HL.out.later hb)
        have n_HL1 := Aside0.mk (HL1.out.later hb)
        have n_HB := Aside0.mk (below_step HB.out hb)
        clear HT HG Y YP HL HL1 HB hb hR
        have HT := n_HT
        have HG := n_HG
        have Y := n_Y
        have YP := n_YP
        have HL := n_HL
        have HL1 := n_HL1
        have HB := n_HB
        clear n_HT n_HG n_Y n_YP n_HL n_HL1 n_HB
        have HC1 := Aside0.mk hC1
        clear hC1
        refine ⟨_, rfl, hK.out _ _ ⟨(blk_cell Y.out 2).trans rfl, (blk_cell HG.out 2).trans rfl, HG.out, YP.out⟩ (fun _ => ?_)⟩
        clear hK K
        refine norm_ (a' := ?_) ?_ ?_
        rotate_left
        · simp only [Act.put, List.setIfInBounds_toArray, List.set_cons_zero, List.set_cons_succ]
          rfl
        refine one_ (i := 18) (N := some 100) #[true, true, true, true, true, true, true, true, true, true, true, true, true, true, true, true, true, true, true, false, false, false, false] rfl rfl (by kernel_rfl) (by simp) (fun K hK => ?_)
        refine goes_ Try.func33 (by kernel_rfl) rfl #[.agg #[.int .i64 m.p, .int .i64 m.w, .int .i64 m.g, .int .i64 m.s, .slice A m.L.length c]] (by rfl) rfl rfl (by simp only [List.map_toArray, List.map_cons, List.map_nil] <;> rfl) ?_
        refine (rnames_calls m hm8 A c V1 HL.out).mono ?_
        rintro e V2 ⟨u2, rfl, hR, hb⟩
        rw [← HNE.out] at hR
        obtain ⟨B2, b2, rfl, hb2, hC2⟩ := Kd.R_reads hR
        have n_HT := Aside0.mk (HT.out.later hb)
        have n_HG := Aside0.mk ((hb.block g9 (blk_lt HG.out)).trans HG.out)
        have n_Y := Aside0.mk ((hb.block g14 (blk_lt Y.out)).trans Y.out)
        have n_YP := Aside0.mk ((hb.block g14 (blk_lt YP.out)).trans YP.out)
        have n_HL := Aside0.mk (HL.out.later hb)
        have n_HL1 := Aside0.mk (HL1.out.later hb)
        have n_HB := Aside0.mk (below_step HB.out hb)
        have n_HC1 := Aside0.mk (Kd.C_below HC1.out hb)
        clear HT HG Y YP HL HL1 HB HC1 hb hR
        have HT := n_HT
        have HG := n_HG
        have Y := n_Y
        have YP := n_YP
        have HL := n_HL
        have HL1 := n_HL1
        have HB := n_HB
        have HC1 := n_HC1
        clear n_HT n_HG n_Y n_YP n_HL n_HL1 n_HB n_HC1
        have HC2 := Aside0.mk hC2
        clear hC2
        refine ⟨_, rfl, hK.out _ _ ⟨(blk_cell Y.out 2).trans rfl, (blk_cell HG.out 2).trans rfl, HG.out, YP.out⟩ (fun _ => ?_)⟩
        clear hK K
        refine norm_ (a' := ?_) ?_ ?_
        rotate_left
        · simp only [Act.put, List.setIfInBounds_toArray, List.set_cons_zero, List.set_cons_succ]
          rfl
        refine one_ (i := 19) (N := some 101) #[true, true, true, true, true, true, true, true, true, true, true, true, true, true, true, true, true, true, true, true, false, false, false] rfl rfl (by kernel_rfl) (by simp) (fun K hK => ?_)
        refine goes_ Try.func26 (by kernel_rfl) rfl #[.slice B1 (namesM m1.L).length b1, .slice B2 (namesM m1.L).length b2] (by rfl) rfl rfl (by simp only [List.map_toArray, List.map_cons, List.map_nil] <;> rfl) ?_
        refine (texts_calls B1 B2 b1 b2 (namesM m1.L) (by rw [names_len]; omega) hb1 hb2 V2 HC1.out HC2.out).mono ?_
        rintro e V3 ⟨rfl, hb⟩
        have n_HT := Aside0.mk (HT.out.later hb)
        have n_HG := Aside0.mk ((hb.block g9 (blk_lt HG.out)).trans HG.out)
        have n_Y := Aside0.mk ((hb.block g14 (blk_lt Y.out)).trans Y.out)
        have n_YP := Aside0.mk ((hb.block g14 (blk_lt YP.out)).trans YP.out)
        have n_HL := Aside0.mk (HL.out.later hb)
        have n_HL1 := Aside0.mk (HL1.out.later hb)
        have n_HB := Aside0.mk (below_step HB.out hb)
        clear HT HG Y YP HL HL1 HB hb HC1 HC2
        have HT := n_HT
        have HG := n_HG
        have Y := n_Y
        have YP := n_YP
        have HL := n_HL
        have HL1 := n_HL1
        have HB := n_HB
        clear n_HT n_HG n_Y n_YP n_HL n_HL1 n_HB
        refine ⟨_, rfl, hK.out _ _ ⟨(blk_cell Y.out 2).trans rfl, (blk_cell HG.out 2).trans rfl, HG.out, YP.out⟩ (fun _ => ?_)⟩
        clear hK K
        refine norm_ (a' := ?_) ?_ ?_
        rotate_left
        · simp only [Act.put, List.setIfInBounds_toArray, List.set_cons_zero, List.set_cons_succ]
          rfl
        refine pure_ (i := 20) (N := some 102) (v := ?_) (a' := ?_) #[true, true, true, true, true, true, true, true, true, true, true, true, true, true, true, true, true, true, true, true, true, false, false] rfl rfl (by kernel_rfl) (fun _ _ _ h => h) (Or.inl ⟨by rfl, ?_⟩) ?_ ?_
        rotate_left
        · intro w'
          go_simp
          with_reducible rfl
        rotate_left
        · simp only [Act.put, List.setIfInBounds_toArray, List.set_cons_zero, List.set_cons_succ]
          rfl
        refine pure_ (i := 21) (N := some 103) (v := ?_) (a' := ?_) #[true, true, true, true, true, true, true, true, true, true, true, true, true, true, true, true, true, true, true, true, true, true, false] rfl rfl (by kernel_rfl) (fun _ _ _ h => h) (Or.inl ⟨by rfl, ?_⟩) ?_ ?_
        rotate_left
        · intro w'
          go_simp
          with_reducible rfl
        rotate_left
        · simp only [Act.put, List.setIfInBounds_toArray, List.set_cons_zero, List.set_cons_succ]
          rfl
        refine pure_ (i := 22) (N := some 104) (v := ?_) (a' := ?_) #[true, true, true, true, true, true, true, true, true, true, true, true, true, true, true, true, true, true, true, true, true, true, true] rfl rfl (by kernel_rfl) (fun _ _ _ h => h) (Or.inl ⟨by rfl, ?_⟩) ?_ ?_
        rotate_left
        · intro w'
          go_simp
          with_reducible rfl
        rotate_left
        · simp only [Act.put, List.setIfInBounds_toArray, List.set_cons_zero, List.set_cons_succ]
          rfl
        refine done_ (by kernel_rfl) ?_
        go_wp2_with (first
          | ((with_reducible refine gate_dst (N := 106) rfl ?_); refine load_evp (N := 106) rfl rfl (cs := #[.int .i64 m1.p, .int .i64 m1.w, .int .i64 m1.g, .int .i64 m1.s, .slice A1 m1.L.length c1]) (ex := #[.int .i64 n1, .int .i64 e1]) rfl YP.out Try.underlying51 rfl (by kernel_rfl) ?hw ?_; (case hw => first | rfl | go_simp))
          | ((with_reducible refine gate_store (t := 51) (p := 9) rfl ?_); refine store_ev rfl rfl rfl (cells := #[.int .i64 m1.p, .int .i64 m1.w, .int .i64 m1.g, .int .i64 m1.s, .slice A1 m1.L.length c1]) rfl rfl HG.out (by kernel_rfl) rfl (by kernel_rfl) ?_; intro wz hbx hgr; have n_HT := Aside0.mk (HT.out.far hgr HQA.out HQB.out); have n_HL1 := Aside0.mk (HL1.out.put hgr (not_me HG.out (by decide))); have n_HB := Aside0.mk (below_put HB.out HQ.out hgr HB.out.size); have n_HG := Aside0.mk ((show wz.heap[g9]? = some (.cells #[.int .i64 m1.p, .int .i64 m1.w, .int .i64 m1.g, .int .i64 m1.s, .slice A1 m1.L.length c1] 51 (0, 0)) from hbx)); clear HT HL1 HB HG hbx hgr; have HT := n_HT; have HL1 := n_HL1; have HB := n_HB; have HG := n_HG; clear n_HT n_HL1 n_HB n_HG))
        go_roundw
        case rel => exact ⟨j + 1, m1, A1, c1, by omega, by first | rfl | simp, by omega, HM1, HT, HG, HL1, HB⟩
        case measure => simp [intOf]; omega
      · have d5 : decide (m1.g < m.g) = false := decide_eq_false (by omega)
        have d6 : (m1.g == m.g) = false := beq_eq_false_iff_ne.2 hge
        clear hge hmo
        refine start_ (n := 23) (S := fun w' => w'.cell? ⟨g14, 2, none⟩ = some (.int .i64 m1.g) ∧ w'.cell? ⟨g9, 2, none⟩ = some (.int .i64 m.g) ∧ w'.heap[g9]? = some (.cells #[.int .i64 m.p, .int .i64 m.w, .int .i64 m.g, .int .i64 m.s, .slice A m.L.length c] 51 (0, 0)) ∧ w'.heap[g14]? = some (.cells ((#[.int .i64 m1.p, .int .i64 m1.w, .int .i64 m1.g, .int .i64 m1.s, .slice A1 m1.L.length c1] : Array Value) ++ (#[.int .i64 n1, .int .i64 e1] : Array Value)) 57 (0, 0))) (ds := []) #[false, false, false, false, false, false, false, false, false, false, false, false, false, false, false, false, false, false, false, false, false, false, false] (by kernel_rfl) rfl rfl ⟨(blk_cell Y.out 2).trans rfl, (blk_cell HG.out 2).trans rfl, HG.out, YP.out⟩ (fun _ => ?_)
        have n_HT := Aside0.mk (HT.out.later (below_drew1 (Below.refl _ _)))
        have n_HG := Aside0.mk (show w11.drew.heap[g9]? = some (.cells #[.int .i64 m.p, .int .i64 m.w, .int .i64 m.g, .int .i64 m.s, .slice A m.L.length c] 51 (0, 0)) from HG.out)
        have n_Y := Aside0.mk (show w11.drew.heap[g14]? = some (.cells #[.int .i64 m1.p, .int .i64 m1.w, .int .i64 m1.g, .int .i64 m1.s, .slice A1 m1.L.length c1, .int .i64 n1, .int .i64 e1] 57 (0, 0)) from Y.out)
        have n_YP := Aside0.mk (show w11.drew.heap[g14]? = some (.cells ((#[.int .i64 m1.p, .int .i64 m1.w, .int .i64 m1.g, .int .i64 m1.s, .slice A1 m1.L.length c1] : Array Value) ++ (#[.int .i64 n1, .int .i64 e1] : Array Value)) 57 (0, 0)) from YP.out)
        have n_HL := Aside0.mk (HL.out.later (below_drew1 (Below.refl _ _)))
        have n_HL1 := Aside0.mk (HL1.out.later (below_drew1 (Below.refl _ _)))
        have n_HB := Aside0.mk (below_drew1 HB.out)
        clear HT HG Y YP HL HL1 HB
        have HT := n_HT
        have HG := n_HG
        have Y := n_Y
        have YP := n_YP
        have HL := n_HL
        have HL1 := n_HL1
        have HB := n_HB
        clear n_HT n_HG n_Y n_YP n_HL n_HL1 n_HB
        generalize w11.drew = V0 at *
        refine pure_ (i := 0) (N := some 82) (v := ?_) (a' := ?_) #[true, false, false, false, false, false, false, false, false, false, false, false, false, false, false, false, false, false, false, false, false, false, false] rfl rfl (by kernel_rfl) (fun _ _ _ h => h) (Or.inl ⟨by rfl, ?_⟩) ?_ ?_
        rotate_left
        · intro w'
          go_simp
          with_reducible rfl
        rotate_left
        · simp only [Act.put, List.setIfInBounds_toArray, List.set_cons_zero, List.set_cons_succ]
          rfl
        refine pure_ (i := 1) (N := some 83) (v := ?_) (a' := ?_) #[true, true, false, false, false, false, false, false, false, false, false, false, false, false, false, false, false, false, false, false, false, false, false] rfl rfl (by kernel_rfl) (fun _ _ _ h => h) (Or.inl ⟨by rfl, ?_⟩) ?_ ?_
        rotate_left
        · intro w'
          go_simp
          with_reducible rfl
        rotate_left
        · simp only [Act.put, List.setIfInBounds_toArray, List.set_cons_zero, List.set_cons_succ]
          rfl
        refine take_ (i := 2) (N := some 84) (v := ?_) (a' := ?_) #[true, true, true, false, false, false, false, false, false, false, false, false, false, false, false, false, false, false, false, false, false, false, false] rfl rfl (by kernel_rfl) (fun _ _ _ h => h) (Or.inl ⟨by rfl, ?_⟩) ⟨(blk_cell Y.out 2).trans rfl, (blk_cell HG.out 2).trans rfl, HG.out, YP.out⟩ ?_ ?_
        rotate_left
        · intro w' hS
          obtain ⟨h1, h2, h3, h4⟩ := hS
          go_simp
          with_reducible rfl
        rotate_left
        · simp only [Act.put, List.setIfInBounds_toArray, List.set_cons_zero, List.set_cons_succ]
          rfl
        refine pure_ (i := 3) (N := some 85) (v := ?_) (a' := ?_) #[true, true, true, true, false, false, false, false, false, false, false, false, false, false, false, false, false, false, false, false, false, false, false] rfl rfl (by kernel_rfl) (fun _ _ _ h => h) (Or.inl ⟨by rfl, ?_⟩) ?_ ?_
        rotate_left
        · intro w'
          go_simp
          with_reducible rfl
        rotate_left
        · simp only [Act.put, List.setIfInBounds_toArray, List.set_cons_zero, List.set_cons_succ]
          rfl
        refine take_ (i := 4) (N := some 86) (v := ?_) (a' := ?_) #[true, true, true, true, true, false, false, false, false, false, false, false, false, false, false, false, false, false, false, false, false, false, false] rfl rfl (by kernel_rfl) (fun _ _ _ h => h) (Or.inl ⟨by rfl, ?_⟩) ⟨(blk_cell Y.out 2).trans rfl, (blk_cell HG.out 2).trans rfl, HG.out, YP.out⟩ ?_ ?_
        rotate_left
        · intro w' hS
          obtain ⟨h1, h2, h3, h4⟩ := hS
          go_simp
          with_reducible rfl
        rotate_left
        · simp only [Act.put, List.setIfInBounds_toArray, List.set_cons_zero, List.set_cons_succ]
          rfl
        refine pure_ (i := 5) (N := some 87) (v := ?_) (a' := ?_) #[true, true, true, true, true, true, false, false, false, false, false, false, false, false, false, false, false, false, false, false, false, false, false] rfl rfl (by kernel_rfl) (fun _ _ _ h => h) (Or.inl ⟨by rfl, ?_⟩) ?_ ?_
        rotate_left
        · intro w'
          go_simp
          with_reducible rfl
        rotate_left
        · simp only [Act.put, List.setIfInBounds_toArray, List.set_cons_zero, List.set_cons_succ]
          rfl
        refine pure_ (i := 6) (N := some 88) (v := ?_) (a' := ?_) #[true, true, true, true, true, true, true, false, false, false, false, false, false, false, false, false, false, false, false, false, false, false, false] rfl rfl (by kernel_rfl) (fun _ _ _ h => h) (Or.inl ⟨by rfl, ?_⟩) ?_ ?_
        rotate_left
        · intro w'
          go_simp
          with_reducible rfl
        rotate_left
        · simp only [Act.put, List.setIfInBounds_toArray, List.set_cons_zero, List.set_cons_succ]
          rfl
        refine pure_ (i := 7) (N := some 89) (v := ?_) (a' := ?_) #[true, true, true, true, true, true, true, true, false, false, false, false, false, false, false, false, false, false, false, false, false, false, false] rfl rfl (by kernel_rfl) (fun _ _ _ h => h) (Or.inl ⟨by rfl, ?_⟩) ?_ ?_
        rotate_left
        · intro w'
          go_simp
          with_reducible rfl
        rotate_left
        · simp only [Act.put, List.setIfInBounds_toArray, List.set_cons_zero, List.set_cons_succ]
          rfl
        refine pure_ (i := 8) (N := some 90) (v := ?_) (a' := ?_) #[true, true, true, true, true, true, true, true, true, false, false, false, false, false, false, false, false, false, false, false, false, false, false] rfl rfl (by kernel_rfl) (fun _ _ _ h => h) (Or.inl ⟨by rfl, ?_⟩) ?_ ?_
        rotate_left
        · intro w'
          go_simp
          with_reducible rfl
        rotate_left
        · simp only [Act.put, List.setIfInBounds_toArray, List.set_cons_zero, List.set_cons_succ]
          rfl
        refine take_ (i := 9) (N := some 91) (v := ?_) (a' := ?_) #[true, true, true, true, true, true, true, true, true, true, false, false, false, false, false, false, false, false, false, false, false, false, false] rfl rfl (by kernel_rfl) (fun _ _ _ h => h) (Or.inl ⟨by rfl, ?_⟩) ⟨(blk_cell Y.out 2).trans rfl, (blk_cell HG.out 2).trans rfl, HG.out, YP.out⟩ ?_ ?_
        rotate_left
        · intro w' hS
          obtain ⟨h1, h2, h3, h4⟩ := hS
          go_simp
          with_reducible rfl
        rotate_left
        · simp only [Act.put, List.setIfInBounds_toArray, List.set_cons_zero, List.set_cons_succ]
          rfl
        refine pure_ (i := 10) (N := some 92) (v := ?_) (a' := ?_) #[true, true, true, true, true, true, true, true, true, true, true, false, false, false, false, false, false, false, false, false, false, false, false] rfl rfl (by kernel_rfl) (fun _ _ _ h => h) (Or.inl ⟨by rfl, ?_⟩) ?_ ?_
        rotate_left
        · intro w'
          go_simp
          with_reducible rfl
        rotate_left
        · simp only [Act.put, List.setIfInBounds_toArray, List.set_cons_zero, List.set_cons_succ]
          rfl
        refine take_ (i := 11) (N := some 93) (v := ?_) (a' := ?_) #[true, true, true, true, true, true, true, true, true, true, true, true, false, false, false, false, false, false, false, false, false, false, false] rfl rfl (by kernel_rfl) (fun _ _ _ h => h) (Or.inl ⟨by rfl, ?_⟩) ⟨(blk_cell Y.out 2).trans rfl, (blk_cell HG.out 2).trans rfl, HG.out, YP.out⟩ ?_ ?_
        rotate_left
        · intro w' hS
          obtain ⟨h1, h2, h3, h4⟩ := hS
          go_simp
          with_reducible rfl
        rotate_left
        · simp only [Act.put, List.setIfInBounds_toArray, List.set_cons_zero, List.set_cons_succ]
          rfl
        refine pure_ (i := 12) (N := some 94) (v := ?_) (a' := ?_) #[true, true, true, true, true, true, true, true, true, true, true, true, true, false, false, false, false, false, false, false, false, false, false] rfl rfl (by kernel_rfl) (fun _ _ _ h => h) (Or.inl ⟨by rfl, ?_⟩) ?_ ?_
        rotate_left
        · intro w'
          go_simp
          with_reducible rfl
        rotate_left
        · simp only [Act.put, List.setIfInBounds_toArray, List.set_cons_zero, List.set_cons_succ]
          rfl
        refine pure_ (i := 13) (N := some 95) (v := ?_) (a' := ?_) #[true, true, true, true, true, true, true, true, true, true, true, true, true, true, false, false, false, false, false, false, false, false, false] rfl rfl (by kernel_rfl) (fun _ _ _ h => h) (Or.inl ⟨by rfl, ?_⟩) ?_ ?_
        rotate_left
        · intro w'
          go_simp
          with_reducible rfl
        rotate_left
        · simp only [Act.put, List.setIfInBounds_toArray, List.set_cons_zero, List.set_cons_succ]
          rfl
        refine pure_ (i := 14) (N := some 96) (v := undef) (a' := ?_) #[true, true, true, true, true, true, true, true, true, true, true, true, true, true, true, false, false, false, false, false, false, false, false] rfl rfl (by kernel_rfl) (fun _ _ _ h => h) (Or.inr ⟨by rfl, rfl⟩) ?_ ?_
        rotate_left
        · simp only [Act.put, List.setIfInBounds_toArray, List.set_cons_zero, List.set_cons_succ]
          rfl
        refine pure_ (i := 15) (N := some 97) (v := undef) (a' := ?_) #[true, true, true, true, true, true, true, true, true, true, true, true, true, true, true, true, false, false, false, false, false, false, false] rfl rfl (by kernel_rfl) (fun _ _ _ h => h) (Or.inr ⟨by rfl, rfl⟩) ?_ ?_
        rotate_left
        · simp only [Act.put, List.setIfInBounds_toArray, List.set_cons_zero, List.set_cons_succ]
          rfl
        refine pure_ (i := 16) (N := some 98) (v := undef) (a' := ?_) #[true, true, true, true, true, true, true, true, true, true, true, true, true, true, true, true, true, false, false, false, false, false, false] rfl rfl (by kernel_rfl) (fun _ _ _ h => h) (Or.inr ⟨by rfl, rfl⟩) ?_ ?_
        rotate_left
        · simp only [Act.put, List.setIfInBounds_toArray, List.set_cons_zero, List.set_cons_succ]
          rfl
        refine pure_ (i := 17) (N := some 99) (v := undef) (a' := ?_) #[true, true, true, true, true, true, true, true, true, true, true, true, true, true, true, true, true, true, false, false, false, false, false] rfl rfl (by kernel_rfl) (fun _ _ _ h => h) (Or.inr ⟨by rfl, rfl⟩) ?_ ?_
        rotate_left
        · simp only [Act.put, List.setIfInBounds_toArray, List.set_cons_zero, List.set_cons_succ]
          rfl
        refine pure_ (i := 18) (N := some 100) (v := undef) (a' := ?_) #[true, true, true, true, true, true, true, true, true, true, true, true, true, true, true, true, true, true, true, false, false, false, false] rfl rfl (by kernel_rfl) (fun _ _ _ h => h) (Or.inr ⟨by rfl, rfl⟩) ?_ ?_
        rotate_left
        · simp only [Act.put, List.setIfInBounds_toArray, List.set_cons_zero, List.set_cons_succ]
          rfl
        refine pure_ (i := 19) (N := some 101) (v := undef) (a' := ?_) #[true, true, true, true, true, true, true, true, true, true, true, true, true, true, true, true, true, true, true, true, false, false, false] rfl rfl (by kernel_rfl) (fun _ _ _ h => h) (Or.inr ⟨by rfl, rfl⟩) ?_ ?_
        rotate_left
        · simp only [Act.put, List.setIfInBounds_toArray, List.set_cons_zero, List.set_cons_succ]
          rfl
        refine pure_ (i := 20) (N := some 102) (v := undef) (a' := ?_) #[true, true, true, true, true, true, true, true, true, true, true, true, true, true, true, true, true, true, true, true, true, false, false] rfl rfl (by kernel_rfl) (fun _ _ _ h => h) (Or.inr ⟨by rfl, rfl⟩) ?_ ?_
        rotate_left
        · simp only [Act.put, List.setIfInBounds_toArray, List.set_cons_zero, List.set_cons_succ]
          rfl
        refine pure_ (i := 21) (N := some 103) (v := ?_) (a' := ?_) #[true, true, true, true, true, true, true, true, true, true, true, true, true, true, true, true, true, true, true, true, true, true, false] rfl rfl (by kernel_rfl) (fun _ _ _ h => h) (Or.inl ⟨by rfl, ?_⟩) ?_ ?_
        rotate_left
        · intro w'
          go_simp
          with_reducible rfl
        rotate_left
        · simp only [Act.put, List.setIfInBounds_toArray, List.set_cons_zero, List.set_cons_succ]
          rfl
        refine pure_ (i := 22) (N := some 104) (v := ?_) (a' := ?_) #[true, true, true, true, true, true, true, true, true, true, true, true, true, true, true, true, true, true, true, true, true, true, true] rfl rfl (by kernel_rfl) (fun _ _ _ h => h) (Or.inl ⟨by rfl, ?_⟩) ?_ ?_
        rotate_left
        · intro w'
          go_simp
          with_reducible rfl
        rotate_left
        · simp only [Act.put, List.setIfInBounds_toArray, List.set_cons_zero, List.set_cons_succ]
          rfl
        refine done_ (by kernel_rfl) ?_
        go_wp2_with (first
          | ((with_reducible refine gate_dst (N := 106) rfl ?_); refine load_evp (N := 106) rfl rfl (cs := #[.int .i64 m1.p, .int .i64 m1.w, .int .i64 m1.g, .int .i64 m1.s, .slice A1 m1.L.length c1]) (ex := #[.int .i64 n1, .int .i64 e1]) rfl YP.out Try.underlying51 rfl (by kernel_rfl) ?hw ?_; (case hw => first | rfl | go_simp))
          | ((with_reducible refine gate_store (t := 51) (p := 9) rfl ?_); refine store_ev rfl rfl rfl (cells := #[.int .i64 m1.p, .int .i64 m1.w, .int .i64 m1.g, .int .i64 m1.s, .slice A1 m1.L.length c1]) rfl rfl HG.out (by kernel_rfl) rfl (by kernel_rfl) ?_; intro wz hbx hgr; have n_HT := Aside0.mk (HT.out.far hgr HQA.out HQB.out); have n_HL1 := Aside0.mk (HL1.out.put hgr (not_me HG.out (by decide))); have n_HB := Aside0.mk (below_put HB.out HQ.out hgr HB.out.size); have n_HG := Aside0.mk ((show wz.heap[g9]? = some (.cells #[.int .i64 m1.p, .int .i64 m1.w, .int .i64 m1.g, .int .i64 m1.s, .slice A1 m1.L.length c1] 51 (0, 0)) from hbx)); clear HT HL1 HB HG hbx hgr; have HT := n_HT; have HL1 := n_HL1; have HB := n_HB; have HG := n_HG; clear n_HT n_HL1 n_HB n_HG))
        go_roundw
        case rel => exact ⟨j + 1, m1, A1, c1, by omega, by first | rfl | simp, by omega, HM1, HT, HG, HL1, HB⟩
        case measure => simp [intOf]; omega
    · obtain rfl : j = l.length := by omega
      have k1 : decide ((l.length : Int) < (l.length : Int)) = false := decide_eq_false (by omega)
      go_wp2_with (first
        | ((with_reducible refine gate_dst (N := 112) rfl ?_); refine load_evg (N := 112) rfl rfl (cs := #[.int .i64 m.p, .int .i64 m.w, .int .i64 m.g, .int .i64 m.s, .slice A m.L.length c]) rfl HG.out Try.underlying51 rfl (by kernel_rfl) ?hw ?_; (case hw => first | rfl | go_simp)))
      refine (same_calls a b m HOK.out A c wr HT.out HL.out).mono ?_
      rintro e w5 ⟨rfl, hb⟩
      have n_HB := Aside0.mk (below_step HB.out hb)
      clear HB hb
      have HB := n_HB
      clear n_HB
      go_wp2_with fail
      refine (out_calls w5).mono ?_
      rintro e wz ⟨rfl, hb⟩
      have HZ := Aside0.mk (below_step HB.out hb)
      clear hb HB
      go_wp2_with fail
      go_ret
      exact ⟨rfl, HZ.out⟩
theorem macts_calls (parts wait : Int) (l : List Ac) (A : Option Addr) (n k : Nat) (w : World) (hp : Acs k w A n l) :
    Calls Try.prog 6 #[.int .i64 parts, .int .i64 wait, .slice A n k] w fun e w' => e = .returned (.bool true) ∧ Below w.heap.size w w' := by
  cases hbig : largeA l with
  | true => exact macts_out parts wait l A n k w hp hbig
  | false =>
    by_cases h : parts < 0 ∨ ¬ parts < 0 ∧ (parts > 4 ∨ ¬ parts > 4 ∧ (wait < 1 ∨ ¬ wait < 1 ∧ wait > 1048576))
    · exact macts_bad parts wait l A n k w hp hbig h
    · exact macts_in parts wait l A n k w hp hbig (by omega) (by omega) (by omega)
end Go.Proofs.Ytohhlkabejangaa.Mb


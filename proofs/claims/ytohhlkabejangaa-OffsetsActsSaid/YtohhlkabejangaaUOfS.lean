import Derived.Test.YtohhlkabejangaaUOfR
-- halved
namespace Go.Proofs.Ytohhlkabejangaa.Of
set_option linter.unusedVariables false
set_option linter.unusedSimpArgs false
open Go.RowKit Go.Maps Go.Sort Go.Lib Go.Shelf Go.Proofs.YtohhlkabejangaaW.PrintWords Go.Proofs.YtohhlkabejangaaW.PrintLast Go.Proofs.YtohhlkabejangaaW.PrintMore Go.Proofs.Ytohhlkabejangaa.Hand Go.Proofs.Ytohhlkabejangaa.POf Go.Proofs.Ytohhlkabejangaa.Wire
theorem okE_may {s : ByteArray} {x : El} (h : okE s = some x) : mayB x.g x.t x.p x.v = true := by
 unfold okE at h
 split at h
 ·cases h
 ·split at h
  ·rename_i hm
   obtain rfl := Option.some.inj h
   exact hm
  ·cases h
theorem okT_put {T : List Rw} (h : okT T) (hr : T.Pairwise (fun a b => kLt a.k b.k)) {x : Rw} (hx : mayB x.k.g x.k.t x.k.p x.v = true) : okT (putT T x) := fun r hr2 => by
 rcases (putT_mem T x r hr).1 hr2 with rfl | ⟨h2, _⟩
 ·exact hx
 ·exact h r h2
theorem okT_app {T : List Rw} (h : okT T) (hr : T.Pairwise (fun a b => kLt a.k b.k)) (k : Int) (s : ByteArray) : okT (appT T k s) := by
 unfold appT cmtT clrT witT
 split
 ·split
  ·exact h
  ·rename_i x hx
   split
   ·exact okT_put h hr (okE_may hx)
   ·exact h
 ·split
  ·split
   ·exact h
   ·exact fun r hr2 => h r (List.mem_filter.1 hr2).1
  ·exact h
theorem okT_ne {T : List Rw} (h : okT T) : ∀ r ∈ T, 1 ≤ r.k.g.size := fun r hr => (nameB_size (mayB_iff.1 (h r hr)).1.1).1
theorem okC_ux (s : ByteArray) (u : ByteArray × Int × Int) (hu : ux s = u) : okC s = if u.2.2 = 0 ∧ u.2.1 = (s.size : Int) ∧ nameB u.1 = true then some u.1 else none := by
 have hR := ux_range s
 rw [hu] at hR
 obtain ⟨a1, a2, a3⟩ := hR
 unfold okC
 rw [rdText_of s u hu]
 by_cases h1 : u.2.2 = 0
 ·rw [if_pos h1]
  dsimp only
  rw [if_neg (by simp)]
  have hz : (s.extract u.2.1.toNat s.size).size = s.size - u.2.1.toNat := by rw [ByteArray.size_extract]; omega
  rw [hz]
  by_cases h2 : u.2.1 = (s.size : Int)
  ·rw [if_pos (by omega)]
   by_cases h3 : nameB u.1 = true
   ·rw [if_pos h3, if_pos ⟨h1, h2, h3⟩]
   ·rw [if_neg h3, if_neg (fun e => h3 e.2.2)]
  ·rw [if_neg (by omega), if_neg (fun e => h2 e.2.1)]
 ·rw [if_neg h1]
  dsimp only
  rw [if_pos rfl, if_neg (fun e => h1 e.1)]
theorem rapply_f (T : List Rw) (hn : T.length ≤ 45) (hok : okT T) (hr : T.Pairwise (fun a b => kLt a.k b.k)) (kind : Int) (s : ByteArray) (hs : s.size ≤ 400) : weighlockref24_Apply.f 1200 (lS T) kind s = some (lS (appT T kind s), appB T kind s) := by
 unfold weighlockref24_Apply.f
 by_cases h1 : kind = 1
 ·rw [if_pos h1, rcommit (lS T) s hs (roomB T) (fun x => lS (putT T ⟨⟨x.g, x.t, x.p⟩, x.v⟩)) (fun g k hk => rroom_f T (by omega) (okT_ne hok) g k hk) (fun x k hk => rput_f T ⟨⟨x.g, x.t, x.p⟩, x.v⟩ (by omega) hr k hk) 1200 (by omega), Option.bind_some]
  have u1 : appB T kind s = cmtB T s := if_pos h1
  have u2 : appT T kind s = cmtT T s := if_pos h1
  rw [u1, u2]
  unfold cmtB cmtT
  cases okE s with
  | none => rfl
  | some x =>
   dsimp only
   cases hm : roomB T x.g
   ·rfl
   ·rfl
 ·rw [if_neg h1]
  obtain ⟨u, hu⟩ : ∃ u, ux s = u := ⟨_, rfl⟩
  have hR := ux_range s
  rw [hu] at hR
  obtain ⟨a1, a2, a3⟩ := hR
  rw [ux_ref s 1200 (by omega) (by omega), hu, Option.bind_some]
  by_cases h2 : kind = 2
  ·have u1 : appB T kind s = (okC s).isSome := (if_neg h1).trans (if_pos h2)
   have u2 : appT T kind s = clrT T s := (if_neg h1).trans (if_pos h2)
   rw [if_pos h2, u1, u2]
   unfold clrT
   rw [okC_ux s u hu]
   by_cases g1 : u.2.2 = 0
   ·rw [if_pos g1]
    by_cases g2 : u.2.1 = (s.size : Int)
    ·rw [if_pos g2, ref_name u.1 (by omega) 1200 (by omega), Option.bind_some]
     by_cases g3 : nameB u.1 = true
     ·rw [if_pos g3, rwithout_f T (by omega) u.1 1200 (by omega), if_pos ⟨g1, g2, g3⟩]
      rfl
     ·rw [if_neg g3, if_neg (fun e => g3 e.2.2)]
      rfl
    ·rw [if_neg g2, if_neg (fun e => g2 e.2.1)]
     rfl
   ·rw [if_neg g1, if_neg (fun e => g1 e.1)]
    rfl
  ·have u1 : appB T kind s = false := (if_neg h1).trans (if_neg h2)
   have u2 : appT T kind s = T := (if_neg h1).trans (if_neg h2)
   rw [if_neg h2, u1, u2]
theorem text_small {x : ByteArray} (h : nameB x = true) : strOfNums [((x.size : Int)) % 256] ++ x = textS x := by
 have z := nameB_size h
 unfold textS chainS
 rw [chainF_last 10 (x.size : Int) (by omega) (by omega)]
 have e : ((x.size : Int)) % 256 = x.size := by omega
 rw [e]
theorem rentryA_f (T : List Rw) (hn : T.length ≤ 45) (hok : okT T) (kind n : Int) (k0 k1 : ByteArray) (k2 fk : Int) (fp : ByteArray) (h0 : k0.size ≤ 100) (h1 : k1.size ≤ 100) :
  weighlocklaw24_entry.f 1200 (lS T) kind n k0 k1 k2 fk fp = some ((madE T kind n k0 k1 k2 fk fp).kind, (madE T kind n k0 k1 k2 fk fp).pl, (madE T kind n k0 k1 k2 fk fp).err) := by
 unfold weighlocklaw24_entry.f madE
 by_cases c0 : kind = 0
 ·rw [if_pos c0, if_pos c0, rmay_f k0 k1 k2 n (by omega) (by omega) 1200 (by omega) (by omega), Option.bind_some]
  unfold comE
  by_cases hm : mayB k0 k1 k2 n = true
  ·rw [if_pos hm, if_pos hm, rroom_f T (by omega) (okT_ne hok) k0 1200 (by omega), Option.bind_some]
   by_cases hrm : roomB T k0 = true
   ·rw [if_pos hrm, if_pos hrm, rentry_f hm 1200 (by omega)]
    rfl
   ·rw [if_neg hrm, if_neg hrm]
  ·rw [if_neg hm, if_neg hm]
 ·rw [if_neg c0, if_neg c0]
  by_cases c1 : kind = 1
  ·rw [if_pos c1, if_pos c1, ref_name k1 (by omega) 1200 (by omega), Option.bind_some]
   unfold clrE
   by_cases hm : nameB k1 = true
   ·rw [if_pos hm, if_pos hm, Option.bind_some]
    have z : (strOfNums [((k1.size : Int)) % 256]).size = 1 := strOfNums_size _
    rw [if_pos (by rw [z]; omega), text_small hm]
   ·rw [if_neg hm, if_neg hm]
  ·rw [if_neg c1, if_neg c1]
theorem act_app {T : List Rw} {kind n : Int} {k0 k1 : ByteArray} {k2 fk : Int} {fp : ByteArray} (hk : kind = 0 ∨ kind = 1) (he : (madE T kind n k0 k1 k2 fk fp).err = 0) : appB T (madE T kind n k0 k1 k2 fk fp).kind (madE T kind n k0 k1 k2 fk fp).pl = true := by
 unfold madE at he ⊢
 rcases hk with h | h
 ·rw [if_pos h] at he ⊢
  rcases comE_cases T k0 k1 k2 n with ⟨e, h1, h2⟩ | ⟨x, e, h1⟩
  ·rw [e]
   exact (app_com h1 h2).1
  ·rw [e] at he
   exact absurd he h1
 ·rw [if_neg (by omega), if_pos h] at he ⊢
  rcases clrE_cases k1 with ⟨e, h1⟩ | ⟨e, h1⟩
  ·rw [e]
   exact (app_clr h1).1
  ·rw [e] at he
   exact absurd he (by decide)
theorem okT_run (l : List Ac) : okT (runT l) ∧ (runT l).Pairwise (fun a b => kLt a.k b.k) := by
 have hp : ∀ (T : List Rw) (x : Rw), T.Pairwise (fun a b => kLt a.k b.k) → (putT T x).Pairwise (fun a b => kLt a.k b.k) := fun T x h => putT_ris T x h
 have ha : ∀ (T : List Rw) (k : Int) (s : ByteArray), T.Pairwise (fun a b => kLt a.k b.k) → (appT T k s).Pairwise (fun a b => kLt a.k b.k) := by
  intro T k s h
  unfold appT cmtT clrT witT
  split
  ·split
   ·exact h
   ·split
    ·exact hp _ _ h
    ·exact h
  ·split
   ·split
    ·exact h
    ·exact h.filter _
   ·exact h
 have h : ∀ (l : List Ac) (T : List Rw), okT T ∧ T.Pairwise (fun a b => kLt a.k b.k) → okT (l.foldl actT T) ∧ (l.foldl actT T).Pairwise (fun a b => kLt a.k b.k) := by
  intro l
  induction l with
  | nil => intro T h; exact h
  | cons x l ih =>
   intro T h
   rw [List.foldl_cons]
   refine ih _ ?_
   unfold actT
   split
   ·exact ⟨okT_app h.1 h.2 _ _, ha _ _ _ h.2⟩
   ·exact h
 exact h l [] ⟨fun r hr => (by cases hr), List.Pairwise.nil⟩
theorem putT_last : ∀ (T : List Rw) (x : Rw), (∀ r ∈ T, kLt r.k x.k) → putT T x = T ++ [x]
 | [], x, _ => rfl
 | y :: l, x, h => by
  have hy := h y (List.mem_cons_self ..)
  unfold putT
  rw [if_neg (fun e => kLt_irr _ (kLt_trans e hy)), if_neg (fun e => kLt_irr _ (e ▸ hy)), putT_last l x (fun r hr => h r (List.mem_cons_of_mem _ hr))]
  rfl
theorem findT_val (T : List Rw) (k : Ky) : (isT T k = true → findT T k = valT T k) ∧ (isT T k = false → findT T k = -1 ∧ valT T k = 0) := by
 unfold findT valT
 cases hf : T.find? (fun r => decide (r.k = k)) with
 | none =>
  refine ⟨fun h => ?_, fun _ => ⟨rfl, rfl⟩⟩
  obtain ⟨r, hr, e⟩ := (isT_iff _ _).1 h
  have := List.find?_eq_none.1 hf r hr
  simp [e] at this
 | some q =>
  refine ⟨fun _ => rfl, fun h => ?_⟩
  have hq := List.mem_of_find?_eq_some hf
  have hq2 : q.k = k := by simpa using List.find?_some hf
  rw [(isT_iff _ _).2 ⟨q, hq, hq2⟩] at h
  cases h
theorem valT_ok {T : List Rw} (h : okT T) (k : Ky) : 0 ≤ valT T k := by
 unfold valT
 cases hf : T.find? (fun r => decide (r.k = k)) with
 | none => exact Int.le_refl _
 | some q => exact (mayB_iff.1 (h q (List.mem_of_find?_eq_some hf))).2.2.1
end Go.Proofs.Ytohhlkabejangaa.Of

import Derived.Test.YtohhlkabejangaaAs6
import Derived.Maps.RangeWalk
import Derived.Sort.KeysCollected
namespace Go.Proofs.Ytohhlkabejangaa.As
open Go.RowKit Go.Maps Go.Sort Go.ChangeShapes Go.Proofs.YtohhlkabejangaaW.PrintWords Go.Proofs.YtohhlkabejangaaW.PrintLast Go.Proofs.YtohhlkabejangaaW.PrintMore Go.Proofs.Ytohhlkabejangaa.PAs
set_option linter.unusedVariables false
set_option linter.unusedSimpArgs false
/-- no key that has come has p among its numbers -/
def NoneYet (D : DataW Unit) (left : Lit → Bool) (p : Int) : Prop := ∀ x v zs, Maps.has D (.string x) = true → left (.string x) = false → D.atKey (.string x) .nil = rowDatum .i64 v zs → (∃ W B, World.ownsInts W B 3 .i64 v zs) → p ∉ zs
/-- what Owner tells -/
def OwnerP (D : DataW Unit) (p : Int) (s : ByteArray) (z : Int) : Prop :=
  (z = 0 ∧ ∃ v zs W B, World.ownsInts W B 3 .i64 v zs ∧ Maps.has D (.string s.toList) = true ∧ D.atKey (.string s.toList) .nil = rowDatum .i64 v zs ∧ p ∈ zs) ∨ (z = 6 ∧ s = ⟨#[]⟩ ∧ NoneYet D (fun _ => false) p)
theorem ints_C0 {w : World} {B : Nat} {v : Value} {zs : List Int} (h : w.ownsInts B 3 .i64 v zs) : ∃ A c, v = .slice A zs.length c ∧ zs.length ≤ c ∧ Kd.C (Kd.int .i64) w A zs.length zs :=
  Kd.R_reads (Kd.R_of_own (enc := Value.int .i64) (h1 := fun _ => rfl) (e := 3) (ok := fun _ => True) h.1 (fun _ _ => trivial))
theorem rowDatum_eq {W W' : World} {B B' e : Nat} {v v' : Value} {zs zs' : List Int} (h : W.ownsInts B e .i64 v zs) (h' : W'.ownsInts B' e .i64 v' zs') (hd : rowDatum (H := Unit) .i64 v zs = rowDatum .i64 v' zs') : zs = zs' := by
  rcases h.datum (H := Unit) with ⟨h1, h2⟩ | h1 <;> rcases h'.datum (H := Unit) with ⟨h3, h4⟩ | h3
  · rw [h2, h4]
  · rw [h1, h3] at hd; cases hd
  · rw [h1, h3] at hd; cases hd
  · rw [h1, h3] at hd
    simp only [DataW.slice.injEq, and_true] at hd
    unfold lits at hd
    exact (List.map_inj_right (fun x y e => by simpa using e)).1 hd
set_option maxHeartbeats 16000000 in
set_option maxRecDepth 100000 in
theorem owner_calls (A : Option Addr) (c : Nat) (l : List ByteArray) (n : Nat) (p : Int) (w : World) (hA : Kd.C Kd.string w A l.length l) (hl : l.length ≤ 1000) (hz : ∀ s ∈ l, s.size ≤ 1000) (hw : wrongL l = 0) (hn : n ≤ 4)
    (hcap : ∀ x v zs W B, World.ownsInts W B 3 .i64 v zs → (datG (rowsG n (srt l) l.length)).atKey (.string x) .nil = rowDatum .i64 v zs → zs.length ≤ 1000) :
    Calls Try.prog 25 #[.slice A l.length c, .int .i64 (n : Int), .int .i64 p] w fun e w' => ∃ s z, e = .returned (.tuple #[.string s, .int .i64 z]) ∧ OwnerP (datG (rowsG n (srt l) l.length)) p s z ∧ Below w.heap.size w w' := by
  have hr := range_calls A c l n w hA hl hz hw hn
  generalize datG (rowsG n (srt l) l.length) = D at hr hcap ⊢
  have hr := Aside0.mk hr
  have HCAP := Aside0.mk hcap
  clear hA hz hw hcap
  go_enter Try.func25, Try.ntmps25
  go_wp2_with fail
  refine hr.out.mono ?_
  rintro e w1 ⟨b, q, rfl, hb, hq, hG, hB⟩
  have HG := Aside0.mk hG
  have HB := Aside0.mk hB
  clear hr hG hB
  go_wp2_with (first
    | (at_range; refine wpList_range_own _ rfl _ 25 rfl 9 29 str_law Try.underlying25 (rowElem (H := Unit) w1 (b + 1) 3 .i64) b q D rfl (groups_map HG.out) ?_; intro w2 hrg hg0 hs0; have HRG := Aside0.mk hrg; have HB2 := Aside0.mk (show Below w1.heap.size w1 w2 from (Below.refl _ _).grown hg0 (Nat.le_refl _) (fun k e => by cases e)); clear hrg hg0 hs0))
  obtain ⟨r, hr⟩ : ∃ r, w1.heap.size = r := ⟨_, rfl⟩
  rw [hr] at HRG
  simp only [hr]
  go_frame
  show Code.wp _ _ _ _ _
  go_loopw [23] (fun _ wr => ∃ left cnt, Aside0 (wr.ranges Try.prog 9 (rowElem (H := Unit) w1 (b + 1) 3 .i64) b r q D left cnt) ∧ Aside0 (NoneYet D left p) ∧ Aside0 (Below w1.heap.size w1 wr)) (fun _ wr => wr.rangeLeft b r)
  case atStart => exact ⟨_, _, HRG, ⟨fun x v zs h1 h2 _ _ => by rw [h1] at h2; cases h2⟩, HB2⟩
  case round =>
    clear HRG HB2
    obtain ⟨left, cnt, HRG, HN, HB2⟩ := hrel
    go_wp2_with (first
      | (at_next; refine wpList_next_ranges _ rfl _ rfl 9 str_law (rowElem (H := Unit) w1 (b + 1) 3 .i64) encStr (fun v : Value => v) (fun key kl hk => by obtain ⟨x, hx, _⟩ := Maps.keyOf_str Try.underlying9 hk; exact ⟨x, hx⟩) (fun v _ _ => ⟨v, rfl⟩) b r q _ _ _ rfl HRG.out ?_ ?_))
    · intro hc0 hl0
      have HL := Aside0.mk hl0
      clear hl0
      go_wp2_with fail
      exact bodyPost_ret (v := .tuple #[.string ⟨#[]⟩, .int .i64 6]) (by simp [results, Try.results25, go_sem]) rfl ⟨_, _, rfl, .inr ⟨rfl, rfl, fun x v zs h1 _ => HN.out x v zs h1 (HL.out _)⟩, below_step HB.out HB2.out⟩
    · intro x v kl y0 ps w3 cnt1 hkey hlk hRy hat hrg1 hlt hg3 hs3 hen
      obtain ⟨x', ex, rfl, _⟩ := Maps.keyOf_str Try.underlying9 hkey
      obtain rfl : x = x' := encStr_inj ex
      obtain ⟨zs, hoi, hy⟩ := rowElem_inv hRy
      have hy1 : y0 = rowDatum .i64 v zs := congrArg Prod.fst hy
      have hat1 : D.atKey (.string x) .nil = rowDatum .i64 v zs := (hat .nil).trans hy1
      have hhas : Maps.has D (.string x) = true := has_true_of_atKey hat
      obtain ⟨vA, vc, rfl, hcap, hC⟩ := ints_C0 hoi
      have hlen := HCAP.out x _ zs _ _ hoi hat1
      have HB3 := Aside0.mk (show Below w1.heap.size w1 w3 from HB2.out.grown hg3 HB2.out.size (fun k e => by cases e; omega))
      have hcon := Aside0.mk (slices_Contains_int_int.calls 1001 vA vc zs p (decide (p ∈ zs)) w3 (Kd.C_below hC HB3.out) hcap (contains_f zs p hlen))
      have HAT := Aside0.mk hat1
      have HHAS := Aside0.mk hhas
      have HOI := Aside0.mk hoi
      have HLT := Aside0.mk hlt
      have HRG1 := Aside0.mk hrg1
      have hleft := HRG.out.left_eq
      clear hat hat1 hhas hoi hlt hrg1 hRy hy hy1 hC hlen hlk hkey ex HB2 hg3 hs3
      go_wp2_with fail
      refine hcon.out.mono ?_
      rintro e w4 ⟨rfl, ⟨m, rfl⟩⟩
      by_cases hp : p ∈ zs
      · rw [decide_eq_true hp]
        go_wp2_with fail
        exact bodyPost_ret (v := .tuple #[encStr x, .int .i64 0]) (by simp [results, Try.results25, go_sem]) rfl ⟨⟨x.toArray⟩, 0, rfl, .inl ⟨rfl, _, zs, _, _, HOI.out, by simpa [str_toList] using HHAS.out, by simpa [str_toList] using HAT.out, hp⟩, below_step (below_step HB.out HB3.out) (Drawn0.step (Drawn0.refl w3) m).below⟩
      · rw [decide_eq_false hp]
        have hbd := (Drawn0.step (Drawn0.refl w3) m).below
        have hrd := HRG1.out.kept (w' := w3.drewN m) (row := none) ⟨hbd.os, hbd.tape, hbd.output, hbd.size, fun i hi _ => hbd.block i hi⟩ (by simp) (by simp)
        have HRD := Aside0.mk hrd
        have HLQ := Aside0.mk hleft
        clear hbd hrd hleft HRG1
        go_wp2_with fail
        go_roundw
        case rel =>
          refine ⟨_, cnt1, HRD, ⟨fun x2 v2 zs2 h1 h2 h3 h4 => ?_⟩, ⟨below_step HB3.out (Drawn0.step (Drawn0.refl w3) m).below⟩⟩
          by_cases e2 : x2 = x
          · subst e2
            obtain ⟨W9, B9, h9⟩ := h4
            have := rowDatum_eq HOI.out h9 (HAT.out.symm.trans h3)
            rw [← this]
            exact hp
          · refine HN.out x2 v2 zs2 h1 ?_ h3 h4
            have h5 : (left (.string x2) && !(Lit.string x2).sameKey (.string x)) = false := h2
            rw [same_str, decide_eq_false e2] at h5
            simpa using h5
        case measure => rw [HRD.out.left_eq, HLQ.out]; exact HLT.out
end Go.Proofs.Ytohhlkabejangaa.As

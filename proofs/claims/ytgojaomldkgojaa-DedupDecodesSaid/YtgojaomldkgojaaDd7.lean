import Derived.Test.YtgojaomldkgojaaDd6
namespace Go.Proofs.Ytgojaomldkgojaa.Dd
set_option linter.unusedVariables false
set_option linter.unusedSimpArgs false
open Go.RowKit Go.Maps Go.Proofs.YtgojaomldkgojaaW.PrintWords Go.Proofs.YtgojaomldkgojaaW.PrintLast Go.Proofs.YtgojaomldkgojaaW.PrintMore Go.Proofs.Ytgojaomldkgojaa.PDd Go.Proofs.Ytgojaomldkgojaa.Wire Go.Proofs.Ytgojaomldkgojaa.Hand Go.Proofs.Ytgojaomldkgojaa.PureNums
/-- a call: its kind, a producer, seq, n, offset -/
structure Ac where
  f0 : Int
  f1 : Int
  f2 : Int
  f3 : Int
  f4 : Int
def Ac.cs (r : Ac) : Array Value := #[.int .i64 r.f0, .int .i64 r.f1, .int .i64 r.f2, .int .i64 r.f3, .int .i64 r.f4]
structure Acs (w : World) (A : Option Addr) (n : Nat) (l : List Ac) : Prop where
  len : l.length = n
  mx : n ≤ 9223372036854775807
  row : ∀ (i : Nat) (h : i < l.length), ∃ a, A = some a ∧ ∀ (j : Nat) (u : Value), (l[i].cs)[j]? = some u → w.cell? ((a.add (i * 5)).add j) = some u
/-- is block k one of records of the reference's lists? -/
def isW (w : World) (k : Nat) : Prop := ∃ cells, w.heap[k]? = some (.cells cells 43 (0, 0))
theorem la_isW {w : World} {base : Nat} {v : Value} {l : List La} (h : Kd.R k43 43 w base (fun _ => True) v l) : Kd.R k43 43 w base (isW w) v l :=
  Kd.R_mono (Kd.R_bound h) (fun k hk => by
    obtain ⟨_, _, _, q, hq, cells, hc⟩ := hk
    have hE : (k43).E = [] := rfl
    rw [hE] at hq
    obtain rfl := List.mem_singleton.1 hq
    exact ⟨cells, hc⟩)
theorem la_below {W W' : World} {base : Nat} {v : Value} {xs : List La} (h : Kd.R k43 43 W base (fun _ => True) v xs) (hb : Below W.heap.size W W') : Kd.R k43 43 W' base (fun _ => True) v xs :=
  Kd.R_mono (Kd.R_step (Kd.R_bound h) (fun k hk hlt => hb.block k hlt)) (fun _ _ => trivial)
theorem la_map {W W' : World} {base b : Nat} {v : Value} {xs : List La} (h : Kd.R k43 43 W base (fun _ => True) v xs) (hm : ∃ es c, W.heap[b]? = some (.map es c)) (hg : W.grownBy W' (some b)) : Kd.R k43 43 W' base (fun _ => True) v xs :=
  Kd.R_mono (Kd.R_step (la_isW h) (fun k hk hlt => hg.block k hlt (fun e => by
    obtain ⟨cells, hc⟩ := hk
    obtain ⟨es, c, hm⟩ := hm
    rw [Option.some.inj e, hm] at hc
    cases hc))) (fun _ _ => trivial)
theorem Tab.map {w : World} {g b : Nat} {l : List La} (h : Tab w g b l) : ∃ es c, w.heap[b]? = some (.map es c) := by
  obtain ⟨es, clock, hb, _⟩ := h.own
  exact ⟨es, clock, hb⟩
theorem Tab.blocks {w w' : World} {g b : Nat} {l : List La} (h : Tab w g b l) (h1 : w'.heap[g]? = w.heap[g]?) (h2 : w'.heap[b]? = w.heap[b]?) : Tab w' g b l := by
  obtain ⟨es, clock, hb, F, hs, hD⟩ := h.own
  exact ⟨h1.trans h.cell, ⟨es, clock, h2.trans hb, F, hs, hD⟩, h.ris, h.ok⟩
theorem tab_off {w : World} {g b : Nat} {l : List La} (h : Tab w g b l) : ¬ isW w g ∧ ¬ isW w b := by
  refine ⟨fun ⟨cells, hc⟩ => ?_, fun ⟨cells, hc⟩ => ?_⟩
  · rw [h.cell] at hc
    cases hc
  · obtain ⟨es, c, hm⟩ := h.map
    rw [hm] at hc
    cases hc
theorem rnote_calls (u : Value) (l : List La) (p s n o : Int) (w0 w : World) (hB : Below w0.heap.size w0 w) (hR : Kd.R k43 43 w w0.heap.size (fun _ => True) u l) (h : Ris l) (hl : l.length ≤ 1000) :
    Calls Try.prog 22 #[u, .agg #[.int .i64 p, .int .i64 s, .int .i64 n, .int .i64 o]] w fun e w' => ∃ v0 : Value, e = .returned (.agg #[v0, .int .i64 (noteE l ⟨p, s, n, o⟩)]) ∧ Kd.R k43 43 w' w0.heap.size (fun _ => True) v0 (noteR l ⟨p, s, n, o⟩) ∧ Below w0.heap.size w0 w' ∧ (∀ i, i < w.heap.size → ¬ isW w i → w'.heap[i]? = w.heap[i]?) := by
  refine (weighlockref18_Note.calls 3000 (isW w) u l p s n o _ _ w0 w hB (la_isW hR) (rnote_spec l p s n o h hl)).mono ?_
  rintro e w' ⟨v0, rfl, h1, h2, h3⟩
  exact ⟨v0, rfl, Kd.R_mono h1 (fun _ _ => trivial), h2, h3.2⟩
theorem rcheck_calls (A : Option Addr) (c : Nat) (l : List La) (p s n : Int) (w : World) (hA : Kd.C k43 w A l.length l) (hc : l.length ≤ c) (h : Ris l) (hok : ∀ x ∈ l, okL x) (hl : l.length ≤ 1000) :
    Calls Try.prog 25 #[.slice A l.length c, .int .i64 p, .int .i64 s, .int .i64 n] w fun e w' => e = .returned (.agg #[.int .i64 (chk l p s n).1, .bool (chk l p s n).2.1, .int .i64 (chk l p s n).2.2]) ∧ Below w.heap.size w w' :=
  weighlockref18_Check.calls 3000 A c l p s n _ _ _ w hA hc (rcheck_spec l p s n h hok hl)
theorem chk_noted (l : List La) (x : La) (h : Ris l) (he : noteE l x = 0) : chk (noteR l x) x.f0 x.f1 x.f2 = (x.f3, true, 0) := by
  unfold noteR
  rw [if_pos he]
  have hm : mayB x.f0 x.f1 x.f2 = true := by
    unfold noteE at he
    by_cases c : mayB x.f0 x.f1 x.f2 = true ∧ 0 ≤ x.f3 ∧ x.f3 ≤ 1048576
    · exact c.1
    · rw [if_neg c] at he
      cases he
  unfold chk
  rw [if_pos hm, find_note_same l x h]
  simp
theorem noteR_len (l : List La) (x : La) (h : Ris l) : (noteR l x).length ≤ l.length + 1 := by
  unfold noteR
  split
  · rw [note_len l x h]
    split <;> omega
  · omega
theorem note1 (l : List La) : noteE l ⟨1, 0, 1, 0⟩ = 0 ∨ noteE l ⟨1, 0, 1, 0⟩ = 5 := by
  unfold noteE
  rw [if_pos (by decide)]
  split
  · exact .inr rfl
  · exact .inl rfl
set_option maxHeartbeats 32000000 in
set_option maxRecDepth 100000 in
theorem acts_calls (l0 : List Ac) (A : Option Addr) (n k : Nat) (w : World) (hp : Acs w A n l0) :
    Calls Try.prog 6 #[.slice A n k] w fun e w' => e = .returned (.bool true) ∧ Below w.heap.size w w' := by
  have hund : ∀ b, some undef = some (Value.bool b) → False := fun b h => by simp [undef] at h
  obtain rfl := hp.len
  have HP := Aside0.mk hp
  have hmx := hp.mx
  clear hp
  by_cases hbig : 60 < l0.length
  · go_enter Try.func6, Try.ntmps6
    go_wp2_with fail
    refine (seven_calls w).mono ?_
    rintro e w1 ⟨rfl, hb⟩
    have HB := Aside0.mk hb
    clear hb
    go_wp2_with fail
    go_ret
    exact ⟨rfl, HB.out⟩
  go_enter Try.func6, Try.ntmps6
  go_wp2_with fail
  refine (new_calls w).mono ?_
  rintro e w1 ⟨g, b, rfl, hT, hgs, hbs, hb⟩
  have HT := Aside0.mk hT
  have HB := Aside0.mk hb
  clear hT hb
  go_wp2_with fail
  go_loopw [4, 24] (fun ov iv wr => ∃ (i : Nat) (l : List La), iv = .int .i64 i ∧ i ≤ l0.length ∧ l.length ≤ i ∧ Aside0 (Tab wr g b l) ∧ Aside0 (Kd.R k43 43 wr w.heap.size (fun _ => True) ov l) ∧ Aside0 (Below w.heap.size w wr)) (fun _ iv _ => l0.length - (intOf iv).toNat)
  case atStart => exact ⟨0, [], rfl, Nat.zero_le _, Nat.le_refl _, HT, ⟨Kd.R_nil _ _ _ _ _⟩, HB⟩
  case round =>
    clear HT HB
    obtain ⟨i, l, rfl, hil, hll, HT, R, HB⟩ := hrel
    obtain ⟨A1, c1, hu, hc1, _⟩ := Kd.R_reads R.out
    subst hu
    by_cases hlt : i < l0.length
    · obtain ⟨ad, hAd, hcs⟩ := HP.out.row i hlt
      have hcs' := Aside0.mk (cells_below hcs HB.out)
      have HX := Aside0.mk (Below.refl wr.heap.size wr)
      subst hAd
      clear hcs
      obtain ⟨x, hx⟩ : ∃ x, l0[i] = x := ⟨_, rfl⟩
      simp only [hx] at hcs'
      clear hx
      obtain ⟨x0, x1, x2, x3, x4⟩ := x
      simp only [Ac.cs] at hcs'
      by_cases h0 : x0 = 0
      · subst h0
        go_wp2_with (first
          | ((with_reducible refine gate_dst (N := 27) rfl ?_); refine load_evm' (N := 27) rfl rfl rfl (cs := #[.int .i64 0, .int .i64 x1, .int .i64 x2, .int .i64 x3, .int .i64 x4]) rfl hcs'.out Try.underlying38 rfl (by kernel_rfl) ?_)
          | ((with_reducible refine gate_dst (N := 6) rfl ?_); refine box_event rfl (N := 6) rfl (cs := #[.int .i64 0, .int .i64 0, .int .i64 0, .int .i64 0, .int .i64 0]) (t := 38) ?hr ?_; (case hr => first | (go_simp; done) | (go_simp; rfl)); intro g6 hg6 w2 hbx hbl; have n_X := Aside0.mk (below_step HX.out hbl); have G6 := Aside0.mk (show _ ≤ g6 by rw [hg6]; exact HX.out.size); have Y := Aside0.mk hbx; clear HX hbx hbl hg6; have HX := n_X; clear n_X)
          | ((with_reducible refine gate_store (t := 38) (p := 6) rfl ?_); refine store_ev rfl rfl rfl (cells := #[.int .i64 0, .int .i64 x1, .int .i64 x2, .int .i64 x3, .int .i64 x4]) rfl rfl Y.out (by kernel_rfl) rfl (by kernel_rfl) ?_; intro w3 hbx hgr; have n_X := Aside0.mk (below_put HX.out G6.out hgr HX.out.size); have n_Y := Aside0.mk hbx; clear HX Y hbx hgr; have HX := n_X; have Y := n_Y; clear n_X n_Y; have y0 : w3.cell? ⟨g6, 0, none⟩ = some (.int .i64 0) := (blk_cell Y.out 0).trans rfl; have y1 : w3.cell? ⟨g6, 1, none⟩ = some (.int .i64 x1) := (blk_cell Y.out 1).trans rfl; have y2 : w3.cell? ⟨g6, 2, none⟩ = some (.int .i64 x2) := (blk_cell Y.out 2).trans rfl; have y3 : w3.cell? ⟨g6, 3, none⟩ = some (.int .i64 x3) := (blk_cell Y.out 3).trans rfl; have y4 : w3.cell? ⟨g6, 4, none⟩ = some (.int .i64 x4) := (blk_cell Y.out 4).trans rfl))
        have n_T := Aside0.mk (HT.out.later HX.out)
        have n_R := Aside0.mk (la_below R.out HX.out)
        have n_B := Aside0.mk (below_step HB.out HX.out)
        clear HT R HB HX hcs'
        have HT := n_T
        have R := n_R
        have HB := n_B
        clear n_T n_R n_B
        have hris := HT.out.ris
        have hlen := noteR_len l ⟨x1, x2, x3, x4⟩ hris
        have HCN := Aside0.mk (chk_noted l ⟨x1, x2, x3, x4⟩ hris)
        have hrn := rnote_calls _ l x1 x2 x3 x4 w w3 HB.out R.out hris (by omega)
        have hpn := Aside0.mk (fun (W : World) (h : Tab W g b l) => note_calls g b l x1 x2 x3 x4 W h (by omega))
        clear hris
        obtain ⟨E, hE⟩ : ∃ E, noteE l ⟨x1, x2, x3, x4⟩ = E := ⟨_, rfl⟩
        obtain ⟨l2, hl2⟩ : ∃ l2, noteR l ⟨x1, x2, x3, x4⟩ = l2 := ⟨_, rfl⟩
        simp only [hE, hl2] at hrn hpn HCN hlen
        clear hE hl2
        refine hrn.mono ?_
        clear hrn
        rintro e w4 ⟨v0, rfl, hR4, hB4, hk4⟩
        have hof := tab_off HT.out
        have n_T := Aside0.mk (HT.out.blocks (hk4 g HT.out.lt hof.1) (hk4 b HT.out.blt hof.2))
        have n_Y := Aside0.mk ((hk4 g6 (Array.getElem?_eq_some_iff.1 Y.out).1 (fun ⟨cells, hc⟩ => by rw [Y.out] at hc; cases hc)).trans Y.out)
        obtain ⟨A2, c2, hv, hc2, _⟩ := Kd.R_reads hR4
        subst hv
        have n_R := Aside0.mk hR4
        have n_B := Aside0.mk hB4
        clear HT R HB Y hR4 hB4 hk4 hof G6 y0 y1 y2 y3 y4
        have HT := n_T
        have R := n_R
        have HB := n_B
        have Y := n_Y
        clear n_T n_R n_B n_Y
        have HX := Aside0.mk (Below.refl w4.heap.size w4)
        go_wp2_with (first
          | ((with_reducible refine gate_dst (N := 7) rfl ?_); refine box_event rfl (N := 7) rfl (cs := #[.slice none 0 0, .int .i64 0]) (t := 40) ?hr ?_; (case hr => first | (go_simp; done) | (go_simp; rfl)); intro g7 hg7 w5 hbx hbl; have D7 := Aside0.mk (show g6 ≠ g7 by rw [hg7]; exact Nat.ne_of_lt (Array.getElem?_eq_some_iff.1 Y.out).1); have n_X := Aside0.mk (below_step HX.out hbl); have G7 := Aside0.mk (show w4.heap.size ≤ g7 by rw [hg7]; exact HX.out.size); have n_Y := Aside0.mk (blk_below Y.out hbl); have Z := Aside0.mk hbx; clear HX Y hbx hbl hg7; have HX := n_X; have Y := n_Y; clear n_X n_Y)
          | ((with_reducible refine gate_store (t := 40) (p := 7) rfl ?_); refine store_ev rfl rfl rfl (cells := #[.slice A2 l2.length c2, .int .i64 E]) rfl rfl Z.out (by kernel_rfl) rfl (by kernel_rfl) ?_; intro w6 hbx hgr; have n_X := Aside0.mk (below_put HX.out G7.out hgr HX.out.size); have n_Y := Aside0.mk ((hgr.block g6 (Array.getElem?_eq_some_iff.1 Y.out).1 (fun e => D7.out (Option.some.inj e))).trans Y.out); have n_Z := Aside0.mk hbx; clear HX Y Z hbx hgr; have HX := n_X; have Y := n_Y; have Z := n_Z; clear n_X n_Y n_Z))
        have n_T := Aside0.mk (HT.out.later HX.out)
        have n_R := Aside0.mk (la_below R.out HX.out)
        have n_B := Aside0.mk (below_step HB.out HX.out)
        clear HT R HB HX G7
        have HT := n_T
        have R := n_R
        have HB := n_B
        clear n_T n_R n_B
        have hbE : (E == E) = true := beq_self_eq_true _
        have hbF : (E != E) = false := bne_self_eq_false _
        refine start_ (n := 13) (S := fun w' => w'.cell? ⟨g6, 1, none⟩ = some (.int .i64 x1) ∧ w'.cell? ⟨g6, 2, none⟩ = some (.int .i64 x2) ∧ w'.cell? ⟨g6, 3, none⟩ = some (.int .i64 x3) ∧ w'.cell? ⟨g6, 4, none⟩ = some (.int .i64 x4) ∧ w'.cell? ⟨g7, 1, none⟩ = some (.int .i64 E)) (ds := []) #[false, false, false, false, false, false, false, false, false, false, false, false, false] (by kernel_rfl) rfl rfl ⟨(blk_cell Y.out 1).trans rfl, (blk_cell Y.out 2).trans rfl, (blk_cell Y.out 3).trans rfl, (blk_cell Y.out 4).trans rfl, (blk_cell Z.out 1).trans rfl⟩ (fun _ => ?_)
        have n_HT := Aside0.mk (HT.out.later (below_drew1 (Below.refl _ _)))
        have n_R := Aside0.mk (la_below R.out (below_drew1 (Below.refl _ _)))
        have n_HB := Aside0.mk (below_drew1 HB.out)
        have n_Y := Aside0.mk (show w6.drew.heap[g6]? = some (.cells #[.int .i64 0, .int .i64 x1, .int .i64 x2, .int .i64 x3, .int .i64 x4] 38 (0, 0)) from Y.out)
        have n_Z := Aside0.mk (show w6.drew.heap[g7]? = some (.cells #[.slice A2 l2.length c2, .int .i64 E] 40 (0, 0)) from Z.out)
        clear HT R HB Y Z
        have HT := n_HT
        have R := n_R
        have HB := n_HB
        have Y := n_Y
        have Z := n_Z
        clear n_HT n_R n_HB n_Y n_Z
        generalize w6.drew = V0 at *
        refine pure_ (i := 0) (N := some 42) (v := ?_) (a' := ?_) #[true, false, false, false, false, false, false, false, false, false, false, false, false] rfl rfl (by kernel_rfl) (fun _ _ _ h => h) (Or.inl ⟨by rfl, ?_⟩) ?_ ?_
        rotate_left
        · intro w'
          go_simp
          with_reducible rfl
        rotate_left
        · simp only [Act.put, List.setIfInBounds_toArray, List.set_cons_zero, List.set_cons_succ]
          rfl
        refine pure_ (i := 1) (N := some 43) (v := ?_) (a' := ?_) #[true, true, false, false, false, false, false, false, false, false, false, false, false] rfl rfl (by kernel_rfl) (fun _ _ _ h => h) (Or.inl ⟨by rfl, ?_⟩) ?_ ?_
        rotate_left
        · intro w'
          go_simp
          with_reducible rfl
        rotate_left
        · simp only [Act.put, List.setIfInBounds_toArray, List.set_cons_zero, List.set_cons_succ]
          rfl
        refine take_ (i := 2) (N := some 44) (v := ?_) (a' := ?_) #[true, true, true, false, false, false, false, false, false, false, false, false, false] rfl rfl (by kernel_rfl) (fun _ _ _ h => h) (Or.inl ⟨by rfl, ?_⟩) ⟨(blk_cell Y.out 1).trans rfl, (blk_cell Y.out 2).trans rfl, (blk_cell Y.out 3).trans rfl, (blk_cell Y.out 4).trans rfl, (blk_cell Z.out 1).trans rfl⟩ ?_ ?_
        rotate_left
        · intro w' hS
          obtain ⟨h1, h2, h3, h4, h5⟩ := hS
          go_simp
          with_reducible rfl
        rotate_left
        · simp only [Act.put, List.setIfInBounds_toArray, List.set_cons_zero, List.set_cons_succ]
          rfl
        refine pure_ (i := 3) (N := some 45) (v := ?_) (a' := ?_) #[true, true, true, true, false, false, false, false, false, false, false, false, false] rfl rfl (by kernel_rfl) (fun _ _ _ h => h) (Or.inl ⟨by rfl, ?_⟩) ?_ ?_
        rotate_left
        · intro w'
          go_simp
          with_reducible rfl
        rotate_left
        · simp only [Act.put, List.setIfInBounds_toArray, List.set_cons_zero, List.set_cons_succ]
          rfl
        refine take_ (i := 4) (N := some 46) (v := ?_) (a' := ?_) #[true, true, true, true, true, false, false, false, false, false, false, false, false] rfl rfl (by kernel_rfl) (fun _ _ _ h => h) (Or.inl ⟨by rfl, ?_⟩) ⟨(blk_cell Y.out 1).trans rfl, (blk_cell Y.out 2).trans rfl, (blk_cell Y.out 3).trans rfl, (blk_cell Y.out 4).trans rfl, (blk_cell Z.out 1).trans rfl⟩ ?_ ?_
        rotate_left
        · intro w' hS
          obtain ⟨h1, h2, h3, h4, h5⟩ := hS
          go_simp
          with_reducible rfl
        rotate_left
        · simp only [Act.put, List.setIfInBounds_toArray, List.set_cons_zero, List.set_cons_succ]
          rfl
        refine pure_ (i := 5) (N := some 47) (v := ?_) (a' := ?_) #[true, true, true, true, true, true, false, false, false, false, false, false, false] rfl rfl (by kernel_rfl) (fun _ _ _ h => h) (Or.inl ⟨by rfl, ?_⟩) ?_ ?_
        rotate_left
        · intro w'
          go_simp
          with_reducible rfl
        rotate_left
        · simp only [Act.put, List.setIfInBounds_toArray, List.set_cons_zero, List.set_cons_succ]
          rfl
        refine take_ (i := 6) (N := some 48) (v := ?_) (a' := ?_) #[true, true, true, true, true, true, true, false, false, false, false, false, false] rfl rfl (by kernel_rfl) (fun _ _ _ h => h) (Or.inl ⟨by rfl, ?_⟩) ⟨(blk_cell Y.out 1).trans rfl, (blk_cell Y.out 2).trans rfl, (blk_cell Y.out 3).trans rfl, (blk_cell Y.out 4).trans rfl, (blk_cell Z.out 1).trans rfl⟩ ?_ ?_
        rotate_left
        · intro w' hS
          obtain ⟨h1, h2, h3, h4, h5⟩ := hS
          go_simp
          with_reducible rfl
        rotate_left
        · simp only [Act.put, List.setIfInBounds_toArray, List.set_cons_zero, List.set_cons_succ]
          rfl
        refine pure_ (i := 7) (N := some 49) (v := ?_) (a' := ?_) #[true, true, true, true, true, true, true, true, false, false, false, false, false] rfl rfl (by kernel_rfl) (fun _ _ _ h => h) (Or.inl ⟨by rfl, ?_⟩) ?_ ?_
        rotate_left
        · intro w'
          go_simp
          with_reducible rfl
        rotate_left
        · simp only [Act.put, List.setIfInBounds_toArray, List.set_cons_zero, List.set_cons_succ]
          rfl
        refine take_ (i := 8) (N := some 50) (v := ?_) (a' := ?_) #[true, true, true, true, true, true, true, true, true, false, false, false, false] rfl rfl (by kernel_rfl) (fun _ _ _ h => h) (Or.inl ⟨by rfl, ?_⟩) ⟨(blk_cell Y.out 1).trans rfl, (blk_cell Y.out 2).trans rfl, (blk_cell Y.out 3).trans rfl, (blk_cell Y.out 4).trans rfl, (blk_cell Z.out 1).trans rfl⟩ ?_ ?_
        rotate_left
        · intro w' hS
          obtain ⟨h1, h2, h3, h4, h5⟩ := hS
          go_simp
          with_reducible rfl
        rotate_left
        · simp only [Act.put, List.setIfInBounds_toArray, List.set_cons_zero, List.set_cons_succ]
          rfl
        refine pure_ (i := 10) (N := some 52) (v := ?_) (a' := ?_) #[true, true, true, true, true, true, true, true, true, false, true, false, false] rfl rfl (by kernel_rfl) (fun _ _ _ h => h) (Or.inl ⟨by rfl, ?_⟩) ?_ ?_
        rotate_left
        · intro w'
          go_simp
          with_reducible rfl
        rotate_left
        · simp only [Act.put, List.setIfInBounds_toArray, List.set_cons_zero, List.set_cons_succ]
          rfl
        refine take_ (i := 11) (N := some 53) (v := ?_) (a' := ?_) #[true, true, true, true, true, true, true, true, true, false, true, true, false] rfl rfl (by kernel_rfl) (fun _ _ _ h => h) (Or.inl ⟨by rfl, ?_⟩) ⟨(blk_cell Y.out 1).trans rfl, (blk_cell Y.out 2).trans rfl, (blk_cell Y.out 3).trans rfl, (blk_cell Y.out 4).trans rfl, (blk_cell Z.out 1).trans rfl⟩ ?_ ?_
        rotate_left
        · intro w' hS
          obtain ⟨h1, h2, h3, h4, h5⟩ := hS
          go_simp
          with_reducible rfl
        rotate_left
        · simp only [Act.put, List.setIfInBounds_toArray, List.set_cons_zero, List.set_cons_succ]
          rfl
        refine one_ (i := 9) (N := some 51) #[true, true, true, true, true, true, true, true, true, true, true, true, false] rfl rfl (by kernel_rfl) (by simp) (fun K hK => ?_)
        refine goes_ Try.func23 (by kernel_rfl) rfl #[.pointer (some ⟨g, 0, none⟩), .int .i64 x1, .int .i64 x2, .int .i64 x3, .int .i64 x4] (by rfl) rfl rfl (by simp only [List.map_toArray, List.map_cons, List.map_nil] <;> rfl) ?_
        refine (hpn.out V0 HT.out).mono ?_
        rintro e V1 ⟨rfl, hT7, hgr⟩
        have hmp := HT.out.map
        have n_R := Aside0.mk (la_map R.out hmp hgr)
        have n_B := Aside0.mk (below_put HB.out hbs hgr HB.out.size)
        have n_Y := Aside0.mk ((hgr.block g6 (Array.getElem?_eq_some_iff.1 Y.out).1 (fun e => by obtain ⟨es, c, hm⟩ := hmp; have h9 := Y.out; rw [Option.some.inj e, hm] at h9; cases h9)).trans Y.out)
        have n_Z := Aside0.mk ((hgr.block g7 (Array.getElem?_eq_some_iff.1 Z.out).1 (fun e => by obtain ⟨es, c, hm⟩ := hmp; have h9 := Z.out; rw [Option.some.inj e, hm] at h9; cases h9)).trans Z.out)
        clear HT R HB Y Z hgr hmp
        have HT := Aside0.mk hT7
        have R := n_R
        have HB := n_B
        have Y := n_Y
        have Z := n_Z
        clear n_R n_B n_Y n_Z hT7
        refine ⟨_, rfl, hK.out _ _ ⟨(blk_cell Y.out 1).trans rfl, (blk_cell Y.out 2).trans rfl, (blk_cell Y.out 3).trans rfl, (blk_cell Y.out 4).trans rfl, (blk_cell Z.out 1).trans rfl⟩ (fun _ => ?_)⟩
        clear hK K
        refine norm_ (a' := ?_) ?_ ?_
        rotate_left
        · simp only [Act.put, List.setIfInBounds_toArray, List.set_cons_zero, List.set_cons_succ]
          rfl
        refine pure_ (i := 12) (N := some 54) (v := ?_) (a' := ?_) #[true, true, true, true, true, true, true, true, true, true, true, true, true] rfl rfl (by kernel_rfl) (fun _ _ _ h => h) (Or.inl ⟨by rfl, ?_⟩) ?_ ?_
        rotate_left
        · intro w'
          go_simp
          with_reducible rfl
        rotate_left
        · simp only [Act.put, List.setIfInBounds_toArray, List.set_cons_zero, List.set_cons_succ]
          rfl
        refine done_ (by kernel_rfl) ?_
        have z0 : V1.cell? ⟨g7, 0, none⟩ = some (.slice A2 l2.length c2) := (blk_cell Z.out 0).trans rfl
        have z1 : V1.cell? ⟨g7, 1, none⟩ = some (.int .i64 E) := (blk_cell Z.out 1).trans rfl
        have y1 : V1.cell? ⟨g6, 1, none⟩ = some (.int .i64 x1) := (blk_cell Y.out 1).trans rfl
        have y2 : V1.cell? ⟨g6, 2, none⟩ = some (.int .i64 x2) := (blk_cell Y.out 2).trans rfl
        have y3 : V1.cell? ⟨g6, 3, none⟩ = some (.int .i64 x3) := (blk_cell Y.out 3).trans rfl
        have y4 : V1.cell? ⟨g6, 4, none⟩ = some (.int .i64 x4) := (blk_cell Y.out 4).trans rfl
        have hl2k : l2.length ≤ 1000 := by omega
        by_cases hE0 : E = 0
        · subst hE0
          go_wp2_with fail
          have hck := check_calls g b l2 x1 x2 x3 V1 HT.out hl2k
          simp only [HCN.out (by first | rfl | trivial)] at hck
          refine hck.mono ?_
          clear hck
          rintro e w8 ⟨rfl, hb⟩
          have n_HT := Aside0.mk (HT.out.later hb)
          have n_R := Aside0.mk (la_below R.out hb)
          have n_HB := Aside0.mk (below_step HB.out hb)
          have n_Y := Aside0.mk (blk_below Y.out hb)
          clear HT R HB Y hb z0 z1 Z y1 y2 y3 y4
          have HT := n_HT
          have R := n_R
          have HB := n_HB
          have Y := n_Y
          clear n_HT n_R n_HB n_Y
          have y4 : w8.cell? ⟨g6, 4, none⟩ = some (.int .i64 x4) := (blk_cell Y.out 4).trans rfl
          have hb4 : (x4 == x4) = true := beq_self_eq_true _
          have hb5 : (x4 != x4) = false := bne_self_eq_false _
          go_wp2_with fail
          refine (same_calls g b l2 A2 c2 _ HT.out (Kd.R_reads' R.out).2.2 (Kd.R_reads' R.out).2.1 hl2k).mono ?_
          rintro e w9 ⟨rfl, hb⟩
          have n_HT := Aside0.mk (HT.out.later hb)
          have n_R := Aside0.mk (la_below R.out hb)
          have n_HB := Aside0.mk (below_step HB.out hb)
          clear HT R HB hb
          have HT := n_HT
          have R := n_R
          have HB := n_HB
          clear n_HT n_R n_HB
          go_wp2_with fail
          go_roundw
          case rel => first | exact ⟨i + 1, l2, by go_num, by omega, by omega, HT, R, HB⟩ | skip
          case measure => simp [intOf]; omega
        · have hEn : (E == 0) = false := beq_eq_false_iff_ne.2 hE0
          go_wp2_with fail
          refine (same_calls g b l2 A2 c2 _ HT.out (Kd.R_reads' R.out).2.2 (Kd.R_reads' R.out).2.1 hl2k).mono ?_
          rintro e w9 ⟨rfl, hb⟩
          have n_HT := Aside0.mk (HT.out.later hb)
          have n_R := Aside0.mk (la_below R.out hb)
          have n_HB := Aside0.mk (below_step HB.out hb)
          clear HT R HB hb
          have HT := n_HT
          have R := n_R
          have HB := n_HB
          clear n_HT n_R n_HB
          go_wp2_with fail
          go_roundw
          case rel => first | exact ⟨i + 1, l2, by go_num, by omega, by omega, HT, R, HB⟩ | skip
          case measure => simp [intOf]; omega
      · have hn0 : (x0 == 0) = false := beq_eq_false_iff_ne.2 h0
        go_wp2_with (first
          | ((with_reducible refine gate_dst (N := 27) rfl ?_); refine load_evm' (N := 27) rfl rfl rfl (cs := #[.int .i64 x0, .int .i64 x1, .int .i64 x2, .int .i64 x3, .int .i64 x4]) rfl hcs'.out Try.underlying38 rfl (by kernel_rfl) ?_)
          | ((with_reducible refine gate_dst (N := 6) rfl ?_); refine box_event rfl (N := 6) rfl (cs := #[.int .i64 0, .int .i64 0, .int .i64 0, .int .i64 0, .int .i64 0]) (t := 38) ?hr ?_; (case hr => first | (go_simp; done) | (go_simp; rfl)); intro g6 hg6 w2 hbx hbl; have n_X := Aside0.mk (below_step HX.out hbl); have G6 := Aside0.mk (show _ ≤ g6 by rw [hg6]; exact HX.out.size); have Y := Aside0.mk hbx; clear HX hbx hbl hg6; have HX := n_X; clear n_X)
          | ((with_reducible refine gate_store (t := 38) (p := 6) rfl ?_); refine store_ev rfl rfl rfl (cells := #[.int .i64 x0, .int .i64 x1, .int .i64 x2, .int .i64 x3, .int .i64 x4]) rfl rfl Y.out (by kernel_rfl) rfl (by kernel_rfl) ?_; intro w3 hbx hgr; have n_X := Aside0.mk (below_put HX.out G6.out hgr HX.out.size); have n_Y := Aside0.mk hbx; clear HX Y hbx hgr; have HX := n_X; have Y := n_Y; clear n_X n_Y; have y0 : w3.cell? ⟨g6, 0, none⟩ = some (.int .i64 x0) := (blk_cell Y.out 0).trans rfl; have y1 : w3.cell? ⟨g6, 1, none⟩ = some (.int .i64 x1) := (blk_cell Y.out 1).trans rfl; have y2 : w3.cell? ⟨g6, 2, none⟩ = some (.int .i64 x2) := (blk_cell Y.out 2).trans rfl; have y3 : w3.cell? ⟨g6, 3, none⟩ = some (.int .i64 x3) := (blk_cell Y.out 3).trans rfl; have y4 : w3.cell? ⟨g6, 4, none⟩ = some (.int .i64 x4) := (blk_cell Y.out 4).trans rfl))
        have n_T := Aside0.mk (HT.out.later HX.out)
        have n_R := Aside0.mk (la_below R.out HX.out)
        have n_B := Aside0.mk (below_step HB.out HX.out)
        clear HT R HB HX hcs'
        have HT := n_T
        have R := n_R
        have HB := n_B
        clear n_T n_R n_B
        have hck := check_calls g b l x1 x2 x3 w3 HT.out (by omega)
        have hrc := Aside0.mk (fun (W : World) (hA : Kd.C k43 W A1 l.length l) => rcheck_calls A1 c1 l x1 x2 x3 W hA hc1 HT.out.ris HT.out.ok (by omega))
        obtain ⟨C, hC⟩ : ∃ C, chk l x1 x2 x3 = C := ⟨_, rfl⟩
        simp only [hC] at hck hrc
        clear hC
        obtain ⟨e1, e2, e3⟩ := C
        simp only at hck hrc
        refine hck.mono ?_
        clear hck
        rintro e w4 ⟨rfl, hb⟩
        have n_HT := Aside0.mk (HT.out.later hb)
        have n_R := Aside0.mk (la_below R.out hb)
        have n_HB := Aside0.mk (below_step HB.out hb)
        have n_Y := Aside0.mk (blk_below Y.out hb)
        clear HT R HB Y hb y0 y1 y2 y3 y4
        have HT := n_HT
        have R := n_R
        have HB := n_HB
        have Y := n_Y
        clear n_HT n_R n_HB n_Y
        have y1 : w4.cell? ⟨g6, 1, none⟩ = some (.int .i64 x1) := (blk_cell Y.out 1).trans rfl
        have y2 : w4.cell? ⟨g6, 2, none⟩ = some (.int .i64 x2) := (blk_cell Y.out 2).trans rfl
        have y3 : w4.cell? ⟨g6, 3, none⟩ = some (.int .i64 x3) := (blk_cell Y.out 3).trans rfl
        go_wp2_with fail
        refine (hrc.out w4 (Kd.R_reads' R.out).2.2).mono ?_
        clear hrc
        rintro e w5 ⟨rfl, hb⟩
        have n_HT := Aside0.mk (HT.out.later hb)
        have n_R := Aside0.mk (la_below R.out hb)
        have n_HB := Aside0.mk (below_step HB.out hb)
        clear HT R HB hb Y y1 y2 y3 G6
        have HT := n_HT
        have R := n_R
        have HB := n_HB
        clear n_HT n_R n_HB
        have HX := Aside0.mk (Below.refl w5.heap.size w5)
        have b1 : (e1 == e1) = true := beq_self_eq_true _
        have b2 : (e2 == e2) = true := beq_self_eq_true _
        have b3 : (e3 == e3) = true := beq_self_eq_true _
        go_wp2_with (first
          | ((with_reducible refine gate_dst (N := 14) rfl ?_); refine box_event rfl (N := 14) rfl (cs := #[.int .i64 0, .bool false, .int .i64 0]) (t := 49) ?hr ?_; (case hr => first | (go_simp; done) | (go_simp; rfl)); intro g14 hg14 w6 hbx hbl; have n_X := Aside0.mk (below_step HX.out hbl); have G14 := Aside0.mk (show w5.heap.size ≤ g14 by rw [hg14]; exact HX.out.size); have Z := Aside0.mk hbx; clear HX hbx hbl hg14; have HX := n_X; clear n_X)
          | ((with_reducible refine gate_store (t := 49) (p := 14) rfl ?_); refine store_ev rfl rfl rfl (cells := #[.int .i64 e1, .bool e2, .int .i64 e3]) rfl rfl Z.out (by kernel_rfl) rfl (by kernel_rfl) ?_; intro w7 hbx hgr; have n_X := Aside0.mk (below_put HX.out G14.out hgr HX.out.size); have n_Z := Aside0.mk hbx; clear HX Z hbx hgr; have HX := n_X; have Z := n_Z; clear n_X n_Z; have z0 : w7.cell? ⟨g14, 0, none⟩ = some (.int .i64 e1) := (blk_cell Z.out 0).trans rfl; have z1 : w7.cell? ⟨g14, 1, none⟩ = some (.bool e2) := (blk_cell Z.out 1).trans rfl; have z2 : w7.cell? ⟨g14, 2, none⟩ = some (.int .i64 e3) := (blk_cell Z.out 2).trans rfl))
        have n_T := Aside0.mk (HT.out.later HX.out)
        have n_R := Aside0.mk (la_below R.out HX.out)
        have n_B := Aside0.mk (below_step HB.out HX.out)
        clear HT R HB HX G14
        have HT := n_T
        have R := n_R
        have HB := n_B
        clear n_T n_R n_B
        refine (same_calls g b l A1 c1 _ HT.out (Kd.R_reads' R.out).2.2 (Kd.R_reads' R.out).2.1 (by omega)).mono ?_
        rintro e w9 ⟨rfl, hb⟩
        have n_HT := Aside0.mk (HT.out.later hb)
        have n_R := Aside0.mk (la_below R.out hb)
        have n_HB := Aside0.mk (below_step HB.out hb)
        clear HT R HB hb z0 z1 z2 Z
        have HT := n_HT
        have R := n_R
        have HB := n_HB
        clear n_HT n_R n_HB
        go_wp2_with fail
        go_roundw
        case rel => first | exact ⟨i + 1, l, by go_num, by omega, by omega, HT, R, HB⟩ | skip
        case measure => simp [intOf]; omega
    · obtain rfl : i = l0.length := by omega
      go_wp2_with fail
      refine (copy_calls g b l wr HT.out (by omega)).mono ?_
      rintro e w2 ⟨g2, b2, rfl, hT2, hg2, hb2, hb⟩
      have hg3 := HT.out.lt
      have hb3 := HT.out.blt
      have HT2 := Aside0.mk hT2
      have n_HT := Aside0.mk (HT.out.later hb)
      have n_R := Aside0.mk (la_below R.out hb)
      have n_HB := Aside0.mk (below_step HB.out hb)
      clear HT R HB hb hT2
      have HT := n_HT
      have R := n_R
      have HB := n_HB
      clear n_HT n_R n_HB
      go_wp2_with fail
      refine (note_calls g b l 1 0 1 0 w2 HT.out (by omega)).mono ?_
      rintro e w3 ⟨rfl, hT3, hgr⟩
      have n_T2 := Aside0.mk (HT2.out.kept hgr (by omega) (by omega))
      have n_R := Aside0.mk (la_map R.out HT.out.map hgr)
      have n_B := Aside0.mk (below_put HB.out hbs hgr HB.out.size)
      clear HT HT2 R HB hT3 hgr hg2 hb2 hg3 hb3
      have HT2 := n_T2
      have R := n_R
      have HB := n_B
      clear n_T2 n_R n_B
      have hE := note1 l
      obtain ⟨E, hE2⟩ : ∃ E, noteE l ⟨1, 0, 1, 0⟩ = E := ⟨_, rfl⟩
      rw [hE2] at hE
      simp only [hE2]
      clear hE2
      go_wp2_with fail
      refine (same_calls g2 b2 l A1 c1 w3 HT2.out (Kd.R_reads' R.out).2.2 (Kd.R_reads' R.out).2.1 (by omega)).mono ?_
      rintro e w4 ⟨rfl, hb⟩
      have n_HB := Aside0.mk (below_step HB.out hb)
      clear HB hb HT2 R
      have HB := n_HB
      clear n_HB
      rcases hE with rfl | rfl
      · go_wp2_with fail
        refine (seven_calls w4).mono ?_
        rintro e w5 ⟨rfl, hb⟩
        have n_HB := Aside0.mk (below_step HB.out hb)
        clear HB hb
        have HB := n_HB
        clear n_HB
        go_wp2_with fail
        go_ret
        exact ⟨rfl, HB.out⟩
      · go_wp2_with fail
        refine (seven_calls w4).mono ?_
        rintro e w5 ⟨rfl, hb⟩
        have n_HB := Aside0.mk (below_step HB.out hb)
        clear HB hb
        have HB := n_HB
        clear n_HB
        go_wp2_with fail
        go_ret
        exact ⟨rfl, HB.out⟩
end Go.Proofs.Ytgojaomldkgojaa.Dd

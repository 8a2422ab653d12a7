import Derived.Test.YteopponjfkeagaaLat17
namespace Go.Proofs.Yteopponjfkeagaa.Lat
open Go.RowKit Go.Maps Go.Proofs.YteopponjfkeagaaW.PrintWords Go.Proofs.YteopponjfkeagaaW.PrintLast Go.Proofs.YteopponjfkeagaaW.PrintMore Go.Proofs.Yteopponjfkeagaa.PLattice
set_option linter.unusedVariables false
set_option linter.unusedSimpArgs false

theorem jT_in {n : Nat} {T : Int → Int → Bool} {i j : Nat} (hi : i < n) (hj : j < n) : J n T n 0 i j = G n T i j := by
  unfold J
  rw [if_pos ⟨by omega, by omega, by omega, .inl (by omega)⟩]
theorem find_in {n : Nat} {K : Int → Int → Int} {i j : Nat} (hi : i < n) (hj : j < n) : findF n K i j = (K i j, 0) := by
  unfold findF
  rw [if_pos ⟨inN_iff.2 ⟨by omega, by omega⟩, inN_iff.2 ⟨by omega, by omega⟩⟩]
theorem find_out {n : Nat} {K : Int → Int → Int} {a b : Int} (h : ¬ (0 ≤ a ∧ a < n ∧ 0 ≤ b ∧ b < n)) : findF n K a b = (0, 1) := by
  unfold findF
  rw [if_neg (fun q => h ⟨(inN_iff.1 q.1).1, (inN_iff.1 q.1).2, inN_iff.1 q.2⟩)]
theorem flows_out {n : Nat} {F : Nat → Bool} {a b : Int} (h : ¬ (0 ≤ a ∧ a < n ∧ 0 ≤ b ∧ b < n)) : flowsF n F a b = false := by
  unfold flowsF
  cases ha : inN n a
  · rfl
  · cases hb : inN n b
    · rfl
    · exact absurd ⟨(inN_iff.1 ha).1, (inN_iff.1 ha).2, inN_iff.1 hb⟩ h
section
variable {f : List (List Bool)} {n c : Nat} {A : Option Addr} {w : World}
theorem tr_jT (hs : sq f) (hn : f.length = n) : jT n (flR (tr f) n) = mT n (flR f n) := by
  subst hn
  have h : lt f.length (flR (tr f) f.length) = gt f.length (flR f f.length) := by
    have := tr_fun hs
    rw [show TT (tr f) = flowsF (tr f).length (flR (tr f) (tr f).length) from rfl, tr_length] at this
    exact this
  unfold jT mT
  rw [h]
theorem tr_full (hs : sq f) (hn : f.length = n) (hf : full n (gt n (flR f n))) : full (tr f).length (TT (tr f)) := by
  subst hn
  rw [tr_fun hs, tr_length]
  exact hf
theorem rj (hs : sq f) (hn : f.length = n) (hC : Kd.C (Kd.slice 4 Kd.bool) w A n f) (hc : n ≤ c) {i j : Nat} (hi : i < n) (hj : j < n) :
    Calls Try.prog 28 #[.slice A n c, .int .i64 (i : Int), .int .i64 (j : Int)] w fun e w' => e = .returned (.int .i64 (G n (lt n (flR f n)) i j)) ∧ Below w.heap.size w w' := by
  subst hn
  have h6 := hs.2.1
  exact (weighlockref04_Join.calls 100 A c f i j _ w hC hc (Join_f hs i j hi hj 100 (by omega))).mono fun e w' h => ⟨h.1, h.2.below⟩
theorem rm (hs : sq f) (hn : f.length = n) (hC : Kd.C (Kd.slice 4 Kd.bool) w A n f) (hc : n ≤ c) {i j : Nat} (hi : i < n) (hj : j < n) :
    Calls Try.prog 29 #[.slice A n c, .int .i64 (i : Int), .int .i64 (j : Int)] w fun e w' => e = .returned (.int .i64 (G n (gt n (flR f n)) i j)) ∧ Below w.heap.size w w' := by
  subst hn
  exact weighlockref04_Meet.calls 100 A c f i j _ w hC hc (Meet_f hs i j hi hj 100 (by omega))
theorem rt (hs : sq f) (hn : f.length = n) (hf : full n (lt n (flR f n))) (hC : Kd.C (Kd.slice 4 Kd.bool) w A n f) (hc : n ≤ c) :
    Calls Try.prog 25 #[.slice A n c] w fun e w' => e = .returned (.int .i64 (least (jT n (flR f n)) n)) ∧ Below w.heap.size w w' := by
  subst hn
  exact (weighlockref04_Top.calls 100 A c f _ w hC hc (Top_f hs hf 100 (by omega))).mono fun e w' h => ⟨h.1, h.2.below⟩
theorem ru (hs : sq f) (hn : f.length = n) (hC : Kd.C (Kd.slice 4 Kd.bool) w A n f) (hc : n ≤ c) :
    Calls Try.prog 27 #[.slice A n c] w fun e w' => ∃ A' c', e = .returned (.slice A' n c') ∧ n ≤ c' ∧ Kd.C (Kd.slice 4 Kd.bool) w' A' n (tr f) ∧ Below w.heap.size w w' := by
  subst hn
  refine (weighlockref04_Turned.calls 100 A c f _ w hC hc (Turned_f hs 100 (by omega))).mono ?_
  rintro e w' ⟨v, rfl, hS, hb⟩
  obtain ⟨A', c', rfl, h1, h2⟩ := Kd.R_reads (Kd.S_R hS)
  rw [tr_length] at h1 h2 ⊢
  exact ⟨A', c', rfl, h1, h2, hb⟩
theorem rtu (hs : sq f) (hn : f.length = n) (hf : full n (gt n (flR f n))) (hC : Kd.C (Kd.slice 4 Kd.bool) w A n (tr f)) (hc : n ≤ c) :
    Calls Try.prog 25 #[.slice A n c] w fun e w' => e = .returned (.int .i64 (least (mT n (flR f n)) n)) ∧ Below w.heap.size w w' := by
  have hl : (tr f).length = n := (tr_length f).trans hn
  have h := tr_full hs hn hf
  rw [hl] at h
  rw [← tr_jT hs hn]
  exact rt (tr_sq hs) hl (by
    have e : lt n (flR (tr f) n) = TT (tr f) := by unfold lt TT; rw [hl]
    rw [e]
    exact h) hC hc
theorem ra (hs : sq f) (hn : f.length = n) (hC : Kd.C (Kd.slice 4 Kd.bool) w A n f) (hc : n ≤ c) {i : Nat} (hi : i < n) :
    Calls Try.prog 32 #[.slice A n c, .int .i64 (i : Int)] w fun e w' => ∃ A' c', e = .returned (.slice A' (pick (fun x => flowsF n (flR f n) i x) n).length c') ∧ (pick (fun x => flowsF n (flR f n) i x) n).length ≤ c' ∧ Kd.C (Kd.int .i64) w' A' (pick (fun x => flowsF n (flR f n) i x) n).length (pick (fun x => flowsF n (flR f n) i x) n) ∧ Below w.heap.size w w' := by
  subst hn
  refine (weighlockref04_Above.calls 100 A c f i _ w hC hc (Above_f hs i hi 100 (by omega))).mono ?_
  rintro e w' ⟨v, rfl, hR, hb⟩
  obtain ⟨A', c', rfl, h1, h2⟩ := Kd.R_reads hR
  exact ⟨A', c', rfl, h1, h2, hb⟩
theorem rau (hs : sq f) (hn : f.length = n) (hC : Kd.C (Kd.slice 4 Kd.bool) w A n (tr f)) (hc : n ≤ c) {i : Nat} (hi : i < n) :
    Calls Try.prog 32 #[.slice A n c, .int .i64 (i : Int)] w fun e w' => ∃ A' c', e = .returned (.slice A' (pick (fun x => flowsF n (flR f n) x i) n).length c') ∧ (pick (fun x => flowsF n (flR f n) x i) n).length ≤ c' ∧ Kd.C (Kd.int .i64) w' A' (pick (fun x => flowsF n (flR f n) x i) n).length (pick (fun x => flowsF n (flR f n) x i) n) ∧ Below w.heap.size w w' := by
  have hl : (tr f).length = n := (tr_length f).trans hn
  have h := ra (i := i) (tr_sq hs) hl hC hc hi
  have e : (fun x => flowsF n (flR (tr f) n) i x) = fun x => flowsF n (flR f n) x i := by
    funext x
    have := tr_TT hs i x
    rw [show TT (tr f) = flowsF (tr f).length (flR (tr f) (tr f).length) from rfl, show TT f = flowsF f.length (flR f f.length) from rfl, hl, hn] at this
    exact this
  rw [e] at h
  exact h
theorem lat_Above {g : Nat} {F : Nat → Bool} (h : IsLat w g n F) (h6 : n ≤ 6) (a : Int) : Calls Try.prog 31 #[P g, .int .i64 a] w fun e w' => ∃ A' c', e = .returned (.slice A' (pick (fun x => flowsF n F a x) n).length c') ∧ (pick (fun x => flowsF n F a x) n).length ≤ c' ∧ Kd.C (Kd.int .i64) w' A' (pick (fun x => flowsF n F a x) n).length (pick (fun x => flowsF n F a x) n) ∧ Below w.heap.size w w' := by
  refine (Above_calls h6 (lat_sized h) (lat_flowing h h6) a).mono ?_
  rintro e w' ⟨v, rfl, hR, hb⟩
  obtain ⟨A', c', rfl, h1, h2⟩ := Kd.R_reads hR
  exact ⟨A', c', rfl, h1, h2, hb⟩
theorem lat_Below {g : Nat} {F : Nat → Bool} (h : IsLat w g n F) (h6 : n ≤ 6) (a : Int) : Calls Try.prog 33 #[P g, .int .i64 a] w fun e w' => ∃ A' c', e = .returned (.slice A' (pick (fun x => flowsF n F x a) n).length c') ∧ (pick (fun x => flowsF n F x a) n).length ≤ c' ∧ Kd.C (Kd.int .i64) w' A' (pick (fun x => flowsF n F x a) n).length (pick (fun x => flowsF n F x a) n) ∧ Below w.heap.size w w' := by
  refine (Below_calls h6 (lat_sized h) (lat_flowing h h6) a).mono ?_
  rintro e w' ⟨v, rfl, hR, hb⟩
  obtain ⟨A', c', rfl, h1, h2⟩ := Kd.R_reads hR
  exact ⟨A', c', rfl, h1, h2, hb⟩
theorem ints_same {l : List Int} {A B : Option Addr} {c d : Nat} (h1000 : l.length < 1000) (h1 : Kd.C (Kd.int .i64) w A l.length l) (hc : l.length ≤ c) (h2 : Kd.C (Kd.int .i64) w B l.length l) (hd : l.length ≤ d) :
    Calls Try.prog 30 #[.slice A l.length c, .slice B l.length d] w fun e w' => e = .returned (.bool true) ∧ Below w.heap.size w w' :=
  (weighlockplain_Ints.calls 1100 A c l B d l true w h1 hc h2 hd (Ints_f l h1000 1100 (by omega))).mono fun e w' h => ⟨h.1, h.2.below⟩
/-- the cells of a table, two labels of it -/
theorem cells_at (hs : sq f) (hn : f.length = n) (hC : Kd.C (Kd.slice 4 Kd.bool) w A n f) {i j : Nat} (hi : i < n) (hj : j < n) :
    ∃ ad ad0 c0, A = some ad ∧ w.cell? (ad.add i) = some (.slice (some ad0) n c0) ∧ n ≤ c0 ∧ w.cell? (ad0.add j) = some (.bool (flowsF n (flR f n) i j)) := by
  subst hn
  obtain ⟨ad, A0, c0, rfl, h1, h2, h3⟩ := at_row hC i hi
  have hl := hs.2.2 i hi
  obtain ⟨ad0, rfl, h4⟩ := Kd.at_bool h3 (j : Int) (by omega) (by omega)
  rw [hl] at h1 h2
  refine ⟨ad, ad0, c0, rfl, h1, h2, ?_⟩
  rw [Int.toNat_natCast] at h4
  rw [h4]
  congr 2
  have := at_TT hs i j hi hj
  rw [show TT f = flowsF f.length (flR f f.length) from rfl] at this
  rw [← this]
  unfold rd_L1 rowOf
  rw [Int.toNat_natCast]
end
end Go.Proofs.Yteopponjfkeagaa.Lat

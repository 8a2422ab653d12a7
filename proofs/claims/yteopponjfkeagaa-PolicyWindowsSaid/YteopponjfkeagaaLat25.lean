import Derived.Test.YteopponjfkeagaaLat18
namespace Go.Proofs.Yteopponjfkeagaa.Lat
open Go.RowKit Go.Maps Go.Proofs.YteopponjfkeagaaW.PrintWords Go.Proofs.YteopponjfkeagaaW.PrintLast Go.Proofs.YteopponjfkeagaaW.PrintMore Go.Proofs.Yteopponjfkeagaa.PLattice
set_option linter.unusedVariables false
set_option linter.unusedSimpArgs false

/-- the join, by an order: above both, and below all that are -/
def IsJ (R : Nat → Nat → Prop) (n a b m : Nat) : Prop := m < n ∧ R a m ∧ R b m ∧ ∀ y, y < n → R a y → R b y → R m y
theorem G_isJ {n : Nat} {T : Int → Int → Bool} {a b : Nat} (h : G n T a b ≠ -1) : ∃ m : Nat, G n T a b = m ∧ IsJ (fun i j => T i j = true) n a b m := by
  have hr := G_range h
  rw [← jF_G] at h hr ⊢
  unfold jF at h hr ⊢
  cases hf : (List.range' 0 n).find? fun x : Nat => T a x && T b x && allG T a b x 0 n with
  | none => rw [hf] at h; exact absurd rfl h
  | some m =>
    rw [hf] at hr
    have hp := List.find?_some hf
    simp only [Bool.and_eq_true] at hp
    refine ⟨m, rfl, ?_, hp.1.1, hp.1.2, fun y hy h1 h2 => ?_⟩
    · have : ((m : Nat) : Int) < n := hr.2
      omega
    · have h3 := hp.2
      unfold allG at h3
      rw [List.all_eq_true] at h3
      have h4 := h3 y (by rw [List.mem_range']; exact ⟨y, hy, by omega⟩)
      rw [h1, h2] at h4
      simpa using h4
/-- a lattice's order, as it is -/
structure Ord (n : Nat) (R : Nat → Nat → Prop) : Prop where
  refl : ∀ i, i < n → R i i
  anti : ∀ i j, i < n → j < n → R i j → R j i → i = j
  trans : ∀ i j k, i < n → j < n → k < n → R i j → R j k → R i k
theorem Ord.dual {n : Nat} {R : Nat → Nat → Prop} (h : Ord n R) : Ord n (fun i j => R j i) := ⟨h.refl, fun i j hi hj a b => h.anti i j hi hj b a, fun i j k hi hj hk a b => h.trans k j i hk hj hi b a⟩
section
variable {n : Nat} {R : Nat → Nat → Prop} (o : Ord n R)
include o
theorem IsJ.one {a b m m' : Nat} (h : IsJ R n a b m) (h' : IsJ R n a b m') : m = m' := o.anti m m' h.1 h'.1 (h.2.2.2 m' h'.1 h'.2.1 h'.2.2.1) (h'.2.2.2 m h.1 h.2.1 h.2.2.1)
omit o in
theorem IsJ.swap {a b m : Nat} (h : IsJ R n a b m) : IsJ R n b a m := ⟨h.1, h.2.2.1, h.2.1, fun y hy h1 h2 => h.2.2.2 y hy h2 h1⟩
theorem IsJ.self {a : Nat} (ha : a < n) : IsJ R n a a a := ⟨ha, o.refl a ha, o.refl a ha, fun y hy h _ => h⟩
theorem IsJ.of_le {a b : Nat} (ha : a < n) (hb : b < n) (h : R a b) : IsJ R n a b b := ⟨hb, h, o.refl b hb, fun y hy _ h2 => h2⟩
theorem IsJ.le_iff {a b m : Nat} (ha : a < n) (hb : b < n) (h : IsJ R n a b m) : m = b ↔ R a b :=
  ⟨fun e => by subst e; exact h.2.1, fun hr => IsJ.one o h (IsJ.of_le o ha hb hr)⟩
/-- (a b) c is a (b c) -/
theorem IsJ.assoc {a b c x y u : Nat} (ha : a < n) (hb : b < n) (hc : c < n) (hx : IsJ R n a b x) (hy : IsJ R n b c y) (hu : IsJ R n x c u) : IsJ R n a y u :=
  ⟨hu.1, o.trans a x u ha hx.1 hu.1 hx.2.1 hu.2.1, hy.2.2.2 u hu.1 (o.trans b x u hb hx.1 hu.1 hx.2.2.1 hu.2.1) hu.2.2.1, fun z hz h1 h2 =>
    hu.2.2.2 z hz (hx.2.2.2 z hz h1 (o.trans b y z hb hy.1 hz hy.2.1 h2)) (o.trans c y z hc hy.1 hz hy.2.2.1 h2)⟩
/-- a joined with what is below it is a -/
theorem IsJ.absorb {a y : Nat} (ha : a < n) (hy : y < n) (h : R y a) : IsJ R n a y a := IsJ.swap (IsJ.of_le o hy ha h)
theorem IsJ.two {a b x c : Nat} (ha : a < n) (hb : b < n) (hc : c < n) (hx : IsJ R n a b x) : (R a c ∧ R b c) ↔ R x c :=
  ⟨fun h => hx.2.2.2 c hc h.1 h.2, fun h => ⟨o.trans a x c ha hx.1 hc hx.2.1 h, o.trans b x c hb hx.1 hc hx.2.2.1 h⟩⟩
end
section
variable {f : List (List Bool)} {n : Nat}
theorem good_ord (h : Good f) (hn : f.length = n) : Ord n (fun i j => flowsF n (flR f n) i j = true) := by
  subst hn
  have ho := order_iff.1 h.o
  refine ⟨fun i hi => (ho i i hi hi).1 rfl, fun i j hi hj h1 h2 => ?_, fun i j k hi hj hk h1 h2 => ?_⟩
  · apply Classical.byContradiction
    intro hne
    exact (ho i j hi hj).2.1 hne ⟨h1, h2⟩
  · have := (ho i j hi hj).2.2 k hk
    cases h3 : flowsF f.length (flR f f.length) i k
    · exact absurd ⟨h1, h2, h3⟩ this
    · rfl
/-- the join of two labels of a lattice -/
def jn (f : List (List Bool)) (n i j : Nat) : Nat := (G n (lt n (flR f n)) i j).toNat
def mn (f : List (List Bool)) (n i j : Nat) : Nat := (G n (gt n (flR f n)) i j).toNat
theorem jn_is (h : Good f) (hn : f.length = n) {i j : Nat} (hi : i < n) (hj : j < n) : G n (lt n (flR f n)) i j = (jn f n i j : Nat) ∧ IsJ (fun i j => flowsF n (flR f n) i j = true) n i j (jn f n i j) := by
  have hf := h.j
  rw [hn] at hf
  obtain ⟨m, e, hm⟩ := G_isJ (hf i j hi hj)
  have : jn f n i j = m := by unfold jn; rw [e]; exact Int.toNat_natCast m
  rw [this]
  exact ⟨e, hm⟩
theorem mn_is (h : Good f) (hn : f.length = n) {i j : Nat} (hi : i < n) (hj : j < n) : G n (gt n (flR f n)) i j = (mn f n i j : Nat) ∧ IsJ (fun i j => flowsF n (flR f n) j i = true) n i j (mn f n i j) := by
  have hf := h.m
  rw [hn] at hf
  obtain ⟨m, e, hm⟩ := G_isJ (hf i j hi hj)
  have : mn f n i j = m := by unfold mn; rw [e]; exact Int.toNat_natCast m
  rw [this]
  exact ⟨e, hm⟩
section
variable (h : Good f) (hn : f.length = n)
include h hn
theorem jn_lt {i j : Nat} (hi : i < n) (hj : j < n) : jn f n i j < n := (jn_is h hn hi hj).2.1
theorem mn_lt {i j : Nat} (hi : i < n) (hj : j < n) : mn f n i j < n := (mn_is h hn hi hj).2.1
theorem jn_comm {i j : Nat} (hi : i < n) (hj : j < n) : jn f n i j = jn f n j i := IsJ.one (good_ord h hn) (jn_is h hn hi hj).2 (jn_is h hn hj hi).2.swap
theorem mn_comm {i j : Nat} (hi : i < n) (hj : j < n) : mn f n i j = mn f n j i := IsJ.one (good_ord h hn).dual (mn_is h hn hi hj).2 (mn_is h hn hj hi).2.swap
theorem jn_self {i : Nat} (hi : i < n) : jn f n i i = i := IsJ.one (good_ord h hn) (jn_is h hn hi hi).2 (IsJ.self (good_ord h hn) hi)
theorem mn_self {i : Nat} (hi : i < n) : mn f n i i = i := IsJ.one (good_ord h hn).dual (mn_is h hn hi hi).2 (IsJ.self (good_ord h hn).dual hi)
theorem jn_mn {i j : Nat} (hi : i < n) (hj : j < n) : jn f n i (mn f n i j) = i :=
  IsJ.one (good_ord h hn) (jn_is h hn hi (mn_lt h hn hi hj)).2 (IsJ.absorb (good_ord h hn) hi (mn_lt h hn hi hj) (mn_is h hn hi hj).2.2.1)
theorem mn_jn {i j : Nat} (hi : i < n) (hj : j < n) : mn f n i (jn f n i j) = i :=
  IsJ.one (good_ord h hn).dual (mn_is h hn hi (jn_lt h hn hi hj)).2 (IsJ.absorb (good_ord h hn).dual hi (jn_lt h hn hi hj) (jn_is h hn hi hj).2.2.1)
theorem jn_flows {i j : Nat} (hi : i < n) (hj : j < n) : jn f n i j = j ↔ flowsF n (flR f n) i j = true := IsJ.le_iff (good_ord h hn) hi hj (jn_is h hn hi hj).2
theorem jn_assoc {i j k : Nat} (hi : i < n) (hj : j < n) (hk : k < n) : jn f n (jn f n i j) k = jn f n i (jn f n j k) :=
  IsJ.one (good_ord h hn) (IsJ.assoc (good_ord h hn) hi hj hk (jn_is h hn hi hj).2 (jn_is h hn hj hk).2 (jn_is h hn (jn_lt h hn hi hj) hk).2) (jn_is h hn hi (jn_lt h hn hj hk)).2
theorem mn_assoc {i j k : Nat} (hi : i < n) (hj : j < n) (hk : k < n) : mn f n (mn f n i j) k = mn f n i (mn f n j k) :=
  IsJ.one (good_ord h hn).dual (IsJ.assoc (good_ord h hn).dual hi hj hk (mn_is h hn hi hj).2 (mn_is h hn hj hk).2 (mn_is h hn (mn_lt h hn hi hj) hk).2) (mn_is h hn hi (mn_lt h hn hj hk)).2
theorem two_flow {i j k : Nat} (hi : i < n) (hj : j < n) (hk : k < n) : flowsF n (flR f n) (jn f n i j) k = (flowsF n (flR f n) i k && flowsF n (flR f n) j k) := by
  rw [Bool.eq_iff_iff, Bool.and_eq_true]
  exact (IsJ.two (good_ord h hn) hi hj hk (jn_is h hn hi hj).2).symm
end
/-- the contracts, by the labels themselves -/
theorem cj (h : Good f) (hn : f.length = n) (h6 : n ≤ 6) {w : World} {g : Nat} (hl : IsLat w g n (flR f n)) {i j : Nat} (hi : i < n) (hj : j < n) : Calls Try.prog 19 #[P g, .int .i64 (i : Int), .int .i64 (j : Int)] w fun e w' => e = .returned (.tuple #[.int .i64 ((jn f n i j : Nat) : Int), .int .i64 0]) ∧ Below w.heap.size w w' := by
  rw [← (jn_is h hn hi hj).1]
  exact lat_Join_in hl h6 hi hj
theorem cm (h : Good f) (hn : f.length = n) (h6 : n ≤ 6) {w : World} {g : Nat} (hl : IsLat w g n (flR f n)) {i j : Nat} (hi : i < n) (hj : j < n) : Calls Try.prog 20 #[P g, .int .i64 (i : Int), .int .i64 (j : Int)] w fun e w' => e = .returned (.tuple #[.int .i64 ((mn f n i j : Nat) : Int), .int .i64 0]) ∧ Below w.heap.size w w' := by
  rw [← (mn_is h hn hi hj).1]
  exact lat_Meet_in hl h6 hi hj
theorem okJ {w W : World} (hb : Below w.heap.size w W) {g : Nat} (hl : IsLat W g n (flR f n)) {k : Nat} {args : Array Value} {v : Value} (hc : Calls Try.prog k args W fun e w' => e = .returned v ∧ Below W.heap.size W w') :
    Calls Try.prog k args W fun e w' => e = .returned v ∧ Aside0 (IsLat w' g n (flR f n)) ∧ Aside0 (Below w.heap.size w w') :=
  hc.mono fun e w' h => ⟨h.1, ⟨hl.later h.2⟩, ⟨below_step hb h.2⟩⟩
set_option maxHeartbeats 4000000 in
set_option maxRecDepth 8000 in
theorem third_calls (h : Good f) (hn : f.length = n) (h6 : n ≤ 6) {w : World} {g : Nat} (hl : IsLat w g n (flR f n)) {i j k : Nat} (hi : i < n) (hj : j < n) (hk : k < n) :
    Calls Try.prog 22 #[P g, .int .i64 (i : Int), .int .i64 (j : Int), .int .i64 (k : Int)] w fun e w' => e = .returned (.bool true) ∧ Below w.heap.size w w' := by
  have x1 := jn_lt h hn hi hj
  have x2 := jn_lt h hn hj hk
  have x3 := mn_lt h hn hi hj
  have x4 := mn_lt h hn hj hk
  have e1 := Aside0.mk (jn_assoc h hn hi hj hk)
  have e2 := Aside0.mk (mn_assoc h hn hi hj hk)
  have e3 := Aside0.mk (two_flow h hn hi hj hk)
  replace h := Aside0.mk h
  replace hn := Aside0.mk hn
  have HL := Aside0.mk hl
  have HB := Aside0.mk (Below.refl w.heap.size w)
  clear hl
  go_enter Try.func22, Try.ntmps22
  go_wp2_with fail
  refine (okJ HB.out HL.out (cj h.out hn.out h6 HL.out hi hj)).mono ?_
  clear HL HB
  rintro e w1 ⟨rfl, HL, HB⟩
  go_wp2_with fail
  refine (okJ HB.out HL.out (cj h.out hn.out h6 HL.out hj hk)).mono ?_
  clear HL HB
  rintro e w2 ⟨rfl, HL, HB⟩
  go_wp2_with fail
  refine (okJ HB.out HL.out (cj h.out hn.out h6 HL.out x1 hk)).mono ?_
  clear HL HB
  rintro e w3 ⟨rfl, HL, HB⟩
  go_wp2_with fail
  refine (okJ HB.out HL.out (cj h.out hn.out h6 HL.out hi x2)).mono ?_
  clear HL HB
  rw [← e1.out]
  rintro e w4 ⟨rfl, HL, HB⟩
  go_wp2_with fail
  refine (okJ HB.out HL.out (cm h.out hn.out h6 HL.out hi hj)).mono ?_
  clear HL HB
  rintro e w5 ⟨rfl, HL, HB⟩
  go_wp2_with fail
  refine (okJ HB.out HL.out (cm h.out hn.out h6 HL.out hj hk)).mono ?_
  clear HL HB
  rintro e w6 ⟨rfl, HL, HB⟩
  go_wp2_with fail
  refine (okJ HB.out HL.out (cm h.out hn.out h6 HL.out x3 hk)).mono ?_
  clear HL HB
  rintro e w7 ⟨rfl, HL, HB⟩
  go_wp2_with fail
  refine (okJ HB.out HL.out (cm h.out hn.out h6 HL.out hi x4)).mono ?_
  clear HL HB
  rw [← e2.out]
  rintro e w8 ⟨rfl, HL, HB⟩
  go_wp2_with fail
  refine (okJ HB.out HL.out (lat_Flows HL.out h6 i k)).mono ?_
  clear HL HB
  cases hp : flowsF n (flR f n) i k
  · rw [hp] at e3
    rintro e w9 ⟨rfl, HL, HB⟩
    go_wp2_with fail
    refine (okJ HB.out HL.out (lat_Flows HL.out h6 (jn f n i j : Nat) k)).mono ?_
    clear HL HB
    rw [e3.out]
    rintro e w10 ⟨rfl, HL, HB⟩
    go_wp2_with fail
    go_ret
    exact ⟨rfl, HB.out⟩
  · rw [hp] at e3
    rintro e w9 ⟨rfl, HL, HB⟩
    go_wp2_with fail
    refine (okJ HB.out HL.out (lat_Flows HL.out h6 j k)).mono ?_
    clear HL HB
    obtain ⟨q, hq⟩ : ∃ q, flowsF n (flR f n) j k = q := ⟨_, rfl⟩
    rw [hq] at e3 ⊢
    clear hq
    rintro e w10 ⟨rfl, HL, HB⟩
    go_wp2_with fail
    refine (okJ HB.out HL.out (lat_Flows HL.out h6 (jn f n i j : Nat) k)).mono ?_
    clear HL HB
    rw [e3.out]
    rintro e w11 ⟨rfl, HL, HB⟩
    cases q
    · go_wp2_with fail
      go_ret
      exact ⟨rfl, HB.out⟩
    · go_wp2_with fail
      go_ret
      exact ⟨rfl, HB.out⟩
end
end Go.Proofs.Yteopponjfkeagaa.Lat

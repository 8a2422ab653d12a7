import Derived.Test.YtohhlkabejangaaVOf18
namespace Go.Proofs.Ytohhlkabejangaa.Of
set_option linter.unusedVariables false
set_option linter.unusedSimpArgs false
open Go.RowKit Go.Maps Go.Sort Go.Lib Go.Shelf Go.Proofs.YtohhlkabejangaaW.PrintWords Go.Proofs.YtohhlkabejangaaW.PrintLast Go.Proofs.YtohhlkabejangaaW.PrintMore Go.Proofs.Ytohhlkabejangaa.POf Go.Proofs.Ytohhlkabejangaa.Wire
attribute [local go_sem high] eqA74 eqA79 eqA72
theorem infoInt : (Try.prog.info? 3).map (fun i => (i.zero, i.size, i.bytes)) = some (some (.int .i64 0), 1, 8) := by kernel_rfl
theorem actE_eq (T : List Rw) (x : Ac) (ek : Int) (ep : ByteArray) (ee : Int) (h : actE T x = ⟨ek, ep, ee⟩) : actT T x = if ee = 0 then appT T ek ep else T := by
  unfold actT
  rw [h]
theorem ints_map {W W' : World} {base b : Nat} {v : Value} {xs : List Int} (h : Kd.R (Kd.int .i64) 3 W base (fun _ => True) v xs) (hm : ∀ cells t f, W.heap[b]? ≠ some (.cells cells t f)) (hg : W.grownBy W' (some b)) : Kd.R (Kd.int .i64) 3 W' base (fun _ => True) v xs :=
  Kd.R_mono (Kd.R_step (Kd.R_bound h) (fun i hi hlt => hg.block i hlt (fun e => by
    obtain ⟨_, _, _, t, _, cells, hc⟩ := hi
    rw [Option.some.inj e] at hc
    exact hm _ _ _ hc))) (fun _ _ => trivial)
theorem at_int {w : World} {A : Option Addr} {n : Nat} {xs : List Int} (h : Kd.C (Kd.int .i64) w A n xs) (i : Nat) (hi : i < n) (hx : i < xs.length) : ∃ ad, A = some ad ∧ w.cell? (ad.add i) = some (.int .i64 xs[i]) := by
  obtain ⟨ad, c, e, hs, hK, hc⟩ := Kd.C_get h 0 (i : Int) (by omega) (by omega)
  have hq : c = [.int .i64 (xs.getD (i : Int).toNat 0)] := hK
  rw [Int.toNat_natCast] at hc hq
  have hgd : xs.getD i 0 = xs[i] := by rw [List.getD_eq_getElem?_getD, List.getElem?_eq_getElem hx]; rfl
  rw [hgd] at hq
  subst hq
  refine ⟨ad, e, ?_⟩
  have := hc 0 _ rfl
  rw [Nat.add_zero] at this
  have e2 : i * (Kd.int .i64).sz = i := Nat.mul_one i
  rwa [e2] at this
set_option maxHeartbeats 16000000 in
set_option maxRecDepth 100000 in
theorem apart_out (l : List Ac) (A : Option Addr) (n k : Nat) (k0 k1 : ByteArray) (k2 off : Int) (w : World) (hp : Acs k w A n l) (hk : i64B k2) (hh : largeA l = true ∨ (largeA l = false ∧ (100 < k0.size ∨ ¬ 100 < k0.size ∧ 100 < k1.size))) :
    Calls Try.prog 9 #[.slice A n k, .agg #[.string k0, .string k1, .int .i64 k2], .int .i64 off] w fun e w' => e = .returned (.bool true) ∧ Below w.heap.size w w' := by
  have hund : ∀ b, some undef = some (Value.bool b) → False := fun b h => by simp [undef] at h
  obtain ⟨rfl, hnk, hC, hokl⟩ := hp
  have HX := Aside0.mk (Below.refl w.heap.size w)
  have hlg := Aside0.mk (fun W (h : Below w.heap.size w W) => large_calls A k l W (Kd.C_below hC h) hnk)
  clear hC hk hokl
  rcases hh with h | ⟨h, h1 | ⟨h1, h2⟩⟩
  · rw [h] at hlg
    clear h
    go_enter Try.func9, Try.ntmps9
    go_wp2_with (first
      | ((with_reducible refine gate_dst (N := 4) rfl ?_); refine box_event rfl (N := 4) rfl (cs := #[.string k0, .string k1, .int .i64 k2]) (t := 74) ?hr ?_; (case hr => first | (go_simp; done) | (go_simp; rfl)); intro g4 hg4 w1 hbx hbl; have G4 := Aside0.mk (show _ ≤ g4 by rw [hg4]; exact HX.out.size); have n_HX := Aside0.mk (below_step HX.out hbl); clear HX ; have HX := n_HX; clear n_HX; have Y4 := Aside0.mk hbx; clear hbx hbl hg4; have c40 : w1.cell? ⟨g4, 0, none⟩ = some (.string k0) := (blk_cell Y4.out 0).trans rfl; have c41 : w1.cell? ⟨g4, 1, none⟩ = some (.string k1) := (blk_cell Y4.out 1).trans rfl; have c42 : w1.cell? ⟨g4, 2, none⟩ = some (.int .i64 k2) := (blk_cell Y4.out 2).trans rfl)
      | (go_at_call 42; refine (hlg.out _ HX.out).mono ?_; rintro e w2 ⟨rfl, hb⟩; have n_HX := Aside0.mk (below_step HX.out hb); have n_Y4 := Aside0.mk ((hb.block g4 (blk_lt Y4.out)).trans Y4.out); clear HX Y4 ; have HX := n_HX; have Y4 := n_Y4; clear n_HX n_Y4; clear hb; have c40 : w2.cell? ⟨g4, 0, none⟩ = some (.string k0) := (blk_cell Y4.out 0).trans rfl; have c41 : w2.cell? ⟨g4, 1, none⟩ = some (.string k1) := (blk_cell Y4.out 1).trans rfl; have c42 : w2.cell? ⟨g4, 2, none⟩ = some (.int .i64 k2) := (blk_cell Y4.out 2).trans rfl)
      | (go_at_call 43; refine (five_calls _).mono ?_; rintro e w3 ⟨rfl, hb⟩; have n_HX := Aside0.mk (below_step HX.out hb); have n_Y4 := Aside0.mk ((hb.block g4 (blk_lt Y4.out)).trans Y4.out); clear HX Y4 ; have HX := n_HX; have Y4 := n_Y4; clear n_HX n_Y4; clear hb))
    go_ret
    exact ⟨rfl, HX.out⟩
  · rw [h] at hlg
    clear h
    have dk0 : decide ((k0.size : Int) > 100) = true := decide_eq_true (by omega)
    have ek0 : decide (100 < (k0.size : Int)) = true := decide_eq_true (by omega)
    have fk0 : decide (100 < k0.size) = true := decide_eq_true (by omega)
    clear h1
    go_enter Try.func9, Try.ntmps9
    go_wp2_with (first
      | ((with_reducible refine gate_dst (N := 4) rfl ?_); refine box_event rfl (N := 4) rfl (cs := #[.string k0, .string k1, .int .i64 k2]) (t := 74) ?hr ?_; (case hr => first | (go_simp; done) | (go_simp; rfl)); intro g4 hg4 w1 hbx hbl; have G4 := Aside0.mk (show _ ≤ g4 by rw [hg4]; exact HX.out.size); have n_HX := Aside0.mk (below_step HX.out hbl); clear HX ; have HX := n_HX; clear n_HX; have Y4 := Aside0.mk hbx; clear hbx hbl hg4; have c40 : w1.cell? ⟨g4, 0, none⟩ = some (.string k0) := (blk_cell Y4.out 0).trans rfl; have c41 : w1.cell? ⟨g4, 1, none⟩ = some (.string k1) := (blk_cell Y4.out 1).trans rfl; have c42 : w1.cell? ⟨g4, 2, none⟩ = some (.int .i64 k2) := (blk_cell Y4.out 2).trans rfl)
      | (go_at_call 42; refine (hlg.out _ HX.out).mono ?_; rintro e w2 ⟨rfl, hb⟩; have n_HX := Aside0.mk (below_step HX.out hb); have n_Y4 := Aside0.mk ((hb.block g4 (blk_lt Y4.out)).trans Y4.out); clear HX Y4 ; have HX := n_HX; have Y4 := n_Y4; clear n_HX n_Y4; clear hb; have c40 : w2.cell? ⟨g4, 0, none⟩ = some (.string k0) := (blk_cell Y4.out 0).trans rfl; have c41 : w2.cell? ⟨g4, 1, none⟩ = some (.string k1) := (blk_cell Y4.out 1).trans rfl; have c42 : w2.cell? ⟨g4, 2, none⟩ = some (.int .i64 k2) := (blk_cell Y4.out 2).trans rfl)
      | (go_at_call 43; refine (five_calls _).mono ?_; rintro e w3 ⟨rfl, hb⟩; have n_HX := Aside0.mk (below_step HX.out hb); have n_Y4 := Aside0.mk ((hb.block g4 (blk_lt Y4.out)).trans Y4.out); clear HX Y4 ; have HX := n_HX; have Y4 := n_Y4; clear n_HX n_Y4; clear hb))
    go_ret
    exact ⟨rfl, HX.out⟩
  · rw [h] at hlg
    clear h
    have dk0 : decide ((k0.size : Int) > 100) = false := decide_eq_false (by omega)
    have ek0 : decide (100 < (k0.size : Int)) = false := decide_eq_false (by omega)
    have fk0 : decide (100 < k0.size) = false := decide_eq_false (by omega)
    have dk1 : decide ((k1.size : Int) > 100) = true := decide_eq_true (by omega)
    have ek1 : decide (100 < (k1.size : Int)) = true := decide_eq_true (by omega)
    have fk1 : decide (100 < k1.size) = true := decide_eq_true (by omega)
    clear h1 h2
    go_enter Try.func9, Try.ntmps9
    go_wp2_with (first
      | ((with_reducible refine gate_dst (N := 4) rfl ?_); refine box_event rfl (N := 4) rfl (cs := #[.string k0, .string k1, .int .i64 k2]) (t := 74) ?hr ?_; (case hr => first | (go_simp; done) | (go_simp; rfl)); intro g4 hg4 w1 hbx hbl; have G4 := Aside0.mk (show _ ≤ g4 by rw [hg4]; exact HX.out.size); have n_HX := Aside0.mk (below_step HX.out hbl); clear HX ; have HX := n_HX; clear n_HX; have Y4 := Aside0.mk hbx; clear hbx hbl hg4; have c40 : w1.cell? ⟨g4, 0, none⟩ = some (.string k0) := (blk_cell Y4.out 0).trans rfl; have c41 : w1.cell? ⟨g4, 1, none⟩ = some (.string k1) := (blk_cell Y4.out 1).trans rfl; have c42 : w1.cell? ⟨g4, 2, none⟩ = some (.int .i64 k2) := (blk_cell Y4.out 2).trans rfl)
      | (go_at_call 42; refine (hlg.out _ HX.out).mono ?_; rintro e w2 ⟨rfl, hb⟩; have n_HX := Aside0.mk (below_step HX.out hb); have n_Y4 := Aside0.mk ((hb.block g4 (blk_lt Y4.out)).trans Y4.out); clear HX Y4 ; have HX := n_HX; have Y4 := n_Y4; clear n_HX n_Y4; clear hb; have c40 : w2.cell? ⟨g4, 0, none⟩ = some (.string k0) := (blk_cell Y4.out 0).trans rfl; have c41 : w2.cell? ⟨g4, 1, none⟩ = some (.string k1) := (blk_cell Y4.out 1).trans rfl; have c42 : w2.cell? ⟨g4, 2, none⟩ = some (.int .i64 k2) := (blk_cell Y4.out 2).trans rfl)
      | (go_at_call 43; refine (five_calls _).mono ?_; rintro e w3 ⟨rfl, hb⟩; have n_HX := Aside0.mk (below_step HX.out hb); have n_Y4 := Aside0.mk ((hb.block g4 (blk_lt Y4.out)).trans Y4.out); clear HX Y4 ; have HX := n_HX; have Y4 := n_Y4; clear n_HX n_Y4; clear hb))
    go_ret
    exact ⟨rfl, HX.out⟩
set_option maxHeartbeats 16000000 in
set_option maxRecDepth 100000 in
theorem apart_in (l : List Ac) (A : Option Addr) (n k : Nat) (k0 k1 : ByteArray) (k2 off : Int) (w : World) (hp : Acs k w A n l) (hk : i64B k2) (h : largeA l = false) (h1 : ¬ 100 < k0.size) (h2 : ¬ 100 < k1.size) :
    Calls Try.prog 9 #[.slice A n k, .agg #[.string k0, .string k1, .int .i64 k2], .int .i64 off] w fun e w' => e = .returned (.bool true) ∧ Below w.heap.size w w' := by
  have hund : ∀ b, some undef = some (Value.bool b) → False := fun b h => by simp [undef] at h
  obtain ⟨rfl, hnk, hC, hokl⟩ := hp
  have HX := Aside0.mk (Below.refl w.heap.size w)
  have hlg := Aside0.mk (fun W (h : Below w.heap.size w W) => large_calls A k l W (Kd.C_below hC h) hnk)
  rw [h] at hlg
  obtain ⟨hl40, hz⟩ := largeA_no h
  have HZ := Aside0.mk hz
  have HC := Aside0.mk hC
  have HOL := Aside0.mk hokl
  have HS0 := Aside0.mk (show k0.size ≤ 100000 ∧ k1.size ≤ 100000 by omega)
  have HKK := Aside0.mk (show okK ⟨k0, k1, k2⟩ from ⟨by unfold maxLen; dsimp only; omega, by unfold maxLen; dsimp only; omega, hk⟩)
  have dk0 : decide ((k0.size : Int) > 100) = false := decide_eq_false (by omega)
  have ek0 : decide (100 < (k0.size : Int)) = false := decide_eq_false (by omega)
  have fk0 : decide (100 < k0.size) = false := decide_eq_false (by omega)
  have dk1 : decide ((k1.size : Int) > 100) = false := decide_eq_false (by omega)
  have ek1 : decide (100 < (k1.size : Int)) = false := decide_eq_false (by omega)
  have fk1 : decide (100 < k1.size) = false := decide_eq_false (by omega)
  clear h h1 h2 hz hC hokl hk
  have HNW := Aside0.mk (fun W => new_calls W)
  go_enter Try.func9, Try.ntmps9
  go_wp2_with (first
    | ((with_reducible refine gate_dst (N := 4) rfl ?_); refine box_event rfl (N := 4) rfl (cs := #[.string k0, .string k1, .int .i64 k2]) (t := 74) ?hr ?_; (case hr => first | (go_simp; done) | (go_simp; rfl)); intro g4 hg4 w1 hbx hbl; have G4 := Aside0.mk (show _ ≤ g4 by rw [hg4]; exact HX.out.size); have n_HX := Aside0.mk (below_step HX.out hbl); clear HX ; have HX := n_HX; clear n_HX; have Y4 := Aside0.mk hbx; clear hbx hbl hg4; have c40 : w1.cell? ⟨g4, 0, none⟩ = some (.string k0) := (blk_cell Y4.out 0).trans rfl; have c41 : w1.cell? ⟨g4, 1, none⟩ = some (.string k1) := (blk_cell Y4.out 1).trans rfl; have c42 : w1.cell? ⟨g4, 2, none⟩ = some (.int .i64 k2) := (blk_cell Y4.out 2).trans rfl)
    | (go_at_call 42; refine (hlg.out _ HX.out).mono ?_; rintro e w2 ⟨rfl, hb⟩; have n_HX := Aside0.mk (below_step HX.out hb); have n_Y4 := Aside0.mk ((hb.block g4 (blk_lt Y4.out)).trans Y4.out); clear HX Y4 ; have HX := n_HX; have Y4 := n_Y4; clear n_HX n_Y4; clear hb hlg; have c40 : w2.cell? ⟨g4, 0, none⟩ = some (.string k0) := (blk_cell Y4.out 0).trans rfl; have c41 : w2.cell? ⟨g4, 1, none⟩ = some (.string k1) := (blk_cell Y4.out 1).trans rfl; have c42 : w2.cell? ⟨g4, 2, none⟩ = some (.int .i64 k2) := (blk_cell Y4.out 2).trans rfl)
    | (go_at_call 44; refine (HNW.out _).mono ?_; rintro e w3 ⟨a, b, rfl, hT, ha, hb1, hb⟩; have HT := Aside0.mk hT; have HBB := Aside0.mk (Nat.le_trans HX.out.size hb1); have n_Y := Aside0.mk ((hb.block g4 (blk_lt Y4.out)).trans Y4.out); have n_X := Aside0.mk (below_step HX.out hb); clear hT ha hb1 hb HNW Y4 HX c40 c41 c42; have Y4 := n_Y; have HB := n_X; clear n_Y n_X))
  go_loopw [45] (fun iv wr => ∃ (j : Nat), iv = .int .i64 j ∧ j ≤ l.length ∧ Aside0 (Tab wr a b (runT (l.take j))) ∧ Aside0 (wr.heap[g4]? = some (.cells #[.string k0, .string k1, .int .i64 k2] 74 (0, 0))) ∧ Aside0 (Below w.heap.size w wr)) (fun iv _ => l.length - (intOf iv).toNat)
  case atStart => exact ⟨0, rfl, Nat.zero_le _, HT, Y4, HB⟩
  case round =>
    clear HT HB Y4
    obtain ⟨j, rfl, hj, HT, Y4, HB⟩ := hrel
    by_cases hlt : j < l.length
    · obtain ⟨ad, rfl, hx⟩ := at_act (Kd.C_below HC.out HB.out) j (by omega) hlt
      have hxs := HZ.out _ (List.getElem_mem hlt)
      have HRS := Aside0.mk (runT_step l j hlt)
      have hTl := runT_le (l.take j)
      rw [List.length_take] at hTl
      obtain ⟨T, hT⟩ : ∃ T, runT (l.take j) = T := ⟨_, rfl⟩
      rw [hT] at HRS HT hTl
      clear hT
      obtain ⟨x, hxe⟩ : ∃ x, l[j] = x := ⟨_, rfl⟩
      rw [hxe] at hx hxs HRS
      clear hxe
      obtain ⟨x0, x1, ⟨x2, ⟨x3, x4⟩⟩, ⟨x5, x6⟩⟩ := x
      dsimp only at hxs
      obtain ⟨hs1, hs2, hs3⟩ := hxs
      have HCS := Aside0.mk (show ∀ (j_1 : Nat) (u : Value), (#[.int .i64 x0, .int .i64 x1, .string x2, .string x3, .int .i64 x4, .int .i64 x5, .string x6] : Array Value)[j_1]? = some u → wr.cell? ((ad.add (j * 7)).add j_1) = some u from hx)
      have HES := actE_size T ⟨x0, x1, ⟨x2, ⟨x3, x4⟩⟩, ⟨x5, x6⟩⟩ hs3
      have HMD := Aside0.mk (fun (W : World) (h : Below wr.heap.size wr W) => made_tab a b T x0 x1 x2 x3 x4 x5 x6 (by omega) (by omega) W (HT.out.later h) (by omega))
      obtain ⟨E, hE⟩ : ∃ E, actE T ⟨x0, x1, ⟨x2, ⟨x3, x4⟩⟩, ⟨x5, x6⟩⟩ = E := ⟨_, rfl⟩
      have hE2 : madE T x0 x1 x2 x3 x4 x5 x6 = E := hE
      rw [hE] at HES
      rw [hE2] at HMD
      obtain ⟨ek, ep, ee⟩ := E
      unfold To.v at HMD
      dsimp only at HES HMD
      have HAT := actE_eq T _ ek ep ee hE
      rw [HAT] at HRS
      have HAP := Aside0.mk (fun (W : World) (h : Below wr.heap.size wr W) => apply_tab a b T ek ep (by omega) W (HT.out.later h) (by omega))
      clear hx hs1 hs2 hs3 HES hE hE2 HAT hTl
      have HX := Aside0.mk (Below.refl wr.heap.size wr)
      have d1 : decide ((j : Int) < (l.length : Int)) = true := decide_eq_true (by omega)
      have d2 : (0 ≤ (j : Int)) = True := eq_true (by omega)
      have d3 : ((j : Int) < (l.length : Int)) = True := eq_true (by omega)
      have hwj : wrap64 ((j : Int) + 1) = (j : Int) + 1 := w64o _ (by omega) (by omega)
      by_cases hee : ee = 0
      · have e0 : (ee == 0) = true := by rw [hee]; rfl
        rw [if_pos hee] at HRS
        clear hee
        go_wp2_with (first
          | ((with_reducible refine gate_dst (N := 48) rfl ?_); refine load_evm' (N := 48) rfl rfl rfl (cs := #[.int .i64 x0, .int .i64 x1, .string x2, .string x3, .int .i64 x4, .int .i64 x5, .string x6]) rfl HCS.out Try.underlying81 rfl (by kernel_rfl) ?_)
          | ((with_reducible refine gate_dst (N := 9) rfl ?_); refine box_event rfl (N := 9) rfl (cs := #[.int .i64 0, .int .i64 0, .string ⟨#[]⟩, .string ⟨#[]⟩, .int .i64 0, .int .i64 0, .string ⟨#[]⟩]) (t := 81) ?hr ?_; (case hr => first | (go_simp; done) | (go_simp; rfl)); intro g9 hg9 w4 hbx hbl; have G9 := Aside0.mk (show _ ≤ g9 by rw [hg9]; exact HX.out.size); have n_HX := Aside0.mk (below_step HX.out hbl); clear HX ; have HX := n_HX; clear n_HX; have Y9 := Aside0.mk hbx; clear hbx hbl hg9)
          | ((with_reducible refine gate_store (t := 81) (p := 9) rfl ?_); refine store_ev rfl rfl rfl (cells := #[.int .i64 x0, .int .i64 x1, .string x2, .string x3, .int .i64 x4, .int .i64 x5, .string x6]) rfl rfl Y9.out (by kernel_rfl) rfl (by kernel_rfl) ?_; intro w5 hbx hgr; have n_HX := Aside0.mk (below_put HX.out G9.out hgr HX.out.size); have n_Y9 := Aside0.mk (hbx); clear HX Y9 ; have HX := n_HX; have Y9 := n_Y9; clear n_HX n_Y9; clear hbx hgr)
          | ((with_reducible refine gate_dst (N := 51) rfl ?_); refine load_ev (N := 51) rfl rfl rfl (cs := #[.int .i64 x0, .int .i64 x1, .string x2, .string x3, .int .i64 x4, .int .i64 x5, .string x6]) rfl Y9.out Try.underlying81 rfl (by kernel_rfl) ?_)
          | (go_at_call 45; refine (HMD.out _ HX.out).mono ?_; rintro e w6 ⟨rfl, hb⟩; have n_HX := Aside0.mk (below_step HX.out hb); have n_Y9 := Aside0.mk ((hb.block g9 (blk_lt Y9.out)).trans Y9.out); clear HX Y9 ; have HX := n_HX; have Y9 := n_Y9; clear n_HX n_Y9; clear hb HMD)
          | ((with_reducible refine gate_dst (N := 10) rfl ?_); refine box_event rfl (N := 10) rfl (cs := #[.int .i64 0, .string ⟨#[]⟩]) (t := 79) ?hr ?_; (case hr => first | (go_simp; done) | (go_simp; rfl)); intro g10 hg10 w7 hbx hbl; have G10 := Aside0.mk (show _ ≤ g10 by rw [hg10]; exact HX.out.size); have Ng9g10 := Aside0.mk (show g9 ≠ g10 from fun e => by have h1 := blk_lt Y9.out; omega); have n_HX := Aside0.mk (below_step HX.out hbl); have n_Y9 := Aside0.mk ((hbl.block g9 (blk_lt Y9.out)).trans Y9.out); clear HX Y9 ; have HX := n_HX; have Y9 := n_Y9; clear n_HX n_Y9; have Y10 := Aside0.mk hbx; clear hbx hbl hg10)
          | ((with_reducible refine gate_store (t := 79) (p := 10) rfl ?_); refine store_ev rfl rfl rfl (cells := #[.int .i64 ek, .string ep]) rfl rfl Y10.out (by kernel_rfl) rfl (by kernel_rfl) ?_; intro w8 hbx hgr; have n_HX := Aside0.mk (below_put HX.out G10.out hgr HX.out.size); have n_Y9 := Aside0.mk (grown_at hgr Y9.out Ng9g10.out); have n_Y10 := Aside0.mk (hbx); clear HX Y9 Y10 ; have HX := n_HX; have Y9 := n_Y9; have Y10 := n_Y10; clear n_HX n_Y9 n_Y10; clear hbx hgr)
          | ((with_reducible refine gate_dst (N := 58) rfl ?_); refine load_ev (N := 58) rfl rfl rfl (cs := #[.int .i64 ek, .string ep]) rfl Y10.out Try.underlying79 rfl (by kernel_rfl) ?_)
          | (go_at_call 46; refine (HAP.out _ HX.out).mono ?_; rintro e w9 ⟨rfl, hT, hG⟩; have hT6 := HT.out.later HX.out; have n_Y := Aside0.mk (grown_at hG ((HX.out.block g4 (blk_lt Y4.out)).trans Y4.out) (ne_map hT6 ((HX.out.block g4 (blk_lt Y4.out)).trans Y4.out))); have n_B := Aside0.mk (below_put (below_step HB.out HX.out) HBB.out hG (Nat.le_trans HB.out.size HX.out.size)); have n_T := Aside0.mk hT; clear HT HX Y4 HB HAP hT6 hG hT Y9 Y10; have HT := n_T; have Y4 := n_Y; have HB := n_B; clear n_Y n_B n_T))
        rw [← HRS.out] at HT
        go_roundw
        case rel => exact ⟨j + 1, by first | rfl | simp, by omega, HT, Y4, HB⟩
        case measure => simp [intOf]; omega
      · have e0 : (ee == 0) = false := beq_eq_false_iff_ne.2 hee
        rw [if_neg hee] at HRS
        clear hee HAP
        go_wp2_with (first
          | ((with_reducible refine gate_dst (N := 48) rfl ?_); refine load_evm' (N := 48) rfl rfl rfl (cs := #[.int .i64 x0, .int .i64 x1, .string x2, .string x3, .int .i64 x4, .int .i64 x5, .string x6]) rfl HCS.out Try.underlying81 rfl (by kernel_rfl) ?_)
          | ((with_reducible refine gate_dst (N := 9) rfl ?_); refine box_event rfl (N := 9) rfl (cs := #[.int .i64 0, .int .i64 0, .string ⟨#[]⟩, .string ⟨#[]⟩, .int .i64 0, .int .i64 0, .string ⟨#[]⟩]) (t := 81) ?hr ?_; (case hr => first | (go_simp; done) | (go_simp; rfl)); intro g9 hg9 w4 hbx hbl; have G9 := Aside0.mk (show _ ≤ g9 by rw [hg9]; exact HX.out.size); have n_HX := Aside0.mk (below_step HX.out hbl); clear HX ; have HX := n_HX; clear n_HX; have Y9 := Aside0.mk hbx; clear hbx hbl hg9)
          | ((with_reducible refine gate_store (t := 81) (p := 9) rfl ?_); refine store_ev rfl rfl rfl (cells := #[.int .i64 x0, .int .i64 x1, .string x2, .string x3, .int .i64 x4, .int .i64 x5, .string x6]) rfl rfl Y9.out (by kernel_rfl) rfl (by kernel_rfl) ?_; intro w5 hbx hgr; have n_HX := Aside0.mk (below_put HX.out G9.out hgr HX.out.size); have n_Y9 := Aside0.mk (hbx); clear HX Y9 ; have HX := n_HX; have Y9 := n_Y9; clear n_HX n_Y9; clear hbx hgr)
          | ((with_reducible refine gate_dst (N := 51) rfl ?_); refine load_ev (N := 51) rfl rfl rfl (cs := #[.int .i64 x0, .int .i64 x1, .string x2, .string x3, .int .i64 x4, .int .i64 x5, .string x6]) rfl Y9.out Try.underlying81 rfl (by kernel_rfl) ?_)
          | (go_at_call 45; refine (HMD.out _ HX.out).mono ?_; rintro e w6 ⟨rfl, hb⟩; have n_HX := Aside0.mk (below_step HX.out hb); have n_Y9 := Aside0.mk ((hb.block g9 (blk_lt Y9.out)).trans Y9.out); clear HX Y9 ; have HX := n_HX; have Y9 := n_Y9; clear n_HX n_Y9; clear hb HMD)
          | ((with_reducible refine gate_dst (N := 10) rfl ?_); refine box_event rfl (N := 10) rfl (cs := #[.int .i64 0, .string ⟨#[]⟩]) (t := 79) ?hr ?_; (case hr => first | (go_simp; done) | (go_simp; rfl)); intro g10 hg10 w7 hbx hbl; have G10 := Aside0.mk (show _ ≤ g10 by rw [hg10]; exact HX.out.size); have Ng9g10 := Aside0.mk (show g9 ≠ g10 from fun e => by have h1 := blk_lt Y9.out; omega); have n_HX := Aside0.mk (below_step HX.out hbl); have n_Y9 := Aside0.mk ((hbl.block g9 (blk_lt Y9.out)).trans Y9.out); clear HX Y9 ; have HX := n_HX; have Y9 := n_Y9; clear n_HX n_Y9; have Y10 := Aside0.mk hbx; clear hbx hbl hg10)
          | ((with_reducible refine gate_store (t := 79) (p := 10) rfl ?_); refine store_ev rfl rfl rfl (cells := #[.int .i64 ek, .string ep]) rfl rfl Y10.out (by kernel_rfl) rfl (by kernel_rfl) ?_; intro w8 hbx hgr; have n_HX := Aside0.mk (below_put HX.out G10.out hgr HX.out.size); have n_Y9 := Aside0.mk (grown_at hgr Y9.out Ng9g10.out); have n_Y10 := Aside0.mk (hbx); clear HX Y9 Y10 ; have HX := n_HX; have Y9 := n_Y9; have Y10 := n_Y10; clear n_HX n_Y9 n_Y10; clear hbx hgr))
        have n_HT := Aside0.mk (HT.out.later HX.out)
        have n_Y4 := Aside0.mk ((HX.out.block g4 (blk_lt Y4.out)).trans Y4.out)
        have n_HB := Aside0.mk (below_step HB.out HX.out)
        clear HT Y4 HB HX Y9 Y10
        have HT := n_HT
        have Y4 := n_Y4
        have HB := n_HB
        clear n_HT n_Y4 n_HB
        rw [← HRS.out] at HT
        go_roundw
        case rel => exact ⟨j + 1, by first | rfl | simp, by omega, HT, Y4, HB⟩
        case measure => simp [intOf]; omega
    · obtain rfl : j = l.length := by omega
      have d1 : decide ((l.length : Int) < (l.length : Int)) = false := decide_eq_false (by omega)
      rw [List.take_length] at HT
      have hTl := runT_le l
      obtain ⟨T, hT⟩ : ∃ T, runT l = T := ⟨_, rfl⟩
      rw [hT] at HT hTl
      clear hT HC HZ HOL
      have HTL := Aside0.mk (show T.length ≤ 40 by omega)
      have HRI := Aside0.mk HT.out.ris
      have HOKS := Aside0.mk HT.out.okk
      clear hTl
      have HKY := Aside0.mk (keys_tab a b T wr HT.out (by have := HTL.out; omega))
      have HLEN := Aside0.mk (show (T.map (·.k)).length = T.length from List.length_map ..)
      go_wp2_with (first
        | (go_at_call 47; refine HKY.out.mono ?_; rintro e w6 ⟨A6, c6, rfl, hR, hb⟩; have n_B := Aside0.mk (below_step HB.out hb); have n_T := Aside0.mk (HT.out.later hb); have n_Y := Aside0.mk ((hb.block g4 (blk_lt Y4.out)).trans Y4.out); have HR := Aside0.mk hR; clear HB HT Y4 hb hR HKY; have HB := n_B; have HT := n_T; have Y4 := n_Y; clear n_B n_T n_Y))
      go_loopw [12, 65] (fun ov iv wr => ∃ (j : Nat), iv = .int .i64 j ∧ j ≤ T.length ∧ Aside0 (Kd.R (Kd.int .i64) 3 wr w6.heap.size (fun _ => True) ov ((T.take j).map (·.v))) ∧ Aside0 (Below w6.heap.size w6 wr)) (fun _ iv _ => T.length - (intOf iv).toNat)
      case atStart => exact ⟨0, rfl, Nat.zero_le _, ⟨Kd.R_nil _ _ _ _ _⟩, ⟨Below.refl _ _⟩⟩
      case round =>
        obtain ⟨j, rfl, hj, HO, HX6⟩ := hrel
        by_cases hlt : j < T.length
        · obtain ⟨ad, hAd, hcs⟩ := at_key (HR.out.later HX6.out) j (by rw [HLEN.out]; exact hlt)
          rw [List.getElem_map] at hcs
          have HST := Aside0.mk (show (T.take (j + 1)).map (·.v) = (T.take j).map (·.v) ++ [T[j].v] by rw [List.take_succ_eq_append_getElem hlt, List.map_append]; rfl)
          have HOK := Aside0.mk (HOKS.out T[j] (List.getElem_mem hlt))
          have HVM := valT_mem HRI.out (List.getElem_mem hlt)
          have HX := Aside0.mk (Below.refl wr.heap.size wr)
          have hTl := HTL.out
          have HL1 := Aside0.mk (show ((T.take j).map (·.v)).length ≤ 1000 by rw [List.length_map, List.length_take]; omega)
          subst hAd
          obtain ⟨y, hy⟩ : ∃ y, T[j] = y := ⟨_, rfl⟩
          simp only [hy] at hcs HST HOK HVM
          clear hy
          obtain ⟨⟨z0, z1, z2⟩, zv⟩ := y
          have HCS := Aside0.mk (show ∀ (j_1 : Nat) (u : Value), (#[.string z0, .string z1, .int .i64 z2] : Array Value)[j_1]? = some u → wr.cell? ((ad.add (j * 3)).add j_1) = some u from hcs)
          have HGT := Aside0.mk (fun (W : World) (h : Below w6.heap.size w6 W) => get_tab a b T z0 z1 z2 HOK.out W (HT.out.later h))
          rw [HVM.1, HVM.2] at HGT
          clear hcs HVM
          have d1 : decide ((j : Int) < (T.length : Int)) = true := decide_eq_true (by omega)
          have d2 : (0 ≤ (j : Int)) = True := eq_true (by omega)
          have d3 : ((j : Int) < (T.length : Int)) = True := eq_true (by omega)
          have HWJ := Aside0.mk (show wrap64 ((j : Int) + 1) = (j : Int) + 1 from w64o _ (by omega) (by omega))
          obtain ⟨acc, hacc⟩ : ∃ acc, (T.take j).map (·.v) = acc := ⟨_, rfl⟩
          rw [hacc] at HO HST HL1
          clear hacc hTl
          go_wp2_with (first
            | ((with_reducible refine gate_dst (N := 68) rfl ?_); refine load_evm' (N := 68) rfl rfl rfl (cs := #[.string z0, .string z1, .int .i64 z2]) rfl HCS.out Try.underlying74 rfl (by kernel_rfl) ?_)
            | ((with_reducible refine gate_dst (N := 15) rfl ?_); refine box_event rfl (N := 15) rfl (cs := #[.string ⟨#[]⟩, .string ⟨#[]⟩, .int .i64 0]) (t := 74) ?hr ?_; (case hr => first | (go_simp; done) | (go_simp; rfl)); intro g15 hg15 w9 hbx hbl; have G15 := Aside0.mk (show _ ≤ g15 by rw [hg15]; exact HX.out.size); have n_HX := Aside0.mk (below_step HX.out hbl); clear HX ; have HX := n_HX; clear n_HX; have Y15 := Aside0.mk hbx; clear hbx hbl hg15)
            | ((with_reducible refine gate_store (t := 74) (p := 15) rfl ?_); refine store_ev rfl rfl rfl (cells := #[.string z0, .string z1, .int .i64 z2]) rfl rfl Y15.out (by kernel_rfl) rfl (by kernel_rfl) ?_; intro w10 hbx hgr; have n_HX := Aside0.mk (below_put HX.out G15.out hgr HX.out.size); have n_Y15 := Aside0.mk (hbx); clear HX Y15 ; have HX := n_HX; have Y15 := n_Y15; clear n_HX n_Y15; clear hbx hgr)
            | ((with_reducible refine gate_dst (N := 71) rfl ?_); refine load_ev (N := 71) rfl rfl rfl (cs := #[.string z0, .string z1, .int .i64 z2]) rfl Y15.out Try.underlying74 rfl (by kernel_rfl) ?_)
            | (go_at_call 48; refine (HGT.out _ (below_step HX6.out HX.out)).mono ?_; rintro e w11 ⟨rfl, hb⟩; have n_O := Aside0.mk (Kd.R_below HO.out (below_step HX.out hb)); have n_X := Aside0.mk (below_step (below_step HX6.out HX.out) hb); clear HO HX6 HX hb HGT Y15; have HO := n_O; have HX6 := n_X; clear n_O n_X)
            | ((with_reducible refine gate_builtin (b := .append) (xs := #[.tmp 77, .tmp 79]) rfl ?_); at_builtin; refine Kd.R_append (Kd.int .i64) (w0 := w6) w6.heap.size rfl (.tmp 77) (.tmp 79) 29 3 (.int .i64 0) 8 rfl Try.underlying29 infoInt rfl (by decide) (by decide) _ acc zv [.int .i64 zv] (fun _ => True) (fun _ => False) rfl ?aX rfl (fun _ hk => hk.elim) (fun _ _ => trivial) HO.out HX6.out HX6.out.size ?aL ?_; (case aX => first | rfl | (go_simp; done) | (go_simp; rfl)); (case aL => have := HL1.out; omega); intro v1 w12 ho hb hgr hat; clear HO HX6 hgr hat; have HO := Aside0.mk ho; have HX6 := Aside0.mk hb; clear ho hb))
          have HO2 := Aside0.mk (show Kd.R (Kd.int .i64) 3 _ w6.heap.size (fun _ => True) _ ((T.take (j + 1)).map (·.v)) from by rw [HST.out]; exact HO.out)
          have hwj := HWJ.out
          go_roundw
          case rel => exact ⟨j + 1, by rw [hwj]; rfl, by omega, HO2, HX6⟩
          case measure => rw [hwj]; simp [intOf]; omega
        · obtain rfl : j = T.length := by omega
          have d1 : decide ((T.length : Int) < (T.length : Int)) = false := decide_eq_false (by omega)
          rw [List.take_length] at HO
          have n_T := Aside0.mk (HT.out.later HX6.out)
          have n_Y := Aside0.mk ((HX6.out.block g4 (blk_lt Y4.out)).trans Y4.out)
          have n_B := Aside0.mk (below_step HB.out HX6.out)
          have n_R := Aside0.mk (HR.out.later HX6.out)
          clear HT Y4 HB HR HX6
          have HT := n_T
          have Y4 := n_Y
          have HB := n_B
          have HR := n_R
          clear n_T n_Y n_B n_R
          have HCM := Aside0.mk (fun (W : World) (h : Below wr.heap.size wr W) => comm_tab a b T k0 k1 k2 off HS0.out.1 HS0.out.2 W (HT.out.later h) (by have := HTL.out; omega))
          have HX := Aside0.mk (Below.refl wr.heap.size wr)
          rcases comE_cases T k0 k1 k2 off with ⟨hE, hmay, hroom⟩ | ⟨e9, hE, he9⟩
          · rw [hE] at HCM
            unfold To.v at HCM
            obtain ⟨ha1, ha2⟩ := app_com (T := T) hmay hroom
            have HEZ := Aside0.mk (entS_size hmay)
            have HAP := Aside0.mk (fun (W : World) (h : Below wr.heap.size wr W) => apply_tab a b T 1 (entS k0 k1 k2 off) (by have := HEZ.out; omega) W (HT.out.later h) (by have := HTL.out; omega))
            rw [ha1, ha2] at HAP
            obtain ⟨EN, hEN⟩ : ∃ EN, entS k0 k1 k2 off = EN := ⟨_, rfl⟩
            rw [hEN] at HCM HAP
            clear hE hmay hroom ha1 ha2 HEZ hEN
            go_wp2_with (first
              | ((with_reducible refine gate_dst (N := 84) rfl ?_); refine load_ev (N := 84) rfl rfl rfl (cs := #[.string k0, .string k1, .int .i64 k2]) rfl Y4.out Try.underlying74 rfl (by kernel_rfl) ?_)
              | (go_at_call 49; refine (HCM.out _ HX.out).mono ?_; rintro e w8 ⟨rfl, hb⟩; have n_HX := Aside0.mk (below_step HX.out hb); clear HX ; have HX := n_HX; clear n_HX; clear hb HCM)
              | ((with_reducible refine gate_dst (N := 18) rfl ?_); refine box_event rfl (N := 18) rfl (cs := #[.int .i64 0, .string ⟨#[]⟩]) (t := 79) ?hr ?_; (case hr => first | (go_simp; done) | (go_simp; rfl)); intro g18 hg18 w9 hbx hbl; have G18 := Aside0.mk (show _ ≤ g18 by rw [hg18]; exact HX.out.size); have n_HX := Aside0.mk (below_step HX.out hbl); clear HX ; have HX := n_HX; clear n_HX; have Y18 := Aside0.mk hbx; clear hbx hbl hg18)
              | ((with_reducible refine gate_store (t := 79) (p := 18) rfl ?_); refine store_ev rfl rfl rfl (cells := #[.int .i64 1, .string EN]) rfl rfl Y18.out (by kernel_rfl) rfl (by kernel_rfl) ?_; intro w10 hbx hgr; have n_HX := Aside0.mk (below_put HX.out G18.out hgr HX.out.size); have n_Y18 := Aside0.mk (hbx); clear HX Y18 ; have HX := n_HX; have Y18 := n_Y18; clear n_HX n_Y18; clear hbx hgr)
              | ((with_reducible refine gate_dst (N := 93) rfl ?_); refine load_ev (N := 93) rfl rfl rfl (cs := #[.int .i64 1, .string EN]) rfl Y18.out Try.underlying79 rfl (by kernel_rfl) ?_)
              | (go_at_call 46; refine (HAP.out _ HX.out).mono ?_; rintro e w11 ⟨rfl, hT, hG⟩; have hT6 := HT.out.later HX.out; have n_Y := Aside0.mk (grown_at hG ((HX.out.block g4 (blk_lt Y4.out)).trans Y4.out) (ne_map hT6 ((HX.out.block g4 (blk_lt Y4.out)).trans Y4.out))); have n_B := Aside0.mk (below_put (below_step HB.out HX.out) HBB.out hG (Nat.le_trans HB.out.size HX.out.size)); have n_R := Aside0.mk ((HR.out.later HX.out).far hG hT6.map); have n_O := Aside0.mk (ints_map (Kd.R_below HO.out HX.out) hT6.map hG); have n_T := Aside0.mk hT; clear HT HX Y4 HB HAP hT6 hG hT Y18 HR HO; have HT := n_T; have Y4 := n_Y; have HB := n_B; have HR := n_R; have HO := n_O; clear n_Y n_B n_T n_R n_O))
            obtain ⟨A9, c9, hu9, hc9, hC9⟩ := Kd.R_reads HO.out
            rw [List.length_map] at hu9
            have HC9 := Aside0.mk hC9
            clear hC9 HO hc9
            subst hu9
            go_loopw [98] (fun iv wr => ∃ (j : Nat), iv = .int .i64 j ∧ j ≤ T.length ∧ Aside0 (Below w11.heap.size w11 wr)) (fun iv _ => T.length - (intOf iv).toNat)
            case atStart => exact ⟨0, rfl, Nat.zero_le _, ⟨Below.refl _ _⟩⟩
            case round =>
              obtain ⟨j, rfl, hj, HX6⟩ := hrel
              by_cases hlt : j < T.length
              · obtain ⟨ad, hAd, hcs⟩ := at_key (HR.out.later HX6.out) j (by rw [HLEN.out]; exact hlt)
                rw [List.getElem_map] at hcs
                obtain ⟨ad2, hAd2, hcv⟩ := at_int HC9.out j (by rw [List.length_map]; exact hlt) (by rw [List.length_map]; exact hlt)
                rw [List.getElem_map] at hcv
                have HOK := Aside0.mk (HOKS.out T[j] (List.getElem_mem hlt))
                have HVM := valT_put HRI.out ⟨⟨k0, k1, k2⟩, off⟩ (List.getElem_mem hlt)
                subst hAd hAd2
                have HX := Aside0.mk (Below.refl wr.heap.size wr)
                obtain ⟨y, hy⟩ : ∃ y, T[j] = y := ⟨_, rfl⟩
                simp only [hy] at hcs hcv HOK HVM
                clear hy
                obtain ⟨⟨z0, z1, z2⟩, zv⟩ := y
                have HCV := Aside0.mk (show w11.cell? (ad2.add j) = some (.int .i64 zv) from hcv)
                have HCS := Aside0.mk (show ∀ (j_1 : Nat) (u : Value), (#[.string z0, .string z1, .int .i64 z2] : Array Value)[j_1]? = some u → wr.cell? ((ad.add (j * 3)).add j_1) = some u from hcs)
                have HGT := Aside0.mk (fun (W : World) (h : Below w11.heap.size w11 W) => get_tab a b (putT T ⟨⟨k0, k1, k2⟩, off⟩) z0 z1 z2 HOK.out W (HT.out.later h))
                rw [HVM.1, HVM.2] at HGT
                clear hcs hcv HVM
                have d1 : decide ((j : Int) < (T.length : Int)) = true := decide_eq_true (by omega)
                have d2 : (0 ≤ (j : Int)) = True := eq_true (by omega)
                have d3 : ((j : Int) < (T.length : Int)) = True := eq_true (by omega)
                have HWJ := Aside0.mk (show wrap64 ((j : Int) + 1) = (j : Int) + 1 from w64o _ (by omega) (by have := HTL.out; omega))
                by_cases hxk : (⟨z0, z1, z2⟩ : Ky) = ⟨k0, k1, k2⟩
                · simp only [hxk, if_true] at HGT
                  obtain ⟨rfl, rfl, rfl⟩ := Ky.mk.inj hxk
                  clear hxk
                  have hq : (z0.toList == z0.toList && (z1.toList == z1.toList && (z2 == z2))) = true := by rw [eqK]; exact decide_eq_true rfl
                  have hvv : (off != off) = false := by simp
                  go_wp2_with (first
                    | ((with_reducible refine gate_dst (N := 102) rfl ?_); refine load_evm' (N := 102) rfl rfl rfl (cs := #[.string z0, .string z1, .int .i64 z2]) rfl HCS.out Try.underlying74 rfl (by kernel_rfl) ?_)
                    | ((with_reducible refine gate_dst (N := 21) rfl ?_); refine box_event rfl (N := 21) rfl (cs := #[.string ⟨#[]⟩, .string ⟨#[]⟩, .int .i64 0]) (t := 74) ?hr ?_; (case hr => first | (go_simp; done) | (go_simp; rfl)); intro g21 hg21 w14 hbx hbl; have G21 := Aside0.mk (show _ ≤ g21 by rw [hg21]; exact HX.out.size); have n_HX := Aside0.mk (below_step HX.out hbl); clear HX ; have HX := n_HX; clear n_HX; have Y21 := Aside0.mk hbx; clear hbx hbl hg21)
                    | ((with_reducible refine gate_store (t := 74) (p := 21) rfl ?_); refine store_ev rfl rfl rfl (cells := #[.string z0, .string z1, .int .i64 z2]) rfl rfl Y21.out (by kernel_rfl) rfl (by kernel_rfl) ?_; intro w15 hbx hgr; have n_HX := Aside0.mk (below_put HX.out G21.out hgr HX.out.size); have n_Y21 := Aside0.mk (hbx); clear HX Y21 ; have HX := n_HX; have Y21 := n_Y21; clear n_HX n_Y21; clear hbx hgr)
                    | ((with_reducible refine gate_dst (N := 105) rfl ?_); refine load_ev (N := 105) rfl rfl rfl (cs := #[.string z0, .string z1, .int .i64 z2]) rfl Y21.out Try.underlying74 rfl (by kernel_rfl) ?_)
                    | (go_at_call 48; refine (HGT.out _ (below_step HX6.out HX.out)).mono ?_; rintro e w16 ⟨rfl, hb⟩; have YX := Aside0.mk ((hb.block g21 (blk_lt Y21.out)).trans Y21.out); have n_X := Aside0.mk (below_step (below_step HX6.out HX.out) hb); clear HX6 HX hb HGT Y21; have HX6 := n_X; clear n_X; have c40 : w16.cell? ⟨g4, 0, none⟩ = some (.string z0) := (blk_cell ((HX6.out.block g4 (blk_lt Y4.out)).trans Y4.out) 0).trans rfl; have c41 : w16.cell? ⟨g4, 1, none⟩ = some (.string z1) := (blk_cell ((HX6.out.block g4 (blk_lt Y4.out)).trans Y4.out) 1).trans rfl; have c42 : w16.cell? ⟨g4, 2, none⟩ = some (.int .i64 z2) := (blk_cell ((HX6.out.block g4 (blk_lt Y4.out)).trans Y4.out) 2).trans rfl; have v20 : w16.cell? ⟨g21, 0, none⟩ = some (.string z0) := (blk_cell YX.out 0).trans rfl; have v21 : w16.cell? ⟨g21, 1, none⟩ = some (.string z1) := (blk_cell YX.out 1).trans rfl; have v22 : w16.cell? ⟨g21, 2, none⟩ = some (.int .i64 z2) := (blk_cell YX.out 2).trans rfl; have hw1 : w16.cell? (ad2.add j) = some (.int .i64 zv) := (HX6.out.cell (World.block_lt_of_cell? w11 _ HCV.out)).trans HCV.out))
                  have hwj := HWJ.out
                  go_roundw
                  case rel => exact ⟨j + 1, by rw [hwj]; rfl, by omega, HX6⟩
                  case measure => rw [hwj]; simp [intOf]; omega
                · simp only [hxk, if_false] at HGT
                  have hq : (z0.toList == k0.toList && (z1.toList == k1.toList && (z2 == k2))) = false := by rw [eqK]; exact decide_eq_false hxk
                  clear hxk
                  have hvv : (zv != zv) = false := by simp
                  go_wp2_with (first
                    | ((with_reducible refine gate_dst (N := 102) rfl ?_); refine load_evm' (N := 102) rfl rfl rfl (cs := #[.string z0, .string z1, .int .i64 z2]) rfl HCS.out Try.underlying74 rfl (by kernel_rfl) ?_)
                    | ((with_reducible refine gate_dst (N := 21) rfl ?_); refine box_event rfl (N := 21) rfl (cs := #[.string ⟨#[]⟩, .string ⟨#[]⟩, .int .i64 0]) (t := 74) ?hr ?_; (case hr => first | (go_simp; done) | (go_simp; rfl)); intro g21 hg21 w14 hbx hbl; have G21 := Aside0.mk (show _ ≤ g21 by rw [hg21]; exact HX.out.size); have n_HX := Aside0.mk (below_step HX.out hbl); clear HX ; have HX := n_HX; clear n_HX; have Y21 := Aside0.mk hbx; clear hbx hbl hg21)
                    | ((with_reducible refine gate_store (t := 74) (p := 21) rfl ?_); refine store_ev rfl rfl rfl (cells := #[.string z0, .string z1, .int .i64 z2]) rfl rfl Y21.out (by kernel_rfl) rfl (by kernel_rfl) ?_; intro w15 hbx hgr; have n_HX := Aside0.mk (below_put HX.out G21.out hgr HX.out.size); have n_Y21 := Aside0.mk (hbx); clear HX Y21 ; have HX := n_HX; have Y21 := n_Y21; clear n_HX n_Y21; clear hbx hgr)
                    | ((with_reducible refine gate_dst (N := 105) rfl ?_); refine load_ev (N := 105) rfl rfl rfl (cs := #[.string z0, .string z1, .int .i64 z2]) rfl Y21.out Try.underlying74 rfl (by kernel_rfl) ?_)
                    | (go_at_call 48; refine (HGT.out _ (below_step HX6.out HX.out)).mono ?_; rintro e w16 ⟨rfl, hb⟩; have YX := Aside0.mk ((hb.block g21 (blk_lt Y21.out)).trans Y21.out); have n_X := Aside0.mk (below_step (below_step HX6.out HX.out) hb); clear HX6 HX hb HGT Y21; have HX6 := n_X; clear n_X; have c40 : w16.cell? ⟨g4, 0, none⟩ = some (.string k0) := (blk_cell ((HX6.out.block g4 (blk_lt Y4.out)).trans Y4.out) 0).trans rfl; have c41 : w16.cell? ⟨g4, 1, none⟩ = some (.string k1) := (blk_cell ((HX6.out.block g4 (blk_lt Y4.out)).trans Y4.out) 1).trans rfl; have c42 : w16.cell? ⟨g4, 2, none⟩ = some (.int .i64 k2) := (blk_cell ((HX6.out.block g4 (blk_lt Y4.out)).trans Y4.out) 2).trans rfl; have v20 : w16.cell? ⟨g21, 0, none⟩ = some (.string z0) := (blk_cell YX.out 0).trans rfl; have v21 : w16.cell? ⟨g21, 1, none⟩ = some (.string z1) := (blk_cell YX.out 1).trans rfl; have v22 : w16.cell? ⟨g21, 2, none⟩ = some (.int .i64 z2) := (blk_cell YX.out 2).trans rfl; have hw1 : w16.cell? (ad2.add j) = some (.int .i64 zv) := (HX6.out.cell (World.block_lt_of_cell? w11 _ HCV.out)).trans HCV.out))
                  have hwj := HWJ.out
                  go_roundw
                  case rel => exact ⟨j + 1, by rw [hwj]; rfl, by omega, HX6⟩
                  case measure => rw [hwj]; simp [intOf]; omega
              · obtain rfl : j = T.length := by omega
                have d1 : decide ((T.length : Int) < (T.length : Int)) = false := decide_eq_false (by omega)
                obtain ⟨hv1, hv2⟩ := valT_new HRI.out ⟨⟨k0, k1, k2⟩, off⟩
                have HGT := Aside0.mk (get_tab a b (putT T ⟨⟨k0, k1, k2⟩, off⟩) k0 k1 k2 HKK.out wr (HT.out.later HX6.out))
                dsimp only at hv1 hv2
                rw [hv1, hv2] at HGT
                clear hv1 hv2
                have n_Y := Aside0.mk ((HX6.out.block g4 (blk_lt Y4.out)).trans Y4.out)
                have HX := Aside0.mk (below_step HB.out HX6.out)
                clear Y4 HX6 HB
                have Y4 := n_Y
                clear n_Y
                have hoo : (off == off) = true := by simp
                go_wp2_with (first
                  | ((with_reducible refine gate_dst (N := 137) rfl ?_); refine load_ev (N := 137) rfl rfl rfl (cs := #[.string k0, .string k1, .int .i64 k2]) rfl Y4.out Try.underlying74 rfl (by kernel_rfl) ?_)
                  | (go_at_call 48; refine (HGT.out).mono ?_; rintro e w14 ⟨rfl, hb⟩; have n_HX := Aside0.mk (below_step HX.out hb); clear HX ; have HX := n_HX; clear n_HX; clear hb HGT)
                  | (go_at_call 43; refine (five_calls _).mono ?_; rintro e w15 ⟨rfl, hb⟩; have n_HX := Aside0.mk (below_step HX.out hb); clear HX ; have HX := n_HX; clear n_HX; clear hb))
                go_ret
                exact ⟨rfl, HX.out⟩
          · rw [hE] at HCM
            unfold To.v at HCM
            have e0 : (e9 != 0) = true := bne_iff_ne.2 he9
            clear hE he9
            go_wp2_with (first
              | ((with_reducible refine gate_dst (N := 84) rfl ?_); refine load_ev (N := 84) rfl rfl rfl (cs := #[.string k0, .string k1, .int .i64 k2]) rfl Y4.out Try.underlying74 rfl (by kernel_rfl) ?_)
              | (go_at_call 49; refine (HCM.out _ HX.out).mono ?_; rintro e w8 ⟨rfl, hb⟩; have n_HX := Aside0.mk (below_step HX.out hb); clear HX ; have HX := n_HX; clear n_HX; clear hb HCM)
              | ((with_reducible refine gate_dst (N := 18) rfl ?_); refine box_event rfl (N := 18) rfl (cs := #[.int .i64 0, .string ⟨#[]⟩]) (t := 79) ?hr ?_; (case hr => first | (go_simp; done) | (go_simp; rfl)); intro g18 hg18 w9 hbx hbl; have G18 := Aside0.mk (show _ ≤ g18 by rw [hg18]; exact HX.out.size); have n_HX := Aside0.mk (below_step HX.out hbl); clear HX ; have HX := n_HX; clear n_HX; have Y18 := Aside0.mk hbx; clear hbx hbl hg18)
              | ((with_reducible refine gate_store (t := 79) (p := 18) rfl ?_); refine store_ev rfl rfl rfl (cells := #[.int .i64 0, .string ⟨#[]⟩]) rfl rfl Y18.out (by kernel_rfl) rfl (by kernel_rfl) ?_; intro w10 hbx hgr; have n_HX := Aside0.mk (below_put HX.out G18.out hgr HX.out.size); have n_Y18 := Aside0.mk (hbx); clear HX Y18 ; have HX := n_HX; have Y18 := n_Y18; clear n_HX n_Y18; clear hbx hgr)
              | (go_at_call 43; refine (five_calls _).mono ?_; rintro e w11 ⟨rfl, hb⟩; have n_HX := Aside0.mk (below_step HX.out hb); have n_Y18 := Aside0.mk ((hb.block g18 (blk_lt Y18.out)).trans Y18.out); clear HX Y18 ; have HX := n_HX; have Y18 := n_Y18; clear n_HX n_Y18; clear hb))
            go_ret
            exact ⟨rfl, below_step HB.out HX.out⟩
theorem apart_row (l : List Ac) (A : Option Addr) (n k : Nat) (y : Kc) (off : Int) (w : World) (hp : Acs k w A n l) (hk : okKc y) :
    Calls Try.prog 9 #[.slice A n k, .agg #[.string y.f0, .string y.f1, .int .i64 y.f2], .int .i64 off] w fun e w' => e = .returned (.bool true) ∧ Below w.heap.size w w' := by
  cases h : largeA l with
  | true => exact apart_out l A n k _ _ _ off w hp hk (.inl h)
  | false =>
    by_cases h1 : 100 < y.f0.size
    · exact apart_out l A n k _ _ _ off w hp hk (.inr ⟨h, .inl h1⟩)
    · by_cases h2 : 100 < y.f1.size
      · exact apart_out l A n k _ _ _ off w hp hk (.inr ⟨h, .inr ⟨h1, h2⟩⟩)
      · exact apart_in l A n k _ _ _ off w hp hk h h1 h2
end Go.Proofs.Ytohhlkabejangaa.Of

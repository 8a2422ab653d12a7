import Derived.Test.YtohhlkabejangaaUOf21
-- halved
namespace Go.Proofs.Ytohhlkabejangaa.Of
set_option linter.unusedVariables false
set_option linter.unusedSimpArgs false
open Go.RowKit Go.Maps Go.Sort Go.Lib Go.Shelf Go.Proofs.YtohhlkabejangaaW.PrintWords Go.Proofs.YtohhlkabejangaaW.PrintLast Go.Proofs.YtohhlkabejangaaW.PrintMore Go.Proofs.Ytohhlkabejangaa.POf Go.Proofs.Ytohhlkabejangaa.Wire
open Go.Proofs.YtohhlkabejangaaW.PrintWords.Aside0 renaming mk → mkA
open Go.Proofs.YtohhlkabejangaaW.PrintWords.Kd renaming R_mono → zrM
open Go.Proofs.YtohhlkabejangaaW.PrintWords renaming below_step → zbS
attribute [local go_sem high] eqA74 eqA79 eqA72
theorem fr_map {W W' : World} {base b : Nat} {v : Value} {xs : List Fr} (h : Kd.R k79 79 W base (fun _ => True) v xs) (hm : ∀ cells t f, W.heap[b]? ≠ some (.cells cells t f)) (hg : W.grownBy W' (some b)) : Kd.R k79 79 W' base (fun _ => True) v xs :=
 zrM (Kd.R_step (Kd.R_bound h) (fun i hi hlt => hg.block i hlt (fun e => by
  obtain ⟨_, _, _, t, _, cells, hc⟩ := hi
  rw [Option.some.inj e] at hc
  exact hm _ _ _ hc))) (fun _ _ => trivial)
set_option maxHeartbeats 16000000 in
set_option maxRecDepth 100000 in
theorem acts_out (l : List Ac) (A : Option Addr) (n k : Nat) (k0 k1 : ByteArray) (k2 : Int) (w : World) (hp : Acs k w A n l) (hk : i64B k2) (hh : largeA l = true ∨ (largeA l = false ∧ (100 < k0.size ∨ ¬ 100 < k0.size ∧ 100 < k1.size))) :
  Calls Try.prog 10 #[.slice A n k, .agg #[.string k0, .string k1, .int .i64 k2]] w fun e w' => e = .returned (.bool true) ∧ Below w.heap.size w w' := by
 have hund : ∀ b, some undef = some (Value.bool b) → False := fun b h => by simp [undef] at h
 obtain ⟨rfl, hnk, hC, hokl⟩ := hp
 have HX := mkA (Below.refl w.heap.size w)
 have hlg := mkA (fun W (h : Below w.heap.size w W) => large_calls A k l W (Kd.C_below hC h) hnk)
 clear hC hk hokl
 rcases hh with h | ⟨h, h1 | ⟨h1, h2⟩⟩
 ·rw [h] at hlg
  clear h
  go_enter Try.func10, Try.ntmps10
  go_wp2_with (first
   | ((with_reducible refine gate_dst (N := 3) rfl ?_); refine box_event rfl (N := 3) rfl (cs := #[.string k0, .string k1, .int .i64 k2]) (t := 74) ?hr ?_; (case hr => first | (go_simp; done) | (go_simp; rfl)); intro g3 hg3 w1 hbx hbl; have G3 := mkA (show _ ≤ g3 by rw [hg3]; exact HX.out.size); have n_HX := mkA (zbS HX.out hbl); clear HX ; have HX := n_HX; clear n_HX; have Y3 := mkA hbx; clear hbx hbl hg3; have c40 : w1.cell? ⟨g3, 0, none⟩ = some (.string k0) := (blk_cell Y3.out 0).trans rfl; have c41 : w1.cell? ⟨g3, 1, none⟩ = some (.string k1) := (blk_cell Y3.out 1).trans rfl; have c42 : w1.cell? ⟨g3, 2, none⟩ = some (.int .i64 k2) := (blk_cell Y3.out 2).trans rfl)
   | (go_at_call 42; refine (hlg.out _ HX.out).mono ?_; rintro e w2 ⟨rfl, hb⟩; have n_HX := mkA (zbS HX.out hb); have n_Y3 := mkA ((hb.block g3 (blk_lt Y3.out)).trans Y3.out); clear HX Y3 ; have HX := n_HX; have Y3 := n_Y3; clear n_HX n_Y3; clear hb; have c40 : w2.cell? ⟨g3, 0, none⟩ = some (.string k0) := (blk_cell Y3.out 0).trans rfl; have c41 : w2.cell? ⟨g3, 1, none⟩ = some (.string k1) := (blk_cell Y3.out 1).trans rfl; have c42 : w2.cell? ⟨g3, 2, none⟩ = some (.int .i64 k2) := (blk_cell Y3.out 2).trans rfl)
   | (go_at_call 43; refine (five_calls _).mono ?_; rintro e w3 ⟨rfl, hb⟩; have n_HX := mkA (zbS HX.out hb); have n_Y3 := mkA ((hb.block g3 (blk_lt Y3.out)).trans Y3.out); clear HX Y3 ; have HX := n_HX; have Y3 := n_Y3; clear n_HX n_Y3; clear hb))
  go_ret
  exact ⟨rfl, HX.out⟩
 ·rw [h] at hlg
  clear h
  have dk0 : decide ((k0.size : Int) > 100) = true := decide_eq_true (by omega)
  have ek0 : decide (100 < (k0.size : Int)) = true := decide_eq_true (by omega)
  have fk0 : decide (100 < k0.size) = true := decide_eq_true (by omega)
  clear h1
  go_enter Try.func10, Try.ntmps10
  go_wp2_with (first
   | ((with_reducible refine gate_dst (N := 3) rfl ?_); refine box_event rfl (N := 3) rfl (cs := #[.string k0, .string k1, .int .i64 k2]) (t := 74) ?hr ?_; (case hr => first | (go_simp; done) | (go_simp; rfl)); intro g3 hg3 w1 hbx hbl; have G3 := mkA (show _ ≤ g3 by rw [hg3]; exact HX.out.size); have n_HX := mkA (zbS HX.out hbl); clear HX ; have HX := n_HX; clear n_HX; have Y3 := mkA hbx; clear hbx hbl hg3; have c40 : w1.cell? ⟨g3, 0, none⟩ = some (.string k0) := (blk_cell Y3.out 0).trans rfl; have c41 : w1.cell? ⟨g3, 1, none⟩ = some (.string k1) := (blk_cell Y3.out 1).trans rfl; have c42 : w1.cell? ⟨g3, 2, none⟩ = some (.int .i64 k2) := (blk_cell Y3.out 2).trans rfl)
   | (go_at_call 42; refine (hlg.out _ HX.out).mono ?_; rintro e w2 ⟨rfl, hb⟩; have n_HX := mkA (zbS HX.out hb); have n_Y3 := mkA ((hb.block g3 (blk_lt Y3.out)).trans Y3.out); clear HX Y3 ; have HX := n_HX; have Y3 := n_Y3; clear n_HX n_Y3; clear hb; have c40 : w2.cell? ⟨g3, 0, none⟩ = some (.string k0) := (blk_cell Y3.out 0).trans rfl; have c41 : w2.cell? ⟨g3, 1, none⟩ = some (.string k1) := (blk_cell Y3.out 1).trans rfl; have c42 : w2.cell? ⟨g3, 2, none⟩ = some (.int .i64 k2) := (blk_cell Y3.out 2).trans rfl)
   | (go_at_call 43; refine (five_calls _).mono ?_; rintro e w3 ⟨rfl, hb⟩; have n_HX := mkA (zbS HX.out hb); have n_Y3 := mkA ((hb.block g3 (blk_lt Y3.out)).trans Y3.out); clear HX Y3 ; have HX := n_HX; have Y3 := n_Y3; clear n_HX n_Y3; clear hb))
  go_ret
  exact ⟨rfl, HX.out⟩
 ·rw [h] at hlg
  clear h
  have dk0 : decide ((k0.size : Int) > 100) = false := decide_eq_false (by omega)
  have ek0 : decide (100 < (k0.size : Int)) = false := decide_eq_false (by omega)
  have fk0 : decide (100 < k0.size) = false := decide_eq_false (by omega)
  have dk1 : decide ((k1.size : Int) > 100) = true := decide_eq_true (by omega)
  have ek1 : decide (100 < (k1.size : Int)) = true := decide_eq_true (by omega)
  have fk1 : decide (100 < k1.size) = true := decide_eq_true (by omega)
  clear h1 h2
  go_enter Try.func10, Try.ntmps10
  go_wp2_with (first
   | ((with_reducible refine gate_dst (N := 3) rfl ?_); refine box_event rfl (N := 3) rfl (cs := #[.string k0, .string k1, .int .i64 k2]) (t := 74) ?hr ?_; (case hr => first | (go_simp; done) | (go_simp; rfl)); intro g3 hg3 w1 hbx hbl; have G3 := mkA (show _ ≤ g3 by rw [hg3]; exact HX.out.size); have n_HX := mkA (zbS HX.out hbl); clear HX ; have HX := n_HX; clear n_HX; have Y3 := mkA hbx; clear hbx hbl hg3; have c40 : w1.cell? ⟨g3, 0, none⟩ = some (.string k0) := (blk_cell Y3.out 0).trans rfl; have c41 : w1.cell? ⟨g3, 1, none⟩ = some (.string k1) := (blk_cell Y3.out 1).trans rfl; have c42 : w1.cell? ⟨g3, 2, none⟩ = some (.int .i64 k2) := (blk_cell Y3.out 2).trans rfl)
   | (go_at_call 42; refine (hlg.out _ HX.out).mono ?_; rintro e w2 ⟨rfl, hb⟩; have n_HX := mkA (zbS HX.out hb); have n_Y3 := mkA ((hb.block g3 (blk_lt Y3.out)).trans Y3.out); clear HX Y3 ; have HX := n_HX; have Y3 := n_Y3; clear n_HX n_Y3; clear hb; have c40 : w2.cell? ⟨g3, 0, none⟩ = some (.string k0) := (blk_cell Y3.out 0).trans rfl; have c41 : w2.cell? ⟨g3, 1, none⟩ = some (.string k1) := (blk_cell Y3.out 1).trans rfl; have c42 : w2.cell? ⟨g3, 2, none⟩ = some (.int .i64 k2) := (blk_cell Y3.out 2).trans rfl)
   | (go_at_call 43; refine (five_calls _).mono ?_; rintro e w3 ⟨rfl, hb⟩; have n_HX := mkA (zbS HX.out hb); have n_Y3 := mkA ((hb.block g3 (blk_lt Y3.out)).trans Y3.out); clear HX Y3 ; have HX := n_HX; have Y3 := n_Y3; clear n_HX n_Y3; clear hb))
  go_ret
  exact ⟨rfl, HX.out⟩
set_option maxHeartbeats 16000000 in
set_option maxRecDepth 100000 in
theorem acts_in (l : List Ac) (A : Option Addr) (n k : Nat) (k0 k1 : ByteArray) (k2 : Int) (w : World) (hp : Acs k w A n l) (hk : i64B k2) (h : largeA l = false) (h1 : ¬ 100 < k0.size) (h2 : ¬ 100 < k1.size) :
  Calls Try.prog 10 #[.slice A n k, .agg #[.string k0, .string k1, .int .i64 k2]] w fun e w' => e = .returned (.bool true) ∧ Below w.heap.size w w' := by
 have hund : ∀ b, some undef = some (Value.bool b) → False := fun b h => by simp [undef] at h
 obtain ⟨rfl, hnk, hC, hokl⟩ := hp
 have HX := mkA (Below.refl w.heap.size w)
 have hlg := mkA (fun W (h : Below w.heap.size w W) => large_calls A k l W (Kd.C_below hC h) hnk)
 rw [h] at hlg
 obtain ⟨hl40, hz⟩ := largeA_no h
 have HZ := mkA hz
 have HC := mkA hC
 have HKK := mkA (show okK ⟨k0, k1, k2⟩ from ⟨by unfold maxLen; dsimp only; omega, by unfold maxLen; dsimp only; omega, hk⟩)
 have dk0 : decide ((k0.size : Int) > 100) = false := decide_eq_false (by omega)
 have ek0 : decide (100 < (k0.size : Int)) = false := decide_eq_false (by omega)
 have fk0 : decide (100 < k0.size) = false := decide_eq_false (by omega)
 have dk1 : decide ((k1.size : Int) > 100) = false := decide_eq_false (by omega)
 have ek1 : decide (100 < (k1.size : Int)) = false := decide_eq_false (by omega)
 have fk1 : decide (100 < k1.size) = false := decide_eq_false (by omega)
 clear h h1 h2 hz hC hokl hk
 have HNW := mkA (fun W => new_calls W)
 go_enter Try.func10, Try.ntmps10
 go_wp2_with (first
  | ((with_reducible refine gate_dst (N := 3) rfl ?_); refine box_event rfl (N := 3) rfl (cs := #[.string k0, .string k1, .int .i64 k2]) (t := 74) ?hr ?_; (case hr => first | (go_simp; done) | (go_simp; rfl)); intro g3 hg3 w1 hbx hbl; have G3 := mkA (show _ ≤ g3 by rw [hg3]; exact HX.out.size); have n_HX := mkA (zbS HX.out hbl); clear HX ; have HX := n_HX; clear n_HX; have Y3 := mkA hbx; clear hbx hbl hg3; have c40 : w1.cell? ⟨g3, 0, none⟩ = some (.string k0) := (blk_cell Y3.out 0).trans rfl; have c41 : w1.cell? ⟨g3, 1, none⟩ = some (.string k1) := (blk_cell Y3.out 1).trans rfl; have c42 : w1.cell? ⟨g3, 2, none⟩ = some (.int .i64 k2) := (blk_cell Y3.out 2).trans rfl)
  | (go_at_call 42; refine (hlg.out _ HX.out).mono ?_; rintro e w2 ⟨rfl, hb⟩; have n_HX := mkA (zbS HX.out hb); have n_Y3 := mkA ((hb.block g3 (blk_lt Y3.out)).trans Y3.out); clear HX Y3 ; have HX := n_HX; have Y3 := n_Y3; clear n_HX n_Y3; clear hb hlg; have c40 : w2.cell? ⟨g3, 0, none⟩ = some (.string k0) := (blk_cell Y3.out 0).trans rfl; have c41 : w2.cell? ⟨g3, 1, none⟩ = some (.string k1) := (blk_cell Y3.out 1).trans rfl; have c42 : w2.cell? ⟨g3, 2, none⟩ = some (.int .i64 k2) := (blk_cell Y3.out 2).trans rfl)
  | (go_at_call 44; refine (HNW.out _).mono ?_; rintro e w3 ⟨a, b, rfl, hT, ha, hb1, hb⟩; have HT := mkA hT; have HBB := mkA (Nat.le_trans HX.out.size hb1); have n_Y := mkA ((hb.block g3 (blk_lt Y3.out)).trans Y3.out); have n_X := mkA (zbS HX.out hb); clear hT ha hb1 hb Y3 HX c40 c41 c42; have Y3 := n_Y; have HB := n_X; clear n_Y n_X))
 go_loopw [6, 39] (fun ov iv wr => ∃ (j : Nat) (AL : Option Addr) (cL : Nat), iv = .int .i64 j ∧ ov = .slice AL (runT (l.take j)).length cL ∧ j ≤ l.length ∧ Aside0 (Tab wr a b (runT (l.take j))) ∧ Aside0 (Ls wr w.heap.size AL cL (runT (l.take j))) ∧ Aside0 (wr.heap[g3]? = some (.cells #[.string k0, .string k1, .int .i64 k2] 74 (0, 0))) ∧ Aside0 (Below w.heap.size w wr)) (fun _ iv _ => l.length - (intOf iv).toNat)
 case atStart => exact ⟨0, none, 0, rfl, rfl, Nat.zero_le _, HT, ⟨Ls.nil _ _⟩, Y3, HB⟩
 case round =>
  clear HT HB Y3
  obtain ⟨j, AL, cL, rfl, rfl, hj, HT, HL, Y3, HB⟩ := hrel
  by_cases hlt : j < l.length
  ·obtain ⟨ad, rfl, hx⟩ := at_act (Kd.C_below HC.out HB.out) j (by omega) hlt
   have hxs := HZ.out _ (List.getElem_mem hlt)
   have HRS := mkA (runT_step l j hlt)
   have hTl := runT_le (l.take j)
   rw [List.length_take] at hTl
   obtain ⟨hokT, hrT⟩ := okT_run (l.take j)
   obtain ⟨T, hT⟩ : ∃ T, runT (l.take j) = T := ⟨_, rfl⟩
   rw [hT] at HRS HT hTl hokT hrT HL
   simp only [hT]
   clear hT
   have hT40 : T.length ≤ 40 := by omega
   have HOKT := mkA hokT
   have HRIT := mkA hrT
   have HTL := mkA hT40
   obtain ⟨x, hxe⟩ : ∃ x, l[j] = x := ⟨_, rfl⟩
   rw [hxe] at hx hxs HRS
   clear hxe
   obtain ⟨x0, x1, ⟨x2, ⟨x3, x4⟩⟩, ⟨x5, x6⟩⟩ := x
   dsimp only at hxs
   obtain ⟨hs1, hs2, hs3⟩ := hxs
   have HCS := mkA (show ∀ (j_1 : Nat) (u : Value), (#[.int .i64 x0, .int .i64 x1, .string x2, .string x3, .int .i64 x4, .int .i64 x5, .string x6] : Array Value)[j_1]? = some u → wr.cell? ((ad.add (j * 7)).add j_1) = some u from hx)
   have HES := actE_size T ⟨x0, x1, ⟨x2, ⟨x3, x4⟩⟩, ⟨x5, x6⟩⟩ hs3
   have HMD := mkA (fun (W : World) (h : Below wr.heap.size wr W) => made_tab a b T x0 x1 x2 x3 x4 x5 x6 (by omega) (by omega) W (HT.out.later h) (by omega))
   have HEN := mkA (fun (W : World) (h : Below wr.heap.size wr W) => rentry_calls T (by omega) hokT AL cL x0 x1 x2 x3 x4 x5 x6 hs1 hs2 W (Kd.C_below HL.out.r h) HL.out.c)
   have HAC := mkA (fun (hk : x0 = 0 ∨ x0 = 1) => act_app (T := T) (n := x1) (k0 := x2) (k1 := x3) (k2 := x4) (fk := x5) (fp := x6) hk)
   obtain ⟨E, hE⟩ : ∃ E, actE T ⟨x0, x1, ⟨x2, ⟨x3, x4⟩⟩, ⟨x5, x6⟩⟩ = E := ⟨_, rfl⟩
   have hE2 : madE T x0 x1 x2 x3 x4 x5 x6 = E := hE
   rw [hE] at HES
   rw [hE2] at HMD HEN HAC
   obtain ⟨ek, ep, ee⟩ := E
   unfold To.v at HMD
   dsimp only at HES HMD HEN HAC
   have HAT := actE_eq T _ ek ep ee hE
   rw [HAT] at HRS
   have HESS := mkA HES
   have HAP := mkA (fun (W : World) (h : Tab W a b T) => apply_tab a b T ek ep (by omega) W h (by omega))
   have HRA := mkA (fun (W : World) (hB : Below w.heap.size w W) (hL : Ls W w.heap.size AL cL T) => rapply_calls w W T (by omega) hokT hrT AL cL ek ep (by omega) hB hL)
   clear hx hs1 hs2 hs3 HES hE hE2 HAT hTl hokT hrT hT40
   have HX := mkA (Below.refl wr.heap.size wr)
   have d1 : decide ((j : Int) < (l.length : Int)) = true := decide_eq_true (by omega)
   have d2 : (0 ≤ (j : Int)) = True := eq_true (by omega)
   have d3 : ((j : Int) < (l.length : Int)) = True := eq_true (by omega)
   have HWJ := mkA (show wrap64 ((j : Int) + 1) = (j : Int) + 1 from w64o _ (by omega) (by omega))
   have hee1 : (ee != ee) = false := by simp
   have hek : (ek == ek && (ep.toList == ep.toList)) = true := by simp
   go_upto_region 12 with (first
    | ((with_reducible refine gate_dst (N := 42) rfl ?_); refine load_evm' (N := 42) rfl rfl rfl (cs := #[.int .i64 x0, .int .i64 x1, .string x2, .string x3, .int .i64 x4, .int .i64 x5, .string x6]) rfl HCS.out Try.underlying81 rfl (by kernel_rfl) ?_)
    | ((with_reducible refine gate_dst (N := 8) rfl ?_); refine box_event rfl (N := 8) rfl (cs := #[.int .i64 0, .int .i64 0, .string ⟨#[]⟩, .string ⟨#[]⟩, .int .i64 0, .int .i64 0, .string ⟨#[]⟩]) (t := 81) ?hr ?_; (case hr => first | (go_simp; done) | (go_simp; rfl)); intro g8 hg8 w4 hbx hbl; have G8 := mkA (show _ ≤ g8 by rw [hg8]; exact HX.out.size); have n_HX := mkA (zbS HX.out hbl); clear HX ; have HX := n_HX; clear n_HX; have Y8 := mkA hbx; clear hbx hbl hg8)
    | ((with_reducible refine gate_store (t := 81) (p := 8) rfl ?_); refine store_ev rfl rfl rfl (cells := #[.int .i64 x0, .int .i64 x1, .string x2, .string x3, .int .i64 x4, .int .i64 x5, .string x6]) rfl rfl Y8.out (by kernel_rfl) rfl (by kernel_rfl) ?_; intro w5 hbx hgr; have n_HX := mkA (below_put HX.out G8.out hgr HX.out.size); have n_Y8 := mkA (hbx); clear HX Y8 ; have HX := n_HX; have Y8 := n_Y8; clear n_HX n_Y8; clear hbx hgr)
    | ((with_reducible refine gate_dst (N := 45) rfl ?_); refine load_ev (N := 45) rfl rfl rfl (cs := #[.int .i64 x0, .int .i64 x1, .string x2, .string x3, .int .i64 x4, .int .i64 x5, .string x6]) rfl Y8.out Try.underlying81 rfl (by kernel_rfl) ?_)
    | (go_at_call 45; refine (HMD.out _ HX.out).mono ?_; rintro e w6 ⟨rfl, hb⟩; have n_HX := mkA (zbS HX.out hb); have n_Y8 := mkA ((hb.block g8 (blk_lt Y8.out)).trans Y8.out); clear HX Y8 ; have HX := n_HX; have Y8 := n_Y8; clear n_HX n_Y8; clear hb HMD)
    | ((with_reducible refine gate_dst (N := 9) rfl ?_); refine box_event rfl (N := 9) rfl (cs := #[.int .i64 0, .string ⟨#[]⟩]) (t := 79) ?hr ?_; (case hr => first | (go_simp; done) | (go_simp; rfl)); intro g9 hg9 w7 hbx hbl; have G9 := mkA (show _ ≤ g9 by rw [hg9]; exact HX.out.size); have Ng8g9 := mkA (show g8 ≠ g9 from fun e => by have h1 := blk_lt Y8.out; omega); have n_HX := mkA (zbS HX.out hbl); have n_Y8 := mkA ((hbl.block g8 (blk_lt Y8.out)).trans Y8.out); clear HX Y8 ; have HX := n_HX; have Y8 := n_Y8; clear n_HX n_Y8; have Y9 := mkA hbx; clear hbx hbl hg9)
    | ((with_reducible refine gate_store (t := 79) (p := 9) rfl ?_); refine store_ev rfl rfl rfl (cells := #[.int .i64 ek, .string ep]) rfl rfl Y9.out (by kernel_rfl) rfl (by kernel_rfl) ?_; intro w8 hbx hgr; have n_HX := mkA (below_put HX.out G9.out hgr HX.out.size); have n_Y8 := mkA (grown_at hgr Y8.out Ng8g9.out); have n_Y9 := mkA (hbx); clear HX Y8 Y9 ; have HX := n_HX; have Y8 := n_Y8; have Y9 := n_Y9; clear n_HX n_Y8 n_Y9; clear hbx hgr)
    | ((with_reducible refine gate_dst (N := 50) rfl ?_); refine load_ev (N := 50) rfl rfl rfl (cs := #[.int .i64 x0, .int .i64 x1, .string x2, .string x3, .int .i64 x4, .int .i64 x5, .string x6]) rfl Y8.out Try.underlying81 rfl (by kernel_rfl) ?_)
    | (go_at_call 50; refine (HEN.out _ HX.out).mono ?_; rintro e w9 ⟨rfl, hb⟩; have n_HX := mkA (zbS HX.out hb); have n_Y8 := mkA ((hb.block g8 (blk_lt Y8.out)).trans Y8.out); have n_Y9 := mkA ((hb.block g9 (blk_lt Y9.out)).trans Y9.out); clear HX Y8 Y9 ; have HX := n_HX; have Y8 := n_Y8; have Y9 := n_Y9; clear n_HX n_Y8 n_Y9; clear hb HEN)
    | ((with_reducible refine gate_dst (N := 11) rfl ?_); refine box_event rfl (N := 11) rfl (cs := #[.int .i64 0, .string ⟨#[]⟩, .int .i64 0]) (t := 92) ?hr ?_; (case hr => first | (go_simp; done) | (go_simp; rfl)); intro g11 hg11 w10 hbx hbl; have G11 := mkA (show _ ≤ g11 by rw [hg11]; exact HX.out.size); have Ng8g11 := mkA (show g8 ≠ g11 from fun e => by have h1 := blk_lt Y8.out; omega); have Ng9g11 := mkA (show g9 ≠ g11 from fun e => by have h1 := blk_lt Y9.out; omega); have n_HX := mkA (zbS HX.out hbl); have n_Y8 := mkA ((hbl.block g8 (blk_lt Y8.out)).trans Y8.out); have n_Y9 := mkA ((hbl.block g9 (blk_lt Y9.out)).trans Y9.out); clear HX Y8 Y9 ; have HX := n_HX; have Y8 := n_Y8; have Y9 := n_Y9; clear n_HX n_Y8 n_Y9; have Y11 := mkA hbx; clear hbx hbl hg11)
    | ((with_reducible refine gate_store (t := 92) (p := 11) rfl ?_); refine store_ev rfl rfl rfl (cells := #[.int .i64 ek, .string ep, .int .i64 ee]) rfl rfl Y11.out (by kernel_rfl) rfl (by kernel_rfl) ?_; intro w11 hbx hgr; have n_HX := mkA (below_put HX.out G11.out hgr HX.out.size); have n_Y8 := mkA (grown_at hgr Y8.out Ng8g11.out); have n_Y9 := mkA (grown_at hgr Y9.out Ng9g11.out); have n_Y11 := mkA (hbx); clear HX Y8 Y9 Y11 ; have HX := n_HX; have Y8 := n_Y8; have Y9 := n_Y9; have Y11 := n_Y11; clear n_HX n_Y8 n_Y9 n_Y11; clear hbx hgr; have e90 : w11.cell? ⟨g9, 0, none⟩ = some (.int .i64 ek) := (blk_cell Y9.out 0).trans rfl; have e91 : w11.cell? ⟨g9, 1, none⟩ = some (.string ep) := (blk_cell Y9.out 1).trans rfl; have t110 : w11.cell? ⟨g11, 0, none⟩ = some (.int .i64 ek) := (blk_cell Y11.out 0).trans rfl; have t111 : w11.cell? ⟨g11, 1, none⟩ = some (.string ep) := (blk_cell Y11.out 1).trans rfl; have t112 : w11.cell? ⟨g11, 2, none⟩ = some (.int .i64 ee) := (blk_cell Y11.out 2).trans rfl))
   by_cases hee : ee = 0
   rotate_left
   ·have e0 : (ee != 0) = true := bne_iff_ne.2 hee
    rw [if_neg hee] at HRS
    clear hee HAP HRA HAC
    go_wp2_with fail
    have n_HT := mkA (HT.out.later HX.out)
    have n_HL := mkA (HL.out.later HX.out)
    have n_Y3 := mkA ((HX.out.block g3 (blk_lt Y3.out)).trans Y3.out)
    have n_HB := mkA (zbS HB.out HX.out)
    clear HT HL Y3 HB HX Y8 Y9 Y11
    have HT := n_HT
    have HL := n_HL
    have Y3 := n_Y3
    have HB := n_HB
    clear n_HT n_HL n_Y3 n_HB
    rw [← HRS.out] at HT HL
    have hwj := HWJ.out
    go_roundw
    case rel => exact ⟨j + 1, AL, cL, by first | rfl | (rw [hwj]; rfl), by rw [HRS.out], by omega, HT, HL, Y3, HB⟩
    case measure => first | (rw [hwj]; simp [intOf]; omega) | (simp [intOf]; omega)
   have e0 : (ee != 0) = false := by rw [hee]; rfl
   rw [if_pos hee] at HRS
   have HAC2 := mkA (fun hk => HAC.out hk hee)
   clear hee HAC
   obtain ⟨T2, hT2⟩ : ∃ T2, appT T ek ep = T2 := ⟨_, rfl⟩
   obtain ⟨M, hM⟩ : ∃ M, appB T ek ep = M := ⟨_, rfl⟩
   have HOK2 := okT_app HOKT.out HRIT.out ek ep
   have HLE2 := appT_le T ek ep
   rw [hT2] at HRS HAP HRA HOK2 HLE2
   rw [hM] at HAP HRA HAC2
   clear hT2 hM
   have HT2L := mkA (show T2.length ≤ 41 by have := HTL.out; omega)
   have HOKT2 := mkA HOK2
   clear HLE2 HOK2
   go_upto_region 14 with (first
    | ((with_reducible refine gate_dst (N := 65) rfl ?_); refine load_ev (N := 65) rfl rfl rfl (cs := #[.int .i64 ek, .string ep]) rfl Y9.out Try.underlying79 rfl (by kernel_rfl) ?_)
    | (go_at_call 46; have hT6 := HT.out.later HX.out; refine (HAP.out _ hT6).mono ?_; rintro e w12 ⟨rfl, hT, hG⟩; have n_Y3 := mkA (grown_at hG ((HX.out.block g3 (blk_lt Y3.out)).trans Y3.out) (ne_map hT6 ((HX.out.block g3 (blk_lt Y3.out)).trans Y3.out))); have n_Y8 := mkA (grown_at hG Y8.out (ne_map hT6 Y8.out)); have n_Y9 := mkA (grown_at hG Y9.out (ne_map hT6 Y9.out)); have n_B := mkA (below_put (zbS HB.out HX.out) HBB.out hG (Nat.le_trans HB.out.size HX.out.size)); have n_L := mkA ((HL.out.later HX.out).map hT6.map hG); have n_T := mkA hT; clear HT HX Y3 Y8 Y9 Y11 HB HL HAP hT6 hG hT; have HT := n_T; have Y3 := n_Y3; have Y8 := n_Y8; have Y9 := n_Y9; have HB := n_B; have HL := n_L; clear n_Y3 n_Y8 n_Y9 n_B n_T n_L))
   go_upto_region 15 with (first
    | ((with_reducible refine gate_dst (N := 68) rfl ?_); refine load_ev (N := 68) rfl rfl rfl (cs := #[.int .i64 ek, .string ep]) rfl Y9.out Try.underlying79 rfl (by kernel_rfl) ?_)
    | (go_at_call 51; refine (HRA.out _ HB.out HL.out).mono ?_; rintro e w13 ⟨A2, c2, rfl, hL, hb, hkeep⟩; have n_T := mkA (HT.out.at_blocks ((hkeep _ _ HT.out.cell (fun cells e => by cases e)).trans HT.out.cell.symm) (by obtain ⟨n1, D1, ⟨es, clock, h1, _⟩, _⟩ := HT.out.own; exact (hkeep _ _ h1 (fun cells e => by cases e)).trans h1.symm)); have n_Y3 := mkA (hkeep _ _ Y3.out (fun cells e => by cases e)); have n_Y8 := mkA (hkeep _ _ Y8.out (fun cells e => by cases e)); have n_L := mkA hL; have n_B := mkA hb; clear HT Y3 Y8 Y9 HL HB HRA hkeep hL hb; have HT := n_T; have Y3 := n_Y3; have Y8 := n_Y8; have HL := n_L; have HB := n_B; clear n_T n_Y3 n_Y8 n_L n_B; have HX := mkA (Below.refl w13.heap.size w13))
    | ((with_reducible refine gate_dst (N := 13) rfl ?_); refine box_event rfl (N := 13) rfl (cs := #[.slice none 0 0, .bool false]) (t := 95) ?hr ?_; (case hr => first | (go_simp; done) | (go_simp; rfl)); intro g13 hg13 w14 hbx hbl; have G13 := mkA (show _ ≤ g13 by rw [hg13]; exact HX.out.size); have Ng8g13 := mkA (show g8 ≠ g13 from fun e => by have h1 := blk_lt Y8.out; omega); have n_HX := mkA (zbS HX.out hbl); have n_Y8 := mkA ((hbl.block g8 (blk_lt Y8.out)).trans Y8.out); clear HX Y8 ; have HX := n_HX; have Y8 := n_Y8; clear n_HX n_Y8; have Y13 := mkA hbx; clear hbx hbl hg13)
    | ((with_reducible refine gate_store (t := 95) (p := 13) rfl ?_); refine store_ev rfl rfl rfl (cells := #[.slice A2 T2.length c2, .bool M]) rfl rfl Y13.out (by kernel_rfl) rfl (by kernel_rfl) ?_; intro w15 hbx hgr; have n_HX := mkA (below_put HX.out G13.out hgr HX.out.size); have n_Y8 := mkA (grown_at hgr Y8.out Ng8g13.out); have n_Y13 := mkA (hbx); clear HX Y8 Y13 ; have HX := n_HX; have Y8 := n_Y8; have Y13 := n_Y13; clear n_HX n_Y8 n_Y13; clear hbx hgr; have d131 : w15.cell? ⟨g13, 1, none⟩ = some (.bool M) := (blk_cell Y13.out 1).trans rfl; have d130 : w15.cell? ⟨g13, 0, none⟩ = some (.slice A2 T2.length c2) := (blk_cell Y13.out 0).trans rfl; have a80 : w15.cell? ⟨g8, 0, none⟩ = some (.int .i64 x0) := (blk_cell Y8.out 0).trans rfl))
   have HGT := mkA (fun (W : World) (h : Below w13.heap.size w13 W) => get_tab a b T2 k0 k1 k2 HKK.out W (HT.out.later h))
   have HFI := mkA (fun (W : World) (h : Below w13.heap.size w13 W) => rfind_calls T2 (by have := HT2L.out; omega) A2 c2 k0 k1 k2 W (Kd.C_below HL.out.r h) HL.out.c)
   have HSM := mkA (fun (W : World) (h : Below w13.heap.size w13 W) => same_tab a b T2 (by have := HT2L.out; omega) HOKT2.out A2 c2 W (HT.out.later h) (Kd.C_below HL.out.r h) HL.out.c)
   obtain ⟨hf1, hf2⟩ := findT_val T2 ⟨k0, k1, k2⟩
   have hv0 := valT_ok HOKT2.out ⟨k0, k1, k2⟩
   obtain ⟨V, hV⟩ : ∃ V, valT T2 ⟨k0, k1, k2⟩ = V := ⟨_, rfl⟩
   obtain ⟨FF, hFF⟩ : ∃ FF, findT T2 ⟨k0, k1, k2⟩ = FF := ⟨_, rfl⟩
   obtain ⟨IS, hIS⟩ : ∃ IS, isT T2 ⟨k0, k1, k2⟩ = IS := ⟨_, rfl⟩
   rw [hV, hFF, hIS] at hf1
   rw [hV, hFF, hIS] at hf2
   rw [hV] at hv0
   rw [hV, hIS] at HGT
   rw [hFF] at HFI
   clear hV hFF hIS
   have HCASE := mkA (show (IS = true ∧ FF = V ∧ 0 ≤ V) ∨ (IS = false ∧ FF = -1 ∧ V = 0) by
    cases IS
    ·exact .inr ⟨rfl, hf2 rfl⟩
    ·exact .inl ⟨rfl, hf1 rfl, hv0⟩)
   clear hf1 hf2 hv0
   by_cases hk0 : x0 = 0
   ·have hM := HAC2.out (Or.inl hk0)
    subst hM
    have ek0 : (x0 == 0) = true := by rw [hk0]; rfl
    clear hk0 HAC2
    rcases HCASE.out with ⟨rfl, rfl, hv0⟩ | ⟨rfl, rfl, rfl⟩
    ·have f1 : decide (FF ≥ 0) = true := decide_eq_true hv0
     have f2 : decide (0 ≤ FF) = true := decide_eq_true hv0
     have f3 : (0 ≤ FF) = True := eq_true hv0
     have f4 : (FF != FF) = false := by simp
     clear hv0 HCASE
     go_wp2_with (first
      | ((with_reducible refine gate_dst (N := 101) rfl ?_); refine load_ev (N := 101) rfl rfl rfl (cs := #[.string k0, .string k1, .int .i64 k2]) rfl ((HX.out.block g3 (blk_lt Y3.out)).trans Y3.out) Try.underlying74 rfl (by kernel_rfl) ?_)
      | (go_at_call 48; refine (HGT.out _ HX.out).mono ?_; rintro e w16 ⟨rfl, hb⟩; have n_HX := mkA (zbS HX.out hb); have n_Y8 := mkA ((hb.block g8 (blk_lt Y8.out)).trans Y8.out); have n_Y13 := mkA ((hb.block g13 (blk_lt Y13.out)).trans Y13.out); clear HX Y8 Y13 ; have HX := n_HX; have Y8 := n_Y8; have Y13 := n_Y13; clear n_HX n_Y8 n_Y13; clear hb HGT; have c40 : w16.cell? ⟨g3, 0, none⟩ = some (.string k0) := (blk_cell ((HX.out.block g3 (blk_lt Y3.out)).trans Y3.out) 0).trans rfl; have c41 : w16.cell? ⟨g3, 1, none⟩ = some (.string k1) := (blk_cell ((HX.out.block g3 (blk_lt Y3.out)).trans Y3.out) 1).trans rfl; have c42 : w16.cell? ⟨g3, 2, none⟩ = some (.int .i64 k2) := (blk_cell ((HX.out.block g3 (blk_lt Y3.out)).trans Y3.out) 2).trans rfl)
      | (go_at_call 52; refine (HFI.out _ HX.out).mono ?_; rintro e w17 ⟨rfl, hb⟩; have n_HX := mkA (zbS HX.out hb); have n_Y8 := mkA ((hb.block g8 (blk_lt Y8.out)).trans Y8.out); have n_Y13 := mkA ((hb.block g13 (blk_lt Y13.out)).trans Y13.out); clear HX Y8 Y13 ; have HX := n_HX; have Y8 := n_Y8; have Y13 := n_Y13; clear n_HX n_Y8 n_Y13; clear hb HFI)
      | (go_at_call 53; refine (HSM.out _ HX.out).mono ?_; rintro e w18 ⟨rfl, hb⟩; have n_HX := mkA (zbS HX.out hb); have n_Y8 := mkA ((hb.block g8 (blk_lt Y8.out)).trans Y8.out); have n_Y13 := mkA ((hb.block g13 (blk_lt Y13.out)).trans Y13.out); clear HX Y8 Y13 ; have HX := n_HX; have Y8 := n_Y8; have Y13 := n_Y13; clear n_HX n_Y8 n_Y13; clear hb HSM))
     have n_HT := mkA (HT.out.later HX.out)
     have n_HL := mkA (HL.out.later HX.out)
     have n_Y3 := mkA ((HX.out.block g3 (blk_lt Y3.out)).trans Y3.out)
     have n_HB := mkA (zbS HB.out HX.out)
     clear HT HL Y3 HB HX Y8 Y13
     have HT := n_HT
     have HL := n_HL
     have Y3 := n_Y3
     have HB := n_HB
     clear n_HT n_HL n_Y3 n_HB
     rw [← HRS.out] at HT HL
     have hwj := HWJ.out
     go_roundw
     case rel => exact ⟨j + 1, A2, c2, by first | rfl | (rw [hwj]; rfl), by rw [HRS.out], by omega, HT, HL, Y3, HB⟩
     case measure => first | (rw [hwj]; simp [intOf]; omega) | (simp [intOf]; omega)
    ·clear HCASE
     go_wp2_with (first
      | ((with_reducible refine gate_dst (N := 101) rfl ?_); refine load_ev (N := 101) rfl rfl rfl (cs := #[.string k0, .string k1, .int .i64 k2]) rfl ((HX.out.block g3 (blk_lt Y3.out)).trans Y3.out) Try.underlying74 rfl (by kernel_rfl) ?_)
      | (go_at_call 48; refine (HGT.out _ HX.out).mono ?_; rintro e w16 ⟨rfl, hb⟩; have n_HX := mkA (zbS HX.out hb); have n_Y8 := mkA ((hb.block g8 (blk_lt Y8.out)).trans Y8.out); have n_Y13 := mkA ((hb.block g13 (blk_lt Y13.out)).trans Y13.out); clear HX Y8 Y13 ; have HX := n_HX; have Y8 := n_Y8; have Y13 := n_Y13; clear n_HX n_Y8 n_Y13; clear hb HGT; have c40 : w16.cell? ⟨g3, 0, none⟩ = some (.string k0) := (blk_cell ((HX.out.block g3 (blk_lt Y3.out)).trans Y3.out) 0).trans rfl; have c41 : w16.cell? ⟨g3, 1, none⟩ = some (.string k1) := (blk_cell ((HX.out.block g3 (blk_lt Y3.out)).trans Y3.out) 1).trans rfl; have c42 : w16.cell? ⟨g3, 2, none⟩ = some (.int .i64 k2) := (blk_cell ((HX.out.block g3 (blk_lt Y3.out)).trans Y3.out) 2).trans rfl)
      | (go_at_call 52; refine (HFI.out _ HX.out).mono ?_; rintro e w17 ⟨rfl, hb⟩; have n_HX := mkA (zbS HX.out hb); have n_Y8 := mkA ((hb.block g8 (blk_lt Y8.out)).trans Y8.out); have n_Y13 := mkA ((hb.block g13 (blk_lt Y13.out)).trans Y13.out); clear HX Y8 Y13 ; have HX := n_HX; have Y8 := n_Y8; have Y13 := n_Y13; clear n_HX n_Y8 n_Y13; clear hb HFI)
      | (go_at_call 53; refine (HSM.out _ HX.out).mono ?_; rintro e w18 ⟨rfl, hb⟩; have n_HX := mkA (zbS HX.out hb); have n_Y8 := mkA ((hb.block g8 (blk_lt Y8.out)).trans Y8.out); have n_Y13 := mkA ((hb.block g13 (blk_lt Y13.out)).trans Y13.out); clear HX Y8 Y13 ; have HX := n_HX; have Y8 := n_Y8; have Y13 := n_Y13; clear n_HX n_Y8 n_Y13; clear hb HSM))
     have n_HT := mkA (HT.out.later HX.out)
     have n_HL := mkA (HL.out.later HX.out)
     have n_Y3 := mkA ((HX.out.block g3 (blk_lt Y3.out)).trans Y3.out)
     have n_HB := mkA (zbS HB.out HX.out)
     clear HT HL Y3 HB HX Y8 Y13
     have HT := n_HT
     have HL := n_HL
     have Y3 := n_Y3
     have HB := n_HB
     clear n_HT n_HL n_Y3 n_HB
     rw [← HRS.out] at HT HL
     have hwj := HWJ.out
     go_roundw
     case rel => exact ⟨j + 1, A2, c2, by first | rfl | (rw [hwj]; rfl), by rw [HRS.out], by omega, HT, HL, Y3, HB⟩
     case measure => first | (rw [hwj]; simp [intOf]; omega) | (simp [intOf]; omega)
   ·by_cases hk1 : x0 = 1
    ·have hM := HAC2.out (Or.inr hk1)
     subst hM
     have ek0 : (x0 == 0) = false := beq_eq_false_iff_ne.2 hk0
     have ek1 : (x0 == 1) = true := by rw [hk1]; rfl
     clear hk0 hk1 HAC2
     rcases HCASE.out with ⟨rfl, rfl, hv0⟩ | ⟨rfl, rfl, rfl⟩
     ·have f1 : decide (FF ≥ 0) = true := decide_eq_true hv0
      have f2 : decide (0 ≤ FF) = true := decide_eq_true hv0
      have f3 : (0 ≤ FF) = True := eq_true hv0
      have f4 : (FF != FF) = false := by simp
      clear hv0 HCASE
      go_wp2_with (first
       | ((with_reducible refine gate_dst (N := 101) rfl ?_); refine load_ev (N := 101) rfl rfl rfl (cs := #[.string k0, .string k1, .int .i64 k2]) rfl ((HX.out.block g3 (blk_lt Y3.out)).trans Y3.out) Try.underlying74 rfl (by kernel_rfl) ?_)
       | (go_at_call 48; refine (HGT.out _ HX.out).mono ?_; rintro e w16 ⟨rfl, hb⟩; have n_HX := mkA (zbS HX.out hb); have n_Y8 := mkA ((hb.block g8 (blk_lt Y8.out)).trans Y8.out); have n_Y13 := mkA ((hb.block g13 (blk_lt Y13.out)).trans Y13.out); clear HX Y8 Y13 ; have HX := n_HX; have Y8 := n_Y8; have Y13 := n_Y13; clear n_HX n_Y8 n_Y13; clear hb HGT; have c40 : w16.cell? ⟨g3, 0, none⟩ = some (.string k0) := (blk_cell ((HX.out.block g3 (blk_lt Y3.out)).trans Y3.out) 0).trans rfl; have c41 : w16.cell? ⟨g3, 1, none⟩ = some (.string k1) := (blk_cell ((HX.out.block g3 (blk_lt Y3.out)).trans Y3.out) 1).trans rfl; have c42 : w16.cell? ⟨g3, 2, none⟩ = some (.int .i64 k2) := (blk_cell ((HX.out.block g3 (blk_lt Y3.out)).trans Y3.out) 2).trans rfl)
       | (go_at_call 52; refine (HFI.out _ HX.out).mono ?_; rintro e w17 ⟨rfl, hb⟩; have n_HX := mkA (zbS HX.out hb); have n_Y8 := mkA ((hb.block g8 (blk_lt Y8.out)).trans Y8.out); have n_Y13 := mkA ((hb.block g13 (blk_lt Y13.out)).trans Y13.out); clear HX Y8 Y13 ; have HX := n_HX; have Y8 := n_Y8; have Y13 := n_Y13; clear n_HX n_Y8 n_Y13; clear hb HFI)
       | (go_at_call 53; refine (HSM.out _ HX.out).mono ?_; rintro e w18 ⟨rfl, hb⟩; have n_HX := mkA (zbS HX.out hb); have n_Y8 := mkA ((hb.block g8 (blk_lt Y8.out)).trans Y8.out); have n_Y13 := mkA ((hb.block g13 (blk_lt Y13.out)).trans Y13.out); clear HX Y8 Y13 ; have HX := n_HX; have Y8 := n_Y8; have Y13 := n_Y13; clear n_HX n_Y8 n_Y13; clear hb HSM))
      have n_HT := mkA (HT.out.later HX.out)
      have n_HL := mkA (HL.out.later HX.out)
      have n_Y3 := mkA ((HX.out.block g3 (blk_lt Y3.out)).trans Y3.out)
      have n_HB := mkA (zbS HB.out HX.out)
      clear HT HL Y3 HB HX Y8 Y13
      have HT := n_HT
      have HL := n_HL
      have Y3 := n_Y3
      have HB := n_HB
      clear n_HT n_HL n_Y3 n_HB
      rw [← HRS.out] at HT HL
      have hwj := HWJ.out
      go_roundw
      case rel => exact ⟨j + 1, A2, c2, by first | rfl | (rw [hwj]; rfl), by rw [HRS.out], by omega, HT, HL, Y3, HB⟩
      case measure => first | (rw [hwj]; simp [intOf]; omega) | (simp [intOf]; omega)
     ·clear HCASE
      go_wp2_with (first
       | ((with_reducible refine gate_dst (N := 101) rfl ?_); refine load_ev (N := 101) rfl rfl rfl (cs := #[.string k0, .string k1, .int .i64 k2]) rfl ((HX.out.block g3 (blk_lt Y3.out)).trans Y3.out) Try.underlying74 rfl (by kernel_rfl) ?_)
       | (go_at_call 48; refine (HGT.out _ HX.out).mono ?_; rintro e w16 ⟨rfl, hb⟩; have n_HX := mkA (zbS HX.out hb); have n_Y8 := mkA ((hb.block g8 (blk_lt Y8.out)).trans Y8.out); have n_Y13 := mkA ((hb.block g13 (blk_lt Y13.out)).trans Y13.out); clear HX Y8 Y13 ; have HX := n_HX; have Y8 := n_Y8; have Y13 := n_Y13; clear n_HX n_Y8 n_Y13; clear hb HGT; have c40 : w16.cell? ⟨g3, 0, none⟩ = some (.string k0) := (blk_cell ((HX.out.block g3 (blk_lt Y3.out)).trans Y3.out) 0).trans rfl; have c41 : w16.cell? ⟨g3, 1, none⟩ = some (.string k1) := (blk_cell ((HX.out.block g3 (blk_lt Y3.out)).trans Y3.out) 1).trans rfl; have c42 : w16.cell? ⟨g3, 2, none⟩ = some (.int .i64 k2) := (blk_cell ((HX.out.block g3 (blk_lt Y3.out)).trans Y3.out) 2).trans rfl)
       | (go_at_call 52; refine (HFI.out _ HX.out).mono ?_; rintro e w17 ⟨rfl, hb⟩; have n_HX := mkA (zbS HX.out hb); have n_Y8 := mkA ((hb.block g8 (blk_lt Y8.out)).trans Y8.out); have n_Y13 := mkA ((hb.block g13 (blk_lt Y13.out)).trans Y13.out); clear HX Y8 Y13 ; have HX := n_HX; have Y8 := n_Y8; have Y13 := n_Y13; clear n_HX n_Y8 n_Y13; clear hb HFI)
       | (go_at_call 53; refine (HSM.out _ HX.out).mono ?_; rintro e w18 ⟨rfl, hb⟩; have n_HX := mkA (zbS HX.out hb); have n_Y8 := mkA ((hb.block g8 (blk_lt Y8.out)).trans Y8.out); have n_Y13 := mkA ((hb.block g13 (blk_lt Y13.out)).trans Y13.out); clear HX Y8 Y13 ; have HX := n_HX; have Y8 := n_Y8; have Y13 := n_Y13; clear n_HX n_Y8 n_Y13; clear hb HSM))
      have n_HT := mkA (HT.out.later HX.out)
      have n_HL := mkA (HL.out.later HX.out)
      have n_Y3 := mkA ((HX.out.block g3 (blk_lt Y3.out)).trans Y3.out)
      have n_HB := mkA (zbS HB.out HX.out)
      clear HT HL Y3 HB HX Y8 Y13
      have HT := n_HT
      have HL := n_HL
      have Y3 := n_Y3
      have HB := n_HB
      clear n_HT n_HL n_Y3 n_HB
      rw [← HRS.out] at HT HL
      have hwj := HWJ.out
      go_roundw
      case rel => exact ⟨j + 1, A2, c2, by first | rfl | (rw [hwj]; rfl), by rw [HRS.out], by omega, HT, HL, Y3, HB⟩
      case measure => first | (rw [hwj]; simp [intOf]; omega) | (simp [intOf]; omega)
    ·have ek0 : (x0 == 0) = false := beq_eq_false_iff_ne.2 hk0
     have ek1 : (x0 == 1) = false := beq_eq_false_iff_ne.2 hk1
     clear hk0 hk1 HAC2
     cases M with
     | false =>
      rcases HCASE.out with ⟨rfl, rfl, hv0⟩ | ⟨rfl, rfl, rfl⟩
      ·have f1 : decide (FF ≥ 0) = true := decide_eq_true hv0
       have f2 : decide (0 ≤ FF) = true := decide_eq_true hv0
       have f3 : (0 ≤ FF) = True := eq_true hv0
       have f4 : (FF != FF) = false := by simp
       clear hv0 HCASE
       go_wp2_with (first
        | ((with_reducible refine gate_dst (N := 101) rfl ?_); refine load_ev (N := 101) rfl rfl rfl (cs := #[.string k0, .string k1, .int .i64 k2]) rfl ((HX.out.block g3 (blk_lt Y3.out)).trans Y3.out) Try.underlying74 rfl (by kernel_rfl) ?_)
        | (go_at_call 48; refine (HGT.out _ HX.out).mono ?_; rintro e w16 ⟨rfl, hb⟩; have n_HX := mkA (zbS HX.out hb); have n_Y8 := mkA ((hb.block g8 (blk_lt Y8.out)).trans Y8.out); have n_Y13 := mkA ((hb.block g13 (blk_lt Y13.out)).trans Y13.out); clear HX Y8 Y13 ; have HX := n_HX; have Y8 := n_Y8; have Y13 := n_Y13; clear n_HX n_Y8 n_Y13; clear hb HGT; have c40 : w16.cell? ⟨g3, 0, none⟩ = some (.string k0) := (blk_cell ((HX.out.block g3 (blk_lt Y3.out)).trans Y3.out) 0).trans rfl; have c41 : w16.cell? ⟨g3, 1, none⟩ = some (.string k1) := (blk_cell ((HX.out.block g3 (blk_lt Y3.out)).trans Y3.out) 1).trans rfl; have c42 : w16.cell? ⟨g3, 2, none⟩ = some (.int .i64 k2) := (blk_cell ((HX.out.block g3 (blk_lt Y3.out)).trans Y3.out) 2).trans rfl)
        | (go_at_call 52; refine (HFI.out _ HX.out).mono ?_; rintro e w17 ⟨rfl, hb⟩; have n_HX := mkA (zbS HX.out hb); have n_Y8 := mkA ((hb.block g8 (blk_lt Y8.out)).trans Y8.out); have n_Y13 := mkA ((hb.block g13 (blk_lt Y13.out)).trans Y13.out); clear HX Y8 Y13 ; have HX := n_HX; have Y8 := n_Y8; have Y13 := n_Y13; clear n_HX n_Y8 n_Y13; clear hb HFI)
        | (go_at_call 53; refine (HSM.out _ HX.out).mono ?_; rintro e w18 ⟨rfl, hb⟩; have n_HX := mkA (zbS HX.out hb); have n_Y8 := mkA ((hb.block g8 (blk_lt Y8.out)).trans Y8.out); have n_Y13 := mkA ((hb.block g13 (blk_lt Y13.out)).trans Y13.out); clear HX Y8 Y13 ; have HX := n_HX; have Y8 := n_Y8; have Y13 := n_Y13; clear n_HX n_Y8 n_Y13; clear hb HSM))
       have n_HT := mkA (HT.out.later HX.out)
       have n_HL := mkA (HL.out.later HX.out)
       have n_Y3 := mkA ((HX.out.block g3 (blk_lt Y3.out)).trans Y3.out)
       have n_HB := mkA (zbS HB.out HX.out)
       clear HT HL Y3 HB HX Y8 Y13
       have HT := n_HT
       have HL := n_HL
       have Y3 := n_Y3
       have HB := n_HB
       clear n_HT n_HL n_Y3 n_HB
       rw [← HRS.out] at HT HL
       have hwj := HWJ.out
       go_roundw
       case rel => exact ⟨j + 1, A2, c2, by first | rfl | (rw [hwj]; rfl), by rw [HRS.out], by omega, HT, HL, Y3, HB⟩
       case measure => first | (rw [hwj]; simp [intOf]; omega) | (simp [intOf]; omega)
      ·clear HCASE
       go_wp2_with (first
        | ((with_reducible refine gate_dst (N := 101) rfl ?_); refine load_ev (N := 101) rfl rfl rfl (cs := #[.string k0, .string k1, .int .i64 k2]) rfl ((HX.out.block g3 (blk_lt Y3.out)).trans Y3.out) Try.underlying74 rfl (by kernel_rfl) ?_)
        | (go_at_call 48; refine (HGT.out _ HX.out).mono ?_; rintro e w16 ⟨rfl, hb⟩; have n_HX := mkA (zbS HX.out hb); have n_Y8 := mkA ((hb.block g8 (blk_lt Y8.out)).trans Y8.out); have n_Y13 := mkA ((hb.block g13 (blk_lt Y13.out)).trans Y13.out); clear HX Y8 Y13 ; have HX := n_HX; have Y8 := n_Y8; have Y13 := n_Y13; clear n_HX n_Y8 n_Y13; clear hb HGT; have c40 : w16.cell? ⟨g3, 0, none⟩ = some (.string k0) := (blk_cell ((HX.out.block g3 (blk_lt Y3.out)).trans Y3.out) 0).trans rfl; have c41 : w16.cell? ⟨g3, 1, none⟩ = some (.string k1) := (blk_cell ((HX.out.block g3 (blk_lt Y3.out)).trans Y3.out) 1).trans rfl; have c42 : w16.cell? ⟨g3, 2, none⟩ = some (.int .i64 k2) := (blk_cell ((HX.out.block g3 (blk_lt Y3.out)).trans Y3.out) 2).trans rfl)
        | (go_at_call 52; refine (HFI.out _ HX.out).mono ?_; rintro e w17 ⟨rfl, hb⟩; have n_HX := mkA (zbS HX.out hb); have n_Y8 := mkA ((hb.block g8 (blk_lt Y8.out)).trans Y8.out); have n_Y13 := mkA ((hb.block g13 (blk_lt Y13.out)).trans Y13.out); clear HX Y8 Y13 ; have HX := n_HX; have Y8 := n_Y8; have Y13 := n_Y13; clear n_HX n_Y8 n_Y13; clear hb HFI)
        | (go_at_call 53; refine (HSM.out _ HX.out).mono ?_; rintro e w18 ⟨rfl, hb⟩; have n_HX := mkA (zbS HX.out hb); have n_Y8 := mkA ((hb.block g8 (blk_lt Y8.out)).trans Y8.out); have n_Y13 := mkA ((hb.block g13 (blk_lt Y13.out)).trans Y13.out); clear HX Y8 Y13 ; have HX := n_HX; have Y8 := n_Y8; have Y13 := n_Y13; clear n_HX n_Y8 n_Y13; clear hb HSM))
       have n_HT := mkA (HT.out.later HX.out)
       have n_HL := mkA (HL.out.later HX.out)
       have n_Y3 := mkA ((HX.out.block g3 (blk_lt Y3.out)).trans Y3.out)
       have n_HB := mkA (zbS HB.out HX.out)
       clear HT HL Y3 HB HX Y8 Y13
       have HT := n_HT
       have HL := n_HL
       have Y3 := n_Y3
       have HB := n_HB
       clear n_HT n_HL n_Y3 n_HB
       rw [← HRS.out] at HT HL
       have hwj := HWJ.out
       go_roundw
       case rel => exact ⟨j + 1, A2, c2, by first | rfl | (rw [hwj]; rfl), by rw [HRS.out], by omega, HT, HL, Y3, HB⟩
       case measure => first | (rw [hwj]; simp [intOf]; omega) | (simp [intOf]; omega)
     | true =>
      rcases HCASE.out with ⟨rfl, rfl, hv0⟩ | ⟨rfl, rfl, rfl⟩
      ·have f1 : decide (FF ≥ 0) = true := decide_eq_true hv0
       have f2 : decide (0 ≤ FF) = true := decide_eq_true hv0
       have f3 : (0 ≤ FF) = True := eq_true hv0
       have f4 : (FF != FF) = false := by simp
       clear hv0 HCASE
       go_wp2_with (first
        | ((with_reducible refine gate_dst (N := 101) rfl ?_); refine load_ev (N := 101) rfl rfl rfl (cs := #[.string k0, .string k1, .int .i64 k2]) rfl ((HX.out.block g3 (blk_lt Y3.out)).trans Y3.out) Try.underlying74 rfl (by kernel_rfl) ?_)
        | (go_at_call 48; refine (HGT.out _ HX.out).mono ?_; rintro e w16 ⟨rfl, hb⟩; have n_HX := mkA (zbS HX.out hb); have n_Y8 := mkA ((hb.block g8 (blk_lt Y8.out)).trans Y8.out); have n_Y13 := mkA ((hb.block g13 (blk_lt Y13.out)).trans Y13.out); clear HX Y8 Y13 ; have HX := n_HX; have Y8 := n_Y8; have Y13 := n_Y13; clear n_HX n_Y8 n_Y13; clear hb HGT; have c40 : w16.cell? ⟨g3, 0, none⟩ = some (.string k0) := (blk_cell ((HX.out.block g3 (blk_lt Y3.out)).trans Y3.out) 0).trans rfl; have c41 : w16.cell? ⟨g3, 1, none⟩ = some (.string k1) := (blk_cell ((HX.out.block g3 (blk_lt Y3.out)).trans Y3.out) 1).trans rfl; have c42 : w16.cell? ⟨g3, 2, none⟩ = some (.int .i64 k2) := (blk_cell ((HX.out.block g3 (blk_lt Y3.out)).trans Y3.out) 2).trans rfl)
        | (go_at_call 52; refine (HFI.out _ HX.out).mono ?_; rintro e w17 ⟨rfl, hb⟩; have n_HX := mkA (zbS HX.out hb); have n_Y8 := mkA ((hb.block g8 (blk_lt Y8.out)).trans Y8.out); have n_Y13 := mkA ((hb.block g13 (blk_lt Y13.out)).trans Y13.out); clear HX Y8 Y13 ; have HX := n_HX; have Y8 := n_Y8; have Y13 := n_Y13; clear n_HX n_Y8 n_Y13; clear hb HFI)
        | (go_at_call 53; refine (HSM.out _ HX.out).mono ?_; rintro e w18 ⟨rfl, hb⟩; have n_HX := mkA (zbS HX.out hb); have n_Y8 := mkA ((hb.block g8 (blk_lt Y8.out)).trans Y8.out); have n_Y13 := mkA ((hb.block g13 (blk_lt Y13.out)).trans Y13.out); clear HX Y8 Y13 ; have HX := n_HX; have Y8 := n_Y8; have Y13 := n_Y13; clear n_HX n_Y8 n_Y13; clear hb HSM))
       have n_HT := mkA (HT.out.later HX.out)
       have n_HL := mkA (HL.out.later HX.out)
       have n_Y3 := mkA ((HX.out.block g3 (blk_lt Y3.out)).trans Y3.out)
       have n_HB := mkA (zbS HB.out HX.out)
       clear HT HL Y3 HB HX Y8 Y13
       have HT := n_HT
       have HL := n_HL
       have Y3 := n_Y3
       have HB := n_HB
       clear n_HT n_HL n_Y3 n_HB
       rw [← HRS.out] at HT HL
       have hwj := HWJ.out
       go_roundw
       case rel => exact ⟨j + 1, A2, c2, by first | rfl | (rw [hwj]; rfl), by rw [HRS.out], by omega, HT, HL, Y3, HB⟩
       case measure => first | (rw [hwj]; simp [intOf]; omega) | (simp [intOf]; omega)
      ·clear HCASE
       go_wp2_with (first
        | ((with_reducible refine gate_dst (N := 101) rfl ?_); refine load_ev (N := 101) rfl rfl rfl (cs := #[.string k0, .string k1, .int .i64 k2]) rfl ((HX.out.block g3 (blk_lt Y3.out)).trans Y3.out) Try.underlying74 rfl (by kernel_rfl) ?_)
        | (go_at_call 48; refine (HGT.out _ HX.out).mono ?_; rintro e w16 ⟨rfl, hb⟩; have n_HX := mkA (zbS HX.out hb); have n_Y8 := mkA ((hb.block g8 (blk_lt Y8.out)).trans Y8.out); have n_Y13 := mkA ((hb.block g13 (blk_lt Y13.out)).trans Y13.out); clear HX Y8 Y13 ; have HX := n_HX; have Y8 := n_Y8; have Y13 := n_Y13; clear n_HX n_Y8 n_Y13; clear hb HGT; have c40 : w16.cell? ⟨g3, 0, none⟩ = some (.string k0) := (blk_cell ((HX.out.block g3 (blk_lt Y3.out)).trans Y3.out) 0).trans rfl; have c41 : w16.cell? ⟨g3, 1, none⟩ = some (.string k1) := (blk_cell ((HX.out.block g3 (blk_lt Y3.out)).trans Y3.out) 1).trans rfl; have c42 : w16.cell? ⟨g3, 2, none⟩ = some (.int .i64 k2) := (blk_cell ((HX.out.block g3 (blk_lt Y3.out)).trans Y3.out) 2).trans rfl)
        | (go_at_call 52; refine (HFI.out _ HX.out).mono ?_; rintro e w17 ⟨rfl, hb⟩; have n_HX := mkA (zbS HX.out hb); have n_Y8 := mkA ((hb.block g8 (blk_lt Y8.out)).trans Y8.out); have n_Y13 := mkA ((hb.block g13 (blk_lt Y13.out)).trans Y13.out); clear HX Y8 Y13 ; have HX := n_HX; have Y8 := n_Y8; have Y13 := n_Y13; clear n_HX n_Y8 n_Y13; clear hb HFI)
        | (go_at_call 53; refine (HSM.out _ HX.out).mono ?_; rintro e w18 ⟨rfl, hb⟩; have n_HX := mkA (zbS HX.out hb); have n_Y8 := mkA ((hb.block g8 (blk_lt Y8.out)).trans Y8.out); have n_Y13 := mkA ((hb.block g13 (blk_lt Y13.out)).trans Y13.out); clear HX Y8 Y13 ; have HX := n_HX; have Y8 := n_Y8; have Y13 := n_Y13; clear n_HX n_Y8 n_Y13; clear hb HSM))
       have n_HT := mkA (HT.out.later HX.out)
       have n_HL := mkA (HL.out.later HX.out)
       have n_Y3 := mkA ((HX.out.block g3 (blk_lt Y3.out)).trans Y3.out)
       have n_HB := mkA (zbS HB.out HX.out)
       clear HT HL Y3 HB HX Y8 Y13
       have HT := n_HT
       have HL := n_HL
       have Y3 := n_Y3
       have HB := n_HB
       clear n_HT n_HL n_Y3 n_HB
       rw [← HRS.out] at HT HL
       have hwj := HWJ.out
       go_roundw
       case rel => exact ⟨j + 1, A2, c2, by first | rfl | (rw [hwj]; rfl), by rw [HRS.out], by omega, HT, HL, Y3, HB⟩
       case measure => first | (rw [hwj]; simp [intOf]; omega) | (simp [intOf]; omega)
  ·obtain rfl : j = l.length := by omega
   have d1 : decide ((l.length : Int) < (l.length : Int)) = false := decide_eq_false (by omega)
   rw [List.take_length] at HT HL
   simp only [List.take_length]
   have hTl := runT_le l
   obtain ⟨hokT, hrT⟩ := okT_run l
   have h8 := run8 l
   obtain ⟨T, hT⟩ : ∃ T, runT l = T := ⟨_, rfl⟩
   rw [hT] at HT hTl hokT hrT HL h8
   simp only [hT]
   have HTL := mkA (show T.length ≤ 40 by omega)
   have HOKT := mkA hokT
   have HRIT := mkA hrT
   have HG8 := mkA h8
   have HNE := mkA (okT_ne hokT)
   have HSN := mkA (fun (W : World) (h : Below wr.heap.size wr W) => snap_tab a b T W (HT.out.later h) (by omega) hokT)
   have HFL := mkA (show (T.map frT).length = T.length from List.length_map ..)
   have HX := mkA (Below.refl wr.heap.size wr)
   clear hT hTl hokT hrT h8 HC HZ
   go_wp2_with (first
    | (go_at_call 44; refine (HNW.out _).mono ?_; rintro e w5 ⟨a2, b2, rfl, hT, ha, hb1, hb⟩; have HU := mkA hT; have HBU := mkA (Nat.le_trans HX.out.size hb1); have n_X := mkA (zbS HX.out hb); clear hT ha hb1 hb HX HNW; have HX := n_X; clear n_X)
    | (go_at_call 54; refine (HSN.out _ HX.out).mono ?_; rintro e w6 ⟨v9, rfl, hR, hb⟩; obtain ⟨A9, c9, hv9, hc9, hC9⟩ := Kd.R_reads hR; rw [HFL.out] at hv9; subst hv9; have HR9 := mkA hR; have n_U := mkA (HU.out.later hb); have n_X := mkA (zbS HX.out hb); clear HX HU hb hR hC9 hc9 HSN; have HX := n_X; have HU := n_U; clear n_X n_U))
   have HTW := mkA (HT.out.later HX.out)
   have HLW := mkA (HL.out.later HX.out)
   have HBW := mkA (zbS HB.out HX.out)
   have HB6 := mkA (show wr.heap.size ≤ b2 from HBU.out)
   have HM6 := mkA HU.out.map
   go_loopw [148] (fun iv wr => ∃ (j : Nat), iv = .int .i64 j ∧ j ≤ T.length ∧ Aside0 (Tab wr a2 b2 (T.take j)) ∧ Aside0 (w6.grownBy wr (some b2))) (fun iv _ => T.length - (intOf iv).toNat)
   case atStart => exact ⟨0, rfl, Nat.zero_le _, HU, ⟨gb_below (Below.refl _ _)⟩⟩
   case round =>
    clear HU
    obtain ⟨j, rfl, hj, HU, HG⟩ := hrel
    by_cases hlt : j < T.length
    ·have hC9 := (Kd.R_reads' (fr_map HR9.out HM6.out HG.out)).2.2
     rw [HFL.out] at hC9
     obtain ⟨ad, hAd, hcs⟩ := at_fr hC9 j hlt hlt
     clear hC9
     subst hAd
     have hmay := HOKT.out T[j] (List.getElem_mem hlt)
     have hroom := room_next HRIT.out HNE.out HG8.out j hlt
     obtain ⟨ha1, ha2⟩ := app_com hmay hroom
     have hpn := put_next HRIT.out j hlt
     have HEZ := entS_size hmay
     have HAP := mkA (fun (W : World) (h : Tab W a2 b2 (T.take j)) => apply_tab a2 b2 (T.take j) 1 (entS T[j].k.g T[j].k.t T[j].k.p T[j].v) (by omega) W h (by rw [List.length_take]; have := HTL.out; omega))
     rw [ha1, ha2, hpn] at HAP
     obtain ⟨EN, hEN⟩ : ∃ EN, entS T[j].k.g T[j].k.t T[j].k.p T[j].v = EN := ⟨_, rfl⟩
     rw [hEN] at HAP hcs
     have HCS := mkA hcs
     clear hmay hroom ha1 ha2 hpn HEZ hEN hcs
     have HX := mkA (Below.refl wr.heap.size wr)
     have d1 : decide ((j : Int) < (T.length : Int)) = true := decide_eq_true (by omega)
     have d2 : (0 ≤ (j : Int)) = True := eq_true (by omega)
     have d3 : ((j : Int) < (T.length : Int)) = True := eq_true (by omega)
     have HWJ := mkA (show wrap64 ((j : Int) + 1) = (j : Int) + 1 from w64o _ (by omega) (by have := HTL.out; omega))
     go_wp2_with (first
      | ((with_reducible refine gate_dst (N := 151) rfl ?_); refine load_evm' (N := 151) rfl rfl rfl (cs := #[.int .i64 1, .string EN]) rfl HCS.out Try.underlying79 rfl (by kernel_rfl) ?_)
      | ((with_reducible refine gate_dst (N := 19) rfl ?_); refine box_event rfl (N := 19) rfl (cs := #[.int .i64 0, .string ⟨#[]⟩]) (t := 79) ?hr ?_; (case hr => first | (go_simp; done) | (go_simp; rfl)); intro g19 hg19 w7 hbx hbl; have G19 := mkA (show _ ≤ g19 by rw [hg19]; exact HX.out.size); have n_HX := mkA (zbS HX.out hbl); clear HX ; have HX := n_HX; clear n_HX; have Y19 := mkA hbx; clear hbx hbl hg19)
      | ((with_reducible refine gate_store (t := 79) (p := 19) rfl ?_); refine store_ev rfl rfl rfl (cells := #[.int .i64 1, .string EN]) rfl rfl Y19.out (by kernel_rfl) rfl (by kernel_rfl) ?_; intro w8 hbx hgr; have n_HX := mkA (below_put HX.out G19.out hgr HX.out.size); have n_Y19 := mkA (hbx); clear HX Y19 ; have HX := n_HX; have Y19 := n_Y19; clear n_HX n_Y19; clear hbx hgr)
      | ((with_reducible refine gate_dst (N := 153) rfl ?_); refine load_ev (N := 153) rfl rfl rfl (cs := #[.int .i64 1, .string EN]) rfl Y19.out Try.underlying79 rfl (by kernel_rfl) ?_)
      | (go_at_call 46; have hT6 := HU.out.later HX.out; refine (HAP.out _ hT6).mono ?_; rintro e w9 ⟨rfl, hT, hG⟩; have n_G := mkA (gb_trans (gb_trans HG.out (gb_below HX.out)) hG); have n_T := mkA hT; clear HU HG HX Y19 HAP hT6 hG hT; have HU := n_T; have HG := n_G; clear n_G n_T))
     have hwj := HWJ.out
     go_roundw
     case rel => exact ⟨j + 1, by first | rfl | (rw [hwj]; rfl), by omega, HU, HG⟩
     case measure => first | (rw [hwj]; simp [intOf]; omega) | (simp [intOf]; omega)
    ·obtain rfl : j = T.length := by omega
     have d1 : decide ((T.length : Int) < (T.length : Int)) = false := decide_eq_false (by omega)
     rw [List.take_length] at HU
     have HLZ := mkA (HLW.out.map HM6.out HG.out)
     have HX := mkA (below_put HBW.out (Nat.le_trans HB.out.size HB6.out) HG.out HBW.out.size)
     have HSM := mkA (same_tab a2 b2 T (by have := HTL.out; omega) HOKT.out AL cL wr HU.out HLZ.out.r HLZ.out.c)
     go_wp2_with (first
      | (go_at_call 53; refine (HSM.out).mono ?_; rintro e w7 ⟨rfl, hb⟩; have n_HX := mkA (zbS HX.out hb); clear HX ; have HX := n_HX; clear n_HX; clear hb HSM)
      | (go_at_call 43; refine (five_calls _).mono ?_; rintro e w8 ⟨rfl, hb⟩; have n_HX := mkA (zbS HX.out hb); clear HX ; have HX := n_HX; clear n_HX; clear hb))
     go_ret
     exact ⟨rfl, HX.out⟩
theorem acts_row (l : List Ac) (A : Option Addr) (n k : Nat) (y : Kc) (w : World) (hp : Acs k w A n l) (hk : okKc y) :
  Calls Try.prog 10 #[.slice A n k, .agg #[.string y.f0, .string y.f1, .int .i64 y.f2]] w fun e w' => e = .returned (.bool true) ∧ Below w.heap.size w w' := by
 cases h : largeA l with
 | true => exact acts_out l A n k _ _ _ w hp hk (.inl h)
 | false =>
  by_cases h1 : 100 < y.f0.size
  ·exact acts_out l A n k _ _ _ w hp hk (.inr ⟨h, .inl h1⟩)
  ·by_cases h2 : 100 < y.f1.size
   ·exact acts_out l A n k _ _ _ w hp hk (.inr ⟨h, .inr ⟨h1, h2⟩⟩)
   ·exact acts_in l A n k _ _ _ w hp hk h h1 h2
end Go.Proofs.Ytohhlkabejangaa.Of

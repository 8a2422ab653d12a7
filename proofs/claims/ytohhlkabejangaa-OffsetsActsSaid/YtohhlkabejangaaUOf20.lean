import Derived.Test.YtohhlkabejangaaUOfS
import Derived.Test.YtohhlkabejangaaUOf19
-- halved
namespace Go.Proofs.Ytohhlkabejangaa.Of
set_option linter.unusedVariables false
set_option linter.unusedSimpArgs false
open Go.RowKit Go.Maps Go.Sort Go.Lib Go.Shelf Go.Proofs.YtohhlkabejangaaW.PrintWords Go.Proofs.YtohhlkabejangaaW.PrintLast Go.Proofs.YtohhlkabejangaaW.PrintMore Go.Proofs.Ytohhlkabejangaa.POf Go.Proofs.Ytohhlkabejangaa.Wire
open Go.Proofs.YtohhlkabejangaaW.PrintWords.Aside0 renaming mk → mkA
open List renaming setIfInBounds_toArray → zsI, set_cons_zero → zs0, set_cons_succ → zs1
open Go.Proofs.YtohhlkabejangaaW.PrintWords renaming below_step → zbS
attribute [local go_sem high] eqA74 eqA79 eqA72
theorem at_row {w : World} {A : Option Addr} {n : Nat} {T : List Rw} (h : Kd.C k166 w A n (lS T)) (i : Nat) (hi : i < n) (hx : i < T.length) :
  ∃ ad, A = some ad ∧ (∀ (j : Nat) (u : Value), (#[.string T[i].k.g, .string T[i].k.t, .int .i64 T[i].k.p, .int .i64 T[i].v] : Array Value)[j]? = some u → w.cell? ((ad.add (i * 4)).add j) = some u) := by
 obtain ⟨ad, c, e, hs, hK, hc⟩ := Kd.C_get h z166 (i : Int) (by omega) (by omega)
 have hq := k166_open hK
 rw [Int.toNat_natCast] at hc hq
 have hgd : (lS T).getD i z166 = toS T[i] := by unfold lS; rw [List.getD_eq_getElem?_getD, List.getElem?_map, List.getElem?_eq_getElem hx]; rfl
 rw [hgd] at hq
 subst hq
 refine ⟨ad, e, fun j u hu => ?_⟩
 rw [Go.Deep.add_add]
 exact hc j u (by simpa [toS] using hu)
theorem at_key3 {W : World} {a : Option Addr} {ys : List Ky} (h : RowK W a ys) (i : Nat) (hi : i < ys.length) :
  ∃ ad, a = some ad ∧ W.cell? (ad.add (i * 3)) = some (.string ys[i].g) ∧ W.cell? ⟨(ad.add (i * 3)).block, (ad.add (i * 3)).off + 1, none⟩ = some (.string ys[i].t) ∧ W.cell? ⟨(ad.add (i * 3)).block, (ad.add (i * 3)).off + 2, none⟩ = some (.int .i64 ys[i].p) ∧
   (∀ (j : Nat) (u : Value), (encK ys[i]).toArray[j]? = some u → W.cell? ((ad.add (i * 3)).add j) = some u) := by
 obtain ⟨ad, rfl, hc⟩ := at_key h i hi
 obtain ⟨g, cur, e, hg, ht⟩ := h (fun e => by rw [e] at hi; simp at hi)
 obtain ⟨h0, h1, h2⟩ := rowK_at hg ht (List.getElem?_eq_getElem hi)
 obtain rfl := Option.some.inj e
 have e0 : (⟨g, 0, none⟩ : Addr).add (i * 3) = ⟨g, i * 3, none⟩ := by simp [Addr.add]; try omega
 refine ⟨_, rfl, ?_, ?_, ?_, hc⟩
 ·rw [e0]; exact h0
 ·rw [e0]; exact h1
 ·rw [e0]; exact h2
theorem rgroups_calls (T : List Rw) (hn : T.length ≤ 45) (hok : okT T) (A : Option Addr) (c : Nat) (W : World) (hC : Kd.C k166 W A T.length (lS T)) (hc : T.length ≤ c) :
  Calls Try.prog 106 #[.slice A T.length c] W fun e w' => e = .returned (.int .i64 (grpT T)) ∧ Below W.heap.size W w' := by
 have h := weighlockref24_Groups.calls 200 A c (lS T) (grpT T) W (by rw [lS_len]; exact hC) (by rw [lS_len]; exact hc) (rgroups_f T (by omega) (okT_ne hok) 200 (by omega))
 rw [lS_len] at h
 refine h.mono ?_
 rintro e w' h
 first
  | exact h
  | (obtain ⟨rfl, ⟨nd, rfl⟩⟩ := h; exact ⟨rfl, pw_below_drewN (Below.refl _ _) nd⟩)
theorem rsnap_calls (T : List Rw) (hn : T.length ≤ 45) (hok : okT T) (A : Option Addr) (c : Nat) (W : World) (hC : Kd.C k166 W A T.length (lS T)) (hc : T.length ≤ c) :
  Calls Try.prog 108 #[.slice A T.length c] W fun e w' => ∃ v, e = .returned v ∧ Kd.R k79 79 w' W.heap.size (fun _ => True) v (T.map frT) ∧ Below W.heap.size W w' := by
 have h := weighlockref24_Snapshot.calls 200 A c (lS T) (T.map frT) W (by rw [lS_len]; exact hC) (by rw [lS_len]; exact hc) (rsnap_f T (by omega) hok 200 (by omega))
 rw [lS_len] at h
 exact h
theorem rsame_calls (l : List Fr) (n : Nat) (hl : l.length = n) (hn : n ≤ 45) (A B : Option Addr) (c d : Nat) (W : World) (hC : Kd.C k79 W A n l) (hc : n ≤ c) (hD : Kd.C k79 W B n l) (hd : n ≤ d) :
  Calls Try.prog 107 #[.slice A n c, .slice B n d] W fun e w' => e = .returned (.bool true) ∧ Below W.heap.size W w' := by
 subst hl
 refine (weighlockref08_Same.calls 200 A c l B d l true W hC hc hD hd (rsame_f l (by omega))).mono ?_
 rintro e w' h
 first
  | exact h
  | (obtain ⟨rfl, ⟨nd, rfl⟩⟩ := h; exact ⟨rfl, pw_below_drewN (Below.refl _ _) nd⟩)
set_option maxHeartbeats 16000000 in
set_option maxRecDepth 100000 in
theorem same_tab (a b : Nat) (T : List Rw) (hn : T.length ≤ 45) (hok : okT T) (A : Option Addr) (c : Nat) (w : World) (h : Tab w a b T) (hC : Kd.C k166 w A T.length (lS T)) (hc : T.length ≤ c) :
  Calls Try.prog 53 #[.pointer (some ⟨a, 0, none⟩), .slice A T.length c] w fun e w' => e = .returned (.bool true) ∧ Below w.heap.size w w' := by
 have hund : ∀ b, some undef = some (Value.bool b) → False := fun b h => by simp [undef] at h
 have HKY := mkA (keys_tab a b T w h (by omega))
 have HGR := mkA (fun W (h2 : Below w.heap.size w W) => groups_tab a b T W (h.later h2) (by omega))
 have HRG := mkA (fun W (h2 : Below w.heap.size w W) => rgroups_calls T hn hok A c W (Kd.C_below hC h2) hc)
 have HSN := mkA (fun W (h2 : Below w.heap.size w W) => snap_tab a b T W (h.later h2) (by omega) hok)
 have HRS := mkA (fun W (h2 : Below w.heap.size w W) => rsnap_calls T hn hok A c W (Kd.C_below hC h2) hc)
 have HC := mkA hC
 have HT := mkA h
 have HRI := mkA h.ris
 have HOKS := mkA h.okk
 have HLEN := mkA (show (T.map (·.k)).length = T.length from List.length_map ..)
 obtain ⟨G, hG⟩ : ∃ G, grpT T = G := ⟨_, rfl⟩
 rw [hG] at HGR HRG
 have hgg : (G != G) = false := by simp
 have hll : ((T.length : Int) != (T.length : Int)) = false := by simp
 clear hG h hok hC hc
 have HX := mkA (Below.refl w.heap.size w)
 go_enter Try.func53, Try.ntmps53
 go_wp2_with (first
  | (go_at_call 47; refine HKY.out.mono ?_; rintro e w1 ⟨AK, cK, rfl, hR, hb⟩; have HR := mkA hR; have n_X := mkA (zbS HX.out hb); clear HX hb hR HKY; have HX := n_X; clear n_X)
  | (go_at_call 56; refine (HGR.out _ HX.out).mono ?_; rintro e w2 ⟨rfl, hb⟩; have n_R := mkA (HR.out.later hb); have n_X := mkA (zbS HX.out hb); clear HX HR hb HGR; have HX := n_X; have HR := n_R; clear n_X n_R)
  | (go_at_call 106; refine (HRG.out _ HX.out).mono ?_; rintro e w3 ⟨rfl, hb⟩; have n_R := mkA (HR.out.later hb); have n_X := mkA (zbS HX.out hb); clear HX HR hb HRG; have HX := n_X; have HR := n_R; clear n_X n_R))
 have HCW := mkA (Kd.C_below HC.out HX.out)
 have HTW := mkA (HT.out.later HX.out)
 go_loopw [26] (fun iv wr => ∃ (j : Nat), iv = .int .i64 j ∧ j ≤ T.length ∧ Aside0 (Below w3.heap.size w3 wr)) (fun iv _ => T.length - (intOf iv).toNat)
 case atStart => exact ⟨0, rfl, Nat.zero_le _, ⟨Below.refl _ _⟩⟩
 case round =>
  obtain ⟨j, rfl, hj, HX6⟩ := hrel
  by_cases hlt : j < T.length
  ·obtain ⟨ad, hAd, hcs⟩ := at_row (Kd.C_below HCW.out HX6.out) j hlt hlt
   obtain ⟨ad2, hAd2, hk0, hk1, hk2, hks⟩ := at_key3 (HR.out.later HX6.out) j (by rw [HLEN.out]; exact hlt)
   rw [List.getElem_map] at hk0 hk1 hk2 hks
   have HOK := mkA (HOKS.out T[j] (List.getElem_mem hlt))
   have HVM := valT_mem HRI.out (List.getElem_mem hlt)
   subst hAd hAd2
   have HX := mkA (Below.refl wr.heap.size wr)
   obtain ⟨y, hy⟩ : ∃ y, T[j] = y := ⟨_, rfl⟩
   simp only [hy] at hcs hk0 hk1 hk2 hks HOK HVM
   clear hy
   obtain ⟨⟨z0, z1, z2⟩, zv⟩ := y
   dsimp only at hk0 hk1 hk2
   have HCS := mkA hcs
   have HKS := mkA (show ∀ (j_1 : Nat) (u : Value), (#[.string z0, .string z1, .int .i64 z2] : Array Value)[j_1]? = some u → wr.cell? ((ad2.add (j * 3)).add j_1) = some u from hks)
   have HK0 := mkA hk0
   have HK1 := mkA hk1
   have HK2 := mkA hk2
   have HGT := mkA (fun (W : World) (h : Below w3.heap.size w3 W) => get_tab a b T z0 z1 z2 HOK.out W (HTW.out.later h))
   rw [HVM.1, HVM.2] at HGT
   clear hcs hks hk0 hk1 hk2 HVM
   have d1 : decide ((j : Int) < (T.length : Int)) = true := decide_eq_true (by omega)
   have d2 : (0 ≤ (j : Int)) = True := eq_true (by omega)
   have d3 : ((j : Int) < (T.length : Int)) = True := eq_true (by omega)
   have HWJ := mkA (show wrap64 ((j : Int) + 1) = (j : Int) + 1 from w64o _ (by omega) (by omega))
   have hvv : (zv != zv) = false := by simp
   go_upto_region 8 with (first
    | ((with_reducible refine gate_dst (N := 30) rfl ?_); refine load_evm' (N := 30) rfl rfl rfl (cs := #[.string z0, .string z1, .int .i64 z2, .int .i64 zv]) rfl HCS.out Try.underlying166 rfl (by kernel_rfl) ?_)
    | ((with_reducible refine gate_dst (N := 7) rfl ?_); refine box_event rfl (N := 7) rfl (cs := #[.string ⟨#[]⟩, .string ⟨#[]⟩, .int .i64 0, .int .i64 0]) (t := 166) ?hr ?_; (case hr => first | (go_simp; done) | (go_simp; rfl)); intro g7 hg7 w5 hbx hbl; have G7 := mkA (show _ ≤ g7 by rw [hg7]; exact HX.out.size); have n_HX := mkA (zbS HX.out hbl); clear HX ; have HX := n_HX; clear n_HX; have Y7 := mkA hbx; clear hbx hbl hg7)
    | ((with_reducible refine gate_store (t := 166) (p := 7) rfl ?_); refine store_ev rfl rfl rfl (cells := #[.string z0, .string z1, .int .i64 z2, .int .i64 zv]) rfl rfl Y7.out (by kernel_rfl) rfl (by kernel_rfl) ?_; intro w6 hbx hgr; have n_HX := mkA (below_put HX.out G7.out hgr HX.out.size); have n_Y7 := mkA (hbx); clear HX Y7 ; have HX := n_HX; have Y7 := n_Y7; clear n_HX n_Y7; clear hbx hgr)
    | ((with_reducible refine gate_dst (N := 36) rfl ?_); refine load_evm' (N := 36) rfl rfl rfl (cs := #[.string z0, .string z1, .int .i64 z2]) rfl (fun j_1 u hu => by have h9 := HKS.out j_1 u hu; exact (HX.out.cell (World.block_lt_of_cell? _ _ h9)).trans h9) Try.underlying74 rfl (by kernel_rfl) ?_)
    | (go_at_call 48; refine (HGT.out _ (zbS HX6.out HX.out)).mono ?_; rintro e w8 ⟨rfl, hb⟩; have YX := mkA ((hb.block g7 (blk_lt Y7.out)).trans Y7.out); have HX8 := mkA (zbS HX.out hb); clear HX hb HGT Y7))
   have hS := mkA (show (fun w' : World => w'.cell? (ad2.add (j * 3)) = some (.string z0) ∧ w'.cell? ⟨(ad2.add (j * 3)).block, (ad2.add (j * 3)).off + 1, none⟩ = some (.string z1) ∧ w'.cell? ⟨(ad2.add (j * 3)).block, (ad2.add (j * 3)).off + 2, none⟩ = some (.int .i64 z2) ∧ w'.cell? ⟨g7, 0, none⟩ = some (.string z0) ∧ w'.cell? ⟨g7, 1, none⟩ = some (.string z1) ∧ w'.cell? ⟨g7, 2, none⟩ = some (.int .i64 z2) ∧ w'.cell? ⟨g7, 3, none⟩ = some (.int .i64 zv)) w8 from ⟨(HX8.out.cell (World.block_lt_of_cell? _ _ HK0.out)).trans HK0.out, (HX8.out.cell (World.block_lt_of_cell? _ _ HK1.out)).trans HK1.out, (HX8.out.cell (World.block_lt_of_cell? _ _ HK2.out)).trans HK2.out, (blk_cell YX.out 0).trans rfl, (blk_cell YX.out 1).trans rfl, (blk_cell YX.out 2).trans rfl, (blk_cell YX.out 3).trans rfl⟩)
   refine start_ (n := 28) (S := fun w' => w'.cell? (ad2.add (j * 3)) = some (.string z0) ∧ w'.cell? ⟨(ad2.add (j * 3)).block, (ad2.add (j * 3)).off + 1, none⟩ = some (.string z1) ∧ w'.cell? ⟨(ad2.add (j * 3)).block, (ad2.add (j * 3)).off + 2, none⟩ = some (.int .i64 z2) ∧ w'.cell? ⟨g7, 0, none⟩ = some (.string z0) ∧ w'.cell? ⟨g7, 1, none⟩ = some (.string z1) ∧ w'.cell? ⟨g7, 2, none⟩ = some (.int .i64 z2) ∧ w'.cell? ⟨g7, 3, none⟩ = some (.int .i64 zv)) (ds := []) #[false, false, false, false, false, false, false, false, false, false, false, false, false, false, false, false, false, false, false, false, false, false, false, false, false, false, false, false] (by kernel_rfl) rfl rfl hS.out (fun _ => ?_)
   have n_hS := mkA (show (fun w' : World => w'.cell? (ad2.add (j * 3)) = some (.string z0) ∧ w'.cell? ⟨(ad2.add (j * 3)).block, (ad2.add (j * 3)).off + 1, none⟩ = some (.string z1) ∧ w'.cell? ⟨(ad2.add (j * 3)).block, (ad2.add (j * 3)).off + 2, none⟩ = some (.int .i64 z2) ∧ w'.cell? ⟨g7, 0, none⟩ = some (.string z0) ∧ w'.cell? ⟨g7, 1, none⟩ = some (.string z1) ∧ w'.cell? ⟨g7, 2, none⟩ = some (.int .i64 z2) ∧ w'.cell? ⟨g7, 3, none⟩ = some (.int .i64 zv)) w8.drew from hS.out)
   have n_HX8 := mkA (zbS HX8.out (below_drew1 (Below.refl _ _)))
   clear hS HX8
   have hS := n_hS
   have HX8 := n_HX8
   clear n_hS n_HX8
   generalize w8.drew = V0 at *
   refine pure_ (i := 0) (N := some 40) (v := ?_) (a' := ?_) #[true, false, false, false, false, false, false, false, false, false, false, false, false, false, false, false, false, false, false, false, false, false, false, false, false, false, false, false] rfl rfl (by kernel_rfl) (fun _ _ _ h => h) (Or.inl ⟨by rfl, ?_⟩) ?_ ?_
   rotate_left
   ·intro w'
    go_simp
    with_reducible rfl
   rotate_left
   ·simp only [Act.put, zsI, zs0, zs1]
    rfl
   refine pure_ (i := 1) (N := some 41) (v := ?_) (a' := ?_) #[true, true, false, false, false, false, false, false, false, false, false, false, false, false, false, false, false, false, false, false, false, false, false, false, false, false, false, false] rfl rfl (by kernel_rfl) (fun _ _ _ h => h) (Or.inl ⟨by rfl, ?_⟩) ?_ ?_
   rotate_left
   ·intro w'
    go_simp
    with_reducible rfl
   rotate_left
   ·simp only [Act.put, zsI, zs0, zs1]
    rfl
   refine pure_ (i := 2) (N := some 42) (v := ?_) (a' := ?_) #[true, true, true, false, false, false, false, false, false, false, false, false, false, false, false, false, false, false, false, false, false, false, false, false, false, false, false, false] rfl rfl (by kernel_rfl) (fun _ _ _ h => h) (Or.inl ⟨by rfl, ?_⟩) ?_ ?_
   rotate_left
   ·intro w'
    go_simp
    with_reducible rfl
   rotate_left
   ·simp only [Act.put, zsI, zs0, zs1]
    rfl
   refine pure_ (i := 3) (N := some 43) (v := ?_) (a' := ?_) #[true, true, true, true, false, false, false, false, false, false, false, false, false, false, false, false, false, false, false, false, false, false, false, false, false, false, false, false] rfl rfl (by kernel_rfl) (fun _ _ _ h => h) (Or.inl ⟨by rfl, ?_⟩) ?_ ?_
   rotate_left
   ·intro w'
    go_simp
    with_reducible rfl
   rotate_left
   ·simp only [Act.put, zsI, zs0, zs1]
    rfl
   refine pure_ (i := 4) (N := some 44) (v := ?_) (a' := ?_) #[true, true, true, true, true, false, false, false, false, false, false, false, false, false, false, false, false, false, false, false, false, false, false, false, false, false, false, false] rfl rfl (by kernel_rfl) (fun _ _ _ h => h) (Or.inl ⟨by rfl, ?_⟩) ?_ ?_
   rotate_left
   ·intro w'
    go_simp
    with_reducible rfl
   rotate_left
   ·simp only [Act.put, zsI, zs0, zs1]
    rfl
   refine take_ (i := 5) (N := some 45) (v := ?_) (a' := ?_) #[true, true, true, true, true, true, false, false, false, false, false, false, false, false, false, false, false, false, false, false, false, false, false, false, false, false, false, false] rfl rfl (by kernel_rfl) (fun _ _ _ h => h) (Or.inl ⟨by rfl, ?_⟩) hS.out ?_ ?_
   rotate_left
   ·intro w' hS
    obtain ⟨h1, h2, h3, h4, h5, h6, h7⟩ := hS
    go_simp
    with_reducible rfl
   rotate_left
   ·simp only [Act.put, zsI, zs0, zs1]
    rfl
   refine pure_ (i := 6) (N := some 46) (v := ?_) (a' := ?_) #[true, true, true, true, true, true, true, false, false, false, false, false, false, false, false, false, false, false, false, false, false, false, false, false, false, false, false, false] rfl rfl (by kernel_rfl) (fun _ _ _ h => h) (Or.inl ⟨by rfl, ?_⟩) ?_ ?_
   rotate_left
   ·intro w'
    go_simp
    with_reducible rfl
   rotate_left
   ·simp only [Act.put, zsI, zs0, zs1]
    rfl
   refine pure_ (i := 7) (N := some 47) (v := ?_) (a' := ?_) #[true, true, true, true, true, true, true, true, false, false, false, false, false, false, false, false, false, false, false, false, false, false, false, false, false, false, false, false] rfl rfl (by kernel_rfl) (fun _ _ _ h => h) (Or.inl ⟨by rfl, ?_⟩) ?_ ?_
   rotate_left
   ·intro w'
    go_simp
    with_reducible rfl
   rotate_left
   ·simp only [Act.put, zsI, zs0, zs1]
    rfl
   refine pure_ (i := 8) (N := some 48) (v := ?_) (a' := ?_) #[true, true, true, true, true, true, true, true, true, false, false, false, false, false, false, false, false, false, false, false, false, false, false, false, false, false, false, false] rfl rfl (by kernel_rfl) (fun _ _ _ h => h) (Or.inl ⟨by rfl, ?_⟩) ?_ ?_
   rotate_left
   ·intro w'
    go_simp
    with_reducible rfl
   rotate_left
   ·simp only [Act.put, zsI, zs0, zs1]
    rfl
   refine pure_ (i := 9) (N := some 49) (v := ?_) (a' := ?_) #[true, true, true, true, true, true, true, true, true, true, false, false, false, false, false, false, false, false, false, false, false, false, false, false, false, false, false, false] rfl rfl (by kernel_rfl) (fun _ _ _ h => h) (Or.inl ⟨by rfl, ?_⟩) ?_ ?_
   rotate_left
   ·intro w'
    go_simp
    with_reducible rfl
   rotate_left
   ·simp only [Act.put, zsI, zs0, zs1]
    rfl
   refine pure_ (i := 10) (N := some 50) (v := ?_) (a' := ?_) #[true, true, true, true, true, true, true, true, true, true, true, false, false, false, false, false, false, false, false, false, false, false, false, false, false, false, false, false] rfl rfl (by kernel_rfl) (fun _ _ _ h => h) (Or.inl ⟨by rfl, ?_⟩) ?_ ?_
   rotate_left
   ·intro w'
    go_simp
    with_reducible rfl
   rotate_left
   ·simp only [Act.put, zsI, zs0, zs1]
    rfl
   refine pure_ (i := 11) (N := some 51) (v := ?_) (a' := ?_) #[true, true, true, true, true, true, true, true, true, true, true, true, false, false, false, false, false, false, false, false, false, false, false, false, false, false, false, false] rfl rfl (by kernel_rfl) (fun _ _ _ h => h) (Or.inl ⟨by rfl, ?_⟩) ?_ ?_
   rotate_left
   ·intro w'
    go_simp
    with_reducible rfl
   rotate_left
   ·simp only [Act.put, zsI, zs0, zs1]
    rfl
   refine pure_ (i := 12) (N := some 52) (v := ?_) (a' := ?_) #[true, true, true, true, true, true, true, true, true, true, true, true, true, false, false, false, false, false, false, false, false, false, false, false, false, false, false, false] rfl rfl (by kernel_rfl) (fun _ _ _ h => h) (Or.inl ⟨by rfl, ?_⟩) ?_ ?_
   rotate_left
   ·intro w'
    go_simp
    with_reducible rfl
   rotate_left
   ·simp only [Act.put, zsI, zs0, zs1]
    rfl
   refine take_ (i := 13) (N := some 53) (v := ?_) (a' := ?_) #[true, true, true, true, true, true, true, true, true, true, true, true, true, true, false, false, false, false, false, false, false, false, false, false, false, false, false, false] rfl rfl (by kernel_rfl) (fun _ _ _ h => h) (Or.inl ⟨by rfl, ?_⟩) hS.out ?_ ?_
   rotate_left
   ·intro w' hS
    obtain ⟨h1, h2, h3, h4, h5, h6, h7⟩ := hS
    go_simp
    with_reducible rfl
   rotate_left
   ·simp only [Act.put, zsI, zs0, zs1]
    rfl
   refine pure_ (i := 14) (N := some 54) (v := ?_) (a' := ?_) #[true, true, true, true, true, true, true, true, true, true, true, true, true, true, true, false, false, false, false, false, false, false, false, false, false, false, false, false] rfl rfl (by kernel_rfl) (fun _ _ _ h => h) (Or.inl ⟨by rfl, ?_⟩) ?_ ?_
   rotate_left
   ·intro w'
    go_simp
    with_reducible rfl
   rotate_left
   ·simp only [Act.put, zsI, zs0, zs1]
    rfl
   refine take_ (i := 15) (N := some 55) (v := ?_) (a' := ?_) #[true, true, true, true, true, true, true, true, true, true, true, true, true, true, true, true, false, false, false, false, false, false, false, false, false, false, false, false] rfl rfl (by kernel_rfl) (fun _ _ _ h => h) (Or.inl ⟨by rfl, ?_⟩) hS.out ?_ ?_
   rotate_left
   ·intro w' hS
    obtain ⟨h1, h2, h3, h4, h5, h6, h7⟩ := hS
    go_simp
    with_reducible rfl
   rotate_left
   ·simp only [Act.put, zsI, zs0, zs1]
    rfl
   refine pure_ (i := 16) (N := some 56) (v := ?_) (a' := ?_) #[true, true, true, true, true, true, true, true, true, true, true, true, true, true, true, true, true, false, false, false, false, false, false, false, false, false, false, false] rfl rfl (by kernel_rfl) (fun _ _ _ h => h) (Or.inl ⟨by rfl, ?_⟩) ?_ ?_
   rotate_left
   ·intro w'
    go_simp
    with_reducible rfl
   rotate_left
   ·simp only [Act.put, zsI, zs0, zs1]
    rfl
   refine pure_ (i := 17) (N := some 57) (v := ?_) (a' := ?_) #[true, true, true, true, true, true, true, true, true, true, true, true, true, true, true, true, true, true, false, false, false, false, false, false, false, false, false, false] rfl rfl (by kernel_rfl) (fun _ _ _ h => h) (Or.inl ⟨by rfl, ?_⟩) ?_ ?_
   rotate_left
   ·intro w'
    go_simp
    with_reducible rfl
   rotate_left
   ·simp only [Act.put, zsI, zs0, zs1]
    rfl
   refine pure_ (i := 18) (N := some 58) (v := ?_) (a' := ?_) #[true, true, true, true, true, true, true, true, true, true, true, true, true, true, true, true, true, true, true, false, false, false, false, false, false, false, false, false] rfl rfl (by kernel_rfl) (fun _ _ _ h => h) (Or.inl ⟨by rfl, ?_⟩) ?_ ?_
   rotate_left
   ·intro w'
    go_simp
    with_reducible rfl
   rotate_left
   ·simp only [Act.put, zsI, zs0, zs1]
    rfl
   refine pure_ (i := 19) (N := some 59) (v := ?_) (a' := ?_) #[true, true, true, true, true, true, true, true, true, true, true, true, true, true, true, true, true, true, true, true, false, false, false, false, false, false, false, false] rfl rfl (by kernel_rfl) (fun _ _ _ h => h) (Or.inl ⟨by rfl, ?_⟩) ?_ ?_
   rotate_left
   ·intro w'
    go_simp
    with_reducible rfl
   rotate_left
   ·simp only [Act.put, zsI, zs0, zs1]
    rfl
   refine pure_ (i := 20) (N := some 60) (v := ?_) (a' := ?_) #[true, true, true, true, true, true, true, true, true, true, true, true, true, true, true, true, true, true, true, true, true, false, false, false, false, false, false, false] rfl rfl (by kernel_rfl) (fun _ _ _ h => h) (Or.inl ⟨by rfl, ?_⟩) ?_ ?_
   rotate_left
   ·intro w'
    go_simp
    with_reducible rfl
   rotate_left
   ·simp only [Act.put, zsI, zs0, zs1]
    rfl
   refine pure_ (i := 21) (N := some 61) (v := ?_) (a' := ?_) #[true, true, true, true, true, true, true, true, true, true, true, true, true, true, true, true, true, true, true, true, true, true, false, false, false, false, false, false] rfl rfl (by kernel_rfl) (fun _ _ _ h => h) (Or.inl ⟨by rfl, ?_⟩) ?_ ?_
   rotate_left
   ·intro w'
    go_simp
    with_reducible rfl
   rotate_left
   ·simp only [Act.put, zsI, zs0, zs1]
    rfl
   refine pure_ (i := 22) (N := some 62) (v := ?_) (a' := ?_) #[true, true, true, true, true, true, true, true, true, true, true, true, true, true, true, true, true, true, true, true, true, true, true, false, false, false, false, false] rfl rfl (by kernel_rfl) (fun _ _ _ h => h) (Or.inl ⟨by rfl, ?_⟩) ?_ ?_
   rotate_left
   ·intro w'
    go_simp
    with_reducible rfl
   rotate_left
   ·simp only [Act.put, zsI, zs0, zs1]
    rfl
   refine take_ (i := 23) (N := some 63) (v := ?_) (a' := ?_) #[true, true, true, true, true, true, true, true, true, true, true, true, true, true, true, true, true, true, true, true, true, true, true, true, false, false, false, false] rfl rfl (by kernel_rfl) (fun _ _ _ h => h) (Or.inl ⟨by rfl, ?_⟩) hS.out ?_ ?_
   rotate_left
   ·intro w' hS
    obtain ⟨h1, h2, h3, h4, h5, h6, h7⟩ := hS
    go_simp
    with_reducible rfl
   rotate_left
   ·simp only [Act.put, zsI, zs0, zs1]
    rfl
   refine pure_ (i := 24) (N := some 64) (v := ?_) (a' := ?_) #[true, true, true, true, true, true, true, true, true, true, true, true, true, true, true, true, true, true, true, true, true, true, true, true, true, false, false, false] rfl rfl (by kernel_rfl) (fun _ _ _ h => h) (Or.inl ⟨by rfl, ?_⟩) ?_ ?_
   rotate_left
   ·intro w'
    go_simp
    with_reducible rfl
   rotate_left
   ·simp only [Act.put, zsI, zs0, zs1]
    rfl
   refine take_ (i := 25) (N := some 65) (v := ?_) (a' := ?_) #[true, true, true, true, true, true, true, true, true, true, true, true, true, true, true, true, true, true, true, true, true, true, true, true, true, true, false, false] rfl rfl (by kernel_rfl) (fun _ _ _ h => h) (Or.inl ⟨by rfl, ?_⟩) hS.out ?_ ?_
   rotate_left
   ·intro w' hS
    obtain ⟨h1, h2, h3, h4, h5, h6, h7⟩ := hS
    go_simp
    with_reducible rfl
   rotate_left
   ·simp only [Act.put, zsI, zs0, zs1]
    rfl
   refine pure_ (i := 26) (N := some 66) (v := ?_) (a' := ?_) #[true, true, true, true, true, true, true, true, true, true, true, true, true, true, true, true, true, true, true, true, true, true, true, true, true, true, true, false] rfl rfl (by kernel_rfl) (fun _ _ _ h => h) (Or.inl ⟨by rfl, ?_⟩) ?_ ?_
   rotate_left
   ·intro w'
    go_simp
    with_reducible rfl
   rotate_left
   ·simp only [Act.put, zsI, zs0, zs1]
    rfl
   refine pure_ (i := 27) (N := some 67) (v := ?_) (a' := ?_) #[true, true, true, true, true, true, true, true, true, true, true, true, true, true, true, true, true, true, true, true, true, true, true, true, true, true, true, true] rfl rfl (by kernel_rfl) (fun _ _ _ h => h) (Or.inl ⟨by rfl, ?_⟩) ?_ ?_
   rotate_left
   ·intro w'
    go_simp
    with_reducible rfl
   rotate_left
   ·simp only [Act.put, zsI, zs0, zs1]
    rfl
   refine done_ (by kernel_rfl) ?_
   go_wp2_with fail
   have HX6b := mkA (zbS HX6.out HX8.out)
   have hwj := HWJ.out
   go_roundw
   case rel => exact ⟨j + 1, by first | rfl | rw [hwj]; rfl, by omega, HX6b⟩
   case measure => first | (rw [hwj]; simp [intOf]; omega) | (simp [intOf]; omega)
  ·obtain rfl : j = T.length := by omega
   have d1 : decide ((T.length : Int) < (T.length : Int)) = false := decide_eq_false (by omega)
   have n_X := mkA (zbS HX.out HX6.out)
   have HFL := mkA (show (T.map frT).length = T.length from List.length_map ..)
   clear HX HX6 HCW HTW HR
   have HX := n_X
   clear n_X
   go_wp2_with (first
    | (go_at_call 54; refine (HSN.out _ HX.out).mono ?_; rintro e w9 ⟨v9, rfl, hR, hb⟩; obtain ⟨A9, c9, hv9, hc9, hC9⟩ := Kd.R_reads hR; rw [HFL.out] at hv9 hc9 hC9; subst hv9; have HC9 := mkA hC9; have HCC := mkA hc9; have n_X := mkA (zbS HX.out hb); clear HX hb hR hC9 hc9 HSN; have HX := n_X; clear n_X)
    | (go_at_call 108; refine (HRS.out _ HX.out).mono ?_; rintro e w10 ⟨v10, rfl, hR, hb⟩; obtain ⟨B9, d9, hv9, hd9, hD9⟩ := Kd.R_reads hR; rw [HFL.out] at hv9 hd9 hD9; subst hv9; have n_C := mkA (Kd.C_below HC9.out hb); have HD9 := mkA hD9; have HDD := mkA hd9; have n_X := mkA (zbS HX.out hb); clear HX hb hR hD9 hd9 HRS HC9; have HX := n_X; have HC9 := n_C; clear n_X n_C)
    | (go_at_call 107; refine (rsame_calls (T.map frT) T.length HFL.out hn _ _ _ _ _ HC9.out HCC.out HD9.out HDD.out).mono ?_; rintro e w11 ⟨rfl, hb⟩; have n_X := mkA (zbS HX.out hb); clear HX hb HC9 HD9; have HX := n_X; clear n_X))
   go_ret
   exact ⟨rfl, HX.out⟩
end Go.Proofs.Ytohhlkabejangaa.Of

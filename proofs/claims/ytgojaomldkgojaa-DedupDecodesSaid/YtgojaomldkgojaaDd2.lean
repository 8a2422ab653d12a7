import Derived.Test.YtgojaomldkgojaaDd1
import Derived.Test.YtgojaomldkgojaaIterI
import Derived.Test.YtgojaomldkgojaaCm0
import Derived.Test.YtgojaomldkgojaaPureGenC
namespace Go.Proofs.Ytgojaomldkgojaa.Dd
set_option linter.unusedVariables false
set_option linter.unusedSimpArgs false
open Go.RowKit Go.Maps Go.Sort Go.Proofs.YtgojaomldkgojaaW.PrintWords Go.Proofs.YtgojaomldkgojaaW.PrintLast Go.Proofs.YtgojaomldkgojaaW.PrintMore Go.Proofs.Ytgojaomldkgojaa.PDd Go.Proofs.Ytgojaomldkgojaa.Wire Go.Proofs.Ytgojaomldkgojaa.Hand Go.Proofs.Ytgojaomldkgojaa.PureNums
theorem find_at (l : List La) (h : Ris l) (i : Nat) (hi : i < l.length) : findL l l[i].f0 = some l[i] := by
  induction l generalizing i with
  | nil => exact absurd hi (Nat.not_lt_zero _)
  | cons y l ih =>
    obtain ⟨h1, h2⟩ := List.pairwise_cons.1 h
    cases i with
    | zero => unfold findL; rw [List.find?_cons_of_pos (by simp)]; rfl
    | succ i =>
      have hi' : i < l.length := by simpa using hi
      have := h1 l[i] (List.getElem_mem hi')
      rw [List.getElem_cons_succ]
      unfold findL
      rw [List.find?_cons_of_neg (by simp; omega)]
      exact ih h2 i hi'
theorem look_at (l : List La) (h : Ris l) (i : Nat) (hi : i < l.length) : lookL l l[i].f0 = (l[i].f1, l[i].f2, l[i].f3) := by
  unfold lookL
  rw [find_at l h i hi]
theorem keys_eq (l : List La) (h : Ris l) (ss : List Int) (hs : ss.Perm (intKeys (datL l))) : ss.mergeSort (fun x y => decide (x ≤ y)) = l.map (·.f0) := by
  have e : intKeys (datL l) = l.map (·.f0) := by
    unfold intKeys datL
    simp only [List.map_map]
    rfl
  rw [e] at hs
  have hr : (l.map (·.f0)).Pairwise (fun a b => a < b) := by
    rw [List.pairwise_map]
    exact h
  have hperm := (List.mergeSort_perm ss (fun x y => decide (x ≤ y))).trans hs
  have hnd : (ss.mergeSort (fun x y => decide (x ≤ y))).Nodup := hperm.nodup_iff.2 (hr.imp (fun h => by omega))
  have hso : (ss.mergeSort (fun x y => decide (x ≤ y))).Pairwise (fun a b => decide (a ≤ b) = true) := List.pairwise_mergeSort (fun a b c h1 h2 => by
    simp only [decide_eq_true_eq] at *
    omega) (fun a b => by
    simp only [Bool.or_eq_true, decide_eq_true_eq]
    omega) ss
  have hst : (ss.mergeSort (fun x y => decide (x ≤ y))).Pairwise (fun a b => a < b) := by
    refine (hso.and hnd).imp ?_
    rintro a b ⟨h1, h2⟩
    simp only [decide_eq_true_eq] at h1
    omega
  exact Cm.rising_eq id (fun a b => a < b) (fun k h => by omega) (fun a b h1 h2 => by omega) _ _ hst hr (fun z => hperm.mem_iff)
theorem ints_C {W : World} {g t : Nat} (xs : List Int) (hm : xs.length ≤ 1000) (h : W.heap[g]? = some (.cells (xs.map (Value.int .i64)).toArray t (0, 0))) : Kd.C (Kd.int .i64) W (some ⟨g, 0, none⟩) xs.length xs := by
  refine ⟨rfl, by omega, fun _ => ⟨⟨g, 0, none⟩, rfl, fun j q hj => ⟨[.int .i64 q], rfl, rfl, fun i u hu => ?_⟩⟩⟩
  cases i with
  | zero =>
    obtain rfl := Option.some.inj hu
    have e : j * (Kd.int .i64).sz + 0 = j := by show j * 1 + 0 = j; omega
    rw [e]
    have e2 : (⟨g, 0, none⟩ : Addr).add j = ⟨g, j, none⟩ := by
      simp [Addr.add]
      omega
    rw [e2, blk_cell h j, List.getElem?_toArray, List.getElem?_map, hj]
    rfl
  | succ i => simp at hu
theorem at_int {w : World} {A : Option Addr} {n : Nat} {xs : List Int} (h : Kd.C (Kd.int .i64) w A n xs) (i : Nat) (hi : i < n) (hx : i < xs.length) :
    ∃ ad, A = some ad ∧ w.cell? (ad.add i) = some (.int .i64 xs[i]) := by
  obtain ⟨ad, c, hA, _, hK, hc⟩ := Kd.C_get h xs[i] (i : Int) (by omega) (by omega)
  rw [Int.toNat_natCast] at hK hc
  have e : xs.getD i xs[i] = xs[i] := by rw [List.getD_eq_getElem?_getD, List.getElem?_eq_getElem hx]; rfl
  rw [e] at hK
  obtain rfl : c = [.int .i64 xs[i]] := hK
  refine ⟨ad, hA, ?_⟩
  have h9 := hc 0 _ rfl
  rw [show i * (Kd.int .i64).sz + 0 = i from by show i * 1 + 0 = i; omega] at h9
  exact h9
set_option maxHeartbeats 16000000 in
set_option maxRecDepth 100000 in
theorem producers_nil (w : World) : Calls Try.prog 28 #[.pointer none] w fun e w' => e = .returned (.slice none 0 0) ∧ Below w.heap.size w w' := by
  go_enter Try.func28, Try.ntmps28
  go_wp2_with fail
  go_ret
  exact ⟨rfl, Below.refl _ _⟩
set_option maxHeartbeats 16000000 in
set_option maxRecDepth 100000 in
theorem producers_calls (g b : Nat) (l : List La) (w : World) (hT : Tab w g b l) (hl : l.length ≤ 1000) :
    Calls Try.prog 28 #[.pointer (some ⟨g, 0, none⟩)] w fun e w' => ∃ u, e = .returned u ∧ Kd.R (Kd.int .i64) 3 w' w.heap.size (fun _ => True) u (l.map (·.f0)) ∧ Below w.heap.size w w' := by
  have hc := hT.cell0
  have HT := Aside0.mk hT
  clear hT
  go_enter Try.func28, Try.ntmps28
  go_wp2_with fail
  refine (callsIn_wide.1 (Try.keysI (some b) w)).mono ?_
  rintro e w1 ⟨rfl, rfl⟩
  go_wp2_with fail
  have hsz : Maps.size (datL l) = l.length := List.length_map _
  refine (callsIn_wide.1 (Try.sortedI b l.length (datL l) _ w HT.out.own (by unfold maxLen; omega) (by omega))).mono ?_
  rintro e w2 ⟨v, ss, rfl, hS, hrow, hnil, hb2⟩
  have RS := Kd.R_of_own (enc := Value.int .i64) (h1 := fun _ => rfl) (e := 3) (ok := fun _ => True) (xs := ss.mergeSort (fun x y => decide (x ≤ y))) (by rw [List.length_mergeSort]; exact hrow) (fun _ _ => trivial)
  rw [keys_eq l HT.out.ris ss hS] at RS
  have HB := Aside0.mk (below_step (below_alloc (Below.refl _ _) (.cells #[.map (some b)] 90)) hb2)
  have HR := Aside0.mk (Kd.R_lower RS (show w.heap.size ≤ (w.alloc (.cells #[.map (some b)] 90)).heap.size from by simp))
  clear RS hS hrow hnil hb2
  go_wp2_with fail
  refine bodyPost_ret (results_tmp rfl _ _ _) rfl ?_
  exact ⟨_, rfl, HR.out, HB.out⟩
/-- a number as a chain -/
def chN (n : Int) : ByteArray := strOfNums (chainF 10 n)
def chs (ns : List Int) : ByteArray := ns.foldl (fun s n => s ++ chN n) ⟨#[]⟩
def okN (n : Int) : Prop := 0 ≤ n ∧ n ≤ 9223372036854775807
theorem chN_size {n : Int} (h : okN n) : (chN n).size ≤ 10 := chain_size n h.1 (by have := h.2; omega)
theorem chN_f {n : Int} (h : okN n) : nums_Chain.f (IntKind.u64.wrap n) = some (chN n) := by
  rw [wu64 n h.1 (by have := h.2; omega)]
  exact chain_f n h.1 (by have := h.2; omega)
theorem fold_size (ns : List Int) (h : ∀ n ∈ ns, okN n) (acc : ByteArray) : (ns.foldl (fun s n => s ++ chN n) acc).size ≤ acc.size + 10 * ns.length := by
  induction ns generalizing acc with
  | nil => simp
  | cons n ns ih =>
    have h1 := chN_size (h n List.mem_cons_self)
    have h2 := ih (fun m hm => h m (List.mem_cons_of_mem _ hm)) (acc ++ chN n)
    rw [List.foldl_cons, List.length_cons]
    rw [ByteArray.size_append] at h2
    omega
theorem chains_loop (ns : List Int) (h : ∀ n ∈ ns, okN n) (hl : ns.length ≤ 1000) : ∀ (d i k : Nat) (acc : ByteArray), i + d = ns.length → d < k → acc.size ≤ 10 * i →
    dedup_chains.l0 k acc ns (ns.length : Int) (i : Int) = some ((ns.drop i).foldl (fun s n => s ++ chN n) acc)
  | 0, i, k, acc, hi, hk, hs => by
    obtain ⟨k, rfl⟩ : ∃ k', k = k' + 1 := ⟨k - 1, by omega⟩
    rw [dedup_chains.l0, if_neg (by omega), List.drop_eq_nil_of_le (by omega)]
    rfl
  | d + 1, i, k, acc, hi, hk, hs => by
    obtain ⟨k, rfl⟩ : ∃ k', k = k' + 1 := ⟨k - 1, by omega⟩
    have hin : i < ns.length := by omega
    have hrd : Go.Proofs.YtgojaomldkgojaaW.PrintWords.rd ns (i : Int) = ns[i] := by
      unfold Go.Proofs.YtgojaomldkgojaaW.PrintWords.rd
      rw [Int.toNat_natCast, List.getD_eq_getElem?_getD, List.getElem?_eq_getElem hin]
      rfl
    have hok := h ns[i] (List.getElem_mem hin)
    have hsz := chN_size hok
    rw [dedup_chains.l0, if_pos (by omega), if_pos (by omega), if_pos (by omega), hrd, chN_f hok, Option.bind_some, if_pos (by omega), w64 _ (by omega) (by omega), List.drop_eq_getElem_cons hin, List.foldl_cons]
    exact chains_loop ns h hl d (i + 1) k (acc ++ chN ns[i]) (by omega) (by omega) (by rw [ByteArray.size_append]; omega)
theorem chains_f (ns : List Int) (h : ∀ n ∈ ns, okN n) (hl : ns.length ≤ 1000) : dedup_chains.f 1001 ns = some (chs ns) := by
  unfold dedup_chains.f
  have := chains_loop ns h hl ns.length 0 1001 ⟨#[]⟩ (by omega) (by omega) (by show 0 ≤ _; omega)
  exact this
theorem chains_calls (A : Option Addr) (c : Nat) (ns : List Int) (h : ∀ n ∈ ns, okN n) (hl : ns.length ≤ 1000) (hc : ns.length ≤ c) (w : World) (hA : Kd.C (Kd.int .i64) w A ns.length ns) :
    Calls Try.prog 55 #[.slice A ns.length c] w fun e w' => e = .returned (.string (chs ns)) ∧ Below w.heap.size w w' :=
  dedup_chains.calls 1001 A c ns (chs ns) w hA hc (chains_f ns h hl)
theorem nil_app (s : ByteArray) : (⟨#[]⟩ : ByteArray) ++ s = s := by
  apply ByteArray.ext
  rw [ByteArray.data_append]
  simp
theorem chs_acc (ns : List Int) (acc : ByteArray) : ns.foldl (fun s n => s ++ chN n) acc = acc ++ chs ns := by
  unfold chs
  induction ns generalizing acc with
  | nil => exact (str_nil_append acc).symm
  | cons n ns ih =>
    rw [List.foldl_cons, List.foldl_cons, ih (acc ++ chN n), ih (⟨#[]⟩ ++ chN n), nil_app, ByteArray.append_assoc]
def one4 (x : La) : List Int := [x.f0, x.f1, x.f2, x.f3]
def encS (s : ByteArray) (x : La) : ByteArray := s ++ chs (one4 x)
/-- a table as bytes -/
def encL (l : List La) : ByteArray := l.foldl encS (chs [(l.length : Int)])
theorem okL_nums {x : La} (h : okL x) : ∀ n ∈ one4 x, okN n := by
  have h1 := of_decide_eq_true h.1
  have h2 := h.2
  intro n hn
  unfold okN
  simp only [one4, List.mem_cons, List.not_mem_nil, or_false] at hn
  rcases hn with rfl | rfl | rfl | rfl <;> omega
theorem chs_size (ns : List Int) (h : ∀ n ∈ ns, okN n) : (chs ns).size ≤ 10 * ns.length := by
  have := fold_size ns h ⟨#[]⟩
  have e : (⟨#[]⟩ : ByteArray).size = 0 := rfl
  unfold chs
  omega
set_option maxHeartbeats 16000000 in
set_option maxRecDepth 100000 in
theorem encode_nil (w : World) : Calls Try.prog 30 #[.pointer none] w fun e w' => e = .returned (.string (chs [0])) ∧ Below w.heap.size w w' := by
  go_enter Try.func30, Try.ntmps30
  go_wp2_with fail
  refine (producers_nil w).mono ?_
  rintro e w1 ⟨rfl, hb⟩
  have HB := Aside0.mk hb
  clear hb
  go_wp2_with fail
  obtain ⟨w2, hw2⟩ : ∃ W, w1.alloc (.cells #[.int .i64 0] 3) = W := ⟨_, rfl⟩
  have HC : Aside0 (Kd.C (Kd.int .i64) w2 (some ⟨w1.heap.size, 0, none⟩) 1 [0]) := ⟨ints_C [0] (by decide) (by rw [← hw2]; exact blk_new w1 _)⟩
  have HB2 : Aside0 (Below w.heap.size w w2) := ⟨by rw [← hw2]; exact below_alloc HB.out _⟩
  rw [hw2]
  clear hw2 HB
  refine (chains_calls (some ⟨w1.heap.size, 0, none⟩) 1 [0] (fun n hn => by rw [List.mem_singleton.1 hn]; exact ⟨by decide, by decide⟩) (by decide) (by decide) w2 HC.out).mono ?_
  rintro e w3 ⟨rfl, hb⟩
  have HB3 := Aside0.mk (below_step HB2.out hb)
  clear hb HB2 HC
  go_wp2_with fail
  go_loopw [4, 6, 7, 16] (fun sv av bv iv wr => sv = .string (chs [0]) ∧ iv = .int .i64 0 ∧ Aside0 (Below w.heap.size w wr)) (fun _ _ _ _ _ => 0)
  case atStart => exact ⟨rfl, rfl, HB3⟩
  case round =>
    obtain ⟨rfl, rfl, HB4⟩ := hrel
    go_wp2_with fail
    go_ret
    exact ⟨rfl, HB4.out⟩
set_option maxHeartbeats 16000000 in
set_option maxRecDepth 100000 in
theorem encode_calls (g b : Nat) (l : List La) (w : World) (hT : Tab w g b l) (hl : l.length ≤ 1000) :
    Calls Try.prog 30 #[.pointer (some ⟨g, 0, none⟩)] w fun e w' => e = .returned (.string (encL l)) ∧ Below w.heap.size w w' := by
  have HT := Aside0.mk hT
  clear hT
  have hlm : (l.map (·.f0)).length = l.length := List.length_map _
  go_enter Try.func30, Try.ntmps30
  go_wp2_with fail
  refine (producers_calls g b l w HT.out hl).mono ?_
  rintro e w1 ⟨u, rfl, hR, hb⟩
  have HB := Aside0.mk hb
  obtain ⟨A1, c1, hu, hc1, hC⟩ := Kd.R_reads hR
  rw [hlm] at hu
  subst hu
  have HP := Aside0.mk hC
  clear hR hb hC hc1
  go_wp2_with fail
  obtain ⟨w2, hw2⟩ : ∃ W, w1.alloc (.cells #[.int .i64 (l.length : Int)] 3) = W := ⟨_, rfl⟩
  have HC : Aside0 (Kd.C (Kd.int .i64) w2 (some ⟨w1.heap.size, 0, none⟩) 1 [(l.length : Int)]) := ⟨ints_C [(l.length : Int)] (by simp) (by rw [← hw2]; exact blk_new w1 _)⟩
  have hb2 : Below w1.heap.size w1 w2 := by rw [← hw2]; exact below_alloc (Below.refl _ _) _
  have HB2 := Aside0.mk (below_step HB.out hb2)
  have HP2 := Aside0.mk (Kd.C_below HP.out hb2)
  rw [hw2]
  clear hw2 HB HP hb2
  have hok1 : ∀ n ∈ [(l.length : Int)], okN n := fun n hn => by rw [List.mem_singleton.1 hn]; exact ⟨by omega, by omega⟩
  refine (chains_calls (some ⟨w1.heap.size, 0, none⟩) 1 [(l.length : Int)] hok1 (by simp) (by simp) w2 HC.out).mono ?_
  rintro e w3 ⟨rfl, hb⟩
  have hs0 := chs_size _ hok1
  have HB3 := Aside0.mk (below_step HB2.out hb)
  have HP := Aside0.mk (Kd.C_below HP2.out hb)
  have HE : Aside0 (encL l = l.foldl encS (chs [(l.length : Int)])) := ⟨rfl⟩
  generalize chs [(l.length : Int)] = s0 at *
  have hs1 : s0.size ≤ 10 := by simpa using hs0
  clear hb HB2 HP2 HC hok1 hs0
  go_wp2_with fail
  go_loopw [4, 6, 7, 16] (fun sv av bv iv wr => ∃ (i : Nat) (acc : ByteArray), sv = .string acc ∧ iv = .int .i64 i ∧ i ≤ l.length ∧ acc.size ≤ 10 + 40 * i ∧ Aside0 (l.foldl encS s0 = (l.drop i).foldl encS acc) ∧ Aside0 (Below w3.heap.size w3 wr)) (fun _ _ _ iv _ => l.length - (intOf iv).toNat)
  case atStart => exact ⟨0, s0, rfl, rfl, Nat.zero_le _, by omega, ⟨rfl⟩, ⟨Below.refl _ _⟩⟩
  case round =>
    obtain ⟨i, acc, rfl, rfl, hil, hsz, HL, H4⟩ := hrel
    by_cases hlt : i < l.length
    · obtain ⟨ad, hAd, hcell⟩ := at_int HP.out i (by omega) (by omega)
      have hk : (l.map (·.f0))[i]'(by omega) = l[i].f0 := by simp
      rw [hk] at hcell
      have hcl := (H4.out.cell (World.block_lt_of_cell? w3 _ hcell)).trans hcell
      have hbw := below_step HB3.out H4.out
      have hok := HT.out.ok l[i] (List.getElem_mem hlt)
      have hlk := (HT.out.later hbw).look (p := l[i].f0) ⟨by have := of_decide_eq_true hok.1; omega, by have := of_decide_eq_true hok.1; omega⟩
      rw [look_at l HT.out.ris i hlt] at hlk
      have hct := (HT.out.later hbw).cell0
      have hnx : Aside0 ((l.drop i).foldl encS acc = (l.drop (i + 1)).foldl encS (acc ++ chs (one4 l[i]))) := ⟨by rw [List.drop_eq_getElem_cons hlt, List.foldl_cons]; rfl⟩
      have HO := Aside0.mk (okL_nums hok)
      subst hAd
      clear hcell hbw hok hk
      obtain ⟨x, hx⟩ : ∃ x, l[i] = x := ⟨_, rfl⟩
      simp only [hx] at hcl hlk hnx HO
      clear hx
      obtain ⟨x0, x1, x2, x3⟩ := x
      simp only [one4] at hcl hlk hnx HO
      go_wp2_with (first
        | ((with_reducible refine gate_dst (N := 7) rfl ?_); refine box_event rfl (N := 7) rfl (cs := #[.int .i64 0, .int .i64 0, .int .i64 0]) (t := 96) ?hr ?_; (case hr => first | (go_simp; done) | (go_simp; rfl)); intro g7 hg7 w5 hbx hbl; have n_H := Aside0.mk (below_step H4.out hbl); have G7 := Aside0.mk (show w3.heap.size ≤ g7 by rw [hg7]; exact H4.out.size); have Y := Aside0.mk hbx; clear H4 hbx hbl hg7; have H4 := n_H; clear n_H)
        | ((with_reducible refine gate_store (t := 96) (p := 7) rfl ?_); refine store_ev rfl rfl rfl (cells := #[.int .i64 x1, .int .i64 x2, .int .i64 x3]) rfl rfl Y.out (by kernel_rfl) rfl (by kernel_rfl) ?_; intro w6 hbx hgr; have n_H := Aside0.mk (below_put H4.out G7.out hgr H4.out.size); have n_Y := Aside0.mk hbx; clear H4 Y hbx hgr; have H4 := n_H; have Y := n_Y; clear n_H n_Y; have y0 : w6.cell? ⟨g7, 0, none⟩ = some (.int .i64 x1) := (blk_cell Y.out 0).trans rfl; have y1 : w6.cell? ⟨g7, 1, none⟩ = some (.int .i64 x2) := (blk_cell Y.out 1).trans rfl; have y2 : w6.cell? ⟨g7, 2, none⟩ = some (.int .i64 x3) := (blk_cell Y.out 2).trans rfl))
      obtain ⟨w7, hw7⟩ : ∃ W, w6.alloc (.cells #[.int .i64 x0, .int .i64 x1, .int .i64 x2, .int .i64 x3] 3) = W := ⟨_, rfl⟩
      have HC : Aside0 (Kd.C (Kd.int .i64) w7 (some ⟨w6.heap.size, 0, none⟩) 4 [x0, x1, x2, x3]) := ⟨ints_C [x0, x1, x2, x3] (by simp) (by rw [← hw7]; exact blk_new w6 _)⟩
      have n_H : Aside0 (Below w3.heap.size w3 w7) := ⟨by rw [← hw7]; exact below_alloc H4.out _⟩
      rw [hw7]
      clear hw7 H4 y0 y1 y2 Y G7
      have H4 := n_H
      clear n_H
      refine (chains_calls (some ⟨w6.heap.size, 0, none⟩) 4 [x0, x1, x2, x3] HO.out (by simp) (by simp) w7 HC.out).mono ?_
      rintro e w8 ⟨rfl, hb⟩
      have hsc := chs_size _ HO.out
      simp only [List.length_cons, List.length_nil] at hsc
      have n_H4 := Aside0.mk (below_step H4.out hb)
      clear H4 hb HC HO
      have H4 := n_H4
      clear n_H4
      generalize chs [x0, x1, x2, x3] = cs at *
      have hadd : acc.size + cs.size ≤ 9223372036854775807 := by omega
      go_wp2_with fail
      go_roundw
      case rel => exact ⟨i + 1, acc ++ cs, rfl, by go_num, by omega, by rw [ByteArray.size_append]; omega, ⟨HL.out.trans hnx.out⟩, H4⟩
      case measure => simp [intOf]; omega
    · obtain rfl : i = l.length := by omega
      have e := HE.out.trans HL.out
      rw [List.drop_length] at e
      have HE2 := Aside0.mk e
      clear e
      go_wp2_with fail
      go_ret
      rw [HE2.out]
      exact ⟨rfl, below_step HB3.out H4.out⟩
theorem blk_below {W W' : World} {g : Nat} {ob : Obj} (h : W.heap[g]? = some ob) (hb : Below W.heap.size W W') : W'.heap[g]? = some ob :=
  (hb.block g (Array.getElem?_eq_some_iff.1 h).1).trans h
theorem rch_f (n : Int) (h : okN n) : weighlockref18_chain.f 10 n = some (chN n) := by
  unfold weighlockref18_chain.f
  rw [wu64 n h.1 (by have := h.2; omega), ref_chain 10 n (by omega) (by omega) h.1 (by have := h.2; omega) (p10 n (by have := h.2; omega))]
  rfl
theorem rch_calls (n : Int) (h : okN n) (w : World) : Calls Try.prog 67 #[.int .i64 n] w fun e w' => e = .returned (.string (chN n)) ∧ Below w.heap.size w w' :=
  weighlockref18_chain.calls 10 n (chN n) w (rch_f n h)
theorem load_evm' {P : Program} {ops : Array Oper} {rest : List Oper} {o : Oper} {a : Act} {Q : Exit → Act → World → Prop} {W : World} {N : Tmp} (hN : o.dst = some N) (hgd : o.guard = none) {ty : TypeId} {p : Tmp} (ho : o.op = .load ty (.tmp p)) {b : Addr} {cs : Array Value} (hx : a.eval (.tmp p) = .pointer (some b)) {d : TypeDesc} (hc : ∀ (j : Nat) (v : Value), cs[j]? = some v → W.cell? (b.add j) = some v)
    (hu : P.underlying ty = some d) (hd : (match d with | .struct _ | .array _ _ => true | _ => false) = true) (hi : (P.info? ty).map (·.size) = some cs.size)
    (h : wpList P ops Q rest (a.put o.dst (.agg cs)) W) : wpList P ops Q (o :: rest) a W := by
  have hl : (loadCells b cs.toList.length).run P W = .ok cs.toList.toArray W :=
    run_loadCells_list (P := P) W b cs.toList (fun j v hv => hc j v (by simpa using hv))
  have hv : (loadVar ty b).run P W = .ok (.agg cs) W := by
    cases hq : P.info? ty with
    | none => simp [hq] at hi
    | some i =>
      have hs : i.size = cs.size := by simpa [hq] using hi
      have hagg : (isAgg ty).run P W = .ok true W := by
        unfold isAgg
        rw [Sem.run_bind, run_underlying hu W]
        cases d <;> simp_all
      simp only [Array.length_toList, Array.toArray_toList] at hl
      simp [loadVar, Sem.run_bind, hagg, sizeOf, typeInfo, hq, hs, hl]
  have hw : Region.wanted o (yielded ops a.tmps) = true := by simp [Region.wanted, hgd]
  unfold wpList
  rw [if_pos hw]
  left
  unfold Oper.wp
  have hr : (execOp a.eval o).run P W = .ok (.value (.agg cs)) W := by
    unfold execOp
    simp only [ho, hx, Instr.loadAt, Instr.sureAddr, Sem.run_bind, Sem.run_pure, Result.andThen_ok, hv]
  rw [hr]
  exact h
theorem at_la {w : World} {A : Option Addr} {n : Nat} {xs : List La} (h : Kd.C k43 w A n xs) (i : Nat) (hi : i < n) (hx : i < xs.length) :
    ∃ ad, A = some ad ∧ (∀ (j : Nat) (u : Value), (xs[i].cs)[j]? = some u → w.cell? ((ad.add (i * 4)).add j) = some u) := by
  obtain ⟨ad, c, hA, _, hK, hc⟩ := Kd.C_get h xs[i] (i : Int) (by omega) (by omega)
  rw [Int.toNat_natCast] at hK hc
  have e : xs.getD i xs[i] = xs[i] := by rw [List.getD_eq_getElem?_getD, List.getElem?_eq_getElem hx]; rfl
  rw [e] at hK
  obtain rfl := k43_open hK
  refine ⟨ad, hA, fun j u hu => ?_⟩
  rw [Go.Deep.add_add]
  exact hc j u (by simpa [La.cs] using hu)
theorem cells_below {w W : World} {b : Addr} {cs : Array Value} (h : ∀ (j : Nat) (u : Value), cs[j]? = some u → w.cell? (b.add j) = some u) (hb : Below w.heap.size w W) (j : Nat) (u : Value) (hj : cs[j]? = some u) : W.cell? (b.add j) = some u :=
  (hb.cell (World.block_lt_of_cell? w _ (h j u hj))).trans (h j u hj)
theorem one4_eq (acc : ByteArray) (a b c d : Int) : acc ++ chN a ++ chN b ++ chN c ++ chN d = acc ++ chs [a, b, c, d] := by
  rw [← chs_acc]
  rfl
set_option maxHeartbeats 16000000 in
set_option maxRecDepth 100000 in
theorem rencode_calls (A : Option Addr) (k : Nat) (l : List La) (w : World) (hA : Kd.C k43 w A l.length l) (hl : l.length ≤ 1000) (hok : ∀ x ∈ l, okL x) :
    Calls Try.prog 52 #[.slice A l.length k] w fun e w' => e = .returned (.string (encL l)) ∧ Below w.heap.size w w' := by
  have HA := Aside0.mk hA
  have HK := Aside0.mk hok
  clear hA hok
  have hok1 : okN (l.length : Int) := ⟨by omega, by omega⟩
  have hs0 := chN_size hok1
  have HE : Aside0 (encL l = l.foldl encS (chN (l.length : Int))) := ⟨by
    unfold encL
    have : chs [(l.length : Int)] = chN (l.length : Int) := by
      exact nil_app _
    rw [this]⟩
  generalize encL l = EL at *
  go_enter Try.func52, Try.ntmps52
  go_wp2_with fail
  refine (rch_calls (l.length : Int) hok1 w).mono ?_
  rintro e w3 ⟨rfl, hb⟩
  have HB3 := Aside0.mk hb
  generalize chN (l.length : Int) = s0 at *
  clear hb hok1
  go_wp2_with fail
  go_loopw [3, 11] (fun sv iv wr => ∃ (i : Nat) (acc : ByteArray), sv = .string acc ∧ iv = .int .i64 i ∧ i ≤ l.length ∧ acc.size ≤ 10 + 40 * i ∧ Aside0 (l.foldl encS s0 = (l.drop i).foldl encS acc) ∧ Aside0 (Below w.heap.size w wr)) (fun _ iv _ => l.length - (intOf iv).toNat)
  case atStart => exact ⟨0, s0, rfl, rfl, Nat.zero_le _, by omega, ⟨rfl⟩, HB3⟩
  case round =>
    obtain ⟨i, acc, rfl, rfl, hil, hsz, HL, H4⟩ := hrel
    by_cases hlt : i < l.length
    · obtain ⟨ad, hAd, hcs⟩ := at_la HA.out i hlt hlt
      have hcs' := Aside0.mk (cells_below hcs H4.out)
      have HO := Aside0.mk (okL_nums (HK.out l[i] (List.getElem_mem hlt)))
      have hnx : Aside0 ((l.drop i).foldl encS acc = (l.drop (i + 1)).foldl encS (acc ++ chs (one4 l[i]))) := ⟨by rw [List.drop_eq_getElem_cons hlt, List.foldl_cons]; rfl⟩
      subst hAd
      clear hcs
      obtain ⟨x, hx⟩ : ∃ x, l[i] = x := ⟨_, rfl⟩
      simp only [hx] at hcs' hnx HO
      clear hx
      obtain ⟨x0, x1, x2, x3⟩ := x
      simp only [one4, La.cs] at hcs' hnx HO
      rw [← one4_eq] at hnx
      have hn0 : okN x0 := HO.out _ (by simp)
      have hn1 : okN x1 := HO.out _ (by simp)
      have hn2 : okN x2 := HO.out _ (by simp)
      have hn3 : okN x3 := HO.out _ (by simp)
      have h0 := chN_size hn0
      have h1 := chN_size hn1
      have h2 := chN_size hn2
      have h3 := chN_size hn3
      have HC0 := Aside0.mk (fun W => rch_calls x0 hn0 W)
      have HC1 := Aside0.mk (fun W => rch_calls x1 hn1 W)
      have HC2 := Aside0.mk (fun W => rch_calls x2 hn2 W)
      have HC3 := Aside0.mk (fun W => rch_calls x3 hn3 W)
      clear hn0 hn1 hn2 hn3 HO
      generalize chN x0 = c0 at *
      generalize chN x1 = c1 at *
      generalize chN x2 = c2 at *
      generalize chN x3 = c3 at *
      have s1 : (acc ++ c0).size = acc.size + c0.size := ByteArray.size_append
      have s2 : (acc ++ c0 ++ c1).size = acc.size + c0.size + c1.size := by rw [ByteArray.size_append, s1]
      have s3 : (acc ++ c0 ++ c1 ++ c2).size = acc.size + c0.size + c1.size + c2.size := by rw [ByteArray.size_append, s2]
      have s4 : (acc ++ c0 ++ c1 ++ c2 ++ c3).size = acc.size + c0.size + c1.size + c2.size + c3.size := by rw [ByteArray.size_append, s3]
      have a0 : ¬ 9223372036854775807 < acc.size + c0.size := by omega
      have a1 : ¬ 9223372036854775807 < acc.size + c0.size + c1.size := by omega
      have a2 : ¬ 9223372036854775807 < acc.size + c0.size + c1.size + c2.size := by omega
      have a3 : ¬ 9223372036854775807 < acc.size + c0.size + c1.size + c2.size + c3.size := by omega
      go_wp2_with (first
        | ((with_reducible refine gate_dst (N := 14) rfl ?_); refine load_evm' (N := 14) rfl rfl rfl (cs := #[.int .i64 x0, .int .i64 x1, .int .i64 x2, .int .i64 x3]) rfl hcs'.out Try.underlying43 rfl (by kernel_rfl) ?_)
        | ((with_reducible refine gate_dst (N := 5) rfl ?_); refine box_event rfl (N := 5) rfl (cs := #[.int .i64 0, .int .i64 0, .int .i64 0, .int .i64 0]) (t := 43) ?hr ?_; (case hr => first | (go_simp; done) | (go_simp; rfl)); intro g5 hg5 w5 hbx hbl; have n_H := Aside0.mk (below_step H4.out hbl); have G5 := Aside0.mk (show w.heap.size ≤ g5 by rw [hg5]; exact H4.out.size); have Y := Aside0.mk hbx; clear H4 hbx hbl hg5; have H4 := n_H; clear n_H)
        | ((with_reducible refine gate_store (t := 43) (p := 5) rfl ?_); refine store_ev rfl rfl rfl (cells := #[.int .i64 x0, .int .i64 x1, .int .i64 x2, .int .i64 x3]) rfl rfl Y.out (by kernel_rfl) rfl (by kernel_rfl) ?_; intro w6 hbx hgr; have n_H := Aside0.mk (below_put H4.out G5.out hgr H4.out.size); have n_Y := Aside0.mk hbx; clear H4 Y hbx hgr; have H4 := n_H; have Y := n_Y; clear n_H n_Y))
      refine start_ (n := 18) (S := fun w' => w'.cell? ⟨g5, 0, none⟩ = some (.int .i64 x0) ∧ w'.cell? ⟨g5, 1, none⟩ = some (.int .i64 x1) ∧ w'.cell? ⟨g5, 2, none⟩ = some (.int .i64 x2) ∧ w'.cell? ⟨g5, 3, none⟩ = some (.int .i64 x3)) (ds := []) #[false, false, false, false, false, false, false, false, false, false, false, false, false, false, false, false, false, false] (by kernel_rfl) rfl rfl ⟨(blk_cell Y.out 0).trans rfl, (blk_cell Y.out 1).trans rfl, (blk_cell Y.out 2).trans rfl, (blk_cell Y.out 3).trans rfl⟩ (fun _ => ?_)
      have n_H4 := Aside0.mk (below_drew1 H4.out)
      have n_Y := Aside0.mk (show w6.drew.heap[g5]? = some (.cells #[.int .i64 x0, .int .i64 x1, .int .i64 x2, .int .i64 x3] 43 (0, 0)) from Y.out)
      clear H4 Y
      have H4 := n_H4
      have Y := n_Y
      clear n_H4 n_Y
      generalize w6.drew = V0 at *
      refine pure_ (i := 0) (N := some 15) (v := ?_) (a' := ?_) #[true, false, false, false, false, false, false, false, false, false, false, false, false, false, false, false, false, false] rfl rfl (by kernel_rfl) (fun _ _ _ h => h) (Or.inl ⟨by rfl, ?_⟩) ?_ ?_
      rotate_left
      · intro w'
        go_simp
        with_reducible rfl
      rotate_left
      · simp only [Act.put, List.setIfInBounds_toArray, List.set_cons_zero, List.set_cons_succ]
        rfl
      refine pure_ (i := 1) (N := some 16) (v := ?_) (a' := ?_) #[true, true, false, false, false, false, false, false, false, false, false, false, false, false, false, false, false, false] rfl rfl (by kernel_rfl) (fun _ _ _ h => h) (Or.inl ⟨by rfl, ?_⟩) ?_ ?_
      rotate_left
      · intro w'
        go_simp
        with_reducible rfl
      rotate_left
      · simp only [Act.put, List.setIfInBounds_toArray, List.set_cons_zero, List.set_cons_succ]
        rfl
      refine take_ (i := 2) (N := some 17) (v := ?_) (a' := ?_) #[true, true, true, false, false, false, false, false, false, false, false, false, false, false, false, false, false, false] rfl rfl (by kernel_rfl) (fun _ _ _ h => h) (Or.inl ⟨by rfl, ?_⟩) ⟨(blk_cell Y.out 0).trans rfl, (blk_cell Y.out 1).trans rfl, (blk_cell Y.out 2).trans rfl, (blk_cell Y.out 3).trans rfl⟩ ?_ ?_
      rotate_left
      · intro w' hS
        obtain ⟨h0, h1, h2, h3⟩ := hS
        go_simp
        with_reducible rfl
      rotate_left
      · simp only [Act.put, List.setIfInBounds_toArray, List.set_cons_zero, List.set_cons_succ]
        rfl
      refine pure_ (i := 5) (N := some 20) (v := ?_) (a' := ?_) #[true, true, true, false, false, true, false, false, false, false, false, false, false, false, false, false, false, false] rfl rfl (by kernel_rfl) (fun _ _ _ h => h) (Or.inl ⟨by rfl, ?_⟩) ?_ ?_
      rotate_left
      · intro w'
        go_simp
        with_reducible rfl
      rotate_left
      · simp only [Act.put, List.setIfInBounds_toArray, List.set_cons_zero, List.set_cons_succ]
        rfl
      refine take_ (i := 6) (N := some 21) (v := ?_) (a' := ?_) #[true, true, true, false, false, true, true, false, false, false, false, false, false, false, false, false, false, false] rfl rfl (by kernel_rfl) (fun _ _ _ h => h) (Or.inl ⟨by rfl, ?_⟩) ⟨(blk_cell Y.out 0).trans rfl, (blk_cell Y.out 1).trans rfl, (blk_cell Y.out 2).trans rfl, (blk_cell Y.out 3).trans rfl⟩ ?_ ?_
      rotate_left
      · intro w' hS
        obtain ⟨h0, h1, h2, h3⟩ := hS
        go_simp
        with_reducible rfl
      rotate_left
      · simp only [Act.put, List.setIfInBounds_toArray, List.set_cons_zero, List.set_cons_succ]
        rfl
      refine pure_ (i := 9) (N := some 24) (v := ?_) (a' := ?_) #[true, true, true, false, false, true, true, false, false, true, false, false, false, false, false, false, false, false] rfl rfl (by kernel_rfl) (fun _ _ _ h => h) (Or.inl ⟨by rfl, ?_⟩) ?_ ?_
      rotate_left
      · intro w'
        go_simp
        with_reducible rfl
      rotate_left
      · simp only [Act.put, List.setIfInBounds_toArray, List.set_cons_zero, List.set_cons_succ]
        rfl
      refine take_ (i := 10) (N := some 25) (v := ?_) (a' := ?_) #[true, true, true, false, false, true, true, false, false, true, true, false, false, false, false, false, false, false] rfl rfl (by kernel_rfl) (fun _ _ _ h => h) (Or.inl ⟨by rfl, ?_⟩) ⟨(blk_cell Y.out 0).trans rfl, (blk_cell Y.out 1).trans rfl, (blk_cell Y.out 2).trans rfl, (blk_cell Y.out 3).trans rfl⟩ ?_ ?_
      rotate_left
      · intro w' hS
        obtain ⟨h0, h1, h2, h3⟩ := hS
        go_simp
        with_reducible rfl
      rotate_left
      · simp only [Act.put, List.setIfInBounds_toArray, List.set_cons_zero, List.set_cons_succ]
        rfl
      refine pure_ (i := 13) (N := some 28) (v := ?_) (a' := ?_) #[true, true, true, false, false, true, true, false, false, true, true, false, false, true, false, false, false, false] rfl rfl (by kernel_rfl) (fun _ _ _ h => h) (Or.inl ⟨by rfl, ?_⟩) ?_ ?_
      rotate_left
      · intro w'
        go_simp
        with_reducible rfl
      rotate_left
      · simp only [Act.put, List.setIfInBounds_toArray, List.set_cons_zero, List.set_cons_succ]
        rfl
      refine take_ (i := 14) (N := some 29) (v := ?_) (a' := ?_) #[true, true, true, false, false, true, true, false, false, true, true, false, false, true, true, false, false, false] rfl rfl (by kernel_rfl) (fun _ _ _ h => h) (Or.inl ⟨by rfl, ?_⟩) ⟨(blk_cell Y.out 0).trans rfl, (blk_cell Y.out 1).trans rfl, (blk_cell Y.out 2).trans rfl, (blk_cell Y.out 3).trans rfl⟩ ?_ ?_
      rotate_left
      · intro w' hS
        obtain ⟨h0, h1, h2, h3⟩ := hS
        go_simp
        with_reducible rfl
      rotate_left
      · simp only [Act.put, List.setIfInBounds_toArray, List.set_cons_zero, List.set_cons_succ]
        rfl
      refine one_ (i := 3) (N := some 18) #[true, true, true, true, false, true, true, false, false, true, true, false, false, true, true, false, false, false] rfl rfl (by kernel_rfl) (by simp) (fun K hK => ?_)
      refine goes_ Try.func67 (by kernel_rfl) rfl #[.int .i64 x0] (by rfl) rfl rfl (by simp only [List.map_toArray, List.map_cons, List.map_nil] <;> rfl) ?_
      refine (HC0.out V0).mono ?_
      rintro e V1 ⟨rfl, hb⟩
      have n_H4 := Aside0.mk (below_step H4.out hb)
      have n_Y := Aside0.mk (blk_below Y.out hb)
      clear H4 Y hb
      have H4 := n_H4
      have Y := n_Y
      clear n_H4 n_Y
      refine ⟨_, rfl, hK.out _ _ ⟨(blk_cell Y.out 0).trans rfl, (blk_cell Y.out 1).trans rfl, (blk_cell Y.out 2).trans rfl, (blk_cell Y.out 3).trans rfl⟩ (fun _ => ?_)⟩
      clear hK K
      refine norm_ (a' := ?_) ?_ ?_
      rotate_left
      · simp only [Act.put, List.setIfInBounds_toArray, List.set_cons_zero, List.set_cons_succ]
        rfl
      refine pure_ (i := 4) (N := some 19) (v := ?_) (a' := ?_) #[true, true, true, true, true, true, true, false, false, true, true, false, false, true, true, false, false, false] rfl rfl (by kernel_rfl) (fun _ _ _ h => h) (Or.inl ⟨by rfl, ?_⟩) ?_ ?_
      rotate_left
      · intro w'
        go_simp
        with_reducible rfl
      rotate_left
      · simp only [Act.put, List.setIfInBounds_toArray, List.set_cons_zero, List.set_cons_succ]
        rfl
      refine one_ (i := 7) (N := some 22) #[true, true, true, true, true, true, true, true, false, true, true, false, false, true, true, false, false, false] rfl rfl (by kernel_rfl) (by simp) (fun K hK => ?_)
      refine goes_ Try.func67 (by kernel_rfl) rfl #[.int .i64 x1] (by rfl) rfl rfl (by simp only [List.map_toArray, List.map_cons, List.map_nil] <;> rfl) ?_
      refine (HC1.out V1).mono ?_
      rintro e V2 ⟨rfl, hb⟩
      have n_H4 := Aside0.mk (below_step H4.out hb)
      have n_Y := Aside0.mk (blk_below Y.out hb)
      clear H4 Y hb
      have H4 := n_H4
      have Y := n_Y
      clear n_H4 n_Y
      refine ⟨_, rfl, hK.out _ _ ⟨(blk_cell Y.out 0).trans rfl, (blk_cell Y.out 1).trans rfl, (blk_cell Y.out 2).trans rfl, (blk_cell Y.out 3).trans rfl⟩ (fun _ => ?_)⟩
      clear hK K
      refine norm_ (a' := ?_) ?_ ?_
      rotate_left
      · simp only [Act.put, List.setIfInBounds_toArray, List.set_cons_zero, List.set_cons_succ]
        rfl
      refine pure_ (i := 8) (N := some 23) (v := ?_) (a' := ?_) #[true, true, true, true, true, true, true, true, true, true, true, false, false, true, true, false, false, false] rfl rfl (by kernel_rfl) (fun _ _ _ h => h) (Or.inl ⟨by rfl, ?_⟩) ?_ ?_
      rotate_left
      · intro w'
        go_simp
        with_reducible rfl
      rotate_left
      · simp only [Act.put, List.setIfInBounds_toArray, List.set_cons_zero, List.set_cons_succ]
        rfl
      refine one_ (i := 11) (N := some 26) #[true, true, true, true, true, true, true, true, true, true, true, true, false, true, true, false, false, false] rfl rfl (by kernel_rfl) (by simp) (fun K hK => ?_)
      refine goes_ Try.func67 (by kernel_rfl) rfl #[.int .i64 x2] (by rfl) rfl rfl (by simp only [List.map_toArray, List.map_cons, List.map_nil] <;> rfl) ?_
      refine (HC2.out V2).mono ?_
      rintro e V3 ⟨rfl, hb⟩
      have n_H4 := Aside0.mk (below_step H4.out hb)
      have n_Y := Aside0.mk (blk_below Y.out hb)
      clear H4 Y hb
      have H4 := n_H4
      have Y := n_Y
      clear n_H4 n_Y
      refine ⟨_, rfl, hK.out _ _ ⟨(blk_cell Y.out 0).trans rfl, (blk_cell Y.out 1).trans rfl, (blk_cell Y.out 2).trans rfl, (blk_cell Y.out 3).trans rfl⟩ (fun _ => ?_)⟩
      clear hK K
      refine norm_ (a' := ?_) ?_ ?_
      rotate_left
      · simp only [Act.put, List.setIfInBounds_toArray, List.set_cons_zero, List.set_cons_succ]
        rfl
      refine pure_ (i := 12) (N := some 27) (v := ?_) (a' := ?_) #[true, true, true, true, true, true, true, true, true, true, true, true, true, true, true, false, false, false] rfl rfl (by kernel_rfl) (fun _ _ _ h => h) (Or.inl ⟨by rfl, ?_⟩) ?_ ?_
      rotate_left
      · intro w'
        go_simp
        with_reducible rfl
      rotate_left
      · simp only [Act.put, List.setIfInBounds_toArray, List.set_cons_zero, List.set_cons_succ]
        rfl
      refine one_ (i := 15) (N := some 30) #[true, true, true, true, true, true, true, true, true, true, true, true, true, true, true, true, false, false] rfl rfl (by kernel_rfl) (by simp) (fun K hK => ?_)
      refine goes_ Try.func67 (by kernel_rfl) rfl #[.int .i64 x3] (by rfl) rfl rfl (by simp only [List.map_toArray, List.map_cons, List.map_nil] <;> rfl) ?_
      refine (HC3.out V3).mono ?_
      rintro e V4 ⟨rfl, hb⟩
      have n_H4 := Aside0.mk (below_step H4.out hb)
      have n_Y := Aside0.mk (blk_below Y.out hb)
      clear H4 Y hb
      have H4 := n_H4
      have Y := n_Y
      clear n_H4 n_Y
      refine ⟨_, rfl, hK.out _ _ ⟨(blk_cell Y.out 0).trans rfl, (blk_cell Y.out 1).trans rfl, (blk_cell Y.out 2).trans rfl, (blk_cell Y.out 3).trans rfl⟩ (fun _ => ?_)⟩
      clear hK K
      refine norm_ (a' := ?_) ?_ ?_
      rotate_left
      · simp only [Act.put, List.setIfInBounds_toArray, List.set_cons_zero, List.set_cons_succ]
        rfl
      refine pure_ (i := 16) (N := some 31) (v := ?_) (a' := ?_) #[true, true, true, true, true, true, true, true, true, true, true, true, true, true, true, true, true, false] rfl rfl (by kernel_rfl) (fun _ _ _ h => h) (Or.inl ⟨by rfl, ?_⟩) ?_ ?_
      rotate_left
      · intro w'
        go_simp
        with_reducible rfl
      rotate_left
      · simp only [Act.put, List.setIfInBounds_toArray, List.set_cons_zero, List.set_cons_succ]
        rfl
      refine pure_ (i := 17) (N := some 3) (v := ?_) (a' := ?_) #[true, true, true, true, true, true, true, true, true, true, true, true, true, true, true, true, true, true] rfl rfl (by kernel_rfl) (fun _ _ _ h => h) (Or.inl ⟨by rfl, ?_⟩) ?_ ?_
      rotate_left
      · intro w'
        go_simp
        with_reducible rfl
      rotate_left
      · simp only [Act.put, List.setIfInBounds_toArray, List.set_cons_zero, List.set_cons_succ]
        rfl
      refine done_ (by kernel_rfl) ?_
      go_wp2_with fail
      go_roundw
      case rel => exact ⟨i + 1, acc ++ c0 ++ c1 ++ c2 ++ c3, rfl, by go_num, by omega, by omega, ⟨HL.out.trans hnx.out⟩, H4⟩
      case measure => simp [intOf]; omega
    · obtain rfl : i = l.length := by omega
      have e := HE.out.trans HL.out
      rw [List.drop_length] at e
      have HE2 := Aside0.mk e
      clear e
      go_wp2_with fail
      go_ret
      rw [HE2.out]
      exact ⟨rfl, H4.out⟩
end Go.Proofs.Ytgojaomldkgojaa.Dd

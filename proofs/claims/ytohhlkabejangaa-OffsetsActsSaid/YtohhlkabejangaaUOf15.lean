import Derived.Test.YtohhlkabejangaaUOf14
-- halved
namespace Go.Proofs.Ytohhlkabejangaa.Of
set_option linter.unusedVariables false
set_option linter.unusedSimpArgs false
open Go.RowKit Go.Maps Go.Sort Go.Lib Go.Shelf Go.Proofs.YtohhlkabejangaaW.PrintWords Go.Proofs.YtohhlkabejangaaW.PrintLast Go.Proofs.YtohhlkabejangaaW.PrintMore Go.Proofs.Ytohhlkabejangaa.POf Go.Proofs.Ytohhlkabejangaa.Wire
open Go.Proofs.YtohhlkabejangaaW.PrintWords.Aside0 renaming mk → mkA
open List renaming setIfInBounds_toArray → zsI, set_cons_zero → zs0, set_cons_succ → zs1
open Go.Proofs.YtohhlkabejangaaW.PrintWords.Kd renaming R_below → zrB
open Go.Proofs.YtohhlkabejangaaW.PrintWords renaming below_step → zbS
structure To where
 kind : Int
 pl : ByteArray
 err : Int
def To.v (x : To) : Value := .tuple #[.agg #[.int .i64 x.kind, .string x.pl], .int .i64 x.err]
def comE (T : List Rw) (k0 k1 : ByteArray) (k2 off : Int) : To :=
 if mayB k0 k1 k2 off = true then (if roomB T k0 = true then ⟨1, entS k0 k1 k2 off, 0⟩ else ⟨0, ⟨#[]⟩, 5⟩) else ⟨0, ⟨#[]⟩, 1⟩
def clrE (x : ByteArray) : To := if nameB x = true then ⟨2, textS x, 0⟩ else ⟨0, ⟨#[]⟩, 1⟩
set_option maxHeartbeats 16000000 in
set_option maxRecDepth 100000 in
theorem clr_tab (x : ByteArray) (hx : x.size ≤ 100000) (a : Nat) (w : World) : Calls Try.prog 55 #[.pointer (some ⟨a, 0, none⟩), .string x] w fun e w' => e = .returned (clrE x).v ∧ Below w.heap.size w w' := by
 have hund : ∀ b, some undef = some (Value.bool b) → False := fun b h => by simp [undef] at h
 have HB := mkA (Below.refl w.heap.size w)
 have HM := mkA (fun (W : World) => name_calls x hx W)
 have HTX := mkA (fun (W : World) => nums_Text.calls x _ W (Go.Proofs.Ytohhlkabejangaa.PureNums.text_eq x (by omega)))
 unfold clrE To.v
 obtain ⟨M, hM⟩ : ∃ M, nameB x = M := ⟨_, rfl⟩
 rw [hM] at HM ⊢
 clear hM
 cases M with
 | false =>
  go_enter Try.func55, Try.ntmps55
  go_wp2_with (first
   | ((with_reducible refine gate_dst (N := 4) rfl ?_); refine box_event rfl (N := 4) rfl (cs := #[.int .i64 0, .string ⟨#[]⟩]) (t := 79) ?hr ?_; (case hr => first | (go_simp; done) | (go_simp; rfl)); intro g6 hg6 w2 hbx hbl; have HX := mkA (zbS HB.out hbl); have Y := mkA hbx; have G6 := mkA (show w.heap.size ≤ g6 by rw [hg6]; exact HB.out.size); clear hbx hg6 hbl HB; have HB := HX; clear HX)
   | (go_at_call 74; refine (HM.out _).mono ?_; rintro e w8 ⟨rfl, hb⟩; have n_HB := mkA (zbS HB.out hb); have n_Y := mkA ((hb.block g6 (blk_lt Y.out)).trans Y.out); clear HB Y; have HB := n_HB; have Y := n_Y; clear n_HB n_Y; clear hb)
   | ((with_reducible refine gate_store (t := 79) (p := 4) rfl ?_); refine store_ev rfl rfl rfl (cells := #[.int .i64 0, .string ⟨#[]⟩]) rfl rfl Y.out (by kernel_rfl) rfl (by kernel_rfl) ?_; intro w9 hbx hgr; have HX := mkA (below_put HB.out G6.out hgr HB.out.size); have y0 : w9.cell? ⟨g6, 0, none⟩ = some (.int .i64 0) := (blk_cell hbx 0).trans rfl; have y1 : w9.cell? ⟨g6, 1, none⟩ = some (.string ⟨#[]⟩) := (blk_cell hbx 1).trans rfl; clear HB hbx hgr; have HB := HX; clear HX))
  exact bodyPost_ret (v := .tuple #[.agg #[.int .i64 0, .string ⟨#[]⟩], .int .i64 1]) (by simp [results, Try.results55, go_sem, y0, y1]) rfl ⟨rfl, HB.out⟩
 | true =>
  go_enter Try.func55, Try.ntmps55
  go_wp2_with (first
   | ((with_reducible refine gate_dst (N := 4) rfl ?_); refine box_event rfl (N := 4) rfl (cs := #[.int .i64 0, .string ⟨#[]⟩]) (t := 79) ?hr ?_; (case hr => first | (go_simp; done) | (go_simp; rfl)); intro g6 hg6 w2 hbx hbl; have HX := mkA (zbS HB.out hbl); have Y := mkA hbx; have G6 := mkA (show w.heap.size ≤ g6 by rw [hg6]; exact HB.out.size); clear hbx hg6 hbl HB; have HB := HX; clear HX)
   | (go_at_call 74; refine (HM.out _).mono ?_; rintro e w8 ⟨rfl, hb⟩; have n_HB := mkA (zbS HB.out hb); have n_Y := mkA ((hb.block g6 (blk_lt Y.out)).trans Y.out); clear HB Y; have HB := n_HB; have Y := n_Y; clear n_HB n_Y; clear hb)
   | (go_at_call 109; refine (HTX.out _).mono ?_; rintro e w7 ⟨rfl, hb⟩; have n_HB := mkA (zbS HB.out hb); have n_Y := mkA ((hb.block g6 (blk_lt Y.out)).trans Y.out); clear HB Y; have HB := n_HB; have Y := n_Y; clear n_HB n_Y; clear hb)
   | ((with_reducible refine gate_store (t := 79) (p := 4) rfl ?_); refine store_ev rfl rfl rfl (cells := #[.int .i64 2, .string (textS x)]) rfl rfl Y.out (by kernel_rfl) rfl (by kernel_rfl) ?_; intro w9 hbx hgr; have HX := mkA (below_put HB.out G6.out hgr HB.out.size); have y0 : w9.cell? ⟨g6, 0, none⟩ = some (.int .i64 2) := (blk_cell hbx 0).trans rfl; have y1 : w9.cell? ⟨g6, 1, none⟩ = some (.string (textS x)) := (blk_cell hbx 1).trans rfl; clear HB hbx hgr; have HB := HX; clear HX))
  exact bodyPost_ret (v := .tuple #[.agg #[.int .i64 2, .string (textS x)], .int .i64 0]) (by simp [results, Try.results55, go_sem, y0, y1]) rfl ⟨rfl, HB.out⟩
set_option maxHeartbeats 16000000 in
set_option maxRecDepth 100000 in
theorem comm_tab (a b : Nat) (T : List Rw) (k0 k1 : ByteArray) (k2 off : Int) (h0 : k0.size ≤ 100000) (h1 : k1.size ≤ 100000) (w : World) (h : Tab w a b T) (hn : T.length ≤ 1000000) : Calls Try.prog 49 #[.pointer (some ⟨a, 0, none⟩), .agg #[.string k0, .string k1, .int .i64 k2], .int .i64 off] w fun e w' => e = .returned (comE T k0 k1 k2 off).v ∧ Below w.heap.size w w' := by
 have hund : ∀ b, some undef = some (Value.bool b) → False := fun b h => by simp [undef] at h
 have HB := mkA (Below.refl w.heap.size w)
 have HM := mkA (fun (W : World) => offsets_may.calls 20 k0 k1 k2 off _ W (may_f k0 k1 k2 off (by omega) (by omega) 20 (Nat.le_refl _)))
 have HRM := mkA (fun (W : World) (h : Below w.heap.size w W) => room_tab a b T k0 W (Tab.later ‹Tab w a b T› h) hn)
 have HEN := mkA (fun (W : World) (h : mayB k0 k1 k2 off = true) => offsets_entry.calls k0 k1 k2 off _ _ W (entry_f h))
 unfold comE To.v
 clear h h0 h1
 obtain ⟨M, hM⟩ : ∃ M, mayB k0 k1 k2 off = M := ⟨_, rfl⟩
 rw [hM] at HM HEN ⊢
 clear hM
 cases M with
 | false =>
  go_enter Try.func49, Try.ntmps49
  go_wp2_with (first
   | ((with_reducible refine gate_dst (N := 4) rfl ?_); refine box_event rfl (N := 4) rfl (cs := #[.string k0, .string k1, .int .i64 k2]) (t := 74) ?hr ?_; (case hr => first | (go_simp; done) | (go_simp; rfl)); intro g4 hg4 w1 hbx hbl; have HX := mkA (zbS HB.out hbl); have K4 := mkA hbx; have c40 : w1.cell? ⟨g4, 0, none⟩ = some (.string k0) := (blk_cell hbx 0).trans rfl; clear hbx hg4 hbl HB; have HB := HX; clear HX)
   | ((with_reducible refine gate_dst (N := 6) rfl ?_); refine box_event rfl (N := 6) rfl (cs := #[.int .i64 0, .string ⟨#[]⟩]) (t := 79) ?hr ?_; (case hr => first | (go_simp; done) | (go_simp; rfl)); intro g6 hg6 w2 hbx hbl; have HX := mkA (zbS HB.out hbl); have Y := mkA hbx; have G6 := mkA (show w.heap.size ≤ g6 by rw [hg6]; exact HB.out.size); have n_K := mkA ((hbl.block g4 (blk_lt K4.out)).trans K4.out); clear K4; have K4 := n_K; clear n_K; have c40 : w2.cell? ⟨g4, 0, none⟩ = some (.string k0) := (blk_cell K4.out 0).trans rfl; clear hbx hg6 hbl HB; have HB := HX; clear HX)
   | ((with_reducible refine gate_dst (N := 13) rfl ?_); refine load_ev (N := 13) rfl rfl rfl (cs := #[.string k0, .string k1, .int .i64 k2]) rfl K4.out Try.underlying74 rfl (by kernel_rfl) ?_)
   | (go_at_call 97; refine (HM.out _).mono ?_; rintro e w5 ⟨rfl, hb⟩; have n_HB := mkA (zbS HB.out hb); have n_Y := mkA ((hb.block g6 (blk_lt Y.out)).trans Y.out); have n_K4 := mkA ((hb.block g4 (blk_lt K4.out)).trans K4.out); clear HB Y K4; have HB := n_HB; have Y := n_Y; have K4 := n_K4; clear n_HB n_Y n_K4; clear hb; have c40 : w5.cell? ⟨g4, 0, none⟩ = some (.string k0) := (blk_cell K4.out 0).trans rfl)
   | ((with_reducible refine gate_store (t := 79) (p := 6) rfl ?_); refine store_ev rfl rfl rfl (cells := #[.int .i64 0, .string ⟨#[]⟩]) rfl rfl Y.out (by kernel_rfl) rfl (by kernel_rfl) ?_; intro w9 hbx hgr; have HX := mkA (below_put HB.out G6.out hgr HB.out.size); have y0 : w9.cell? ⟨g6, 0, none⟩ = some (.int .i64 0) := (blk_cell hbx 0).trans rfl; have y1 : w9.cell? ⟨g6, 1, none⟩ = some (.string ⟨#[]⟩) := (blk_cell hbx 1).trans rfl; clear HB hbx hgr; have HB := HX; clear HX))
  exact bodyPost_ret (v := .tuple #[.agg #[.int .i64 0, .string ⟨#[]⟩], .int .i64 1]) (by simp [results, Try.results49, go_sem, y0, y1]) rfl ⟨rfl, HB.out⟩
 | true =>
  obtain ⟨M, hM⟩ : ∃ M, roomB T k0 = M := ⟨_, rfl⟩
  rw [hM] at HRM ⊢
  clear hM
  cases M with
  | false =>
   go_enter Try.func49, Try.ntmps49
   go_wp2_with (first
    | ((with_reducible refine gate_dst (N := 4) rfl ?_); refine box_event rfl (N := 4) rfl (cs := #[.string k0, .string k1, .int .i64 k2]) (t := 74) ?hr ?_; (case hr => first | (go_simp; done) | (go_simp; rfl)); intro g4 hg4 w1 hbx hbl; have HX := mkA (zbS HB.out hbl); have K4 := mkA hbx; have c40 : w1.cell? ⟨g4, 0, none⟩ = some (.string k0) := (blk_cell hbx 0).trans rfl; clear hbx hg4 hbl HB; have HB := HX; clear HX)
    | ((with_reducible refine gate_dst (N := 6) rfl ?_); refine box_event rfl (N := 6) rfl (cs := #[.int .i64 0, .string ⟨#[]⟩]) (t := 79) ?hr ?_; (case hr => first | (go_simp; done) | (go_simp; rfl)); intro g6 hg6 w2 hbx hbl; have HX := mkA (zbS HB.out hbl); have Y := mkA hbx; have G6 := mkA (show w.heap.size ≤ g6 by rw [hg6]; exact HB.out.size); have n_K := mkA ((hbl.block g4 (blk_lt K4.out)).trans K4.out); clear K4; have K4 := n_K; clear n_K; have c40 : w2.cell? ⟨g4, 0, none⟩ = some (.string k0) := (blk_cell K4.out 0).trans rfl; clear hbx hg6 hbl HB; have HB := HX; clear HX)
    | ((with_reducible refine gate_dst (N := 13) rfl ?_); refine load_ev (N := 13) rfl rfl rfl (cs := #[.string k0, .string k1, .int .i64 k2]) rfl K4.out Try.underlying74 rfl (by kernel_rfl) ?_)
    | (go_at_call 97; refine (HM.out _).mono ?_; rintro e w5 ⟨rfl, hb⟩; have n_HB := mkA (zbS HB.out hb); have n_Y := mkA ((hb.block g6 (blk_lt Y.out)).trans Y.out); have n_K4 := mkA ((hb.block g4 (blk_lt K4.out)).trans K4.out); clear HB Y K4; have HB := n_HB; have Y := n_Y; have K4 := n_K4; clear n_HB n_Y n_K4; clear hb; have c40 : w5.cell? ⟨g4, 0, none⟩ = some (.string k0) := (blk_cell K4.out 0).trans rfl)
    | (go_at_call 98; refine (HRM.out _ HB.out).mono ?_; rintro e w6 ⟨rfl, hb⟩; have n_HB := mkA (zbS HB.out hb); have n_Y := mkA ((hb.block g6 (blk_lt Y.out)).trans Y.out); have n_K4 := mkA ((hb.block g4 (blk_lt K4.out)).trans K4.out); clear HB Y K4; have HB := n_HB; have Y := n_Y; have K4 := n_K4; clear n_HB n_Y n_K4; clear hb)
    | ((with_reducible refine gate_store (t := 79) (p := 6) rfl ?_); refine store_ev rfl rfl rfl (cells := #[.int .i64 0, .string ⟨#[]⟩]) rfl rfl Y.out (by kernel_rfl) rfl (by kernel_rfl) ?_; intro w9 hbx hgr; have HX := mkA (below_put HB.out G6.out hgr HB.out.size); have y0 : w9.cell? ⟨g6, 0, none⟩ = some (.int .i64 0) := (blk_cell hbx 0).trans rfl; have y1 : w9.cell? ⟨g6, 1, none⟩ = some (.string ⟨#[]⟩) := (blk_cell hbx 1).trans rfl; clear HB hbx hgr; have HB := HX; clear HX))
   exact bodyPost_ret (v := .tuple #[.agg #[.int .i64 0, .string ⟨#[]⟩], .int .i64 5]) (by simp [results, Try.results49, go_sem, y0, y1]) rfl ⟨rfl, HB.out⟩
  | true =>
   go_enter Try.func49, Try.ntmps49
   go_wp2_with (first
    | ((with_reducible refine gate_dst (N := 4) rfl ?_); refine box_event rfl (N := 4) rfl (cs := #[.string k0, .string k1, .int .i64 k2]) (t := 74) ?hr ?_; (case hr => first | (go_simp; done) | (go_simp; rfl)); intro g4 hg4 w1 hbx hbl; have HX := mkA (zbS HB.out hbl); have K4 := mkA hbx; have c40 : w1.cell? ⟨g4, 0, none⟩ = some (.string k0) := (blk_cell hbx 0).trans rfl; clear hbx hg4 hbl HB; have HB := HX; clear HX)
    | ((with_reducible refine gate_dst (N := 6) rfl ?_); refine box_event rfl (N := 6) rfl (cs := #[.int .i64 0, .string ⟨#[]⟩]) (t := 79) ?hr ?_; (case hr => first | (go_simp; done) | (go_simp; rfl)); intro g6 hg6 w2 hbx hbl; have HX := mkA (zbS HB.out hbl); have Y := mkA hbx; have G6 := mkA (show w.heap.size ≤ g6 by rw [hg6]; exact HB.out.size); have n_K := mkA ((hbl.block g4 (blk_lt K4.out)).trans K4.out); clear K4; have K4 := n_K; clear n_K; have c40 : w2.cell? ⟨g4, 0, none⟩ = some (.string k0) := (blk_cell K4.out 0).trans rfl; clear hbx hg6 hbl HB; have HB := HX; clear HX)
    | ((with_reducible refine gate_dst (N := 13) rfl ?_); refine load_ev (N := 13) rfl rfl rfl (cs := #[.string k0, .string k1, .int .i64 k2]) rfl K4.out Try.underlying74 rfl (by kernel_rfl) ?_)
    | (go_at_call 97; refine (HM.out _).mono ?_; rintro e w5 ⟨rfl, hb⟩; have n_HB := mkA (zbS HB.out hb); have n_Y := mkA ((hb.block g6 (blk_lt Y.out)).trans Y.out); have n_K4 := mkA ((hb.block g4 (blk_lt K4.out)).trans K4.out); clear HB Y K4; have HB := n_HB; have Y := n_Y; have K4 := n_K4; clear n_HB n_Y n_K4; clear hb; have c40 : w5.cell? ⟨g4, 0, none⟩ = some (.string k0) := (blk_cell K4.out 0).trans rfl)
    | (go_at_call 98; refine (HRM.out _ HB.out).mono ?_; rintro e w6 ⟨rfl, hb⟩; have n_HB := mkA (zbS HB.out hb); have n_Y := mkA ((hb.block g6 (blk_lt Y.out)).trans Y.out); have n_K4 := mkA ((hb.block g4 (blk_lt K4.out)).trans K4.out); clear HB Y K4; have HB := n_HB; have Y := n_Y; have K4 := n_K4; clear n_HB n_Y n_K4; clear hb)
    | ((with_reducible refine gate_dst (N := 25) rfl ?_); refine load_ev (N := 25) rfl rfl rfl (cs := #[.string k0, .string k1, .int .i64 k2]) rfl K4.out Try.underlying74 rfl (by kernel_rfl) ?_)
    | (go_at_call 99; refine (HEN.out _ (by first | rfl | trivial)).mono ?_; rintro e w7 ⟨rfl, hb⟩; have n_HB := mkA (zbS HB.out hb); have n_Y := mkA ((hb.block g6 (blk_lt Y.out)).trans Y.out); have n_K4 := mkA ((hb.block g4 (blk_lt K4.out)).trans K4.out); clear HB Y K4; have HB := n_HB; have Y := n_Y; have K4 := n_K4; clear n_HB n_Y n_K4; clear hb)
    | ((with_reducible refine gate_store (t := 79) (p := 6) rfl ?_); refine store_ev rfl rfl rfl (cells := #[.int .i64 1, .string (entS k0 k1 k2 off)]) rfl rfl Y.out (by kernel_rfl) rfl (by kernel_rfl) ?_; intro w9 hbx hgr; have HX := mkA (below_put HB.out G6.out hgr HB.out.size); have y0 : w9.cell? ⟨g6, 0, none⟩ = some (.int .i64 1) := (blk_cell hbx 0).trans rfl; have y1 : w9.cell? ⟨g6, 1, none⟩ = some (.string (entS k0 k1 k2 off)) := (blk_cell hbx 1).trans rfl; clear HB hbx hgr; have HB := HX; clear HX))
   exact bodyPost_ret (v := .tuple #[.agg #[.int .i64 1, .string (entS k0 k1 k2 off)], .int .i64 0]) (by simp [results, Try.results49, go_sem, y0, y1]) rfl ⟨rfl, HB.out⟩
abbrev Fr := S79
def frT (r : Rw) : Fr := ⟨1, entS r.k.g r.k.t r.k.p r.v⟩
def okT (T : List Rw) : Prop := ∀ r ∈ T, mayB r.k.g r.k.t r.k.p r.v = true
theorem RowK.grown {W W' : World} {A : Option Addr} {ys : List Ky} {r : Option Nat} (h : RowK W A ys) (hg : W.grownBy W' r) (hm : ∀ g cur, W.heap[g]? = some (.cells cur 74 (0, 0)) → r ≠ some g) : RowK W' A ys := fun hn => by
 obtain ⟨g, cur, e, h1, h2⟩ := h hn
 exact ⟨g, cur, e, (hg.block g (Array.getElem?_eq_some_iff.1 h1).1 (fun e => hm g cur h1 e.symm)).trans h1, h2⟩
theorem Tab.getv {W : World} {a b : Nat} {T : List Rw} (h : Tab W a b T) (j : Nat) (hj : j < T.length) (k0 k1 : ByteArray) (k2 v : Int) (hr : T[j] = ⟨⟨k0, k1, k2⟩, v⟩) :
  (Instr.lookup 154 (.map (some b)) (.agg #[.string k0, .string k1, .int .i64 k2]) false).run Try.prog W = .ok (.int .i64 v) W := by
 obtain ⟨n, D, ho, hR⟩ := h.own
 have hm : T[j] ∈ T := List.getElem_mem hj
 have hk := hR.ok _ hm
 have hv : valT T T[j].k = T[j].v := by
  obtain ⟨e1, _⟩ := h.at_ hk D n ho hR
  rw [hR.at_ _ hm] at e1
  injection e1 with e1
  injection e1 with _ e1
  exact e1.symm
 have := h.get hk
 rw [hv, hr] at this
 exact this
set_option maxHeartbeats 16000000 in
set_option maxRecDepth 100000 in
theorem snap_tab (a b : Nat) (T : List Rw) (w : World) (h : Tab w a b T) (hn : T.length ≤ 1000) (hok : okT T) :
  Calls Try.prog 54 #[.pointer (some ⟨a, 0, none⟩)] w fun e w' => ∃ v, e = .returned v ∧ Kd.R k79 79 w' w.heap.size (fun _ => True) v (T.map frT) ∧ Below w.heap.size w w' := by
 have hund : ∀ b, some undef = some (Value.bool b) → False := fun b h => by simp [undef] at h
 have HKY := mkA (keys_tab a b T w h (by omega))
 have HT := mkA h
 have HOK := mkA hok
 clear h hok
 go_enter Try.func54, Try.ntmps54
 go_wp2_with (first | (go_at_call 47; refine HKY.out.mono ?_; rintro e w1 ⟨A, c, rfl, hR, hb⟩; have HR := mkA hR; have HB := mkA hb; clear HKY hR hb))
 have HLEN := mkA (show (T.map (·.k)).length = T.length from List.length_map ..)
 go_loopw [3, 9] (fun ov iv wr => ∃ (j : Nat), iv = .int .i64 j ∧ j ≤ T.length ∧ Aside0 (Kd.R k79 79 wr w.heap.size (fun _ => True) ov ((T.take j).map frT)) ∧ Aside0 (RowK wr A (T.map (·.k))) ∧ Aside0 (Below w.heap.size w wr)) (fun _ iv _ => T.length - (intOf iv).toNat)
 case atStart => exact ⟨0, rfl, Nat.zero_le _, ⟨Kd.R_nil _ _ _ _ _⟩, HR, HB⟩
 case round =>
  clear HB HR
  obtain ⟨j, rfl, hj, HO, HR, HB⟩ := hrel
  by_cases hlt : j < T.length
  ·obtain ⟨ad, hAd, hcs⟩ := at_key HR.out j (by rw [HLEN.out]; exact hlt)
   rw [List.getElem_map] at hcs
   have HST := mkA (show (T.take (j + 1)).map frT = (T.take j).map frT ++ [frT T[j]] by rw [List.take_succ_eq_append_getElem hlt, List.map_append]; rfl)
   have HM := mkA (HOK.out T[j] (List.getElem_mem hlt))
   have HX := mkA (Below.refl wr.heap.size wr)
   have HLQ := mkA (fun (W : World) (h : Tab W a b T) k0 k1 k2 v hr => h.getv j hlt k0 k1 k2 v hr)
   subst hAd
   obtain ⟨y, hy⟩ : ∃ y, T[j] = y := ⟨_, rfl⟩
   simp only [hy] at hcs HST HM HLQ
   clear hy
   obtain ⟨⟨k0, k1, k2⟩, kv⟩ := y
   have HCS := mkA (show ∀ (j_1 : Nat) (u : Value), (#[.string k0, .string k1, .int .i64 k2] : Array Value)[j_1]? = some u → wr.cell? ((ad.add (j * 3)).add j_1) = some u from hcs)
   have HEN := mkA (fun (W : World) => offsets_entry.calls k0 k1 k2 kv _ _ W (entry_f HM.out))
   have HLK := mkA (fun (W : World) (h : Tab W a b T) => HLQ.out W h k0 k1 k2 kv rfl)
   have HFR := mkA (show frT ⟨⟨k0, k1, k2⟩, kv⟩ = (⟨1, entS k0 k1 k2 kv⟩ : Fr) from rfl)
   have HL1 := mkA (show ((T.take j).map frT).length ≤ 1000 by rw [List.length_map, List.length_take]; omega)
   clear hcs HLQ
   have d1 : decide ((j : Int) < (T.length : Int)) = true := decide_eq_true (by omega)
   have d2 : (0 ≤ (j : Int)) = True := eq_true (by omega)
   have d3 : ((j : Int) < (T.length : Int)) = True := eq_true (by omega)
   have hwj : wrap64 ((j : Int) + 1) = (j : Int) + 1 := w64o _ (by omega) (by omega)
   obtain ⟨acc, hacc⟩ : ∃ acc, (T.take j).map frT = acc := ⟨_, rfl⟩
   rw [hacc] at HO HST HL1
   clear hacc
   go_upto_region 5 with (first
    | ((with_reducible refine gate_dst (N := 12) rfl ?_); refine load_evm' (N := 12) rfl rfl rfl (cs := #[.string k0, .string k1, .int .i64 k2]) rfl HCS.out Try.underlying74 rfl (by kernel_rfl) ?_)
    | ((with_reducible refine gate_dst (N := 5) rfl ?_); refine box_event rfl (N := 5) rfl (cs := #[.string ⟨#[]⟩, .string ⟨#[]⟩, .int .i64 0]) (t := 74) ?hr ?_; (case hr => first | (go_simp; done) | (go_simp; rfl)); intro g5 hg5 w3 hbx hbl; have HX1 := mkA (zbS HX.out hbl); have G6 := mkA (show _ ≤ g5 by rw [hg5]; exact HX.out.size); have Y := mkA hbx; clear hbx hbl hg5 HX)
    | ((with_reducible refine gate_store (t := 74) (p := 5) rfl ?_); refine store_ev rfl rfl rfl (cells := #[.string k0, .string k1, .int .i64 k2]) rfl rfl Y.out (by kernel_rfl) rfl (by kernel_rfl) ?_; intro w4 hbx hgr; have HX := mkA (below_put HX1.out G6.out hgr HX1.out.size); have YY := mkA hbx; clear HX1 Y hbx hgr))
   have n_HO := mkA (zrB HO.out HX.out)
   have n_HR := mkA (HR.out.later HX.out)
   have n_HB := mkA (zbS HB.out HX.out)
   clear HO HR HB HX G6 HCS
   have HO := n_HO
   have HR := n_HR
   have HB := n_HB
   clear n_HO n_HR n_HB
   refine start_ (n := 12) (S := fun w' => w'.cell? ⟨a, 0, none⟩ = some (.map (some b)) ∧ w'.heap[g5]? = some (.cells #[.string k0, .string k1, .int .i64 k2] 74 (0, 0)) ∧ (Instr.lookup 154 (.map (some b)) (.agg #[.string k0, .string k1, .int .i64 k2]) false).run Try.prog w' = .ok (.int .i64 kv) w') (ds := []) #[false, false, false, false, false, false, false, false, false, false, false, false] (by kernel_rfl) rfl rfl ⟨(HT.out.later (by first | exact HB.out | exact below_drew1 HB.out)).c, YY.out, HLK.out _ (HT.out.later (by first | exact HB.out | exact below_drew1 HB.out))⟩ (fun _ => ?_)
   have n_HB := mkA (below_drew1 HB.out)
   have n_YY := mkA (show w4.drew.heap[g5]? = some (.cells #[.string k0, .string k1, .int .i64 k2] 74 (0, 0)) from YY.out)
   have n_HO := mkA (zrB HO.out (below_drew1 (Below.refl _ _)))
   have n_HR := mkA (HR.out.later (below_drew1 (Below.refl _ _)))
   clear HB YY HO HR
   have HB := n_HB
   have YY := n_YY
   have HO := n_HO
   have HR := n_HR
   clear n_HB n_YY n_HO n_HR
   generalize w4.drew = V0 at *
   refine pure_ (i := 0) (N := some 13) (v := ?_) (a' := ?_) #[true, false, false, false, false, false, false, false, false, false, false, false] rfl rfl (by kernel_rfl) (fun _ _ _ h => h) (Or.inl ⟨by rfl, ?_⟩) ?_ ?_
   rotate_left
   ·intro w'
    go_simp
    with_reducible rfl
   rotate_left
   ·simp only [Act.put, zsI, zs0, zs1]
    rfl
   refine take_ (i := 1) (N := some 14) (v := .agg #[.string k0, .string k1, .int .i64 k2]) (a' := ?_) #[true, true, false, false, false, false, false, false, false, false, false, false] rfl rfl (by kernel_rfl) (fun _ _ _ h => h) (Or.inl ⟨by rfl, fun w' hS => load_run' (p := 5) rfl rfl hS.2.1 Try.underlying74 rfl (by kernel_rfl)⟩) ⟨(HT.out.later (by first | exact HB.out | exact below_drew1 HB.out)).c, YY.out, HLK.out _ (HT.out.later (by first | exact HB.out | exact below_drew1 HB.out))⟩ ?_ ?_
   rotate_left
   ·simp only [Act.put, zsI, zs0, zs1]
    rfl
   refine pure_ (i := 2) (N := some 15) (v := ?_) (a' := ?_) #[true, true, true, false, false, false, false, false, false, false, false, false] rfl rfl (by kernel_rfl) (fun _ _ _ h => h) (Or.inl ⟨by rfl, ?_⟩) ?_ ?_
   rotate_left
   ·intro w'
    go_simp
    with_reducible rfl
   rotate_left
   ·simp only [Act.put, zsI, zs0, zs1]
    rfl
   refine pure_ (i := 3) (N := some 16) (v := ?_) (a' := ?_) #[true, true, true, true, false, false, false, false, false, false, false, false] rfl rfl (by kernel_rfl) (fun _ _ _ h => h) (Or.inl ⟨by rfl, ?_⟩) ?_ ?_
   rotate_left
   ·intro w'
    go_simp
    with_reducible rfl
   rotate_left
   ·simp only [Act.put, zsI, zs0, zs1]
    rfl
   refine pure_ (i := 4) (N := some 17) (v := ?_) (a' := ?_) #[true, true, true, true, true, false, false, false, false, false, false, false] rfl rfl (by kernel_rfl) (fun _ _ _ h => h) (Or.inl ⟨by rfl, ?_⟩) ?_ ?_
   rotate_left
   ·intro w'
    go_simp
    with_reducible rfl
   rotate_left
   ·simp only [Act.put, zsI, zs0, zs1]
    rfl
   refine take_ (i := 5) (N := some 18) (v := ?_) (a' := ?_) #[true, true, true, true, true, true, false, false, false, false, false, false] rfl rfl (by kernel_rfl) (fun _ _ _ h => h) (Or.inl ⟨by rfl, ?_⟩) ⟨(HT.out.later (by first | exact HB.out | exact below_drew1 HB.out)).c, YY.out, HLK.out _ (HT.out.later (by first | exact HB.out | exact below_drew1 HB.out))⟩ ?_ ?_
   rotate_left
   ·intro w' hS
    obtain ⟨h1, h2, h3⟩ := hS
    go_simp
    with_reducible rfl
   rotate_left
   ·simp only [Act.put, zsI, zs0, zs1]
    rfl
   refine take_ (i := 6) (N := some 19) (v := .agg #[.string k0, .string k1, .int .i64 k2]) (a' := ?_) #[true, true, true, true, true, true, true, false, false, false, false, false] rfl rfl (by kernel_rfl) (fun _ _ _ h => h) (Or.inl ⟨by rfl, fun w' hS => load_run' (p := 5) rfl rfl hS.2.1 Try.underlying74 rfl (by kernel_rfl)⟩) ⟨(HT.out.later (by first | exact HB.out | exact below_drew1 HB.out)).c, YY.out, HLK.out _ (HT.out.later (by first | exact HB.out | exact below_drew1 HB.out))⟩ ?_ ?_
   rotate_left
   ·simp only [Act.put, zsI, zs0, zs1]
    rfl
   refine take_ (i := 7) (N := some 20) (v := ?_) (a' := ?_) #[true, true, true, true, true, true, true, true, false, false, false, false] rfl rfl (by kernel_rfl) (fun _ _ _ h => h) (Or.inl ⟨by rfl, ?_⟩) ⟨(HT.out.later (by first | exact HB.out | exact below_drew1 HB.out)).c, YY.out, HLK.out _ (HT.out.later (by first | exact HB.out | exact below_drew1 HB.out))⟩ ?_ ?_
   rotate_left
   ·intro w' hS
    obtain ⟨h1, h2, h3⟩ := hS
    go_simp
    with_reducible rfl
   rotate_left
   ·simp only [Act.put, zsI, zs0, zs1]
    rfl
   refine one_ (i := 8) (N := some 21) #[true, true, true, true, true, true, true, true, true, false, false, false] rfl rfl (by kernel_rfl) (by simp) (fun K hK => ?_)
   refine goes_ Try.func99 (by kernel_rfl) rfl #[.agg #[.string k0, .string k1, .int .i64 k2], .int .i64 kv] (by rfl) rfl rfl (by simp only [List.map_toArray, List.map_cons, List.map_nil] <;> rfl) ?_
   refine (HEN.out _).mono ?_
   rintro e w7 ⟨rfl, hb⟩
   have n_HO := mkA (zrB HO.out hb)
   have n_HR := mkA (HR.out.later hb)
   have n_YY := mkA ((hb.block g5 (blk_lt YY.out)).trans YY.out)
   have n_HB := mkA (zbS HB.out hb)
   clear HO HR YY HB hb
   have HO := n_HO
   have HR := n_HR
   have YY := n_YY
   have HB := n_HB
   clear n_HO n_HR n_YY n_HB
   refine ⟨_, rfl, hK.out _ _ ⟨(HT.out.later (by first | exact HB.out | exact below_drew1 HB.out)).c, YY.out, HLK.out _ (HT.out.later (by first | exact HB.out | exact below_drew1 HB.out))⟩ (fun _ => ?_)⟩
   clear hK K
   refine norm_ (a' := ?_) ?_ ?_
   rotate_left
   ·simp only [Act.put, zsI, zs0, zs1]
    rfl
   refine one_ (i := 9) (N := some 22) #[true, true, true, true, true, true, true, true, true, true, false, false] rfl rfl (by kernel_rfl) (by simp) (fun K hK => ?_)
   refine value_ (w1 := ?_) (v := ?_) (by rfl) rfl ?_ ?_
   rotate_left 2
   ·go_simp
    constructor
    ·rfl
    ·rfl
   have HBA := mkA (below_alloc HB.out (.cells #[.int .i64 1, .string (entS k0 k1 k2 kv)] 79))
   refine hK.out _ _ ⟨(HT.out.later HBA.out).c, blk_alloc YY.out _, HLK.out _ (HT.out.later HBA.out)⟩ (fun _ => ?_)
   clear hK K
   refine norm_ (a' := ?_) ?_ ?_
   rotate_left
   ·simp only [Act.put, zsI, zs0, zs1]
    rfl
   refine one_ (i := 10) (N := some 23) #[true, true, true, true, true, true, true, true, true, true, true, false] rfl rfl (by kernel_rfl) (by simp) (fun K hK => ?_)
   refine Kd.R_append_step k79 (w0 := w) w.heap.size (by rfl) (.tmp 13) (.tmp 22) 99 79 (.agg #[(.int .i64 0), (.string ⟨#[]⟩)]) 24 (by rfl) Try.underlying99 info79 rfl (by decide) (by omega) _ acc (⟨1, entS k0 k1 k2 kv⟩ : Fr) [.int .i64 1, .string (entS k0 k1 k2 kv)] (fun _ => True) (fun _ => False) rfl rfl ?aP (fun _ hk => hk.elim) (fun _ _ => trivial) HO.out HB.out HB.out.size ?aL ?_
   case aP => exact ⟨[.int .i64 1], [.string (entS k0 k1 k2 kv)], rfl, rfl, rfl⟩
   case aL => have := HL1.out; omega
   intro v1 w9 hR9 hb9 hg9 hat9
   have n_R := mkA hR9
   have n_B := mkA hb9
   have n_Y := mkA (show w9.heap[g5]? = some (.cells #[.string k0, .string k1, .int .i64 k2] 74 (0, 0)) from (hg9.block g5 (blk_lt YY.out) (fun e => ((Kd.R_types HO.out YY.out (by decide)).1 _ e.symm).2 rfl)).trans YY.out)
   refine hK.out _ _ ⟨(HT.out.later hb9).c, n_Y.out, HLK.out _ (HT.out.later hb9)⟩ (fun _ => ?_)
   have n_S := mkA (HR.out.grown hg9 (fun g9 cur h9 e => ((Kd.R_types HO.out h9 (by decide)).1 _ e).2 rfl))
   clear hK K hR9 hb9 hg9 HO YY HB HBA hat9 HR
   have HR := n_S
   have HO := n_R
   have YY := n_Y
   have HB := n_B
   clear n_R n_Y n_B n_S
   refine norm_ (a' := ?_) ?_ ?_
   rotate_left
   ·simp only [Act.put, zsI, zs0, zs1]
    rfl
   refine pure_ (i := 11) (N := some 3) (v := ?_) (a' := ?_) #[true, true, true, true, true, true, true, true, true, true, true, true] rfl rfl (by kernel_rfl) (fun _ _ _ h => h) (Or.inl ⟨by rfl, ?_⟩) ?_ ?_
   rotate_left
   ·intro w'
    go_simp
    with_reducible rfl
   rotate_left
   ·simp only [Act.put, zsI, zs0, zs1]
    rfl
   refine done_ (by kernel_rfl) ?_
   have HO2 := mkA (show Kd.R k79 79 _ w.heap.size (fun _ => True) _ ((T.take (j + 1)).map frT) from by rw [HST.out, HFR.out]; exact HO.out)
   go_wp2_with fail
   go_roundw
   case rel => exact ⟨j + 1, by first | rfl | simp, by omega, HO2, HR, HB⟩
   case measure => simp [intOf]; omega
  ·obtain rfl : j = T.length := by omega
   have d1 : decide ((T.length : Int) < (T.length : Int)) = false := decide_eq_false (by omega)
   rw [List.take_length] at HO
   go_wp2_with fail
   go_ret
   exact ⟨_, rfl, HO.out, HB.out⟩
end Go.Proofs.Ytohhlkabejangaa.Of

import Derived.Test.YtohhlkabejangaaVOf14
namespace Go.Proofs.Ytohhlkabejangaa.Of
set_option linter.unusedVariables false
set_option linter.unusedSimpArgs false
open Go.RowKit Go.Maps Go.Sort Go.Lib Go.Shelf Go.Proofs.YtohhlkabejangaaW.PrintWords Go.Proofs.YtohhlkabejangaaW.PrintLast Go.Proofs.YtohhlkabejangaaW.PrintMore Go.Proofs.Ytohhlkabejangaa.POf Go.Proofs.Ytohhlkabejangaa.Wire
structure To where
  kind : Int
  pl : ByteArray
  err : Int
def To.v (x : To) : Value := .tuple #[.agg #[.int .i64 x.kind, .string x.pl], .int .i64 x.err]
def comE (T : List Rw) (k0 k1 : ByteArray) (k2 off : Int) : To :=
  if mayB k0 k1 k2 off = true then (if roomB T k0 = true then ⟨1, entS k0 k1 k2 off, 0⟩ else ⟨0, ⟨#[]⟩, 5⟩) else ⟨0, ⟨#[]⟩, 1⟩
def clrE (x : ByteArray) : To := if nameB x = true then ⟨2, textS x, 0⟩ else ⟨0, ⟨#[]⟩, 1⟩
set_option maxHeartbeats 16000000 in
set_option maxRecDepth 100000 in
theorem clr_tab (x : ByteArray) (hx : x.size ≤ 100000) (a : Nat) (w : World) : Calls Try.prog 55 #[.pointer (some ⟨a, 0, none⟩), .string x] w fun e w' => e = .returned (clrE x).v ∧ Below w.heap.size w w' := by
  have hund : ∀ b, some undef = some (Value.bool b) → False := fun b h => by simp [undef] at h
  have HB := Aside0.mk (Below.refl w.heap.size w)
  have HM := Aside0.mk (fun (W : World) => name_calls x hx W)
  have HTX := Aside0.mk (fun (W : World) => nums_Text.calls x _ W (Go.Proofs.Ytohhlkabejangaa.PureNums.text_eq x (by omega)))
  unfold clrE To.v
  obtain ⟨M, hM⟩ : ∃ M, nameB x = M := ⟨_, rfl⟩
  rw [hM] at HM ⊢
  clear hM
  cases M with
  | false =>
    go_enter Try.func55, Try.ntmps55
    go_wp2_with (first
      | ((with_reducible refine gate_dst (N := 4) rfl ?_); refine box_event rfl (N := 4) rfl (cs := #[.int .i64 0, .string ⟨#[]⟩]) (t := 79) ?hr ?_; (case hr => first | (go_simp; done) | (go_simp; rfl)); intro g6 hg6 w2 hbx hbl; have HX := Aside0.mk (below_step HB.out hbl); have Y := Aside0.mk hbx; have G6 := Aside0.mk (show w.heap.size ≤ g6 by rw [hg6]; exact HB.out.size); clear hbx hg6 hbl HB; have HB := HX; clear HX)
      | (go_at_call 74; refine (HM.out _).mono ?_; rintro e w8 ⟨rfl, hb⟩; have n_HB := Aside0.mk (below_step HB.out hb); have n_Y := Aside0.mk ((hb.block g6 (blk_lt Y.out)).trans Y.out); clear HB Y; have HB := n_HB; have Y := n_Y; clear n_HB n_Y; clear hb)
      | ((with_reducible refine gate_store (t := 79) (p := 4) rfl ?_); refine store_ev rfl rfl rfl (cells := #[.int .i64 0, .string ⟨#[]⟩]) rfl rfl Y.out (by kernel_rfl) rfl (by kernel_rfl) ?_; intro w9 hbx hgr; have HX := Aside0.mk (below_put HB.out G6.out hgr HB.out.size); have y0 : w9.cell? ⟨g6, 0, none⟩ = some (.int .i64 0) := (blk_cell hbx 0).trans rfl; have y1 : w9.cell? ⟨g6, 1, none⟩ = some (.string ⟨#[]⟩) := (blk_cell hbx 1).trans rfl; clear HB hbx hgr; have HB := HX; clear HX))
    exact bodyPost_ret (v := .tuple #[.agg #[.int .i64 0, .string ⟨#[]⟩], .int .i64 1]) (by simp [results, Try.results55, go_sem, y0, y1]) rfl ⟨rfl, HB.out⟩
  | true =>
    go_enter Try.func55, Try.ntmps55
    go_wp2_with (first
      | ((with_reducible refine gate_dst (N := 4) rfl ?_); refine box_event rfl (N := 4) rfl (cs := #[.int .i64 0, .string ⟨#[]⟩]) (t := 79) ?hr ?_; (case hr => first | (go_simp; done) | (go_simp; rfl)); intro g6 hg6 w2 hbx hbl; have HX := Aside0.mk (below_step HB.out hbl); have Y := Aside0.mk hbx; have G6 := Aside0.mk (show w.heap.size ≤ g6 by rw [hg6]; exact HB.out.size); clear hbx hg6 hbl HB; have HB := HX; clear HX)
      | (go_at_call 74; refine (HM.out _).mono ?_; rintro e w8 ⟨rfl, hb⟩; have n_HB := Aside0.mk (below_step HB.out hb); have n_Y := Aside0.mk ((hb.block g6 (blk_lt Y.out)).trans Y.out); clear HB Y; have HB := n_HB; have Y := n_Y; clear n_HB n_Y; clear hb)
      | (go_at_call 109; refine (HTX.out _).mono ?_; rintro e w7 ⟨rfl, hb⟩; have n_HB := Aside0.mk (below_step HB.out hb); have n_Y := Aside0.mk ((hb.block g6 (blk_lt Y.out)).trans Y.out); clear HB Y; have HB := n_HB; have Y := n_Y; clear n_HB n_Y; clear hb)
      | ((with_reducible refine gate_store (t := 79) (p := 4) rfl ?_); refine store_ev rfl rfl rfl (cells := #[.int .i64 2, .string (textS x)]) rfl rfl Y.out (by kernel_rfl) rfl (by kernel_rfl) ?_; intro w9 hbx hgr; have HX := Aside0.mk (below_put HB.out G6.out hgr HB.out.size); have y0 : w9.cell? ⟨g6, 0, none⟩ = some (.int .i64 2) := (blk_cell hbx 0).trans rfl; have y1 : w9.cell? ⟨g6, 1, none⟩ = some (.string (textS x)) := (blk_cell hbx 1).trans rfl; clear HB hbx hgr; have HB := HX; clear HX))
    exact bodyPost_ret (v := .tuple #[.agg #[.int .i64 2, .string (textS x)], .int .i64 0]) (by simp [results, Try.results55, go_sem, y0, y1]) rfl ⟨rfl, HB.out⟩
set_option maxHeartbeats 16000000 in
set_option maxRecDepth 100000 in
theorem comm_tab (a b : Nat) (T : List Rw) (k0 k1 : ByteArray) (k2 off : Int) (h0 : k0.size ≤ 100000) (h1 : k1.size ≤ 100000) (w : World) (h : Tab w a b T) (hn : T.length ≤ 1000000) : Calls Try.prog 49 #[.pointer (some ⟨a, 0, none⟩), .agg #[.string k0, .string k1, .int .i64 k2], .int .i64 off] w fun e w' => e = .returned (comE T k0 k1 k2 off).v ∧ Below w.heap.size w w' := by
  have hund : ∀ b, some undef = some (Value.bool b) → False := fun b h => by simp [undef] at h
  have HB := Aside0.mk (Below.refl w.heap.size w)
  have HM := Aside0.mk (fun (W : World) => offsets_may.calls 20 k0 k1 k2 off _ W (may_f k0 k1 k2 off (by omega) (by omega) 20 (Nat.le_refl _)))
  have HRM := Aside0.mk (fun (W : World) (h : Below w.heap.size w W) => room_tab a b T k0 W (Tab.later ‹Tab w a b T› h) hn)
  have HEN := Aside0.mk (fun (W : World) (h : mayB k0 k1 k2 off = true) => offsets_entry.calls k0 k1 k2 off _ _ W (entry_f h))
  unfold comE To.v
  clear h h0 h1
  obtain ⟨M, hM⟩ : ∃ M, mayB k0 k1 k2 off = M := ⟨_, rfl⟩
  rw [hM] at HM HEN ⊢
  clear hM
  cases M with
  | false =>
    go_enter Try.func49, Try.ntmps49
    go_wp2_with (first
      | ((with_reducible refine gate_dst (N := 4) rfl ?_); refine box_event rfl (N := 4) rfl (cs := #[.string k0, .string k1, .int .i64 k2]) (t := 74) ?hr ?_; (case hr => first | (go_simp; done) | (go_simp; rfl)); intro g4 hg4 w1 hbx hbl; have HX := Aside0.mk (below_step HB.out hbl); have K4 := Aside0.mk hbx; have c40 : w1.cell? ⟨g4, 0, none⟩ = some (.string k0) := (blk_cell hbx 0).trans rfl; clear hbx hg4 hbl HB; have HB := HX; clear HX)
      | ((with_reducible refine gate_dst (N := 6) rfl ?_); refine box_event rfl (N := 6) rfl (cs := #[.int .i64 0, .string ⟨#[]⟩]) (t := 79) ?hr ?_; (case hr => first | (go_simp; done) | (go_simp; rfl)); intro g6 hg6 w2 hbx hbl; have HX := Aside0.mk (below_step HB.out hbl); have Y := Aside0.mk hbx; have G6 := Aside0.mk (show w.heap.size ≤ g6 by rw [hg6]; exact HB.out.size); have n_K := Aside0.mk ((hbl.block g4 (blk_lt K4.out)).trans K4.out); clear K4; have K4 := n_K; clear n_K; have c40 : w2.cell? ⟨g4, 0, none⟩ = some (.string k0) := (blk_cell K4.out 0).trans rfl; clear hbx hg6 hbl HB; have HB := HX; clear HX)
      | ((with_reducible refine gate_dst (N := 13) rfl ?_); refine load_ev (N := 13) rfl rfl rfl (cs := #[.string k0, .string k1, .int .i64 k2]) rfl K4.out Try.underlying74 rfl (by kernel_rfl) ?_)
      | (go_at_call 97; refine (HM.out _).mono ?_; rintro e w5 ⟨rfl, hb⟩; have n_HB := Aside0.mk (below_step HB.out hb); have n_Y := Aside0.mk ((hb.block g6 (blk_lt Y.out)).trans Y.out); have n_K4 := Aside0.mk ((hb.block g4 (blk_lt K4.out)).trans K4.out); clear HB Y K4; have HB := n_HB; have Y := n_Y; have K4 := n_K4; clear n_HB n_Y n_K4; clear hb; have c40 : w5.cell? ⟨g4, 0, none⟩ = some (.string k0) := (blk_cell K4.out 0).trans rfl)
      | ((with_reducible refine gate_store (t := 79) (p := 6) rfl ?_); refine store_ev rfl rfl rfl (cells := #[.int .i64 0, .string ⟨#[]⟩]) rfl rfl Y.out (by kernel_rfl) rfl (by kernel_rfl) ?_; intro w9 hbx hgr; have HX := Aside0.mk (below_put HB.out G6.out hgr HB.out.size); have y0 : w9.cell? ⟨g6, 0, none⟩ = some (.int .i64 0) := (blk_cell hbx 0).trans rfl; have y1 : w9.cell? ⟨g6, 1, none⟩ = some (.string ⟨#[]⟩) := (blk_cell hbx 1).trans rfl; clear HB hbx hgr; have HB := HX; clear HX))
    exact bodyPost_ret (v := .tuple #[.agg #[.int .i64 0, .string ⟨#[]⟩], .int .i64 1]) (by simp [results, Try.results49, go_sem, y0, y1]) rfl ⟨rfl, HB.out⟩
  | true =>
    obtain ⟨M, hM⟩ : ∃ M, roomB T k0 = M := ⟨_, rfl⟩
    rw [hM] at HRM ⊢
    clear hM
    cases M with
    | false =>
      go_enter Try.func49, Try.ntmps49
      go_wp2_with (first
        | ((with_reducible refine gate_dst (N := 4) rfl ?_); refine box_event rfl (N := 4) rfl (cs := #[.string k0, .string k1, .int .i64 k2]) (t := 74) ?hr ?_; (case hr => first | (go_simp; done) | (go_simp; rfl)); intro g4 hg4 w1 hbx hbl; have HX := Aside0.mk (below_step HB.out hbl); have K4 := Aside0.mk hbx; have c40 : w1.cell? ⟨g4, 0, none⟩ = some (.string k0) := (blk_cell hbx 0).trans rfl; clear hbx hg4 hbl HB; have HB := HX; clear HX)
        | ((with_reducible refine gate_dst (N := 6) rfl ?_); refine box_event rfl (N := 6) rfl (cs := #[.int .i64 0, .string ⟨#[]⟩]) (t := 79) ?hr ?_; (case hr => first | (go_simp; done) | (go_simp; rfl)); intro g6 hg6 w2 hbx hbl; have HX := Aside0.mk (below_step HB.out hbl); have Y := Aside0.mk hbx; have G6 := Aside0.mk (show w.heap.size ≤ g6 by rw [hg6]; exact HB.out.size); have n_K := Aside0.mk ((hbl.block g4 (blk_lt K4.out)).trans K4.out); clear K4; have K4 := n_K; clear n_K; have c40 : w2.cell? ⟨g4, 0, none⟩ = some (.string k0) := (blk_cell K4.out 0).trans rfl; clear hbx hg6 hbl HB; have HB := HX; clear HX)
        | ((with_reducible refine gate_dst (N := 13) rfl ?_); refine load_ev (N := 13) rfl rfl rfl (cs := #[.string k0, .string k1, .int .i64 k2]) rfl K4.out Try.underlying74 rfl (by kernel_rfl) ?_)
        | (go_at_call 97; refine (HM.out _).mono ?_; rintro e w5 ⟨rfl, hb⟩; have n_HB := Aside0.mk (below_step HB.out hb); have n_Y := Aside0.mk ((hb.block g6 (blk_lt Y.out)).trans Y.out); have n_K4 := Aside0.mk ((hb.block g4 (blk_lt K4.out)).trans K4.out); clear HB Y K4; have HB := n_HB; have Y := n_Y; have K4 := n_K4; clear n_HB n_Y n_K4; clear hb; have c40 : w5.cell? ⟨g4, 0, none⟩ = some (.string k0) := (blk_cell K4.out 0).trans rfl)
        | (go_at_call 98; refine (HRM.out _ HB.out).mono ?_; rintro e w6 ⟨rfl, hb⟩; have n_HB := Aside0.mk (below_step HB.out hb); have n_Y := Aside0.mk ((hb.block g6 (blk_lt Y.out)).trans Y.out); have n_K4 := Aside0.mk ((hb.block g4 (blk_lt K4.out)).trans K4.out); clear HB Y K4; have HB := n_HB; have Y := n_Y; have K4 := n_K4; clear n_HB n_Y n_K4; clear hb)
        | ((with_reducible refine gate_store (t := 79) (p := 6) rfl ?_); refine store_ev rfl rfl rfl (cells := #[.int .i64 0, .string ⟨#[]⟩]) rfl rfl Y.out (by kernel_rfl) rfl (by kernel_rfl) ?_; intro w9 hbx hgr; have HX := Aside0.mk (below_put HB.out G6.out hgr HB.out.size); have y0 : w9.cell? ⟨g6, 0, none⟩ = some (.int .i64 0) := (blk_cell hbx 0).trans rfl; have y1 : w9.cell? ⟨g6, 1, none⟩ = some (.string ⟨#[]⟩) := (blk_cell hbx 1).trans rfl; clear HB hbx hgr; have HB := HX; clear HX))
      exact bodyPost_ret (v := .tuple #[.agg #[.int .i64 0, .string ⟨#[]⟩], .int .i64 5]) (by simp [results, Try.results49, go_sem, y0, y1]) rfl ⟨rfl, HB.out⟩
    | true =>
      go_enter Try.func49, Try.ntmps49
      go_wp2_with (first
        | ((with_reducible refine gate_dst (N := 4) rfl ?_); refine box_event rfl (N := 4) rfl (cs := #[.string k0, .string k1, .int .i64 k2]) (t := 74) ?hr ?_; (case hr => first | (go_simp; done) | (go_simp; rfl)); intro g4 hg4 w1 hbx hbl; have HX := Aside0.mk (below_step HB.out hbl); have K4 := Aside0.mk hbx; have c40 : w1.cell? ⟨g4, 0, none⟩ = some (.string k0) := (blk_cell hbx 0).trans rfl; clear hbx hg4 hbl HB; have HB := HX; clear HX)
        | ((with_reducible refine gate_dst (N := 6) rfl ?_); refine box_event rfl (N := 6) rfl (cs := #[.int .i64 0, .string ⟨#[]⟩]) (t := 79) ?hr ?_; (case hr => first | (go_simp; done) | (go_simp; rfl)); intro g6 hg6 w2 hbx hbl; have HX := Aside0.mk (below_step HB.out hbl); have Y := Aside0.mk hbx; have G6 := Aside0.mk (show w.heap.size ≤ g6 by rw [hg6]; exact HB.out.size); have n_K := Aside0.mk ((hbl.block g4 (blk_lt K4.out)).trans K4.out); clear K4; have K4 := n_K; clear n_K; have c40 : w2.cell? ⟨g4, 0, none⟩ = some (.string k0) := (blk_cell K4.out 0).trans rfl; clear hbx hg6 hbl HB; have HB := HX; clear HX)
        | ((with_reducible refine gate_dst (N := 13) rfl ?_); refine load_ev (N := 13) rfl rfl rfl (cs := #[.string k0, .string k1, .int .i64 k2]) rfl K4.out Try.underlying74 rfl (by kernel_rfl) ?_)
        | (go_at_call 97; refine (HM.out _).mono ?_; rintro e w5 ⟨rfl, hb⟩; have n_HB := Aside0.mk (below_step HB.out hb); have n_Y := Aside0.mk ((hb.block g6 (blk_lt Y.out)).trans Y.out); have n_K4 := Aside0.mk ((hb.block g4 (blk_lt K4.out)).trans K4.out); clear HB Y K4; have HB := n_HB; have Y := n_Y; have K4 := n_K4; clear n_HB n_Y n_K4; clear hb; have c40 : w5.cell? ⟨g4, 0, none⟩ = some (.string k0) := (blk_cell K4.out 0).trans rfl)
        | (go_at_call 98; refine (HRM.out _ HB.out).mono ?_; rintro e w6 ⟨rfl, hb⟩; have n_HB := Aside0.mk (below_step HB.out hb); have n_Y := Aside0.mk ((hb.block g6 (blk_lt Y.out)).trans Y.out); have n_K4 := Aside0.mk ((hb.block g4 (blk_lt K4.out)).trans K4.out); clear HB Y K4; have HB := n_HB; have Y := n_Y; have K4 := n_K4; clear n_HB n_Y n_K4; clear hb)
        | ((with_reducible refine gate_dst (N := 25) rfl ?_); refine load_ev (N := 25) rfl rfl rfl (cs := #[.string k0, .string k1, .int .i64 k2]) rfl K4.out Try.underlying74 rfl (by kernel_rfl) ?_)
        | (go_at_call 99; refine (HEN.out _ (by first | rfl | trivial)).mono ?_; rintro e w7 ⟨rfl, hb⟩; have n_HB := Aside0.mk (below_step HB.out hb); have n_Y := Aside0.mk ((hb.block g6 (blk_lt Y.out)).trans Y.out); have n_K4 := Aside0.mk ((hb.block g4 (blk_lt K4.out)).trans K4.out); clear HB Y K4; have HB := n_HB; have Y := n_Y; have K4 := n_K4; clear n_HB n_Y n_K4; clear hb)
        | ((with_reducible refine gate_store (t := 79) (p := 6) rfl ?_); refine store_ev rfl rfl rfl (cells := #[.int .i64 1, .string (entS k0 k1 k2 off)]) rfl rfl Y.out (by kernel_rfl) rfl (by kernel_rfl) ?_; intro w9 hbx hgr; have HX := Aside0.mk (below_put HB.out G6.out hgr HB.out.size); have y0 : w9.cell? ⟨g6, 0, none⟩ = some (.int .i64 1) := (blk_cell hbx 0).trans rfl; have y1 : w9.cell? ⟨g6, 1, none⟩ = some (.string (entS k0 k1 k2 off)) := (blk_cell hbx 1).trans rfl; clear HB hbx hgr; have HB := HX; clear HX))
      exact bodyPost_ret (v := .tuple #[.agg #[.int .i64 1, .string (entS k0 k1 k2 off)], .int .i64 0]) (by simp [results, Try.results49, go_sem, y0, y1]) rfl ⟨rfl, HB.out⟩
abbrev Fr := S79
def frT (r : Rw) : Fr := ⟨1, entS r.k.g r.k.t r.k.p r.v⟩
def okT (T : List Rw) : Prop := ∀ r ∈ T, mayB r.k.g r.k.t r.k.p r.v = true
theorem RowK.grown {W W' : World} {A : Option Addr} {ys : List Ky} {r : Option Nat} (h : RowK W A ys) (hg : W.grownBy W' r) (hm : ∀ g cur, W.heap[g]? = some (.cells cur 74 (0, 0)) → r ≠ some g) : RowK W' A ys := fun hn => by
  obtain ⟨g, cur, e, h1, h2⟩ := h hn
  exact ⟨g, cur, e, (hg.block g (Array.getElem?_eq_some_iff.1 h1).1 (fun e => hm g cur h1 e.symm)).trans h1, h2⟩
end Go.Proofs.Ytohhlkabejangaa.Of

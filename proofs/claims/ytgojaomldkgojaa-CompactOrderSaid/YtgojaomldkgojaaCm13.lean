import Derived.Test.YtgojaomldkgojaaCm12
namespace Go.Proofs.Ytgojaomldkgojaa.Cm
set_option linter.unusedVariables false
set_option linter.unusedSimpArgs false
open Go.RowKit Go.Maps Go.Proofs.YtgojaomldkgojaaW.PrintWords Go.Proofs.YtgojaomldkgojaaW.PrintLast Go.Proofs.YtgojaomldkgojaaW.PrintMore Go.Proofs.Ytgojaomldkgojaa.PCm Go.Proofs.Ytgojaomldkgojaa.Wire
/-- records that come in: n of them, with room for k -/
def Rs (k : Nat) (W : World) (A : Option Addr) (n : Nat) (l : List Rc) : Prop := l.length = n ∧ n ≤ k ∧ Kd.C k32 W A n l
theorem big_no {l : List Rc} (h : recsBig l = false) : l.length ≤ 40 ∧ ∀ r ∈ l, r.f2.size ≤ 1000 := by
  unfold recsBig at h
  simp only [Bool.or_eq_false_iff, decide_eq_false_iff_not, Nat.not_lt] at h
  refine ⟨h.1, fun r hr => ?_⟩
  have h9 := (List.any_eq_false.1 h.2) r hr
  simp [rBig] at h9
  omega
set_option maxHeartbeats 16000000 in
set_option maxRecDepth 100000 in
theorem keeps_calls (l : List Rc) (A : Option Addr) (n k : Nat) (dead : Int) (w : World) (hp : Rs k w A n l) :
    Calls Try.prog 3 #[.slice A n k, .int .i64 dead] w fun e w' => e = .returned (.bool true) ∧ Below w.heap.size w w' := by
  have hund : ∀ b, some undef = some (Value.bool b) → False := fun b h => by simp [undef] at h
  obtain ⟨rfl, hnk, hC⟩ := hp
  have HC := Aside0.mk hC
  have hlg := Aside0.mk (large_calls A k l w hC)
  clear hC
  cases hbig : recsBig l with
  | true =>
    rw [hbig] at hlg
    go_enter Try.func3, Try.ntmps3
    go_wp2_with fail
    refine hlg.out.mono ?_
    rintro e w1 ⟨rfl, hb⟩
    have HB := Aside0.mk hb
    clear hb hlg
    go_wp2_with fail
    refine (four_calls w1).mono ?_
    rintro e w2 ⟨rfl, hb⟩
    have HB2 := Aside0.mk (below_step HB.out hb)
    clear hb HB
    go_wp2_with fail
    go_ret
    exact ⟨rfl, HB2.out⟩
  | false =>
    rw [hbig] at hlg
    obtain ⟨hl, hz⟩ := big_no hbig
    have HZ := Aside0.mk hz
    clear hz hbig
    have hlen := keep_len dead l
    have hw : IntKind.i64.wrap ((l.length : Int) - ((keepF dead l).length : Int)) = (l.length : Int) - ((keepF dead l).length : Int) := IntWalk.i64_in _ (by omega)
    have hwe : ((l.length : Int) - ((keepF dead l).length : Int) == (l.length : Int) - ((keepF dead l).length : Int)) = true := beq_self_eq_true _
    obtain ⟨kf, hkf⟩ : ∃ kf, keepF dead l = kf := ⟨_, rfl⟩
    obtain ⟨vf, hvf⟩ : ∃ vf, viewR l = vf := ⟨_, rfl⟩
    rw [hkf] at hlen hw hwe
    go_enter Try.func3, Try.ntmps3
    go_wp2_with fail
    refine hlg.out.mono ?_
    rintro e w1 ⟨rfl, hb⟩
    have HB := Aside0.mk hb
    have n_HC := Aside0.mk (Kd.C_below HC.out hb)
    clear HC hb hlg
    have HC := n_HC
    clear n_HC
    go_wp2_with fail
    refine (keep_calls A k l dead w1 HC.out (by omega) HZ.out).mono ?_
    rintro e w2 ⟨u1, rfl, hR, hb⟩
    rw [hkf] at hR
    obtain ⟨A1, c1, hu1, hc1, hC1⟩ := Kd.R_reads hR
    subst hu1
    have n_HC := Aside0.mk (Kd.C_below HC.out hb)
    have n_HB := Aside0.mk (below_step HB.out hb)
    clear HC HB hR hb
    have HC := n_HC
    have HB := n_HB
    clear n_HC n_HB
    have HC1 := Aside0.mk hC1
    clear hC1
    go_wp2_with fail
    refine (rkeep_calls A k l dead w2 HC.out hnk (by omega)).mono ?_
    rintro e w3 ⟨u2, rfl, hR, hb⟩
    rw [hkf] at hR
    obtain ⟨A2, c2, hu2, hc2, hC2⟩ := Kd.R_reads hR
    subst hu2
    have n_HC := Aside0.mk (Kd.C_below HC.out hb)
    have n_HB := Aside0.mk (below_step HB.out hb)
    have n_HC1 := Aside0.mk (Kd.C_below HC1.out hb)
    clear HC HB HC1 hR hb
    have HC := n_HC
    have HB := n_HB
    have HC1 := n_HC1
    clear n_HC n_HB n_HC1
    have HC2 := Aside0.mk hC2
    clear hC2
    go_wp2_with fail
    refine (same_calls A1 A2 c1 c2 kf w3 HC1.out HC2.out).mono ?_
    rintro e w4 ⟨rfl, hb⟩
    have n_HC := Aside0.mk (Kd.C_below HC.out hb)
    have n_HB := Aside0.mk (below_step HB.out hb)
    have n_HC1 := Aside0.mk (Kd.C_below HC1.out hb)
    clear HC HB HC1 hb
    have HC := n_HC
    have HB := n_HB
    have HC1 := n_HC1
    clear n_HC n_HB n_HC1
    go_wp2_with fail
    refine (pview_calls A k l w4 HC.out (by omega) HZ.out).mono ?_
    rintro e w5 ⟨u3, rfl, hR, hb⟩
    rw [hvf] at hR
    obtain ⟨A3, c3, hu3, hc3, hC3⟩ := Kd.R_reads hR
    subst hu3
    have n_HC := Aside0.mk (Kd.C_below HC.out hb)
    have n_HB := Aside0.mk (below_step HB.out hb)
    have n_HC1 := Aside0.mk (Kd.C_below HC1.out hb)
    clear HC HB HC1 hR hb
    have HC := n_HC
    have HB := n_HB
    have HC1 := n_HC1
    clear n_HC n_HB n_HC1
    have HC3 := Aside0.mk hC3
    clear hC3
    go_wp2_with fail
    refine (rview_calls A k l w5 HC.out hnk (by omega)).mono ?_
    rintro e w6 ⟨u4, rfl, hR, hb⟩
    rw [hvf] at hR
    obtain ⟨A4, c4, hu4, hc4, hC4⟩ := Kd.R_reads hR
    subst hu4
    have n_HC := Aside0.mk (Kd.C_below HC.out hb)
    have n_HB := Aside0.mk (below_step HB.out hb)
    have n_HC1 := Aside0.mk (Kd.C_below HC1.out hb)
    have n_HC3 := Aside0.mk (Kd.C_below HC3.out hb)
    clear HC HB HC1 HC3 hR hb
    have HC := n_HC
    have HB := n_HB
    have HC1 := n_HC1
    have HC3 := n_HC3
    clear n_HC n_HB n_HC1 n_HC3
    have HC4 := Aside0.mk hC4
    clear hC4
    go_wp2_with fail
    refine (same_calls A3 A4 c3 c4 vf w6 HC3.out HC4.out).mono ?_
    rintro e w7 ⟨rfl, hb⟩
    have n_HC := Aside0.mk (Kd.C_below HC.out hb)
    have n_HB := Aside0.mk (below_step HB.out hb)
    have n_HC1 := Aside0.mk (Kd.C_below HC1.out hb)
    clear HC HB HC1 hb
    have HC := n_HC
    have HB := n_HB
    have HC1 := n_HC1
    clear n_HC n_HB n_HC1
    go_wp2_with fail
    refine (garbage_calls A k l dead w7 HC.out (by omega) HZ.out).mono ?_
    rw [hkf]
    rintro e w8 ⟨rfl, hb⟩
    have n_HC := Aside0.mk (Kd.C_below HC.out hb)
    have n_HB := Aside0.mk (below_step HB.out hb)
    clear HC HB hb
    have HC := n_HC
    have HB := n_HB
    clear n_HC n_HB
    go_wp2_with fail
    refine (four_calls w8).mono ?_
    rintro e w9 ⟨rfl, hb⟩
    have n_HC := Aside0.mk (Kd.C_below HC.out hb)
    have n_HB := Aside0.mk (below_step HB.out hb)
    clear HC HB hb
    have HC := n_HC
    have HB := n_HB
    clear n_HC n_HB
    go_wp2_with fail
    go_ret
    exact ⟨rfl, HB.out⟩
set_option maxHeartbeats 16000000 in
set_option maxRecDepth 100000 in
theorem views_big (l more : List Rc) (A B : Option Addr) (n k m c : Nat) (dead : Int) (w : World) (hp : Rs k w A n l) (hq : Rs c w B m more) (hbig : recsBig l = true ∨ recsBig l = false ∧ recsBig more = true) :
    Calls Try.prog 4 #[.slice A n k, .slice B m c, .int .i64 dead] w fun e w' => e = .returned (.bool true) ∧ Below w.heap.size w w' := by
  have hund : ∀ b, some undef = some (Value.bool b) → False := fun b h => by simp [undef] at h
  obtain ⟨rfl, hnk, hC⟩ := hp
  obtain ⟨rfl, hmc, hD⟩ := hq
  have hlg := Aside0.mk (large_calls A k l w hC)
  have HD := Aside0.mk hD
  clear hC hD
  rcases hbig with hbig | ⟨hbig, hbig2⟩
  · rw [hbig] at hlg
    go_enter Try.func4, Try.ntmps4
    go_wp2_with fail
    refine hlg.out.mono ?_
    rintro e w1 ⟨rfl, hb⟩
    have HB := Aside0.mk hb
    clear hb hlg
    go_wp2_with fail
    refine (four_calls w1).mono ?_
    rintro e w2 ⟨rfl, hb⟩
    have HB2 := Aside0.mk (below_step HB.out hb)
    clear hb HB
    go_wp2_with fail
    go_ret
    exact ⟨rfl, HB2.out⟩
  · rw [hbig] at hlg
    go_enter Try.func4, Try.ntmps4
    go_wp2_with fail
    refine hlg.out.mono ?_
    rintro e w1 ⟨rfl, hb⟩
    have HB := Aside0.mk hb
    have hlg2 := Aside0.mk (large_calls B c more w1 (Kd.C_below HD.out hb))
    rw [hbig2] at hlg2
    clear hb hlg
    go_wp2_with fail
    refine hlg2.out.mono ?_
    rintro e w3 ⟨rfl, hb⟩
    have HB2 := Aside0.mk (below_step HB.out hb)
    clear hb HB hlg2
    go_wp2_with fail
    refine (four_calls w3).mono ?_
    rintro e w4 ⟨rfl, hb⟩
    have HB3 := Aside0.mk (below_step HB2.out hb)
    clear hb HB2
    go_wp2_with fail
    go_ret
    exact ⟨rfl, HB3.out⟩
set_option maxHeartbeats 16000000 in
set_option maxRecDepth 100000 in
theorem views_calls (l : List Rc) (A : Option Addr) (n k : Nat) (more : List Rc) (B : Option Addr) (m c : Nat) (dead : Int) (w : World) (hp : Rs k w A n l) (hq : Rs c w B m more) :
    Calls Try.prog 4 #[.slice A n k, .slice B m c, .int .i64 dead] w fun e w' => e = .returned (.bool true) ∧ Below w.heap.size w w' := by
  have hund : ∀ b, some undef = some (Value.bool b) → False := fun b h => by simp [undef] at h
  cases hbig : recsBig l with
  | true => exact views_big l more A B n k m c dead w hp hq (.inl hbig)
  | false =>
  cases hbig2 : recsBig more with
  | true => exact views_big l more A B n k m c dead w hp hq (.inr ⟨hbig, hbig2⟩)
  | false =>
    obtain ⟨rfl, hnk, hC⟩ := hp
    obtain ⟨rfl, hmc, hD⟩ := hq
    have hlg := Aside0.mk (large_calls A k l w hC)
    have HC := Aside0.mk hC
    have HD := Aside0.mk hD
    clear hC hD
    rw [hbig] at hlg
    obtain ⟨hl, hz⟩ := big_no hbig
    obtain ⟨hl2, hz2⟩ := big_no hbig2
    have hkl := keep_len dead l
    have hzk : ∀ r ∈ keepF dead l, r.f2.size ≤ 1000 := fun r hr => hz r (keepF_mem dead l r hr)
    have hza : ∀ r ∈ l ++ more, r.f2.size ≤ 1000 := fun r hr => (List.mem_append.1 hr).elim (hz r) (hz2 r)
    have hzb : ∀ r ∈ keepF dead l ++ more, r.f2.size ≤ 1000 := fun r hr => (List.mem_append.1 hr).elim (hzk r) (hz2 r)
    have hvk := viewR_keep0 dead l
    have hkk := keepF_keepF dead l
    have hvb := viewR_keep dead l more
    obtain ⟨kf, hkf⟩ : ∃ kf, keepF dead l = kf := ⟨_, rfl⟩
    obtain ⟨vf, hvf⟩ : ∃ vf, viewR l = vf := ⟨_, rfl⟩
    obtain ⟨va, hva⟩ : ∃ va, viewR (l ++ more) = va := ⟨_, rfl⟩
    rw [hkf] at hzk hzb hvk hvb hkk hkl
    rw [hvf] at hvk
    rw [hva] at hvb
    have hgb : ((kf.length : Int) - ((keepF dead kf).length : Int)) = 0 := by rw [hkk]; omega
    have HZ := Aside0.mk hz
    have HZk := Aside0.mk hzk
    have HZa := Aside0.mk hza
    have HZb := Aside0.mk hzb
    clear hz hzk hza hzb hz2
    have hla : (l ++ more).length ≤ 1000 := by rw [List.length_append]; omega
    have hlb : (kf ++ more).length ≤ 1000 := by rw [List.length_append]; omega
    obtain ⟨la, hLA⟩ : ∃ x, l ++ more = x := ⟨_, rfl⟩
    obtain ⟨lb, hLB⟩ : ∃ x, kf ++ more = x := ⟨_, rfl⟩
    rw [hLA] at hla hva HZa
    rw [hLB] at hlb hvb HZb
    have HLA := Aside0.mk hLA
    have HLB := Aside0.mk hLB
    clear hLA hLB
    go_enter Try.func4, Try.ntmps4
    go_wp2_with fail
    refine hlg.out.mono ?_
    rintro e w1 ⟨rfl, hb⟩
    have HB := Aside0.mk hb
    have hlg2 := Aside0.mk (large_calls B c more w1 (Kd.C_below HD.out hb))
    rw [hbig2] at hlg2
    have n_HC := Aside0.mk (Kd.C_below HC.out hb)
    have n_HD := Aside0.mk (Kd.C_below HD.out hb)
    clear HC HD hb hlg
    have HC := n_HC
    have HD := n_HD
    clear n_HC n_HD
    go_wp2_with fail
    refine hlg2.out.mono ?_
    rintro e w2 ⟨rfl, hb⟩
    have n_HC := Aside0.mk (Kd.C_below HC.out hb)
    have n_HD := Aside0.mk (Kd.C_below HD.out hb)
    have n_HB := Aside0.mk (below_step HB.out hb)
    clear HC HD HB hb hlg2
    have HC := n_HC
    have HD := n_HD
    have HB := n_HB
    clear n_HC n_HD n_HB
    go_wp2_with fail
    refine (keep_calls A k l dead w2 HC.out (by omega) HZ.out).mono ?_
    rintro e w3 ⟨u1, rfl, hR, hb⟩
    rw [hkf] at hR
    obtain ⟨A1, c1, hu1, hc1, hC1⟩ := Kd.R_reads hR
    subst hu1
    have n_HC := Aside0.mk (Kd.C_below HC.out hb)
    have n_HB := Aside0.mk (below_step HB.out hb)
    have n_HD := Aside0.mk (Kd.C_below HD.out hb)
    clear HC HB HD hR hb
    have HC := n_HC
    have HB := n_HB
    have HD := n_HD
    clear n_HC n_HB n_HD
    have HC1 := Aside0.mk hC1
    clear hC1
    have Ra : Aside0 (Kd.R k32 32 w3 w3.heap.size (fun _ => True) (.slice none 0 0) []) := ⟨Kd.R_nil _ _ _ _ _⟩
    have Ha := Aside0.mk (Below.refl w3.heap.size w3)
    go_wp2_with (first
      | ((with_reducible refine gate_builtin (b := .append) (xs := #[.tmp 20, .tmp 21]) rfl ?_); at_builtin; refine Kd.R_append_rows k32 (w0 := w3) w3.heap.size rfl (.tmp 20) (.tmp 21) 22 32 (.agg #[.int .i64 0, .int .i64 0, .string ⟨#[]⟩, .string ⟨#[]⟩, .bool false, .int .i64 0, .int .i64 0, .int .i64 0]) 80 rfl Try.underlying22 info32 rfl (by decide) (by decide) _ [] l A l.length k (fun _ => True) (fun _ => False) rfl rfl Ra.out (Kd.C_below HC.out Ha.out) (fun x cs hx => by rw [k32_open hx]; exact k32_mkM _ _ _ _) (fun _ hk => hk.elim) (fun _ _ => trivial) Ha.out Ha.out.size ?aL ?_; (case aL => (try simp only [List.length_nil, Nat.zero_add]); omega); intro xa1 w4 ho hb hgr hat; have n_R : Aside0 (Kd.R k32 32 w4 w3.heap.size (fun _ => True) xa1 (l)) := ⟨ho⟩; clear Ra Ha ho hgr hat; have Ra := n_R; have Ha := Aside0.mk hb; clear hb n_R)
      | ((with_reducible refine gate_builtin (b := .append) (xs := #[.tmp 23, .tmp 24]) rfl ?_); at_builtin; refine Kd.R_append_rows k32 (w0 := w3) w3.heap.size rfl (.tmp 23) (.tmp 24) 22 32 (.agg #[.int .i64 0, .int .i64 0, .string ⟨#[]⟩, .string ⟨#[]⟩, .bool false, .int .i64 0, .int .i64 0, .int .i64 0]) 80 rfl Try.underlying22 info32 rfl (by decide) (by decide) _ l more B more.length c (fun _ => True) (fun _ => False) rfl rfl Ra.out (Kd.C_below HD.out Ha.out) (fun x cs hx => by rw [k32_open hx]; exact k32_mkM _ _ _ _) (fun _ hk => hk.elim) (fun _ _ => trivial) Ha.out Ha.out.size ?aL ?_; (case aL => (try simp only [List.length_nil, Nat.zero_add]); omega); intro xa2 w5 ho hb hgr hat; have n_R : Aside0 (Kd.R k32 32 w5 w3.heap.size (fun _ => True) xa2 (la)) := ⟨by rw [← HLA.out]; exact ho⟩; clear Ra Ha ho hgr hat; have Ra := n_R; have Ha := Aside0.mk hb; clear hb n_R; have Rb : Aside0 (Kd.R k32 32 w5 w5.heap.size (fun _ => True) (.slice none 0 0) []) := ⟨Kd.R_nil _ _ _ _ _⟩; have Hb := Aside0.mk (Below.refl w5.heap.size w5))
      | ((with_reducible refine gate_builtin (b := .append) (xs := #[.tmp 26, .tmp 27]) rfl ?_); at_builtin; refine Kd.R_append_rows k32 (w0 := w5) w5.heap.size rfl (.tmp 26) (.tmp 27) 22 32 (.agg #[.int .i64 0, .int .i64 0, .string ⟨#[]⟩, .string ⟨#[]⟩, .bool false, .int .i64 0, .int .i64 0, .int .i64 0]) 80 rfl Try.underlying22 info32 rfl (by decide) (by decide) _ [] kf A1 kf.length c1 (fun _ => True) (fun _ => False) rfl rfl Rb.out (Kd.C_below HC1.out (below_step Ha.out Hb.out)) (fun x cs hx => by rw [k32_open hx]; exact k32_mkM _ _ _ _) (fun _ hk => hk.elim) (fun _ _ => trivial) Hb.out Hb.out.size ?aL ?_; (case aL => (try simp only [List.length_nil, Nat.zero_add]); omega); intro xb1 w6 ho hb hgr hat; have n_R : Aside0 (Kd.R k32 32 w6 w5.heap.size (fun _ => True) xb1 (kf)) := ⟨ho⟩; clear Rb Hb ho hgr hat; have Rb := n_R; have Hb := Aside0.mk hb; clear hb n_R)
      | ((with_reducible refine gate_builtin (b := .append) (xs := #[.tmp 29, .tmp 30]) rfl ?_); at_builtin; refine Kd.R_append_rows k32 (w0 := w5) w5.heap.size rfl (.tmp 29) (.tmp 30) 22 32 (.agg #[.int .i64 0, .int .i64 0, .string ⟨#[]⟩, .string ⟨#[]⟩, .bool false, .int .i64 0, .int .i64 0, .int .i64 0]) 80 rfl Try.underlying22 info32 rfl (by decide) (by decide) _ kf more B more.length c (fun _ => True) (fun _ => False) rfl rfl Rb.out (Kd.C_below HD.out (below_step Ha.out Hb.out)) (fun x cs hx => by rw [k32_open hx]; exact k32_mkM _ _ _ _) (fun _ hk => hk.elim) (fun _ _ => trivial) Hb.out Hb.out.size ?aL ?_; (case aL => (try simp only [List.length_nil, Nat.zero_add]); omega); intro xb2 w7 ho hb hgr hat; have n_R : Aside0 (Kd.R k32 32 w7 w5.heap.size (fun _ => True) xb2 (lb)) := ⟨by rw [← HLB.out]; exact ho⟩; clear Rb Hb ho hgr hat; have Rb := n_R; have Hb := Aside0.mk hb; clear hb n_R))
    have hb7 := below_step Ha.out Hb.out
    obtain ⟨A2, c2, hu2, hc2, hC2⟩ := Kd.R_reads Ra.out
    obtain ⟨A3, c3, hu3, hc3, hC3⟩ := Kd.R_reads Rb.out
    subst hu2
    subst hu3
    have HC2 := Aside0.mk (Kd.C_below hC2 Hb.out)
    have HC3 := Aside0.mk hC3
    have n_HC := Aside0.mk (Kd.C_below HC.out hb7)
    have n_HD := Aside0.mk (Kd.C_below HD.out hb7)
    have n_HC1 := Aside0.mk (Kd.C_below HC1.out hb7)
    have n_HB := Aside0.mk (below_step HB.out hb7)
    clear HC HD HC1 HB hb7 Ra Rb Ha Hb hC2 hC3
    have HC := n_HC
    have HD := n_HD
    have HC1 := n_HC1
    have HB := n_HB
    clear n_HC n_HD n_HC1 n_HB
    refine (pview_calls A1 c1 kf w7 HC1.out (by omega) HZk.out).mono ?_
    rintro e w8 ⟨u4, rfl, hR, hb⟩
    rw [hvk] at hR
    obtain ⟨A4, c4, hu4, hc4, hC4⟩ := Kd.R_reads hR
    subst hu4
    have n_HC := Aside0.mk (Kd.C_below HC.out hb)
    have n_HB := Aside0.mk (below_step HB.out hb)
    have n_HD := Aside0.mk (Kd.C_below HD.out hb)
    have n_HC1 := Aside0.mk (Kd.C_below HC1.out hb)
    have n_HC2 := Aside0.mk (Kd.C_below HC2.out hb)
    have n_HC3 := Aside0.mk (Kd.C_below HC3.out hb)
    clear HC HB HD HC1 HC2 HC3 hR hb
    have HC := n_HC
    have HB := n_HB
    have HD := n_HD
    have HC1 := n_HC1
    have HC2 := n_HC2
    have HC3 := n_HC3
    clear n_HC n_HB n_HD n_HC1 n_HC2 n_HC3
    have HC4 := Aside0.mk hC4
    clear hC4
    go_wp2_with fail
    refine (pview_calls A k l w8 HC.out (by omega) HZ.out).mono ?_
    rintro e w9 ⟨u5, rfl, hR, hb⟩
    rw [hvf] at hR
    obtain ⟨A5, c5, hu5, hc5, hC5⟩ := Kd.R_reads hR
    subst hu5
    have n_HC := Aside0.mk (Kd.C_below HC.out hb)
    have n_HB := Aside0.mk (below_step HB.out hb)
    have n_HD := Aside0.mk (Kd.C_below HD.out hb)
    have n_HC1 := Aside0.mk (Kd.C_below HC1.out hb)
    have n_HC2 := Aside0.mk (Kd.C_below HC2.out hb)
    have n_HC3 := Aside0.mk (Kd.C_below HC3.out hb)
    have n_HC4 := Aside0.mk (Kd.C_below HC4.out hb)
    clear HC HB HD HC1 HC2 HC3 HC4 hR hb
    have HC := n_HC
    have HB := n_HB
    have HD := n_HD
    have HC1 := n_HC1
    have HC2 := n_HC2
    have HC3 := n_HC3
    have HC4 := n_HC4
    clear n_HC n_HB n_HD n_HC1 n_HC2 n_HC3 n_HC4
    have HC5 := Aside0.mk hC5
    clear hC5
    go_wp2_with fail
    refine (same_calls A4 A5 c4 c5 vf w9 HC4.out HC5.out).mono ?_
    rintro e w10 ⟨rfl, hb⟩
    have n_HC := Aside0.mk (Kd.C_below HC.out hb)
    have n_HB := Aside0.mk (below_step HB.out hb)
    have n_HD := Aside0.mk (Kd.C_below HD.out hb)
    have n_HC1 := Aside0.mk (Kd.C_below HC1.out hb)
    have n_HC2 := Aside0.mk (Kd.C_below HC2.out hb)
    have n_HC3 := Aside0.mk (Kd.C_below HC3.out hb)
    clear HC HB HD HC1 HC2 HC3 hb
    have HC := n_HC
    have HB := n_HB
    have HD := n_HD
    have HC1 := n_HC1
    have HC2 := n_HC2
    have HC3 := n_HC3
    clear n_HC n_HB n_HD n_HC1 n_HC2 n_HC3
    go_wp2_with fail
    refine (keep_calls A1 c1 kf dead w10 HC1.out (by omega) HZk.out).mono ?_
    rintro e w11 ⟨u6, rfl, hR, hb⟩
    rw [hkk] at hR
    obtain ⟨A6, c6, hu6, hc6, hC6⟩ := Kd.R_reads hR
    subst hu6
    have n_HC := Aside0.mk (Kd.C_below HC.out hb)
    have n_HB := Aside0.mk (below_step HB.out hb)
    have n_HD := Aside0.mk (Kd.C_below HD.out hb)
    have n_HC1 := Aside0.mk (Kd.C_below HC1.out hb)
    have n_HC2 := Aside0.mk (Kd.C_below HC2.out hb)
    have n_HC3 := Aside0.mk (Kd.C_below HC3.out hb)
    clear HC HB HD HC1 HC2 HC3 hR hb
    have HC := n_HC
    have HB := n_HB
    have HD := n_HD
    have HC1 := n_HC1
    have HC2 := n_HC2
    have HC3 := n_HC3
    clear n_HC n_HB n_HD n_HC1 n_HC2 n_HC3
    have HC6 := Aside0.mk hC6
    clear hC6
    go_wp2_with fail
    refine (same_calls A6 A1 c6 c1 kf w11 HC6.out HC1.out).mono ?_
    rintro e w12 ⟨rfl, hb⟩
    have n_HC := Aside0.mk (Kd.C_below HC.out hb)
    have n_HB := Aside0.mk (below_step HB.out hb)
    have n_HD := Aside0.mk (Kd.C_below HD.out hb)
    have n_HC1 := Aside0.mk (Kd.C_below HC1.out hb)
    have n_HC2 := Aside0.mk (Kd.C_below HC2.out hb)
    have n_HC3 := Aside0.mk (Kd.C_below HC3.out hb)
    clear HC HB HD HC1 HC2 HC3 hb
    have HC := n_HC
    have HB := n_HB
    have HD := n_HD
    have HC1 := n_HC1
    have HC2 := n_HC2
    have HC3 := n_HC3
    clear n_HC n_HB n_HD n_HC1 n_HC2 n_HC3
    go_wp2_with fail
    refine (garbage_calls A1 c1 kf dead w12 HC1.out (by omega) HZk.out).mono ?_
    rw [hgb]
    rintro e w13 ⟨rfl, hb⟩
    have n_HC := Aside0.mk (Kd.C_below HC.out hb)
    have n_HB := Aside0.mk (below_step HB.out hb)
    have n_HD := Aside0.mk (Kd.C_below HD.out hb)
    have n_HC1 := Aside0.mk (Kd.C_below HC1.out hb)
    have n_HC2 := Aside0.mk (Kd.C_below HC2.out hb)
    have n_HC3 := Aside0.mk (Kd.C_below HC3.out hb)
    clear HC HB HD HC1 HC2 HC3 hb
    have HC := n_HC
    have HB := n_HB
    have HD := n_HD
    have HC1 := n_HC1
    have HC2 := n_HC2
    have HC3 := n_HC3
    clear n_HC n_HB n_HD n_HC1 n_HC2 n_HC3
    go_wp2_with fail
    refine (pview_calls A2 c2 la w13 HC2.out hla HZa.out).mono ?_
    rintro e w14 ⟨u7, rfl, hR, hb⟩
    rw [hva] at hR
    obtain ⟨A7, c7, hu7, hc7, hC7⟩ := Kd.R_reads hR
    subst hu7
    have n_HC := Aside0.mk (Kd.C_below HC.out hb)
    have n_HB := Aside0.mk (below_step HB.out hb)
    have n_HD := Aside0.mk (Kd.C_below HD.out hb)
    have n_HC1 := Aside0.mk (Kd.C_below HC1.out hb)
    have n_HC2 := Aside0.mk (Kd.C_below HC2.out hb)
    have n_HC3 := Aside0.mk (Kd.C_below HC3.out hb)
    clear HC HB HD HC1 HC2 HC3 hR hb
    have HC := n_HC
    have HB := n_HB
    have HD := n_HD
    have HC1 := n_HC1
    have HC2 := n_HC2
    have HC3 := n_HC3
    clear n_HC n_HB n_HD n_HC1 n_HC2 n_HC3
    have HC7 := Aside0.mk hC7
    clear hC7
    go_wp2_with fail
    refine (pview_calls A3 c3 lb w14 HC3.out hlb HZb.out).mono ?_
    rintro e w15 ⟨u8, rfl, hR, hb⟩
    rw [hvb] at hR
    obtain ⟨A8, c8, hu8, hc8, hC8⟩ := Kd.R_reads hR
    subst hu8
    have n_HC := Aside0.mk (Kd.C_below HC.out hb)
    have n_HB := Aside0.mk (below_step HB.out hb)
    have n_HD := Aside0.mk (Kd.C_below HD.out hb)
    have n_HC1 := Aside0.mk (Kd.C_below HC1.out hb)
    have n_HC2 := Aside0.mk (Kd.C_below HC2.out hb)
    have n_HC3 := Aside0.mk (Kd.C_below HC3.out hb)
    have n_HC7 := Aside0.mk (Kd.C_below HC7.out hb)
    clear HC HB HD HC1 HC2 HC3 HC7 hR hb
    have HC := n_HC
    have HB := n_HB
    have HD := n_HD
    have HC1 := n_HC1
    have HC2 := n_HC2
    have HC3 := n_HC3
    have HC7 := n_HC7
    clear n_HC n_HB n_HD n_HC1 n_HC2 n_HC3 n_HC7
    have HC8 := Aside0.mk hC8
    clear hC8
    go_wp2_with fail
    refine (same_calls A7 A8 c7 c8 va w15 HC7.out HC8.out).mono ?_
    rintro e w16 ⟨rfl, hb⟩
    have n_HC := Aside0.mk (Kd.C_below HC.out hb)
    have n_HB := Aside0.mk (below_step HB.out hb)
    clear HC HB hb
    have HC := n_HC
    have HB := n_HB
    clear n_HC n_HB
    go_wp2_with fail
    refine (four_calls w16).mono ?_
    rintro e w17 ⟨rfl, hb⟩
    have n_HC := Aside0.mk (Kd.C_below HC.out hb)
    have n_HB := Aside0.mk (below_step HB.out hb)
    clear HC HB hb
    have HC := n_HC
    have HB := n_HB
    clear n_HC n_HB
    go_wp2_with fail
    go_ret
    exact ⟨rfl, HB.out⟩
end Go.Proofs.Ytgojaomldkgojaa.Cm

import Derived.Test.YtohhlkabejangaaUOf18
-- halved
namespace Go.Proofs.Ytohhlkabejangaa.Of
set_option linter.unusedVariables false
set_option linter.unusedSimpArgs false
open Go.RowKit Go.Maps Go.Sort Go.Lib Go.Shelf Go.Proofs.YtohhlkabejangaaW.PrintWords Go.Proofs.YtohhlkabejangaaW.PrintLast Go.Proofs.YtohhlkabejangaaW.PrintMore Go.Proofs.Ytohhlkabejangaa.POf Go.Proofs.Ytohhlkabejangaa.Wire
attribute [local go_sem high] eqA74 eqA79 eqA72
theorem actE_eq (T : List Rw) (x : Ac) (ek : Int) (ep : ByteArray) (ee : Int) (h : actE T x = ⟨ek, ep, ee⟩) : actT T x = if ee = 0 then appT T ek ep else T := by
 unfold actT
 rw [h]
theorem at_int {w : World} {A : Option Addr} {n : Nat} {xs : List Int} (h : Kd.C (Kd.int .i64) w A n xs) (i : Nat) (hi : i < n) (hx : i < xs.length) : ∃ ad, A = some ad ∧ w.cell? (ad.add i) = some (.int .i64 xs[i]) := by
 obtain ⟨ad, c, e, hs, hK, hc⟩ := Kd.C_get h 0 (i : Int) (by omega) (by omega)
 have hq : c = [.int .i64 (xs.getD (i : Int).toNat 0)] := hK
 rw [Int.toNat_natCast] at hc hq
 have hgd : xs.getD i 0 = xs[i] := by rw [List.getD_eq_getElem?_getD, List.getElem?_eq_getElem hx]; rfl
 rw [hgd] at hq
 subst hq
 refine ⟨ad, e, ?_⟩
 have := hc 0 _ rfl
 rw [Nat.add_zero] at this
 have e2 : i * (Kd.int .i64).sz = i := Nat.mul_one i
 rwa [e2] at this
end Go.Proofs.Ytohhlkabejangaa.Of

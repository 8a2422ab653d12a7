import Derived.Test.YtlgihjhlkpmpnaaZWireS
namespace Go.Proofs.Ytlgihjhlkpmpnaa.Wire
set_option linter.unusedVariables false
set_option linter.unusedSimpArgs false
open Go.RowKit Go.Proofs.YtlgihjhlkpmpnaaW.PrintWords Go.Proofs.YtlgihjhlkpmpnaaW.PrintLast Go.Proofs.YtlgihjhlkpmpnaaW.PrintMore Go.Proofs.Ytlgihjhlkpmpnaa.Hand Go.Proofs.Ytlgihjhlkpmpnaa.PWire Go.Proofs.Ytlgihjhlkpmpnaa.PureNums
theorem fix2_list (n : Int) : fix2 n = strOfNums [n / 256 % 256, n % 256] := by
  unfold fix2
  congr 1
  simp [fixedL, List.range_succ]
theorem setNum_kind (y : Rq) (c n : Int) : (setNum y c n).kind = y.kind ∧ (setNum y c n).id = y.id := by
  unfold setNum
  repeat' split
  all_goals exact ⟨rfl, rfl⟩
theorem setText_kind (y : Rq) (c : Int) (s : ByteArray) : (setText y c s).kind = y.kind ∧ (setText y c s).id = y.id := by
  unfold setText
  repeat' split
  all_goals exact ⟨rfl, rfl⟩
-- the request for a list
def rl : Rq := {rq0 11 5 with label := 1}
def sl : ByteArray := ⟨#[0, 4, 11, 0, 5, 1]⟩
def slm : ByteArray := ⟨#[0, 4, 11, 0, 5, 1, 109, 111, 114, 101]⟩
theorem rl_may : mayB rl [] = true := by decide +kernel
theorem rl_enc : encW rl [] = (sl, 0) := by
  unfold encW
  rw [if_pos rl_may, if_neg (by decide +kernel)]
  have e : encS rl [] = sl := ba_ext (by decide +kernel)
  rw [e]
theorem peek_sl : peekI sl = 6 := by decide +kernel
theorem peek_slm : peekI slm = 6 := by decide +kernel
theorem un_one : un ⟨#[1]⟩ = (1, 1, 0) := by
  have h := un_nums ⟨#[1]⟩ 30 (Nat.le_refl _)
  have h2 : nums_Unchain.f 30 ⟨#[1]⟩ = some (1, 1, 0) := by decide +kernel
  rw [h2] at h
  exact (Option.some.inj h).symm
theorem num_one : rdNum (⟨#[1]⟩, false) = (1, (⟨#[]⟩, false)) := by
  unfold rdNum
  simp only
  rw [un_one]
  simp only [Bool.false_eq_true, if_false, if_true]
  rw [if_neg (by omega)]
  have e : (⟨#[1]⟩ : ByteArray).extract (Int.toNat 1) (⟨#[1]⟩ : ByteArray).size = ⟨#[]⟩ := ba_ext (by decide +kernel)
  rw [e]
theorem dec_slm : decW slm = ⟨0, 6, rl, []⟩ := by
  have hs : decSt slm = ⟨rl, [], (⟨#[]⟩, false)⟩ := by
    unfold decSt
    rw [peek_slm, show bt slm 2 = 11 from by decide +kernel, show be2 slm 3 = 5 from by decide +kernel, show (slm.extract 5 (6 : Int).toNat) = ⟨#[1]⟩ from ba_ext (by decide +kernel)]
    rw [show lets (formF 11) = [76] from rfl]
    simp only [reqL, List.foldl_cons, List.foldl_nil, step76]
    rw [num_one]
    rfl
  unfold decW
  rw [hs, peek_slm]
  rw [if_neg (by omega), if_neg (by simp only [slm]; decide +kernel), if_neg (by omega), if_neg (by simp), if_neg (by rw [ByteArray.toList_eq]; simp), if_pos rl_may]
theorem dec_sl5 : decW (sl.extract 0 5) = ⟨3, 0, rq0 0 0, []⟩ := by
  have e : sl.extract 0 5 = ⟨#[0, 4, 11, 0, 5]⟩ := ba_ext (by decide +kernel)
  rw [e]
  unfold decW
  rw [show peekI ⟨#[0, 4, 11, 0, 5]⟩ = 6 from by decide +kernel, if_neg (by omega), if_pos (by decide +kernel)]
end Go.Proofs.Ytlgihjhlkpmpnaa.Wire

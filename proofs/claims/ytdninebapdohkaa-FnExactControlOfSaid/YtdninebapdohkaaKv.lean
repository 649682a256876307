/- What the functions come to. Nothing is claimed here. -/
import Derived.Test.YtdninebapdohkaaKu
set_option linter.unusedVariables false
set_option linter.unusedSimpArgs false
set_option maxRecDepth 100000
namespace Go.Ytdninebapdohkaa
open Go Go.RowKit Go.Pv Go.Pu

def ctlOf (r : IResource) : List UInt8 := bif r.Private then (bif r.Control == [] then [112, 114, 105, 118, 97, 116, 101] else [112, 114, 105, 118, 97, 116, 101, 44, 32] ++ r.Control) else r.Control
theorem S_ControlOf_eq {k : Nat} (r : IResource) (h : r.Control.length ≤ 1048576) : S_ControlOf k r = some (ctlOf r) := by
  unfold S_ControlOf ctlOf
  rw [cat_ok (by simp; omega)]
  cases r.Private <;> cases (r.Control == []) <;> rfl
theorem I_ControlOf_eq {k : Nat} (r : IResource) (h : r.Control.length ≤ 1048576) : I_ControlOf k r = some (ctlOf r) := by
  unfold I_ControlOf ctlOf
  rw [cat_ok (by simp; omega)]
  cases r.Private <;> cases (r.Control == []) <;> rfl
theorem FnExactControlOf_pure {k : Nat} (hk : 1073741824 ≤ k) (a0 : LResource) (h0 : V_LResource a0) : L_FnExactControlOf k a0 = some true := by
  unfold L_FnExactControlOf
  rw [L_szResource_eq hk h0 _ (by omega) (by omega), Option.bind_some, bif_dec]
  by_cases c3 : (sz_LResource a0 : Int) ≤ 1048576
  case neg => rw [if_neg c3, if_pos (by omega)]
  have c4 : sz_LResource a0 ≤ 1048576 := by omega
  have hl : (to_LResource a0).Langs.length < 1073741824 := by unfold sz_LResource at c4; simp only [to_LResource]; unfold szL at c4; omega
  have hv : (to_LResource a0).Versions.length < 1073741824 := by unfold sz_LResource at c4; simp only [to_LResource, List.length_map]; unfold szL at c4; omega
  have hc : (to_LResource a0).Control.length ≤ 1048576 := by unfold sz_LResource at c4; simp only [to_LResource]; omega
  rw [if_pos c3, if_neg (by omega)]
  simp only [L_toResource_eq hk a0 c4, Option.bind_some, S_ControlOf_eq _ hc, I_ControlOf_eq _ hc, L_eqResource_eq hk _ _ hl hv, decide_true, Bool.not_true, cond_false, BEq.rfl]

end Go.Ytdninebapdohkaa

/- What the laws' own functions come to. Nothing is claimed here. -/
import Derived.Test.YtilbenelefdihaaKf
import Derived.Test.YtilbenelefdihaaPu4
set_option linter.unusedSimpArgs false
set_option linter.unusedVariables false
set_option maxRecDepth 100000
namespace Go.Ytilbenelefdihaa
open Go Go.RowKit Go.Pv Go.Pu

def V_LVersion (a : LVersion) : Prop := InI a.At ∧ InS a.Text ∧ (fun _ => True) a.Gone
def sz_LVersion (a : LVersion) : Nat := a.Text.length
def to_LVersion (a : LVersion) : IVersion := ⟨a.At, a.Text, a.Gone⟩
theorem L_toVersion_eq {k : Nat} (hk : 1073741824 ≤ k) (a : LVersion) (h : sz_LVersion a ≤ 1048576) : L_toVersion k a = some (to_LVersion a) := rfl
theorem L_szVersion_eq {k : Nat} (hk : 1073741824 ≤ k) {a : LVersion} (h : V_LVersion a) (l : Int) (h0 : 0 ≤ l) (h1 : l ≤ 1048576) : L_szVersion k a l = some (if (sz_LVersion a : Int) ≤ l then l - sz_LVersion a else -1) := by
  unfold V_LVersion InS at h
  unfold sz_LVersion L_szVersion
  have v0 := h.2.1
  rw [wrap_id (by omega) (by omega), bif_dec]
  by_cases c0 : l - ((a.Text.length : Nat) : Int) < 0
  · rw [if_pos c0, if_neg (by push_cast; omega)]
  rw [if_neg c0]
  rw [if_pos (by push_cast; omega)]
  try exact congrArg some (by first | rfl | (push_cast; omega))
end Go.Ytilbenelefdihaa

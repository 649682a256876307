/- What the laws' own functions come to. Nothing is claimed here. -/
import Derived.Test.YtgdjicnefdnofaaDoorKf
import Derived.Test.YtgdjicnefdnofaaDoorPu5
set_option linter.unusedSimpArgs false
set_option linter.unusedVariables false
set_option maxRecDepth 100000
namespace Go.YtgdjicnefdnofaaDoor
open Go Go.RowKit Go.Pv Go.Pu

theorem L_toStringS_eq {k : Nat} (hk : 1073741824 ≤ k) (a : List (List UInt8)) (h : szL List.length a ≤ 1048576) : L_toStringS k a = some a := by
  have h1 : a.length ≤ 1048576 := by unfold szL at h; omega
  rw [L_toStringS, guardT_self, mks_ok (by omega), Option.bind_some, to_str (F := L_toStringS_b0 k) (fun _ _ _ _ => rfl) (by omega) (by omega)]
  rfl
theorem L_szStringS_eq {k : Nat} (hk : 1073741824 ≤ k) {a : List (List UInt8)} (h : InL InS a) (l : Int) (h0 : 0 ≤ l) (h1 : l ≤ 1048576) : L_szStringS k a l = some (if (szL List.length a : Int) ≤ l then l - szL List.length a else -1) :=
  sz_str (F := L_szStringS_b0 k) (fun _ _ _ _ => rfl) h.2 h.1 h0 h1 (by omega)
theorem L_eqStringS_eq {k : Nat} (hk : 1073741824 ≤ k) (a b : List (List UInt8)) (h : a.length < 1073741824) : L_eqStringS k a b = some (decide (a = b)) := eq_str (F := L_eqStringS_b0 k) (fun _ _ _ _ => rfl) (by omega) (by omega)
end Go.YtgdjicnefdnofaaDoor

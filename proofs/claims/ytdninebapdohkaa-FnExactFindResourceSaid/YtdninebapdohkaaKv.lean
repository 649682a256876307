/- What the functions come to. Nothing is claimed here. -/
import Derived.Test.YtdninebapdohkaaKu
set_option linter.unusedVariables false
set_option linter.unusedSimpArgs false
set_option maxRecDepth 100000
namespace Go.Ytdninebapdohkaa
open Go Go.RowKit Go.Pv Go.Pu

/-! The first page of a name. -/
def tgtP (x : List IResource) (s : List UInt8) (i : Nat) : Bool := match x[i]? with | some e => e.Target == s | none => false
def findR (x : List IResource) (s : List UInt8) : Int := match firstI (tgtP x s) x.length 0 with | some j => (j : Int) | none => -1
theorem S_FindResource_eq {k : Nat} (hk : 1073741824 ≤ k) (o : IOrigin) (s : List UInt8) (h : o.Resources.length < 1073741824) : S_FindResource k o s = some (findR o.Resources s) := by
  have := find_all (len := o.Resources.length) (c := fun i => bif tgtP o.Resources s i then some (i : Int) else none) (F := fun n i => S_FindResource_b0 k n s i o.Host o.Resources) (fun n i hi => by
    simp only [S_FindResource_b0, idx_nat hi, Option.bind_some, wrap_succ (by omega : i < 9223372036854775807), bif_dec, lt_cast, hi, if_true, tgtP, List.getElem?_eq_getElem hi]
    cases (o.Resources[i].Target == s) <;> rfl) (fun n i hi => by
    simp only [S_FindResource_b0, bif_dec, lt_cast]
    rw [if_neg (by omega)]) (k := k) (by omega)
  rw [S_FindResource, this, findI_first]
  unfold findR
  cases firstI (tgtP o.Resources s) o.Resources.length 0 <;> rfl
theorem I_FindResource_eq {k : Nat} (hk : 1073741824 ≤ k) (o : IOrigin) (s : List UInt8) (h : o.Resources.length < 1073741824) : I_FindResource k o s = some (findR o.Resources s) := by
  have := find_all (len := o.Resources.length) (c := fun i => bif tgtP o.Resources s i then some (i : Int) else none) (F := fun n i => slices_IndexFunc_IResource_at_I_FindResource_1_b0 k n o.Resources s (o.Resources.length : Int) i) (fun n i hi => by
    simp only [slices_IndexFunc_IResource_at_I_FindResource_1_b0, I_FindResource_1, idx_nat hi, Option.bind_some, wrap_succ (by omega : i < 9223372036854775807), bif_dec, lt_cast, hi, if_true, tgtP, List.getElem?_eq_getElem hi]
    cases (o.Resources[i].Target == s) <;> rfl) (fun n i hi => by
    simp only [slices_IndexFunc_IResource_at_I_FindResource_1_b0, bif_dec, lt_cast]
    rw [if_neg (by omega)]) (k := k) (by omega)
  rw [I_FindResource, slices_IndexFunc_IResource_at_I_FindResource_1, this, findI_first]
  unfold findR
  cases firstI (tgtP o.Resources s) o.Resources.length 0 <;> rfl

theorem FnExactFindResource_pure {k : Nat} (hk : 1073741824 ≤ k) (a0 : LOrigin) (a1 : List UInt8) (h0 : V_LOrigin a0) (h1 : InS a1) : L_FnExactFindResource k a0 a1 = some true := by
  unfold L_FnExactFindResource
  rw [bif_dec]
  by_cases c1 : (a1.length : Int) > 1048576
  · rw [if_pos c1]
  rw [if_neg c1, L_szOrigin_eq hk h0 _ (by omega) (by omega), Option.bind_some, bif_dec]
  by_cases c3 : (sz_LOrigin a0 : Int) ≤ 1048576
  case neg => rw [if_neg c3, if_pos (by omega)]
  have c4 : sz_LOrigin a0 ≤ 1048576 := by omega
  have hr0 : a0.Resources.length ≤ szL sz_LResource a0.Resources := by unfold szL; omega
  have hr : (to_LOrigin a0).Resources.length < 1073741824 := by unfold sz_LOrigin at c4; simp only [to_LOrigin, List.length_map]; omega
  have hg : ∀ e ∈ (to_LOrigin a0).Resources, e.Langs.length < 1073741824 ∧ e.Versions.length < 1073741824 := by
    intro e he
    simp only [to_LOrigin, List.mem_map] at he
    obtain ⟨r, hr, rfl⟩ := he
    have := sz_mem (g := sz_LResource) hr
    unfold sz_LOrigin at c4
    have c5 : sz_LResource r ≤ 1048576 := by omega
    unfold sz_LResource szL at c5
    simp only [to_LResource, List.length_map]
    omega
  rw [if_pos c3, if_neg (by omega)]
  simp only [L_toOrigin_eq hk a0 c4, Option.bind_some, S_FindResource_eq hk _ _ hr, I_FindResource_eq hk _ _ hr, L_eqOrigin_eq hk _ _ hr hg, decide_true, Bool.not_true, cond_false, bne_self_eq_false]

end Go.Ytdninebapdohkaa

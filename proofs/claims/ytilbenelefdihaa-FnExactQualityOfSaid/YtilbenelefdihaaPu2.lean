/- The same loops over strings; sizes of members. Nothing is claimed here. -/
import Derived.Test.YtilbenelefdihaaPu1
set_option linter.unusedSimpArgs false
set_option linter.unusedVariables false
namespace Go.Pu
open Go Go.RowKit Go.Pv

theorem bne_ne {A : Type} [BEq A] [LawfulBEq A] {a b : A} (h : ¬ a = b) : (a != b) = true := by simpa using h
theorem beq_ne {A : Type} [BEq A] [LawfulBEq A] {a b : A} (h : ¬ a = b) : (a == b) = false := by simpa using h

theorem sum_mem {A : Type} {g : A → Nat} : ∀ {x : List A} {e : A}, e ∈ x → g e ≤ (x.map g).sum
  | a :: x, e, h => by
    simp only [List.map_cons, List.sum_cons]
    rcases List.mem_cons.1 h with rfl | h
    · omega
    · have := sum_mem (g := g) h; omega
theorem sz_mem {A : Type} {g : A → Nat} {x : List A} {e : A} (h : e ∈ x) : g e + x.length ≤ szL g x := by
  unfold szL; have := sum_mem (g := g) h; omega

theorem to_str {F : Nat → List (List UInt8) → Int → List (List UInt8) → Option (List (List UInt8))}
    (step : ∀ n x i r, F (n + 1) x i r = bif decide (i < (x.length : Int)) then (idx x i).bind fun _ => (idx x i).bind fun e => (idx r i).bind fun _ => (idx r i).bind fun _ => F n x (IntKind.wrap .i64 (i + 1)) (r.set i.toNat e) else some r)
    {k : Nat} {x : List (List UInt8)} (hx : x.length < 9223372036854775807) (hk : x.length < k) : F k x 0 (List.replicate x.length []) = some x := by
  have := to_all (F := F) (f := some) (g := id) (z := []) (fun n x i r => by
    rw [step]
    cases idx x i <;> rfl) (k := k) (x := x) (fun _ _ => rfl) hx hk
  simpa using this
theorem eq_str {F : Nat → List (List UInt8) → List (List UInt8) → Int → Option (Oc Unit Bool)}
    (step : ∀ n x y i, F (n + 1) x y i = bif decide (i < (x.length : Int)) then (idx x i).bind fun _ => (idx x i).bind fun e => (idx y i).bind fun _ => (idx y i).bind fun e' => bif !(e == e') then some (.oth false) else F n x y (IntKind.wrap .i64 (i + 1)) else some (.nrm ()))
    {k : Nat} {x y : List (List UInt8)} (hx : x.length < 9223372036854775807) (hk : x.length < k) :
    (bif ((x.length : Int) != (y.length : Int)) then some false else (F k x y 0).bind fun o => oc o (fun _ => some true) fun b => some b) = some (decide (x = y)) :=
  eq_all (f := fun a b => some (decide (a = b))) (fun n x y i => by
    rw [step]
    cases idx x i with
    | none => rfl
    | some e =>
      simp only [Option.bind_some]
      cases idx y i with
      | none => rfl
      | some e' =>
        simp only [Option.bind_some]
        by_cases h : e = e'
        · simp [h]
        · have h2 : (e == e') = false := by simpa using h
          simp [h, h2]) (fun _ _ _ _ => rfl) hx hk

end Go.Pu

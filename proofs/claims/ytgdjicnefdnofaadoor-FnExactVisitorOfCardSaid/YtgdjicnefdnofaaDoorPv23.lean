/- Typed data stand for plain data: every operation. Nothing is claimed here. -/
import Derived.Test.YtgdjicnefdnofaaDoorPv22
set_option linter.unusedSimpArgs false
set_option linter.unusedVariables false
namespace Go.Pv
open Go Go.RowKit

section
variable {D : Nat → Type} {X : CT D} {cl : Calls' D}

def EntryOK (X : CT D) (g : Nat) (en : Entry D) : Prop := ∀ (m : Nat → Option (VM D)) (vs : List (VS D)) (K : VR D → Prop), en m vs K →
  ∃ ts r, all2 (rb (fun id => X.eO (m id)) 4) (vs.map X.eS) ts ∧ X.C.cs g ts (X.eR r) ∧ K r
def EntryWOK (X : CT D) (g : Nat) (en : EntryW D) : Prop := ∀ (m : Nat → Option (VM D)) (vs : List (VS D)) (K : V D → List (Nat × Option (VM D)) → Prop), en m vs K →
  ∃ ts x outs mw, all2 (rbo (fun id => X.eO (m id)) 4) (vs.map X.eS) ts ∧ nodupN (refsL (refs 4) (vs.map X.eS)) = true ∧ X.C.cw g ts (X.er x) outs ∧
    effK.backs (fun id => X.eO (m id)) (vs.map X.eS) outs = some (mw.map fun p => (p.1, X.eO p.2)) ∧ ((X.er x).scalar && (refsL (refs 4) (vs.map X.eS)).all fun id => memN id (keys mw)) = true ∧ K x mw
structure CallsOK (X : CT D) (cl : Calls' D) : Prop where
  cod : CodOK X
  calls : ∀ g, EntryOK X g (look cl.p g fun _ _ _ => False)
  callsW : ∀ g, EntryWOK X g (look cl.w g fun _ _ _ => False)

theorem eE_pure (v : VS D) : X.eE (pureT v) = pureE (X.eS v) := rfl

variable {s : Nat → VS D} {m : Nat → Option (VM D)} {K' : EfT D → Prop} {K : Eff → Prop}

theorem pick_ok (hK : ∀ e, K' e → K (X.eE e)) {p : Bool} {a b : VS D} (h : pickT p a b K') : bcond p (K (pureE (X.eS a))) (K (pureE (X.eS b))) := by
  unfold pickT at h
  split at h
  · have := hK _ h
    rw [eE_pure] at this
    cases p <;> exact this
  · obtain ⟨hb, h2⟩ := bcond_false h
    clear h
    simp only [decide_eq_true_eq] at hb
    subst hb
    have := hK _ h2
    rw [eE_pure] at this
    cases p <;> exact this
  · have := hK _ h
    rw [eE_pure] at this
    cases p <;> exact this
  · cases p
    · exact hK _ h
    · exact hK _ h

theorem okSl_of {ty : Nat} (h : okSlB X.C ty = true) : (Nat.beq (X.C.i ty).kind 2 && Nat.ble 1 (X.C.i (X.C.i ty).elem).kind && Nat.ble 1 (X.C.i (X.C.i ty).elem).size && Nat.beq (X.C.i (X.C.i ty).elem).zero.length (X.C.i (X.C.i ty).elem).size && Nat.ble 1 (X.C.i (X.C.i ty).elem).bytes) = true := h

theorem keys_map (l : List (Nat × Option (VM D))) : keys (l.map fun p => (p.1, X.eO p.2)) = keys l := by
  simp [keys, Function.comp_def]

theorem app_ok (hK : ∀ e, K' e → K (X.eE e)) {ty d el : Nat} {dst : VS D} {new : List (D el)} {gone : List (Nat × Option (VM D))} {fp : List Nat} (h : appT X m ty d dst el new gone fp K') :
    (X.C.i ty).elem = el ∧ appK X.C (fun id => X.eO (m id)) ty d (X.eS dst) (new.map (X.R el)) (gone.map fun p => (p.1, X.eO p.2)) fp K := by
  cases dst with
  | nil =>
    simp only [appT] at h
    obtain ⟨hb, h⟩ := bcond_false h
    simp only [Bool.and_eq_true] at hb
    obtain ⟨rows, hr, h⟩ := optK_some h
    have he := beqN hb.2
    refine ⟨he, ?_⟩
    subst he
    simp only [CT.eS, appK, okSl_of hb.1, bcond]
    refine ⟨rows.map (X.R _), ?_, ?_⟩
    · have := app_map (X.R (X.C.i ty).elem) (X.C.i (X.C.i ty).elem).bytes [] new
      rw [List.map_nil] at this
      rw [this, hr]; rfl
    · simpa [CT.eE, CT.eS, CT.eO, CT.eM] using hK _ h
  | ref id ver =>
    simp only [appT] at h
    split at h
    · rename_i v z old hm
      obtain ⟨hb, h2⟩ := bcond_false h
      clear h
      simp only [Bool.and_eq_true] at hb
      split at h2
      · rename_i hz
        subst hz
        obtain ⟨rows, hr, h⟩ := optK_some h2
        have he := beqN hb.1.1.2
        refine ⟨he, ?_⟩
        clear h2
        subst he
        simp only [CT.eS, appK, eO_row hm]
        have hb2 : (Nat.beq (X.C.i ty).kind 2 && Nat.ble 1 (X.C.i (X.C.i ty).elem).kind && Nat.ble 1 (X.C.i (X.C.i ty).elem).size && Nat.beq (X.C.i (X.C.i ty).elem).zero.length (X.C.i (X.C.i ty).elem).size && Nat.ble 1 (X.C.i (X.C.i ty).elem).bytes &&
            Nat.beq v ver && Nat.beq (X.C.i (X.C.i ty).elem).size (X.C.i (X.C.i ty).elem).size && !memN id (keys (gone.map fun p => (p.1, X.eO p.2)))) = true := by
          rw [okSl_of hb.1.1.1, keys_map]
          simp only [Bool.true_and, hb.1.2, hb.2, Bool.and_true, Nat.beq_refl]
        rw [hb2]
        refine ⟨rows.map (X.R _), ?_, ?_⟩
        · rw [app_map, hr]; rfl
        · simpa [CT.eE, CT.eS, CT.eO, CT.eM] using hK _ h
      · exact h2.elim
    · exact h.elim
  | _ => simp [appT] at h

theorem buildin_ok (ok : CodOK X) (hK : ∀ e, K' e → K (X.eE e)) {b : Builtin} {ts : List Nat} {d : Nat} {args : List (VS D)} (h : builtinT X m b ts d args K') :
    builtinK X.C (fun id => X.eO (m id)) b ts d (args.map X.eS) K := by
  unfold builtinT at h
  split at h
  · obtain ⟨hb, h⟩ := bcond_false h
    simp only [List.map_cons, List.map_nil, CT.eS, CT.er, builtinK, hb, bcond]
    exact hK _ h
  · obtain ⟨hb, h⟩ := bcond_false h
    simp only [List.map_cons, List.map_nil, CT.eS, CT.er, builtinK, hb, bcond, List.length_map]
    exact hK _ h
  · obtain ⟨hb, h⟩ := bcond_false h
    simp only [List.map_cons, List.map_nil, CT.eS, CT.er, builtinK, hb, bcond]
    exact hK _ h
  · split at h
    · rename_i hm
      obtain ⟨hb, h⟩ := bcond_false h
      simp only [List.map_cons, List.map_nil, CT.eS, CT.er, builtinK, eO_row hm, hb, bcond, List.length_map]
      exact hK _ h
    · exact h.elim
  · simp only [List.map_cons, List.map_nil, CT.eS, CT.er, builtinK, minT, optK]
    exact hK _ h
  · simp only [List.map_cons, List.map_nil, CT.eS, CT.er, builtinK, maxT, optK]
    exact hK _ h
  · split at h
    · split at h
      · obtain ⟨hb, h⟩ := bcond_false h
        simp only [List.map_cons, List.map_nil, CT.eS, CT.er, builtinK, hb, bcond]
        exact (app_ok hK h).2
      · obtain ⟨hb, h⟩ := bcond_false h
        obtain ⟨he, h⟩ := app_ok hK h
        simp only [Bool.and_eq_true] at hb
        subst he
        simp only [List.map_cons, List.map_nil, CT.eS, CT.er, builtinK, hb.1, Nat.beq_refl, Bool.and_self, bcond]
        refine ⟨fun r hr t ht => ?_, h⟩
        obtain ⟨x, _, rfl⟩ := List.mem_map.1 hr
        exact ok.scal _ hb.2 x t ht
      · obtain ⟨hb, h⟩ := bcond_false h
        obtain ⟨new, hn, h⟩ := optK_some h
        have h := (app_ok hK h).2
        rw [ok.ofB _ _ _ hn] at h
        simp only [List.map_cons, List.map_nil, CT.eS, CT.er, builtinK, hb, bcond]
        exact h
      · split at h
        · rename_i hm
          obtain ⟨hb, h⟩ := bcond_false h
          obtain ⟨he, h⟩ := app_ok hK h
          simp only [Bool.and_eq_true] at hb
          subst he
          simp only [List.map_cons, List.map_nil, CT.eS, CT.er, builtinK, eO_row hm, hb.1, hb.2, Nat.beq_refl, Bool.and_self, bcond]
          simpa [CT.eO] using h
        · exact h.elim
      · exact h.elim
    · exact h.elim
  · exact h.elim

theorem eS_lo (s : Nat → VS D) (lo : Option Operand) : loS (fun t => X.eS (s t)) lo = X.eS (loT s lo) := by
  cases lo with
  | none => rfl
  | some l => exact eS_op s l
theorem eS_hi (s : Nat → VS D) (n : Int) (lo : Option Operand) : hiS (fun t => X.eS (s t)) n lo = X.eS (hiT s n lo) := by
  cases lo with
  | none => rfl
  | some l => exact eS_op s l

end
end Go.Pv

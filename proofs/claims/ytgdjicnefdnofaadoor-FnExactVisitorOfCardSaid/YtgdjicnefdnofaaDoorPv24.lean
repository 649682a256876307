/- Typed data stand for plain data: every operation. Nothing is claimed here. -/
import Derived.Test.YtgdjicnefdnofaaDoorPv23
set_option linter.unusedSimpArgs false
set_option linter.unusedVariables false
namespace Go.Pv
open Go Go.RowKit

section
variable {D : Nat → Type} {X : CT D} {cl : Calls' D} {s : Nat → VS D} {m : Nat → Option (VM D)} {K' : EfT D → Prop} {K : Eff → Prop} {o : Oper}

theorem bin_ok (hK : ∀ e, K' e → K (X.eE e)) {op : BinOp} {t u : Nat} {x y : Operand} (hop : o.op = .binOp op t x y u) (h : effT X cl s m o K') : effK X.C (fun t => X.eS (s t)) (fun id => X.eO (m id)) o K := by
  unfold effT at h
  unfold effK
  simp only [hop] at h ⊢
  simp only [eS_op]
  split at h
  · rename_i k a k' b hx hy
    rw [hx, hy]
    simp only [CT.eS, CT.er]
    have other : ∀ op : BinOp, op ≠ .quo → op ≠ .rem → op ≠ .shl → op ≠ .shr → bcond (decide (k = k')) (optK (intBinT op k a b) fun x => K' (pureT (.t x))) False → bcond (decide (k = k')) (optK (intBin op k a b) fun x => K (pureE (.t x))) False := by
      intro op n1 n2 n3 n4 h
      obtain ⟨hb, h⟩ := bcond_false h
      obtain ⟨r, hr, h⟩ := optK_some h
      rw [hb]
      have : intBin op k a b = some (X.er r) := by
        cases op <;> simp_all [intBinT, intBin, CT.er] <;> (subst hr; rfl)
      simp only [bcond, this, optK]
      exact hK _ h
    cases op with
    | quo =>
      simp only at h ⊢
      obtain ⟨hb, h2⟩ := bcond_false h
      clear h
      obtain ⟨r, hr, h⟩ := optK_some h2
      unfold dv at hr
      split at hr
      · cases hr
      · rename_i hz
        simp only [Option.some.injEq] at hr
        subst hr
        have hf : (b == 0) = false := by simpa using hz
        simp only [hb, hf, bcond]
        exact hK _ h
    | rem =>
      simp only at h ⊢
      obtain ⟨hb, h2⟩ := bcond_false h
      clear h
      obtain ⟨r, hr, h⟩ := optK_some h2
      unfold md at hr
      split at hr
      · cases hr
      · rename_i hz
        simp only [Option.some.injEq] at hr
        subst hr
        have hf : (b == 0) = false := by simpa using hz
        simp only [hb, hf, bcond]
        exact hK _ h
    | shl =>
      simp only at h ⊢
      obtain ⟨r, hr, h⟩ := optK_some h
      simp only [hr, optK]
      exact hK _ h
    | shr =>
      simp only at h ⊢
      obtain ⟨r, hr, h⟩ := optK_some h
      simp only [hr, optK]
      exact hK _ h
    | _ => exact other _ (by simp) (by simp) (by simp) (by simp) h
  · rename_i a b hx hy
    rw [hx, hy]
    simp only [CT.eS, CT.er]
    cases op with
    | add =>
      simp only at h ⊢
      obtain ⟨r, hr, h⟩ := optK_some h
      exact ⟨r, hr, hK _ h⟩
    | _ =>
      obtain ⟨r, hr, h⟩ := optK_some h
      simp only [strBinT] at hr
      first
        | cases hr; done
        | (simp only [Option.some.injEq] at hr
           subst hr
           simp only [strBin, optK]
           exact hK _ h)
  · rename_i a b hx hy
    rw [hx, hy]
    simp only [CT.eS, CT.er]
    obtain ⟨hb, h⟩ := bcond_false h
    simp only [hb, bcond]
    cases op <;> first | exact h.elim | exact hK _ h
  · rename_i a hx hy
    rw [hx, hy]
    simp only [CT.eS, CT.er]
    obtain ⟨hb, h2⟩ := bcond_false h
    clear h
    cases y with
    | const v =>
      simp only [Bool.and_true] at hb
      simp only [hb, Bool.and_true, bcond]
      cases op <;> first | exact h2.elim | exact hK _ h2
    | _ => simp at hb
  · rename_i a b hx hy
    rw [hx, hy]
    simp only [CT.eS]
    obtain ⟨hb, h⟩ := bcond_false h
    simp only [hb, bcond]
    cases op <;> first
      | exact h.elim
      | (obtain ⟨p, hp, h⟩ := optK_some h
         simp only [eqVs_ok _ _ hp, optK]
         exact hK _ h)
  · exact h.elim

theorem conv_ok (ok : CodOK X) (hK : ∀ e, K' e → K (X.eE e)) {src dst : Nat} {x : Operand} (hop : o.op = .convert src dst x) (h : effT X cl s m o K') : effK X.C (fun t => X.eS (s t)) (fun id => X.eO (m id)) o K := by
  unfold effT at h
  unfold effK
  simp only [hop] at h ⊢
  simp only [eS_op]
  split at h
  · rename_i hx
    rw [hx]
    simp only [CT.eS, CT.er]
    obtain ⟨hb, h⟩ := bcond_false h
    obtain ⟨k, hk, h⟩ := optK_some h
    simp only [hb, hk, bcond, optK]
    exact hK _ h
  · rename_i hx
    rw [hx]
    simp only [CT.eS, CT.er]
    split at h
    · rename_i hk
      obtain ⟨hb, h⟩ := bcond_false h
      simp only [hk, hb, bcond]
      exact hK _ h
    · rename_i hk
      obtain ⟨hb, h⟩ := bcond_false h
      obtain ⟨r, hr, h⟩ := optK_some h
      simp only [Bool.and_eq_true] at hb
      have hsrc : 1 ≤ (X.C.i src).kind := by have := beqN hb.1.1; omega
      have hz := beqN hb.2
      simp only [hk, hb.1.1, hb.1.2, Nat.ble_eq_true_of_le hsrc, Bool.and_self, bcond]
      have := hK _ h
      simpa [CT.eE, CT.eS, CT.eO, CT.eM, hz, ok.ofB _ _ _ hr] using this
    · exact h.elim
  · rename_i id ver hx
    rw [hx]
    simp only [CT.eS]
    obtain ⟨hb, h⟩ := bcond_false h
    simp only [hb, bcond]
    split at h
    · rename_i v z rows hm
      obtain ⟨hb2, h⟩ := bcond_false h
      obtain ⟨l, hl, h⟩ := optK_some h
      simp only [Bool.and_eq_true] at hb2
      have hz := beqN hb2.2
      simp only [eO_row hm, hz, hb2.1]
      exact ⟨l, ok.toB _ _ _ hl, hK _ h⟩
    · exact h.elim
  · exact h.elim

theorem load_ok (ok : CodOK X) (hK : ∀ e, K' e → K (X.eE e)) {t : Nat} {x : Operand} (hop : o.op = .load t x) (h : effT X cl s m o K') : effK X.C (fun t => X.eS (s t)) (fun id => X.eO (m id)) o K := by
  unfold effT at h
  unfold effK
  simp only [hop] at h ⊢
  simp only [eS_op]
  split at h
  · rename_i hx
    rw [hx]
    simp only [CT.eS]
    split at h
    · rename_i hm
      obtain ⟨hb, h⟩ := bcond_false h
      simp only [eO_var hm, eL_len, hb, bcond]
      have := hK _ h
      simpa [CT.eE, eS_val, eL_take, eL_drop] using this
    · exact h.elim
  · rename_i hx
    rw [hx]
    simp only [CT.eS, List.length_map]
    obtain ⟨hb, h⟩ := bcond_false h
    simp only [hb, bcond]
    have := hK _ h
    rw [eE_pure, eS_val, eL_t, List.map_take] at this
    exact this
  · rename_i id ver j off hx
    rw [hx]
    simp only [CT.eS]
    split at h
    · rename_i v z rows hm
      obtain ⟨hb, h⟩ := bcond_false h
      obtain ⟨r, hr, h⟩ := optK_some h
      obtain ⟨vs, hv, h⟩ := optK_some h
      obtain ⟨hb2, h⟩ := bcond_false h
      simp only [eO_row hm, hb, bcond]
      obtain ⟨i1, i2⟩ := allV_ok (X := X) hv
      have e1 : ((X.R z r).drop off).take (X.C.i t).size = vs.map X.er := by
        rw [eL_take, eL_drop, eL_t, ok.E] at i1
        have := congrArg (List.map tOf) i1
        rw [tOf_t] at this
        rw [← this, ← List.map_drop, ← List.map_take, tOf_t]
      refine ⟨X.R z r, by rw [idx_map, hr]; rfl, ?_, ?_, ?_⟩
      · rw [← ok.E, List.length_map]; exact hb2
      · rw [e1]; exact i2
      · have := hK _ h
        simp only [CT.eE, eS_val, eL_t, List.map_nil] at this
        rw [e1]
        exact this
    · exact h.elim
  · exact h.elim

theorem store_ok (ok : CodOK X) (hK : ∀ e, K' e → K (X.eE e)) {t : Nat} {a x : Operand} (hop : o.op = .store t a x) (h : effT X cl s m o K') : effK X.C (fun t => X.eS (s t)) (fun id => X.eO (m id)) o K := by
  unfold effT at h
  unfold effK
  simp only [hop] at h ⊢
  simp only [eS_op]
  obtain ⟨hb, h2⟩ := bcond_false h
  clear h
  have hb' : (Nat.ble 1 (X.C.i t).kind && Nat.beq (X.eS (opT s x)).cells.length (X.C.i t).size && okC (X.eS (opT s x)) && (X.eS (opT s x)).cells.all cell1) = true := by
    rw [eS_cells, eL_len, eS_ok, eL_cell1]; exact hb
  rw [hb']
  simp only [bcond]
  split at h2
  · rename_i hx
    rw [hx]
    simp only [CT.eS]
    split at h2
    · rename_i hm
      obtain ⟨hb, h⟩ := bcond_false h2
      simp only [eO_var hm, eL_len, hb, bcond]
      have := hK _ h
      simpa [CT.eE, CT.eS, CT.eO, CT.eM, eL_fill, eS_cells] using this
    · exact h2.elim
  · rename_i id ver j off hx
    rw [hx]
    simp only [CT.eS]
    split at h2
    · rename_i v z rows hm
      obtain ⟨hb, h⟩ := bcond_false h2
      obtain ⟨r, hr, h⟩ := optK_some h
      obtain ⟨vs, hv, h⟩ := optK_some h
      obtain ⟨hb2, h⟩ := bcond_false h
      obtain ⟨r', hr', h⟩ := optK_some h
      obtain rfl := beqN hb
      simp only [Bool.and_eq_true] at hb2
      have i1 : all2 (rbo (fun id => X.eO (m id)) 4) (X.eS (opT s x)).cells (vs.map X.er) := by rw [eS_cells]; exact rdoL_ok hv
      have e0 : (nodupN (refsL (refs 4) (X.eS (opT s x)).cells) && !memN id (refsL (refs 4) (X.eS (opT s x)).cells)) = true := by rw [eS_cells]; simp only [Bool.and_eq_true]; exact ⟨hb2.1.2, hb2.2⟩
      simp only [Bool.and_eq_true] at e0
      simp only [eO_row hm, Nat.beq_refl, e0.1, e0.2, Bool.and_self, bcond]
      refine ⟨X.R z r, vs.map X.er, by rw [idx_map, hr]; rfl, ?_, i1, ?_⟩
      · rw [← ok.E, List.length_map]; exact hb2.1.1
      · have := hK _ h
        have e2 := ok.dec z _ r' hr'
        simp only [List.map_append, List.map_take, List.map_drop, ok.E] at e2
        simp only [CT.eE, CT.eS, CT.eO, CT.eM, List.map_cons, List.map_map, Function.comp_def, List.map_set] at this
        rw [← e2] at this
        rw [eS_cells]
        exact this
    · exact h2.elim
  · exact h2.elim

theorem fieldAddr_ok (hK : ∀ e, K' e → K (X.eE e)) {t k : Nat} {x : Operand} (hop : o.op = .fieldAddr t x k) (h : effT X cl s m o K') : effK X.C (fun t => X.eS (s t)) (fun id => X.eO (m id)) o K := by
  unfold effT at h
  unfold effK
  simp only [hop] at h ⊢
  simp only [eS_op]
  obtain ⟨f, hf, h⟩ := optK_some h
  obtain ⟨hb, h⟩ := bcond_false h
  simp only [hf, optK, hb, Bool.true_and]
  split at h
  · rename_i hx
    rw [hx]
    simp only [CT.eS]
    split at h
    · rename_i hm
      simp only [eO_var hm, bcond]
      exact hK _ h
    · exact h.elim
  · rename_i hx
    rw [hx]
    simp only [CT.eS, bcond]
    have := hK _ h
    simpa [eE_pure, CT.eS, List.map_drop] using this
  · rename_i hx
    rw [hx]
    simp only [CT.eS]
    split at h
    · rename_i hm
      obtain ⟨hb2, h⟩ := bcond_false h
      simp only [Bool.and_eq_true] at hb
      simp only [eO_row hm, hb2, hb.1.1, hb.1.2, hb.2, Bool.and_self, bcond]
      exact hK _ h
    · exact h.elim
  · exact h.elim

theorem indexAddr_ok (ok : CodOK X) (hK : ∀ e, K' e → K (X.eE e)) {t : Nat} {x j : Operand} (hop : o.op = .indexAddr t x j) (h : effT X cl s m o K') : effK X.C (fun t => X.eS (s t)) (fun id => X.eO (m id)) o K := by
  unfold effT at h
  unfold effK
  simp only [hop] at h ⊢
  simp only [eS_op]
  split at h
  · rename_i hx hy
    rw [hx, hy]
    simp only [CT.eS, CT.er]
    obtain ⟨hb, h⟩ := bcond_false h
    obtain ⟨r, hr, h⟩ := optK_some h
    simp only [Bool.and_eq_true] at hb
    have he := beqN hb.2
    subst he
    simp only [hb.1.1, hb.1.2, Nat.beq_refl, Bool.and_self, bcond]
    refine ⟨X.R _ r, by rw [idx_map, hr]; rfl, ?_⟩
    have := hK _ h
    rw [eE_pure] at this
    simpa [CT.eS, ok.E] using this
  · rename_i hx hy
    rw [hx, hy]
    simp only [CT.eS, CT.er]
    split at h
    · rename_i hm
      obtain ⟨hb, h2⟩ := bcond_false h
      clear h
      obtain ⟨r, hr, h⟩ := optK_some h2
      clear h2
      simp only [Bool.and_eq_true] at hb
      have he := beqN hb.2
      subst he
      simp only [eO_row hm, hb.1.1.1, hb.1.1.2, hb.1.2, Nat.beq_refl, Bool.and_self, bcond]
      exact ⟨X.R _ r, by rw [idx_map, hr]; rfl, hK _ h⟩
    · exact h.elim
  · exact h.elim

theorem eff_sim (ok : CallsOK X cl) (hK : ∀ e, K' e → K (X.eE e)) (h : effT X cl s m o K') : effK X.C (fun t => X.eS (s t)) (fun id => X.eO (m id)) o K := by
  have hfull := h
  cases hop : o.op with
  | binOp op t x y u => exact bin_ok hK hop h
  | convert src dst x => exact conv_ok ok.cod hK hop h
  | load t x => exact load_ok ok.cod hK hop h
  | store t a x => exact store_ok ok.cod hK hop h
  | fieldAddr t x k => exact fieldAddr_ok hK hop h
  | indexAddr t x j => exact indexAddr_ok ok.cod hK hop h
  | move x =>
    unfold effT at h
    unfold effK
    simp only [hop] at h ⊢
    rw [eS_op]
    exact hK _ h
  | assign x =>
    unfold effT at h
    unfold effK
    simp only [hop] at h ⊢
    rw [eS_op]
    exact hK _ h
  | pick c a b =>
    unfold effT at h
    unfold effK
    simp only [hop] at h ⊢
    simp only [eS_op]
    split at h
    · rename_i hc
      rw [hc]
      exact pick_ok hK h
    · exact h.elim
  | alloc t =>
    unfold effT at h
    unfold effK
    simp only [hop] at h ⊢
    obtain ⟨hb, h⟩ := bcond_false h
    obtain ⟨z, hz, h⟩ := optK_some h
    simp only [hb, bcond]
    have := hK _ h
    simpa [CT.eE, CT.eS, CT.eO, CT.eM, lift_ok hz] using this
  | box t x =>
    unfold effT at h
    unfold effK
    simp only [hop] at h ⊢
    obtain ⟨hb, h⟩ := bcond_false h
    simp only [eS_op, eS_ok, hb, bcond, eS_cells]
    exact hK _ h
  | build t parts =>
    unfold effT at h
    unfold effK
    simp only [hop] at h ⊢
    obtain ⟨hb, h⟩ := bcond_false h
    obtain ⟨z, hz, h⟩ := optK_some h
    obtain ⟨cs, hc, h⟩ := optK_some h
    have := fill_ok (X := X) _ _ _ hc
    rw [lift_ok hz, List.map_map] at this
    have e : (parts.toList.map fun p => (p.1, opnd (fun t => X.eS (s t)) p.2)) = parts.toList.map ((fun p : Nat × VS D => (p.1, X.eS p.2)) ∘ fun p => (p.1, opT s p.2)) := by
      refine List.map_congr_left fun p _ => ?_
      simp only [Function.comp, eS_op]
    simp only [hb, bcond]
    rw [e, this]
    exact hK _ h
  | buildSlice t len parts =>
    unfold effT at h
    unfold effK
    simp only [hop] at h ⊢
    obtain ⟨hb, h2⟩ := bcond_false h
    clear h
    obtain ⟨z, hz, h⟩ := optK_some h2
    obtain ⟨cs, hc, h⟩ := optK_some h
    obtain ⟨rows, hr, h⟩ := optK_some h
    obtain ⟨hb2, h⟩ := bcond_false h
    have := fill_ok (X := X) _ _ _ hc
    rw [lift_ok hz, List.map_map] at this
    have e : (parts.toList.map fun p => (p.1, opnd (fun t => X.eS (s t)) p.2)) = parts.toList.map ((fun p : Nat × VS D => (p.1, X.eS p.2)) ∘ fun p => (p.1, opT s p.2)) := by
      refine List.map_congr_left fun p _ => ?_
      simp only [Function.comp, eS_op]
    have hb' : (Nat.beq (X.C.i t).kind 2 && Nat.ble 1 (X.C.i (X.C.i t).elem).kind && Nat.ble 1 (X.C.i (X.C.i t).elem).size && Nat.beq (X.C.i (X.C.i t).elem).zero.length (X.C.i (X.C.i t).elem).size && Nat.ble 1 (X.C.i (X.C.i t).elem).bytes && Nat.ble (len * (X.C.i (X.C.i t).elem).size) 4096) = true := hb
    simp only [hb', bcond]
    rw [e, this]
    refine ⟨rows.map (X.R _), ?_, hb2, ?_⟩
    · have := decAll_ok ok.cod hr
      rw [CT.eL_map, rowsN_map]
      rw [show X.eL = List.map X.eS from funext fun l => CT.eL_map X l] at this
      exact this
    · have := hK _ h
      simpa [CT.eE, CT.eS, CT.eO, CT.eM, Function.comp_def] using this
  | makeSlice t n c =>
    unfold effT at h
    unfold effK
    simp only [hop] at h ⊢
    simp only [eS_op]
    split at h
    · rename_i nn cc hn hc
      rw [hn, hc]
      simp only [CT.eS, CT.er]
      obtain ⟨hb, h2⟩ := bcond_false h
      clear h
      simp only [Bool.and_eq_true] at hb
      obtain ⟨z, hz, h⟩ := optK_some h2
      obtain ⟨vs, hv, h⟩ := optK_some h
      obtain ⟨zd, hd, h⟩ := optK_some h
      obtain ⟨hnc, h⟩ := bcond_false h
      obtain ⟨rows, hr, h⟩ := optK_some h
      have hb' : (nn == cc && Nat.beq (X.C.i t).kind 2 && Nat.ble 1 (X.C.i (X.C.i t).elem).kind && Nat.ble 1 (X.C.i (X.C.i t).elem).size && Nat.beq (X.C.i (X.C.i t).elem).zero.length (X.C.i (X.C.i t).elem).size && Nat.ble 1 (X.C.i (X.C.i t).elem).bytes && (refsL (refs 4) (X.C.i (X.C.i t).elem).zero).isEmpty && (X.C.i (X.C.i t).elem).zero.all cell1) = true := by
        have := hb.1.1
        unfold okSlB at this
        simp only [Bool.and_eq_true] at this ⊢
        exact ⟨⟨⟨⟨⟨⟨⟨hnc, this.1.1.1.1⟩, this.1.1.1.2⟩, this.1.1.2⟩, this.1.2⟩, this.2⟩, hb.1.2⟩, hb.2⟩
      simp only [hb', bcond]
      have i1 : all2 (rbo (fun id => X.eO (m id)) 4) (X.eL z) (vs.map X.er) := rdoL_ok hv
      rw [lift_ok hz] at i1
      refine ⟨rows.map (X.R _), _, i1, ?_, ?_⟩
      · rw [ok.cod.dec _ _ _ hd, mks_map, hr]; rfl
      · have := hK _ h
        simpa [CT.eE, CT.eS, CT.eO, CT.eM] using this
    · exact h.elim
  | nilCheck x =>
    unfold effT at h
    unfold effK
    simp only [hop] at h ⊢
    simp only [eS_op]
    split at h
    · rename_i hx
      rw [hx]
      simp only [CT.eS]
      split at h
      · rename_i hm
        simp only [eO_var hm]
        exact hK _ h
      · exact h.elim
    · rename_i hx
      rw [hx]
      simp only [CT.eS]
      exact hK _ h
    · exact h.elim
  | unOp op t x =>
    unfold effT at h
    unfold effK
    simp only [hop] at h ⊢
    simp only [eS_op]
    split at h
    · rename_i hx
      simp only [hx, CT.eS, CT.er]
      exact hK _ h
    · rename_i hx
      simp only [hx, CT.eS, CT.er]
      exact hK _ h
    · exact h.elim
  | slice t x lo hi mx =>
    unfold effT at h
    unfold effK
    simp only [hop] at h ⊢
    simp only [eS_op, eS_lo, eS_hi]
    split at h
    · rename_i hx
      rw [hx]
      simp only [CT.eS, CT.er]
      split at h
      · rename_i hl hh
        obtain ⟨hb, h⟩ := bcond_false h
        obtain ⟨r, hr, h⟩ := optK_some h
        simp only [hl, hh, CT.eS, CT.er, hb, bcond]
        exact ⟨r, hr, hK _ h⟩
      · exact h.elim
    · rename_i z rows hx
      rw [hx]
      simp only [CT.eS, CT.er, List.length_map]
      split at h
      · rename_i hl hh
        obtain ⟨hb, h⟩ := bcond_false h
        obtain ⟨r, hr, h⟩ := optK_some h
        simp only [Bool.and_eq_true] at hb
        have he := beqN hb.2
        subst he
        simp only [hl, hh, CT.eS, CT.er, hb.1.1, hb.1.2, Nat.beq_refl, Bool.and_self, bcond]
        refine ⟨r.map (X.R _), ?_, hK _ h⟩
        rw [ssub_map, hr]; rfl
      · exact h.elim
    · exact h.elim
  | field t x k =>
    unfold effT at h
    unfold effK
    simp only [hop] at h ⊢
    simp only [eS_op]
    obtain ⟨f, hf, h⟩ := optK_some h
    simp only [hf, optK]
    split at h
    · rename_i hx
      obtain ⟨hb, h⟩ := bcond_false h
      rw [hx]
      simp only [CT.eS, eL_len, hb, bcond]
      have := hK _ h
      rw [eE_pure, eS_val, eL_take, eL_drop] at this
      exact this
    · exact h.elim
  | index t x j =>
    unfold effT at h
    unfold effK
    simp only [hop] at h ⊢
    simp only [eS_op]
    split at h
    · rename_i hx hy
      obtain ⟨hb, h⟩ := bcond_false h
      obtain ⟨c, hc, h⟩ := optK_some h
      simp only [hx, hy, CT.eS, CT.er, hb, bcond]
      exact ⟨c, hc, hK _ h⟩
    · exact h.elim
  | extract x k =>
    unfold effT at h
    unfold effK
    simp only [hop] at h ⊢
    simp only [eS_op]
    split at h
    · rename_i l hx
      obtain ⟨v, hv, h⟩ := optK_some h
      have e : (X.eL l)[k]? = some (X.eS v) := by rw [CT.eL_map, List.getElem?_map, hv]; rfl
      simp only [hx, CT.eS, e, optK]
      exact hK _ h
    · exact h.elim
  | makeFunc fn first cap =>
    obtain ⟨first⟩ := first
    cases fn with
    | func f =>
      cases first with
      | nil =>
        unfold effT at h
        unfold effK
        simp only [hop] at h ⊢
        have := hK _ h
        rw [eE_pure] at this
        simp only [CT.eS, CT.eL_map] at this
        rw [eL_ops]
        exact this
      | cons a l => unfold effT at h; simp only [hop] at h
    | _ => unfold effT at h; simp only [hop] at h
  | call c =>
    unfold effT at h
    unfold effK
    simp only [hop] at h ⊢
    split at h
    · rename_i b hb
      simp only [hb, eL_ops]
      exact buildin_ok ok.cod hK h
    · rename_i f hf
      simp only [hf, eS_op]
      split at h
      · rename_i g cap hx
        simp only [hx, CT.eS]
        have e : c.args.toList.map (opnd fun t => X.eS (s t)) ++ X.eL cap = (c.args.toList.map (opT s) ++ cap).map X.eS := by
          rw [eL_ops, CT.eL_map, List.map_append]
        cases hw : memN g X.C.wr with
        | false =>
          simp only [hw, Bool.not_false, bcond] at h
          obtain ⟨ts, r, h1, h2, h3⟩ := ok.calls g m _ _ h
          refine ⟨ts, X.eR r, ?_, h2, impOK_T r, ?_⟩
          · rw [e]; exact h1
          · have := hK _ h3
            rw [e, imp_okT]
            simpa [CT.eE, toks, keys, Function.comp_def] using this
        | true =>
          simp only [hw, Bool.not_true, bcond] at h
          obtain ⟨ts, x, outs, mw, h1, h2, h3, h4, h5, h6⟩ := ok.callsW g m _ _ h
          refine ⟨ts, X.er x, outs, by rw [e]; exact h1, by rw [e]; exact h2, h3, ?_⟩
          rw [e, h4]
          refine ⟨by rw [keys_map]; exact h5, ?_⟩
          have := hK _ h6
          simpa [CT.eE, CT.eS] using this
      · exact h.elim
    · exact h.elim
  | _ => unfold effT at h; simp only [hop] at h

end
end Go.Pv

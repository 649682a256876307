/- Calls of functions that write the rows that they are given. Nothing is claimed here. -/
import Derived.Test.YtgdjicnefdnofaaDoorPv13
set_option linter.unusedSimpArgs false
set_option linter.unusedVariables false
namespace Go.Pv
open Go Go.RowKit Go.Lib

section
variable {P : Program} {C : Ctx} {N : FrP} {W : Nat → Prop} {base : Nat} {w0 : World} {s : Nat → SV} {m : Nat → Option MO} {bv : Nat → Nat} {hd : Nat → Value} {fp : Nat → Nat → Prop} {Fr : Nat → Prop} {a : Act} {w : World}

structure BackOK (w' : World) (m : Nat → Option MO) (hd : Nat → Value) (F : Nat → Prop) (ids : List Nat) (mw : List (Nat × Option MO)) (fN : Nat → Nat → Prop) : Prop where
  row : ∀ id ob, (id, ob) ∈ mw → ∃ ver sz rows rows0, ob = some (.row ver sz rows) ∧ m id = some (.row ver sz rows0) ∧ Owns w' (fN id) (hd id) (.sl sz rows)
  sub : ∀ id b, fN id b → F b
  dis : ∀ id id' b, fN id b → fN id' b → id = id'
  kin : ∀ id b, fN id b → id ∈ keys mw
  ref : ∀ id ∈ keys mw, id ∈ ids

theorem BackOK.nil {w' : World} {F : Nat → Prop} {ids : List Nat} : BackOK w' m hd F ids [] (fun _ _ => False) :=
  ⟨fun id ob h => by simp at h, fun _ _ h => h.elim, fun _ _ _ h => h.elim, fun _ _ h => h.elim, fun id h => by simp [keys] at h⟩

theorem BackOK.join {w' : World} {F1 F2 : Nat → Prop} {i1 i2 : List Nat} {m1 m2 : List (Nat × Option MO)} {f1 f2 : Nat → Nat → Prop} (I1 : BackOK w' m hd F1 i1 m1 f1) (I2 : BackOK w' m hd F2 i2 m2 f2) (hn : ∀ id ∈ i1, id ∉ i2) (hF : ∀ b, F1 b → F2 b → False) :
    BackOK w' m hd (fun b => F1 b ∨ F2 b) (i1 ++ i2) (m1 ++ m2) (fun id b => f1 id b ∨ f2 id b) := by
  refine ⟨fun id ob h => ?_, fun id b h => ?_, fun id id' b h h' => ?_, fun id b h => ?_, fun id h => ?_⟩
  · rcases List.mem_append.1 h with h | h
    · obtain ⟨v, sz, rows, r0, e, e2, ho⟩ := I1.row id ob h
      exact ⟨v, sz, rows, r0, e, e2, ho.mono (fun b hb => .inl hb) (fun _ _ => rfl)⟩
    · obtain ⟨v, sz, rows, r0, e, e2, ho⟩ := I2.row id ob h
      exact ⟨v, sz, rows, r0, e, e2, ho.mono (fun b hb => .inr hb) (fun _ _ => rfl)⟩
  · rcases h with h | h
    · exact .inl (I1.sub id b h)
    · exact .inr (I2.sub id b h)
  · rcases h with h | h <;> rcases h' with h' | h'
    · exact I1.dis id id' b h h'
    · exact (hF b (I1.sub _ _ h) (I2.sub _ _ h')).elim
    · exact (hF b (I1.sub _ _ h') (I2.sub _ _ h)).elim
    · exact I2.dis id id' b h h'
  · rw [keys_append]
    rcases h with h | h
    · exact List.mem_append_left _ (I1.kin id b h)
    · exact List.mem_append_right _ (I2.kin id b h)
  · rw [keys_append] at h
    rcases List.mem_append.1 h with h | h
    · exact List.mem_append_left _ (I1.ref id h)
    · exact List.mem_append_right _ (I2.ref id h)

theorem BackOK.weak {w' : World} {F F' : Nat → Prop} {i i' : List Nat} {mw : List (Nat × Option MO)} {fN : Nat → Nat → Prop} (I : BackOK w' m hd F i mw fN) (hF : ∀ b, F b → F' b) (hi : ∀ id ∈ i, id ∈ i') : BackOK w' m hd F' i' mw fN :=
  ⟨I.row, fun id b h => hF b (I.sub id b h), I.dis, I.kin, fun id h => hi id (I.ref id h)⟩

theorem back_one {w' : World} {id ver sz sz0 : Nat} {rows rows0 : List (List T)} {G : Nat → Prop} {v : Value} (hv : VRel w Fr m bv hd (.ref id ver) v) (hm : m id = some (.row ver sz rows0)) (ho : Owns w' G v (.sl sz rows)) :
    BackOK w' m hd G [id] [(id, some (.row ver sz rows))] (fun j b => j = id ∧ G b) := by
  cases hv with
  | ref _ _ _ _ hh =>
    have := hh _ _ hm
    subst this
    refine ⟨fun j ob h => ?_, fun _ _ h => h.2, fun _ _ _ h h' => by rw [h.1, h'.1], fun j b h => by simp [keys, h.1], fun j h => by simpa [keys] using h⟩
    simp only [List.mem_singleton, Prod.mk.injEq] at h
    obtain ⟨rfl, rfl⟩ := h
    exact ⟨ver, sz, rows, rows0, rfl, hm, ho.mono (fun b hb => ⟨rfl, hb⟩) (fun _ _ => rfl)⟩

theorem backsC_ok {w' : World} {n : Nat} : ∀ (svs : List SV) (outs : List T) (cs : List Value) (G : Nat → Nat → Prop) (mw : List (Nat × Option MO)), effK.backsC m svs outs = some mw → cs.length = svs.length →
    (∀ (i : Nat) v sv, cs[i]? = some v → svs[i]? = some sv → VRel w Fr m bv hd sv v) → (∀ i j b, G i b → G j b → i = j) → (∀ (i : Nat) v t, cs[i]? = some v → outs[i]? = some t → Owns w' (G i) v t) → (refsL (refs (n + 1)) svs).Nodup →
    ∃ fN, BackOK w' m hd (fun b => ∃ i, G i b) (refsL (refs (n + 1)) svs) mw fN
  | [], outs, cs, G, mw, h, hl, hr, hD, ho, hn => by
    cases outs with
    | nil => simp only [effK.backsC, Option.some.injEq] at h; subst h; exact ⟨_, .nil⟩
    | cons t outs => simp [effK.backsC] at h
  | sv :: svs, [], cs, G, mw, h, hl, hr, hD, ho, hn => by cases sv <;> simp [effK.backsC] at h
  | sv :: svs, t :: outs, [], G, mw, h, hl, hr, hD, ho, hn => by simp at hl
  | sv :: svs, t :: outs, c :: cs, G, mw, h, hl, hr, hD, ho, hn => by
    have hn2 : (refsL (refs (n + 1)) svs).Nodup := by simp only [refsL, List.nodup_append] at hn; exact hn.2.1
    have rest := fun mw' h' => backsC_ok (w' := w') (n := n) svs outs cs (fun i => G (i + 1)) mw' h' (by simpa using hl) (fun i v sv h1 h2 => hr (i + 1) v sv h1 h2) (fun i j b h1 h2 => by have := hD _ _ b h1 h2; omega) (fun i v t h1 h2 => ho (i + 1) v t h1 h2) hn2
    have skip : effK.backsC m svs outs = some mw → ∃ fN, BackOK w' m hd (fun b => ∃ i, G i b) (refsL (refs (n + 1)) (sv :: svs)) mw fN := by
      intro h'
      obtain ⟨fN, I⟩ := rest mw h'
      exact ⟨fN, I.weak (fun b ⟨i, hi⟩ => ⟨i + 1, hi⟩) (fun id hid => by simp only [refsL]; exact List.mem_append_right _ hid)⟩
    cases sv with
    | ref id ver =>
      cases t with
      | sl sz rows =>
        simp only [effK.backsC] at h
        cases hm : m id with
        | none => simp [hm] at h
        | some ob =>
          cases ob with
          | var l => simp [hm] at h
          | row v z rows0 =>
            cases hb : effK.backsC m svs outs with
            | none => simp [hm, hb] at h
            | some w1 =>
              simp only [hm, hb] at h
              cases hc : (Nat.beq v ver && Nat.beq z sz) with
              | false => simp [hc] at h
              | true =>
                simp only [hc, cond_true, Option.some.injEq] at h
                subst h
                simp only [Bool.and_eq_true] at hc
                obtain rfl := beqN hc.1
                obtain rfl := beqN hc.2
                obtain ⟨fN, I⟩ := rest w1 hb
                have J := (back_one (sz0 := 0) (hr 0 c _ rfl rfl) hm (ho 0 c _ rfl rfl)).join I (fun id' h1 h2 => by
                  simp only [refsL, List.nodup_append] at hn
                  exact hn.2.2 id' (by simpa [refs] using h1) id' h2 rfl) (fun b h1 ⟨i, h2⟩ => by have := hD _ _ b h1 h2; omega)
                exact ⟨_, J.weak (fun b h => by rcases h with h | ⟨i, h⟩; exact ⟨0, h⟩; exact ⟨i + 1, h⟩) (fun id h => by simpa [refsL, refs] using h)⟩
      | _ => exact skip h
    | _ => exact skip (by cases t <;> exact h)

theorem backs_ok {w' : World} {n : Nat} : ∀ (svs : List SV) (outs : List T) (cs : List Value) (G : Nat → Nat → Prop) (mw : List (Nat × Option MO)), effK.backs m svs outs = some mw → cs.length = svs.length →
    (∀ (i : Nat) v sv, cs[i]? = some v → svs[i]? = some sv → VRel w Fr m bv hd sv v) → (∀ i j b, G i b → G j b → i = j) → (∀ (i : Nat) v t, cs[i]? = some v → outs[i]? = some t → Owns w' (G i) v t) → (refsL (refs (n + 2)) svs).Nodup →
    ∃ fN, BackOK w' m hd (fun b => ∃ i, G i b) (refsL (refs (n + 2)) svs) mw fN
  | [], outs, cs, G, mw, h, hl, hr, hD, ho, hn => by
    cases outs with
    | nil => simp only [effK.backs, Option.some.injEq] at h; subst h; exact ⟨_, .nil⟩
    | cons t outs => simp [effK.backs] at h
  | sv :: svs, [], cs, G, mw, h, hl, hr, hD, ho, hn => by cases sv <;> simp [effK.backs] at h
  | sv :: svs, t :: outs, [], G, mw, h, hl, hr, hD, ho, hn => by simp at hl
  | sv :: svs, t :: outs, c :: cs, G, mw, h, hl, hr, hD, ho, hn => by
    have hn2 : (refsL (refs (n + 2)) svs).Nodup := by simp only [refsL, List.nodup_append] at hn; exact hn.2.1
    have rest := fun mw' h' => backs_ok (w' := w') (n := n) svs outs cs (fun i => G (i + 1)) mw' h' (by simpa using hl) (fun i v sv h1 h2 => hr (i + 1) v sv h1 h2) (fun i j b h1 h2 => by have := hD _ _ b h1 h2; omega) (fun i v t h1 h2 => ho (i + 1) v t h1 h2) hn2
    have skip : effK.backs m svs outs = some mw → ∃ fN, BackOK w' m hd (fun b => ∃ i, G i b) (refsL (refs (n + 2)) (sv :: svs)) mw fN := by
      intro h'
      obtain ⟨fN, I⟩ := rest mw h'
      exact ⟨fN, I.weak (fun b ⟨i, hi⟩ => ⟨i + 1, hi⟩) (fun id hid => by simp only [refsL]; exact List.mem_append_right _ hid)⟩
    cases sv with
    | ref id ver =>
      cases t with
      | sl sz rows =>
        simp only [effK.backs] at h
        cases hm : m id with
        | none => simp [hm] at h
        | some ob =>
          cases ob with
          | var l => simp [hm] at h
          | row v z rows0 =>
            cases hb : effK.backs m svs outs with
            | none => simp [hm, hb] at h
            | some w1 =>
              simp only [hm, hb] at h
              cases hc : (Nat.beq v ver && Nat.beq z sz) with
              | false => simp [hc] at h
              | true =>
                simp only [hc, cond_true, Option.some.injEq] at h
                subst h
                simp only [Bool.and_eq_true] at hc
                obtain rfl := beqN hc.1
                obtain rfl := beqN hc.2
                obtain ⟨fN, I⟩ := rest w1 hb
                have J := (back_one (sz0 := 0) (hr 0 c _ rfl rfl) hm (ho 0 c _ rfl rfl)).join I (fun id' h1 h2 => by
                  simp only [refsL, List.nodup_append] at hn
                  exact hn.2.2 id' (by simpa [refs] using h1) id' h2 rfl) (fun b h1 ⟨i, h2⟩ => by have := hD _ _ b h1 h2; omega)
                exact ⟨_, J.weak (fun b h => by rcases h with h | ⟨i, h⟩; exact ⟨0, h⟩; exact ⟨i + 1, h⟩) (fun id h => by simpa [refsL, refs] using h)⟩
      | _ => exact skip h
    | agg l =>
      cases t with
      | agg ts =>
        simp only [effK.backs] at h
        cases ha : effK.backsC m l ts with
        | none => simp [ha] at h
        | some w1 =>
          cases hb : effK.backs m svs outs with
          | none => simp [ha, hb] at h
          | some w2 =>
            simp only [ha, hb, Option.some.injEq] at h
            subst h
            have hv := hr 0 c _ rfl rfl
            cases hv with
            | agg _ us hlu hru =>
              have ho0 := ho 0 _ _ rfl rfl
              cases ho0 with
              | agg _ _ _ G' hl' hG' hD' hown =>
                obtain ⟨f1, I1⟩ := backsC_ok (w' := w') (n := n) l ts us G' w1 ha hlu hru hD' hown (by simp only [refsL, List.nodup_append, refs] at hn; exact hn.1)
                obtain ⟨fN, I⟩ := rest w2 hb
                have J := (I1.weak (F' := G 0) (fun b ⟨i, hi⟩ => hG' i b hi) (fun id h => h)).join I (fun id' h1 h2 => by
                  simp only [refsL, List.nodup_append] at hn
                  exact hn.2.2 id' (by simpa [refs] using h1) id' h2 rfl) (fun b h1 ⟨i, h2⟩ => by have := hD _ _ b h1 h2; omega)
                exact ⟨_, J.weak (fun b h => by rcases h with h | ⟨i, h⟩; exact ⟨0, h⟩; exact ⟨i + 1, h⟩) (fun id h => by simpa [refsL, refs] using h)⟩
      | _ => exact skip h
    | _ => exact skip (by cases t <;> exact h)

theorem goes_callW (H : CtxOK P C) (hG : ∀ w, N.gi w → C.gi w) (R : RelE N W base w0 s m bv hd fp Fr a w) {o : Oper} (hdst : ∀ d, o.dst = some d → N.ok d) {c : Call} {f : Operand} {g : FuncId} {cap : List SV} {ts outs : List T} {res : T} {mw : List (Nat × Option MO)} {fpl : List Nat} (h : o.op = .call c) (hc : c.callee = .value f)
    (hf : opnd s f = .clo g cap) (ht : all2 (rbo m 4) (c.args.toList.map (opnd s) ++ cap) ts) (hn : nodupN (refsL (refs 4) (c.args.toList.map (opnd s) ++ cap)) = true) (hw : C.cw g ts res outs) (hb : effK.backs m (c.args.toList.map (opnd s) ++ cap) outs = some mw) (hs : res.scalar = true)
    (hk : ∀ id ∈ refsL (refs 4) (c.args.toList.map (opnd s) ++ cap), id ∈ keys mw) : Goes P N W base w0 s m o ⟨.t res, mw, fpl, []⟩ a w := by
  obtain ⟨he, hlo, hcall⟩ := H.cw g ts res outs hw
  have hv := opnd_rel R f
  rw [hf] at hv
  generalize hev : a.eval f = v at hv
  cases hv with
  | clo _ _ caps hl hr =>
    obtain ⟨h1, h2⟩ := args_rel R c hl hr
    obtain ⟨h3, h4⟩ := all2_get ht
    have hnd := nodupN_iff.1 hn
    generalize hsv : c.args.toList.map (opnd s) ++ cap = svs at *
    generalize hvv : c.args.toList.map a.eval ++ caps = vs at *
    let G : Nat → Nat → Prop := fun i b => ∃ sv, svs[i]? = some sv ∧ ∃ id ∈ refs 4 sv, m id ≠ none ∧ fp id b
    have hGr : ∀ i b, G i b → ∃ id ∈ refsL (refs 4) svs, m id ≠ none ∧ fp id b := fun i b ⟨sv, e1, id, e2, e3, e4⟩ => ⟨id, refsL_mem.2 ⟨sv, List.mem_of_getElem? e1, e2⟩, e3, e4⟩
    have hD : ∀ i j b, G i b → G j b → i = j := by
      rintro i j b ⟨x, hx, id, e1, e2, e3⟩ ⟨y, hy, id', e4, e5, e6⟩
      have := R.mem.apart id id' b e2 e5 e3 e6
      subst this
      exact refsL_apart hnd hx hy e1 e4
    have hgi : ∀ w2, BelowW (fun b => ∃ i, G i b) w.heap.size w w2 → C.gi w2 := fun w2 hb2 => hG _ (R.inv _ ⟨hb2.os.trans R.below.os, hb2.tape.trans R.below.tape, hb2.output.trans R.below.output, Nat.le_trans R.below.size hb2.size, fun q hq hW => by
      rw [hb2.block q (Nat.lt_of_lt_of_le hq R.base_le) (fun ⟨i, hi⟩ => by
        obtain ⟨id, _, e3, e4⟩ := hGr i q hi
        rcases (R.mem.own id q e3 e4).1 with h | h
        · omega
        · exact hW h)]
      exact R.below.block q hq hW⟩)
    have hC := hcall w vs G hgi (by rw [h1, h3]) hD (fun i b hb => by obtain ⟨id, _, e3, e4⟩ := hGr i b hb; exact (R.mem.own id b e3 e4).2.1) (fun i v t e1 e2 => by
      have li : i < svs.length := by rw [← h1]; exact (List.getElem?_eq_some_iff.1 e1).1
      have hx := List.getElem?_eq_getElem li
      have hrb := h4 i _ _ hx e2
      exact (rbo_own R.mem 4 _ v t (h2 i v _ e1 hx) hrb (refsL_nodup hnd (List.getElem_mem li))).mono (fun b ⟨id, e3, e4⟩ => ⟨_, hx, id, e3, rbo_live 4 _ t hrb id e3, e4⟩) (fun _ _ => rfl))
    intro K Q hK
    unfold Oper.wp
    rw [run_call he h hc hev, Oper.upon_enter]
    rw [hvv]
    intro cs
    obtain ⟨e, w', fr, ⟨v, rfl, hres, hbel, hown⟩, hcomes, hfn, hleave⟩ := hC cs
    refine ⟨.returned v, w', fr, ?_, hcomes, hfn, hleave⟩
    obtain ⟨fN, I⟩ := backs_ok (w' := w') (n := 2) svs outs vs G mw hb h1 h2 hD hown hnd
    have hkeep : ∀ b, b < w.heap.size → (∀ id ∈ keys mw, m id ≠ none → ¬ fp id b) → w'.heap[b]? = w.heap[b]? := by
      intro b hb hno
      refine hbel.block b hb ?_
      rintro ⟨i, hi⟩
      obtain ⟨id, e1, e2, e3⟩ := hGr i b hi
      exact hno id (hk id e1) e2 e3
    have hin : ∀ id, id ∈ keys mw → ∃ ver sz rows rows0, updM m mw id = some (.row ver sz rows) ∧ m id = some (.row ver sz rows0) ∧ Owns w' (fN id) (hd id) (.sl sz rows) := by
      intro id hid
      obtain ⟨ver, sz, rows, r0, e, e2, ho⟩ := I.row id _ (look_mem (d := m id) hid)
      exact ⟨ver, sz, rows, r0, e, e2, ho⟩
    have hout : ∀ id, id ∉ keys mw → updM m mw id = m id := fun id h => look_not h
    have hfN : ∀ id b, fN id b → ∃ id' ∈ keys mw, m id' ≠ none ∧ fp id' b := by
      intro id b hb
      obtain ⟨i, hi⟩ := I.sub id b hb
      obtain ⟨id', e1, e2, e3⟩ := hGr i b hi
      exact ⟨id', hk id' e1, e2, e3⟩
    have k : Keeps w w' Fr Fr m (updM m mw) bv bv hd hd [] := by
      refine ⟨fun _ h => h, fun b hb => hkeep b (R.mem.fr b hb) (fun id _ e2 e3 => (R.mem.own id b e2 e3).2.2 hb), fun id ver sz rows h => ?_, fun id l h => ?_⟩
      · by_cases hid : id ∈ keys mw
        · obtain ⟨v', sz', r', r0, e1, e2, _⟩ := hin id hid
          rw [e1] at h; cases h
          exact .inl ⟨r0, e2, rfl⟩
        · rw [hout id hid] at h; exact .inl ⟨rows, h, rfl⟩
      · by_cases hid : id ∈ keys mw
        · obtain ⟨v', sz', r', r0, e1, e2, _⟩ := hin id hid
          rw [e1] at h; cases h
        · rw [hout id hid] at h; exact .inl ⟨l, h, rfl⟩
    let fp' := fun id => if id ∈ keys mw then fN id else fp id
    have M' : MemOK W base (updM m mw) bv hd fp' Fr w' := by
      refine R.mem.change k (fun id l h sv hsv => .inl rfl) hbel.size (fun id => id ∈ keys mw) (fun id hA => ⟨hout id hA, rfl, rfl, by simp [fp', hA], fun b e2 e3 => hkeep b (R.mem.own id b e2 e3).2.1 (fun id' e4 e5 e6 => hA (R.mem.apart id id' b e2 e5 e3 e6 ▸ e4))⟩) (fun id hA l h => ?_) (fun id hA ver sz rs h => ?_) (fun id id' b hA e1 e2 e3 e4 => ?_) (fun id b hA e1 e2 => ?_)
      · obtain ⟨v', sz', r', r0, e1, e2, _⟩ := hin id hA
        rw [e1] at h; cases h
      · obtain ⟨v', sz', r', r0, e1, e2, ho⟩ := hin id hA
        rw [e1] at h; cases h
        simp only [fp', hA, if_true]; exact ho
      · simp only [fp', hA, if_true] at e3
        by_cases hid : id' ∈ keys mw
        · simp only [fp', hid, if_true] at e4
          exact I.dis id id' b e3 e4
        · simp only [fp', hid, if_false] at e4
          rw [hout id' hid] at e2
          obtain ⟨id2, e5, e6, e7⟩ := hfN id b e3
          exact absurd (R.mem.apart id2 id' b e6 e2 e7 e4 ▸ e5) hid
      · simp only [fp', hA, if_true] at e2
        obtain ⟨id2, e5, e6, e7⟩ := hfN id b e2
        obtain ⟨q1, q2, q3⟩ := R.mem.own id2 b e6 e7
        exact ⟨q1, Nat.lt_of_lt_of_le q2 hbel.size, q3⟩
    have bel : BelowW W base w0 w' := by
      refine ⟨hbel.os.trans R.below.os, hbel.tape.trans R.below.tape, hbel.output.trans R.below.output, Nat.le_trans R.below.size hbel.size, fun q hq hW => ?_⟩
      rw [hkeep q (Nat.lt_of_lt_of_le hq R.base_le) (fun id _ e2 e3 => ?_)]
      · exact R.below.block q hq hW
      · rcases (R.mem.own id q e2 e3).1 with h | h
        · omega
        · exact hW h
    exact hK _ _ ⟨bv, hd, fp', Fr, put_rel R k (fun t => .inl rfl) bel (Nat.le_trans R.base_le hbel.size) M' o.dst hdst (.t _ _ ((hres.reads.owns_scalar hs w' Fr).reads))⟩

end
end Go.Pv

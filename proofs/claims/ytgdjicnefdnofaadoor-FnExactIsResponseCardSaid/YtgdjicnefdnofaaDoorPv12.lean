/- Calls as steps. Nothing is claimed here. -/
import Derived.Test.YtgdjicnefdnofaaDoorPv11
set_option linter.unusedSimpArgs false
set_option linter.unusedVariables false
namespace Go.Pv
open Go Go.RowKit Go.Lib

section
variable {P : Program} {C : Ctx} {N : FrP} {W : Nat → Prop} {base : Nat} {w0 : World} {s : Nat → SV} {m : Nat → Option MO} {bv : Nat → Nat} {hd : Nat → Value} {fp : Nat → Nat → Prop} {Fr : Nat → Prop} {a : Act} {w : World}

/-- What is read back is what a callee reads. -/
theorem rb_reads (M : MemOK W base m bv hd fp Fr w) : ∀ (n : Nat) (sv : SV) (v : Value) (t : T), VRel w Fr m bv hd sv v → rb m n sv t → Reads w (fun b => b < w.heap.size) v t
  | 0, _, _, _, _, h => h.elim
  | n + 1, sv, v, t, hv, h => by
    have lists : ∀ (l : List SV) (ts : List T) (cs : List Value), all2 (rb m n) l ts → cs.length = l.length → (∀ (i : Nat) v s, cs[i]? = some v → l[i]? = some s → VRel w Fr m bv hd s v) →
        cs.length = ts.length ∧ ∀ (i : Nat) v t, cs[i]? = some v → ts[i]? = some t → Reads w (fun b => b < w.heap.size) v t := by
      intro l ts cs h2 hl hr
      obtain ⟨h3, h4⟩ := all2_get h2
      refine ⟨by omega, fun i v t h5 h6 => ?_⟩
      have li : i < l.length := by have := (List.getElem?_eq_some_iff.1 h5).1; omega
      have hx := List.getElem?_eq_getElem li
      exact rb_reads M n _ v t (hr i v _ h5 hx) (h4 i _ _ hx h6)
    cases hv with
    | t x v hr =>
      simp only [rb] at h
      subst h
      exact hr.mono (fun b hb => M.fr b hb) (fun _ _ => rfl)
    | nil ad =>
      cases t <;> simp only [rb] at h
      subst h
      exact .sl0 _ _ _
    | gone v => cases t <;> simp [rb] at h
    | ref id ver v sh hh =>
      cases t <;> simp only [rb] at h
      rename_i sz rows
      cases hm : m id with
      | none => simp [hm] at h
      | some ob =>
        cases ob with
        | var l => simp [hm] at h
        | row ver' sz' rows' =>
          simp only [hm] at h
          obtain ⟨h1, rfl, rfl⟩ := bcond_false h
          obtain rfl := beqN h1
          rw [hh _ _ hm]
          exact (M.rows id _ _ _ hm).reads.mono (fun b hb => (M.own id b (by simp [hm]) hb).2.1) (fun _ _ => rfl)
    | ptr id off v sh hh =>
      cases t <;> first | (simp [rb] at h; done) | skip
      rename_i ts
      cases off with
      | succ off => simp [rb] at h
      | zero =>
        simp only [rb] at h
        cases hm : m id with
        | none => simp [hm] at h
        | some ob =>
          cases ob with
          | row ver' sz' rows' => simp [hm] at h
          | var l =>
            simp only [hm] at h
            rw [hh _ hm]
            obtain ⟨hf, cs, el, hb, hl, hr⟩ := M.vars id l hm
            obtain ⟨h1, h2⟩ := lists l ts cs h hl hr
            refine .box (bv id) 0 ts (fun j => cs.getD j undef) (M.own id _ (by simp [hm]) hf).2.1 (fun j t hj => ?_) (fun j t hj => ?_)
            · have hlt : j < cs.length := by rw [h1]; exact (List.getElem?_eq_some_iff.1 hj).1
              rw [cell_heap hb, Nat.zero_add, List.getD_eq_getElem?_getD, List.getElem?_eq_getElem hlt]; rfl
            · have hlt : j < cs.length := by rw [h1]; exact (List.getElem?_eq_some_iff.1 hj).1
              exact h2 j _ t (by rw [List.getD_eq_getElem?_getD, List.getElem?_eq_getElem hlt]; rfl) hj
    | rptr b off ts f hb hw hrd =>
      cases t <;> simp only [rb] at h
      subst h
      exact .box b off _ f (M.fr b hb) hw (fun j t hj => (hrd j t hj).mono (fun b hb => M.fr b hb) (fun _ _ => rfl))
    | eptr id ver i off v sh hh => cases t <;> simp [rb] at h
    | agg l cs hl hr =>
      cases t <;> simp only [rb] at h
      obtain ⟨h1, h2⟩ := lists l _ cs h hl hr
      exact .agg cs _ h1 h2
    | tup l cs hl hr =>
      cases t <;> simp only [rb] at h
      obtain ⟨h1, h2⟩ := lists l _ cs h hl hr
      exact .tup cs _ h1 h2
    | clo g l cs hl hr =>
      cases t <;> simp only [rb] at h
      obtain ⟨rfl, h⟩ := h
      obtain ⟨h1, h2⟩ := lists l _ cs h hl hr
      exact .clo g cs _ h1 h2

/-- Rows that are taken over. -/
structure ImpOK (w' : World) (F : Nat → Prop) (mw : List (Nat × Option MO)) (hN : Nat → Value) (fN : Nat → Nat → Prop) : Prop where
  row : ∀ id ob, (id, ob) ∈ mw → ∃ sz rows, ob = some (.row 0 sz rows) ∧ Owns w' (fN id) (hN id) (.sl sz rows)
  sub : ∀ id b, fN id b → F b
  dis : ∀ id id' b, fN id b → fN id' b → id = id'

theorem look_mem {l : List (Nat × Option MO)} {id : Nat} {d : Option MO} (h : id ∈ keys l) : (id, look l id d) ∈ l := by
  induction l with
  | nil => simp [keys] at h
  | cons p r ih =>
    obtain ⟨j, v⟩ := p
    rw [look]
    cases hb : Nat.beq j id with
    | true => simp [beqN hb]
    | false =>
      have : id ≠ j := fun e => by rw [e] at hb; simp at hb
      simp only [keys, List.map_cons, List.mem_cons] at h
      rcases h with h | h
      · exact absurd h this
      · simp only [cond_false]; exact List.mem_cons_of_mem _ (ih h)

theorem look_not {l : List (Nat × Option MO)} {id : Nat} {d : Option MO} (h : id ∉ keys l) : look l id d = d := by
  induction l with
  | nil => rfl
  | cons p r ih =>
    obtain ⟨j, v⟩ := p
    simp only [keys, List.map_cons, List.mem_cons, not_or] at h
    rw [look]
    cases hb : Nat.beq j id with
    | true => exact absurd (beqN hb).symm h.1
    | false => exact ih h.2

/-- New ids beside the old ones. -/
theorem add_ids (M : MemOK W base m bv hd fp Fr w) {w' : World} (g : w.grownBy w' none) (hbase : base ≤ w.heap.size) {mw : List (Nat × Option MO)} {F : Nat → Prop} {hN : Nat → Value} {fN : Nat → Nat → Prop} (I : ImpOK w' F mw hN fN)
    (hF : ∀ b, F b → w.heap.size ≤ b ∧ b < w'.heap.size) (hfresh : ∀ id ∈ keys mw, m id = none) (cl : ∀ id l, m id = some (.var l) → ∀ sv ∈ l, Cl (toks mw) sv) :
    ∃ bv' hd' fp', MemOK W base (updM m mw) bv' hd' fp' Fr w' ∧ Keeps w w' Fr Fr m (updM m mw) bv bv' hd hd' (toks mw) ∧ ∀ id ∈ keys mw, hd' id = hN id := by
  let hdn := fun id => if id ∈ keys mw then hN id else hd id
  let fp' := fun id => if id ∈ keys mw then fN id else fp id
  have hin : ∀ id, id ∈ keys mw → ∃ sz rows, updM m mw id = some (.row 0 sz rows) ∧ Owns w' (fN id) (hN id) (.sl sz rows) := by
    intro id hid
    obtain ⟨sz, rows, e, ho⟩ := I.row id _ (look_mem (d := m id) hid)
    exact ⟨sz, rows, e, ho⟩
  have hout : ∀ id, id ∉ keys mw → updM m mw id = m id := fun id h => look_not h
  have k : Keeps w w' Fr Fr m (updM m mw) bv bv hd hdn (toks mw) := by
    refine ⟨fun _ h => h, fun b hb => g.block b (M.fr b hb) (by simp), fun id ver sz rows h => ?_, fun id l h => ?_⟩
    · by_cases hid : id ∈ keys mw
      · obtain ⟨sz', rows', e, _⟩ := hin id hid
        rw [e] at h
        cases h
        refine .inr ?_
        simp only [toks, List.mem_map]
        exact ⟨_, look_mem (d := m id) hid, rfl⟩
      · rw [hout id hid] at h
        exact .inl ⟨rows, h, by simp [hdn, hid]⟩
    · by_cases hid : id ∈ keys mw
      · obtain ⟨sz', rows', e, _⟩ := hin id hid
        rw [e] at h; cases h
      · rw [hout id hid] at h
        exact .inl ⟨l, h, rfl⟩
  refine ⟨bv, hdn, fp', ?_, k, fun id hid => by simp [hdn, hid]⟩
  refine M.change k cl g.size (fun id => id ∈ keys mw) (fun id hA => ⟨hout id hA, rfl, by simp [hdn, hA], by simp [fp', hA], fun b hn hb => g.block b (M.own id b hn hb).2.1 (by simp)⟩) (fun id hA l h => ?_) (fun id hA ver sz rs h => ?_) (fun id id' b hA h1 h2 h3 h4 => ?_) (fun id b hA h1 h2 => ?_)
  · obtain ⟨sz', rows', e, _⟩ := hin id hA
    rw [e] at h; cases h
  · obtain ⟨sz', rows', e, ho⟩ := hin id hA
    rw [e] at h; cases h
    simp only [fp', hdn, hA, if_true]
    exact ho
  · simp only [fp', hA, if_true] at h3
    by_cases hid : id' ∈ keys mw
    · simp only [fp', hid, if_true] at h4
      exact I.dis id id' b h3 h4
    · simp only [fp', hid, if_false] at h4
      rw [hout id' hid] at h2
      have e1 := (hF b (I.sub _ _ h3)).1
      have e2 := (M.own id' b h2 h4).2.1
      omega
  · simp only [fp', hA, if_true] at h2
    have e1 := hF b (I.sub _ _ h2)
    exact ⟨.inl (by omega), e1.2, fun hfr => by have := M.fr b hfr; omega⟩

/-- Taken over: each slot's value. -/
def Taken (w' : World) (mw : List (Nat × Option MO)) (hN : Nat → Value) (sv : SV) (v : Value) : Prop :=
  ∀ (Fr : Nat → Prop) (m' : Nat → Option MO) (bv' : Nat → Nat) (hd' : Nat → Value), (∀ id ∈ keys mw, hd' id = hN id) → VRel w' Fr m' bv' hd' sv v

theorem impCells_keys (base : Nat) : ∀ (ts : List T) (k : Nat) (id : Nat), id ∈ keys (impCells base k ts).2 → ∃ j, k ≤ j ∧ id = base + 1000 * j
  | [], k, id, h => by simp [impCells, keys] at h
  | t :: ts, k, id, h => by
    cases t with
    | sl sz rows =>
      simp only [impCells, keys, List.map_cons, List.mem_cons] at h
      rcases h with h | h
      · exact ⟨k, Nat.le_refl _, h⟩
      · obtain ⟨j, h1, h2⟩ := impCells_keys base ts (k + 1) id h
        exact ⟨j, by omega, h2⟩
    | _ => exact impCells_keys base ts k id h

/-- The cells of a struct that is taken over. -/
theorem impCells_ok {w' : World} (base : Nat) : ∀ (ts : List T) (k : Nat) (cs : List Value) (G : Nat → Nat → Prop), cs.length = ts.length → (∀ i j b, G i b → G j b → i = j) →
    (∀ (i : Nat) v t, cs[i]? = some v → ts[i]? = some t → Owns w' (G i) v t) → (∀ t ∈ ts, t.scalar = true ∨ ∃ sz rows, t = .sl sz rows) → ∃ hN fN, ImpOK w' (fun b => ∃ i, G i b) (impCells base k ts).2 hN fN ∧ (∀ id b, fN id b → id ∈ keys (impCells base k ts).2) ∧ (impCells base k ts).1.length = cs.length ∧
      ∀ (i : Nat) v sv, cs[i]? = some v → (impCells base k ts).1[i]? = some sv → Taken w' (impCells base k ts).2 hN sv v
  | [], k, cs, G, hl, hD, ho, hc => by
    have : cs = [] := List.eq_nil_of_length_eq_zero (by simpa using hl)
    subst this
    exact ⟨fun _ => undef, fun _ _ => False, ⟨fun id ob h => by simp [impCells] at h, fun _ _ h => h.elim, fun _ _ _ h => h.elim⟩, fun _ _ h => h.elim, rfl, fun i v sv h => by simp at h⟩
  | t :: ts, k, [], G, hl, hD, ho, hc => by simp at hl
  | t :: ts, k, c :: cs, G, hl, hD, ho, hc => by
    have rest := fun k' => impCells_ok (w' := w') base ts k' cs (fun i => G (i + 1)) (by simpa using hl) (fun i j b h1 h2 => by have := hD _ _ b h1 h2; omega) (fun i v t h1 h2 => ho (i + 1) v t h1 h2) (fun t ht => hc t (by simp [ht]))
    have h0 := ho 0 c t rfl rfl
    rcases hc t (by simp) with hs | ⟨sz, rows, rfl⟩
    · obtain ⟨hN, fN, I, hk, hlen, hT⟩ := rest k
      have e : impCells base k (t :: ts) = (.t t :: (impCells base k ts).1, (impCells base k ts).2) := by cases t <;> first | rfl | (simp [T.scalar] at hs; done)
      rw [e]
      refine ⟨hN, fN, ⟨I.row, fun id b h => by obtain ⟨i, hi⟩ := I.sub id b h; exact ⟨i + 1, hi⟩, I.dis⟩, hk, by simp [hlen], fun i v sv h1 h2 => ?_⟩
      cases i with
      | zero =>
        simp at h1 h2
        subst h1
        subst h2
        exact fun Fr m' bv' hd' _ => .t _ _ ((h0.reads.owns_scalar hs w' Fr).reads)
      | succ i => exact hT i v sv h1 h2
    · obtain ⟨hN, fN, I, hk, hlen, hT⟩ := rest (k + 1)
      have hne : ∀ id ∈ keys (impCells base (k + 1) ts).2, id ≠ base + 1000 * k := by
        intro id hid
        obtain ⟨j, h1, h2⟩ := impCells_keys base ts (k + 1) id hid
        omega
      refine ⟨fun id => if id = base + 1000 * k then c else hN id, fun id => if id = base + 1000 * k then G 0 else fN id, ⟨fun id ob h => ?_, fun id b h => ?_, fun id id' b h h' => ?_⟩, fun id b h => ?_, by simp [impCells, hlen], fun i v sv h1 h2 => ?_⟩
      · simp only [impCells, List.mem_cons, Prod.mk.injEq] at h
        rcases h with ⟨rfl, rfl⟩ | h
        · exact ⟨sz, rows, rfl, by simpa using h0⟩
        · have := hne id (List.mem_map.2 ⟨_, h, rfl⟩)
          simp only [this, if_false]
          exact I.row id ob h
      · by_cases e : id = base + 1000 * k
        · simp only [e, if_true] at h; exact ⟨0, h⟩
        · simp only [e, if_false] at h; obtain ⟨i, hi⟩ := I.sub id b h; exact ⟨i + 1, hi⟩
      · by_cases e : id = base + 1000 * k <;> by_cases e' : id' = base + 1000 * k
        · rw [e, e']
        · simp only [e, if_true] at h
          simp only [e', if_false] at h'
          obtain ⟨i, hi⟩ := I.sub id' b h'
          have := hD _ _ b h hi; omega
        · simp only [e, if_false] at h
          simp only [e', if_true] at h'
          obtain ⟨i, hi⟩ := I.sub id b h
          have := hD _ _ b h' hi; omega
        · simp only [e, if_false] at h
          simp only [e', if_false] at h'
          exact I.dis id id' b h h'
      · simp only [impCells, keys, List.map_cons, List.mem_cons]
        by_cases e : id = base + 1000 * k
        · exact .inl e
        · simp only [e, if_false] at h; exact .inr (hk id b h)
      · cases i with
        | zero =>
          simp [impCells] at h1 h2
          subst h1
          subst h2
          intro Fr m' bv' hd' hh
          obtain ⟨a1, a2, a3, e, _⟩ := h0.slice
          refine .ref _ _ _ ⟨_, _, _, e⟩ fun _ _ _ => ?_
          rw [hh (base + 1000 * k) (by simp [impCells, keys])]; simp
        | succ i =>
          simp only [impCells, List.getElem?_cons_succ] at h1 h2
          intro Fr m' bv' hd' hh
          refine hT i v sv h1 h2 Fr m' bv' hd' fun id hid => ?_
          rw [hh id (by simp only [impCells, keys, List.map_cons, List.mem_cons]; exact .inr hid)]
          simp [hne id hid]

end
end Go.Pv

/- Plain lemmas and definitions. Nothing is claimed here. -/
import Derived.Test.YtnidlohhndpjdaaGreatDoorPv18
import Derived.LoopN
set_option linter.unusedSimpArgs false
set_option linter.unusedVariables false
namespace Go.Pv
open Go Go.RowKit
theorem asRow_of {o : Option MO} {v z : Nat} {r : List (List T)} (h : asRow o = some (.row v z r)) : o = some (.row v z r) ∨ ∃ q l, o = some (.rowv v z r q l) := by
 cases o with
 | none => cases h
 | some ob =>
  cases ob with
  | var l => cases h
  | row v' z' r' => exact .inl h
  | rowv v' z' r' q l => cases h; exact .inr ⟨q, l, rfl⟩
theorem asRow_sw {a b : Nat} {o : Option MO} {v z : Nat} {r : List (List T)} (h : asRow (swO a b o) = some (.row v z r)) : asRow o = some (.row v z r) := by
 cases o with
 | none => cases h
 | some ob =>
  cases ob with
  | var l => cases h
  | row v' z' r' => exact h
  | rowv v' z' r' q l => cases h
theorem norm_rowv {m : Nat → Option MO} {md : List Nat} {o : Option MO} {v z : Nat} {r : List (List T)} {q : Int} {l : List SV} (h : normO m md o = some (.rowv v z r q l)) : False := by
 cases o with
 | none => cases h
 | some ob => cases ob <;> cases h
structure Less (m m' : Nat → Option MO) (md : List Nat) (hd hd' : Nat → Value) : Prop where
 row : ∀ id ver sz rows, asRow (m' id) = some (.row ver sz rows) → id ∉ md → ver = 0 ∧ ∃ v0, m id = some (.row v0 sz rows) ∧ hd' id = hd id
 var : ∀ id l, m' id = some (.var l) → ∃ l0, m id = some (.var l0)
theorem norm_rel {w : World} {Fr : Nat → Prop} {m m' : Nat → Option MO} {bv : Nat → Nat} {hd hd' : Nat → Value} {md : List Nat} (k : Less m m' md hd hd') : ∀ (n : Nat) (sv : SV) (v : Value), VRel w Fr m bv hd sv v → VRel w Fr m' bv hd' (normV m md n sv) v
 | 0, _, v, _ => .gone v
 | n + 1, sv, v, h => by
  cases h with
  | t x v h => exact .t x v h
  | nil a => exact .nil a
  | gone v => exact .gone v
  | ref id ver v sh h =>
   simp only [normV]
   split
   ·rename_i v0 sz0 rows0 hm0
    cases hb : Nat.beq v0 ver && !memN id md with
    | false => exact .gone v
    | true =>
     simp only [Bool.and_eq_true] at hb
     have e := beqN hb.1
     subst e
     refine .ref id 0 v sh fun sz rows hm => ?_
     obtain ⟨_, v1, h1, h2⟩ := k.row id 0 sz rows hm (memN_not hb.2)
     rw [hm0] at h1
     simp only [Option.some.injEq, MO.row.injEq] at h1
     obtain ⟨rfl, rfl, rfl⟩ := h1
     rw [h2]
     exact h sz0 rows0 (asRow_row hm0)
   ·exact .gone v
  | ptr id off v sh h =>
   simp only [normV]
   split
   ·rename_i l0 hm0
    exact .ptr id off v sh fun l hm => h l0 hm0
   ·exact .gone v
  | rptr b o ts f hb hw h => exact .rptr b o ts f hb hw h
  | eptr id ver i off v sh h => exact .gone v
  | vw id ver lo v sh h =>
   simp only [normV]
   split
   ·rename_i v0 sz0 rows0 hm0
    cases hb : Nat.beq v0 ver && !memN id md with
    | false => exact .gone v
    | true =>
     simp only [Bool.and_eq_true] at hb
     have e := beqN hb.1
     subst e
     refine .vw id 0 lo v sh fun sz rows hm => ?_
     obtain ⟨_, v1, h1, h2⟩ := k.row id 0 sz rows hm (memN_not hb.2)
     rw [hm0] at h1
     simp only [Option.some.injEq, MO.row.injEq] at h1
     obtain ⟨rfl, rfl, rfl⟩ := h1
     rw [h2]
     exact h sz0 rows0 (asRow_row hm0)
   ·exact .gone v
  | agg l cs hl h =>
   refine .agg _ cs (by simpa using hl) fun i v s h1 h2 => ?_
   rw [List.getElem?_map, Option.map_eq_some_iff] at h2
   obtain ⟨s0, h3, rfl⟩ := h2
   exact norm_rel k n s0 v (h i v s0 h1 h3)
  | tup l cs hl h =>
   refine .tup _ cs (by simpa using hl) fun i v s h1 h2 => ?_
   rw [List.getElem?_map, Option.map_eq_some_iff] at h2
   obtain ⟨s0, h3, rfl⟩ := h2
   exact norm_rel k n s0 v (h i v s0 h1 h3)
  | clo g l cs hl h =>
   refine .clo g _ cs (by simpa using hl) fun i v s h1 h2 => ?_
   rw [List.getElem?_map, Option.map_eq_some_iff] at h2
   obtain ⟨s0, h3, rfl⟩ := h2
   exact norm_rel k n s0 v (h i v s0 h1 h3)
theorem made_mem {st : St} : ∀ {l : Keep} {id : Nat} {o : Option MO}, (id, o) ∈ madeM st l → ∃ t z, id = 500000 + t ∧ o = some (.row 0 z []) ∧ st.s t = .nil
 | [], _, _, h => by cases h
 | (t, m) :: r, id, o, h => by
  unfold madeM at h
  split at h
  ·rename_i z hs
   rcases List.mem_cons.1 h with h | h
   ·simp only [Prod.mk.injEq] at h
    exact ⟨t, z, h.1, h.2, hs⟩
   ·exact made_mem h
  ·exact made_mem h
theorem kept_mem {st : St} {md : List Nat} : ∀ {l : Keep} {t : Nat} {v : SV}, (t, v) ∈ keptS st md l → (v = normV st.m md 4 (st.s t)) ∨ (∃ z, st.s t = .nil ∧ v = .ref (500000 + t) 0 ∧ (t, some z) ∈ l)
 | [], _, _, h => by cases h
 | (t0, m) :: r, t, v, h => by
  unfold keptS at h
  rcases List.mem_cons.1 h with h | h
  ·split at h
   ·rename_i hs _
    simp only [Prod.mk.injEq] at h
    obtain ⟨rfl, rfl⟩ := h
    exact .inr ⟨_, hs, rfl, List.mem_cons_self⟩
   ·simp only [Prod.mk.injEq] at h
    obtain ⟨rfl, rfl⟩ := h
    exact .inl rfl
  ·exact (kept_mem h).imp id fun ⟨z, a, b, c⟩ => ⟨z, a, b, by simp [c]⟩
theorem made_of {st : St} : ∀ {l : Keep} {t z : Nat}, (t, some z) ∈ l → st.s t = .nil → 500000 + t ∈ keys (madeM st l)
 | [], _, _, h, _ => by cases h
 | (t0, m) :: r, t, z, h, hs => by
  rcases List.mem_cons.1 h with h | h
  ·simp only [Prod.mk.injEq] at h
   obtain ⟨rfl, rfl⟩ := h
   unfold madeM
   rw [hs]
   simp [keys]
  ·have := made_of h hs
   unfold madeM
   split
   ·simp only [keys, List.map_cons, List.mem_cons]; exact .inr this
   ·exact this
theorem key_of {α : Type} {l : List (Nat × α)} {k : Nat} {v : α} (h : (k, v) ∈ l) : k ∈ keys l := List.mem_map.2 ⟨_, h, rfl⟩
theorem keep0_rel {N : FrP} {W : Nat → Prop} {base : Nat} {w0 : World} {st : St} {a : Act} {w : World} (l : Keep) (R : Rel N W base w0 st.s st.m a w) : Rel N W base w0 (keep0 l st).s (keep0 l st).m a w := by
 obtain ⟨bv, hd, fp, Fr, R⟩ := R
 let md := keys (madeM st l)
 let hd' : Nat → Value := fun id => if id ∈ md then a.tmps.getD (id - 500000) undef else hd id
 let fp' : Nat → Nat → Prop := fun id b => id ∉ md ∧ fp id b
 -- what an id of the new state is
 have look_m : ∀ id o, (keep0 l st).m id = some o → (id ∈ md ∧ ∃ t z, id = 500000 + t ∧ o = .row 0 z [] ∧ st.s t = .nil) ∨ (id ∉ md ∧ normO st.m md (st.m id) = some o) := by
  intro id o h
  have h : look (madeM st l ++ ((keptIds st l).filter fun id => (st.m id).isSome).map fun id => (id, normO st.m (keys (madeM st l)) (st.m id))) id none = some o := h
  rw [look_app] at h
  by_cases hid : id ∈ md
  ·refine .inl ⟨hid, ?_⟩
   have : ∀ d, ∃ t z, id = 500000 + t ∧ look (madeM st l) id d = some (.row 0 z []) ∧ st.s t = .nil := by
    intro d
    have aux : ∀ (ml : List (Nat × Option MO)), id ∈ keys ml → (∀ p ∈ ml, p ∈ madeM st l) → ∃ t z, id = 500000 + t ∧ look ml id d = some (.row 0 z []) ∧ st.s t = .nil := by
     intro ml
     induction ml with
     | nil => intro h; cases h
     | cons p r ih =>
      intro hk hsub
      simp only [look]
      cases hb : Nat.beq p.1 id with
      | true =>
       have e := beqN hb
       obtain ⟨t, z, h1, h2, h3⟩ := made_mem (hsub p (by simp) : (p.1, p.2) ∈ madeM st l)
       exact ⟨t, z, by rw [← e]; exact h1, h2, h3⟩
      | false =>
       refine ih ?_ fun q hq => hsub q (by simp [hq])
       rcases List.mem_cons.1 hk with h | h
       ·have h : id = p.1 := h
        rw [← h] at hb; simp at hb
       ·exact h
    exact aux _ hid fun _ h => h
   obtain ⟨t, z, h1, h2, h3⟩ := this (look (((keptIds st l).filter fun id => (st.m id).isSome).map fun id => (id, normO st.m (keys (madeM st l)) (st.m id))) id none)
   rw [h2] at h
   simp only [Option.some.injEq] at h
   exact ⟨t, z, h1, h.symm, h3⟩
  ·refine .inr ⟨hid, ?_⟩
   have : ∀ d, look (madeM st l) id d = d := by
    intro d
    rcases look_key (rfl : look (madeM st l) id d = look (madeM st l) id d) with h1 | h1
    ·exact h1
    ·exact absurd (key_of h1) hid
   rw [this] at h
   rcases look_key h with h1 | h1
   ·cases h1
   ·obtain ⟨i, _, e⟩ := List.mem_map.1 h1
    simp only [Prod.mk.injEq] at e
    obtain ⟨rfl, e⟩ := e
    exact e
 have norm_row : ∀ id ver sz rows, normO st.m md (st.m id) = some (.row ver sz rows) → ver = 0 ∧ ∃ v0, st.m id = some (.row v0 sz rows) := by
  intro id ver sz rows h
  unfold normO at h
  split at h
  ·rename_i v0 _ _ hm
   simp only [Option.some.injEq, MO.row.injEq] at h
   obtain ⟨rfl, rfl, rfl⟩ := h
   exact ⟨rfl, v0, hm⟩
  ·simp at h
  ·cases h
  ·cases h
 have norm_var : ∀ id l', normO st.m md (st.m id) = some (.var l') → ∃ l0, st.m id = some (.var l0) ∧ l' = l0.map (normV st.m md 4) := by
  intro id l' h
  unfold normO at h
  split at h
  ·simp at h
  ·rename_i l0 hm
   simp only [Option.some.injEq, MO.var.injEq] at h
   exact ⟨l0, hm, h.symm⟩
  ·cases h
  ·cases h
 have k : Less st.m (keep0 l st).m md hd hd' := by
  refine ⟨fun id ver sz rows h hid => ?_, fun id l' h => ?_⟩
  ·rcases asRow_of h with h | ⟨q, l', h⟩
   ·rcases look_m id _ h with ⟨h1, _⟩ | ⟨_, h2⟩
    ·exact absurd h1 hid
    ·obtain ⟨e, v0, h3⟩ := norm_row id ver sz rows h2
     exact ⟨e, v0, h3, by simp [hd', hid]⟩
   ·rcases look_m id _ h with ⟨h1, _⟩ | ⟨_, h2⟩
    ·exact absurd h1 hid
    ·exact (norm_rowv h2).elim
  ·rcases look_m id _ h with ⟨_, t, z, _, h2, _⟩ | ⟨_, h2⟩
   ·cases h2
   ·obtain ⟨l0, h3, _⟩ := norm_var id l' h2
    exact ⟨l0, h3⟩
 have live : ∀ id, (keep0 l st).m id ≠ none → id ∉ md → st.m id ≠ none := by
  intro id h hid
  cases ho : (keep0 l st).m id with
  | none => exact absurd ho h
  | some o =>
   rcases look_m id o ho with ⟨h1, _⟩ | ⟨_, h2⟩
   ·exact absurd h1 hid
   ·intro e
    rw [e] at h2
    cases h2
 refine ⟨bv, hd', fp', Fr, R.defs, R.size, R.pins, R.inv, R.bnd, R.below, R.base_le, fun t => ?_, ?_⟩
 · -- slots
  rcases look_key (rfl : look (keep0 l st).sl t .gone = look (keep0 l st).sl t .gone) with h | h
  ·show VRel w Fr (keep0 l st).m bv hd' (look (keep0 l st).sl t .gone) _
   rw [h]; exact .gone _
  ·rcases kept_mem h with h1 | ⟨z, h1, h2, h3⟩
   ·show VRel w Fr (keep0 l st).m bv hd' (look (keep0 l st).sl t .gone) _
    rw [h1]
    exact norm_rel k 4 _ _ (R.slots t)
   ·show VRel w Fr (keep0 l st).m bv hd' (look (keep0 l st).sl t .gone) _
    rw [h2]
    have hr := R.slots t
    rw [h1] at hr
    have hin : 500000 + t ∈ md := made_of h3 h1
    generalize hv : a.tmps.getD t undef = v at hr
    cases hr with
    | nil ad =>
     refine .ref _ _ _ ⟨ad, 0, 0, rfl⟩ fun sz rows _ => ?_
     have e : hd' (500000 + t) = a.tmps.getD t undef := by simp only [hd', hin, if_true]; rw [Nat.add_sub_cancel_left]
     rw [e, hv]
 ·refine ⟨fun id l' h => ?_, fun id ver sz rows h => ?_, fun id ver sz rows q l' h => ?_, fun id id' b h1 h2 h3 h4 => ?_, fun id b h1 h2 => ?_, R.mem.fr⟩
  ·rcases look_m id _ h with ⟨_, t, z, _, h2, _⟩ | ⟨hid, h2⟩
   ·cases h2
   ·obtain ⟨l0, h3, rfl⟩ := norm_var id l' h2
    obtain ⟨h4, cs, el, h5, h6, h7⟩ := R.mem.vars id l0 h3
    refine ⟨⟨hid, h4⟩, cs, el, h5, by simpa using h6, fun i v s h8 h9 => ?_⟩
    rw [List.getElem?_map, Option.map_eq_some_iff] at h9
    obtain ⟨s0, h10, rfl⟩ := h9
    exact norm_rel k 4 s0 v (h7 i v s0 h8 h10)
  ·rcases look_m id _ h with ⟨hid, t, z, h1, h2, h3⟩ | ⟨hid, h2⟩
   ·simp only [MO.row.injEq] at h2
    obtain ⟨rfl, rfl, rfl⟩ := h2
    have hr := R.slots t
    rw [h3] at hr
    have e : hd' id = a.tmps.getD t undef := by subst h1; simp only [hd', hid, if_true]; rw [Nat.add_sub_cancel_left]
    rw [e]
    generalize hv : a.tmps.getD t undef = v at hr
    cases hr with
    | nil ad => exact .sl0 _ ad sz
   ·obtain ⟨e, v0, h3⟩ := norm_row id ver sz rows h2
    have e2 : hd' id = hd id := by simp [hd', hid]
    rw [e2]
    exact (R.mem.rows id v0 sz rows h3).mono (fun b hb => ⟨hid, hb⟩) (fun _ _ => rfl)
  ·rcases look_m id _ h with ⟨_, t, z, _, h2, _⟩ | ⟨hid, h2⟩
   ·cases h2
   ·exact (norm_rowv h2).elim
  ·exact R.mem.apart id id' b (live id h1 h3.1) (live id' h2 h4.1) h3.2 h4.2
  ·exact R.mem.own id b (live id h1 h2.1) h2.2
theorem swp_swp (a b i : Nat) : swp a b (swp a b i) = i := by
 unfold swp
 cases h1 : Nat.beq i a with
 | true =>
  have := beqN h1; subst this
  simp only [cond_true]
  cases h2 : Nat.beq b i with
  | true => have := beqN h2; subst this; rfl
  | false => simp
 | false =>
  simp only [cond_false]
  cases h2 : Nat.beq i b with
  | true => have := beqN h2; subst this; simp
  | false => simp [h1, h2]
theorem swL_map (a b : Nat) (l : List SV) : swL a b l = l.map (swV a b) := by
 induction l with
 | nil => simp [swL]
 | cons v l ih => simp [swL, ih]
theorem look_sw {a b : Nat} {f : Option MO → Option MO} (hf : f none = none) : ∀ (l : List (Nat × Option MO)) (id : Nat), look (l.map fun p => (swp a b p.1, f p.2)) id none = f (look l (swp a b id) none)
 | [], id => hf.symm
 | p :: l, id => by
  simp only [List.map_cons, look, look_sw hf l id]
  have e : Nat.beq (swp a b p.1) id = Nat.beq p.1 (swp a b id) := by
   cases h : Nat.beq p.1 (swp a b id) with
   | true =>
    have e := beqN h
    rw [e, swp_swp]; simp
   | false =>
    cases h2 : Nat.beq (swp a b p.1) id with
    | false => rfl
    | true =>
     have e := beqN h2
     rw [← e, swp_swp] at h
     simp at h
  rw [e]
  cases Nat.beq p.1 (swp a b id) <;> rfl
theorem sw_rel {w : World} {Fr : Nat → Prop} {m m' : Nat → Option MO} {bv : Nat → Nat} {hd : Nat → Value} (a b : Nat) (hm : ∀ id, m' id = swO a b (m (swp a b id))) {sv : SV} {v : Value} (h : VRel w Fr m bv hd sv v) :
    VRel w Fr m' (fun id => bv (swp a b id)) (fun id => hd (swp a b id)) (swV a b sv) v := by
 induction h with
 | t x v h => simp only [swV]; exact .t x v h
 | nil ad => simp only [swV]; exact .nil ad
 | gone v => simp only [swV]; exact .gone v
 | ref id ver v sh h =>
  simp only [swV]
  refine .ref _ ver v sh fun sz rows hr => ?_
  rw [hm, swp_swp] at hr
  show v = hd (swp a b (swp a b id))
  rw [swp_swp]
  exact h sz rows (asRow_sw hr)
 | ptr id off v sh h =>
  simp only [swV]
  refine .ptr _ off v sh fun l hr => ?_
  rw [hm, swp_swp] at hr
  show v = .pointer (some ⟨bv (swp a b (swp a b id)), off, none⟩)
  rw [swp_swp]
  unfold swO at hr
  split at hr
  ·rename_i l0 h0; exact h l0 h0
  ·cases hr
  ·exact h l hr
 | rptr b o ts f hb hw h => simp only [swV]; exact .rptr b o ts f hb hw h
 | eptr id ver i off v sh h =>
  simp only [swV]
  refine .eptr _ ver i off v sh fun sz rows hr => ?_
  rw [hm, swp_swp] at hr
  show 0 ≤ i ∧ ∃ b' bo n c, hd (swp a b (swp a b id)) = .slice (some ⟨b', bo, none⟩) n c ∧ v = .pointer (some ⟨b', bo + (i.toNat * sz + off), none⟩)
  rw [swp_swp]
  exact h sz rows (asRow_sw hr)
 | vw id ver lo v sh h =>
  simp only [swV]
  refine .vw _ ver lo v sh fun sz rows hr => ?_
  rw [hm, swp_swp] at hr
  show 0 ≤ lo ∧ ∃ a' n c M, hd (swp a b (swp a b id)) = .slice a' n c ∧ lo.toNat ≤ n ∧ n ≤ M ∧ M ≤ c ∧ v = .slice (if M = lo.toNat then a' else a'.map (·.add (lo.toNat * sz))) (n - lo.toNat) (M - lo.toNat)
  rw [swp_swp]
  exact h sz rows (asRow_sw hr)
 | agg l cs hl h ih =>
  simp only [swV, swL_map]
  refine .agg _ cs (by simpa using hl) fun i v s h1 h2 => ?_
  rw [List.getElem?_map, Option.map_eq_some_iff] at h2
  obtain ⟨s0, h3, rfl⟩ := h2
  exact ih i v s0 h1 h3
 | tup l cs hl h ih =>
  simp only [swV, swL_map]
  refine .tup _ cs (by simpa using hl) fun i v s h1 h2 => ?_
  rw [List.getElem?_map, Option.map_eq_some_iff] at h2
  obtain ⟨s0, h3, rfl⟩ := h2
  exact ih i v s0 h1 h3
 | clo g l cs hl h ih =>
  simp only [swV, swL_map]
  refine .clo g _ cs (by simpa using hl) fun i v s h1 h2 => ?_
  rw [List.getElem?_map, Option.map_eq_some_iff] at h2
  obtain ⟨s0, h3, rfl⟩ := h2
  exact ih i v s0 h1 h3
theorem swSt_rel {N : FrP} {W : Nat → Prop} {base : Nat} {w0 : World} {st : St} {a : Act} {w : World} (x y : Nat) (R : Rel N W base w0 st.s st.m a w) : Rel N W base w0 (swSt x y st).s (swSt x y st).m a w := by
 obtain ⟨bv, hd, fp, Fr, R⟩ := R
 have hm : ∀ id, (swSt x y st).m id = swO x y (st.m (swp x y id)) := fun id => look_sw (f := swO x y) rfl st.me id
 have hs : ∀ t, (swSt x y st).s t = swV x y (st.s t) := by
  intro t
  show look (st.sl.map fun p => (p.1, swV x y p.2)) t SV.gone = _
  have : ∀ (l : List (Nat × SV)), look (l.map fun p => (p.1, swV x y p.2)) t SV.gone = swV x y (look l t .gone) := by
   intro l
   induction l with
   | nil => simp [look, swV]
   | cons p l ih =>
    simp only [List.map_cons, look, ih]
    cases Nat.beq p.1 t <;> rfl
  exact this st.sl
 have row : ∀ id ver sz rows, (swSt x y st).m id = some (.row ver sz rows) → st.m (swp x y id) = some (.row ver sz rows) := by
  intro id ver sz rows h
  rw [hm] at h
  unfold swO at h
  split at h
  ·cases h
  ·cases h
  ·exact h
 have rowv : ∀ id ver sz rows q l, (swSt x y st).m id ≠ some (.rowv ver sz rows q l) := by
  intro id ver sz rows q l h
  rw [hm] at h
  unfold swO at h
  split at h
  ·cases h
  ·cases h
  ·rename_i h0
   exact h0 _ _ _ _ _ h
 have var : ∀ id l, (swSt x y st).m id = some (.var l) → ∃ l0, st.m (swp x y id) = some (.var l0) ∧ l = swL x y l0 := by
  intro id l h
  rw [hm] at h
  unfold swO at h
  split at h
  ·rename_i l0 h0
   simp only [Option.some.injEq, MO.var.injEq] at h
   exact ⟨l0, h0, h.symm⟩
  ·cases h
  ·rename_i h0 _
   exact absurd h (h0 l)
 have live : ∀ id, (swSt x y st).m id ≠ none → st.m (swp x y id) ≠ none := by
  intro id h e
  rw [hm, e] at h
  exact h rfl
 refine ⟨fun id => bv (swp x y id), fun id => hd (swp x y id), fun id b => fp (swp x y id) b, Fr, R.defs, R.size, R.pins, R.inv, R.bnd, R.below, R.base_le, fun t => ?_, ?_⟩
 ·rw [hs]
  exact sw_rel x y hm (R.slots t)
 ·refine ⟨fun id l h => ?_, fun id ver sz rows h => R.mem.rows _ ver sz rows (row id ver sz rows h), fun id ver sz rows q l h => absurd h (rowv id ver sz rows q l), fun id id' b h1 h2 h3 h4 => ?_, fun id b h1 h2 => R.mem.own _ b (live id h1) h2, R.mem.fr⟩
  ·obtain ⟨l0, h0, rfl⟩ := var id l h
   obtain ⟨h4, cs, el, h5, h6, h7⟩ := R.mem.vars _ l0 h0
   refine ⟨h4, cs, el, h5, by rw [swL_map]; simpa using h6, fun i v s h8 h9 => ?_⟩
   rw [swL_map, List.getElem?_map, Option.map_eq_some_iff] at h9
   obtain ⟨s0, h10, rfl⟩ := h9
   exact sw_rel x y hm (h7 i v s0 h8 h10)
  ·have := R.mem.apart _ _ b (live id h1) (live id' h2) h3 h4
   have := congrArg (swp x y) this
   rwa [swp_swp, swp_swp] at this
theorem swAll_rel {N : FrP} {W : Nat → Prop} {base : Nat} {w0 : World} {a : Act} {w : World} (b : Nat) : ∀ (n k : Nat) (l : List SV) (st : St), Rel N W base w0 st.s st.m a w → Rel N W base w0 (swAll b n k l st).s (swAll b n k l st).m a w
 | 0, k, l, st, R => R
 | n + 1, k, l, st, R => by
  unfold swAll
  split
  ·exact R
  ·rename_i id _ r
   cases Nat.beq id (b + k) with
   | true => exact swAll_rel b n _ _ _ R
   | false => exact swAll_rel b n _ _ _ (swSt_rel _ _ R)
  ·exact swAll_rel b n _ _ _ R
theorem canon_rel {N : FrP} {W : Nat → Prop} {base : Nat} {w0 : World} {a : Act} {w : World} : ∀ (l : Keep) (st : St), Rel N W base w0 st.s st.m a w → Rel N W base w0 (canon l st).s (canon l st).m a w
 | [], st, R => R
 | (t, z) :: r, st, R => by
  simp only [canon]
  refine canon_rel r _ ?_
  split
  ·exact swAll_rel _ _ _ _ _ R
  ·exact swAll_rel _ _ _ _ _ R
  ·split
   ·exact swAll_rel _ _ _ _ _ R
   ·exact R
  ·exact R
theorem place {N : FrP} {W : Nat → Prop} {base : Nat} {w0 : World} {st : St} {bv : Nat → Nat} {hd : Nat → Value} {fp : Nat → Nat → Prop} {Fr : Nat → Prop} {a : Act} {w : World} (t q : Nat) (R : RelE N W base w0 st.s st.m bv hd fp Fr a w) (hg : getP st t q ≠ .gone) :
    ∃ val, VRel w Fr st.m bv hd (getP st t q) val ∧ ∀ (ml : List (Nat × Option MO)) hd1 fp1 Fr1, RelE N W base w0 st.s (look ml · none) bv hd1 fp1 Fr1 a w → (∀ id l, st.m id = some (.var l) → look ml id none = some (.var l)) →
     ∀ v', VRel w Fr1 (look ml · none) bv hd1 v' val → Rel N W base w0 (putP ⟨st.sl, ml⟩ t v' q).s (putP ⟨st.sl, ml⟩ t v' q).m a w := by
 have slot : ∀ (ml : List (Nat × Option MO)) hd1 fp1 Fr1 (v' : SV), RelE N W base w0 st.s (look ml · none) bv hd1 fp1 Fr1 a w → VRel w Fr1 (look ml · none) bv hd1 v' (a.tmps.getD t undef) → Rel N W base w0 (⟨(t, v') :: st.sl, ml⟩ : St).s (⟨(t, v') :: st.sl, ml⟩ : St).m a w := by
  intro ml hd1 fp1 Fr1 v' R1 hv
  refine ⟨bv, hd1, fp1, Fr1, R1.defs, R1.size, R1.pins, R1.inv, R1.bnd, R1.below, R1.base_le, fun u => ?_, R1.mem⟩
  show VRel w Fr1 _ bv hd1 (look ((t, v') :: st.sl) u .gone) _
  simp only [look]
  cases hb : Nat.beq t u with
  | true => have := beqN hb; subst this; exact hv
  | false => exact R1.slots u
 cases q with
 | zero => exact ⟨_, R.slots t, fun ml hd1 fp1 Fr1 R1 _ v' hv => slot ml hd1 fp1 Fr1 v' R1 hv⟩
 | succ j =>
  simp only [getP] at hg ⊢
  have hr := R.slots t
  cases hs : st.s t with
  | agg l =>
   rw [hs] at hr
   simp only [hs] at hg ⊢
   generalize hv : a.tmps.getD t undef = v at hr
   cases hr with
   | agg _ cs hl h =>
    have hj : j < l.length := by
     apply Nat.lt_of_not_le; intro hle
     apply hg; simp [List.getD_eq_getElem?_getD, List.getElem?_eq_none hle]
    have hc : j < cs.length := by omega
    have e : l.getD j .gone = l[j] := by simp [List.getD_eq_getElem?_getD, List.getElem?_eq_getElem hj]
    rw [e]
    refine ⟨cs[j], h j _ _ (List.getElem?_eq_getElem hc) (List.getElem?_eq_getElem hj), fun ml hd1 fp1 Fr1 R1 hvar v' hv' => ?_⟩
    have hs1 : (⟨st.sl, ml⟩ : St).s t = .agg l := hs
    simp only [putP, hs1]
    refine slot ml hd1 fp1 Fr1 _ R1 ?_
    have h1 := R1.slots t
    rw [hs, hv] at h1
    rw [hv]
    cases h1 with
    | agg _ _ hl1 h1 =>
     refine .agg _ _ (by simpa using hl1) fun i v s e1 e2 => ?_
     by_cases hij : i = j
     ·subst hij
      rw [List.getElem?_set_self hj] at e2
      rw [List.getElem?_eq_getElem hc] at e1
      cases e1; cases e2; exact hv'
     ·rw [List.getElem?_set_ne (Ne.symm hij)] at e2
      exact h1 i v s e1 e2
  | ptr id off =>
   simp only [hs] at hg ⊢
   cases hm : st.m id with
   | none => simp [hm] at hg
   | some o =>
    cases o with
    | row v sz rows => simp [hm] at hg
    | rowv v sz rows q0 l0 => simp [hm] at hg
    | var l =>
     simp only [hm] at hg ⊢
     obtain ⟨hf, cs, el, hh, hl, hrel⟩ := R.mem.vars id l hm
     have hj : j < l.length := by
      apply Nat.lt_of_not_le; intro hle
      apply hg; simp [List.getD_eq_getElem?_getD, List.getElem?_eq_none hle]
     have hc : j < cs.length := by omega
     have e : l.getD j .gone = l[j] := by simp [List.getD_eq_getElem?_getD, List.getElem?_eq_getElem hj]
     rw [e]
     refine ⟨cs[j], hrel j _ _ (List.getElem?_eq_getElem hc) (List.getElem?_eq_getElem hj), fun ml hd1 fp1 Fr1 R1 hvar v' hv' => ?_⟩
     have hs1 : (⟨st.sl, ml⟩ : St).s t = .ptr id off := hs
     have hm1 : (⟨st.sl, ml⟩ : St).m id = some (.var l) := hvar id l hm
     simp only [putP, hs1, hm1]
     have hm2 : ∀ i, (⟨st.sl, (id, some (.var (l.set j v'))) :: ml⟩ : St).m i = if i = id then some (.var (l.set j v')) else look ml i none := by
      intro i
      show look ((id, some (MO.var (l.set j v'))) :: ml) i none = _
      simp only [look]
      cases hb : Nat.beq id i with
      | true => have := beqN hb; subst this; simp
      | false =>
       have : i ≠ id := fun e => by rw [e] at hb; simp at hb
       simp [this]
     have k : Keeps w w Fr1 Fr1 (look ml · none) (⟨st.sl, (id, some (.var (l.set j v'))) :: ml⟩ : St).m bv bv hd1 hd1 [] := by
      refine ⟨fun _ h => h, fun _ _ => rfl, fun i ver sz rows h => ?_, fun i l' h => ?_⟩
      ·rw [hm2] at h
       by_cases hi : i = id
       ·simp [hi, asRow] at h
       ·simp only [hi, if_false] at h; exact .inl ⟨rows, h, rfl⟩
      ·rw [hm2] at h
       by_cases hi : i = id
       ·subst hi; exact .inl ⟨l, hvar i l hm, rfl⟩
       ·simp only [hi, if_false] at h; exact .inl ⟨l', h, rfl⟩
     refine ⟨bv, hd1, fp1, Fr1, R1.defs, R1.size, R1.pins, R1.inv, R1.bnd, R1.below, R1.base_le, fun u => (R1.slots u).step0 k, ?_⟩
     obtain ⟨hf1, cs1, el1, hh1, hl1, hrel1⟩ := R1.mem.vars id l (hvar id l hm)
     rw [hh] at hh1
     simp only [Option.some.injEq, Obj.cells.injEq, Array.mk.injEq] at hh1
     obtain ⟨rfl, rfl, _⟩ := hh1
     refine R1.mem.change k (fun _ _ _ => .inl rfl) (Nat.le_refl _) (fun i => i = id) (fun i hi => ⟨by rw [hm2]; simp [hi], rfl, rfl, fun _ => Iff.rfl, fun _ _ _ => rfl⟩) (fun i hi l' h => ?_) (fun i hi ver sz rs h => ?_) (fun i hi ver sz rs q' l' h => by rw [hm2] at h; simp [hi] at h) (fun i i' b hi h1 h2 h3 h4 => ?_) (fun i b hi h1 h2 => ?_)
     ·rw [hm2] at h
      subst hi
      simp only [if_true, Option.some.injEq, MO.var.injEq] at h
      subst h
      refine ⟨hf1, cs, el, hh, by simpa using hl1, fun q v s e1 e2 => ?_⟩
      by_cases hij : q = j
      ·subst hij
       rw [List.getElem?_set_self hj] at e2
       rw [List.getElem?_eq_getElem hc] at e1
       cases e1; cases e2; exact hv'.step0 k
      ·rw [List.getElem?_set_ne (Ne.symm hij)] at e2
       exact (hrel1 q v s e1 e2).step0 k
     ·rw [hm2] at h; simp [hi] at h
     ·have n1 : look ml i none ≠ none := by rw [hi, hvar id l hm]; simp
      have n2 : look ml i' none ≠ none := by
       rw [hm2] at h2
       by_cases h' : i' = id
       ·rw [h', hvar id l hm]; simp
       ·simpa [h'] using h2
      exact R1.mem.apart i i' b n1 n2 h3 h4
     ·exact R1.mem.own i b (by rw [hi, hvar id l hm]; simp) h2
  | _ => simp [hs] at hg
theorem look_cons {α : Type} (k : Nat) (v : α) (l : List (Nat × α)) (i : Nat) (d : α) : look ((k, v) :: l) i d = if i = k then v else look l i d := by
 simp only [look]
 cases hb : Nat.beq k i with
 | true => have := beqN hb; subst this; simp
 | false =>
  have : i ≠ k := fun e => by rw [e] at hb; simp at hb
  simp [this]
theorem mkP_rel {N : FrP} {W : Nat → Prop} {base : Nat} {w0 : World} {st : St} {a : Act} {w : World} (t q z n : Nat) (R : Rel N W base w0 st.s st.m a w) : Rel N W base w0 (mkP t q z n st).s (mkP t q z n st).m a w := by
 unfold mkP
 split
 ·rename_i hg
  cases hb : (cleanS st [(n, 0)] && (match st.m n with | none => true | some _ => false)) with
  | false => exact R
  | true =>
   simp only [cond_true]
   simp only [Bool.and_eq_true] at hb
   have hn : st.m n = none := by
    have := hb.2
    cases hm : st.m n with
    | none => rfl
    | some o => simp [hm] at this
   have cl := cleanS_spec hb.1 (tok' := [(n, 0)]) fun _ h => h
   obtain ⟨bv, hd, fp, Fr, R⟩ := R
   obtain ⟨val, hv, hput⟩ := place t q R (by rw [hg]; simp)
   rw [hg] at hv
   have hml : ∀ i, look ((n, some (MO.row 0 z [])) :: st.me) i none = if i = n then some (.row 0 z []) else st.m i := fun i => look_cons _ _ _ _ _
   let hd1 : Nat → Value := fun i => if i = n then val else hd i
   let fp1 : Nat → Nat → Prop := fun i b => i ≠ n ∧ fp i b
   have k : Keeps w w Fr Fr st.m (look ((n, some (MO.row 0 z [])) :: st.me) · none) bv bv hd hd1 [(n, 0)] := by
    refine ⟨fun _ h => h, fun _ _ => rfl, fun i ver sz rows h => ?_, fun i l h => ?_⟩
    ·simp only [hml] at h
     by_cases hi : i = n
     ·simp only [hi, if_true, asRow, Option.some.injEq, MO.row.injEq] at h
      right; simp [hi, h.1]
     ·simp only [hi, if_false] at h; exact .inl ⟨rows, h, by simp [hd1, hi]⟩
    ·simp only [hml] at h
     by_cases hi : i = n
     ·simp [hi] at h
     ·simp only [hi, if_false] at h; exact .inl ⟨l, h, rfl⟩
   refine hput _ hd1 fp1 Fr ⟨R.defs, R.size, R.pins, R.inv, R.bnd, R.below, R.base_le, fun u => (R.slots u).stepC k (cl.s u), ?_⟩ (fun id l h => ?_) _ ?_
   ·refine R.mem.change k cl.m (Nat.le_refl _) (fun i => i = n) (fun i hi => ⟨by simp [hml, hi], rfl, by simp [hd1, hi], fun b => by simp [fp1, hi], fun _ _ _ => rfl⟩) (fun i hi l h => ?_) (fun i hi ver sz rs h => ?_) (fun i hi ver sz rs q' l' h => by simp [hml, hi] at h) (fun i i' b hi h1 h2 h3 h4 => ?_) (fun i b hi h1 h2 => ?_)
    ·simp [hml, hi] at h
    ·simp only [hml, hi, if_true, Option.some.injEq, MO.row.injEq] at h
     obtain ⟨_, rfl, rfl⟩ := h
     cases hv with
     | nil ad => simp only [hd1, hi, if_true]; exact .sl0 _ ad z
    ·exact absurd hi h3.1
    ·exact absurd hi h2.1
   ·simp only [hml]
    by_cases hi : id = n
    ·rw [hi, hn] at h; cases h
    ·simp [hi, h]
   ·cases hv with
    | nil ad => exact .ref _ _ _ ⟨ad, 0, 0, rfl⟩ fun sz rows _ => by simp [hd1]
 ·exact R
theorem frP_rel {N : FrP} {W : Nat → Prop} {base : Nat} {w0 : World} {st : St} {a : Act} {w : World} (t q z : Nat) (R : Rel N W base w0 st.s st.m a w) : Rel N W base w0 (frP t q z st).s (frP t q z st).m a w := by
 unfold frP
 split
 ·rename_i hg
  obtain ⟨bv, hd, fp, Fr, R⟩ := R
  obtain ⟨val, hv, hput⟩ := place t q R (by rw [hg]; simp)
  rw [hg] at hv
  refine hput st.me hd fp Fr R (fun _ _ h => h) _ ?_
  cases hv with
  | nil ad => exact .t _ _ (.sl0 ad 0 z)
 ·rename_i id ver hg
  split
  ·rename_i v sz rows hm
   cases hb : Nat.beq v ver with
   | false => exact R
   | true =>
    have := beqN hb; subst this
    simp only [cond_true]
    obtain ⟨bv, hd, fp, Fr, R⟩ := R
    obtain ⟨val, hv, hput⟩ := place t q R (by rw [hg]; simp)
    rw [hg] at hv
    have hml : ∀ i, look ((id, none) :: st.me) i none = if i = id then none else st.m i := fun i => look_cons _ _ _ _ _
    let Fr1 : Nat → Prop := fun b => Fr b ∨ fp id b
    have hown := R.mem.rows id v sz rows hm
    have k : Keeps w w Fr Fr1 st.m (look ((id, none) :: st.me) · none) bv bv hd hd [] := by
     refine ⟨fun _ h => .inl h, fun _ _ => rfl, fun i ver sz rows h => ?_, fun i l h => ?_⟩
     ·simp only [hml] at h
      by_cases hi : i = id
      ·simp [hi, asRow] at h
      ·simp only [hi, if_false] at h; exact .inl ⟨rows, h, rfl⟩
     ·simp only [hml] at h
      by_cases hi : i = id
      ·simp [hi] at h
      ·simp only [hi, if_false] at h; exact .inl ⟨l, h, rfl⟩
    have sub : ∀ i, look ((id, none) :: st.me) i none ≠ none → i ≠ id ∧ st.m i ≠ none := by
     intro i h
     simp only [hml] at h
     by_cases hi : i = id
     ·simp [hi] at h
     ·simp only [hi, if_false] at h; exact ⟨hi, h⟩
    have hbd1 : ∀ b, Fr1 b → N.fr b ∨ base ≤ b ∨ W b := fun b hb => by
     rcases hb with hb | hb
     ·exact R.bnd b hb
     ·exact .inr (R.mem.own id b (by rw [hm]; simp) hb).1
    refine hput _ hd fp Fr1 ⟨R.defs, R.size, R.pins, R.inv, hbd1, R.below, R.base_le, fun u => (R.slots u).step0 k, ?_⟩ (fun i l h => ?_) _ ?_
    ·refine ⟨fun i l h => ?_, fun i ver sz rows h => ?_, fun i ver sz rows q' l' h => ?_, fun i i' b h1 h2 h3 h4 => R.mem.apart i i' b (sub i h1).2 (sub i' h2).2 h3 h4, fun i b h1 h2 => ?_, fun b hb => ?_⟩
     ·obtain ⟨hi, _⟩ := sub i (by rw [h]; simp)
      simp only [hml, hi, if_false] at h
      obtain ⟨hf, cs, el, hh, hl, hrel⟩ := R.mem.vars i l h
      exact ⟨hf, cs, el, hh, hl, fun q v s e1 e2 => (hrel q v s e1 e2).step0 k⟩
     ·obtain ⟨hi, _⟩ := sub i (by rw [h]; simp)
      simp only [hml, hi, if_false] at h
      exact R.mem.rows i ver sz rows h
     ·obtain ⟨hi, _⟩ := sub i (by rw [h]; simp)
      simp only [hml, hi, if_false] at h
      exact (R.mem.rowv i ver sz rows q' l' h).keep k (fun _ hb => hb) (fun _ _ => rfl) (fun _ _ => .inl rfl)
     ·obtain ⟨hi, hl⟩ := sub i h1
      obtain ⟨o1, o2, o3⟩ := R.mem.own i b hl h2
      refine ⟨o1, o2, fun h => ?_⟩
      rcases h with h | h
      ·exact o3 h
      ·exact hi (R.mem.apart i id b hl (by rw [hm]; simp) h2 h)
     ·rcases hb with h | h
      ·exact R.mem.fr b h
      ·exact (R.mem.own id b (by rw [hm]; simp) h).2.1
    ·simp only [hml]
     by_cases hi : i = id
     ·rw [hi, hm] at h; cases h
     ·simp [hi, h]
    ·cases hv with
     | ref _ _ _ sh hv =>
      rw [hv sz rows (asRow_row hm)]
      exact .t _ _ (hown.reads.mono (fun b h => .inr h) (fun _ _ => rfl))
  ·exact R
 ·exact R
theorem prep_rel {N : FrP} {W : Nat → Prop} {base : Nat} {w0 : World} {a : Act} {w : World} : ∀ (l : Keep) (st : St), Rel N W base w0 st.s st.m a w → Rel N W base w0 (prep l st).s (prep l st).m a w
 | [], st, R => R
 | (c, some z) :: r, st, R => by
  unfold prep
  cases Nat.ble 1000000 c with
  | false => exact prep_rel r st R
  | true =>
   simp only [cond_true]
   cases Nat.beq (c / 1000000) 1 with
   | true => exact prep_rel r _ (frP_rel _ _ _ R)
   | false =>
    simp only [cond_false]
    cases Nat.ble 100000000 c with
    | true => exact prep_rel r _ (frP_rel _ _ _ R)
    | false => exact prep_rel r _ (mkP_rel _ _ _ _ R)
 | (_, none) :: r, st, R => prep_rel r st R
theorem closeC_rbo {m : Nat → Option MO} {s : SV} {t : T} (h : closeC m s = some t) : rbo m 4 s t := by
 cases s <;> simp only [closeC] at h <;> try (cases h; done)
 ·rename_i x
  cases hs : x.scalar with
  | false => rw [hs] at h; cases h
  | true =>
   rw [hs] at h
   cases h
   exact ⟨rfl, hs⟩
 ·rename_i id ver
  cases hm : m id with
  | none => simp [hm] at h
  | some ob =>
   cases ob with
   | var l => simp [hm] at h
   | rowv v z r q l => simp [hm] at h
   | row v z r =>
    simp only [hm] at h
    cases hb : Nat.beq v ver with
    | false => rw [hb] at h; cases h
    | true =>
     rw [hb] at h
     cases h
     show (match m id with | some (.row v' s' r') => bcond (Nat.beq v' ver) (s' = z ∧ r' = r) False | _ => False)
     rw [hm]
     show bcond (Nat.beq v ver) (z = z ∧ r = r) False
     rw [hb]
     exact ⟨rfl, rfl⟩
theorem closeCs_rbo {m : Nat → Option MO} : ∀ {l : List SV} {ts : List T}, closeCs m l = some ts → all2 (rbo m 4) l ts
 | [], ts, h => by simp only [closeCs, Option.some.injEq] at h; subst h; trivial
 | s :: l, ts, h => by
  simp only [closeCs] at h
  split at h
  ·rename_i t r h1 h2
   cases h
   exact ⟨closeC_rbo h1, closeCs_rbo h2⟩
  ·cases h
theorem closeId_rel {N : FrP} {W : Nat → Prop} {base : Nat} {w0 : World} {st : St} {a : Act} {w : World} (id : Nat) (R : Rel N W base w0 st.s st.m a w) : Rel N W base w0 (closeId id st).s (closeId id st).m a w := by
 unfold closeId
 split
 ·rename_i ver sz rows q l hm
  split
  ·rename_i ts hts
   cases hb : nodupN (refsL (refs 4) l) && !memN id (refsL (refs 4) l) with
   | false => exact R
   | true =>
    simp only [cond_true]
    simp only [Bool.and_eq_true] at hb
    have hnd := nodupN_iff.1 hb.1
    have hnot := memN_not hb.2
    obtain ⟨tl, tg⟩ := all2_get (closeCs_rbo hts)
    obtain ⟨bv, hd, fp, Fr, R⟩ := R
    obtain ⟨b, bo, n, c, q0, cells, el, lo, hi, f, G, rfl, X⟩ := R.mem.rowv id _ _ _ _ _ hm
    obtain ⟨hcell, _⟩ := X.cells
    have hll := X.hl
    have hqr : q0 < rows.length := by have := X.hn; have := X.hq; omega
    have hmn : st.m id ≠ none := by simp [hm]
    simp only [Int.toNat_natCast]
    have hlive : ∀ i ∈ refsL (refs 4) l, st.m i ≠ none := fun i hi => by
     obtain ⟨sv, hsv, hi'⟩ := refsL_mem.1 hi
     obtain ⟨k, hk⟩ := List.mem_iff_getElem?.1 hsv
     have hkl := (List.getElem?_eq_some_iff.1 hk).1
     exact rbo_live 4 sv _ (tg k _ _ hk (List.getElem?_eq_getElem (by omega))) i hi'
    have hown : ∀ j s t, l[j]? = some s → ts[j]? = some t → Owns w (fun x => ∃ i ∈ refs 4 s, fp i x) (f q0 j) t := fun j s t h1 h2 =>
     rbo_own R.mem 4 s _ t (X.ho j s h1) (tg j s t h1 h2) (refsL_nodup hnd (List.mem_of_getElem? h1))
    generalize hgone : refsL (refs 4) l = gone at *
    let m2 : Nat → Option MO := fun i => if i = id then some (.row ver sz (rows.set q0 ts)) else if i ∈ gone then none else st.m i
    have hm2 : (⟨st.sl, (id, some (.row ver sz (rows.set q0 ts))) :: (gone.map (fun i => (i, none)) ++ st.me)⟩ : St).m = m2 := by
     funext i
     show look ((id, some (MO.row ver sz (rows.set q0 ts))) :: (gone.map (fun i => (i, none)) ++ st.me)) i none = _
     rw [look_cons, look_app]
     show (if i = id then some (MO.row ver sz (rows.set q0 ts)) else updM st.m (gone.map fun i => (i, none)) i) = _
     rw [updM_none]
    rw [hm2]
    let fp2 : Nat → Nat → Prop := fun i => if i = id then fun x => fp id x ∨ ∃ j ∈ gone, fp j x else fp i
    have k : Keeps w w Fr Fr st.m m2 bv bv hd hd [] := by
     refine ⟨fun _ h => h, fun _ _ => rfl, fun i ver' sz' rows' h => ?_, fun i l' h => ?_⟩
     ·by_cases hi : i = id
      ·subst hi
       have h : asRow (if i = i then some (MO.row ver sz (rows.set q0 ts)) else _) = _ := h
       rw [if_pos rfl] at h
       cases h
       exact .inl ⟨rows, by rw [hm]; rfl, rfl⟩
      ·have h : asRow (if i = id then _ else if i ∈ gone then none else st.m i) = _ := h
       rw [if_neg hi] at h
       by_cases hg : i ∈ gone
       ·rw [if_pos hg] at h; cases h
       ·rw [if_neg hg] at h; exact .inl ⟨rows', h, rfl⟩
     ·by_cases hi : i = id
      ·have h : (if i = id then some (MO.row ver sz (rows.set q0 ts)) else _) = _ := h
       rw [if_pos hi] at h; cases h
      ·have h : (if i = id then _ else if i ∈ gone then none else st.m i) = _ := h
       rw [if_neg hi] at h
       by_cases hg : i ∈ gone
       ·rw [if_pos hg] at h; cases h
       ·rw [if_neg hg] at h; exact .inl ⟨l', h, rfl⟩
    have sub : ∀ i, m2 i ≠ none → i ≠ id → i ∉ gone ∧ st.m i ≠ none := by
     intro i h hi
     have h : (if i = id then _ else if i ∈ gone then none else st.m i) ≠ none := h
     rw [if_neg hi] at h
     by_cases hg : i ∈ gone
     ·rw [if_pos hg] at h; exact absurd rfl h
     ·rw [if_neg hg] at h; exact ⟨hg, h⟩
    have m2id : m2 id = some (.row ver sz (rows.set q0 ts)) := if_pos rfl
    refine ⟨bv, hd, fp2, Fr, R.defs, R.size, R.pins, R.inv, R.bnd, R.below, R.base_le, fun u => (R.slots u).step0 k, ?_⟩
    refine R.mem.change k (fun _ _ _ => .inl rfl) (Nat.le_refl _) (fun i => i = id ∨ i ∈ gone) (fun i hA => ?_) (fun i hA l' h => ?_) (fun i hA ver' sz' rs' h => ?_) (fun i hA ver' sz' rs' q' l' h => ?_) (fun i i' x hA h1 h2 h3 h4 => ?_) (fun i x hA h1 h2 => ?_)
    ·have e1 : i ≠ id := fun e => hA (.inl e)
     have e2 : i ∉ gone := fun e => hA (.inr e)
     exact ⟨by show (if i = id then _ else if i ∈ gone then none else st.m i) = _; rw [if_neg e1, if_neg e2], rfl, rfl, fun x => by show (if i = id then _ else fp i) x ↔ _; rw [if_neg e1], fun _ _ _ => rfl⟩
    ·by_cases e : i = id
     ·subst e; rw [m2id] at h; cases h
     ·exact absurd (hA.resolve_left e) (sub i (by rw [h]; simp) e).1
    ·by_cases e : i = id
     ·subst e
      rw [m2id] at h
      cases h
      have e2 : fp2 i = fun x => fp i x ∨ ∃ j ∈ gone, fp j x := if_pos rfl
      rw [e2, X.hv]
      refine .sl _ b bo n c sz _ cells el lo hi f (fun i' j x => (i' ≠ q0 ∧ G i' j x) ∨ (i' = q0 ∧ ∃ s, l[j]? = some s ∧ ∃ id' ∈ refs 4 s, fp id' x)) (by rw [List.length_set]; exact X.hn) X.hc X.hb X.hs X.hz (.inl X.hF) (fun i' r h1 => ?_) (fun i' r j t h1 h2 => ?_) (fun i' r j t h1 h2 => ?_) (fun i' j x hx => ?_) (fun i' j i2 j2 x hx hy => ?_) (fun i' r j t h1 h2 => ?_)
      ·rw [List.getElem?_set] at h1
       split at h1
       ·cases h1; omega
       ·exact X.hr i' r h1
      ·rw [List.getElem?_set] at h1
       split at h1
       ·rename_i e3
        subst e3
        cases h1
        exact hcell j (by have := (List.getElem?_eq_some_iff.1 h2).1; omega)
       ·exact X.hcell i' r j t h1 h2
      ·rw [List.getElem?_set] at h1
       split at h1
       ·rename_i e3
        subst e3
        cases h1
        have hjl := (List.getElem?_eq_some_iff.1 h2).1
        have hrq := X.hr q0 _ (List.getElem?_eq_getElem hqr)
        exact X.hone q0 _ j _ (List.getElem?_eq_getElem hqr) (List.getElem?_eq_getElem (by omega))
       ·exact X.hone i' r j t h1 h2
      ·rcases hx with ⟨_, hx⟩ | ⟨_, s, hs, id', hid, hx⟩
       ·exact ⟨.inl (X.hG i' j x hx).1, (X.hG i' j x hx).2⟩
       ·have hg : id' ∈ gone := by rw [← hgone]; exact refsL_mem.2 ⟨s, List.mem_of_getElem? hs, hid⟩
        refine ⟨.inr ⟨id', hg, hx⟩, fun e => ?_⟩
        subst e
        exact hnot (R.mem.apart id' i x (hlive id' hg) hmn hx X.hF ▸ hg)
      ·have out : ∀ (i' j : Nat) (s : SV) (x id' : Nat), l[j]? = some s → id' ∈ refs 4 s → fp id' x → ∀ (i2 j2 : Nat), G i2 j2 x → False := fun i' j s x id' hs hid hx i2 j2 hg2 => by
        have hg : id' ∈ gone := by rw [← hgone]; exact refsL_mem.2 ⟨s, List.mem_of_getElem? hs, hid⟩
        exact hnot (R.mem.apart id' i x (hlive id' hg) hmn hx (X.hG i2 j2 x hg2).1 ▸ hg)
       rcases hx with ⟨_, hx⟩ | ⟨e1, s, hs, id', hid, hx⟩ <;> rcases hy with ⟨_, hy⟩ | ⟨e2, s2, hs2, id2, hid2, hy⟩
       ·exact X.hD _ _ _ _ x hx hy
       ·exact (out i2 j2 s2 x id2 hs2 hid2 hy i' j hx).elim
       ·exact (out i' j s x id' hs hid hx i2 j2 hy).elim
       ·have g1 : id' ∈ gone := by rw [← hgone]; exact refsL_mem.2 ⟨s, List.mem_of_getElem? hs, hid⟩
        have g2 : id2 ∈ gone := by rw [← hgone]; exact refsL_mem.2 ⟨s2, List.mem_of_getElem? hs2, hid2⟩
        have := R.mem.apart id' id2 x (hlive id' g1) (hlive id2 g2) hx hy
        subst this
        rw [← hgone] at hnd
        exact ⟨e1.trans e2.symm, refsL_apart hnd hs hs2 hid hid2⟩
      ·rw [List.getElem?_set] at h1
       split at h1
       ·rename_i e3
        subst e3
        cases h1
        have hjl := (List.getElem?_eq_some_iff.1 h2).1
        have hs := List.getElem?_eq_getElem (l := l) (i := j) (by omega)
        exact (hown j _ t hs h2).mono (fun x ⟨id', h3, h4⟩ => .inr ⟨rfl, _, hs, id', h3, h4⟩) (fun _ _ => rfl)
       ·rename_i e3
        exact (X.h i' r j t (fun e => e3 e.symm) h1 h2).mono (fun x hx => .inl ⟨fun e => e3 e.symm, hx⟩) (fun _ _ => rfl)
     ·exact absurd (hA.resolve_left e) (sub i (by rw [h]; simp) e).1
    ·by_cases e : i = id
     ·subst e; rw [m2id] at h; cases h
     ·exact absurd (hA.resolve_left e) (sub i (by rw [h]; simp) e).1
    ·by_cases e : i = id
     ·subst e
      by_cases e2 : i' = i
      ·exact e2.symm
      ·obtain ⟨g1, g2⟩ := sub i' h2 e2
       have h4 : fp i' x := by have h4 : (if i' = i then _ else fp i') x := h4; rwa [if_neg e2] at h4
       have h3 : (if i = i then fun x => fp i x ∨ ∃ j ∈ gone, fp j x else fp i) x := h3
       rw [if_pos rfl] at h3
       rcases h3 with h3 | ⟨j, hj, h3⟩
       ·exact (R.mem.apart i' i x g2 hmn h4 h3).symm
       ·exact absurd (R.mem.apart j i' x (hlive j hj) g2 h3 h4 ▸ hj) g1
     ·exact absurd (hA.resolve_left e) (sub i h1 e).1
    ·by_cases e : i = id
     ·subst e
      have h2 : (if i = i then fun x => fp i x ∨ ∃ j ∈ gone, fp j x else fp i) x := h2
      rw [if_pos rfl] at h2
      rcases h2 with h2 | ⟨j, hj, h2⟩
      ·exact R.mem.own i x hmn h2
      ·exact R.mem.own j x (hlive j hj) h2
     ·exact absurd (hA.resolve_left e) (sub i h1 e).1
  ·exact R
 ·exact R
theorem closeL_rel {N : FrP} {W : Nat → Prop} {base : Nat} {w0 : World} {a : Act} {w : World} (ids : List Nat) : ∀ (ml : List (Nat × Option MO)) (st : St), Rel N W base w0 st.s st.m a w → Rel N W base w0 (closeL ids ml st).s (closeL ids ml st).m a w
 | [], st, R => R
 | (id, none) :: r, st, R => closeL_rel ids r st R
 | (id, some (.var _)) :: r, st, R => closeL_rel ids r st R
 | (id, some (.row ..)) :: r, st, R => closeL_rel ids r st R
 | (id, some (.rowv ..)) :: r, st, R => by
  unfold closeL
  cases memN id ids with
  | true => exact closeL_rel ids r _ (closeId_rel id R)
  | false => exact closeL_rel ids r st R
theorem keep_rel {N : FrP} {W : Nat → Prop} {base : Nat} {w0 : World} {st : St} {a : Act} {w : World} (l : Keep) (R : Rel N W base w0 st.s st.m a w) : Rel N W base w0 (keep l st).s (keep l st).m a w :=
 canon_rel l _ (keep0_rel l (prep_rel l st R))
def backB : Nat → List Oper → Bool
 | _, [] => true
 | k, o :: r => (o.after.toList.all fun e => !Region.binds .any e || Nat.ble (e.on + 1) k) && backB (k + 1) r
def opsOK (n lo : Nat) (ops : List Oper) : Bool := backB 0 ops && ops.all fun o => match o.dst with | some d => Nat.ble (d + 1) n && Nat.ble lo d | none => true
def codeOK (n lo : Nat) : Code → Bool
 | .region _ ops _ => opsOK n lo ops.toList
 | .seq a b => codeOK n lo a && codeOK n lo b
 | .cond _ a b => codeOK n lo a && codeOK n lo b
 | .block _ c => codeOK n lo c
 | .loop c => codeOK n lo c
 | _ => true
theorem backB_spec : ∀ (l : List Oper) (k : Nat), backB k l = true → ∀ i o, l[i]? = some o → ∀ e ∈ o.after.toList, Region.binds .any e = true → e.on < k + i
 | [], _, _, i, o, h, _, _, _ => by simp at h
 | p :: l, k, h, 0, o, ho, e, he, hb => by
  obtain rfl : p = o := by simpa using ho
  simp only [backB, Bool.and_eq_true, List.all_eq_true, Bool.or_eq_true, Bool.not_eq_true'] at h
  rcases h.1 e he with h1 | h1
  ·rw [hb] at h1; cases h1
  ·have := bleN h1; omega
 | p :: l, k, h, i + 1, o, ho, e, he, hb => by
  simp only [backB, Bool.and_eq_true] at h
  have := backB_spec l (k + 1) h.2 i o (by simpa using ho) e he hb
  omega
section
variable {P : Program} {C : Ctx} {N : FrP} {W : Nat → Prop} {base : Nat} {w0 : World}
theorem evR_sound (H : CtxOK P C) (hG : ∀ w, N.gi w → C.gi w) (hm : P.follows .mixedOrders = true) {pl : Plan} {id : Nat} {ops : Array Oper} {draw : Bool} {st : St} {K : St → Prop} {Q : Exit → Act → World → Prop} {a : Act} {w : World}
    (h : evR C pl id ops.toList draw st K) (hc : opsOK N.n N.lo ops.toList = true) (R : Rel N W base w0 st.s st.m a w) (hK : ∀ st' a' w', K st' → Rel N W base w0 st'.s st'.m a' w' → Q .normal a' w') : (Code.region id ops draw).wp P Q a w := by
 obtain ⟨L, h1, h2, st', ⟨h3, h4⟩, h5, h6⟩ := evOps_chain _ _ _ h
 rw [List.append_nil] at h3
 simp only [Bool.and_eq_true] at h3
 obtain ⟨⟨⟨h7, h8⟩, h9⟩, h10⟩ := h3
 simp only [opsOK, Bool.and_eq_true, List.all_eq_true] at hc
 have hB : Back ops.toList := fun i o ho e he hb => by have := backB_spec _ 0 hc.1 i o ho e he hb; omega
 obtain ⟨f1, f2⟩ := freshAll_spec _ h8
 have X : RegOK P C N ops.toList L st.s st.m := by
  refine ⟨H, h1, h2, fun o ho d hd => ?_, hG, fun i x hx => ?_, fun i j x y hij hx hy => ?_⟩
  ·have := hc.2 o ho
   rw [hd] at this
   simp only [Bool.and_eq_true] at this
   exact ⟨bleN this.1, bleN this.2⟩
  ·have hxr : x ∈ L.reverse := by simpa using List.mem_of_getElem? hx
   exact ⟨cleanS_spec h7 (toksOf_in hxr), toksOf_nodup f1 hxr, fun id hid => f2 id (toksOf_in hxr _ hid)⟩
  ·have hlt := (List.getElem?_eq_some_iff.1 hy).1
   exact priorOK_at L.reverse (L.length - 1 - j) (L.length - 1 - i) y x h9 (by omega) (rev_at hy) (rev_at hx)
 have hQ : ∀ a w, Rel N W base w0 (fld st.s (L.map wS) fun _ => true) (fld st.m (L.map wM) fun _ => true) a w → Q .normal a w := by
  intro a w hr
  rw [← h5, ← h6] at hr
  exact hK _ a w h4 (keep_rel _ (closeL_rel _ _ _ hr))
 cases draw with
 | false =>
  refine wp_region ?_
  have hlen : ops.size = L.length := by rw [X.len]; simp
  rw [List.range_eq_range', hlen]
  have e1 : fld st.s (L.map wS) (fun i => decide (i < 0)) = st.s := by funext t; exact fld_none _ _ _ _ (fun i x _ hd => by simp at hd)
  have e2 : fld st.m (L.map wM) (fun i => decide (i < 0)) = st.m := by funext t; exact fld_none _ _ _ _ (fun i x _ hd => by simp at hd)
  have := X.straight (Q := Q) hQ L.length 0 a w (by omega) (by rw [e1, e2]; exact R)
  simpa using this
 | true =>
  refine wp_region_any hm ?_
  have hn : ∀ i, (Array.replicate ops.size false).getD i false = false := by
   intro i
   simp only [Array.getD_eq_getD_getElem?, Array.getElem?_replicate]
   split <;> rfl
  have e0 : (fun i => (Array.replicate ops.size false).getD i false) = fun _ => false := funext hn
  have e1 : fld st.s (L.map wS) (fun _ => false) = st.s := by funext t; exact fld_none _ _ _ _ (fun i x _ hd => by simp at hd)
  have e2 : fld st.m (L.map wM) (fun _ => false) = st.m := by funext t; exact fld_none _ _ _ _ (fun i x _ hd => by simp at hd)
  have hR : Rel N W base w0 st.s st.m a { w with drawn := w.drawn + 1 } := by
   obtain ⟨bv, hd, fp, Fr, R⟩ := R
   exact ⟨bv, hd, fp, Fr, R.world rfl rfl rfl rfl⟩
  have := X.any (Q := Q) hB (by simpa using h10) hQ ops.size (Array.replicate ops.size false) a { w with drawn := w.drawn + 1 } (by simp) (by
   refine Nat.le_trans (List.countP_le_length) (by simp)) (by rw [e0]; intro i o _ hd; cases hd) (by rw [e0, e1, e2]; exact hR)
  simpa using this
def exOf : Ex → Exit
 | .normal => .normal
 | .ret => .ret
 | .exit id => .exit id
theorem wpc_sound (H : CtxOK P C) (hG : ∀ w, N.gi w → C.gi w) (hm : P.follows .mixedOrders = true) {pl : Plan} {k : Nat} : ∀ (c : Code) (st : St) (Q : Ex → St → Prop) (Q' : Exit → Act → World → Prop) (a : Act) (w : World), codeOK N.n N.lo c = true → wpc C pl k c st Q →
    Rel N W base w0 st.s st.m a w → (∀ e st' a' w', Q e st' → Rel N W base w0 st'.s st'.m a' w' → Q' (exOf e) a' w') → c.wp P Q' a w
 | .skip, st, Q, Q', a, w, hc, h, R, hQ => wp_skip (hQ .normal st a w h R)
 | .region id ops draw, st, Q, Q', a, w, hc, h, R, hQ => evR_sound H hG hm h hc R fun st' a' w' h' R' => hQ .normal st' a' w' h' R'
 | .seq x y, st, Q, Q', a, w, hc, h, R, hQ => by
  simp only [codeOK, Bool.and_eq_true] at hc
  refine wp_seq (wpc_sound H hG hm x st _ _ a w hc.1 h R fun e st' a' w' h' R' => ?_)
  cases e with
  | normal => exact wpc_sound H hG hm y st' Q Q' a' w' hc.2 h' R' hQ
  | ret => exact hQ .ret st' a' w' h' R'
  | exit id => exact hQ (.exit id) st' a' w' h' R'
 | .cond c x y, st, Q, Q', a, w, hc, h, R, hQ => by
  simp only [codeOK, Bool.and_eq_true] at hc
  unfold wpc at h
  split at h
  ·rename_i p hp
   have hv : a.eval c = .bool p := by
    obtain ⟨bv, hd, fp, Fr, RE⟩ := R
    exact opnd_bool RE hp
   refine wp_cond hv ?_
   rcases bcond_or h with ⟨e, h⟩ | ⟨e, h⟩
   ·rw [e, if_pos rfl]; exact wpc_sound H hG hm x _ Q Q' a w hc.1 h (keep_rel _ R) hQ
   ·rw [e, if_neg (by simp)]; exact wpc_sound H hG hm y _ Q Q' a w hc.2 h (keep_rel _ R) hQ
  ·exact h.elim
 | .block id c, st, Q, Q', a, w, hc, h, R, hQ => by
  simp only [codeOK] at hc
  refine wp_block (wpc_sound H hG hm c st _ _ a w hc h R fun e st' a' w' h' R' => ?_)
  cases e with
  | normal => exact hQ .normal _ a' w' h' (keep_rel _ R')
  | ret => exact hQ .ret st' a' w' h' R'
  | exit j =>
   simp only [exOf, Exit.inBlock]
   rcases bcond_or h' with ⟨e, h'⟩ | ⟨e, h'⟩
   ·rw [if_pos (beqN e)]; exact hQ .normal _ a' w' h' (keep_rel _ R')
   ·rw [if_neg (fun e' => by rw [e'] at e; simp at e)]; exact hQ (.exit j) st' a' w' h' R'
 | .loop c, st, Q, Q', a, w, hc, h, R, hQ => by
  simp only [codeOK] at hc
  refine wp_loop_rounds k ?_
  have key : ∀ (n : Nat) (st : St) (a : Act) (w : World), loopN (wpc C pl k c) n st Q → Rel N W base w0 st.s st.m a w → Code.rounds P c Q' n a w := by
   intro n
   induction n with
   | zero => intro st a w h _; exact h.elim
   | succ n ih =>
    intro st a w h R
    refine wpc_sound H hG hm c st _ _ a w hc h R fun e st' a' w' h' R' => ?_
    cases e with
    | normal => exact ih st' a' w' h' R'
    | ret => exact hQ .ret st' a' w' h' R'
    | exit id => exact hQ (.exit id) st' a' w' h' R'
  exact key k st a w h R
 | .exit id, st, Q, Q', a, w, hc, h, R, hQ => wp_exit (hQ (.exit id) st a w h R)
 | .ret, st, Q, Q', a, w, hc, h, R, hQ => wp_ret (hQ .ret st a w h R)
 | .rangeFunc .., st, Q, Q', a, w, hc, h, R, hQ => by simp [wpc] at h
 | .scope .., st, Q, Q', a, w, hc, h, R, hQ => by simp [wpc] at h
 | .label .., st, Q, Q', a, w, hc, h, R, hQ => by simp [wpc] at h
 | .goto .., st, Q, Q', a, w, hc, h, R, hQ => by simp [wpc] at h
 | .refuse .., st, Q, Q', a, w, hc, h, R, hQ => by simp [wpc] at h
end
end Go.Pv

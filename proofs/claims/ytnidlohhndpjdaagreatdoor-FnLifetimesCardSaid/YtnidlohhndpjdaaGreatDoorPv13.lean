/- Plain lemmas and definitions. Nothing is claimed here. -/
import Derived.Test.YtnidlohhndpjdaaGreatDoorPv12
set_option linter.unusedSimpArgs false
set_option linter.unusedVariables false
namespace Go.Pv
open Go Go.RowKit Go.Lib
section
variable {P : Program} {C : Ctx} {N : FrP} {W : Nat → Prop} {base : Nat} {w0 : World} {s : Nat → SV} {m : Nat → Option MO} {bv : Nat → Nat} {hd : Nat → Value} {fp : Nat → Nat → Prop} {Fr : Nat → Prop} {a : Act} {w : World}
theorem keys_append {α : Type} (x y : List (Nat × α)) : keys (x ++ y) = keys x ++ keys y := by simp [keys]
theorem impPart_ok {w' : World} (base k : Nat) {t : T} {v : Value} {F : Nat → Prop} (ho : Owns w' F v t) (hok : partOK t = true) :
    ∃ hN fN, ImpOK w' F (impPart base k t).2 hN fN ∧ (∀ id b, fN id b → id ∈ keys (impPart base k t).2) ∧ Taken w' (impPart base k t).2 hN (impPart base k t).1 v := by
 have scal : t.scalar = true → impPart base k t = (.t t, []) → ∃ hN fN, ImpOK w' F (impPart base k t).2 hN fN ∧ (∀ id b, fN id b → id ∈ keys (impPart base k t).2) ∧ Taken w' (impPart base k t).2 hN (impPart base k t).1 v := by
  intro hs e
  rw [e]
  exact ⟨fun _ => undef, fun _ _ => False, ⟨fun id ob h => by simp at h, fun _ _ h => h.elim, fun _ _ _ h => h.elim⟩, fun _ _ h => h.elim, fun Fr m' bv' hd' _ => .t _ _ (ho.reads.owns_scalar hs w' Fr).reads⟩
 cases t with
 | int k n => exact scal rfl rfl
 | bool b => exact scal rfl rfl
 | str l => exact scal rfl rfl
 | err e => exact scal rfl rfl
 | sl sz rows =>
  refine ⟨fun _ => v, fun id b => id = base + 1000 * k ∧ F b, ⟨fun id ob h => ?_, fun id b h => h.2, fun id id' b h h' => by rw [h.1, h'.1]⟩, fun id b h => by simp [impPart, keys, h.1], ?_⟩
  ·simp only [impPart, List.mem_singleton, Prod.mk.injEq] at h
   obtain ⟨rfl, rfl⟩ := h
   exact ⟨sz, rows, rfl, ho.mono (fun b hb => ⟨rfl, hb⟩) (fun _ _ => rfl)⟩
  ·intro Fr m' bv' hd' hh
   obtain ⟨a1, a2, a3, e, _⟩ := ho.slice
   exact .ref _ _ _ ⟨_, _, _, e⟩ fun _ _ _ => (hh _ (by simp [impPart, keys])).symm
 | agg l =>
  cases ho with
  | agg _ cs _ G hl hG hD h =>
   obtain ⟨hN, fN, I, hk, hlen, hT⟩ := impCells_ok (w' := w') base l k cs G hl hD h (fun t ht => by
    have := List.all_eq_true.1 hok t ht
    cases t <;> first | exact .inl rfl | exact .inr ⟨_, _, rfl⟩ | (simp [cellOK, T.scalar] at this; done))
   refine ⟨hN, fN, ⟨I.row, fun id b h => ?_, I.dis⟩, hk, fun Fr m' bv' hd' hh => ?_⟩
   ·obtain ⟨i, hi⟩ := I.sub id b h; exact hG i b hi
   ·exact .agg _ cs hlen.symm fun i v sv h1 h2 => hT i v sv h1 h2 Fr m' bv' hd' hh
 | tup l => simp [partOK, cellOK, T.scalar] at hok
 | box l => simp [partOK, cellOK, T.scalar] at hok
 | clo f l => simp [partOK, cellOK, T.scalar] at hok
theorem ImpOK.join {w' : World} {F1 F2 : Nat → Prop} {m1 m2 : List (Nat × Option MO)} {h1 h2 : Nat → Value} {f1 f2 : Nat → Nat → Prop} (I1 : ImpOK w' F1 m1 h1 f1) (I2 : ImpOK w' F2 m2 h2 f2) (k1 : ∀ id b, f1 id b → id ∈ keys m1) (k2 : ∀ id b, f2 id b → id ∈ keys m2)
    (hn : (keys (m1 ++ m2)).Nodup) (hF : ∀ b, F1 b → F2 b → False) :
    ImpOK w' (fun b => F1 b ∨ F2 b) (m1 ++ m2) (fun id => if id ∈ keys m1 then h1 id else h2 id) (fun id b => f1 id b ∨ f2 id b) := by
 rw [keys_append, List.nodup_append] at hn
 refine ⟨fun id ob h => ?_, fun id b h => ?_, fun id id' b h h' => ?_⟩
 ·rcases List.mem_append.1 h with h | h
  ·obtain ⟨sz, rows, e, ho⟩ := I1.row id ob h
   have : id ∈ keys m1 := List.mem_map.2 ⟨_, h, rfl⟩
   exact ⟨sz, rows, e, by simp only [this, if_true]; exact ho.mono (fun b hb => .inl hb) (fun _ _ => rfl)⟩
  ·obtain ⟨sz, rows, e, ho⟩ := I2.row id ob h
   have h3 : id ∈ keys m2 := List.mem_map.2 ⟨_, h, rfl⟩
   have : id ∉ keys m1 := fun h4 => hn.2.2 id h4 id h3 rfl
   exact ⟨sz, rows, e, by simp only [this, if_false]; exact ho.mono (fun b hb => .inr hb) (fun _ _ => rfl)⟩
 ·rcases h with h | h
  ·exact .inl (I1.sub id b h)
  ·exact .inr (I2.sub id b h)
 ·rcases h with h | h <;> rcases h' with h' | h'
  ·exact I1.dis id id' b h h'
  ·exact (hF b (I1.sub _ _ h) (I2.sub _ _ h')).elim
  ·exact (hF b (I1.sub _ _ h') (I2.sub _ _ h)).elim
  ·exact I2.dis id id' b h h'
theorem Taken.left {w' : World} {m1 m2 : List (Nat × Option MO)} {h1 h2 : Nat → Value} {sv : SV} {v : Value} (h : Taken w' m1 h1 sv v) : Taken w' (m1 ++ m2) (fun id => if id ∈ keys m1 then h1 id else h2 id) sv v :=
 fun Fr m' bv' hd' hh => h Fr m' bv' hd' fun id hid => by rw [hh id (by rw [keys_append]; exact List.mem_append_left _ hid)]; simp [hid]
theorem Taken.right {w' : World} {m1 m2 : List (Nat × Option MO)} {h1 h2 : Nat → Value} {sv : SV} {v : Value} (h : Taken w' m2 h2 sv v) (hn : (keys (m1 ++ m2)).Nodup) : Taken w' (m1 ++ m2) (fun id => if id ∈ keys m1 then h1 id else h2 id) sv v := by
 rw [keys_append, List.nodup_append] at hn
 exact fun Fr m' bv' hd' hh => h Fr m' bv' hd' fun id hid => by
  rw [hh id (by rw [keys_append]; exact List.mem_append_right _ hid)]
  have : id ∉ keys m1 := fun h4 => hn.2.2 id h4 id hid rfl
  simp [this]
theorem impParts_ok {w' : World} (base : Nat) : ∀ (ts : List T) (k : Nat) (cs : List Value) (G : Nat → Nat → Prop), cs.length = ts.length → (∀ i j b, G i b → G j b → i = j) →
    (∀ (i : Nat) v t, cs[i]? = some v → ts[i]? = some t → Owns w' (G i) v t) → (∀ t ∈ ts, partOK t = true) → (keys (impParts base k ts).2).Nodup → ∃ hN fN, ImpOK w' (fun b => ∃ i, G i b) (impParts base k ts).2 hN fN ∧ (∀ id b, fN id b → id ∈ keys (impParts base k ts).2) ∧ (impParts base k ts).1.length = cs.length ∧
     ∀ (i : Nat) v sv, cs[i]? = some v → (impParts base k ts).1[i]? = some sv → Taken w' (impParts base k ts).2 hN sv v
 | [], k, cs, G, hl, hD, ho, hc, hn => by
  have : cs = [] := List.eq_nil_of_length_eq_zero (by simpa using hl)
  subst this
  exact ⟨fun _ => undef, fun _ _ => False, ⟨fun id ob h => by simp [impParts] at h, fun _ _ h => h.elim, fun _ _ _ h => h.elim⟩, fun _ _ h => h.elim, rfl, fun i v sv h => by simp at h⟩
 | t :: ts, k, [], G, hl, hD, ho, hc, hn => by simp at hl
 | t :: ts, k, c :: cs, G, hl, hD, ho, hc, hn => by
  have hn' : (keys ((impPart base k t).2 ++ (impParts base (k + 100) ts).2)).Nodup := hn
  have hn2 : (keys (impParts base (k + 100) ts).2).Nodup := by rw [keys_append, List.nodup_append] at hn'; exact hn'.2.1
  obtain ⟨h2, f2, I2, k2, hlen, hT⟩ := impParts_ok (w' := w') base ts (k + 100) cs (fun i => G (i + 1)) (by simpa using hl) (fun i j b h1 h2 => by have := hD _ _ b h1 h2; omega) (fun i v t h1 h2 => ho (i + 1) v t h1 h2) (fun t ht => hc t (by simp [ht])) hn2
  obtain ⟨h1, f1, I1, k1, hT1⟩ := impPart_ok base k (ho 0 c t rfl rfl) (hc t (by simp))
  have J := I1.join I2 k1 k2 hn' (fun b hb ⟨i, hi⟩ => by have := hD _ _ b hb hi; omega)
  refine ⟨_, _, ⟨J.row, fun id b h => ?_, J.dis⟩, fun id b h => ?_, by simp [impParts, hlen], fun i v sv e1 e2 => ?_⟩
  ·rcases J.sub id b h with h | ⟨i, h⟩
   ·exact ⟨0, h⟩
   ·exact ⟨i + 1, h⟩
  ·show id ∈ keys ((impPart base k t).2 ++ (impParts base (k + 100) ts).2)
   rw [keys_append]
   rcases h with h | h
   ·exact List.mem_append_left _ (k1 id b h)
   ·exact List.mem_append_right _ (k2 id b h)
  ·cases i with
   | zero =>
    simp [impParts] at e1 e2
    subst e1
    subst e2
    exact hT1.left
   | succ i =>
    simp only [impParts, List.getElem?_cons_succ] at e1 e2
    exact (hT i v sv e1 e2).right hn'
theorem imp_ok {w' : World} (base : Nat) {t : T} {v : Value} {F : Nat → Prop} (ho : Owns w' F v t) (hok : impOK t = true) (hn : (keys (imp base t).2).Nodup) :
    ∃ hN fN, ImpOK w' F (imp base t).2 hN fN ∧ Taken w' (imp base t).2 hN (imp base t).1 v := by
 have part : partOK t = true → imp base t = impPart base 1 t → ∃ hN fN, ImpOK w' F (imp base t).2 hN fN ∧ Taken w' (imp base t).2 hN (imp base t).1 v := by
  intro h e
  rw [e]
  obtain ⟨hN, fN, I, _, hT⟩ := impPart_ok base 1 ho h
  exact ⟨hN, fN, I, hT⟩
 cases t with
 | tup l =>
  cases ho with
  | tup _ cs _ G hl hG hD h =>
   obtain ⟨hN, fN, I, hk, hlen, hT⟩ := impParts_ok (w' := w') base l 1 cs G hl hD h (fun t ht => List.all_eq_true.1 hok t ht) hn
   refine ⟨hN, fN, ⟨I.row, fun id b h => ?_, I.dis⟩, fun Fr m' bv' hd' hh => ?_⟩
   ·obtain ⟨i, hi⟩ := I.sub id b h; exact hG i b hi
   ·exact .tup _ cs hlen.symm fun i v sv h1 h2 => hT i v sv h1 h2 Fr m' bv' hd' hh
 | int k n => exact part hok rfl
 | bool b => exact part hok rfl
 | str l => exact part hok rfl
 | err e => exact part hok rfl
 | sl sz rows => exact part hok rfl
 | agg l => exact part hok rfl
 | box l => exact part hok rfl
 | clo f l => exact part hok rfl
theorem run_call {o : Oper} {c : Call} {f : Operand} {g : FuncId} {caps : List Value} (he : Enters P g) (h : o.op = .call c) (hc : c.callee = .value f) (hf : a.eval f = .func (.func g) #[] ⟨caps⟩) :
    (execOp a.eval o).run P w = .ok (.enter g ⟨c.args.toList.map a.eval ++ caps⟩) w := by
 obtain ⟨fn, h1, h2, h3⟩ := he
 have e : c.args.map a.eval ++ (⟨caps⟩ : Array Value) = ⟨c.args.toList.map a.eval ++ caps⟩ := by apply Array.ext'; simp
 have e2 : (#[] : Array Value) ++ c.args.map a.eval = c.args.map a.eval := by simp
 simp only [execOp, h, resolve, hc, hf, Deferred.ofValue, Sem.run_bind, Sem.run_pure, Result.andThen_ok, invoke, callFunc, run_program, h1, h2, h3, e2, e]
 simp
theorem args_rel (R : RelE N W base w0 s m bv hd fp Fr a w) (c : Call) {cap : List SV} {caps : List Value} (hl : caps.length = cap.length) (hr : ∀ (i : Nat) v sv, caps[i]? = some v → cap[i]? = some sv → VRel w Fr m bv hd sv v) :
    (c.args.toList.map a.eval ++ caps).length = (c.args.toList.map (opnd s) ++ cap).length ∧ ∀ (i : Nat) v sv, (c.args.toList.map a.eval ++ caps)[i]? = some v → (c.args.toList.map (opnd s) ++ cap)[i]? = some sv → VRel w Fr m bv hd sv v := by
 refine ⟨by simp [hl], fun i v sv h1 h2 => ?_⟩
 by_cases hi : i < c.args.toList.length
 ·rw [List.getElem?_append_left (by simpa using hi)] at h1 h2
  rw [List.getElem?_map, Option.map_eq_some_iff] at h1 h2
  obtain ⟨x, hx, rfl⟩ := h1
  obtain ⟨y, hy, rfl⟩ := h2
  rw [hx] at hy
  cases hy
  exact opnd_rel R x
 ·rw [List.getElem?_append_right (by simp; simp at hi; omega)] at h1 h2
  simp only [List.length_map] at h1 h2
  exact hr _ _ _ h1 h2
theorem goes_call (H : CtxOK P C) (hG : ∀ w, N.gi w → C.gi w) (R : RelE N W base w0 s m bv hd fp Fr a w) {o : Oper} (hdst : ∀ d, o.dst = some d → N.ok d) {c : Call} {f : Operand} {g : FuncId} {cap : List SV} {ts : List T} {res : T} {fpl : List Nat} (h : o.op = .call c) (hc : c.callee = .value f) (hf : opnd s f = .clo g cap)
    (ht : all2 (rb m 4) (c.args.toList.map (opnd s) ++ cap) ts) (hw : C.cs g ts res) (hi : impOK res = true) (hfresh : ∀ id ∈ keys (imp (o.dst.getD 0) res).2, m id = none) (hn : (keys (imp (o.dst.getD 0) res).2).Nodup) (cl : Clean s m (toks (imp (o.dst.getD 0) res).2)) :
    Goes P N W base w0 s m o ⟨(imp (o.dst.getD 0) res).1, (imp (o.dst.getD 0) res).2, fpl, toks (imp (o.dst.getD 0) res).2⟩ a w := by
 obtain ⟨he, hcall⟩ := H.cs g ts res hw
 have hv := opnd_rel R f
 rw [hf] at hv
 generalize hev : a.eval f = v at hv
 cases hv with
 | clo _ _ caps hl hr =>
  obtain ⟨h1, h2⟩ := args_rel R c hl hr
  obtain ⟨h3, h4⟩ := all2_get ht
  have hC := hcall w (c.args.toList.map a.eval ++ caps) (fun w2 h2 => hG _ (R.inv _ (BelowW.trans0 R.below h2 R.base_le))) (by rw [h1, h3]) (fun i v t e1 e2 => by
   have li : i < (c.args.toList.map (opnd s) ++ cap).length := by rw [← h1]; exact (List.getElem?_eq_some_iff.1 e1).1
   have hx := List.getElem?_eq_getElem li
   exact rb_reads R.mem 4 _ v t (h2 i v _ e1 hx) (h4 i _ _ hx e2))
  intro K Q hK
  unfold Oper.wp
  rw [run_call he h hc hev, Oper.upon_enter]
  intro cs
  obtain ⟨e, w', fr, ⟨v, F, rfl, hown, hF, hbel⟩, hcomes, hfn, hleave⟩ := hC cs
  refine ⟨.returned v, w', fr, ?_, hcomes, hfn, hleave⟩
  obtain ⟨hN, fN, I, hT⟩ := imp_ok (o.dst.getD 0) hown hi hn
  have g : w.grownBy w' none := ⟨hbel.os, hbel.tape, hbel.output, hbel.size, fun k hk _ => hbel.block k hk⟩
  obtain ⟨bv', hd', fp', M', k, hh⟩ := add_ids R.mem g R.base_le I hF hfresh cl.m
  have bel : BelowW W base w0 w' := R.below.grown g R.base_le (fun k hk => by cases hk)
  exact hK _ _ ⟨bv', hd', fp', Fr, put_rel R k cl.s bel (Nat.le_trans R.base_le g.size) M' R.bnd o.dst hdst (hT Fr _ bv' hd' hh)⟩
end
end Go.Pv

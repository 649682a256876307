/- Plain lemmas and definitions. Nothing is claimed here. -/
import Derived.Test.YtnidlohhndpjdaaGreatDoorPv30
set_option linter.unusedSimpArgs false
set_option linter.unusedVariables false
namespace Go.Pv
open Go Go.RowKit
section
variable {D : Nat → Type} {el : Nat} {P : Program} {C : Ctx} {N : FrP} {W : Nat → Prop} {base : Nat} {w0 : World} {s : Nat → SV} {m : Nat → Option MO} {bv : Nat → Nat} {hd : Nat → Value} {fp : Nat → Nat → Prop} {Fr : Nat → Prop} {a : Act} {w : World}
theorem RelE.less {s' : Nat → SV} (R : RelE N W base w0 s m bv hd fp Fr a w) (h : ∀ t, s' t = s t ∨ s' t = .gone) : RelE N W base w0 s' m bv hd fp Fr a w :=
 ⟨R.defs, R.size, R.pins, R.inv, R.bnd, R.below, R.base_le, fun t => by
  rcases h t with e | e
  ·rw [e]; exact R.slots t
  ·rw [e]; exact .gone _, R.mem⟩
theorem goes_eqNil (H : CtxOK P C) (R : RelE N W base w0 s m bv hd fp Fr a w) {o : Oper} (hdst : ∀ d, o.dst = some d → N.ok d) {t u z : Nat} {x : Operand} {rows : List (List T)} (h : o.op = .binOp .eql t x (.const (.slice none 0 0)) u)
    (hx : opnd s x = .t (.sl z rows)) (hk : (C.i t).kind = 2) : ∃ b : Bool, (b = true → rows = []) ∧ Goes P N W base w0 s m o (pureE (.t (.bool b))) a w := by
 have hr := opnd_t R hx
 have hu := (H.fact (t := t) (by omega)).slice hk
 have he : a.eval (.const (.slice none 0 0)) = .slice none 0 0 := rfl
 generalize hv : a.eval x = v at hr
 have eq : ∀ (p : Option Addr) (n c d : Nat), (Op.equalIn (d + 1) t (.slice p n c) (.slice none 0 0)).run P w = .ok p.isNone w := fun p n c d => by
  cases p <;> simp [Op.equalIn, run_underlying hu]
 have bin : ∀ (p : Option Addr) (n c : Nat), (binOp .eql t (.slice p n c) (.slice none 0 0)).run P w = .ok (.bool p.isNone) w := fun p n c => by
  have : binOp .eql t (.slice p n c) (.slice none 0 0) = (do pure (.bool (← Op.equal t (.slice p n c) (.slice none 0 0))) : Sem Value) := rfl
  rw [this]
  have e := eq p n c 9999
  have e' : (Op.equal t (.slice p n c) (.slice none 0 0)).run P w = .ok p.isNone w := e
  simp [e']
 have fin : ∀ (p : Option Addr) (n c : Nat), a.eval x = .slice p n c → (p.isNone = true → rows = []) → ∃ b : Bool, (b = true → rows = []) ∧ Goes P N W base w0 s m o (pureE (.t (.bool b))) a w := fun p n c hp hn => by
  refine ⟨p.isNone, hn, goes_pure R hdst (v := .bool p.isNone) ?_ (.t _ _ (.bool _))⟩
  have g : eqGuard .eql t x (.const (.slice none 0 0)) (.slice p n c) (.slice none 0 0) = pure () := rfl
  simp [execOp, h, he, hp, g, bin]
 cases hr with
 | sl0 p c sz => exact fin p 0 c hv fun _ => rfl
 | sl b o n c sz rows f hn hc hb hr hw hh => exact fin _ n c hv fun e => by cases e
theorem wpOps_go {ops : Array Oper} {Q : Exit → Act → World → Prop} {j : Nat} {js : List Nat} {o : Oper} (ho : ops[j]? = some o) (hg : o.guard = none) (h : o.wp P a w (wpOps P ops Q js) Q) : wpOps P ops Q (j :: js) a w := by
 unfold wpOps
 rw [ho]
 have : Region.wanted o (yielded ops a.tmps) = true := by unfold Region.wanted; rw [hg]
 simp only [this, if_true]
 exact .inl h
theorem callClone_of {X : CT D} {cl : Calls' D} (ok : CallsOK X cl) (H : CtxOK P X.C) (hm : P.follows .mixedOrders = true) {g : FuncId} {fn : Func} {A B : Code} {i0 i1 : Nat} {o0 o1 o2 : Oper} {k0 : Value} {d0 d1 d2 ty u : Nat}
    {x : List (D el)} {r : VR D} {pl : Plan} {k : Nat} {cu : Cuts D} {tys : List (List Nat)}
    (hf : P.funcs[g]? = some fn) (hb : fn.body = some (.seq (.region i0 #[o0] false) (.seq (.seq (.region i1 #[o1, o2] false) (.cond (.tmp d2) A .skip)) B)))
    (h0 : o0.op = .assign (.const k0) ∧ o0.dst = some d0 ∧ o0.guard = none ∧ (d0 == 0) = false ∧ (d0 == d2) = false) (h1 : o1.op = .move (.tmp 0) ∧ o1.dst = some d1 ∧ o1.guard = none ∧ (d1 == 0) = false ∧ (d1 == d2) = false)
    (h2 : o2.op = .binOp .eql ty (.tmp d1) (.const (.slice none 0 0)) u ∧ o2.dst = some d2 ∧ o2.guard = none ∧ (d2 == 0) = false) (hk : (X.C.i ty).kind = 2)
    (hn : (Nat.ble (d0 + 1) fn.ntmps && Nat.ble (d1 + 1) fn.ntmps && Nat.ble (d2 + 1) fn.ntmps) = true)
    (hok : fnOK fn (.seq (.region i0 #[o0] false) (.seq (.seq (.region i1 #[o1, o2] false) (.cond (.tmp d2) A .skip)) B)) 1 = true) (hA : codeOK fn.ntmps 0 A = true) (hB : codeOK fn.ntmps 0 B = true)
    (cA : CutOK X pl k cu fn.results.toList A) (cB : CutOK X pl k cu fn.results.toList B)
    (hnil : ∀ R : VR D → Prop, x = [] → R r → wpT X cl pl cu fn.results.toList tys A ⟨[(0, .t (.sl el x))], []⟩ (fun _ _ => False) R)
    (hcopy : ∀ R : VR D → Prop, R r → wpT X cl pl cu fn.results.toList tys B ⟨[(0, .t (.sl el x))], []⟩ (fun _ _ => False) R) : CallOK P X.C.gi g [X.er (.sl el x)] (X.eR r) := by
 simp only [fnOK, Bool.and_eq_true, Bool.not_eq_true'] at hok hn
 obtain ⟨⟨⟨⟨hc, hn1⟩, hr4⟩, hname⟩, hnp⟩ := hok
 have hn1 := bleN hn1
 have hr4 := bleN hr4
 obtain ⟨⟨n0, n1⟩, n2⟩ := hn
 have n0 := bleN n0
 have n1 := bleN n1
 have n2 := bleN n2
 refine ⟨⟨fn, hf, hname, by rw [hb]; rfl⟩, fun w vs hgi hlen hargs => ?_⟩
 refine calls_of_wp hf hb ?_
 have hargs0 : ∀ v, vs[0]? = some v → Reads w (fun b => b < w.heap.size) v (X.er (.sl el x)) := fun v hv => hargs 0 v _ hv rfl
 have hlen1 : vs.length = 1 := hlen
 obtain ⟨v, rfl⟩ : ∃ v, vs = [v] := by
  cases vs with
  | nil => cases hlen1
  | cons v l => cases l with
   | nil => exact ⟨v, rfl⟩
   | cons _ _ => simp at hlen1
 have hv := hargs0 v rfl
 let s0 : Nat → SV := fun t => if t = 0 then .t (X.er (.sl el x)) else .gone
 let N : FrP := ⟨fn.ntmps, 0, fun _ => undef, X.C.gi, fun _ => True⟩
 let m0 : Nat → Option MO := fun _ => none
 have R0 : RelE N (fun _ => False) w.heap.size w s0 m0 (fun _ => 0) (fun _ => undef) (fun _ _ => False) (fun b => b < w.heap.size) { tmps := (⟨[v]⟩ : Array Value) ++ Array.replicate (fn.ntmps - (⟨[v]⟩ : Array Value).size) undef, defers := [] } w := by
  refine ⟨rfl, ?_, fun t ht => absurd ht (Nat.not_lt_zero t), hgi, fun _ _ => .inl trivial, ⟨rfl, rfl, rfl, Nat.le_refl _, fun _ _ _ => rfl⟩, Nat.le_refl _, fun t => ?_, ?_⟩
  ·simp [N]; omega
  ·by_cases ht : t = 0
   ·subst ht
    simp only [s0, if_true]
    have e : ((⟨[v]⟩ : Array Value) ++ Array.replicate (fn.ntmps - (⟨[v]⟩ : Array Value).size) undef).getD 0 undef = v := by
     simp [Array.getD_eq_getD_getElem?, Array.getElem?_append]
    rw [e]
    exact .t _ _ hv
   ·simp only [s0, ht, if_false]; exact .gone _
  ·exact ⟨fun id l h => (by cases h), fun id ver sz rows h => (by cases h), fun id ver sz rows q l h => (by cases h), fun i i' b h => absurd rfl h, fun i b h => absurd rfl h, fun b hb => hb⟩
 have okd : ∀ d, d + 1 ≤ fn.ntmps → N.ok d := fun d h => ⟨h, Nat.zero_le _⟩
 -- the end
 have fin : ∀ (c : Code) (st : VSt D) (a' : Act) (w' : World) (bv' : Nat → Nat) (hd' : Nat → Value) (fp' : Nat → Nat → Prop) (Fr' : Nat → Prop), codeOK fn.ntmps 0 c = true → CutOK X pl k cu fn.results.toList c → (∀ R : VR D → Prop, R r → wpT X cl pl cu fn.results.toList tys c st (fun _ _ => False) R) →
     RelE N (fun _ => False) w.heap.size w (X.eSt st).s (X.eSt st).m bv' hd' fp' Fr' a' w' → ∀ Q' : Exit → Act → World → Prop, (∀ a w1, bodyPost P fn (fun e w1 => ∃ v F, e = .returned v ∧ Owns w1 F v (X.eR r) ∧ (∀ b, F b → w.heap.size ≤ b ∧ b < w1.heap.size) ∧ Below w.heap.size w w1) .ret a w1 → Q' .ret a w1) → c.wp P Q' a' w' := by
  intro c st a' w' bv' hd' fp' Fr' hcc hcut hw R' Q' hQ
  refine wpc_sound (pl := plE X pl) (k := k) H (fun _ h => h) hm c _ (fun e st' => e = .ret ∧ retK X.C fn.results.toList (X.eR r) .ret st') _ a' w' hcc ?_ ⟨bv', hd', fp', Fr', R'⟩ fun e st' a' w' hK R' => ?_
  ·have h := wpT_sound (QQ := fun e st' => e = .ret ∧ retK X.C fn.results.toList (X.eR r) .ret st') ok c st (fun _ _ => False) (fun r' => r' = r) hcut ⟨fun e st' h' => h'.elim, fun r' st' h1 h2 => by subst h1; exact ⟨rfl, h2⟩⟩ (hw _ rfl)
   exact h
  ·obtain ⟨he, hK⟩ := hK
   subst he
   obtain ⟨bv, hd, fp, Fr, R'⟩ := R'
   obtain ⟨h1, h2⟩ := retOK_not hnp hK
   obtain ⟨v, h3, h4⟩ := res_run H R' hr4 h1
   refine hQ _ _ ⟨R'.defs, v, h3, v, _, rfl, rbo_own R'.mem 4 _ _ _ h4 h1 (nodupN_iff.1 h2), ?_, Below.ofW R'.below⟩
   rintro b ⟨id, hid, hb⟩
   have := R'.mem.own id b (rbo_live 4 _ _ h1 id hid) hb
   exact ⟨this.1.resolve_right fun h => h, this.2.1⟩
 have st0 : (X.eSt ⟨[(0, .t (.sl el x))], []⟩ : St).s = s0 := by
  rw [eSt_s]
  funext t
  by_cases ht : t = 0
  ·subst ht; rfl
  ·have : (⟨[(0, .t (.sl el x))], []⟩ : VSt D).s t = .gone := by
    unfold VSt.s look
    have : Nat.beq 0 t = false := by
     cases hb : Nat.beq 0 t with
     | false => rfl
     | true => exact absurd (beqN hb).symm ht
    simp [this, look]
   rw [this]; simp [s0, ht, CT.eS]
 have sm0 : (X.eSt ⟨[(0, .t (.sl el x))], []⟩ : St).m = m0 := by
  rw [eSt_m]; rfl
 refine wp_seq (wp_region ?_)
 refine wpOps_go (o := o0) rfl h0.2.2.1 ?_
 refine goes_move R0 (fun d hd => by rw [h0.2.1] at hd; cases hd; exact okd _ n0) (.inr h0.1) _ _ fun a1 w1 R1 => ?_
 obtain ⟨bv1, hd1, fp1, Fr1, R1⟩ := R1
 have R1 : RelE N (fun _ => False) w.heap.size w s0 m0 bv1 hd1 fp1 Fr1 a1 w1 := R1.less fun t => by
  rw [h0.2.1]
  by_cases ht : t = 0
  ·left; subst ht; have := h0.2.2.2.1; simp [updS] at this ⊢; intro e; exact absurd e this
  ·right; simp [s0, ht]
 show Exit.then _ _ .normal a1 w1
 show Code.wp _ _ _ a1 w1
 refine wp_seq (wp_seq (wp_region ?_))
 refine wpOps_go (o := o1) rfl h1.2.2.1 ?_
 refine goes_move R1 (fun d hd => by rw [h1.2.1] at hd; cases hd; exact okd _ n1) (.inl h1.1) _ _ fun a2 w2 R2 => ?_
 obtain ⟨bv2, hd2, fp2, Fr2, R2⟩ := R2
 refine wpOps_go (o := o2) rfl h2.2.2.1 ?_
 obtain ⟨b, hb1, hgo⟩ := goes_eqNil H R2 (o := o2) (z := (X.C.i el).size) (rows := x.map (X.R el)) (fun d hd => by rw [h2.2.1] at hd; cases hd; exact okd _ n2) h2.1 (by rw [h1.2.1]; simp [opnd, updS, s0, pureE, CT.er]) hk
 refine hgo _ _ fun a3 w3 R3 => ?_
 obtain ⟨bv3, hd3, fp3, Fr3, R3⟩ := R3
 have hc3 : a3.eval (.tmp d2) = .bool b := opnd_bool R3 (by rw [h2.2.1]; simp [opnd, updS, pureE])
 have R4 : RelE N (fun _ => False) w.heap.size w s0 m0 bv3 hd3 fp3 Fr3 a3 w3 := R3.less fun t => by
  by_cases ht : t = 0
  ·left; subst ht
   have e1 := h1.2.2.2.1
   have e2 := h2.2.2.2
   rw [h2.2.1, h1.2.1]
   simp [updS, pureE] at e1 e2 ⊢
   rw [if_neg e2, if_neg e1]
  ·right; simp [s0, ht]
 show Code.wp _ _ _ a3 w3
 refine wp_cond hc3 ?_
 rw [← st0, ← sm0] at R4
 cases b with
 | true =>
  have hx : x = [] := by simpa using hb1 rfl
  exact fin A _ a3 w3 _ _ _ _ hA cA (fun R hR => hnil R hx hR) R4 _ fun a w1 h => h
 | false =>
  refine wp_skip ?_
  exact fin B _ a3 w3 _ _ _ _ hB cB hcopy R4 _ fun a w1 h => h
def cloneOK (X : CT D) (fn : Func) : Code → Bool
 | .seq (.region i0 ⟨[o0]⟩ false) (.seq (.seq (.region i1 ⟨[o1, o2]⟩ false) (.cond (.tmp d) A .skip)) B) =>
  match o0.op, o0.dst, o0.guard, o1.op, o1.dst, o1.guard, o2.op, o2.dst, o2.guard with
  | .assign (.const _), some d0, none, .move (.tmp 0), some d1, none, .binOp .eql ty (.tmp d1') (.const (.slice none 0 0)) _, some d2, none =>
   Nat.beq d1 d1' && Nat.beq d d2 && !(d0 == 0) && !(d0 == d2) && !(d1 == 0) && !(d1 == d2) && !(d2 == 0) && Nat.beq (X.C.i ty).kind 2 && (Nat.ble (d0 + 1) fn.ntmps && Nat.ble (d1 + 1) fn.ntmps && Nat.ble (d2 + 1) fn.ntmps) &&
    codeOK fn.ntmps 0 A && codeOK fn.ntmps 0 B
  | _, _, _, _, _, _, _, _, _ => false
 | _ => false
def cloneA : Code → Code
 | .seq _ (.seq (.seq _ (.cond _ A _)) _) => A
 | _ => .skip
def cloneB : Code → Code
 | .seq _ (.seq _ B) => B
 | _ => .skip
theorem doesClone_of {X : CT D} {cl : Calls' D} (ok : CallsOK X cl) (H : CtxOK P X.C) (hm : P.follows .mixedOrders = true) {g : FuncId} {fn : Func} {body : Code} {el by' : Nat} {pl : Plan} {k : Nat} {cu : Cuts D} {tys : List (List Nat)}
    (hf : P.funcs[g]? = some fn) (hb : fn.body = some body) (hc : cloneOK X fn body = true) (hok : fnOK fn body 1 = true) (cA : CutOK X pl k cu fn.results.toList (cloneA body)) (cB : CutOK X pl k cu fn.results.toList (cloneB body))
    (hnil : ∀ R : VR D → Prop, R (.p (.c (.sl el []))) → Hold (wpT X cl pl cu fn.results.toList tys (cloneA body) ⟨[(0, .t (.sl el []))], []⟩ (fun _ _ => False) R))
    (hcopy : ∀ (x : List (D el)) (R : VR D → Prop), optK (app by' [] x) (fun r => R (.p (.c (.sl el r)))) → Hold (wpT X cl pl cu fn.results.toList tys (cloneB body) ⟨[(0, .t (.sl el x))], []⟩ (fun _ _ => False) R)) :
    Does P X g [.c (.kl el)] (fun x => app by' [] x.1) (fun r => .p (.c (.sl el r))) := by
 intro x r hx
 unfold cloneOK at hc
 split at hc
 ·split at hc
  ·rename_i hop0 hd0 hg0 hop1 hd1 hg1 hop2 hd2 hg2
   simp only [Bool.and_eq_true, Bool.not_eq_true'] at hc
   obtain ⟨⟨⟨⟨⟨⟨⟨⟨⟨⟨e1, e2⟩, e3⟩, e4⟩, e5⟩, e6⟩, e7⟩, e8⟩, e9⟩, e10⟩, e11⟩ := hc
   have e1 := beqN e1
   have e2 := beqN e2
   subst e1
   subst e2
   refine callClone_of (x := x.1) (tys := tys) (A := _) (B := _) ok H hm hf hb ⟨hop0, hd0, hg0, e3, e4⟩ ⟨hop1, hd1, hg1, e5, e6⟩ ⟨hop2, hd2, hg2, e7⟩ (beqN e8) (by simpa using e9) hok e10 e11 cA cB (fun R h0 hR => ?_) (fun R hR => ?_)
   ·have hx' : app by' [] x.1 = some r := hx
    rw [h0] at hx' ⊢
    have : r = [] := by
     unfold app at hx'
     split at hx'
     ·simpa using hx'.symm
     ·cases hx'
    subst this
    exact (hnil R hR).out
   ·refine (hcopy x.1 R ?_).out
    have hx' : app by' [] x.1 = some r := hx
    rw [hx']; exact hR
  ·cases hc
 ·cases hc
end
end Go.Pv

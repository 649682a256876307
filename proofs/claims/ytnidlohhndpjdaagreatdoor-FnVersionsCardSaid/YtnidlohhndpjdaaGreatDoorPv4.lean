/- Plain lemmas and definitions. Nothing is claimed here. -/
import Derived.Test.YtnidlohhndpjdaaGreatDoorPv3
import Derived.Deep.AppendSrc
import Derived.Deep.MidRow
import Derived.Laws.StructEq
import Derived.Laws.Entries
import Derived.Laws.Small
import Derived.Laws.DeepStrings4
import Derived.Laws.Strings3
import Derived.Lib.ConvBytes
set_option linter.unusedSimpArgs false
set_option linter.unusedVariables false
namespace Go.Pv
open Go Go.RowKit
def Enters (P : Program) (g : FuncId) : Prop := ∃ fn, P.funcs[g]? = some fn ∧ (fn.name == "runtime.NumGoroutine") = false ∧ fn.body.isNone = false
def CallOK (P : Program) (gi : World → Prop) (g : FuncId) (ts : List T) (res : T) : Prop :=
 Enters P g ∧ ∀ (w : World) (vs : List Value), (∀ w', BelowW (fun _ => False) w.heap.size w w' → gi w') → vs.length = ts.length → (∀ (i : Nat) v t, vs[i]? = some v → ts[i]? = some t → Reads w (fun b => b < w.heap.size) v t) →
  Calls P g ⟨vs⟩ w fun e w' => ∃ v F, e = .returned v ∧ Owns w' F v res ∧ (∀ b, F b → w.heap.size ≤ b ∧ b < w'.heap.size) ∧ Below w.heap.size w w'
def CallW (P : Program) (gi : World → Prop) (g : FuncId) (ts : List T) (res : T) (outs : List T) : Prop :=
 Enters P g ∧ outs.length = ts.length ∧ ∀ (w : World) (vs : List Value) (G : Nat → Nat → Prop), (∀ w', BelowW (fun b => ∃ i, G i b) w.heap.size w w' → gi w') → vs.length = ts.length → (∀ i j b, G i b → G j b → i = j) → (∀ i b, G i b → b < w.heap.size) →
  (∀ (i : Nat) v t, vs[i]? = some v → ts[i]? = some t → Owns w (G i) v t) →
  Calls P g ⟨vs⟩ w fun e w' => ∃ v, e = .returned v ∧ Owns w' (fun _ => False) v res ∧ BelowW (fun b => ∃ i, G i b) w.heap.size w w' ∧
   ∃ G' : Nat → Nat → Prop, (∀ i j b, G' i b → G' j b → i = j) ∧ (∀ i b, G' i b → ((∃ j, G j b) ∨ w.heap.size ≤ b) ∧ b < w'.heap.size) ∧ ∀ (i : Nat) v t, vs[i]? = some v → outs[i]? = some t → Owns w' (G' i) v t
def CallP (P : Program) (gi : World → Prop) (g : FuncId) (l0 ts : List T) (res : T) (l1 : List T) : Prop :=
 Enters P g ∧ ∀ (w : World) (b : Nat) (vs : List Value) (Fr : Nat → Prop), (∀ w', BelowW (fun x => x = b) w.heap.size w w' → gi w') → b < w.heap.size → ¬ Fr b → (∀ x, Fr x → x < w.heap.size) → vs.length = ts.length →
  (∃ cs el, w.heap[b]? = some (.cells ⟨cs⟩ el (0, 0)) ∧ cs.length = l0.length ∧ ∀ (i : Nat) v t, cs[i]? = some v → l0[i]? = some t → Reads w Fr v t) →
  (∀ (i : Nat) v t, vs[i]? = some v → ts[i]? = some t → Reads w Fr v t) →
  Calls P g ⟨.pointer (some ⟨b, 0, none⟩) :: vs⟩ w fun e w' => ∃ v F Fr', e = .returned v ∧ Owns w' F v res ∧ (∀ x, F x → w.heap.size ≤ x ∧ x < w'.heap.size ∧ ¬ Fr' x) ∧ BelowW (fun x => x = b) w.heap.size w w' ∧
   (∀ x, Fr' x → (Fr x ∨ w.heap.size ≤ x) ∧ x < w'.heap.size ∧ x ≠ b) ∧
   ∃ cs el, w'.heap[b]? = some (.cells ⟨cs⟩ el (0, 0)) ∧ cs.length = l1.length ∧ ∀ (i : Nat) v t, cs[i]? = some v → l1[i]? = some t → Reads w' Fr' v t
def CallB (P : Program) (gi : World → Prop) (g : FuncId) (ts l1 : List T) : Prop :=
 Enters P g ∧ ∀ (w : World) (vs : List Value) (Fr : Nat → Prop), (∀ w', BelowW (fun _ => False) w.heap.size w w' → gi w') → (∀ x, Fr x → x < w.heap.size) → vs.length = ts.length →
  (∀ (i : Nat) v t, vs[i]? = some v → ts[i]? = some t → Reads w Fr v t) →
  Calls P g ⟨vs⟩ w fun e w' => ∃ b Fr', e = .returned (.pointer (some ⟨b, 0, none⟩)) ∧ w.heap.size ≤ b ∧ b < w'.heap.size ∧ BelowW (fun _ => False) w.heap.size w w' ∧
   (∀ x, Fr' x → (Fr x ∨ w.heap.size ≤ x) ∧ x < w'.heap.size ∧ x ≠ b) ∧
   ∃ cs el, w'.heap[b]? = some (.cells ⟨cs⟩ el (0, 0)) ∧ cs.length = l1.length ∧ ∀ (i : Nat) v t, cs[i]? = some v → l1[i]? = some t → Reads w' Fr' v t
def CallT (P : Program) (gi : World → Prop) (g : FuncId) (sz : Nat) (rows : List (List T)) (ts : List T) (res : T) (out : Option (List (List T))) : Prop :=
 Enters P g ∧ ∀ (w : World) (v0 : Value) (vs : List Value) (G Fr : Nat → Prop), (∀ w', BelowW G w.heap.size w w' → gi w') → (∀ b, G b → b < w.heap.size ∧ ¬ Fr b) → (∀ x, Fr x → x < w.heap.size) → vs.length = ts.length →
  Owns w G v0 (.sl sz rows) → (∀ (i : Nat) v t, vs[i]? = some v → ts[i]? = some t → Reads w Fr v t) →
  Calls P g ⟨v0 :: vs⟩ w fun e w' => ∃ v F, e = .returned v ∧ Owns w' F v res ∧ (∀ x, F x → (w.heap.size ≤ x ∨ (G x ∧ out = none)) ∧ x < w'.heap.size) ∧ BelowW G w.heap.size w w' ∧
   ∀ rs, out = some rs → Owns w' G v0 (.sl sz rs)
structure CtxOK (P : Program) (C : Ctx) : Prop where
 ti : ∀ t, (C.i t).kind ≠ 0 → tiOf P t = some (C.i t)
 z : (C.i 0).kind = 0
 eqs : ∀ t, t ∈ C.eqs → (C.i t).kind = 3 ∧ P.stoodInHeld t = false ∧ P.eqGuardType P.depth t = false ∧ ∀ f ∈ (P.fieldsOf t).toList, f.name ≠ "_"
 cs : ∀ g ts r, C.cs g ts r → CallOK P C.gi g ts r
 cw : ∀ g ts r outs, C.cw g ts r outs → CallW P C.gi g ts r outs
 cp : ∀ g l0 ts r l1, C.cp g l0 ts r l1 → CallP P C.gi g l0 ts r l1
 cb : ∀ g ts l1, C.cb g ts l1 → CallB P C.gi g ts l1
 ct : ∀ g sz rows ts r out, C.ct g sz rows ts r out → CallT P C.gi g sz rows ts r out
structure TFact (P : Program) (t : Nat) (i : TInfo) : Prop where
 ex : ∃ d u z, P.info? t = some d ∧ P.underlying t = some u ∧ d.zero = some z ∧ d.size = i.size ∧ d.bytes = i.bytes ∧ i.agg = isAggD u ∧ i.kind = kindCode u ∧ i.elem = elemD u ∧
  i.fields = fieldsD u ∧ i.zero = z.cells.toList.map constSV
theorem TFact.of {P : Program} {t : Nat} {i : TInfo} (h : tiOf P t = some i) : TFact P t i := by
 unfold tiOf at h
 cases h1 : P.info? t with
 | none => simp [h1] at h
 | some d =>
  cases h2 : P.underlying t with
  | none => simp [h1, h2] at h
  | some u =>
   cases h3 : d.zero with
   | none => simp [h1, h2, h3] at h
   | some z =>
    simp only [h1, h2, h3, Option.some.injEq] at h
    subst h
    exact ⟨d, u, z, h1, h2, h3, rfl, rfl, rfl, rfl, rfl, rfl, rfl⟩
theorem CtxOK.fact {P : Program} {C : Ctx} (H : CtxOK P C) {t : Nat} (h : 1 ≤ (C.i t).kind) : TFact P t (C.i t) := .of (H.ti t (by omega))
theorem kind_string {u : TypeDesc} (h : kindCode u = 1) : u = .string := by cases u <;> simp_all [kindCode]; rename_i k; cases k <;> simp_all [kindCode]
theorem kind_slice {u : TypeDesc} (h : kindCode u = 2) : ∃ e, u = .slice e := by cases u <;> simp_all [kindCode]; rename_i k; cases k <;> simp_all [kindCode]
theorem kind_struct {u : TypeDesc} (h : kindCode u = 3) : ∃ fs, u = .struct fs := by cases u <;> simp_all [kindCode]; rename_i k; cases k <;> simp_all [kindCode]
theorem kind_bool {u : TypeDesc} (h : kindCode u = 5) : u = .bool := by cases u <;> simp_all [kindCode]; rename_i k; cases k <;> simp_all [kindCode]
theorem kind_iface {u : TypeDesc} (h : kindCode u = 6) : ∃ ms, u = .interface ms := by cases u <;> simp_all [kindCode]; rename_i k; cases k <;> simp_all [kindCode]
theorem kind_int {u : TypeDesc} {k : IntKind} (h : effK.kindOf (kindCode u) = some k) : u = .int k := by
 cases u <;> try (simp [kindCode, effK.kindOf] at h; done)
 rename_i j
 cases j <;> simp [kindCode, effK.kindOf] at h <;> subst h <;> rfl
theorem kind_u8 {u : TypeDesc} (h : kindCode u = 15) : u = .int .u8 := kind_int (by rw [h]; rfl)
theorem TFact.string {P : Program} {t : Nat} {i : TInfo} (f : TFact P t i) (h : i.kind = 1) : P.underlying t = some .string := by
 obtain ⟨d, u, z, _, hu, _, _, _, _, hk, _⟩ := f.ex
 rw [hk] at h; rw [hu, kind_string h]
theorem TFact.slice {P : Program} {t : Nat} {i : TInfo} (f : TFact P t i) (h : i.kind = 2) : P.underlying t = some (.slice i.elem) := by
 obtain ⟨d, u, z, _, hu, _, _, _, _, hk, he, _⟩ := f.ex
 rw [hk] at h
 obtain ⟨e, rfl⟩ := kind_slice h
 rw [hu, he]; rfl
theorem TFact.bool {P : Program} {t : Nat} {i : TInfo} (f : TFact P t i) (h : i.kind = 5) : P.underlying t = some .bool := by
 obtain ⟨d, u, z, _, hu, _, _, _, _, hk, _⟩ := f.ex
 rw [hk] at h; rw [hu, kind_bool h]
theorem TFact.info {P : Program} {t : Nat} {i : TInfo} (f : TFact P t i) : ∃ d, P.info? t = some d ∧ d.size = i.size ∧ d.bytes = i.bytes := by
 obtain ⟨d, u, z, h1, _, _, h4, h5, _⟩ := f.ex
 exact ⟨d, h1, h4, h5⟩
theorem TFact.sizeOf {P : Program} {t : Nat} {i : TInfo} (f : TFact P t i) (w : World) : (Go.sizeOf t).run P w = .ok i.size w := by
 obtain ⟨d, h, hs, _⟩ := f.info
 simp [Go.sizeOf, typeInfo, h, hs]
theorem TFact.isAgg {P : Program} {t : Nat} {i : TInfo} (f : TFact P t i) (w : World) : (Go.isAgg t).run P w = .ok i.agg w := by
 obtain ⟨d, u, z, _, hu, _, _, _, ha, _⟩ := f.ex
 simp only [Go.isAgg, Sem.run_bind, run_underlying hu, Result.andThen_ok, ha]
 cases u <;> rfl
section
variable {P : Program} {C : Ctx} {N : FrP} {W : Nat → Prop} {base : Nat} {w0 : World} {s : Nat → SV} {m : Nat → Option MO} {bv : Nat → Nat} {hd : Nat → Value} {fp : Nat → Nat → Prop} {Fr : Nat → Prop} {a : Act} {w : World}
theorem constSV_rel (v : Value) : VRel w Fr m bv hd (constSV v) v := by
 unfold constSV
 split
 ·exact .t _ _ (.int _ _)
 ·exact .t _ _ (.bool _)
 ·exact .t _ _ (.str _)
 ·exact .nil _
 ·exact .t _ _ .errN
 ·exact .clo _ [] [] rfl (fun i v s h => by simp at h)
 ·exact .gone _
theorem opnd_rel (R : RelE N W base w0 s m bv hd fp Fr a w) (x : Operand) : VRel w Fr m bv hd (opnd s x) (a.eval x) := by
 cases x with
 | tmp t => exact R.slots t
 | const v => exact constSV_rel v
 | global g => exact .gone _
 | func f => exact .clo _ [] [] rfl (fun i v s h => by simp at h)
theorem VRel.reads {x : T} {v : Value} (h : VRel w Fr m bv hd (.t x) v) : Reads w Fr v x := by cases h; assumption
theorem opnd_t (R : RelE N W base w0 s m bv hd fp Fr a w) {x : Operand} {y : T} (h : opnd s x = .t y) : Reads w Fr (a.eval x) y := (h ▸ opnd_rel R x).reads
theorem Reads.int_eq {k : IntKind} {n : Int} {v : Value} (h : Reads w Fr v (.int k n)) : v = .int k n := by cases h; rfl
theorem Reads.bool_eq {b : Bool} {v : Value} (h : Reads w Fr v (.bool b)) : v = .bool b := by cases h; rfl
theorem Reads.str_eq {l : List UInt8} {v : Value} (h : Reads w Fr v (.str l)) : v = .string ⟨⟨l⟩⟩ := by cases h; rfl
theorem str_mk (l : List UInt8) : Reads w Fr (.string ⟨⟨l⟩⟩) (.str l) := .str ⟨⟨l⟩⟩
theorem opnd_int (R : RelE N W base w0 s m bv hd fp Fr a w) {x : Operand} {k : IntKind} {n : Int} (h : opnd s x = .t (.int k n)) : a.eval x = .int k n := (opnd_t R h).int_eq
theorem opnd_bool (R : RelE N W base w0 s m bv hd fp Fr a w) {x : Operand} {b : Bool} (h : opnd s x = .t (.bool b)) : a.eval x = .bool b := (opnd_t R h).bool_eq
theorem opnd_str (R : RelE N W base w0 s m bv hd fp Fr a w) {x : Operand} {l : List UInt8} (h : opnd s x = .t (.str l)) : a.eval x = .string ⟨⟨l⟩⟩ := (opnd_t R h).str_eq
theorem cell_heap {b : Nat} {cs : List Value} {el : Nat} {fz : Nat × Nat} (h : w.heap[b]? = some (.cells ⟨cs⟩ el fz)) (o : Nat) : w.cell? ⟨b, o, none⟩ = cs[o]? := by
 simp [World.cell?, h]
theorem range_get {α : Type} {n : Nat} {g : Nat → α} {j : Nat} {v : α} (h : ((List.range n).map g)[j]? = some v) : j < n ∧ v = g j := by
 obtain ⟨h1, h2⟩ := List.getElem?_eq_some_iff.1 h
 simp at h1 h2
 exact ⟨h1, h2.symm⟩
abbrev Goes (P : Program) (N : FrP) (W : Nat → Prop) (base : Nat) (w0 : World) (s : Nat → SV) (m : Nat → Option MO) (o : Oper) (e : Eff) (a : Act) (w : World) : Prop :=
 ∀ (K : Act → World → Prop) (Q : Exit → Act → World → Prop), (∀ a' w', Rel N W base w0 (updS s o.dst e.val) (updM m e.mw) a' w' → K a' w') → o.wp P a w K Q
theorem goes_pure (R : RelE N W base w0 s m bv hd fp Fr a w) {o : Oper} (hdst : ∀ d, o.dst = some d → N.ok d) {val : SV} {v : Value} {fpl : List Nat}
    (hr : (execOp a.eval o).run P w = .ok (.value v) w) (hv : VRel w Fr m bv hd val v) : Goes P N W base w0 s m o ⟨val, [], fpl, []⟩ a w := by
 intro K Q hK
 unfold Oper.wp
 rw [hr]
 exact hK _ _ ⟨bv, hd, fp, Fr, pure_rel R o.dst hdst hv⟩
theorem bytesSize (l : List UInt8) : (⟨⟨l⟩⟩ : ByteArray).size = l.length := rfl
theorem bytesToList (l : List UInt8) : (⟨⟨l⟩⟩ : ByteArray).toList = l := by rw [ByteArray.toList_eq]
theorem goes_move (R : RelE N W base w0 s m bv hd fp Fr a w) {o : Oper} (hdst : ∀ d, o.dst = some d → N.ok d) {x : Operand} (h : o.op = .move x ∨ o.op = .assign x) : Goes P N W base w0 s m o (pureE (opnd s x)) a w := by
 refine goes_pure R hdst (v := a.eval x) ?_ (opnd_rel R x)
 rcases h with h | h <;> simp [execOp, h]
theorem goes_pick (R : RelE N W base w0 s m bv hd fp Fr a w) {o : Oper} (hdst : ∀ d, o.dst = some d → N.ok d) {c x y : Operand} {p : Bool} (h : o.op = .pick c x y) (hc : opnd s c = .t (.bool p)) :
    Goes P N W base w0 s m o (pureE (opnd s (if p then x else y))) a w := by
 refine goes_pure R hdst (v := a.eval (if p then x else y)) ?_ (opnd_rel R _)
 have := opnd_bool R hc
 cases p <;> simp [execOp, h, this, asBool]
theorem goes_int (R : RelE N W base w0 s m bv hd fp Fr a w) {o : Oper} (hdst : ∀ d, o.dst = some d → N.ok d) {op : BinOp} {t u : Nat} {x y : Operand} {k : IntKind} {p q : Int} {r : T} (h : o.op = .binOp op t x y u)
    (hx : opnd s x = .t (.int k p)) (hy : opnd s y = .t (.int k q)) (hr : intBin op k p q = some r) : Goes P N W base w0 s m o (pureE (.t r)) a w := by
 have ex := opnd_int R hx
 have ey := opnd_int R hy
 cases op <;> simp only [intBin, Option.some.injEq, reduceCtorEq] at hr <;> subst hr
 case add => exact goes_pure R hdst (by simp [execOp, h, ex, ey, eqGuard, binOp, Op.intArith]) (.t _ _ (.int _ _))
 case sub => exact goes_pure R hdst (by simp [execOp, h, ex, ey, eqGuard, binOp, Op.intArith]) (.t _ _ (.int _ _))
 case mul => exact goes_pure R hdst (by simp [execOp, h, ex, ey, eqGuard, binOp, Op.intArith]) (.t _ _ (.int _ _))
 case and => exact goes_pure R hdst (by simp [execOp, h, ex, ey, eqGuard, binOp, Op.intBits, andI]) (.t _ _ (.int _ _))
 case or => exact goes_pure R hdst (by simp [execOp, h, ex, ey, eqGuard, binOp, Op.intBits, orI]) (.t _ _ (.int _ _))
 case xor => exact goes_pure R hdst (by simp [execOp, h, ex, ey, eqGuard, binOp, Op.intBits, xorI]) (.t _ _ (.int _ _))
 case eql => exact goes_pure R hdst (by simp [execOp, h, ex, ey, eqGuard, binOp, Op.intCmp]) (.t _ _ (.bool _))
 case neq => exact goes_pure R hdst (by simp [execOp, h, ex, ey, eqGuard, binOp, Op.intCmp]) (.t _ _ (.bool _))
 case lss => exact goes_pure R hdst (by simp [execOp, h, ex, ey, eqGuard, binOp, Op.intCmp]) (.t _ _ (.bool _))
 case leq => exact goes_pure R hdst (by simp [execOp, h, ex, ey, eqGuard, binOp, Op.intCmp]) (.t _ _ (.bool _))
 case gtr => exact goes_pure R hdst (by simp [execOp, h, ex, ey, eqGuard, binOp, Op.intCmp]) (.t _ _ (.bool _))
 case geq => exact goes_pure R hdst (by simp [execOp, h, ex, ey, eqGuard, binOp, Op.intCmp]) (.t _ _ (.bool _))
theorem goes_shl (R : RelE N W base w0 s m bv hd fp Fr a w) {o : Oper} (hdst : ∀ d, o.dst = some d → N.ok d) {t u : Nat} {x y : Operand} {k k' : IntKind} {p q r : Int} (h : o.op = .binOp .shl t x y u)
    (hx : opnd s x = .t (.int k p)) (hy : opnd s y = .t (.int k' q)) (hr : shlI k p q = some r) : Goes P N W base w0 s m o (pureE (.t (.int k r))) a w := by
 have ex := opnd_int R hx
 have ey := opnd_int R hy
 cases q with
 | negSucc q => cases hr
 | ofNat q =>
  simp only [shlI, Option.some.injEq] at hr
  subst hr
  have h0 : ¬ (Int.ofNat q < 0) := by simp
  exact goes_pure R hdst (by simp [execOp, h, ex, ey, eqGuard, binOp, Op.shift, h0]; intro hq; omega) (.t _ _ (.int _ _))
theorem goes_shr (R : RelE N W base w0 s m bv hd fp Fr a w) {o : Oper} (hdst : ∀ d, o.dst = some d → N.ok d) {t u : Nat} {x y : Operand} {k k' : IntKind} {p q r : Int} (h : o.op = .binOp .shr t x y u)
    (hx : opnd s x = .t (.int k p)) (hy : opnd s y = .t (.int k' q)) (hr : shrI k p q = some r) : Goes P N W base w0 s m o (pureE (.t (.int k r))) a w := by
 have ex := opnd_int R hx
 have ey := opnd_int R hy
 cases q with
 | negSucc q => cases hr
 | ofNat q =>
  simp only [shrI, Option.some.injEq] at hr
  subst hr
  have h0 : ¬ (Int.ofNat q < 0) := by simp
  exact goes_pure R hdst (by simp [execOp, h, ex, ey, eqGuard, binOp, Op.shift, h0]; intro hq; omega) (.t _ _ (.int _ _))
theorem goes_quo (R : RelE N W base w0 s m bv hd fp Fr a w) {o : Oper} (hdst : ∀ d, o.dst = some d → N.ok d) {t u : Nat} {x y : Operand} {k : IntKind} {p q : Int} (h : o.op = .binOp .quo t x y u)
    (hx : opnd s x = .t (.int k p)) (hy : opnd s y = .t (.int k q)) (hq : q ≠ 0) : Goes P N W base w0 s m o (pureE (.t (.int k (k.wrap (p.tdiv q))))) a w := by
 have ex := opnd_int R hx
 have ey := opnd_int R hy
 exact goes_pure R hdst (by simp [execOp, h, ex, ey, eqGuard, binOp, Op.intDiv, hq]) (.t _ _ (.int _ _))
theorem goes_rem (R : RelE N W base w0 s m bv hd fp Fr a w) {o : Oper} (hdst : ∀ d, o.dst = some d → N.ok d) {t u : Nat} {x y : Operand} {k : IntKind} {p q : Int} (h : o.op = .binOp .rem t x y u)
    (hx : opnd s x = .t (.int k p)) (hy : opnd s y = .t (.int k q)) (hq : q ≠ 0) : Goes P N W base w0 s m o (pureE (.t (.int k (p.tmod q)))) a w := by
 have ex := opnd_int R hx
 have ey := opnd_int R hy
 exact goes_pure R hdst (by simp [execOp, h, ex, ey, eqGuard, binOp, Op.intDiv, hq]) (.t _ _ (.int _ _))
theorem goes_strAdd (R : RelE N W base w0 s m bv hd fp Fr a w) {o : Oper} (hdst : ∀ d, o.dst = some d → N.ok d) {t u : Nat} {x y : Operand} {p q r : List UInt8} (h : o.op = .binOp .add t x y u)
    (hx : opnd s x = .t (.str p)) (hy : opnd s y = .t (.str q)) (hr : cat p q = some r) : Goes P N W base w0 s m o (pureE (.t (.str r))) a w := by
 have ex := opnd_str R hx
 have ey := opnd_str R hy
 unfold cat at hr
 split at hr
 ·rename_i hle
  simp only [Option.some.injEq] at hr
  subst hr
  refine goes_pure R hdst (v := .string (⟨⟨p⟩⟩ ++ ⟨⟨q⟩⟩)) ?_ (.t _ _ ?_)
  ·have h1 : ¬ (9223372036854775807 < (p.length : Int) + (q.length : Int)) := by omega
   simp [execOp, h, ex, ey, eqGuard, binOp, Op.stringOp, bytesSize, IntKind.max, IntKind.bits, IntKind.signed, h1]
  ·have : (⟨⟨p⟩⟩ ++ ⟨⟨q⟩⟩ : ByteArray).data.toList = p ++ q := by simp
   rw [← this]; exact .str _
 ·cases hr
theorem goes_strBin (R : RelE N W base w0 s m bv hd fp Fr a w) {o : Oper} (hdst : ∀ d, o.dst = some d → N.ok d) {op : BinOp} {t u : Nat} {x y : Operand} {p q : List UInt8} {r : T} (h : o.op = .binOp op t x y u)
    (hx : opnd s x = .t (.str p)) (hy : opnd s y = .t (.str q)) (hr : strBin op p q = some r) : Goes P N W base w0 s m o (pureE (.t r)) a w := by
 have ex := opnd_str R hx
 have ey := opnd_str R hy
 cases op <;> simp only [strBin, Option.some.injEq, reduceCtorEq] at hr <;> subst hr
 all_goals exact goes_pure R hdst (by first | (simp [execOp, h, ex, ey, eqGuard, binOp, Op.stringOp, bytesToList]; done) | (simp [execOp, h, ex, ey, eqGuard, binOp, Op.stringOp, bytesToList]; rfl)) (.t _ _ (.bool _))
theorem goes_boolEq (H : CtxOK P C) (R : RelE N W base w0 s m bv hd fp Fr a w) {o : Oper} (hdst : ∀ d, o.dst = some d → N.ok d) {op : BinOp} {t u : Nat} {x y : Operand} {p q r : Bool} (h : o.op = .binOp op t x y u)
    (hx : opnd s x = .t (.bool p)) (hy : opnd s y = .t (.bool q)) (hk : (C.i t).kind = 5) (hq : EqK op (p == q) r) : Goes P N W base w0 s m o (pureE (.t (.bool r))) a w := by
 have ex := opnd_bool R hx
 have ey := opnd_bool R hy
 have hu := (H.fact (t := t) (by omega)).bool hk
 rcases hq with ⟨rfl, rfl⟩ | ⟨rfl, rfl⟩
 ·exact goes_pure R hdst (by simp [execOp, h, ex, ey, eqGuard, run_eql_bool w t p q hu]) (.t _ _ (.bool _))
 ·exact goes_pure R hdst (by simp only [execOp, h, ex, ey, eqGuard_at_bool, Sem.run_bind, Sem.run_pure, Result.andThen_ok, run_neq_bool w t p q hu]) (.t _ _ (.bool _))
theorem goes_not (R : RelE N W base w0 s m bv hd fp Fr a w) {o : Oper} (hdst : ∀ d, o.dst = some d → N.ok d) {t : Nat} {x : Operand} {b : Bool} (h : o.op = .unOp .not t x) (hx : opnd s x = .t (.bool b)) :
    Goes P N W base w0 s m o (pureE (.t (.bool (!b)))) a w :=
 goes_pure R hdst (by simp [execOp, h, opnd_bool R hx, Op.unary]) (.t _ _ (.bool _))
theorem goes_neg (R : RelE N W base w0 s m bv hd fp Fr a w) {o : Oper} (hdst : ∀ d, o.dst = some d → N.ok d) {t : Nat} {x : Operand} {k : IntKind} {n : Int} (h : o.op = .unOp .neg t x) (hx : opnd s x = .t (.int k n)) :
    Goes P N W base w0 s m o (pureE (.t (.int k (k.wrap (0 - n))))) a w :=
 goes_pure R hdst (by simp [execOp, h, opnd_int R hx, Op.unary, Op.intArith]) (.t _ _ (.int _ _))
theorem goes_index (H : CtxOK P C) (R : RelE N W base w0 s m bv hd fp Fr a w) {o : Oper} (hdst : ∀ d, o.dst = some d → N.ok d) {t : Nat} {x j : Operand} {k : IntKind} {n : Int} {l : List UInt8} {c : UInt8} (h : o.op = .index t x j)
    (hk : (C.i t).kind = 1) (hx : opnd s x = .t (.str l)) (hj : opnd s j = .t (.int k n)) (hi : idx l n = some c) : Goes P N W base w0 s m o (pureE (.t (.int .u8 (c.toNat : Int)))) a w := by
 have ex := opnd_str R hx
 have ey := opnd_int R hj
 have hu := (H.fact (t := t) (by omega)).string hk
 cases n with
 | ofNat n =>
  have hi : l[n]? = some c := hi
  have h1 : (⟨⟨l⟩⟩ : ByteArray)[n]? = some c := by
   obtain ⟨hn, e⟩ := List.getElem?_eq_some_iff.1 hi
   have : n < (⟨⟨l⟩⟩ : ByteArray).size := hn
   rw [getElem?_pos (⟨⟨l⟩⟩ : ByteArray) n this]
   exact congrArg some e
  refine goes_pure R hdst (v := .int .u8 (c.toNat : Int)) ?_ (.t _ _ (.int _ _))
  simp [execOp, h, ex, ey, Instr.index, asIntOf, run_underlying hu, h1]
 | negSucc n => cases hi
theorem goes_convInt (H : CtxOK P C) (R : RelE N W base w0 s m bv hd fp Fr a w) {o : Oper} (hdst : ∀ d, o.dst = some d → N.ok d) {src dst : Nat} {x : Operand} {k k' : IntKind} {n : Int} (h : o.op = .convert src dst x)
    (hx : opnd s x = .t (.int k' n)) (hk : effK.kindOf (C.i dst).kind = some k) (hs : (C.i src).kind ≠ 0) : Goes P N W base w0 s m o (pureE (.t (.int k (k.wrap n)))) a w := by
 have hn : (C.i dst).kind ≠ 0 := by intro e; rw [e] at hk; simp [effK.kindOf] at hk
 obtain ⟨d, u, z, _, hu, _, _, _, _, hkk, _⟩ := (H.fact (t := dst) (by omega)).ex
 rw [hkk] at hk
 rw [kind_int hk] at hu
 obtain ⟨d', u', z', _, hu', _⟩ := (H.fact (t := src) (by omega)).ex
 exact goes_pure R hdst (by simp [execOp, h, opnd_int R hx, convert, run_underlying hu, run_underlying hu', Conv.intToInt]) (.t _ _ (.int _ _))
theorem goes_convStr (H : CtxOK P C) (R : RelE N W base w0 s m bv hd fp Fr a w) {o : Oper} (hdst : ∀ d, o.dst = some d → N.ok d) {src dst : Nat} {x : Operand} {l : List UInt8} (h : o.op = .convert src dst x)
    (hx : opnd s x = .t (.str l)) (hk : (C.i dst).kind = 1) (hs : (C.i src).kind ≠ 0) : Goes P N W base w0 s m o (pureE (.t (.str l))) a w := by
 have hu := (H.fact (t := dst) (by omega)).string hk
 obtain ⟨d', u', z', _, hu', _⟩ := (H.fact (t := src) (by omega)).ex
 exact goes_pure R hdst (by simp [execOp, h, opnd_str R hx, convert, run_underlying hu, run_underlying hu']) (.t _ _ (str_mk _))
theorem goes_errEq (H : CtxOK P C) (R : RelE N W base w0 s m bv hd fp Fr a w) {o : Oper} (hdst : ∀ d, o.dst = some d → N.ok d) {op : BinOp} {t u : Nat} {x : Operand} {c : Value} {p q : Bool} (h : o.op = .binOp op t x (.const c) u)
    (hx : opnd s x = .t (.err p)) (hy : opnd s (.const c) = .t (.err false)) (hk : (C.i t).kind = 6) (hq : EqK op (!p) q) : Goes P N W base w0 s m o (pureE (.t (.bool q))) a w := by
 have hr := opnd_t R hx
 have hyr : Reads w Fr c (.err false) := opnd_t R hy
 obtain ⟨d', u', z', _, hu', _, _, _, _, hkk, _⟩ := (H.fact (t := t) (by omega)).ex
 rw [hkk] at hk
 obtain ⟨ms, rfl⟩ := kind_iface hk
 cases hyr
 have eqN : ∀ d, (Op.equalIn (d + 1) t .nilIface .nilIface).run P w = .ok true w := fun d => by simp [Op.equalIn, run_underlying hu']
 have eqS : ∀ d a b, (Op.equalIn (d + 1) t (.iface a b) .nilIface).run P w = .ok false w := fun d a b => by simp [Op.equalIn, run_underlying hu']
 have key : ∀ v, Reads w Fr v (.err p) → (Op.equal t v .nilIface).run P w = .ok (!p) w ∧ (eqGuard op t x (.const .nilIface) v .nilIface) = pure () := by
  intro v hv
  cases hv with
  | errN => exact ⟨eqN 9999, by cases op <;> cases x <;> rfl⟩
  | errS d u => exact ⟨eqS 9999 d u, by cases op <;> rfl⟩
 obtain ⟨k1, k2⟩ := key _ hr
 have hb : ∀ v, Reads w Fr v (.err p) → ∀ op', (op' = .eql ∨ op' = .neq) → binOp op' t v .nilIface = (if op' = .eql then (do pure (.bool (← Op.equal t v .nilIface))) else (do pure (.bool (!(← Op.equal t v .nilIface)))) : Sem Value) := by
  intro v hv op' ho
  rcases ho with rfl | rfl <;> cases hv <;> rfl
 have hb' := hb _ hr op (by rcases hq with ⟨rfl, _⟩ | ⟨rfl, _⟩ <;> simp)
 have he : a.eval (.const .nilIface) = .nilIface := rfl
 refine goes_pure R hdst (v := .bool q) ?_ (.t _ _ (.bool _))
 rcases hq with ⟨rfl, rfl⟩ | ⟨rfl, rfl⟩
 ·simp only [execOp, h, he, k2, hb']
  simp [k1]
 ·simp only [execOp, h, he, k2, hb']
  simp [k1]
theorem valOf_rel {us : List Value} {svs : List SV} (hl : us.length = svs.length) (h1 : 1 ≤ svs.length) (hr : ∀ (i : Nat) v sv, us[i]? = some v → svs[i]? = some sv → VRel w Fr m bv hd sv v) (b : Bool) :
    VRel w Fr m bv hd (valOf b svs) (if b then .agg ⟨us⟩ else us.headD undef) := by
 cases b with
 | true => exact .agg _ _ hl hr
 | false =>
  cases us with
  | nil => simp at hl; omega
  | cons v us =>
   cases svs with
   | nil => simp at h1
   | cons sv svs => exact hr 0 v sv rfl rfl
theorem run_part {t : Nat} {i : TInfo} (f : TFact P t i) {cs : List Value} {off : Nat} (h1 : 1 ≤ i.size) (h2 : off + i.size ≤ cs.length) :
    (part t ⟨cs⟩ off).run P w = .ok (if i.agg then .agg ⟨(cs.drop off).take i.size⟩ else ((cs.drop off).take i.size).headD undef) w := by
 unfold part
 simp only [Sem.run_bind, f.isAgg, Result.andThen_ok]
 cases i.agg with
 | true =>
  simp only [if_true, Sem.run_bind, f.sizeOf, Result.andThen_ok, Sem.run_pure]
  congr 2
  apply Array.ext'
  simp [List.extract_eq_take_drop]
 | false =>
  have hx : (⟨cs⟩ : Array Value)[off]? = some (((cs.drop off).take i.size).headD undef) := by
   have : off < cs.length := by omega
   rw [List.headD_eq_head?_getD, List.head?_take, if_neg (by omega), List.head?_drop]
   simp [this]
  simp [hx]
theorem sub_rel {l : List SV} {cs : List Value} (hl : cs.length = l.length) (hr : ∀ (i : Nat) v sv, cs[i]? = some v → l[i]? = some sv → VRel w Fr m bv hd sv v) (off n : Nat) :
    ∀ (i : Nat) v sv, ((cs.drop off).take n)[i]? = some v → ((l.drop off).take n)[i]? = some sv → VRel w Fr m bv hd sv v := by
 intro i v sv h1 h2
 simp only [List.getElem?_take, List.getElem?_drop] at h1 h2
 split at h1
 ·rename_i hi
  rw [if_pos hi] at h2
  exact hr _ _ _ h1 h2
 ·cases h1
theorem goes_field (H : CtxOK P C) (R : RelE N W base w0 s m bv hd fp Fr a w) {o : Oper} (hdst : ∀ d, o.dst = some d → N.ok d) {t k : Nat} {x : Operand} {f : Nat × Nat} {l : List SV} (h : o.op = .field t x k)
    (hf : (C.i t).fields[k]? = some f) (hk : (C.i t).kind = 3) (hfk : 1 ≤ (C.i f.2).kind) (hfz : 1 ≤ (C.i f.2).size) (hx : opnd s x = .agg l) (hl : f.1 + (C.i f.2).size ≤ l.length) :
    Goes P N W base w0 s m o (pureE (valOf (C.i f.2).agg ((l.drop f.1).take (C.i f.2).size))) a w := by
 have hv := opnd_rel R x
 rw [hx] at hv
 obtain ⟨d, u, z, _, hu, _, _, _, _, hkk, _, hff, _⟩ := (H.fact (t := t) (by omega)).ex
 rw [hkk] at hk
 obtain ⟨fs, rfl⟩ := kind_struct hk
 rw [hff] at hf
 simp only [fieldsD, List.getElem?_map, Option.map_eq_some_iff] at hf
 obtain ⟨fd, hfd, rfl⟩ := hf
 generalize hev : a.eval x = v at hv
 cases hv with
 | agg _ cs hlen hr =>
  have hfd' : fs[k]? = some fd := by simpa using hfd
  have hl' : fd.offset + (C.i fd.type).size ≤ l.length := hl
  have hfz' : 1 ≤ (C.i fd.type).size := hfz
  refine goes_pure R hdst (v := if (C.i fd.type).agg then .agg ⟨(cs.drop fd.offset).take (C.i fd.type).size⟩ else ((cs.drop fd.offset).take (C.i fd.type).size).headD undef) ?_
   (valOf_rel (by simp [hlen]) (by simp only [List.length_take, List.length_drop]; omega) (sub_rel hlen hr _ _) _)
  simp only [execOp, h, hev, Instr.field, Sem.run_bind, run_underlying hu, Result.andThen_ok, hfd', asAgg, Sem.run_pure, run_part (H.fact hfk) hfz (by rw [hlen]; exact hl)]
theorem goes_extract (R : RelE N W base w0 s m bv hd fp Fr a w) {o : Oper} (hdst : ∀ d, o.dst = some d → N.ok d) {x : Operand} {k : Nat} {l : List SV} {sv : SV} (h : o.op = .extract x k) (hx : opnd s x = .tup l)
    (hv : l[k]? = some sv) : Goes P N W base w0 s m o (pureE sv) a w := by
 have hr := opnd_rel R x
 rw [hx] at hr
 generalize hev : a.eval x = v at hr
 cases hr with
 | tup _ cs hlen hr =>
  have hk : k < cs.length := by rw [hlen]; exact (List.getElem?_eq_some_iff.1 hv).1
  refine goes_pure R hdst (v := cs[k]) ?_ (hr k _ _ (List.getElem?_eq_getElem hk) hv)
  simp [execOp, h, hev, Instr.extract, hk]
theorem goes_makeFunc (R : RelE N W base w0 s m bv hd fp Fr a w) {o : Oper} (hdst : ∀ d, o.dst = some d → N.ok d) {f : FuncId} {cap : Array Operand} (h : o.op = .makeFunc (.func f) #[] cap) :
    Goes P N W base w0 s m o (pureE (.clo f (cap.toList.map (opnd s)))) a w := by
 refine goes_pure R hdst (v := .func (.func f) #[] ⟨cap.toList.map a.eval⟩) ?_ (.clo _ _ _ (by simp) fun i v sv h1 h2 => ?_)
 ·have e : cap.map a.eval = ⟨cap.toList.map a.eval⟩ := by apply Array.ext'; simp
  simp [execOp, h, Instr.makeFunc, e]
 ·simp only [List.getElem?_map, Option.map_eq_some_iff] at h1 h2
  obtain ⟨x, hx, rfl⟩ := h1
  obtain ⟨y, hy, rfl⟩ := h2
  rw [hx] at hy
  cases hy
  exact opnd_rel R x
theorem goes_nilCheckP (R : RelE N W base w0 s m bv hd fp Fr a w) {o : Oper} (hdst : ∀ d, o.dst = some d → N.ok d) {x : Operand} {id off : Nat} (hlive : ∃ l, m id = some (.var l)) (h : o.op = .nilCheck x) (hx : opnd s x = .ptr id off) :
    Goes P N W base w0 s m o ⟨.ptr id off, [], [id], []⟩ a w := by
 have hr := opnd_rel R x
 rw [hx] at hr
 obtain ⟨l, hl⟩ := hlive
 generalize hev : a.eval x = v at hr
 cases hr with
 | ptr _ _ _ _ hp =>
  have := hp l hl
  subst this
  exact goes_pure R hdst (v := .pointer (some ⟨bv id, off, none⟩)) (by simp [execOp, h, hev]) (.ptr _ _ _ ⟨_, rfl⟩ hp)
theorem goes_nilCheckR (R : RelE N W base w0 s m bv hd fp Fr a w) {o : Oper} (hdst : ∀ d, o.dst = some d → N.ok d) {x : Operand} {l : List T} (h : o.op = .nilCheck x) (hx : opnd s x = .rptr l) :
    Goes P N W base w0 s m o (pureE (.rptr l)) a w := by
 have hr := opnd_rel R x
 rw [hx] at hr
 generalize hev : a.eval x = v at hr
 cases hr with
 | rptr b off _ f hb hw hrd => exact goes_pure R hdst (v := .pointer (some ⟨b, off, none⟩)) (by simp [execOp, h, hev]) (.rptr b off l f hb hw hrd)
theorem ssub_some {α : Type} {l r : List α} {lo hi : Int} (h : ssub l lo hi = some r) : 0 ≤ lo ∧ lo ≤ hi ∧ hi ≤ (l.length : Int) ∧ r = (l.take hi.toNat).drop lo.toNat := by
 unfold ssub at h
 split at h
 ·rename_i hh
  simp only [Option.some.injEq] at h
  exact ⟨hh.1, hh.2.1, hh.2.2, h.symm⟩
 ·cases h
theorem bound_lo (R : RelE N W base w0 s m bv hd fp Fr a w) {lo : Option Operand} {k : IntKind} {l : Int} (h : (match lo with | some l => opnd s l | none => SV.t (.int .i64 0)) = .t (.int k l)) :
    (∃ x, lo = some x ∧ a.eval x = .int k l) ∨ (lo = none ∧ l = 0) := by
 cases lo with
 | none => simp only [SV.t.injEq, T.int.injEq] at h; exact .inr ⟨rfl, h.2.symm⟩
 | some x => exact .inl ⟨x, rfl, opnd_int R h⟩
theorem bound_hi (R : RelE N W base w0 s m bv hd fp Fr a w) {hi : Option Operand} {n : Int} {k : IntKind} {l : Int} (h : (match hi with | some l => opnd s l | none => SV.t (.int .i64 n)) = .t (.int k l)) :
    (∃ x, hi = some x ∧ a.eval x = .int k l) ∨ (hi = none ∧ l = n) := by
 cases hi with
 | none => simp only [SV.t.injEq, T.int.injEq] at h; exact .inr ⟨rfl, h.2.symm⟩
 | some x => exact .inl ⟨x, rfl, opnd_int R h⟩
theorem run_bounds {isS : Bool} {len cap : Nat} (hc : len ≤ cap) (lo hi : Option Value) {l h : Int} (h0 : 0 ≤ l) (h1 : l ≤ h) (h2 : h ≤ (len : Int)) (hlo : (∃ k, lo = some (.int k l)) ∨ (lo = none ∧ l = 0)) (hhi : (∃ k, hi = some (.int k h)) ∨ (hi = none ∧ h = (len : Int))) :
    (Instr.sliceBounds isS len cap lo hi none).run P w = .ok (l.toNat, h.toNat, cap) w := by
 have hcap : h ≤ (cap : Int) := by omega
 have h3 : 0 ≤ h := by omega
 have h4 : l ≤ (h.toNat : Int) := by omega
 rcases hlo with ⟨k, rfl⟩ | ⟨rfl, rfl⟩ <;> rcases hhi with ⟨k', rfl⟩ | ⟨rfl, rfl⟩
 ·simp [Instr.sliceBounds, run_sliceBound (P := P) w k' h cap _ h3 hcap, run_sliceBound (P := P) w k l h.toNat _ h0 h4]
 ·have h5 : l ≤ ((len : Nat) : Int) := h1
  simp [Instr.sliceBounds, run_sliceBound (P := P) w k l len _ h0 h5]
 ·simp [Instr.sliceBounds, run_sliceBound (P := P) w k' h cap _ h3 hcap]
 ·simp [Instr.sliceBounds]
theorem goes_cutStr (H : CtxOK P C) (R : RelE N W base w0 s m bv hd fp Fr a w) {o : Oper} (hdst : ∀ d, o.dst = some d → N.ok d) {t : Nat} {x : Operand} {lo hi : Option Operand} {p r : List UInt8} {l h' : Int} {k k' : IntKind}
    (h : o.op = .slice t x lo hi none) (hx : opnd s x = .t (.str p)) (hk : (C.i t).kind = 1) (hl : (match lo with | some l => opnd s l | none => SV.t (.int .i64 0)) = .t (.int k l))
    (hh : (match hi with | some h => opnd s h | none => SV.t (.int .i64 (p.length : Int))) = .t (.int k' h')) (hr : ssub p l h' = some r) : Goes P N W base w0 s m o (pureE (.t (.str r))) a w := by
 have hu := (H.fact (t := t) (by omega)).string hk
 obtain ⟨h0, h1, h2, rfl⟩ := ssub_some hr
 have hb := run_bounds (P := P) (w := w) (isS := false) (len := p.length) (cap := p.length) (Nat.le_refl _) (lo.map a.eval) (hi.map a.eval) h0 h1 h2
  (by rcases bound_lo R hl with ⟨x, rfl, e⟩ | ⟨rfl, rfl⟩ <;> simp [*]) (by rcases bound_hi R hh with ⟨x, rfl, e⟩ | ⟨rfl, rfl⟩ <;> simp [*])
 refine goes_pure R hdst (v := .string ((⟨⟨p⟩⟩ : ByteArray).extract l.toNat h'.toNat)) ?_ (.t _ _ ?_)
 ·simp [execOp, h, Instr.sliceAt, Instr.slice, run_underlying hu, opnd_str R hx, bytesSize, hb]
 ·have : (((⟨⟨p⟩⟩ : ByteArray).extract l.toNat h'.toNat).data.toList) = (p.take h'.toNat).drop l.toNat := by
   simp [List.extract_eq_take_drop, List.drop_take]
  rw [← this]; exact .str _
theorem goes_cutSl (H : CtxOK P C) (R : RelE N W base w0 s m bv hd fp Fr a w) {o : Oper} (hdst : ∀ d, o.dst = some d → N.ok d) {t : Nat} {x : Operand} {lo hi : Option Operand} {rows r : List (List T)} {l h' : Int} {k k' : IntKind}
    (h : o.op = .slice t x lo hi none) (hx : opnd s x = .t (.sl (C.i (C.i t).elem).size rows)) (hk : (C.i t).kind = 2) (he : 1 ≤ (C.i (C.i t).elem).kind) (hl : (match lo with | some l => opnd s l | none => SV.t (.int .i64 0)) = .t (.int k l))
    (hh : (match hi with | some h => opnd s h | none => SV.t (.int .i64 (rows.length : Int))) = .t (.int k' h')) (hr : ssub rows l h' = some r) :
    Goes P N W base w0 s m o (pureE (.t (.sl (C.i (C.i t).elem).size r))) a w := by
 have hu := (H.fact (t := t) (by omega)).slice hk
 have hsz := (H.fact he).sizeOf w
 obtain ⟨h0, h1, h2, rfl⟩ := ssub_some hr
 have hv := opnd_t R hx
 generalize hev : a.eval x = v at hv
 have hlo : (∃ k, lo.map a.eval = some (.int k l)) ∨ (lo.map a.eval = none ∧ l = 0) := by rcases bound_lo R hl with ⟨x, rfl, e⟩ | ⟨rfl, rfl⟩ <;> simp [*]
 have hhi : (∃ k, hi.map a.eval = some (.int k h')) ∨ (hi.map a.eval = none ∧ h' = (rows.length : Int)) := by rcases bound_hi R hh with ⟨x, rfl, e⟩ | ⟨rfl, rfl⟩ <;> simp [*]
 cases hv with
 | sl0 ad c sz =>
  have hb := run_bounds (P := P) (w := w) (isS := true) (len := 0) (cap := c) (by omega) _ _ h0 h1 h2 hlo hhi
  have e1 : h'.toNat = 0 := by simp at h2; omega
  have e2 : l.toNat = 0 := by simp at h2; omega
  refine goes_pure R hdst (v := .slice (if c = 0 then ad else ad.map (·.add 0)) 0 c) ?_ (.t _ _ ?_)
  ·simp [execOp, h, Instr.sliceAt, Instr.slice, run_underlying hu, hev, hb, hsz, e1, e2]
  ·simp only [e1, e2, List.take_zero, List.drop_zero]; exact .sl0 _ _ _
 | sl b off n c sz rs g hn hc hb' hrow hcell hrd =>
  have hle : h' ≤ (n : Int) := by rw [← hn]; exact h2
  have hb := run_bounds (P := P) (w := w) (isS := true) (len := n) (cap := c) hc _ _ h0 h1 hle hlo (by rw [← hn]; exact hhi)
  by_cases hcl : c = l.toNat
  · -- all is cut off
   have e1 : h'.toNat = l.toNat := by omega
   refine goes_pure R hdst (v := .slice (some ⟨b, off, none⟩) 0 0) ?_ (.t _ _ ?_)
   ·rw [hcl] at hev hb
    simp [execOp, h, Instr.sliceAt, Instr.slice, run_underlying hu, hev, hb, hsz, e1]
   ·have : (rows.take h'.toNat).drop l.toNat = [] := by rw [e1]; simp
    rw [this]; exact .sl0 _ _ _
  ·refine goes_pure R hdst (v := .slice (some ⟨b, off + l.toNat * (C.i (C.i t).elem).size, none⟩) (h'.toNat - l.toNat) (c - l.toNat)) ?_ (.t _ _ ?_)
   ·simp [execOp, h, Instr.sliceAt, Instr.slice, run_underlying hu, hev, hb, hsz, hcl, Addr.add_mid]
   ·have hget : ∀ i, ((rows.take h'.toNat).drop l.toNat)[i]? = if l.toNat + i < h'.toNat then rows[l.toNat + i]? else none := by
     intro i; rw [List.getElem?_drop, List.getElem?_take]
    refine .sl b _ _ _ _ _ (fun i j => g (l.toNat + i) j) (by simp; omega) (by omega) hb' (fun i row hi => ?_) (fun i row j u hi hj => ?_) (fun i row j u hi hj => ?_)
    ·rw [hget] at hi; split at hi
     ·exact hrow _ _ hi
     ·cases hi
    ·rw [hget] at hi; split at hi
     ·have := hcell _ _ _ _ hi hj
      rw [show off + l.toNat * (C.i (C.i t).elem).size + (i * (C.i (C.i t).elem).size + j) = off + ((l.toNat + i) * (C.i (C.i t).elem).size + j) by rw [Nat.add_mul]; omega]
      exact this
     ·cases hi
    ·rw [hget] at hi; split at hi
     ·exact hrd _ _ _ _ hi hj
     ·cases hi
theorem fieldAt_run {t : Nat} {x : Value} {k : Nat} {f : Nat × Nat} {b off : Nat} (H : CtxOK P C) (hf : (C.i t).fields[k]? = some f) (hk : (C.i t).kind = 3) (hfk : 1 ≤ (C.i f.2).kind) (hfz : 1 ≤ (C.i f.2).size)
    (hx : x = .pointer (some ⟨b, off, none⟩)) : (Instr.fieldAt t x k).run P w = .ok (.pointer (some ⟨b, off + f.1, none⟩)) w := by
 obtain ⟨d, u, z, _, hu, _, _, _, _, hkk, _, hff, _⟩ := (H.fact (t := t) (by omega)).ex
 rw [hkk] at hk
 obtain ⟨fs, rfl⟩ := kind_struct hk
 rw [hff] at hf
 simp only [fieldsD, List.getElem?_map, Option.map_eq_some_iff] at hf
 obtain ⟨fd, hfd, rfl⟩ := hf
 have hfd' : fs[k]? = some fd := by simpa using hfd
 have hsz := (H.fact hfk).sizeOf w
 have hne : (C.i fd.type).size ≠ 0 := by have : 1 ≤ (C.i fd.type).size := hfz; omega
 subst hx
 simp [Instr.fieldAt, run_underlying hu, hfd', Instr.sureAddr, fieldPlace, hsz, hne, Addr.add_mid]
theorem goes_fieldP (H : CtxOK P C) (R : RelE N W base w0 s m bv hd fp Fr a w) {o : Oper} (hdst : ∀ d, o.dst = some d → N.ok d) {t k : Nat} {x : Operand} {f : Nat × Nat} {id off : Nat} (hlive : ∃ l, m id = some (.var l)) (h : o.op = .fieldAddr t x k)
    (hf : (C.i t).fields[k]? = some f) (hk : (C.i t).kind = 3) (hfk : 1 ≤ (C.i f.2).kind) (hfz : 1 ≤ (C.i f.2).size) (hx : opnd s x = .ptr id off) : Goes P N W base w0 s m o ⟨.ptr id (off + f.1), [], [id], []⟩ a w := by
 have hr := opnd_rel R x
 rw [hx] at hr
 obtain ⟨l, hl⟩ := hlive
 generalize hev : a.eval x = v at hr
 cases hr with
 | ptr _ _ _ _ hp =>
  refine goes_pure R hdst (v := .pointer (some ⟨bv id, off + f.1, none⟩)) ?_ (.ptr _ _ _ ⟨_, rfl⟩ fun _ _ => rfl)
  simp [execOp, h, hev, fieldAt_run H hf hk hfk hfz (hp l hl)]
theorem goes_fieldR (H : CtxOK P C) (R : RelE N W base w0 s m bv hd fp Fr a w) {o : Oper} (hdst : ∀ d, o.dst = some d → N.ok d) {t k : Nat} {x : Operand} {f : Nat × Nat} {l : List T} (h : o.op = .fieldAddr t x k)
    (hf : (C.i t).fields[k]? = some f) (hk : (C.i t).kind = 3) (hfk : 1 ≤ (C.i f.2).kind) (hfz : 1 ≤ (C.i f.2).size) (hx : opnd s x = .rptr l) : Goes P N W base w0 s m o (pureE (.rptr (l.drop f.1))) a w := by
 have hr := opnd_rel R x
 rw [hx] at hr
 generalize hev : a.eval x = v at hr
 cases hr with
 | rptr b off _ g hb hw hrd =>
  refine goes_pure R hdst (v := .pointer (some ⟨b, off + f.1, none⟩)) ?_ (.rptr b _ _ (fun j => g (f.1 + j)) hb (fun j u hj => ?_) (fun j u hj => ?_))
  ·simp [execOp, h, hev, fieldAt_run H hf hk hfk hfz rfl]
  ·rw [List.getElem?_drop] at hj
   rw [Nat.add_assoc]; exact hw _ _ hj
  ·rw [List.getElem?_drop] at hj
   exact hrd _ _ hj
theorem goes_fieldE (H : CtxOK P C) (R : RelE N W base w0 s m bv hd fp Fr a w) {o : Oper} (hdst : ∀ d, o.dst = some d → N.ok d) {t k : Nat} {x : Operand} {f : Nat × Nat} {id ver off : Nat} {j : Int} (hlive : ∃ sz rows, asRow (m id) = some (.row ver sz rows)) (h : o.op = .fieldAddr t x k)
    (hf : (C.i t).fields[k]? = some f) (hk : (C.i t).kind = 3) (hfk : 1 ≤ (C.i f.2).kind) (hfz : 1 ≤ (C.i f.2).size) (hx : opnd s x = .eptr id ver j off) : Goes P N W base w0 s m o ⟨.eptr id ver j (off + f.1), [], [id], []⟩ a w := by
 have hr := opnd_rel R x
 rw [hx] at hr
 obtain ⟨sz, rows, hl⟩ := hlive
 generalize hev : a.eval x = v at hr
 cases hr with
 | eptr _ _ _ _ _ _ hp =>
  obtain ⟨h0, b, bo, n, c, hh, hv⟩ := hp sz rows hl
  refine goes_pure R hdst (v := .pointer (some ⟨b, bo + (j.toNat * sz + off) + f.1, none⟩)) ?_ (.eptr _ _ _ _ _ ⟨_, rfl⟩ fun sz' rows' hl' => ⟨h0, b, bo, n, c, hh, ?_⟩)
  ·simp [execOp, h, hev, fieldAt_run H hf hk hfk hfz hv]
  ·rw [hl] at hl'; cases hl'; rw [Nat.add_assoc, Nat.add_assoc]
theorem idx_some {α : Type} {l : List α} {n : Int} {x : α} (h : idx l n = some x) : ∃ k : Nat, n = (k : Int) ∧ l[k]? = some x := by
 cases n with
 | ofNat k => exact ⟨k, rfl, h⟩
 | negSucc k => cases h
theorem goes_idxR (H : CtxOK P C) (R : RelE N W base w0 s m bv hd fp Fr a w) {o : Oper} (hdst : ∀ d, o.dst = some d → N.ok d) {t : Nat} {x j : Operand} {k : IntKind} {n : Int} {rows : List (List T)} {row : List T} (h : o.op = .indexAddr t x j)
    (hk : (C.i t).kind = 2) (he : 1 ≤ (C.i (C.i t).elem).kind) (hx : opnd s x = .t (.sl (C.i (C.i t).elem).size rows)) (hj : opnd s j = .t (.int k n)) (hi : idx rows n = some row) : Goes P N W base w0 s m o (pureE (.rptr row)) a w := by
 have hu := (H.fact (t := t) (by omega)).slice hk
 have hsz := (H.fact he).sizeOf w
 obtain ⟨q, rfl, hq⟩ := idx_some hi
 have hv := opnd_t R hx
 generalize hev : a.eval x = v at hv
 cases hv with
 | sl0 ad c sz => simp at hq
 | sl b off len c sz rs g hn hc hb' hrow hcell hrd =>
  have hlt : q < len := by rw [← hn]; exact (List.getElem?_eq_some_iff.1 hq).1
  refine goes_pure R hdst (v := .pointer (some ⟨b, off + q * (C.i (C.i t).elem).size, none⟩)) ?_ (.rptr b _ _ (g q) hb' (fun i u hu => ?_) (fun i u hu => hrd _ _ _ _ hq hu))
  ·simp [execOp, h, hev, Instr.indexAt, asIntOf, opnd_int R hj, run_underlying hu, hsz, hlt, Addr.add_mid]
  ·rw [Nat.add_assoc]; exact hcell _ _ _ _ hq hu
theorem rowAt (M : MemOK W base m bv hd fp Fr w) {id ver sz q : Nat} {rows : List (List T)} {row : List T} (hm : asRow (m id) = some (.row ver sz rows)) (hq : rows[q]? = some row) : ∃ b bo n c, hd id = .slice (some ⟨b, bo, none⟩) n c ∧ q < n := by
 have hlt := (List.getElem?_eq_some_iff.1 hq).1
 cases ho : m id with
 | none => rw [ho] at hm; cases hm
 | some ob =>
  cases ob with
  | var l => rw [ho] at hm; cases hm
  | row v z r =>
   rw [ho] at hm
   have e : MO.row v z r = .row ver sz rows := Option.some.inj hm
   cases e
   have own := M.rows id _ _ _ ho
   generalize hd id = hv at own
   cases own with
   | sl0 => simp at hq
   | sl _ b bo len c sz rs cells el lo hi f G hn => exact ⟨b, bo, len, c, rfl, by omega⟩
  | rowv v z r i l =>
   rw [ho] at hm
   have e : MO.row v z r = .row ver sz rows := Option.some.inj hm
   cases e
   obtain ⟨b, bo, n, c, q0, cells, el, lo, hi, f, G, rfl, X⟩ := M.rowv id _ _ _ _ _ ho
   exact ⟨b, bo, n, c, X.hv, by have := X.hn; omega⟩
theorem goes_idxE (H : CtxOK P C) (R : RelE N W base w0 s m bv hd fp Fr a w) {o : Oper} (hdst : ∀ d, o.dst = some d → N.ok d) {t : Nat} {x j : Operand} {k : IntKind} {n : Int} {id ver : Nat} {rows : List (List T)} {row : List T} (h : o.op = .indexAddr t x j)
    (hk : (C.i t).kind = 2) (he : 1 ≤ (C.i (C.i t).elem).kind) (hx : opnd s x = .ref id ver) (hm : asRow (m id) = some (.row ver (C.i (C.i t).elem).size rows)) (hj : opnd s j = .t (.int k n)) (hi : idx rows n = some row) :
    Goes P N W base w0 s m o ⟨.eptr id ver n 0, [], [id], []⟩ a w := by
 have hu := (H.fact (t := t) (by omega)).slice hk
 have hsz := (H.fact he).sizeOf w
 obtain ⟨q, rfl, hq⟩ := idx_some hi
 have hr := opnd_rel R x
 rw [hx] at hr
 generalize hev : a.eval x = v at hr
 cases hr with
 | ref _ _ _ _ hp =>
  have ev := hp _ _ hm
  obtain ⟨b, bo, len, c, hhd, hlt⟩ := rowAt R.mem hm hq
  rw [ev, hhd] at hev
  refine goes_pure R hdst (v := .pointer (some ⟨b, bo + (q * (C.i (C.i t).elem).size + 0), none⟩)) ?_ (.eptr _ _ _ _ _ ⟨_, rfl⟩ fun sz' rows' hl' => ⟨by omega, b, bo, len, c, hhd, ?_⟩)
  ·simp [execOp, h, hev, Instr.indexAt, asIntOf, opnd_int R hj, run_underlying hu, hsz, hlt, Addr.add_mid]
  ·rw [hm] at hl'; cases hl'; simp
theorem run_load_cells {t : Nat} {i : TInfo} (f : TFact P t i) (h1 : 1 ≤ i.size) {b off : Nat} {us : List Value} (hl : us.length = i.size) (hc : ∀ (j : Nat) v, us[j]? = some v → w.cell? ⟨b, off + j, none⟩ = some v) :
    (Instr.loadAt t (.pointer (some ⟨b, off, none⟩))).run P w = .ok (if i.agg then .agg ⟨us⟩ else us.headD undef) w := by
 simp only [Instr.loadAt, Instr.sureAddr, Sem.run_bind, Sem.run_pure, Result.andThen_ok, loadVar, f.isAgg]
 cases i.agg with
 | true =>
  have hlc : (loadCells ⟨b, off, none⟩ us.length).run P w = .ok us.toArray w := run_loadCells_list (P := P) w ⟨b, off, none⟩ us (fun j v hv => by rw [Addr.add_mid]; exact hc j v hv)
  simp only [if_true, Sem.run_bind, f.sizeOf, Result.andThen_ok, ← hl, hlc, Sem.run_pure]
 | false =>
  cases us with
  | nil => simp at hl; omega
  | cons v us =>
   have h0 : w.cell? ⟨b, off, none⟩ = some v := by simpa using hc 0 v rfl
   simp [h0]
theorem goes_loadR (H : CtxOK P C) (R : RelE N W base w0 s m bv hd fp Fr a w) {o : Oper} (hdst : ∀ d, o.dst = some d → N.ok d) {t : Nat} {x : Operand} {l : List T} (h : o.op = .load t x) (hk : 1 ≤ (C.i t).kind) (hz : 1 ≤ (C.i t).size)
    (ha : opnd s x = .rptr l) (hl : (C.i t).size ≤ l.length) : Goes P N W base w0 s m o (pureE (valOf (C.i t).agg ((l.take (C.i t).size).map SV.t))) a w := by
 have hr := opnd_rel R x
 rw [ha] at hr
 generalize hev : a.eval x = v at hr
 cases hr with
 | rptr b off _ g hb hw hrd =>
  let us := (List.range (C.i t).size).map g
  have hus : us.length = (C.i t).size := by simp [us]
  have hget : ∀ (j : Nat) v, us[j]? = some v → j < (C.i t).size ∧ v = g j := fun j v hj => range_get hj
  refine goes_pure R hdst (v := if (C.i t).agg then .agg ⟨us⟩ else us.headD undef) ?_ (valOf_rel (by simp [us]; omega) (by simp; omega) (fun i v sv h1 h2 => ?_) _)
  ·simp only [execOp, h, hev, Sem.run_bind, Result.andThen_ok, Sem.run_pure, run_load_cells (H.fact hk) hz hus (fun j v hj => by
    obtain ⟨h1, rfl⟩ := hget j v hj
    exact hw j _ (List.getElem?_eq_getElem (by omega)))]
  ·obtain ⟨h3, rfl⟩ := hget i v h1
   simp only [List.getElem?_map, Option.map_eq_some_iff, List.getElem?_take, h3, if_true] at h2
   obtain ⟨u, hu, rfl⟩ := h2
   exact .t _ _ (hrd _ _ hu)
theorem goes_loadP (H : CtxOK P C) (R : RelE N W base w0 s m bv hd fp Fr a w) {o : Oper} (hdst : ∀ d, o.dst = some d → N.ok d) {t : Nat} {x : Operand} {id off : Nat} {l : List SV} (h : o.op = .load t x) (hk : 1 ≤ (C.i t).kind) (hz : 1 ≤ (C.i t).size)
    (ha : opnd s x = .ptr id off) (hm : m id = some (.var l)) (hl : off + (C.i t).size ≤ l.length) : Goes P N W base w0 s m o ⟨valOf (C.i t).agg ((l.drop off).take (C.i t).size), [], [id], []⟩ a w := by
 have hr := opnd_rel R x
 rw [ha] at hr
 generalize hev : a.eval x = v at hr
 cases hr with
 | ptr _ _ _ _ hp =>
  have := hp l hm
  subst this
  obtain ⟨_, cs, el, hh, hlen, hrel⟩ := R.mem.vars id l hm
  refine goes_pure R hdst (v := if (C.i t).agg then .agg ⟨(cs.drop off).take (C.i t).size⟩ else ((cs.drop off).take (C.i t).size).headD undef) ?_
   (valOf_rel (by simp [hlen]) (by simp only [List.length_take, List.length_drop]; omega) (sub_rel hlen hrel _ _) _)
  simp only [execOp, h, hev, Sem.run_bind, Result.andThen_ok, Sem.run_pure, run_load_cells (H.fact hk) hz (us := (cs.drop off).take (C.i t).size) (by simp only [List.length_take, List.length_drop]; omega) (fun j v hj => by
   rw [List.getElem?_take, List.getElem?_drop] at hj
   split at hj
   ·rw [cell_heap hh]; exact hj
   ·cases hj)]
theorem goes_loadE (H : CtxOK P C) (R : RelE N W base w0 s m bv hd fp Fr a w) {o : Oper} (hdst : ∀ d, o.dst = some d → N.ok d) {t : Nat} {x : Operand} {id ver off z : Nat} {j : Int} {rows : List (List T)} {row : List T} (h : o.op = .load t x) (hk : 1 ≤ (C.i t).kind)
    (hz : 1 ≤ (C.i t).size) (ha : opnd s x = .eptr id ver j off) (hm : m id = some (.row ver z rows)) (hi : idx rows j = some row) (hl : off + (C.i t).size ≤ row.length) (hsc : scal ((row.drop off).take (C.i t).size)) :
    Goes P N W base w0 s m o ⟨valOf (C.i t).agg (((row.drop off).take (C.i t).size).map SV.t), [], [id], []⟩ a w := by
 have hr := opnd_rel R x
 rw [ha] at hr
 obtain ⟨q, rfl, hq⟩ := idx_some hi
 generalize hev : a.eval x = v at hr
 cases hr with
 | eptr _ _ _ _ _ _ hp =>
  obtain ⟨_, b', bo', n', c', hhd, hv⟩ := hp z rows (asRow_row hm)
  subst hv
  have own := R.mem.rows id _ _ _ hm
  rw [hhd] at own
  cases own with
  | sl0 => simp at hq
  | sl _ b _ len c sz rs cells el lo hi' f G hn hc hb hs hz' hF hrow hcell hone hG hD hrd =>
   have hrl := hrow q row hq
   let us := (List.range (C.i t).size).map fun k => f q (off + k)
   have hus : us.length = (C.i t).size := by simp [us]
   have hget : ∀ (j : Nat) v, us[j]? = some v → j < (C.i t).size ∧ v = f q (off + j) := fun j v hj => range_get (g := fun k => f q (off + k)) hj
   refine goes_pure R hdst (v := if (C.i t).agg then .agg ⟨us⟩ else us.headD undef) ?_ (valOf_rel (by simp [us]; omega) (by simp; omega) (fun i v sv h1 h2 => ?_) _)
   ·simp only [execOp, h, hev, Sem.run_bind, Result.andThen_ok, Sem.run_pure, run_load_cells (H.fact hk) hz (b := b') (off := bo' + ((q : Int).toNat * z + off)) hus (fun k v hj => by
     obtain ⟨h1, rfl⟩ := hget k v hj
     have := hcell q row (off + k) _ hq (List.getElem?_eq_getElem (by omega))
     rw [cell_heap hb, show bo' + ((q : Int).toNat * z + off) + k = bo' + (q * z + (off + k)) by simp [Nat.add_assoc]]
     exact this)]
   ·obtain ⟨h3, rfl⟩ := hget i v h1
    simp only [List.getElem?_map, Option.map_eq_some_iff] at h2
    obtain ⟨u, hu, rfl⟩ := h2
    have hus := hsc u (List.mem_of_getElem? hu)
    rw [List.getElem?_take, if_pos h3, List.getElem?_drop] at hu
    exact .t _ _ ((hrd q row _ u hq hu).reads.owns_scalar hus w Fr).reads
end
end Go.Pv

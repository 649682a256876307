/- Every operation: what the machine does is what the relation tells. Nothing is claimed here. -/
import Derived.Test.YtgdjicnefdnofaaDoorPv14
set_option linter.unusedSimpArgs false
set_option linter.unusedVariables false
namespace Go.Pv
open Go Go.RowKit

section
variable {P : Program} {C : Ctx} {N : FrP} {W : Nat → Prop} {base : Nat} {w0 : World} {s : Nat → SV} {m : Nat → Option MO} {bv : Nat → Nat} {hd : Nat → Value} {fp : Nat → Nat → Prop} {Fr : Nat → Prop} {a : Act} {w : World}

/-- What becomes valid was not there. -/
def FreshT (m : Nat → Option MO) (tok : List (Nat × Nat)) : Prop := tok.Nodup ∧ ∀ id, (id, 0) ∈ tok → m id = none

theorem toks_nodup {l : List (Nat × Option MO)} (h : (toks l).Nodup) : (keys l).Nodup := by
  have : toks l = (keys l).map fun k => (k, 0) := by simp [toks, keys]
  rw [this] at h
  unfold List.Nodup at h ⊢
  rw [List.pairwise_map] at h
  exact h.imp fun h e => h (by rw [e])
theorem toks_mem {l : List (Nat × Option MO)} {id : Nat} (h : id ∈ keys l) : (id, 0) ∈ toks l := by
  obtain ⟨p, hp, rfl⟩ := List.mem_map.1 h
  exact List.mem_map.2 ⟨p, hp, rfl⟩

theorem buildin_sound (H : CtxOK P C) (R : RelE N W base w0 s m bv hd fp Fr a w) {o : Oper} (hdst : ∀ d, o.dst = some d → N.ok d) {c : Call} {b : Builtin} {args : List SV} {e : Eff} (h : o.op = .call c) (hc : c.callee = .builtin b)
    (hargs : c.args.toList.map (opnd s) = args) (hb : BuiltR C m c.argTypes.toList (o.dst.getD 0) b args e) (cl : Clean s m e.tok) (fr : FreshT m e.tok) : Goes P N W base w0 s m o e a w := by
  cases hb with
  | lenStr l hk => exact goes_len H R hdst h hc hargs (.inl ⟨hk, l, rfl, rfl⟩)
  | lenSl z rows hk =>
    refine goes_len H R hdst h hc hargs (.inr ⟨hk, fun v hv => ?_⟩)
    cases hv with
    | t _ _ hr =>
      cases hr with
      | sl0 ad c sz => exact ⟨_, _, rfl⟩
      | sl b o n c sz rows f hn => subst hn; exact ⟨_, _, rfl⟩
  | lenNil hk =>
    refine goes_len (n := 0) H R hdst h hc hargs (.inr ⟨hk, fun v hv => ?_⟩)
    cases hv; exact ⟨_, _, rfl⟩
  | lenRef id ver z rows hm hk =>
    refine goes_len H R hdst h hc hargs (.inr ⟨hk, fun v hv => ?_⟩)
    cases hv with
    | ref _ _ _ sh hv =>
      obtain ⟨ad, n, cp, e1, e2⟩ := (R.mem.rows id ver z rows hm).slice
      rw [hv z rows hm, e1, e2]
      exact ⟨_, _, rfl⟩
  | min p q x hx => exact goes_minmax R hdst h (.inl rfl) hc hargs (by simpa using hx)
  | max p q x hx => exact goes_minmax R hdst h (.inr rfl) hc hargs (by simpa using hx)
  | appNil ty ty2 src new rows gone fpl ht hs ok ha => exact goes_appNil H R hdst h hc ht hargs hs ok ha (fr.2 _ (by simp)) cl
  | appRef ty ty2 id ver src old new rows gone fpl ht hs ok hm hg ha => exact goes_appRef H R hdst h hc ht hargs hs ok hm hg ha cl

theorem eff_sound (H : CtxOK P C) (hG : ∀ w, N.gi w → C.gi w) (R : RelE N W base w0 s m bv hd fp Fr a w) {o : Oper} (hdst : ∀ d, o.dst = some d → N.ok d) {e : Eff} (h : EffR C s m o e) (cl : Clean s m e.tok) (fr : FreshT m e.tok) : Goes P N W base w0 s m o e a w := by
  cases h with
  | move x h => exact goes_move R hdst h
  | pick c x y p h hc => exact goes_pick R hdst h hc
  | alloc t h hk => exact goes_alloc H R hdst h hk (fr.2 _ (by simp)) cl
  | box t x h hx => exact goes_box R hdst h hx (fr.2 _ (by simp)) cl
  | build t parts cs h hk hf hc => exact goes_build H R hdst h hk hf hc
  | buildSlice t len parts cs rows h ok hl hc hr hn h1 => exact goes_buildSlice H R hdst h ok hl hc hr hn h1 (fr.2 _ (by simp)) cl
  | makeSlice t x y n rows h ok hx hy zt hr hz hz1 hz0 => exact goes_makeSlice H R hdst h ok hx hy hr hz hz1 hz0 (fr.2 _ (by simp)) cl
  | loadP t x id off l h hk hz ha hm hl => exact goes_loadP H R hdst h hk hz ha hm hl
  | loadR t x l h hk hz ha hl => exact goes_loadR H R hdst h hk hz ha hl
  | loadE t x id ver off z j rows row h hk hz ha hm hi hl hs => exact goes_loadE H R hdst h hk hz ha hm hi hl hs
  | storeP t p x id off l h hk hc hok h1 ha hm hl => exact goes_storeP H R hdst h hk hc hok h1 ha hm hl
  | storeE t p x id ver off z j rows row h hk hc hok h1 ha hm ts hs hn hnot hi hl => exact goes_storeE H R hdst h hk hc hok h1 ha hm hs hn hnot hi hl
  | nilCheckP x id off l h hx hm => exact goes_nilCheckP R hdst ⟨l, hm⟩ h hx
  | nilCheckR x l h hx => exact goes_nilCheckR R hdst h hx
  | int op t u x y k p q r h hx hy hr => exact goes_int R hdst h hx hy hr
  | quo t u x y k p q h hx hy hb => exact goes_quo R hdst h hx hy hb
  | rem t u x y k p q h hx hy hb => exact goes_rem R hdst h hx hy hb
  | shl t u x y k k' p q r h hx hy hr => exact goes_shl R hdst h hx hy hr
  | shr t u x y k k' p q r h hx hy hr => exact goes_shr R hdst h hx hy hr
  | strAdd t u x y p q r h hx hy hr => exact goes_strAdd R hdst h hx hy hr
  | strBin op t u x y p q r h hx hy hr => exact goes_strBin R hdst h hx hy hr
  | boolEq op t u x y p q r h hx hy hk hq => exact goes_boolEq H R hdst h hx hy hk hq
  | errEq op t u x c p q h hx hy hk hq => exact goes_errEq H R hdst h hx hy hk hq
  | aggEq op t u x y la lb p q h hx hy ht hk hp hq => exact goes_aggEq H R hdst h hx hy ht hk hp hq
  | not t x b h hx => exact goes_not R hdst h hx
  | neg t x k n h hx => exact goes_neg R hdst h hx
  | convInt src dst x k k' n h hx hk hs => exact goes_convInt H R hdst h hx hk (by omega)
  | convStr src dst x l h hx hk hs => exact goes_convStr H R hdst h hx hk (by omega)
  | convBytes src dst x l h hx hk hs he => exact goes_convBytes H R hdst h hx hk hs he (fr.2 _ (by simp)) cl
  | convText src dst x id ver l h hx hk hs he hm => exact goes_convText H R hdst h hx hk hs he hm
  | cutStr t x lo hi p r l h' k k' h hx hk hl hh hr => exact goes_cutStr H R hdst h hx hk hl hh hr
  | cutSl t x lo hi rows r l h' k k' h hx hk he hl hh hr => exact goes_cutSl H R hdst h hx hk he hl hh hr
  | fieldP t k x f id off h hf hk hfk hfz hx l hm => exact goes_fieldP H R hdst ⟨l, hm⟩ h hf hk hfk hfz hx
  | fieldR t k x f l h hf hk hfk hfz hx => exact goes_fieldR H R hdst h hf hk hfk hfz hx
  | fieldE t k x f id ver off j h hf hk hfk hfz hx z rows hm => exact goes_fieldE H R hdst ⟨z, rows, hm⟩ h hf hk hfk hfz hx
  | field t k x f l h hf hk hfk hfz hx hl => exact goes_field H R hdst h hf hk hfk hfz hx hl
  | idxR t x j k n rows row h hk he hx hj hi => exact goes_idxR H R hdst h hk he hx hj hi
  | idxE t x j k n id ver rows row h hk he hx hm hj hi => exact goes_idxE H R hdst h hk he hx hm hj hi
  | index t x j k n l c h hk hx hj hi => exact goes_index H R hdst h hk hx hj hi
  | extract x k l v h hx hv => exact goes_extract R hdst h hx hv
  | makeFunc f cap h => exact goes_makeFunc R hdst h
  | builtin c b _ h hc hb => exact buildin_sound H R hdst h hc rfl hb cl fr
  | callW c f g cap ts outs res mw h hc hf ht hn hw hb hs hk => exact goes_callW H hG R hdst h hc hf ht hn hw hb hs hk
  | call c f g cap ts res h hc hf ht hw hi =>
    exact goes_call H hG R hdst h hc hf ht hw hi (fun id hid => fr.2 _ (toks_mem hid)) (toks_nodup fr.1) cl

end
end Go.Pv

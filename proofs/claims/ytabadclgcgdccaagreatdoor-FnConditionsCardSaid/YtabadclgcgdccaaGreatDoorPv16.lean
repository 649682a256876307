/- Plain lemmas and definitions. Nothing is claimed here. -/
import Derived.Test.YtabadclgcgdccaaGreatDoorPv15
set_option linter.unusedSimpArgs false
set_option linter.unusedVariables false
namespace Go.Pv
open Go Go.RowKit
theorem all2_imp{α β:Type}{f g:α→β→Prop}{l:List α}{r:List β}(h:∀a∈l,∀b,f a b→g a b)(ha:all2 f l r):all2 g l r:=by
 induction l generalizing r with
 |nil=>cases r<;>simp_all [all2]
 |cons a l ih=>
  cases r with
  |nil=>simp[all2]at ha
  |cons b r=>exact⟨h a (by simp) b ha.1,ih (fun x hx=>h x (by simp[hx])) ha.2⟩
theorem refsL_in{f:SV→List Nat}{l:List SV}{v:SV}{id:Nat}(hv:v∈l)(h:id∈f v):id∈refsL f l:=by
 induction l with
 |nil=>cases hv
 |cons a r ih=>
  simp only[refsL,List.mem_append]
  cases hv with
  |head=>exact .inl h
  |tail _ hv=>exact .inr (ih hv)
section
variable {m m':Nat→Option MO}
theorem rb_congr:∀(n:Nat) (v:SV) (t:T),(∀id∈deepRefs m n v,m' id=m id)→rb m n v t→rb m' n v t
 |0,_,_,_,h=>by simp[rb]at h
 |n+1,.t x,y,_,h=>by simpa[rb]using h
 |n+1,.nil,y,_,h=>by cases y<;>simp_all [rb]
 |n+1,.gone,y,_,h=>by cases y<;>simp_all [rb]
 |n+1,.ref id ver,y,hm,h=>by
  cases y with
  |sl sz rows=>
   simp only[rb]at h ⊢
   rw[hm id (by simp[deepRefs])]
   exact h
  |_=>simp[rb]at h
 |n+1,.ptr id off,y,hm,h=>by
  cases off with
  |succ k=>simp[rb]at h
  |zero=>
   cases y with
   |box ts=>
    simp only[rb]at h ⊢
    rw[hm id (by simp[deepRefs])]
    split at h
    ·rename_i l hl
     exact all2_imp (fun a ha b hb=>rb_congr n a b (fun x hx=>hm x (by simp only[deepRefs,hl,List.mem_cons];exact .inr (refsL_in ha hx))) hb) h
    ·exact h.elim
   |_=>simp[rb]at h
 |n+1,.rptr l,y,_,h=>by cases y<;>simp_all [rb]
 |n+1,.fs z r,y,_,h=>by cases y<;>simp_all [rb]
 |n+1,.eptr id ver i off,y,_,h=>by cases y<;>simp_all [rb]
 |n+1,.vw id ver lo,y,hm,h=>by
  cases y with
  |sl sz rows=>
   simp only[rb]at h ⊢
   rw[hm id (by simp[deepRefs])]
   exact h
  |_=>simp[rb]at h
 |n+1,.agg l,y,hm,h=>by
  cases y with
  |agg ts=>
   simp only[rb]at h ⊢
   exact all2_imp (fun a ha b hb=>rb_congr n a b (fun x hx=>hm x (by simp only[deepRefs];exact refsL_in ha hx)) hb) h
  |_=>simp[rb]at h
 |n+1,.tup l,y,hm,h=>by
  cases y with
  |tup ts=>
   simp only[rb]at h ⊢
   exact all2_imp (fun a ha b hb=>rb_congr n a b (fun x hx=>hm x (by simp only[deepRefs];exact refsL_in ha hx)) hb) h
  |_=>simp[rb]at h
 |n+1,.clo f l,y,hm,h=>by
  cases y with
  |clo g ts=>
   simp only[rb]at h ⊢
   exact⟨h.1,all2_imp (fun a ha b hb=>rb_congr n a b (fun x hx=>hm x (by simp only[deepRefs];exact refsL_in ha hx)) hb) h.2⟩
  |_=>simp[rb]at h
theorem rbo_congr:∀(n:Nat) (v:SV) (t:T),(∀id∈refs n v,m' id=m id)→rbo m n v t→rbo m' n v t
 |0,_,_,_,h=>by simp[rbo]at h
 |n+1,.t x,y,_,h=>by simpa[rbo]using h
 |n+1,.nil,y,_,h=>by cases y<;>simp_all [rbo]
 |n+1,.gone,y,_,h=>by cases y<;>simp_all [rbo]
 |n+1,.ref id ver,y,hm,h=>by
  cases y with
  |sl sz rows=>
   simp only[rbo]at h ⊢
   rw[hm id (by simp[refs])]
   exact h
  |_=>simp[rbo]at h
 |n+1,.ptr id off,y,hm,h=>by cases y<;>simp_all [rbo]
 |n+1,.rptr l,y,_,h=>by cases y<;>simp_all [rbo]
 |n+1,.fs z r,y,_,h=>by cases y<;>simp_all [rbo]
 |n+1,.eptr id ver i off,y,_,h=>by cases y<;>simp_all [rbo]
 |n+1,.vw id ver lo,y,hm,h=>by
  cases y with
  |sl sz rows=>
   simp only[rbo]at h ⊢
   rw[hm id (by simp[refs])]
   exact h
  |_=>simp[rbo]at h
 |n+1,.agg l,y,hm,h=>by
  cases y with
  |agg ts=>
   simp only[rbo]at h ⊢
   exact all2_imp (fun a ha b hb=>rbo_congr n a b (fun x hx=>hm x (by simp only[refs];exact refsL_in ha hx)) hb) h
  |_=>simp[rbo]at h
 |n+1,.tup l,y,hm,h=>by
  cases y with
  |tup ts=>
   simp only[rbo]at h ⊢
   exact all2_imp (fun a ha b hb=>rbo_congr n a b (fun x hx=>hm x (by simp only[refs];exact refsL_in ha hx)) hb) h
  |_=>simp[rbo]at h
 |n+1,.clo f l,y,hm,h=>by cases y<;>simp_all [rbo]
theorem deep_congr:∀(n:Nat) (v:SV),(∀id∈deepRefs m n v,m' id=m id)→deepRefs m' n v=deepRefs m n v
 |0,_,_=>by simp[deepRefs]
 |n+1,.t x,_=>rfl
 |n+1,.nil,_=>rfl
 |n+1,.gone,_=>rfl
 |n+1,.ref id ver,_=>rfl
 |n+1,.rptr l,_=>rfl
 |n+1,.fs z r,_=>rfl
 |n+1,.eptr id ver i off,_=>rfl
 |n+1,.vw id ver lo,_=>rfl
 |n+1,.ptr id off,hm=>by
  simp only[deepRefs]
  rw[hm id (by simp[deepRefs])]
  congr 1
  split
  ·rename_i l hl
   exact deepL n l fun a ha x hx=>hm x (by simp only[deepRefs,hl,List.mem_cons];exact .inr (refsL_in ha hx))
  ·rfl
 |n+1,.agg l,hm=>by simp only[deepRefs];exact deepL n l fun a ha x hx=>hm x (by simp only[deepRefs];exact refsL_in ha hx)
 |n+1,.tup l,hm=>by simp only[deepRefs];exact deepL n l fun a ha x hx=>hm x (by simp only[deepRefs];exact refsL_in ha hx)
 |n+1,.clo f l,hm=>by simp only[deepRefs];exact deepL n l fun a ha x hx=>hm x (by simp only[deepRefs];exact refsL_in ha hx)
where
 deepL (n:Nat):∀(l:List SV),(∀a∈l,∀id∈deepRefs m n a,m' id=m id)→refsL (deepRefs m' n) l=refsL (deepRefs m n) l
  |[],_=>rfl
  |a::l,h=>by
   simp only[refsL]
   rw[deep_congr n a (h a (by simp)),deepL n l (fun x hx=>h x (by simp[hx]))]
theorem plain_deep{m:Nat→Option MO}:∀(n:Nat) (v:SV),plainS n v=true→deepRefs m n v=refs n v
 |0,_,h=>by simp[plainS]at h
 |n+1,v,h=>by
  cases v with
  |agg l=>
   simp only[plainS,List.all_eq_true]at h
   simp only[deepRefs,refs]
   have key:∀l:List SV,(∀x∈l,plainS n x=true)→refsL (deepRefs m n) l=refsL (refs n) l:=by
    intro l
    induction l with
    |nil=>intro _;rfl
    |cons a r ih=>intro h;simp only[refsL];rw[plain_deep n a (h a (by simp)),ih fun x hx=>h x (by simp[hx])]
   exact key l h
  |clo f l=>
   simp only[plainS,List.all_eq_true]at h
   simp only[deepRefs,refs]
   have key:∀l:List SV,(∀x∈l,plainS n x=true)→refsL (deepRefs m n) l=refsL (refs n) l:=by
    intro l
    induction l with
    |nil=>intro _;rfl
    |cons a r ih=>intro h;simp only[refsL];rw[plain_deep n a (h a (by simp)),ih fun x hx=>h x (by simp[hx])]
   exact key l h
  |_=>first|rfl|(simp[plainS]at h;done)
theorem backsC_congr:∀(cs:List SV) (ts:List T),(∀id∈refsL (refs 3) cs,m' id=m id)→effK.backsC m' cs ts=effK.backsC m cs ts
 |[],ts,_=>by cases ts<;>simp[effK.backsC]
 |v::l,[],_=>by cases v<;>simp[effK.backsC]
 |v::l,t::r,h=>by
  have ih:=backsC_congr l r fun id hid=>h id (by simp[refsL,hid])
  cases v with
  |ref id ver=>
   cases t<;>simp only[effK.backsC,ih]
   rw[h id (by simp[refsL,refs])]
  |_=>simp only[effK.backsC,ih]
theorem backs_congr:∀(vs:List SV) (ts:List T),(∀id∈refsL (refs 4) vs,m' id=m id)→effK.backs m' vs ts=effK.backs m vs ts
 |[],ts,_=>by cases ts<;>simp[effK.backs]
 |v::l,[],_=>by cases v<;>simp[effK.backs]
 |v::l,t::r,h=>by
  have ih:=backs_congr l r fun id hid=>h id (by simp[refsL,hid])
  cases v with
  |ref id ver=>
   cases t<;>simp only[effK.backs,ih]
   rw[h id (by simp[refsL,refs])]
  |agg cs=>
   cases t<;>simp only[effK.backs,ih]
   rw[backsC_congr cs _ fun id hid=>h id (by simp only[refsL,refs,List.mem_append];exact .inl hid)]
  |_=>simp only[effK.backs,ih]
theorem all2_rows{n:Nat}{css:List (List SV)}{rows:List (List T)}(h:∀cs∈css,∀v∈cs,∀id∈refs n v,m' id=m id)(ha:all2 (all2 (rbo m n)) css rows):all2 (all2 (rbo m' n)) css rows:=
 all2_imp (fun cs hcs row hr=>all2_imp (fun v hv t ht=>rbo_congr n v t (h cs hcs v hv) ht) hr) ha
theorem rowsN_mem{α:Type}{size:Nat}:∀(n:Nat) (l cs:List α) (v:α),cs∈rowsN size n l→v∈cs→v∈l
 |0,l,cs,v,h,_=>by simp[rowsN]at h
 |n+1,l,cs,v,h,hv=>by
  simp only[rowsN,List.mem_cons]at h
  rcases h with rfl|h
  ·exact List.mem_of_mem_take hv
  ·exact List.mem_of_mem_drop (rowsN_mem n (l.drop size) cs v h hv)
theorem src_congr{k:Nat}{i:TInfo}{src:SV}{rows:List (List T)}{gone:List (Nat×Option MO)}{fp:List Nat}(h:∀id∈fp,m' id=m id)(hs:SrcR k i m src rows gone fp):SrcR k i m' src rows gone fp:=by
 cases hs with
 |nil hk=>exact .nil hk
 |sl hk rows hr=>exact .sl hk rows hr
 |str hk l hz=>exact .str hk l hz
 |ref hk id ver rows hr=>exact .ref hk id ver rows (by rw[h id (by simp)];exact hr)
theorem built_congr{C:Ctx}{ts:List Nat}{d:Nat}{b:Builtin}{args:List SV}{e:Eff}(h:∀id∈e.fp,m' id=m id)(hb:BuiltR C m ts d b args e):BuiltR C m' ts d b args e:=by
 cases hb with
 |lenStr l hk=>exact .lenStr l hk
 |lenSl z rows hk=>exact .lenSl z rows hk
 |lenNil hk=>exact .lenNil hk
 |lenRef id ver z rows hm hk=>exact .lenRef id ver z rows (by rw[h id (by simp)];exact hm) hk
 |clear id ver lo rows zt hm hk he hz hl hz0 hz1 hzt=>exact .clear id ver lo rows zt (by rw[h id (by simp)];exact hm) hk he hz hl hz0 hz1 (all2_imp (fun v hv t ht=>rbo_congr 4 v t (fun id hid=>(by have:=refsL_in (f:=refs 4) hv hid;rw[hz0]at this;cases this)) ht) hzt)
 |copy id ver lo l rows hm hk he hz=>exact .copy id ver lo l rows (by rw[h id (by simp)];exact hm) hk he hz
 |min p q x hx=>exact .min p q x hx
 |max p q x hx=>exact .max p q x hx
 |appNil ty ty2 src new rows gone fpl ht hs ok ha=>exact .appNil ty ty2 src new rows gone fpl ht (src_congr (fun id hid=>h id (by simp[hid])) hs) ok ha
 |appRef ty ty2 id ver src old new rows gone fpl ht hs ok hm hg ha=>
  exact .appRef ty ty2 id ver src old new rows gone fpl ht (src_congr (fun id hid=>h id (by simp[hid])) hs) ok (by rw[h id (by simp)];exact hm) hg ha
 |appFull ty ty2 id src old new rows gone fpl ht hs ok hm ho hn hne ha=>
  exact .appFull ty ty2 id src old new rows gone fpl ht (src_congr (fun id hid=>h id (by simp[hid])) hs) ok (by rw[h id (by simp)];exact hm) ho hn hne ha
 |appFs ty ty2 old new rows ht ok hk2 ho hn hne ha=>exact .appFs ty ty2 old new rows ht ok hk2 ho hn hne ha
def seen(o:Oper):List Nat:=o.op.operands.toList.filterMap fun| .tmp t=>some t|_=>none
variable {s s':Nat→SV} {o:Oper}
theorem opnd_seen(h:∀t∈seen o,s' t=s t){x:Operand}(hx:x∈o.op.operands.toList):opnd s' x=opnd s x:=by
 cases x with
 |tmp t=>exact h t (List.mem_filterMap.2 ⟨.tmp t,hx,rfl⟩)
 |const v=>rfl
 |global g=>rfl
 |func f=>rfl
theorem eff_congr{C:Ctx}{e:Eff}(hs:∀t∈seen o,s' t=s t)(hm:∀id∈e.fp,m' id=m id)(h:EffR C s m o e):EffR C s' m' o e:=by
 have O:∀x,x∈o.op.operands.toList→opnd s' x=opnd s x:=fun x hx=>opnd_seen hs hx
 cases h with
 |move x h=>
  rw[←O x (by rcases h with h|h<;>simp[h,Op.operands])]
  exact .move x h
 |pick c x y p h hc=>
  have:=O (if p then x else y) (by cases p<;>simp[h,Op.operands])
  rw[←this]
  exact .pick c x y p h (by rw[O c (by simp[h,Op.operands])];exact hc)
 |alloc t h hk=>exact .alloc t h hk
 |box t x h hx=>
  have e:=O x (by simp[h,Op.operands])
  rw[←e]
  exact .box t x h (by rw[e];exact hx)
 |build t parts cs h hk hf hc=>
  refine .build t parts cs h hk hf ?_
  rw[←hc]
  congr 1
  refine List.map_congr_left fun p hp=> ?_
  rw[O p.2 (by simp only[h,Op.operands];simp;exact⟨p.1,by simpa using hp⟩)]
 |buildSlice t len parts cs rows h ok hl hc hr hn h1=>
  refine .buildSlice t len parts cs rows h ok hl ?_ ?_ hn h1
  ·rw[←hc]
   congr 1
   refine List.map_congr_left fun p hp=> ?_
   rw[O p.2 (by simp only[h,Op.operands];simp;exact⟨p.1,by simpa using hp⟩)]
  ·exact all2_rows (fun c hc v hv id hid=>hm id (by simp;exact .inr (refsL_in (rowsN_mem _ _ _ _ hc hv) hid))) hr
 |makeSlice t x y n rows h ok hx hy zt hr hz hz1 hz0=>
  exact .makeSlice t x y n rows h ok (by rw[O x (by simp[h,Op.operands])];exact hx) (by rw[O y (by simp[h,Op.operands])];exact hy) zt hr (all2_imp (fun v hv t ht=>rbo_congr 4 v t (fun id hid=>(by have:=refsL_in (f:=refs 4) hv hid;rw[hz0]at this;cases this)) ht) hz) hz1 hz0
 |loadP t x id off l h hk hz ha hl0 hl=>exact .loadP t x id off l h hk hz (by rw[O x (by simp[h,Op.operands])];exact ha) (by rw[hm id (by simp)];exact hl0) hl
 |loadR t x l h hk hz ha hl=>exact .loadR t x l h hk hz (by rw[O x (by simp[h,Op.operands])];exact ha) hl
 |loadE t x id ver off z j rows row h hk hz ha hm0 hi hl hsc=>exact .loadE t x id ver off z j rows row h hk hz (by rw[O x (by simp[h,Op.operands])];exact ha) (by rw[hm id (by simp)];exact hm0) hi hl hsc
 |loadO t x id ver off z j rows row h hk hz ha hm0 hi hl hc hn=>exact .loadO t x id ver off z j rows row h hk hz (by rw[O x (by simp[h,Op.operands])];exact ha) (by rw[hm id (by simp)];exact hm0) hi hl hc hn
 |loadV t x id ver off z j rows l h hk hz ha hm0 hl=>exact .loadV t x id ver off z j rows l h hk hz (by rw[O x (by simp[h,Op.operands])];exact ha) (by rw[hm id (by simp)];exact hm0) hl
 |storeV t p x id ver off z j rows l h hk hc hok h1 ha hm0 hl=>
  have e:=O x (by simp[h,Op.operands])
  rw[←e]at hc hok h1 ⊢
  exact .storeV t p x id ver off z j rows l h hk hc hok h1 (by rw[O p (by simp[h,Op.operands])];exact ha) (by rw[hm id (by simp)];exact hm0) hl
 |storeP t p x id off l h hk hc hok h1 ha hm0 hl=>
  have e:=O x (by simp[h,Op.operands])
  rw[←e]at hc hok h1 ⊢
  exact .storeP t p x id off l h hk hc hok h1 (by rw[O p (by simp[h,Op.operands])];exact ha) (by rw[hm id (by simp)];exact hm0) hl
 |storeE t p x id ver off z j rows row h hk hc hok h1 ha hm0 ts hsc hn hnot hi hl=>
  have e:=O x (by simp[h,Op.operands])
  rw[←e]at hc hok h1 hsc hn hnot hm ⊢
  exact .storeE t p x id ver off z j rows row h hk hc hok h1 (by rw[O p (by simp[h,Op.operands])];exact ha) (by rw[hm id (by simp)];exact hm0) ts (all2_imp (fun v hv t ht=>rbo_congr 4 v t (fun id' hid'=>hm id' (by simp;exact .inr (refsL_in hv hid'))) ht) hsc) hn hnot hi hl
 |nilCheckP x id off l h hx hm0=>exact .nilCheckP x id off l h (by rw[O x (by simp[h,Op.operands])];exact hx) (by rw[hm id (by simp)];exact hm0)
 |nilCheckR x l h hx=>exact .nilCheckR x l h (by rw[O x (by simp[h,Op.operands])];exact hx)
 |int op t u x y k p q r h hx hy hr=>exact .int op t u x y k p q r h (by rw[O x (by simp[h,Op.operands])];exact hx) (by rw[O y (by simp[h,Op.operands])];exact hy) hr
 |quo t u x y k p q h hx hy hb=>exact .quo t u x y k p q h (by rw[O x (by simp[h,Op.operands])];exact hx) (by rw[O y (by simp[h,Op.operands])];exact hy) hb
 |rem t u x y k p q h hx hy hb=>exact .rem t u x y k p q h (by rw[O x (by simp[h,Op.operands])];exact hx) (by rw[O y (by simp[h,Op.operands])];exact hy) hb
 |shl t u x y k k' p q r h hx hy hr=>exact .shl t u x y k k' p q r h (by rw[O x (by simp[h,Op.operands])];exact hx) (by rw[O y (by simp[h,Op.operands])];exact hy) hr
 |shr t u x y k k' p q r h hx hy hr=>exact .shr t u x y k k' p q r h (by rw[O x (by simp[h,Op.operands])];exact hx) (by rw[O y (by simp[h,Op.operands])];exact hy) hr
 |strAdd t u x y p q r h hx hy hr=>exact .strAdd t u x y p q r h (by rw[O x (by simp[h,Op.operands])];exact hx) (by rw[O y (by simp[h,Op.operands])];exact hy) hr
 |strBin op t u x y p q r h hx hy hr=>exact .strBin op t u x y p q r h (by rw[O x (by simp[h,Op.operands])];exact hx) (by rw[O y (by simp[h,Op.operands])];exact hy) hr
 |boolEq op t u x y p q r h hx hy hk hq=>exact .boolEq op t u x y p q r h (by rw[O x (by simp[h,Op.operands])];exact hx) (by rw[O y (by simp[h,Op.operands])];exact hy) hk hq
 |errEq op t u x c p q h hx hy hk hq=>exact .errEq op t u x c p q h (by rw[O x (by simp[h,Op.operands])];exact hx) (by rw[O (.const c) (by simp[h,Op.operands])];exact hy) hk hq
 |aggEq op t u x y la lb p q h hx hy ht hk hp hq=>exact .aggEq op t u x y la lb p q h (by rw[O x (by simp[h,Op.operands])];exact hx) (by rw[O y (by simp[h,Op.operands])];exact hy) ht hk hp hq
 |not t x b h hx=>exact .not t x b h (by rw[O x (by simp[h,Op.operands])];exact hx)
 |neg t x k n h hx=>exact .neg t x k n h (by rw[O x (by simp[h,Op.operands])];exact hx)
 |convInt src dst x k k' n h hx hk hz=>exact .convInt src dst x k k' n h (by rw[O x (by simp[h,Op.operands])];exact hx) hk hz
 |convStr src dst x l h hx hk hz=>exact .convStr src dst x l h (by rw[O x (by simp[h,Op.operands])];exact hx) hk hz
 |convBytes src dst x l h hx hk hz he=>exact .convBytes src dst x l h (by rw[O x (by simp[h,Op.operands])];exact hx) hk hz he
 |convText src dst x id ver l h hx hk hz he hm0=>exact .convText src dst x id ver l h (by rw[O x (by simp[h,Op.operands])];exact hx) hk hz he (by rw[hm id (by simp)];exact hm0)
 |cutStr t x lo hi p r l h' k k' h hx hk hl hh hr=>
  refine .cutStr t x lo hi p r l h' k k' h (by rw[O x (by simp[h,Op.operands])];exact hx) hk ?_ ?_ hr
  ·cases lo with
   |none=>exact hl
   |some y=>simp only[loS]at hl ⊢;rw[O y (by simp[h,Op.operands])];exact hl
  ·cases hi with
   |none=>exact hh
   |some y=>simp only[hiS]at hh ⊢;rw[O y (by simp[h,Op.operands])];exact hh
 |cutSl t x lo hi rows r l h' k k' h hx hk he hl hh hr=>
  refine .cutSl t x lo hi rows r l h' k k' h (by rw[O x (by simp[h,Op.operands])];exact hx) hk he ?_ ?_ hr
  ·cases lo with
   |none=>exact hl
   |some y=>simp only[loS]at hl ⊢;rw[O y (by simp[h,Op.operands])];exact hl
  ·cases hi with
   |none=>exact hh
   |some y=>simp only[hiS]at hh ⊢;rw[O y (by simp[h,Op.operands])];exact hh
 |convFz src dst x l h hx hk hz he=>exact .convFz src dst x l h (by rw[O x (by simp[h,Op.operands])];exact hx) hk hz he
 |cutW t x lo q y id ver rows r l k k' k2 h hx hm0 hk he hl hq hy hr=>exact .cutW t x lo q y id ver rows r l k k' k2 h (by rw[O x (by simp[h,Op.operands])];exact hx) (by rw[hm id (by simp)];exact hm0) hk he (by rw[O lo (by simp[h,Op.operands])];exact hl) (by rw[O q (by simp[h,Op.operands])];exact hq) (by rw[O y (by simp[h,Op.operands])];exact hy) hr
 |cutV t x lo id ver rows r l k h hx hm0 hk he hl hr=>exact .cutV t x lo id ver rows r l k h (by rw[O x (by simp[h,Op.operands])];exact hx) (by rw[hm id (by simp)];exact hm0) hk he (by rw[O lo (by simp[h,Op.operands])];exact hl) hr
 |cutE t x lo hi mx id ver rows r l h' k k' h hx hm0 hk he hl hh hr hmx=>
  refine .cutE t x lo hi mx id ver rows r l h' k k' h (by rw[O x (by simp[h,Op.operands])];exact hx) (by rw[hm id (by simp)];exact hm0) hk he ?_ ?_ hr ?_
  ·cases lo with
   |none=>exact hl
   |some y=>simp only[loS]at hl ⊢;rw[O y (by simp[h,Op.operands])];exact hl
  ·cases hi with
   |none=>exact hh
   |some y=>simp only[hiS]at hh ⊢;rw[O y (by simp[h,Op.operands])];exact hh
  ·rcases hmx with e|⟨y,z,k2,rfl,rfl,hy⟩
   ·exact .inl e
   ·exact .inr ⟨y,z,k2,rfl,rfl,by rw[O y (by simp[h,Op.operands])];exact hy⟩
 |fieldP t k x f id off h hf hk hfk hfz hx l hm0=>exact .fieldP t k x f id off h hf hk hfk hfz (by rw[O x (by simp[h,Op.operands])];exact hx) l (by rw[hm id (by simp)];exact hm0)
 |fieldR t k x f l h hf hk hfk hfz hx=>exact .fieldR t k x f l h hf hk hfk hfz (by rw[O x (by simp[h,Op.operands])];exact hx)
 |fieldE t k x f id ver off j h hf hk hfk hfz hx z rows hm0=>exact .fieldE t k x f id ver off j h hf hk hfk hfz (by rw[O x (by simp[h,Op.operands])];exact hx) z rows (by rw[hm id (by simp)];exact hm0)
 |field t k x f l h hf hk hfk hfz hx hl=>exact .field t k x f l h hf hk hfk hfz (by rw[O x (by simp[h,Op.operands])];exact hx) hl
 |idxR t x j k n rows row h hk he hx hj hi=>exact .idxR t x j k n rows row h hk he (by rw[O x (by simp[h,Op.operands])];exact hx) (by rw[O j (by simp[h,Op.operands])];exact hj) hi
 |idxE t x j k n id ver rows row h hk he hx hm0 hj hi=>exact .idxE t x j k n id ver rows row h hk he (by rw[O x (by simp[h,Op.operands])];exact hx) (by rw[hm id (by simp)];exact hm0) (by rw[O j (by simp[h,Op.operands])];exact hj) hi
 |index t x j k n l c h hk hx hj hi=>exact .index t x j k n l c h hk (by rw[O x (by simp[h,Op.operands])];exact hx) (by rw[O j (by simp[h,Op.operands])];exact hj) hi
 |extract x k l v h hx hv=>exact .extract x k l v h (by rw[O x (by simp[h,Op.operands])];exact hx) hv
 |makeFunc f cap h=>
  have:cap.toList.map (opnd s')=cap.toList.map (opnd s):=List.map_congr_left fun x hx=>O x (by simp only[h,Op.operands];simpa using hx)
  rw[←this]
  exact .makeFunc f cap h
 |builtin c b _ h hc hb=>
  have:c.args.toList.map (opnd s')=c.args.toList.map (opnd s):=List.map_congr_left fun x hx=>O x (by simp only[h,Op.operands,Call.operands,hc];simpa using hx)
  exact .builtin c b e h hc (by rw[this];exact built_congr hm hb)
 |callW c f g cap ts outs res mw h hc hf ht hn hw hb hz hk=>
  have ha:c.args.toList.map (opnd s')=c.args.toList.map (opnd s):=List.map_congr_left fun x hx=>O x (by simp only[h,Op.operands,Call.operands,hc];simp;exact .inr (by simpa using hx))
  have hf':=O f (by simp[h,Op.operands,Call.operands,hc])
  rw[←ha]at ht hn hb hk hm ⊢
  refine .callW c f g cap ts outs res mw h hc (by rw[hf'];exact hf) ?_ hn hw ?_ hz hk
  ·exact all2_imp (fun v hv t htt=>rbo_congr 4 v t (fun id hid=>hm id (refsL_in hv hid)) htt) ht
  ·rw[backs_congr _ _ hm];exact hb
 |callP c f g cap id r l l0 ts l1 res h hc hf hv hm0 hl ht hp hid hq hw hi=>
  have ha:c.args.toList.map (opnd s')=c.args.toList.map (opnd s):=List.map_congr_left fun x hx=>O x (by simp only[h,Op.operands,Call.operands,hc];simp;exact .inr (by simpa using hx))
  have hf':=O f (by simp[h,Op.operands,Call.operands,hc])
  refine .callP c f g cap id r l l0 ts l1 res h hc (by rw[hf'];exact hf) (by rw[ha];exact hv) (by rw[hm id (by simp)];exact hm0) hl ?_ hp hid hq hw hi
  refine all2_imp (fun v hv t htt=>rb_congr 4 v t (fun id hid=>hm id ?_) htt) ht
  rw[plain_deep 4 v (List.all_eq_true.1 hp v hv)]at hid
  simp only[List.mem_cons,List.mem_append]
  exact .inr (.inr (refsL_in hv hid))
 |callT c f g cap id ver sz r rows ts res out h hc hf hv hm0 ht hp hid hw hi=>
  have ha:c.args.toList.map (opnd s')=c.args.toList.map (opnd s):=List.map_congr_left fun x hx=>O x (by simp only[h,Op.operands,Call.operands,hc];simp;exact .inr (by simpa using hx))
  have hf':=O f (by simp[h,Op.operands,Call.operands,hc])
  refine .callT c f g cap id ver sz r rows ts res out h hc (by rw[hf'];exact hf) (by rw[ha];exact hv) (by rw[hm id (by simp)];exact hm0) ?_ hp hid hw hi
  refine all2_imp (fun v hv t htt=>rb_congr 4 v t (fun id hid=>hm id ?_) htt) ht
  rw[plain_deep 4 v (List.all_eq_true.1 hp v hv)]at hid
  simp only[List.mem_cons,List.mem_append]
  exact .inr (.inr (refsL_in hv hid))
 |callB c f g cap ts l1 h hc hf ht hp hw=>
  have ha:c.args.toList.map (opnd s')=c.args.toList.map (opnd s):=List.map_congr_left fun x hx=>O x (by simp only[h,Op.operands,Call.operands,hc];simp;exact .inr (by simpa using hx))
  have hf':=O f (by simp[h,Op.operands,Call.operands,hc])
  rw[←ha]at ht hp hm ⊢
  refine .callB c f g cap ts l1 h hc (by rw[hf'];exact hf) ?_ hp hw
  refine all2_imp (fun v hv t htt=>rb_congr 4 v t (fun id hid=>hm id ?_) htt) ht
  rw[plain_deep 4 v (List.all_eq_true.1 hp v hv)]at hid
  exact List.mem_cons_of_mem _ (refsL_in hv hid)
 |call c f g cap ts res h hc hf ht hw hi=>
  have ha:c.args.toList.map (opnd s')=c.args.toList.map (opnd s):=List.map_congr_left fun x hx=>O x (by simp only[h,Op.operands,Call.operands,hc];simp;exact .inr (by simpa using hx))
  have hf':=O f (by simp[h,Op.operands,Call.operands,hc])
  rw[←ha]at ht hm ⊢
  have hd:(c.args.toList.map (opnd s')++cap).flatMap (deepRefs m 4)=(c.args.toList.map (opnd s')++cap).flatMap (deepRefs m' 4):=by
   simp only[List.flatMap]
   congr 1
   refine List.map_congr_left fun v hv=> ?_
   exact(deep_congr 4 v fun id hid=>hm id (by simp only[List.mem_append,List.mem_flatMap];exact .inr ⟨v,by simpa using hv,hid⟩)).symm
  have ht':all2 (rb m' 4) (c.args.toList.map (opnd s')++cap) ts:=
   all2_imp (fun v hv t htt=>rb_congr 4 v t (fun id hid=>hm id (by simp only[List.mem_append,List.mem_flatMap];exact .inr ⟨v,by simpa using hv,hid⟩)) htt) ht
  rw[hd]
  exact .call c f g cap ts res h hc (by rw[hf'];exact hf) ht' hw hi
end
end Go.Pv

/- What the laws' own functions come to. Nothing is claimed here. -/
import Derived.Test.YtnidlohhndpjdaaGreatDoorKf
import Derived.Test.YtnidlohhndpjdaaGreatDoorPu6
set_option linter.unusedSimpArgs false
set_option linter.unusedVariables false
set_option maxRecDepth 100000
namespace Go.YtnidlohhndpjdaaGreatDoor
open Go Go.RowKit Go.Pv Go.Pu
def V_LVersion(a:LVersion):Prop:=InI a.At∧InS a.Text∧(fun _=>True) a.Gone
def sz_LVersion(a:LVersion):Nat:=a.Text.length
def to_LVersion(a:LVersion):IVersion:=⟨a.At,a.Text,a.Gone⟩
def V_LResource(a:LResource):Prop:=InS a.Target∧InS a.Control∧InS a.Keys∧(fun _=>True) a.Private∧(InL InS) a.Langs∧(InL V_LVersion) a.Versions
def sz_LResource(a:LResource):Nat:=a.Target.length+a.Control.length+a.Keys.length+szL List.length a.Langs+szL sz_LVersion a.Versions
def to_LResource(a:LResource):IResource:=⟨a.Target,a.Control,a.Keys,a.Private,a.Langs,(a.Versions.map to_LVersion)⟩
def V_LOrigin(a:LOrigin):Prop:=InS a.Host∧(InL V_LResource) a.Resources
def sz_LOrigin(a:LOrigin):Nat:=a.Host.length+szL sz_LResource a.Resources
def to_LOrigin(a:LOrigin):IOrigin:=⟨a.Host,(a.Resources.map to_LResource)⟩
def V_LField(a:LField):Prop:=InS a.Name∧InS a.Value
def sz_LField(a:LField):Nat:=a.Name.length+a.Value.length
def to_LField(a:LField):IField:=⟨a.Name,a.Value⟩
def V_LRequest(a:LRequest):Prop:=InS a.Method∧InS a.Host∧InS a.Target∧(InL V_LField) a.Fields
def sz_LRequest(a:LRequest):Nat:=a.Method.length+a.Host.length+a.Target.length+szL sz_LField a.Fields
def to_LRequest(a:LRequest):IRequest:=⟨a.Method,a.Host,a.Target,(a.Fields.map to_LField)⟩
theorem V_LVersion_of{x:LVersion}(h:∀v∈X.E 77 x,∀d,VV X d v):V_LVersion x:=⟨(vv_i (h _ (.head _))),(vv_s (h _ (.tail _ (.head _)))),trivial⟩
theorem V_LResource_of{x:LResource}(h:∀v∈X.E 177 x,∀d,VV X d v):V_LResource x:=⟨(vv_s (h _ (.head _))),(vv_s (h _ (.tail _ (.head _)))),(vv_s (h _ (.tail _ (.tail _ (.head _))))),trivial,(vv_l (h _ (.tail _ (.tail _ (.tail _ (.tail _ (.head _)))))) (fun x h=>(vv_s (h _ (.head _))))),(vv_l (h _ (.tail _ (.tail _ (.tail _ (.tail _ (.tail _ (.head _))))))) (fun x h=>V_LVersion_of h))⟩
theorem V_LField_of{x:LField}(h:∀v∈X.E 179 x,∀d,VV X d v):V_LField x:=⟨(vv_s (h _ (.head _))),(vv_s (h _ (.tail _ (.head _))))⟩
theorem L_toStringS_eq{k:Nat}(hk:1073741824≤k)(a:List (List UInt8))(h:szL List.length a≤1048576):L_toStringS k a=some a:=by
 have h1:a.length≤1048576:=by unfold szL at h;omega
 rw[L_toStringS,guardT_self,mks_ok (by omega),Option.bind_some,to_str (F:=L_toStringS_b0 k) (fun _ _ _ _=>rfl) (by omega) (by omega)]
 rfl
theorem L_szStringS_eq{k:Nat}(hk:1073741824≤k){a:List (List UInt8)}(h:InL InS a)(l:Int)(h0:0≤l)(h1:l≤1048576):L_szStringS k a l=some (if(szL List.length a:Int)≤l then l -szL List.length a else -1):=
 sz_str (F:=L_szStringS_b0 k) (fun _ _ _ _=>rfl) h.2 h.1 h0 h1 (by omega)
theorem L_eqStringS_eq{k:Nat}(hk:1073741824≤k)(a b:List (List UInt8))(h:a.length<1073741824):L_eqStringS k a b=some (decide (a=b)):=eq_str (F:=L_eqStringS_b0 k) (fun _ _ _ _=>rfl) (by omega) (by omega)
theorem L_toVersion_eq{k:Nat}(hk:1073741824≤k)(a:LVersion)(h:sz_LVersion a≤1048576):L_toVersion k a=some (to_LVersion a):=rfl
theorem L_toVersionS_eq{k:Nat}(hk:1073741824≤k)(a:List (LVersion))(h:szL sz_LVersion a≤1048576):L_toVersionS k a=some (a.map to_LVersion):=by
 have h1:a.length≤1048576:=by unfold szL at h;omega
 rw[L_toVersionS,guardT_self,mks_ok (by omega),Option.bind_some,to_all (F:=L_toVersionS_b0 k) (f:=(L_toVersion k)) (g:=to_LVersion) (fun _ _ _ _=>rfl) (fun e he=>L_toVersion_eq hk e (by have:=sz_mem (g:=sz_LVersion) he;omega)) (by omega) (by omega)]
 rfl
theorem L_szVersion_eq{k:Nat}(hk:1073741824≤k){a:LVersion}(h:V_LVersion a)(l:Int)(h0:0≤l)(h1:l≤1048576):L_szVersion k a l=some (if(sz_LVersion a:Int)≤l then l -sz_LVersion a else -1):=by
 unfold V_LVersion InS at h
 unfold sz_LVersion L_szVersion
 have v0:=h.2.1
 rw[wrap_id (by omega) (by omega),bif_dec]
 by_cases c0:l -((a.Text.length:Nat):Int)<0
 ·rw[if_pos c0,if_neg (by push_cast;omega)]
 rw[if_neg c0]
 rw[if_pos (by push_cast;omega)]
 try exact congrArg some (by first|rfl|(push_cast;omega))
theorem L_szVersionS_eq{k:Nat}(hk:1073741824≤k){a:List (LVersion)}(h:InL V_LVersion a)(l:Int)(h0:0≤l)(h1:l≤1048576):L_szVersionS k a l=some (if(szL sz_LVersion a:Int)≤l then l -szL sz_LVersion a else -1):=
 sz_all (F:=L_szVersionS_b0 k) (f:=L_szVersion k) (g:=sz_LVersion) (fun _ _ _ _=>rfl) (fun e he l h0 h1=>L_szVersion_eq hk (h.2 e he) l h0 h1) h.1 h0 h1 (by omega)
theorem L_eqVersion_eq{k:Nat}(hk:1073741824≤k)(a b:IVersion):L_eqVersion k a b=some (decide (a=b)):=by
 obtain⟨a0,a1,a2⟩:=a
 obtain⟨b0,b1,b2⟩:=b
 simp only[L_eqVersion,IVersion.mk.injEq]
 by_cases e0:a0=b0
 case neg=>simp[e0,bne_ne e0,beq_ne e0]
 by_cases e1:a1=b1
 case neg=>simp[e0,e1,bne_ne e1,beq_ne e1]
 by_cases e2:a2=b2
 case neg=>simp[e0,e1,e2,bne_ne e2,beq_ne e2]
 simp[e0,e1,e2]
theorem L_eqVersionS_eq{k:Nat}(hk:1073741824≤k)(a b:List (IVersion))(h:a.length<1073741824):L_eqVersionS k a b=some (decide (a=b)):=eq_all (F:=L_eqVersionS_b0 k) (f:=L_eqVersion k) (fun _ _ _ _=>rfl) (fun e he e' _=>L_eqVersion_eq hk e e') (by omega) (by omega)
theorem L_toResource_eq{k:Nat}(hk:1073741824≤k)(a:LResource)(h:sz_LResource a≤1048576):L_toResource k a=some (to_LResource a):=by
 unfold sz_LResource at h
 rw[L_toResource,L_toStringS_eq hk a.Langs (by omega),Option.bind_some,L_toVersionS_eq hk a.Versions (by omega),Option.bind_some]
 rfl
theorem L_toResourceS_eq{k:Nat}(hk:1073741824≤k)(a:List (LResource))(h:szL sz_LResource a≤1048576):L_toResourceS k a=some (a.map to_LResource):=by
 have h1:a.length≤1048576:=by unfold szL at h;omega
 rw[L_toResourceS,guardT_self,mks_ok (by omega),Option.bind_some,to_all (F:=L_toResourceS_b0 k) (f:=(L_toResource k)) (g:=to_LResource) (fun _ _ _ _=>rfl) (fun e he=>L_toResource_eq hk e (by have:=sz_mem (g:=sz_LResource) he;omega)) (by omega) (by omega)]
 rfl
theorem L_szResource_eq{k:Nat}(hk:1073741824≤k){a:LResource}(h:V_LResource a)(l:Int)(h0:0≤l)(h1:l≤1048576):L_szResource k a l=some (if(sz_LResource a:Int)≤l then l -sz_LResource a else -1):=by
 unfold V_LResource InS at h
 unfold sz_LResource L_szResource
 have v0:=h.1
 have v1:=h.2.1
 have v2:=h.2.2.1
 have v3:=h.2.2.2.2.1
 have v4:=h.2.2.2.2.2
 rw[wrap_id (by omega) (by omega),bif_dec]
 by_cases c0:l -((a.Target.length:Nat):Int)<0
 ·rw[if_pos c0,if_neg (by push_cast;omega)]
 rw[if_neg c0]
 rw[wrap_id (by omega) (by omega),bif_dec]
 by_cases c1:l -(a.Target.length:Nat) -((a.Control.length:Nat):Int)<0
 ·rw[if_pos c1,if_neg (by push_cast;omega)]
 rw[if_neg c1]
 rw[wrap_id (by omega) (by omega),bif_dec]
 by_cases c2:l -(a.Target.length:Nat) -(a.Control.length:Nat) -((a.Keys.length:Nat):Int)<0
 ·rw[if_pos c2,if_neg (by push_cast;omega)]
 rw[if_neg c2]
 rw[L_szStringS_eq hk v3 _ (by omega) (by omega),Option.bind_some,bif_dec]
 by_cases c3:((szL List.length a.Langs:Nat):Int)≤l -(a.Target.length:Nat) -(a.Control.length:Nat) -(a.Keys.length:Nat)
 case neg=>rw[if_neg c3,if_pos (by omega),if_neg (by push_cast;omega)]
 rw[if_pos c3,if_neg (by omega)]
 rw[L_szVersionS_eq hk v4 _ (by omega) (by omega),Option.bind_some,bif_dec]
 by_cases c4:((szL sz_LVersion a.Versions:Nat):Int)≤l -(a.Target.length:Nat) -(a.Control.length:Nat) -(a.Keys.length:Nat) -(szL List.length a.Langs:Nat)
 case neg=>rw[if_neg c4,if_pos (by omega),if_neg (by push_cast;omega)]
 rw[if_pos c4,if_neg (by omega)]
 rw[if_pos (by push_cast;omega)]
 try exact congrArg some (by first|rfl|(push_cast;omega))
theorem L_szResourceS_eq{k:Nat}(hk:1073741824≤k){a:List (LResource)}(h:InL V_LResource a)(l:Int)(h0:0≤l)(h1:l≤1048576):L_szResourceS k a l=some (if(szL sz_LResource a:Int)≤l then l -szL sz_LResource a else -1):=
 sz_all (F:=L_szResourceS_b0 k) (f:=L_szResource k) (g:=sz_LResource) (fun _ _ _ _=>rfl) (fun e he l h0 h1=>L_szResource_eq hk (h.2 e he) l h0 h1) h.1 h0 h1 (by omega)
theorem L_eqResource_eq{k:Nat}(hk:1073741824≤k)(a b:IResource)(h0:a.Langs.length<1073741824)(h1:a.Versions.length<1073741824):L_eqResource k a b=some (decide (a=b)):=by
 obtain⟨a0,a1,a2,a3,a4,a5⟩:=a
 obtain⟨b0,b1,b2,b3,b4,b5⟩:=b
 simp only[L_eqResource,L_eqStringS_eq hk _ _ h0,Option.bind_some,L_eqVersionS_eq hk _ _ h1,Option.bind_some,IResource.mk.injEq]
 by_cases e0:a0=b0
 case neg=>simp[e0,bne_ne e0,beq_ne e0]
 by_cases e1:a1=b1
 case neg=>simp[e0,e1,bne_ne e1,beq_ne e1]
 by_cases e2:a2=b2
 case neg=>simp[e0,e1,e2,bne_ne e2,beq_ne e2]
 by_cases e3:a3=b3
 case neg=>simp[e0,e1,e2,e3,bne_ne e3,beq_ne e3]
 by_cases e4:a4=b4
 case neg=>simp[e0,e1,e2,e3,e4,bne_ne e4,beq_ne e4]
 by_cases e5:a5=b5
 case neg=>simp[e0,e1,e2,e3,e4,e5,bne_ne e5,beq_ne e5]
 simp[e0,e1,e2,e3,e4,e5]
theorem L_eqResourceS_eq{k:Nat}(hk:1073741824≤k)(a b:List (IResource))(h:a.length<1073741824)(g:∀e∈a,e.Langs.length<1073741824∧e.Versions.length<1073741824):L_eqResourceS k a b=some (decide (a=b)):=eq_all (F:=L_eqResourceS_b0 k) (f:=L_eqResource k) (fun _ _ _ _=>rfl) (fun e he e' _=>L_eqResource_eq hk e e' (g e he).1 (g e he).2) (by omega) (by omega)
theorem L_toOrigin_eq{k:Nat}(hk:1073741824≤k)(a:LOrigin)(h:sz_LOrigin a≤1048576):L_toOrigin k a=some (to_LOrigin a):=by
 unfold sz_LOrigin at h
 rw[L_toOrigin,L_toResourceS_eq hk a.Resources (by omega),Option.bind_some]
 rfl
theorem L_szOrigin_eq{k:Nat}(hk:1073741824≤k){a:LOrigin}(h:V_LOrigin a)(l:Int)(h0:0≤l)(h1:l≤1048576):L_szOrigin k a l=some (if(sz_LOrigin a:Int)≤l then l -sz_LOrigin a else -1):=by
 unfold V_LOrigin InS at h
 unfold sz_LOrigin L_szOrigin
 have v0:=h.1
 have v1:=h.2
 rw[wrap_id (by omega) (by omega),bif_dec]
 by_cases c0:l -((a.Host.length:Nat):Int)<0
 ·rw[if_pos c0,if_neg (by push_cast;omega)]
 rw[if_neg c0]
 rw[L_szResourceS_eq hk v1 _ (by omega) (by omega),Option.bind_some,bif_dec]
 by_cases c1:((szL sz_LResource a.Resources:Nat):Int)≤l -(a.Host.length:Nat)
 case neg=>rw[if_neg c1,if_pos (by omega),if_neg (by push_cast;omega)]
 rw[if_pos c1,if_neg (by omega)]
 rw[if_pos (by push_cast;omega)]
 try exact congrArg some (by first|rfl|(push_cast;omega))
theorem L_eqOrigin_eq{k:Nat}(hk:1073741824≤k)(a b:IOrigin)(h0:a.Resources.length<1073741824)(g0:∀e∈a.Resources,e.Langs.length<1073741824∧e.Versions.length<1073741824):L_eqOrigin k a b=some (decide (a=b)):=by
 obtain⟨a0,a1⟩:=a
 obtain⟨b0,b1⟩:=b
 simp only[L_eqOrigin,L_eqResourceS_eq hk _ _ h0 g0,Option.bind_some,IOrigin.mk.injEq]
 by_cases e0:a0=b0
 case neg=>simp[e0,bne_ne e0,beq_ne e0]
 by_cases e1:a1=b1
 case neg=>simp[e0,e1,bne_ne e1,beq_ne e1]
 simp[e0,e1]
theorem L_toField_eq{k:Nat}(hk:1073741824≤k)(a:LField)(h:sz_LField a≤1048576):L_toField k a=some (to_LField a):=rfl
theorem L_toFieldS_eq{k:Nat}(hk:1073741824≤k)(a:List (LField))(h:szL sz_LField a≤1048576):L_toFieldS k a=some (a.map to_LField):=by
 have h1:a.length≤1048576:=by unfold szL at h;omega
 rw[L_toFieldS,guardT_self,mks_ok (by omega),Option.bind_some,to_all (F:=L_toFieldS_b0 k) (f:=(L_toField k)) (g:=to_LField) (fun _ _ _ _=>rfl) (fun e he=>L_toField_eq hk e (by have:=sz_mem (g:=sz_LField) he;omega)) (by omega) (by omega)]
 rfl
theorem L_szField_eq{k:Nat}(hk:1073741824≤k){a:LField}(h:V_LField a)(l:Int)(h0:0≤l)(h1:l≤1048576):L_szField k a l=some (if(sz_LField a:Int)≤l then l -sz_LField a else -1):=by
 unfold V_LField InS at h
 unfold sz_LField L_szField
 have v0:=h.1
 have v1:=h.2
 rw[wrap_id (by omega) (by omega),bif_dec]
 by_cases c0:l -((a.Name.length:Nat):Int)<0
 ·rw[if_pos c0,if_neg (by push_cast;omega)]
 rw[if_neg c0]
 rw[wrap_id (by omega) (by omega),bif_dec]
 by_cases c1:l -(a.Name.length:Nat) -((a.Value.length:Nat):Int)<0
 ·rw[if_pos c1,if_neg (by push_cast;omega)]
 rw[if_neg c1]
 rw[if_pos (by push_cast;omega)]
 try exact congrArg some (by first|rfl|(push_cast;omega))
theorem L_szFieldS_eq{k:Nat}(hk:1073741824≤k){a:List (LField)}(h:InL V_LField a)(l:Int)(h0:0≤l)(h1:l≤1048576):L_szFieldS k a l=some (if(szL sz_LField a:Int)≤l then l -szL sz_LField a else -1):=
 sz_all (F:=L_szFieldS_b0 k) (f:=L_szField k) (g:=sz_LField) (fun _ _ _ _=>rfl) (fun e he l h0 h1=>L_szField_eq hk (h.2 e he) l h0 h1) h.1 h0 h1 (by omega)
theorem L_eqField_eq{k:Nat}(hk:1073741824≤k)(a b:IField):L_eqField k a b=some (decide (a=b)):=by
 obtain⟨a0,a1⟩:=a
 obtain⟨b0,b1⟩:=b
 simp only[L_eqField,IField.mk.injEq]
 by_cases e0:a0=b0
 case neg=>simp[e0,bne_ne e0,beq_ne e0]
 by_cases e1:a1=b1
 case neg=>simp[e0,e1,bne_ne e1,beq_ne e1]
 simp[e0,e1]
theorem L_eqFieldS_eq{k:Nat}(hk:1073741824≤k)(a b:List (IField))(h:a.length<1073741824):L_eqFieldS k a b=some (decide (a=b)):=eq_all (F:=L_eqFieldS_b0 k) (f:=L_eqField k) (fun _ _ _ _=>rfl) (fun e he e' _=>L_eqField_eq hk e e') (by omega) (by omega)
theorem L_toRequest_eq{k:Nat}(hk:1073741824≤k)(a:LRequest)(h:sz_LRequest a≤1048576):L_toRequest k a=some (to_LRequest a):=by
 unfold sz_LRequest at h
 rw[L_toRequest,L_toFieldS_eq hk a.Fields (by omega),Option.bind_some]
 rfl
theorem L_szRequest_eq{k:Nat}(hk:1073741824≤k){a:LRequest}(h:V_LRequest a)(l:Int)(h0:0≤l)(h1:l≤1048576):L_szRequest k a l=some (if(sz_LRequest a:Int)≤l then l -sz_LRequest a else -1):=by
 unfold V_LRequest InS at h
 unfold sz_LRequest L_szRequest
 have v0:=h.1
 have v1:=h.2.1
 have v2:=h.2.2.1
 have v3:=h.2.2.2
 rw[wrap_id (by omega) (by omega),bif_dec]
 by_cases c0:l -((a.Method.length:Nat):Int)<0
 ·rw[if_pos c0,if_neg (by push_cast;omega)]
 rw[if_neg c0]
 rw[wrap_id (by omega) (by omega),bif_dec]
 by_cases c1:l -(a.Method.length:Nat) -((a.Host.length:Nat):Int)<0
 ·rw[if_pos c1,if_neg (by push_cast;omega)]
 rw[if_neg c1]
 rw[wrap_id (by omega) (by omega),bif_dec]
 by_cases c2:l -(a.Method.length:Nat) -(a.Host.length:Nat) -((a.Target.length:Nat):Int)<0
 ·rw[if_pos c2,if_neg (by push_cast;omega)]
 rw[if_neg c2]
 rw[L_szFieldS_eq hk v3 _ (by omega) (by omega),Option.bind_some,bif_dec]
 by_cases c3:((szL sz_LField a.Fields:Nat):Int)≤l -(a.Method.length:Nat) -(a.Host.length:Nat) -(a.Target.length:Nat)
 case neg=>rw[if_neg c3,if_pos (by omega),if_neg (by push_cast;omega)]
 rw[if_pos c3,if_neg (by omega)]
 rw[if_pos (by push_cast;omega)]
 try exact congrArg some (by first|rfl|(push_cast;omega))
theorem L_eqRequest_eq{k:Nat}(hk:1073741824≤k)(a b:IRequest)(h0:a.Fields.length<1073741824):L_eqRequest k a b=some (decide (a=b)):=by
 obtain⟨a0,a1,a2,a3⟩:=a
 obtain⟨b0,b1,b2,b3⟩:=b
 simp only[L_eqRequest,L_eqFieldS_eq hk _ _ h0,Option.bind_some,IRequest.mk.injEq]
 by_cases e0:a0=b0
 case neg=>simp[e0,bne_ne e0,beq_ne e0]
 by_cases e1:a1=b1
 case neg=>simp[e0,e1,bne_ne e1,beq_ne e1]
 by_cases e2:a2=b2
 case neg=>simp[e0,e1,e2,bne_ne e2,beq_ne e2]
 by_cases e3:a3=b3
 case neg=>simp[e0,e1,e2,e3,bne_ne e3,beq_ne e3]
 simp[e0,e1,e2,e3]
theorem L_eqResponse_eq{k:Nat}(hk:1073741824≤k)(a b:IResponse)(h0:a.Fields.length<1073741824):L_eqResponse k a b=some (decide (a=b)):=by
 obtain⟨a0,a1,a2⟩:=a
 obtain⟨b0,b1,b2⟩:=b
 simp only[L_eqResponse,L_eqFieldS_eq hk _ _ h0,Option.bind_some,IResponse.mk.injEq]
 by_cases e0:a0=b0
 case neg=>simp[e0,bne_ne e0,beq_ne e0]
 by_cases e1:a1=b1
 case neg=>simp[e0,e1,bne_ne e1,beq_ne e1]
 by_cases e2:a2=b2
 case neg=>simp[e0,e1,e2,bne_ne e2,beq_ne e2]
 simp[e0,e1,e2]
theorem L_markText_eq{k:Nat}(hk:1073741824≤k){m:Int}(h0:0<m)(h1:m≤1099511627787):L_markText k m=some (mText m):=markText_all (F:=L_markText_b0 k) (fun _ _ _=>rfl) hk h0 h1
def mk_String(m:Int)(e:List UInt8):List UInt8:=mText m
theorem L_markStringS_eq{k:Nat}(hk:1073741824≤k)(r:List (List UInt8))(h:r.length<1073741824):L_markStringS k r 1=some (1+((1:Nat):Int)*(r.length:Int),marks mk_String 1 1 r):=by
 rw[L_markStringS,mark_all (F:=L_markStringS_b0 k) (g:=mk_String) (c:=1) (fun n m i r h h0 hm hr=> ?_) (fun n m i r h=> ?_) (by omega) (by omega) (by push_cast;omega) (by omega)]
 ·rfl
 ·rw[L_markStringS_b0]
  simp (disch:=first|omega|(simp only[List.length_set];omega)) only[bif_dec,lt_cast,h,if_true,idx_nat h,idx_set,Option.bind_some,wrap_id,Int.toNat_natCast,List.set_set,L_markText_eq hk,md3]
  simp only[mk_String,Int.add_assoc,List.getElem_set_self]
  rfl
 ·rw[L_markStringS_b0,bif_dec,if_neg (by omega)]
theorem L_markStringS_eqm{k:Nat}(hk:1073741824≤k)(r:List (List UInt8))(h:r.length<1073741824)(m:Int)(hm0:0<m)(hm1:m+((1:Nat):Int)*(r.length:Int)≤1099511627776):L_markStringS k r m=some (m+((1:Nat):Int)*(r.length:Int),marks mk_String 1 m r):=by
 rw[L_markStringS,mark_all (F:=L_markStringS_b0 k) (g:=mk_String) (c:=1) (fun n m i r h h0 hm hr=> ?_) (fun n m i r h=> ?_) (by omega) hm0 hm1 (by omega)]
 ·rfl
 ·rw[L_markStringS_b0]
  simp (disch:=first|omega|(simp only[List.length_set];omega)) only[bif_dec,lt_cast,h,if_true,idx_nat h,idx_set,Option.bind_some,wrap_id,Int.toNat_natCast,List.set_set,L_markText_eq hk,md3]
  simp only[mk_String,Int.add_assoc,List.getElem_set_self]
  rfl
 ·rw[L_markStringS_b0,bif_dec,if_neg (by omega)]
def mk_Version(m:Int)(e:IVersion):IVersion:=⟨m,mText (m+1),((m+2).tmod 3==0)⟩
theorem L_markVersionS_eq{k:Nat}(hk:1073741824≤k)(r:List (IVersion))(h:r.length<1073741824):L_markVersionS k r 1=some (1+((3:Nat):Int)*(r.length:Int),marks mk_Version 3 1 r):=by
 rw[L_markVersionS,mark_all (F:=L_markVersionS_b0 k) (g:=mk_Version) (c:=3) (fun n m i r h h0 hm hr=> ?_) (fun n m i r h=> ?_) (by omega) (by omega) (by push_cast;omega) (by omega)]
 ·rfl
 ·rw[L_markVersionS_b0]
  simp (disch:=first|omega|(simp only[List.length_set];omega)) only[bif_dec,lt_cast,h,if_true,idx_nat h,idx_set,Option.bind_some,wrap_id,Int.toNat_natCast,List.set_set,L_markText_eq hk,md3]
  simp only[mk_Version,Int.add_assoc,List.getElem_set_self]
  rfl
 ·rw[L_markVersionS_b0,bif_dec,if_neg (by omega)]
theorem L_markVersionS_eqm{k:Nat}(hk:1073741824≤k)(r:List (IVersion))(h:r.length<1073741824)(m:Int)(hm0:0<m)(hm1:m+((3:Nat):Int)*(r.length:Int)≤1099511627776):L_markVersionS k r m=some (m+((3:Nat):Int)*(r.length:Int),marks mk_Version 3 m r):=by
 rw[L_markVersionS,mark_all (F:=L_markVersionS_b0 k) (g:=mk_Version) (c:=3) (fun n m i r h h0 hm hr=> ?_) (fun n m i r h=> ?_) (by omega) hm0 hm1 (by omega)]
 ·rfl
 ·rw[L_markVersionS_b0]
  simp (disch:=first|omega|(simp only[List.length_set];omega)) only[bif_dec,lt_cast,h,if_true,idx_nat h,idx_set,Option.bind_some,wrap_id,Int.toNat_natCast,List.set_set,L_markText_eq hk,md3]
  simp only[mk_Version,Int.add_assoc,List.getElem_set_self]
  rfl
 ·rw[L_markVersionS_b0,bif_dec,if_neg (by omega)]
def mk_Field(m:Int)(e:IField):IField:=⟨mText m,mText (m+1)⟩
theorem L_markFieldS_eq{k:Nat}(hk:1073741824≤k)(r:List (IField))(h:r.length<1073741824):L_markFieldS k r 1=some (1+((2:Nat):Int)*(r.length:Int),marks mk_Field 2 1 r):=by
 rw[L_markFieldS,mark_all (F:=L_markFieldS_b0 k) (g:=mk_Field) (c:=2) (fun n m i r h h0 hm hr=> ?_) (fun n m i r h=> ?_) (by omega) (by omega) (by push_cast;omega) (by omega)]
 ·rfl
 ·rw[L_markFieldS_b0]
  simp (disch:=first|omega|(simp only[List.length_set];omega)) only[bif_dec,lt_cast,h,if_true,idx_nat h,idx_set,Option.bind_some,wrap_id,Int.toNat_natCast,List.set_set,L_markText_eq hk,md3]
  simp only[mk_Field,Int.add_assoc,List.getElem_set_self]
  rfl
 ·rw[L_markFieldS_b0,bif_dec,if_neg (by omega)]
theorem L_markFieldS_eqm{k:Nat}(hk:1073741824≤k)(r:List (IField))(h:r.length<1073741824)(m:Int)(hm0:0<m)(hm1:m+((2:Nat):Int)*(r.length:Int)≤1099511627776):L_markFieldS k r m=some (m+((2:Nat):Int)*(r.length:Int),marks mk_Field 2 m r):=by
 rw[L_markFieldS,mark_all (F:=L_markFieldS_b0 k) (g:=mk_Field) (c:=2) (fun n m i r h h0 hm hr=> ?_) (fun n m i r h=> ?_) (by omega) hm0 hm1 (by omega)]
 ·rfl
 ·rw[L_markFieldS_b0]
  simp (disch:=first|omega|(simp only[List.length_set];omega)) only[bif_dec,lt_cast,h,if_true,idx_nat h,idx_set,Option.bind_some,wrap_id,Int.toNat_natCast,List.set_set,L_markText_eq hk,md3]
  simp only[mk_Field,Int.add_assoc,List.getElem_set_self]
  rfl
 ·rw[L_markFieldS_b0,bif_dec,if_neg (by omega)]
theorem L_heldFieldS_eq{k:Nat}(hk:1073741824≤k)(r:List (IField))(h:r.length<1073741824):L_heldFieldS k (marks mk_Field 2 1 r) 1=some (1+((2:Nat):Int)*(r.length:Int)):=by
 rw[L_heldFieldS,held_all (F:=L_heldFieldS_b0 k) (g:=mk_Field) (c:=2) (fun n x m i h e h0 hm hx he=> ?_) (fun n x m i h=> ?_) (by omega) (by omega) (by push_cast;omega) (by omega)]
 ·rfl
 ·rw[L_heldFieldS_b0]
  simp (disch:=omega) only[bif_dec,lt_cast,h,if_true,idx_nat h,he,mk_Field,Option.bind_some,wrap_id,L_markText_eq hk,md3,bne_self_eq_false,cond_false,BEq.rfl,Bool.not_true,Int.add_assoc,Int.reduceAdd]
  rfl
 ·rw[L_heldFieldS_b0,bif_dec,if_neg (by omega)]
theorem L_heldFieldS_eqm{k:Nat}(hk:1073741824≤k)(r:List (IField))(h:r.length<1073741824)(m:Int)(hm0:0<m)(hm1:m+((2:Nat):Int)*(r.length:Int)≤1099511627776):L_heldFieldS k (marks mk_Field 2 m r) m=some (m+((2:Nat):Int)*(r.length:Int)):=by
 rw[L_heldFieldS,held_all (F:=L_heldFieldS_b0 k) (g:=mk_Field) (c:=2) (fun n x m i h e h0 hm hx he=> ?_) (fun n x m i h=> ?_) (by omega) hm0 hm1 (by omega)]
 ·rfl
 ·rw[L_heldFieldS_b0]
  simp (disch:=omega) only[bif_dec,lt_cast,h,if_true,idx_nat h,he,mk_Field,Option.bind_some,wrap_id,L_markText_eq hk,md3,bne_self_eq_false,cond_false,BEq.rfl,Bool.not_true,Int.add_assoc,Int.reduceAdd]
  rfl
 ·rw[L_heldFieldS_b0,bif_dec,if_neg (by omega)]
theorem L_markRequest_eq{k:Nat}(hk:1073741824≤k)(r:IRequest)(h:r.Fields.length<1073741824):L_markRequest_f k (r.Method,r.Host,r.Target,r.Fields,()) 1=some (1+((2:Nat):Int)*(r.Fields.length:Int),(r.Method,r.Host,r.Target,marks mk_Field 2 1 r.Fields,())):=by
 rw[L_markRequest_f,L_markRequest,L_markFieldS_eq hk _ h];rfl
theorem L_markResponse_eq{k:Nat}(hk:1073741824≤k)(r:IResponse)(h:r.Fields.length<1073741824):L_markResponse_f k (r.Code,r.Fields,r.Body,()) 1=some (1+((2:Nat):Int)*(r.Fields.length:Int),(r.Code,marks mk_Field 2 1 r.Fields,r.Body,())):=by
 rw[L_markResponse_f,L_markResponse,L_markFieldS_eq hk _ h];rfl
theorem L_heldResponse_eq{k:Nat}(hk:1073741824≤k)(r:IResponse)(h:r.Fields.length<1073741824):L_heldResponse k (⟨r.Code,(marks mk_Field 2 1 r.Fields),r.Body⟩:IResponse) 1=some (1+((2:Nat):Int)*(r.Fields.length:Int)):=by
 rw[L_heldResponse,L_heldFieldS_eq hk _ h,Option.bind_some,bif_dec,if_neg (by omega)]
end Go.YtnidlohhndpjdaaGreatDoor

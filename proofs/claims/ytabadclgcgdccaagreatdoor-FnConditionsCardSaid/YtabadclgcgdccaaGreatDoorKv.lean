/- Plain lemmas and definitions. Nothing is claimed here. -/
import Derived.Test.YtabadclgcgdccaaGreatDoorKu
import Derived.Lib.AtoiAll
import Derived.Lib.Index
import Derived.Lib.IndexMore
import Derived.Lib.TrimByte
import Derived.Sort.Walk0
set_option linter.unusedVariables false
set_option linter.unusedSimpArgs false
set_option maxRecDepth 100000
namespace Go.YtabadclgcgdccaaGreatDoor
open Go Go.RowKit Go.Pv Go.Pu
noncomputable section
def joinT(l:List (List UInt8)):List UInt8:=Lib.join l [44,32]
theorem joinT_len(l:List (List UInt8)):(joinT l).length≤2*l.length+Lib.lens l:=by
 cases l with
 |nil=>simp[joinT,Lib.join_nil]
 |cons x r=>unfold joinT;rw[Lib.join_length];simp;omega
theorem I_JoinList_eq{k:Nat}(l:List (List UInt8))(h:2*l.length+Lib.lens l<1073741824):I_JoinList k l=some (joinT l):=by
 have hl:=joinT_len l
 have hd:(decide (l.length≤140737488355328)&&decide ((Lib.join l [44,32]).length≤140737488355328))=true:=by
  rw[Bool.and_eq_true];exact⟨decide_eq_true (by omega),decide_eq_true (by unfold joinT at hl;omega)⟩
 rw[I_JoinList,strings_Join,joinO,hd];rfl
theorem S_JoinList_loop{k:Nat}{x:List UInt8}{r:List (List UInt8)}(h:2*r.length+Lib.lens (x::r)<1073741824):∀(n j:Nat),j≤r.length→r.length -j<n→
 S_JoinList_b0 k n (x::r) (x++Lib.joinTail [44,32] (r.take j)) ((j+1:Nat):Int)=some (x++Lib.joinTail [44,32] r):=by
 have hx:Lib.lens (x::r)=x.length+Lib.lens r:=rfl
 intro n
 induction n with
 |zero=>intro j _ h;omega
 |succ n ih=>
  intro j hj hn
  rw[S_JoinList_b0,bif_dec]
  by_cases c:j<r.length
  ·have hlen:((j+1:Nat):Int)<((x::r).length:Int):=by simp;omega
   have e1:decide (((j+1:Nat):Int)>0)=true:=decide_eq_true (by omega)
   have e2:idx (x::r) ((j+1:Nat):Int)=some r[j]:=by
    rw[idx_nat (by simp;omega)];simp
   have b1:=Lib.joinTail_take_le [44,32] r j
   have b2:=Lib.joinTail_length [44,32] r
   have b3:=Lib.joinTail_take_le [44,32] r (j+1)
   have b4:=Lib.joinTail_take_succ [44,32] r j r[j] (List.getElem?_eq_getElem c)
   have b5:=congrArg List.length b4
   simp only[List.length_append,List.length_cons,List.length_nil]at b2 b5
   rw[if_pos hlen,S_JoinList_b1,S_JoinList_c12,e1,cond_true,cat_ok (by simp;omega),Option.bind_some,Option.bind_some,e2,Option.bind_some,cat_ok (by simp;omega),Option.bind_some,Option.bind_some,wrap_succ (by omega)]
   have:=ih (j+1) (by omega) (by omega)
   rw[b4]at this
   rw[←this]
   congr 1
   simp
  ·have hlen:¬((j+1:Nat):Int)<((x::r).length:Int):=by simp;omega
   rw[if_neg hlen,List.take_of_length_le (by omega)]
theorem S_JoinList_eq{k:Nat}(hk:1073741824≤k)(l:List (List UInt8))(h:2*l.length+Lib.lens l<1073741824):S_JoinList k l=some (joinT l):=by
 obtain⟨n,rfl⟩:∃n,k=n+1:=⟨k -1,by omega⟩
 rw[S_JoinList,S_JoinList_b0,bif_dec]
 cases l with
 |nil=>rfl
 |cons x r=>
  have hx:Lib.lens (x::r)=x.length+Lib.lens r:=rfl
  simp only[List.length_cons]at h
  have hlen:(0:Int)<((x::r).length:Int):=by rw[List.length_cons];omega
  have e2:idx (x::r) (0:Int)=some x:=rfl
  have:=S_JoinList_loop (k:=n+1) (x:=x) (r:=r) (by omega) n 0 (by omega) (by omega)
  rw[List.take_zero]at this
  rw[if_pos hlen,S_JoinList_b1,S_JoinList_c12,e2]
  rw[show(decide ((0:Int)>0))=false from rfl,cond_false,Option.bind_some,Option.bind_some,cat_ok (by simp;omega),Option.bind_some,Option.bind_some]
  rw[show IntKind.wrap .i64 ((0:Int)+1)=((0+1:Nat):Int)from by rw[wrap_id (by omega) (by omega)];rfl]
  have e3:Lib.joinTail [44,32] ([]:List (List UInt8))=[]:=rfl
  rw[e3,List.append_nil]at this
  rw[List.nil_append,this,Option.bind_some,joinT,Lib.join_cons]
def opt(n v:List UInt8):List IField:=bif v==[]then []else [⟨n,v⟩]
theorem opt_app{l:List IField}{n v:List UInt8}{m:Nat}(h:l.length≤m):(l++opt n v).length≤m+1:=by
 unfold opt
 cases v==[]with
 |true=>rw[cond_true,List.append_nil];omega
 |false=>rw[cond_false,List.length_append,List.length_cons,List.length_nil];omega
theorem app_opt{l:List IField}(h:l.length≤100)(n v:List UInt8):(bif(!(v==([]:List UInt8)))then((app 32 l ([(⟨n,v⟩:IField)]:List IField)).bind fun u=>some (u))else some (l))=some (l++opt n v):=by
 unfold opt
 cases v==[]with
 |true=>rw[Bool.not_true,cond_false,cond_true,List.append_nil]
 |false=>rw[Bool.not_false,cond_true,cond_false,appn_ok (by simp only[List.length_cons,List.length_nil];omega),Option.bind_some]
theorem app_if{l:List (List UInt8)}(h:l.length≤100)(b:Bool)(s:List UInt8):(bif b then((app 16 l ([s]:List (List UInt8))).bind fun u=>some (u))else some (l))=some (l++bif b then [s]else []):=by
 cases b with
 |true=>rw[cond_true,cond_true,appn_ok (by simp only[List.length_cons,List.length_nil];omega),Option.bind_some]
 |false=>rw[cond_false,cond_false,List.append_nil]
def blank(c:UInt8):Bool:=c==32||c==9
def rtrim(x:List UInt8):List UInt8:=(x.reverse.dropWhile blank).reverse
def trimT(x:List UInt8):List UInt8:=rtrim (x.dropWhile blank)
theorem rtrim_cons(e:UInt8)(l:List UInt8):rtrim (e::l)=if rtrim l=[]then(if blank e then []else [e])else e::rtrim l:=by
 unfold rtrim
 rw[List.reverse_cons,List.dropWhile_append]
 cases h:l.reverse.dropWhile blank with
 |nil=>cases hb:blank e<;>simp[List.dropWhile_cons,hb]
 |cons a m=>simp
theorem rtrim_snoc(l:List UInt8)(c:UInt8):rtrim (l++[c])=if blank c then rtrim l else l++[c]:=by
 unfold rtrim
 rw[List.reverse_append]
 cases hb:blank c<;>simp[List.dropWhile_cons,hb]
theorem trim_comm:∀x:List UInt8,rtrim (x.dropWhile blank)=(rtrim x).dropWhile blank
 |[]=>rfl
 |e::l=>by
  have ih:=trim_comm l
  rw[rtrim_cons,List.dropWhile_cons]
  cases hb:blank e with
  |true=>
   by_cases h:rtrim l=[]
   ·rw[h]at ih;simp[h,ih]
   ·simp[h,List.dropWhile_cons,hb,ih]
  |false=>
   rw[if_neg (by simp),rtrim_cons]
   by_cases h:rtrim l=[]
   ·simp[h,List.dropWhile_cons,hb]
   ·simp[h,List.dropWhile_cons,hb]
theorem trimS_eq(x:List UInt8):Lib.trimS x [32,9]=trimT x:=by
 have hc:(fun b:UInt8=>([32,9]:List UInt8).contains b)=blank:=by
  funext b;unfold blank
  simp only[List.contains,List.elem]
  cases h1:(b==32)<;>cases h2:(b==9)<;>rfl
 unfold Lib.trimS Lib.trimLeftS Lib.trimRightS trimT
 rw[hc,trim_comm];rfl
theorem rtrim_len(x:List UInt8):(rtrim x).length≤x.length:=by
 unfold rtrim
 have:=(List.dropWhile_sublist blank (l:=x.reverse)).length_le
 simpa using this
theorem trimT_len(x:List UInt8):(trimT x).length≤x.length:=by
 have h1:=(List.dropWhile_sublist blank (l:=x)).length_le
 have h2:=rtrim_len (x.dropWhile blank)
 unfold trimT;omega
theorem I_TrimText_eq{k:Nat}(x:List UInt8)(h:x.length<1073741824):I_TrimText k x=some (trimT x):=by
 have hd:(decide (x.length≤9223372036854775807)&&decide (([32,9]:List UInt8).length<4294967281)&&([32,9]:List UInt8).all (fun b=>decide (b.toNat<128)))=true:=by
  rw[Bool.and_eq_true,Bool.and_eq_true];exact⟨⟨decide_eq_true (by omega),by decide⟩,by decide⟩
 rw[I_TrimText,strings_Trim,trimO,hd,cond_true,trimS_eq];rfl
theorem S_l4Blank_eq{k:Nat}(c:UInt8):S_l4Blank k (UInt8.toNat c:Int)=some (blank c):=by
 have h1:=u8_eq c 32
 have h2:=u8_eq c 9
 rw[S_l4Blank,show(32:Int)=((32:UInt8).toNat:Int)from rfl,h1,show(9:Int)=((9:UInt8).toNat:Int)from rfl,h2]
 unfold blank
 cases (c==32)<;>rfl
theorem S_Trim_1{k:Nat}:∀(n:Nat) (x:List UInt8),x.length<n→x.length<1073741824→S_TrimText_b0 k n x=some (x.dropWhile blank):=by
 intro n
 induction n with
 |zero=>intro x h;omega
 |succ n ih=>
  intro x h hx
  rw[S_TrimText_b0,bif_dec]
  cases x with
  |nil=>rw[if_neg (by simp)];rfl
  |cons c l=>
   have e:idx (c::l) (0:Int)=some c:=rfl
   have hs:ssub (c::l) (1:Int) ((c::l).length:Int)=some l:=by
    have:=ssub_drop (x:=c::l) (i:=1) (by simp)
    simpa using this
   rw[if_pos (by rw[List.length_cons];omega),e,Option.bind_some,S_l4Blank_eq,Option.bind_some,List.dropWhile_cons]
   cases blank c with
   |true=>rw[cond_true,hs,Option.bind_some,ih l (by simp at h;omega) (by simp at hx;omega),if_pos rfl]
   |false=>rw[cond_false,if_neg (by simp)]
theorem S_Trim_2{k:Nat}:∀(n:Nat) (x:List UInt8),x.length<n→x.length<1073741824→S_TrimText_b2 k n x=some (rtrim x):=by
 intro n
 induction n with
 |zero=>intro x h;omega
 |succ n ih=>
  intro x h hx
  rw[S_TrimText_b2,bif_dec]
  rcases List.eq_nil_or_concat x with rfl|⟨l,c,rfl⟩
  ·rw[if_neg (by simp)];rfl
  ·rw[List.concat_eq_append]at*
   have hl:(l++[c]).length=l.length+1:=by simp
   have e1:IntKind.wrap .i64 (((l++[c]).length:Int) -1)=(l.length:Int):=by rw[wrap_id (by omega) (by omega)];omega
   have e2:idx (l++[c]) (l.length:Int)=some c:=by
    show(l++[c])[l.length]? =some c
    simp
   have e3:ssub (l++[c]) (0:Int) (l.length:Int)=some l:=by
    rw[ssub_take (by omega)];simp
   rw[if_pos (by omega),e1,e2,Option.bind_some,S_l4Blank_eq,Option.bind_some,rtrim_snoc]
   cases blank c with
   |true=>rw[cond_true,e3,Option.bind_some,ih l (by omega) (by omega),if_pos rfl]
   |false=>rw[cond_false,if_neg (by simp)]
theorem S_TrimText_eq{k:Nat}(hk:1073741824≤k)(x:List UInt8)(h:x.length<1073741824):S_TrimText k x=some (trimT x):=by
 have h1:=(List.dropWhile_sublist blank (l:=x)).length_le
 rw[S_TrimText,S_Trim_1 k x (by omega) h,Option.bind_some,S_Trim_2 k _ (by omega) (by omega)];rfl
def cutG(b:UInt8):List UInt8→Bool→Bool→List UInt8→List (List UInt8)
 |[],_,_,cur=>[cur]
 |c::r,q,true,cur=>cutG b r q false (cur++[c])
 |c::r,q,false,cur=>bif q&&c==92 then cutG b r q true (cur++[c])else bif c==34 then cutG b r (!q) false (cur++[c])else bif !q&&c==b then cur::cutG b r q false []else cutG b r q false (cur++[c])
theorem cutG_mem(b:UInt8):∀(l:List UInt8) (q sk:Bool) (cur p:List UInt8),p∈cutG b l q sk cur→p.length≤cur.length+l.length
 |[],q,sk,cur,p,h=>by
  unfold cutG at h
  have:p=cur:=by simpa using h
  rw[this];omega
 |c::r,q,true,cur,p,h=>by
  have:=cutG_mem b r q false (cur++[c]) p (by simpa[cutG]using h)
  simp at this ⊢;omega
 |c::r,q,false,cur,p,h=>by
  rw[cutG]at h
  have step:∀q' sk',p∈cutG b r q' sk' (cur++[c])→p.length≤cur.length+(c::r).length:=fun q' sk' h=>by
   have:=cutG_mem b r q' sk' (cur++[c]) p h
   simp at this ⊢;omega
  cases h1:(q&&c==92)with
  |true=>rw[h1]at h;exact step _ _ h
  |false=>
   rw[h1]at h
   cases h2:(c==34)with
   |true=>rw[h2]at h;exact step _ _ h
   |false=>
    rw[h2]at h
    cases h3:(!q&&c==b)with
    |false=>rw[h3]at h;exact step _ _ h
    |true=>
     rw[h3]at h
     simp only[cond_true,cond_false]at h
     rcases List.mem_cons.1 h with rfl|h
     ·omega
     ·have:=cutG_mem b r q false [] p h
      simp at this ⊢;omega
theorem cutG_len(b:UInt8):∀(l:List UInt8) (q sk:Bool) (cur:List UInt8),(cutG b l q sk cur).length≤l.length+1
 |[],q,sk,cur=>by simp[cutG]
 |c::r,q,true,cur=>by have:=cutG_len b r q false (cur++[c]);simp[cutG];omega
 |c::r,q,false,cur=>by
  rw[cutG]
  have s1:=fun q' sk' cur'=>cutG_len b r q' sk' cur'
  cases (q&&c==92)with
  |true=>rw[cond_true];have:=s1 q true (cur++[c]);simp;omega
  |false=>
   cases (c==34)with
   |true=>rw[cond_false,cond_true];have:=s1 (!q) false (cur++[c]);simp;omega
   |false=>
    cases (!q&&c==b)with
    |true=>rw[cond_false,cond_false,cond_true];have:=s1 q false [];simp;omega
    |false=>rw[cond_false,cond_false,cond_false];have:=s1 q false (cur++[c]);simp;omega
def sub(x:List UInt8)(f i:Nat):List UInt8:=(x.take i).drop f
theorem sub_succ{x:List UInt8}{f i:Nat}(hf:f≤i)(hi:i<x.length):sub x f (i+1)=sub x f i++[x[i]]:=by
 unfold sub
 have:x.take (i+1)=x.take i++[x[i]]:=by rw[List.take_add_one,List.getElem?_eq_getElem hi];rfl
 rw[this,List.drop_append_of_le_length (by simp;omega)]
theorem sub_self(x:List UInt8)(i:Nat):sub x i i=[]:=by unfold sub;rw[List.drop_eq_nil_iff];simp;omega
theorem sub_end{x:List UInt8}{f i:Nat}(h:x.length≤i):sub x f i=x.drop f:=by unfold sub;rw[List.take_of_length_le h]
theorem ssub_sub{x:List UInt8}{f i:Nat}(h1:f≤i)(h:i≤x.length):ssub x (f:Int) (i:Int)=some (sub x f i):=ssub_mid h1 h
theorem cutG_skip{b:UInt8}{x:List UInt8}{f i:Nat}{q:Bool}(hf:f≤i)(hi:i<x.length):cutG b (x.drop (i+1)) q true (sub x f i++[x[i]])=cutG b (x.drop (i+2)) q false (sub x f (i+2)):=by
 rw[←sub_succ hf hi]
 by_cases h:i+1<x.length
 ·rw[List.drop_eq_getElem_cons h,cutG,sub_succ (by omega) h]
 ·rw[List.drop_of_length_le (by omega),List.drop_of_length_le (by omega),cutG,cutG,sub_end (by omega),sub_end (by omega)]
theorem S_l4Cut_loop{k:Nat}{x:List UInt8}{b:UInt8}(hx:x.length<1073741824):∀(n i f:Nat) (q:Bool) (r:List (List UInt8)),f≤i→f≤x.length→x.length+2≤i+n→i≤x.length+1→r.length≤i→
 ∃(f':Nat) (r':List (List UInt8)),S_l4Cut_b0 k n x (b.toNat:Int) (f:Int) q (i:Int) r=some ((f':Int),r')∧f'≤x.length∧r'.length≤x.length+1∧r'++[x.drop f']=r++cutG b (x.drop i) q false (sub x f i):=by
 intro n
 induction n with
 |zero=>intro i f q r _ _ h h2;omega
 |succ n ih=>
  intro i f q r hf hf2 hn hi hr
  rw[S_l4Cut_b0,bif_dec]
  by_cases c:i<x.length
  ·have u92:=u8_eq x[i] 92
   have u34:=u8_eq x[i] 34
   have ub:=u8_eq x[i] b
   rw[show(((92:UInt8).toNat:Nat):Int)=92 from rfl]at u92
   rw[show(((34:UInt8).toNat:Nat):Int)=34 from rfl]at u34
   rw[if_pos (by omega),List.drop_eq_getElem_cons c,cutG]
   simp only[S_l4Cut_b1,S_l4Cut_b2,idx_nat c,Option.bind_some,S_l4Cut_c16,S_l4Cut_c26,S_l4Cut_c33,u92,u34,ub]
   have plain:=fun q'=>ih (i+1) f q' r (by omega) hf2 (by omega) (by omega) (by omega)
   cases q with
   |true=>
    cases h1:(x[i]==92)with
    |true=>
     simp only[cond_true,Option.bind_some,Bool.true_and]
     rw[wrap_succ (by omega),wrap_succ (by omega),cutG_skip hf c]
     exact ih (i+2) f true r (by omega) hf2 (by omega) (by omega) (by omega)
    |false=>
     simp only[cond_true,cond_false,Option.bind_some,Bool.true_and]
     rw[←sub_succ hf c]
     cases h2:(x[i]==34)with
     |true=>simp only[cond_true,Option.bind_some];rw[wrap_succ (by omega)];exact plain false
     |false=>simp only[cond_false,Bool.not_true,Option.bind_some,Bool.false_and];rw[wrap_succ (by omega)];exact plain true
   |false=>
    simp only[cond_false,Option.bind_some,Bool.false_and]
    cases h2:(x[i]==34)with
    |true=>simp only[cond_true,Option.bind_some];rw[wrap_succ (by omega),←sub_succ hf c];exact plain true
    |false=>
     simp only[cond_false,Bool.not_false,cond_true,Bool.true_and]
     cases h3:(x[i]==b)with
     |true=>
      simp only[cond_true]
      rw[ssub_sub hf (by omega),Option.bind_some,appn_ok (by simp;omega)]
      simp only[Option.bind_some]
      rw[wrap_succ (by omega)]
      obtain⟨f',r',e1,e2,e3,e4⟩:=ih (i+1) (i+1) false (r++[sub x f i]) (by omega) (by omega) (by omega) (by omega) (by simp;omega)
      rw[sub_self]at e4
      exact⟨f',r',e1,e2,e3,by rw[e4];simp⟩
     |false=>simp only[cond_false,Option.bind_some];rw[wrap_succ (by omega),←sub_succ hf c];exact plain false
  ·rw[if_neg (by omega),List.drop_of_length_le (by omega),cutG,sub_end (by omega)]
   exact⟨f,r,rfl,hf2,by omega,rfl⟩
theorem S_l4Cut_eq{k:Nat}(hk:1073741824≤k)(x:List UInt8)(b:UInt8)(h:x.length<1073741000):S_l4Cut k x (b.toNat:Int)=some (cutG b x false false []):=by
 obtain⟨f',r',e1,e2,e3,e4⟩:=S_l4Cut_loop (k:=k) (b:=b) (show x.length<1073741824 by omega) k 0 0 false [] (by omega) (by omega) (by omega) (by omega) (by simp)
 rw[show((0:Nat):Int)=0 from rfl]at e1
 rw[S_l4Cut,e1,Option.bind_some]
 simp only
 rw[ssub_drop e2,Option.bind_some,appn_ok (by simp;omega),e4]
 simp[sub]
def keepF(p:List UInt8):List (List UInt8):=bif !(trimT p==[])then [trimT p]else []
def splitL(x:List UInt8):List (List UInt8):=(cutG 44 x false false []).flatMap keepF
theorem keepF_len(p:List UInt8):(keepF p).length≤1:=by unfold keepF;cases (trimT p==[])<;>simp
theorem keep_len:∀l:List (List UInt8),(l.flatMap keepF).length≤l.length
 |[]=>by simp
 |p::l=>by
  have:=keep_len l
  have:=keepF_len p
  rw[List.flatMap_cons,List.length_append,List.length_cons];omega
theorem splitL_len(x:List UInt8):(splitL x).length≤x.length+1:=by
 have:=keep_len (cutG 44 x false false [])
 have:=cutG_len 44 x false false []
 unfold splitL;omega
theorem S_SplitList_eq{k:Nat}(hk:1073741824≤k)(x:List UInt8)(h:x.length<1073741000):S_SplitList k x=some (splitL x):=by
 have hc:=S_l4Cut_eq hk x 44 h
 rw[show(((44:UInt8).toNat:Nat):Int)=44 from rfl]at hc
 have hm:=fun p=>cutG_mem 44 x false false [] p
 have hl:=cutG_len 44 x false false []
 rw[S_SplitList,hc,Option.bind_some]
 generalize hw:cutG 44 x false false []=w at hm hl
 have:=fold_all (len:=w.length) (g:=fun j s=>s++(w[j]?).elim [] keepF) (Inv:=fun i s=>s.length≤i) (F:=fun m i s=>S_SplitList_b0 k m i w s) (out:=id) (fun m i s hi hI=>by
  have hp:=hm w[i] (List.getElem_mem hi)
  simp only[S_SplitList_b0,bif_dec,lt_cast,hi,if_true,S_SplitList_b1,idx_nat hi,Option.bind_some,S_SplitList_c22,wrap_succ (by omega:i<9223372036854775807),List.getElem?_eq_getElem hi,Option.elim_some,keepF,S_TrimText_eq hk w[i] (by simp at hp;omega)]
  cases (trimT w[i]==[])with
  |false=>simp only[Bool.not_false,cond_true];rw[appn_ok (by simp;omega)];exact⟨rfl,by simp;omega⟩
  |true=>simp only[Bool.not_true,cond_false,List.append_nil];exact⟨rfl,by omega⟩) (fun m i s hi=>by
  simp only[S_SplitList_b0,bif_dec,lt_cast]
  rw[if_neg (by omega)];rfl) (k:=k) (by omega) (s:=[]) (by simp)
 have h1:S_SplitList_b0 k k 0 w []=some (foldI (fun j s=>s++(w[j]?).elim [] keepF) w.length 0 []):=this.1
 rw[h1,foldI_append (f:=keepF) w.length 0 [] (by omega),List.drop_zero,Option.bind_some,splitL,hw];rfl
theorem keepF_nil:keepF []=[]:=rfl
theorem I_SplitList_loop{k:Nat}{x:List UInt8}(hx:x.length<1073741000):∀(n i f:Nat) (q:Bool) (r:List (List UInt8)),f≤i→x.length+2≤i+n→i≤x.length+1→r.length≤i→
 ∃(f':Nat) (r':List (List UInt8)),I_SplitList_b0 k n x (f:Int) q (i:Int) r=some ((f':Int),r')∧r'.length≤x.length+1∧f'≤x.length+1∧r'++keepF (x.drop f')=r++(cutG 44 (x.drop i) q false (sub x f i)).flatMap keepF:=by
 intro n
 induction n with
 |zero=>intro i f q r _ h h2;omega
 |succ n ih=>
  intro i f q r hf hn hi hr
  rw[I_SplitList_b0,bif_dec]
  have add:∀p:List UInt8,p.length<1073741824→∀(x5:Bool) (x6:Int),((I_TrimText k p).bind fun w=>(I_SplitList_c53 k x x5 x6 w (!(w==[])) r).bind fun o=>some (((IntKind.wrap .i64 (x6+1)),x5,x6,o)))=some ((IntKind.wrap .i64 (x6+1)),x5,x6,r++keepF p):=fun p hp x5 x6=>by
   rw[I_TrimText_eq p hp,Option.bind_some,I_SplitList_c53]
   unfold keepF
   cases (trimT p==[])with
   |false=>simp only[Bool.not_false,cond_true];rw[appn_ok (by simp;omega)];rfl
   |true=>simp only[Bool.not_true,cond_false,List.append_nil];rfl
  by_cases c0:i≤x.length
  ·rw[if_pos (by omega)]
   have hmin:(if x.length<i then((x.length:Nat):Int)else(i:Int))=(i:Int):=by rw[if_neg (by omega)]
   by_cases c:i<x.length
   ·have u92:=u8_eq x[i] 92
    have u34:=u8_eq x[i] 34
    have u44:=u8_eq x[i] 44
    rw[show(((92:UInt8).toNat:Nat):Int)=92 from rfl]at u92
    rw[show(((34:UInt8).toNat:Nat):Int)=34 from rfl]at u34
    rw[show(((44:UInt8).toNat:Nat):Int)=44 from rfl]at u44
    rw[List.drop_eq_getElem_cons c,cutG]
    have plain:=fun q'=>ih (i+1) f q' r (by omega) (by omega) (by omega) (by omega)
    have une:((UInt8.toNat x[i]:Int) !=44)= !(x[i]==44):=by rw[←u44];rfl
    simp only[I_SplitList_b1,bif_dec,lt_cast,c,if_true,idx_nat c,Option.bind_some,I_SplitList_c32,I_SplitList_c41,u92,u34,une,hmin]
    cases q with
    |true=>
     simp only[cond_true,Bool.true_and]
     cases h2:(x[i]==34)with
     |true=>
      have h1:(x[i]==92)=false:=by
       have e:x[i]=34:=by simpa using h2
       rw[e];rfl
      simp only[h1,cond_true,cond_false,Option.bind_some,Bool.not_true]
      rw[wrap_succ (by omega),←sub_succ hf c];exact plain false
     |false=>
      simp only[cond_false,Option.bind_some,cond_true,Bool.not_true,Bool.false_and]
      cases h1:(x[i]==92)with
      |true=>
       simp only[cond_true,Option.bind_some]
       rw[wrap_succ (by omega),wrap_succ (by omega),cutG_skip hf c]
       exact ih (i+2) f true r (by omega) (by omega) (by omega) (by omega)
      |false=>simp only[cond_false,Option.bind_some];rw[wrap_succ (by omega),←sub_succ hf c];exact plain true
    |false=>
     simp only[cond_false,Bool.false_and,Bool.not_false,Bool.true_and]
     cases h3:(x[i]==44)with
     |true=>
      have h2:(x[i]==34)=false:=by
       have e:x[i]=44:=by simpa using h3
       rw[e];rfl
      simp only[h2,Bool.not_true,cond_false,cond_true]
      rw[ssub_sub hf (by omega),Option.bind_some,add (sub x f i) (by unfold sub;simp;omega),Option.bind_some]
      simp only
      rw[wrap_succ (by omega)]
      have hk1:=keepF_len (sub x f i)
      obtain⟨f',r',e1,e2,e3,e4⟩:=ih (i+1) (i+1) false (r++keepF (sub x f i)) (by omega) (by omega) (by omega) (by simp;omega)
      rw[sub_self]at e4
      exact⟨f',r',e1,e2,e3,by rw[e4,List.flatMap_cons,List.append_assoc]⟩
     |false=>
      simp only[Bool.not_false,cond_true,cond_false]
      cases h2:(x[i]==34)with
      |true=>
       have h1:(x[i]==92)=false:=by
        have e:x[i]=34:=by simpa using h2
        rw[e];rfl
       simp only[h1,cond_true,cond_false,Option.bind_some]
       rw[wrap_succ (by omega),←sub_succ hf c];exact plain true
      |false=>simp only[cond_false,Option.bind_some];rw[wrap_succ (by omega),←sub_succ hf c];exact plain false
   ·have hil:i=x.length:=by omega
    simp only[I_SplitList_b1,bif_dec,lt_cast,c,if_false,hmin]
    rw[ssub_sub hf (by omega),Option.bind_some,add (sub x f i) (by unfold sub;simp;omega),Option.bind_some]
    simp only
    rw[wrap_succ (by omega)]
    have hk1:=keepF_len (sub x f i)
    obtain⟨f',r',e1,e2,e3,e4⟩:=ih (i+1) (i+1) q (r++keepF (sub x f i)) (by omega) (by omega) (by omega) (by simp;omega)
    refine⟨f',r',e1,e2,e3, ?_⟩
    rw[e4,List.drop_of_length_le (by omega),List.drop_of_length_le (by omega),sub_self,cutG,cutG]
    simp[keepF_nil]
  ·rw[if_neg (by omega),List.drop_of_length_le (by omega),cutG,sub_end (by omega)]
   exact⟨f,r,rfl,by omega,by omega,by simp⟩
theorem I_SplitList_eq{k:Nat}(hk:1073741824≤k)(x:List UInt8)(h:x.length<1073741000):I_SplitList k x=some (splitL x):=by
 obtain⟨f',r',e1,e2,e3,e4⟩:=I_SplitList_loop (k:=k) h k 0 0 false [] (by omega) (by omega) (by omega) (by simp)
 rw[show((0:Nat):Int)=0 from rfl]at e1
 have e5:sub x 0 0=[]:=sub_self x 0
 rw[List.drop_zero,e5,List.nil_append]at e4
 rw[I_SplitList,e1,Option.bind_some,I_SplitList_c63,splitL,←e4]
 simp only[bif_dec]
 by_cases c:f'<x.length
 ·rw[if_pos (by omega),ssub_drop (by omega),Option.bind_some,I_TrimText_eq _ (by simp;omega),Option.bind_some,I_SplitList_c69]
  unfold keepF
  cases (trimT (x.drop f')==[])with
  |false=>simp only[Bool.not_false,cond_true];rw[appn_ok (by simp;omega)];rfl
  |true=>simp only[Bool.not_true,cond_false,List.append_nil];rfl
 ·rw[if_neg (by omega),List.drop_of_length_le (by omega),keepF_nil,List.append_nil];rfl
theorem lens_cons(p:List UInt8)(l:List (List UInt8)):Lib.lens (p::l)=p.length+Lib.lens l:=rfl
theorem cutG_sum(b:UInt8):∀(l:List UInt8) (q sk:Bool) (cur:List UInt8),Lib.lens (cutG b l q sk cur)≤cur.length+l.length
 |[],q,sk,cur=>by rw[cutG,lens_cons];simp[Lib.lens]
 |c::r,q,true,cur=>by have:=cutG_sum b r q false (cur++[c]);rw[cutG];simp at this ⊢;omega
 |c::r,q,false,cur=>by
  rw[cutG]
  have s1:=fun q' sk'=>cutG_sum b r q' sk' (cur++[c])
  simp only[List.length_append,List.length_cons,List.length_nil]at s1
  rw[List.length_cons]
  cases (q&&c==92)with
  |true=>rw[cond_true];have:=s1 q true;omega
  |false=>
   cases (c==34)with
   |true=>rw[cond_false,cond_true];have:=s1 (!q) false;omega
   |false=>
    cases (!q&&c==b)with
    |true=>rw[cond_false,cond_false,cond_true,lens_cons];have:=cutG_sum b r q false [];simp at this;omega
    |false=>rw[cond_false,cond_false,cond_false];have:=s1 q false;omega
theorem keep_sum:∀l:List (List UInt8),Lib.lens (l.flatMap keepF)≤Lib.lens l
 |[]=>by simp
 |p::l=>by
  have h1:=keep_sum l
  have h2:=trimT_len p
  rw[List.flatMap_cons,lens_cons]
  unfold keepF at h1 ⊢
  cases (trimT p==[])with
  |true=>simpa using (by omega:Lib.lens (l.flatMap fun p=>bif !(trimT p==[])then [trimT p]else [])≤p.length+Lib.lens l)
  |false=>simp only[Bool.not_false,cond_true,List.cons_append,List.nil_append,lens_cons];omega
theorem splitL_sum(x:List UInt8):Lib.lens (splitL x)≤x.length:=by
 have h1:=keep_sum (cutG 44 x false false [])
 have h2:=cutG_sum 44 x false false []
 unfold splitL;simp at h2;omega
def cutP(b:UInt8):List UInt8→List UInt8→List (List UInt8)
 |[],cur=>[cur]
 |c::r,cur=>bif c==b then cur::cutP b r []else cutP b r (cur++[c])
theorem cutP_mem(b:UInt8):∀(l cur p:List UInt8),p∈cutP b l cur→p.length≤cur.length+l.length
 |[],cur,p,h=>by
  have:p=cur:=by simpa[cutP]using h
  rw[this];omega
 |c::r,cur,p,h=>by
  rw[cutP]at h
  cases h3:(c==b)with
  |true=>
   rw[h3,cond_true]at h
   rcases List.mem_cons.1 h with rfl|h
   ·omega
   ·have:=cutP_mem b r [] p h
    simp at this ⊢;omega
  |false=>
   rw[h3,cond_false]at h
   have:=cutP_mem b r (cur++[c]) p h
   simp at this ⊢;omega
theorem cutP_len(b:UInt8):∀(l cur:List UInt8),(cutP b l cur).length≤l.length+1
 |[],cur=>by simp[cutP]
 |c::r,cur=>by
  rw[cutP]
  have h1:=cutP_len b r []
  have h2:=cutP_len b r (cur++[c])
  cases (c==b)with
  |true=>rw[cond_true];simp;omega
  |false=>rw[cond_false];simp;omega
theorem cutP_pos(b:UInt8):∀(l cur:List UInt8),0<(cutP b l cur).length
 |[],cur=>by simp[cutP]
 |c::r,cur=>by
  rw[cutP]
  have h2:=cutP_pos b r (cur++[c])
  cases (c==b)with
  |true=>rw[cond_true];simp
  |false=>rw[cond_false];exact h2
theorem S_l12Split_loop{k:Nat}{x:List UInt8}{b:UInt8}(hx:x.length<1073741824):∀(n i f:Nat) (r:List (List UInt8)),f≤i→i≤x.length→x.length<i+n→r.length≤i→
 ∃(f':Nat) (r':List (List UInt8)),S_l12Split_b0 k n x (b.toNat:Int) (f:Int) (i:Int) r=some ((f':Int),r')∧f'≤x.length∧r'.length≤x.length∧r'++[x.drop f']=r++cutP b (x.drop i) (sub x f i):=by
 intro n
 induction n with
 |zero=>intro i f r _ h h2;omega
 |succ n ih=>
  intro i f r hf hi hn hr
  rw[S_l12Split_b0,bif_dec]
  by_cases c:i<x.length
  ·have ub:=u8_eq x[i] b
   rw[if_pos (by omega),List.drop_eq_getElem_cons c,cutP]
   simp only[S_l12Split_b1,idx_nat c,Option.bind_some,S_l12Split_c19,ub]
   cases h3:(x[i]==b)with
   |true=>
    simp only[cond_true]
    rw[ssub_sub hf (by omega),Option.bind_some,appn_ok (by simp;omega)]
    simp only[Option.bind_some]
    rw[wrap_succ (by omega)]
    obtain⟨f',r',e1,e2,e3,e4⟩:=ih (i+1) (i+1) (r++[sub x f i]) (by omega) (by omega) (by omega) (by simp;omega)
    rw[sub_self]at e4
    exact⟨f',r',e1,e2,e3,by rw[e4];simp⟩
   |false=>
    simp only[cond_false,Option.bind_some]
    rw[wrap_succ (by omega),←sub_succ hf c]
    exact ih (i+1) f r (by omega) (by omega) (by omega) (by omega)
  ·rw[if_neg (by omega),List.drop_of_length_le (by omega),cutP,sub_end (by omega)]
   exact⟨f,r,rfl,by omega,by omega,rfl⟩
theorem S_l12Split_eq{k:Nat}(hk:1073741824≤k)(x:List UInt8)(b:UInt8)(h:x.length<1073741000):S_l12Split k x (b.toNat:Int)=some (cutP b x []):=by
 obtain⟨f',r',e1,e2,e3,e4⟩:=S_l12Split_loop (k:=k) (b:=b) (show x.length<1073741824 by omega) k 0 0 [] (by omega) (by omega) (by omega) (by simp)
 rw[show((0:Nat):Int)=0 from rfl]at e1
 rw[S_l12Split,e1,Option.bind_some]
 simp only
 rw[ssub_drop e2,Option.bind_some,appn_ok (by simp;omega),e4]
 simp[sub]
theorem index_cons(b c:UInt8)(r:List UInt8):Lib.index (c::r) [b]=if c==b then 0 else if Lib.index r [b]== -1 then -1 else Lib.index r [b]+1:=by
 rw[Lib.index_one,Lib.index_one,Lib.indexByte]
theorem count_first(b c:UInt8)(r:List UInt8)(h:(c==b)=true):Lib.count (c::r) [b]=1+Lib.count r [b]:=by
 have:=Lib.count_hit (s:=c::r) (sub:=[b]) (i:=0) (by simp) (by rw[index_cons,if_pos h];rfl)
 simpa using this
theorem split_cons(b c:UInt8)(r:List UInt8):Lib.split (c::r) [b]=bif c==b then []::Lib.split r [b]else match Lib.split r [b]with|[]=>[[c]]|p::ps=>(c::p)::ps:=by
 cases h:(c==b)with
 |true=>
  unfold Lib.split
  rw[count_first b c r h,Nat.add_comm,Lib.splitK,index_cons,if_pos h]
  simp
 |false=>
  rw[cond_false]
  have hn:¬(c==b)=true:=by rw[h];exact Bool.false_ne_true
  have hi:=index_cons b c r
  rw[if_neg hn]at hi
  rcases Lib.index_spec r [b]with⟨h1,_⟩|⟨i,h1,_,_,_⟩
  ·rw[h1]at hi
   unfold Lib.split
   rw[Lib.count_miss h1,Lib.count_miss (s:=c::r) (by rw[hi];rfl),Lib.splitK,Lib.splitK]
  ·have hm:¬((i:Int)== -1)=true:=fun e=>by have:=beq_iff_eq.1 e;omega
   rw[h1,if_neg hm]at hi
   have c1:=Lib.count_hit (s:=r) (sub:=[b]) (i:=i) (by simp) h1
   have c2:=Lib.count_hit (s:=c::r) (sub:=[b]) (i:=i+1) (by simp) (by rw[hi];rfl)
   have hm2:¬((i:Int)+1== -1)=true:=fun e=>by have:=beq_iff_eq.1 e;omega
   unfold Lib.split
   rw[c1,c2,Nat.add_comm 1,Nat.add_comm 1,Lib.splitK,Lib.splitK,h1,hi,if_neg hm,if_neg hm2]
   rw[show((i:Int)+1).toNat=i+1 by omega,show((i:Int)).toNat=i by omega]
   simp[List.take_succ_cons,Nat.add_right_comm]
theorem joinT_one(p:List UInt8):joinT [p]=p:=by unfold joinT;rw[Lib.join_cons];simp[Lib.joinTail]
def CurOk(c:Sl1Cur):Prop:=0≤c.i∧c.i≤(c.b.length:Int)∧c.b.length≤1048576
theorem and255(n:Int):0≤andI .i64 n 255∧andI .i64 n 255≤255:=by
 have h:(BitVec.ofInt 64 n&&&BitVec.ofInt 64 255).toNat≤255:=by
  rw[BitVec.toNat_and];exact Nat.le_trans Nat.and_le_right (by decide)
 show 0≤IntKind.wrap .i64 (((BitVec.ofInt 64 n&&&BitVec.ofInt 64 255).toNat:Nat):Int)∧IntKind.wrap .i64 (((BitVec.ofInt 64 n&&&BitVec.ofInt 64 255).toNat:Nat):Int)≤255
 rw[wrap_id (by omega) (by omega)];omega
theorem S_l1Byte_tot{k:Nat}{c:Sl1Cur}(h:CurOk c):∃v c',S_l1Byte k c=some (v,c')∧(0≤v∧v≤255)∧CurOk c':=by
 obtain⟨b,i,hh⟩:=c
 obtain⟨h1,h2,h3⟩:=h
 obtain⟨n,rfl⟩:=Int.eq_ofNat_of_zero_le h1
 have h2:(n:Int)≤(b.length:Int):=h2
 have h3:b.length≤1048576:=h3
 unfold S_l1Byte
 generalize IntKind.wrap .i64 (IntKind.wrap .i64 ((⟨b,(n:Int),hh⟩:Sl1Cur).h*6364136223846793005)+1442695040888963407)=g
 obtain⟨q1,e1⟩:∃q,shrI .i64 g 33=some q:=⟨_,rfl⟩
 obtain⟨q2,e2⟩:∃q,shrI .i64 g 47=some q:=⟨_,rfl⟩
 rw[e1,Option.bind_some,e2,Option.bind_some,S_l1Byte_c34,bif_dec]
 by_cases c:(n:Int)<(b.length:Int)
 ·have e3:idx b (n:Int)=some b[n]:=idx_nat (by omega)
  rw[if_pos c]
  simp only[e3,Option.bind_some]
  refine⟨_,_,rfl,and255 _, ?_, ?_,h3⟩
  ·show 0≤IntKind.wrap .i64 ((n:Int)+1)
   rw[wrap_succ (by omega)];omega
  ·show IntKind.wrap .i64 ((n:Int)+1)≤(b.length:Int)
   rw[wrap_succ (by omega)];omega
 ·rw[if_neg c,Option.bind_some]
  exact⟨_,_,rfl,and255 _,h1,h2,h3⟩
theorem md_pos{a n:Int}(h:0≤a)(hn:0<n):∃r,md a n=some r∧0≤r∧r<n:=
 ⟨a.tmod n,by unfold md;rw[if_neg (by omega)],Int.tmod_nonneg n h,Int.tmod_lt_of_pos a hn⟩
theorem S_l1Below_tot{k:Nat}{c:Sl1Cur}(h:CurOk c){n:Int}(hn:0<n):∃v c',S_l1Below k c n=some (v,c')∧(0≤v∧v<n)∧CurOk c':=by
 unfold S_l1Below
 rw[bif_dec,if_neg (by omega),bif_dec]
 obtain⟨v1,c1,e1,⟨a1,b1⟩,h1⟩:=S_l1Byte_tot (k:=k) h
 rw[e1]
 by_cases hs:n≤256
 ·rw[if_pos hs,Option.bind_some]
  obtain⟨r,er,hr⟩:=md_pos a1 hn
  rw[er]
  exact⟨_,_,rfl,hr,h1⟩
 ·rw[if_neg hs,Option.bind_some]
  obtain⟨v2,c2,e2,⟨a2,b2⟩,h2⟩:=S_l1Byte_tot (k:=k) h1
  obtain⟨v3,c3,e3,⟨a3,b3⟩,h3⟩:=S_l1Byte_tot (k:=k) h2
  rw[e2,Option.bind_some,e3,Option.bind_some]
  rw[wrap_id (n:=v1*65536) (by omega) (by omega),wrap_id (n:=v2*256) (by omega) (by omega),wrap_id (n:=v1*65536+v2*256) (by omega) (by omega),wrap_id (by omega) (by omega)]
  obtain⟨r,er,hr⟩:=md_pos (a:=v1*65536+v2*256+v3) (by omega) hn
  rw[er]
  exact⟨_,_,rfl,hr,h3⟩
theorem S_l1Str_tot{k:Nat}{c:Sl1Cur}(h:CurOk c){l:List (List UInt8)}(h0:0<l.length):∃s c',S_l1Str k c l=some (s,c')∧s∈l∧CurOk c':=by
 unfold S_l1Str
 obtain⟨v,c1,e1,⟨a1,b1⟩,h1⟩:=S_l1Below_tot (k:=k) h (n:=(l.length:Int)) (by omega)
 obtain⟨m,rfl⟩:=Int.eq_ofNat_of_zero_le a1
 rw[e1,Option.bind_some,idx_nat (by omega),Option.bind_some]
 exact⟨_,_,rfl,List.getElem_mem _,h1⟩
theorem S_l1Str_len{k:Nat}{c:Sl1Cur}(h:CurOk c){l:List (List UInt8)}(h0:0<l.length){n:Nat}(hn:∀s∈l,s.length≤n):∃s c',S_l1Str k c l=some (s,c')∧s.length≤n∧CurOk c':=by
 obtain⟨s,c',e,hs,h'⟩:=S_l1Str_tot (k:=k) h h0
 exact⟨s,c',e,hn s hs,h'⟩
theorem S_l1New_loop{k:Nat}{x:List Int}(hx:x.length≤1048576):∀(n i:Nat) (s:Int),i≤x.length→x.length -i<n→∃r,S_l1New_b0 k n x s (i:Int)=some r:=by
 intro n
 induction n with
 |zero=>intro i s _ h;omega
 |succ n ih=>
  intro i s hi hn
  rw[S_l1New_b0,bif_dec,bif_dec]
  by_cases c:(i:Int)<(x.length:Int)
  ·rw[if_pos c]
   by_cases c2:(i:Int)<4000
   ·rw[if_pos c2,idx_nat (by omega),Option.bind_some,wrap_succ (by omega)]
    exact ih (i+1) _ (by omega) (by omega)
   ·rw[if_neg c2];exact⟨_,rfl⟩
  ·rw[if_neg c];exact⟨_,rfl⟩
theorem S_l1New_tot{k:Nat}(hk:1073741824≤k){x:List Int}(hx:x.length≤1048576):∃c,S_l1New k x=some c∧CurOk c:=by
 unfold S_l1New
 obtain⟨r,e⟩:=S_l1New_loop (k:=k) hx k 0 (IntKind.wrap .i64 ((271091:Int)+(x.length:Int))) (by omega) (by omega)
 rw[show(((0:Nat)):Int)=0 from rfl]at e
 rw[e,Option.bind_some]
 exact⟨_,rfl,by show(0:Int)≤0;omega,by show(0:Int)≤(x.length:Int);omega,hx⟩
theorem wrap_pred{j:Nat}(h:j+1≤9223372036854775807):IntKind.wrap .i64 (((j+1:Nat):Int) -1)=(j:Int):=by rw[wrap_id (by omega) (by omega)];omega
theorem L_big_eq{k:Nat}{x:List Int}:L_big k x=some (decide ((x.length:Int)>1048576)):=rfl
def valOfF(n:List UInt8)(e:IField):List (List UInt8):=bif e.Name==n then [e.Value]else []
def valsF(l:List IField)(n:List UInt8):List (List UInt8):=l.flatMap (valOfF n)
def fsz(l:List IField):Nat:=l.length+(l.map fun e=>e.Value.length).sum
theorem valsF_len(n:List UInt8):∀l:List IField,(valsF l n).length≤l.length
 |[]=>by simp[valsF]
 |e::l=>by
  have:=valsF_len n l
  unfold valsF at this ⊢
  rw[List.flatMap_cons,List.length_append]
  have h2:(valOfF n e).length≤1:=by unfold valOfF;cases (e.Name==n)<;>simp
  rw[List.length_cons];omega
theorem valsF_lens(n:List UInt8):∀l:List IField,Lib.lens (valsF l n)≤(l.map fun e=>e.Value.length).sum
 |[]=>by simp[valsF,Lib.lens]
 |e::l=>by
  have:=valsF_lens n l
  unfold valsF at this ⊢
  rw[List.flatMap_cons]
  unfold valOfF at this ⊢
  cases (e.Name==n)with
  |true=>simp only[cond_true,List.cons_append,List.nil_append,List.map_cons,List.sum_cons];show e.Value.length+Lib.lens _≤_;omega
  |false=>simp only[cond_false,List.nil_append,List.map_cons,List.sum_cons];omega
def getF(l:List IField)(n:List UInt8):List UInt8×Bool:=(joinT (valsF l n),decide (((valsF l n).length:Int)>0))
theorem getF_len(l:List IField)(n:List UInt8):(getF l n).1.length≤2*fsz l:=by
 have h1:=joinT_len (valsF l n)
 have h2:=valsF_len n l
 have h3:=valsF_lens n l
 unfold getF fsz;simp only;omega
theorem S_GetField_eq{k:Nat}(hk:1073741824≤k)(l:List IField)(n:List UInt8)(h:fsz l<268435456):S_GetField k l n=some (getF l n):=by
 have hl:l.length<268435456:=by unfold fsz at h;omega
 have:=fold_all (len:=l.length) (g:=fun j s=>s++(l[j]?).elim [] (valOfF n)) (Inv:=fun i s=>s.length≤i) (F:=fun m i s=>S_GetField_b0 k m l n i s) (out:=id) (fun m i s hi hI=>by
  simp only[S_GetField_b0,bif_dec,lt_cast,hi,if_true,S_GetField_b1,idx_nat hi,Option.bind_some,S_GetField_c21,wrap_succ (by omega:i<9223372036854775807),List.getElem?_eq_getElem hi,Option.elim_some,valOfF]
  cases (l[i].Name==n)with
  |true=>rw[cond_true,cond_true,appn_ok (by simp;omega)];exact⟨rfl,by simp;omega⟩
  |false=>rw[cond_false,cond_false,List.append_nil];exact⟨rfl,by omega⟩) (fun m i s hi=>by
  simp only[S_GetField_b0,bif_dec,lt_cast]
  rw[if_neg (by omega)];rfl) (k:=k) (by omega) (s:=[]) (by simp)
 have h1:S_GetField_b0 k k l n 0 []=some (foldI (fun j s=>s++(l[j]?).elim [] (valOfF n)) l.length 0 []):=this.1
 have h2:=valsF_len n l
 have h3:=valsF_lens n l
 have hv:foldI (fun j s=>s++(l[j]?).elim [] (valOfF n)) l.length 0 []=valsF l n:=by
  rw[foldI_append (f:=valOfF n) l.length 0 [] (by omega),List.drop_zero];rfl
 rw[S_GetField,h1,hv,Option.bind_some,S_JoinList_eq hk _ (by unfold fsz at h;omega)];rfl
theorem I_GetField_eq{k:Nat}(hk:1073741824≤k)(l:List IField)(n:List UInt8)(h:fsz l<268435456):I_GetField k l n=some (getF l n):=by
 have hl:l.length<268435456:=by unfold fsz at h;omega
 have:=fold_all (len:=l.length) (g:=fun j s=>s++(l[j]?).elim [] (valOfF n)) (Inv:=fun i s=>s.length≤i) (F:=fun m i s=>I_GetField_b0 k m n l (l.length:Int) i s) (out:=id) (fun m i s hi hI=>by
  simp only[I_GetField_b0,bif_dec,lt_cast,hi,if_true,I_GetField_b1,idx_nat hi,Option.bind_some,I_GetField_c19,wrap_succ (by omega:i<9223372036854775807),List.getElem?_eq_getElem hi,Option.elim_some,valOfF]
  cases (l[i].Name==n)with
  |true=>rw[cond_true,cond_true,appn_ok (by simp;omega)];exact⟨rfl,by simp;omega⟩
  |false=>rw[cond_false,cond_false,List.append_nil];exact⟨rfl,by omega⟩) (fun m i s hi=>by
  simp only[I_GetField_b0,bif_dec,lt_cast]
  rw[if_neg (by omega)];rfl) (k:=k) (by omega) (s:=[]) (by simp)
 have h1:I_GetField_b0 k k n l (l.length:Int) 0 []=some (foldI (fun j s=>s++(l[j]?).elim [] (valOfF n)) l.length 0 []):=this.1
 have h2:=valsF_len n l
 have h3:=valsF_lens n l
 have hv:foldI (fun j s=>s++(l[j]?).elim [] (valOfF n)) l.length 0 []=valsF l n:=by
  rw[foldI_append (f:=valOfF n) l.length 0 [] (by omega),List.drop_zero];rfl
 rw[I_GetField,h1,hv,Option.bind_some,I_JoinList_eq _ (by unfold fsz at h;omega)];rfl
theorem fsz_le{n:Nat}:∀{l:List IField},(∀e∈l,e.Value.length≤n)→fsz l≤l.length+l.length*n
 |[],_=>by simp[fsz]
 |e::l,h=>by
  have h1:=h e (.head _)
  have h2:=fsz_le (l:=l) fun e he=>h e (.tail _ he)
  unfold fsz at h2 ⊢
  simp only[List.length_cons,List.map_cons,List.sum_cons,Nat.add_mul,Nat.one_mul]at h2 ⊢
  omega
theorem S_l1Once_tot{k:Nat}{c:Sl1Cur}(h:CurOk c){n:Int}(hn:0<n):∃v c',S_l1Once k c n=some (v,c')∧CurOk c':=by
 unfold S_l1Once
 obtain⟨v,c1,e1,_,h1⟩:=S_l1Below_tot (k:=k) h hn
 rw[e1];exact⟨_,_,rfl,h1⟩
theorem S_l15Ask_tot{k:Nat}{c:Sl1Cur}(h:CurOk c):∃r c',S_l15Ask k c=some (r,c')∧CurOk c'∧(r.Method.length≤20∧r.Host.length≤20∧r.Target.length≤20)∧r.Fields.length≤2∧∀e∈r.Fields,e.Name.length≤20∧e.Value.length≤60:=by
 unfold S_l15Ask
 obtain⟨v1,c1,e1,l1,h1⟩:=S_l1Str_len (k:=k) h (l:=[([71,69,84]:List UInt8),([71,69,84]:List UInt8),([71,69,84]:List UInt8),([71,69,84]:List UInt8),([71,69,84]:List UInt8),([72,69,65,68]:List UInt8),([80,79,83,84]:List UInt8)]) (by decide) (n:=20) (by decide)
 obtain⟨v2,c2,e2,l2,h2⟩:=S_l1Str_len (k:=k) h1 (l:=[([47,97]:List UInt8),([47,97,63,121,61,50,38,120,61,49]:List UInt8),([47,112]:List UInt8),([47,108,97,110,103]:List UInt8),([47,108,97,110,103]:List UInt8),([47,109,105,110,101]:List UInt8),([47,98,105,103]:List UInt8),([47,112,97,103,101]:List UInt8),([47,110,111,110,101]:List UInt8),([47,46,47,112]:List UInt8)]) (by decide) (n:=20) (by decide)
 obtain⟨v3,c3,e3,h3⟩:=S_l1Once_tot (k:=k) h2 (n:=2) (by omega)
 have s1:∃b i h' l,S_l15Ask_c12 k v3 c3.b c3.i c3.h ([]:List UInt8) ([]:List UInt8) ([]:List UInt8) v1 ([104,46,101,120,97,109,112,108,101]:List UInt8) v2 []=some (b,i,h',l)∧CurOk ⟨b,i,h'⟩∧l.length≤1∧∀e∈l,e.Name.length≤20∧e.Value.length≤60:=by
  unfold S_l15Ask_c12
  cases v3 with
  |false=>exact⟨_,_,_,_,rfl,h3,by simp,by simp⟩
  |true=>
   obtain⟨v4,c4,e4,l4,h4⟩:=S_l1Str_len (k:=k) h3 (l:=[([100,101]:List UInt8),([101,110,59,113,61,48,46,53,44,32,100,101]:List UInt8),([102,114,44,32,101,110]:List UInt8),([42]:List UInt8)]) (by decide) (n:=60) (by decide)
   have e4':S_l1Str k (⟨c3.b,c3.i,c3.h⟩:Sl1Cur) [([100,101]:List UInt8),([101,110,59,113,61,48,46,53,44,32,100,101]:List UInt8),([102,114,44,32,101,110]:List UInt8),([42]:List UInt8)]=some (v4,c4):=e4
   rw[cond_true,e4',Option.bind_some,appn_ok (by simp),Option.bind_some]
   refine⟨_,_,_,_,rfl,h4,by simp,fun e he=> ?_⟩
   rw[List.nil_append,List.mem_singleton]at he
   subst he
   exact⟨by simp,l4⟩
 obtain⟨b,i,h',l,q1,q2,q3,q4⟩:=s1
 obtain⟨v5,c5,e5,h5⟩:=S_l1Once_tot (k:=k) q2 (n:=3) (by omega)
 have s2:∃b i h' l',S_l15Ask_c23 k v5 c5.b c5.i c5.h ([]:List UInt8) ([]:List UInt8) ([]:List UInt8) v1 ([104,46,101,120,97,109,112,108,101]:List UInt8) v2 l=some (b,i,h',l')∧CurOk ⟨b,i,h'⟩∧l'.length≤2∧∀e∈l',e.Name.length≤20∧e.Value.length≤60:=by
  unfold S_l15Ask_c23
  cases v5 with
  |false=>exact⟨_,_,_,_,rfl,h5,by omega,q4⟩
  |true=>
   obtain⟨v6,c6,e6,l6,h6⟩:=S_l1Str_len (k:=k) h5 (l:=[([117,49]:List UInt8),([117,50]:List UInt8),([97,32,98]:List UInt8)]) (by decide) (n:=60) (by decide)
   have e6':S_l1Str k (⟨c5.b,c5.i,c5.h⟩:Sl1Cur) [([117,49]:List UInt8),([117,50]:List UInt8),([97,32,98]:List UInt8)]=some (v6,c6):=e6
   rw[cond_true,e6',Option.bind_some,appn_ok (by simp only[List.length_cons,List.length_nil];omega),Option.bind_some]
   refine⟨_,_,_,_,rfl,h6,by simp only[List.length_append,List.length_cons,List.length_nil];omega,fun e he=> ?_⟩
   rcases List.mem_append.1 he with he|he
   ·exact q4 e he
   ·rw[List.mem_singleton]at he
    subst he
    exact⟨by simp,l6⟩
 obtain⟨b2,i2,h2',l',r1,r2,r3,r4⟩:=s2
 obtain⟨v7,c7,e7,h7⟩:=S_l1Once_tot (k:=k) r2 (n:=20) (by omega)
 rw[e1,Option.bind_some]
 simp only[e2,Option.bind_some,e3,q1,e5,r1,e7]
 cases v7<;>exact⟨_,_,rfl,h7,⟨l1,by simp only;decide,l2⟩,r3,r4⟩
structure VerS(l:List IVersion):Prop where
 n:l.length≤10
 t:∀e∈l,e.Text.length≤60
structure ResS(r:IResource):Prop where
 t:r.Target.length≤20
 c:r.Control.length≤60
 k:r.Keys.length≤20
 l:r.Langs.length≤3
 le:∀e∈r.Langs,e.length≤8
 v:VerS r.Versions
theorem l15_vers{k:Nat}{x5:Int}{y2 y3:List UInt8}{r1:List IResource}{r4:List (List UInt8)}{y60 y61 y62:List UInt8}{y63:Bool}{r6:List (List UInt8)}:∀(n j:Nat) (x7:Int) (l:List IVersion) (b:List Int) (i h:Int),j<n→l.length+j≤10→CurOk ⟨b,i,h⟩→(∀e∈l,e.Text.length≤60)→
 ∃b' i' h' t,S_l15Draw_b2 k n x5 x7 (j:Int) b i h y2 y3 r1 r4 y60 y61 y62 y63 r6 l=some (b',i',h',t)∧t.length=l.length+j∧CurOk ⟨b',i',h'⟩∧∀e∈t,e.Text.length≤60:=by
 intro n
 induction n with
 |zero=>intro j x7 l b i h hj;omega
 |succ n ih=>
  intro j x7 l b i h hj hx hc hl
  rw[S_l15Draw_b2,bif_dec]
  cases j with
  |zero=>rw[if_neg (by omega)];exact⟨_,_,_,_,rfl,rfl,hc,hl⟩
  |succ j=>
   rw[if_pos (by omega)]
   obtain⟨v1,c1,e1,l1,h1⟩:=S_l1Str_len (k:=k) hc (l:=[([111,110,101]:List UInt8),([116,119,111]:List UInt8),([116,104,114,101,101]:List UInt8),([84,104,101,32,113,117,105,99,107,32,98,114,111,119,110,32,102,111,120,46]:List UInt8),([60,97,62]:List UInt8),([]:List UInt8)]) (by decide) (n:=60) (by decide)
   obtain⟨v2,c2,e2,h2⟩:=S_l1Once_tot (k:=k) h1 (n:=9) (by omega)
   obtain⟨v3,c3,e3,_,h3⟩:=S_l1Below_tot (k:=k) h2 (n:=40) (by omega)
   rw[e1,Option.bind_some]
   simp only[e2,Option.bind_some]
   rw[appn_ok (by simp only[List.length_cons,List.length_nil];omega),Option.bind_some,e3,Option.bind_some,wrap_pred (by omega)]
   obtain⟨b',i',h',t,e,ht,hc',hq⟩:=ih j (IntKind.wrap .i64 (IntKind.wrap .i64 (x7+1)+v3)) (l++[⟨x7,v1,v2⟩]) c3.b c3.i c3.h (by omega) (by simp only[List.length_append,List.length_cons,List.length_nil];omega) h3 (fun e he=>by
    rcases List.mem_append.1 he with he|he
    ·exact hl e he
    ·rw[List.mem_singleton]at he;subst he;exact l1)
   exact⟨b',i',h',t,e,by simp only[List.length_append,List.length_cons,List.length_nil]at ht;omega,hc',hq⟩
theorem l15_b4{k:Nat}{x5:Int}{x57:List UInt8}{y2 y3:List UInt8}{r1:List IResource}{r4:List (List UInt8)}{y60 y61 y62:List UInt8}{y63:Bool}{c:Sl1Cur}{l:List IVersion}(h:CurOk c)(h0:0<l.length)(hl:∀e∈l,e.Text.length≤60):
 ∃b i h' p ls vs,S_l15Draw_b4 k x5 x57 c.b c.i c.h y2 y3 r1 r4 y60 y61 y62 y63 [] l=some (b,i,h',p,ls,vs)∧CurOk ⟨b,i,h'⟩∧ls.length≤3∧(∀e∈ls,e.length≤8)∧vs.length=l.length∧∀e∈vs,e.Text.length≤60:=by
 unfold S_l15Draw_b4 S_l15Draw_c58
 cases x57==([47,108,97,110,103]:List UInt8)with
 |true=>
  obtain⟨v1,c1,e1,⟨a1,b1⟩,h1⟩:=S_l1Below_tot (k:=k) h (n:=3) (by omega)
  have e1':S_l1Below k (⟨c.b,c.i,c.h⟩:Sl1Cur) (3:Int)=some (v1,c1):=e1
  obtain⟨m,rfl⟩:=Int.eq_ofNat_of_zero_le a1
  have w:IntKind.wrap .i64 ((1:Int)+((m:Nat):Int))=((m+1:Nat):Int):=by rw[wrap_id (by omega) (by omega)];omega
  simp only[cond_true,e1',Option.bind_some]
  rw[w,ssub_take (by simp only[List.length_cons,List.length_nil];omega)]
  simp only[Option.bind_some]
  refine⟨_,_,_,_,_,_,rfl,h1,by simp only[List.length_take,List.length_cons,List.length_nil];omega,fun e he=> ?_,rfl,hl⟩
  have h2:=List.mem_of_mem_take he
  clear he
  simp only[List.mem_cons,List.not_mem_nil,or_false]at h2
  rcases h2 with rfl|rfl|rfl<;>decide
 |false=>
  rw[cond_false]
  unfold S_l15Draw_c66
  cases x57==([47,109,105,110,101]:List UInt8)with
  |true=>exact⟨_,_,_,_,_,_,rfl,h,by simp,by simp,rfl,hl⟩
  |false=>
   rw[cond_false]
   unfold S_l15Draw_c69
   cases x57==([47,98,105,103]:List UInt8)with
   |false=>exact⟨_,_,_,_,_,_,rfl,h,by simp,by simp,rfl,hl⟩
   |true=>
    have i0:∀w:List IVersion,0<w.length→∃e,idx w (0:Int)=some e∧e∈w:=fun w hw=>⟨w[0],idx_nat (i:=0) hw,List.getElem_mem hw⟩
    obtain⟨e,he,_⟩:=i0 l h0
    obtain⟨e',he',hm⟩:=i0 (l.set ((0:Int)).toNat (⟨e.At,([84,104,101,32,113,117,105,99,107,32,98,114,111,119,110,32,102,111,120,46,84,104,101,32,113,117,105,99,107,32,98,114,111,119,110,32,102,111,120,46,84,104,101,32,113,117,105,99,107,32,98,114,111,119,110,32,102,111,120,46]:List UInt8),e.Gone⟩:IVersion)) (by rw[List.length_set];exact h0)
    have hb:∀e2∈l.set ((0:Int)).toNat (⟨e.At,([84,104,101,32,113,117,105,99,107,32,98,114,111,119,110,32,102,111,120,46,84,104,101,32,113,117,105,99,107,32,98,114,111,119,110,32,102,111,120,46,84,104,101,32,113,117,105,99,107,32,98,114,111,119,110,32,102,111,120,46]:List UInt8),e.Gone⟩:IVersion),e2.Text.length≤60:=fun e2 h2=>by
     rcases List.mem_or_eq_of_mem_set h2 with h2|h2
     ·exact hl e2 h2
     ·subst h2;simp only;decide
    simp only[cond_true,he,Option.bind_some,he']
    refine⟨_,_,_,_,_,_,rfl,h,by simp,by simp,by simp only[List.length_set],fun e2 h2=> ?_⟩
    rcases List.mem_or_eq_of_mem_set h2 with h2|h2
    ·exact hb e2 h2
    ·subst h2;exact hb e' hm
theorem l15_res{k:Nat}(hk:1073741824≤k){y2 y3:List UInt8}{r1:List IResource}{r4:List (List UInt8)}{j:Nat}{c:Sl1Cur}(h:CurOk c)(hj:j<r4.length)(h4:∀e∈r4,e.length≤20)(h1:r1.length≤1000):
 ∃b i h' r,S_l15Draw_b1 k (j:Int) c.b c.i c.h y2 y3 r1 r4=some (b,i,h',r1++[r])∧CurOk ⟨b,i,h'⟩∧ResS r:=by
 unfold S_l15Draw_b1
 have hi:idx r4 (j:Int)=some r4[j]:=idx_nat hj
 have ht:=h4 _ (List.getElem_mem hj)
 generalize r4[j]=tg at hi ht
 obtain⟨v1,c1,e1,l1,q1⟩:=S_l1Str_len (k:=k) h (l:=[([109,97,120,45,97,103,101,61,50,48]:List UInt8),([109,97,120,45,97,103,101,61,50,48,44,32,115,116,97,108,101,45,119,104,105,108,101,45,114,101,118,97,108,105,100,97,116,101,61,51,48]:List UInt8),([115,45,109,97,120,97,103,101,61,53,44,32,109,97,120,45,97,103,101,61,54,48]:List UInt8),([110,111,45,99,97,99,104,101]:List UInt8),([110,111,45,115,116,111,114,101]:List UInt8),([]:List UInt8),([109,97,120,45,97,103,101,61,57,44,32,109,117,115,116,45,114,101,118,97,108,105,100,97,116,101]:List UInt8),([109,97,120,45,97,103,101,61,56,44,32,115,116,97,108,101,45,105,102,45,101,114,114,111,114,61,52,48]:List UInt8),([112,117,98,108,105,99,44,32,109,97,120,45,97,103,101,61,49,48,48]:List UInt8)]) (by decide) (n:=60) (by decide)
 have e1':S_l1Str k (⟨c.b,c.i,c.h⟩:Sl1Cur) [([109,97,120,45,97,103,101,61,50,48]:List UInt8),([109,97,120,45,97,103,101,61,50,48,44,32,115,116,97,108,101,45,119,104,105,108,101,45,114,101,118,97,108,105,100,97,116,101,61,51,48]:List UInt8),([115,45,109,97,120,97,103,101,61,53,44,32,109,97,120,45,97,103,101,61,54,48]:List UInt8),([110,111,45,99,97,99,104,101]:List UInt8),([110,111,45,115,116,111,114,101]:List UInt8),([]:List UInt8),([109,97,120,45,97,103,101,61,57,44,32,109,117,115,116,45,114,101,118,97,108,105,100,97,116,101]:List UInt8),([109,97,120,45,97,103,101,61,56,44,32,115,116,97,108,101,45,105,102,45,101,114,114,111,114,61,52,48]:List UInt8),([112,117,98,108,105,99,44,32,109,97,120,45,97,103,101,61,49,48,48]:List UInt8)]=some (v1,c1):=e1
 obtain⟨v2,c2,e2,l2,q2⟩:=S_l1Str_len (k:=k) q1 (l:=[([]:List UInt8),([107,49]:List UInt8),([107,49,32,107,50]:List UInt8),([110,101,119,115]:List UInt8)]) (by decide) (n:=20) (by decide)
 obtain⟨v3,c3,e3,_,q3⟩:=S_l1Below_tot (k:=k) q2 (n:=30) (by omega)
 obtain⟨v4,c4,e4,⟨a4,b4⟩,q4⟩:=S_l1Below_tot (k:=k) q3 (n:=4) (by omega)
 obtain⟨m,rfl⟩:=Int.eq_ofNat_of_zero_le a4
 have w:IntKind.wrap .i64 ((1:Int)+((m:Nat):Int))=((m+1:Nat):Int):=by rw[wrap_id (by omega) (by omega)];omega
 obtain⟨b5,i5,h5,t,e5,n5,q5,t5⟩:=l15_vers (k:=k) (x5:=(j:Int)) (y2:=y2) (y3:=y3) (r1:=r1) (r4:=r4) (y60:=tg) (y61:=v1) (y62:=v2) (y63:=false) (r6:=[]) k (m+1) v3 [] c4.b c4.i c4.h (by omega) (by simp only[List.length_nil];omega) q4 (by simp)
 simp only[List.length_nil,Nat.zero_add]at n5
 obtain⟨b6,i6,h6,p,ls,vs,e6,q6,n6,m6,n7,t6⟩:=l15_b4 (k:=k) (x5:=(j:Int)) (x57:=tg) (y2:=y2) (y3:=y3) (r1:=r1) (r4:=r4) (y60:=tg) (y61:=v1) (y62:=v2) (y63:=false) (c:=⟨b5,i5,h5⟩) (l:=t) q5 (by omega) t5
 simp only at e6
 simp only[hi,e1',e2,e3,e4,w,e5,e6,Option.bind_some]
 rw[appn_ok (by simp only[List.length_cons,List.length_nil];omega),Option.bind_some]
 exact⟨_,_,_,_,rfl,q6,⟨ht,l1,l2,n6,m6,⟨by simp only;omega,t6⟩⟩⟩
theorem l15_loop{k:Nat}(hk:1073741824≤k){y2 y3:List UInt8}{r4:List (List UInt8)}(h4:∀e∈r4,e.length≤20)(hr:r4.length≤100):∀(n j:Nat) (r1:List IResource) (b:List Int) (i h:Int),j≤r4.length→r4.length -j<n→r1.length=j→(∀e∈r1,ResS e)→CurOk ⟨b,i,h⟩→
 ∃b' i' h' l,S_l15Draw_b0 k n (j:Int) b i h y2 y3 r1 r4=some (b',i',h',l)∧CurOk ⟨b',i',h'⟩∧l.length=r4.length∧∀e∈l,ResS e:=by
 intro n
 induction n with
 |zero=>intro j r1 b i h _ hj;omega
 |succ n ih=>
  intro j r1 b i h hj hn h1 hs hc
  rw[S_l15Draw_b0,bif_dec]
  by_cases cj:j<r4.length
  ·rw[if_pos (by omega)]
   obtain⟨b2,i2,h2,r,e,q,s⟩:=l15_res (k:=k) hk (y2:=y2) (y3:=y3) (r1:=r1) (r4:=r4) (c:=⟨b,i,h⟩) hc cj h4 (by omega)
   simp only at e
   rw[e,Option.bind_some,wrap_succ (by omega)]
   exact ih (j+1) (r1++[r]) b2 i2 h2 (by omega) (by omega) (by simp only[List.length_append,List.length_cons,List.length_nil];omega) (fun e he=>by
    rcases List.mem_append.1 he with he|he
    ·exact hs e he
    ·rw[List.mem_singleton]at he;subst he;exact s) q
  ·rw[if_neg (by omega)];exact⟨_,_,_,_,rfl,hc,by omega,hs⟩
structure OrgS(o:IOrigin):Prop where
 h:o.Host.length≤20
 n:o.Resources.length≤7
 r:∀e∈o.Resources,ResS e
 p:0<o.Resources.length
theorem S_l15Draw_tot{k:Nat}(hk:1073741824≤k){c:Sl1Cur}(h:CurOk c):∃o c',S_l15Draw k c=some (o,c')∧CurOk c'∧OrgS o:=by
 unfold S_l15Draw
 obtain⟨b,i,h',l,e,q,n,s⟩:=l15_loop (k:=k) hk (y2:=[]) (y3:=[104,46,101,120,97,109,112,108,101]) (r4:=[([47,97]:List UInt8),([47,97,63,120,61,49,38,121,61,50]:List UInt8),([47,112]:List UInt8),([47,108,97,110,103]:List UInt8),([47,109,105,110,101]:List UInt8),([47,98,105,103]:List UInt8),([47,112,97,103,101]:List UInt8)]) (by decide) (by decide) k 0 [] c.b c.i c.h (by omega) (by simp only[List.length_cons,List.length_nil];omega) rfl (by simp) h
 rw[show(((0:Nat)):Int)=0 from rfl]at e
 rw[e,Option.bind_some]
 exact⟨_,_,rfl,q,⟨by simp only;decide,by simp only;rw[n];decide,s,by simp only;rw[n];decide⟩⟩
theorem S_DropField_eq{k:Nat}(hk:1073741824≤k)(l:List IField)(n:List UInt8)(h:l.length<1073741823):S_DropField k l n=some (l.filter fun e=> !(e.Name==n)):=by
 have:=fold_all (len:=l.length) (g:=fun j s=>s++(l[j]?).elim [] fun e=>bif !(e.Name==n)then [e]else []) (Inv:=fun i s=>s.length≤i) (F:=fun m i s=>S_DropField_b0 k m l n i s) (out:=id) (fun m i s hi hI=>by
  have hI:s.length≤i:=hI
  have ha:∀e,app 32 s [e]=some (s++[e]):=fun e=>appn_ok (by simp;omega)
  simp only[S_DropField_b0,bif_dec,lt_cast,hi,if_true,S_DropField_b1,idx_nat hi,Option.bind_some,S_DropField_c20,wrap_succ (by omega:i<9223372036854775807),List.getElem?_eq_getElem hi,Option.elim_some,ha]
  cases (l[i].Name==n)with
  |true=>
   simp only[Bool.not_true,cond_false,Option.bind_some,List.append_nil]
   exact⟨trivial,by omega⟩
  |false=>
   simp only[Bool.not_false,cond_true,Option.bind_some]
   exact⟨trivial,by simp only[List.length_append,List.length_cons,List.length_nil];omega⟩) (fun m i s hi=>by
  simp only[S_DropField_b0,bif_dec,lt_cast]
  rw[if_neg (by omega)];rfl) (k:=k) (by omega) (s:=[]) (by simp)
 have h1:S_DropField_b0 k k l n 0 []=some (foldI (fun j s=>s++(l[j]?).elim [] fun e=>bif !(e.Name==n)then [e]else []) l.length 0 []):=this.1
 rw[S_DropField,h1,foldI_filter,Option.bind_some,List.nil_append]
def selV(fs:List IField)(n:List UInt8):List UInt8:=joinT (splitL (getF fs n).1)
theorem selV_len(fs:List IField)(n:List UInt8):(selV fs n).length≤6*fsz fs+2:=by
 have h1:=getF_len fs n
 have h2:=splitL_len (getF fs n).1
 have h3:=splitL_sum (getF fs n).1
 have h4:=joinT_len (splitL (getF fs n).1)
 unfold selV;omega
theorem selV_ok{fs:List IField}(n:List UInt8)(h:fsz fs<67108864):(getF fs n).1.length<1073741000∧2*(splitL (getF fs n).1).length+Lib.lens (splitL (getF fs n).1)<1073741824:=by
 have h1:=getF_len fs n
 have h2:=splitL_len (getF fs n).1
 have h3:=splitL_sum (getF fs n).1
 omega
def mk15:List UInt8:=[33,35,36,37,38,39,42,43,45,46,94,95,124,126,96]
def letB(c:UInt8):Bool:=(decide (97≤c.toNat)&&decide (c.toNat≤122))||(decide (65≤c.toNat)&&decide (c.toNat≤90))||(decide (48≤c.toNat)&&decide (c.toNat≤57))
def mkP(c:UInt8)(i:Nat):Bool:=match mk15[i]? with|some m=>c==m|none=>false
def tokB(c:UInt8):Bool:=(firstI (mkP c) 15 0).isSome||letB c
theorem S_l4Letter_eq{k:Nat}(c:UInt8):S_l4Letter k (c.toNat:Int)=some (letB c):=by
 have hb:=UInt8.toNat_lt c
 rw[S_l4Letter,wrap_id (by omega) (by omega)]
 simp only[S_l1In,bif_dec,letB]
 by_cases a1:97≤c.toNat<;>by_cases a2:c.toNat≤122<;>by_cases a3:65≤c.toNat<;>by_cases a4:c.toNat≤90<;>by_cases a5:48≤c.toNat<;>by_cases a6:c.toNat≤57<;>
  simp[a1,a2,a3,a4,a5,a6,show((c.toNat:Int)≥97)=(97≤c.toNat)from by simp;omega,show((c.toNat:Int)≤122)=(c.toNat≤122)from by simp;omega,show((c.toNat:Int)≥65)=(65≤c.toNat)from by simp;omega,show((c.toNat:Int)≤90)=(c.toNat≤90)from by simp;omega,show((c.toNat:Int)≥48)=(48≤c.toNat)from by simp;omega,show((c.toNat:Int)≤57)=(c.toNat≤57)from by simp;omega]
theorem S_l4Token_eq{k:Nat}(hk:1073741824≤k)(c:UInt8):S_l4Token k (c.toNat:Int)=some (tokB c):=by
 have:=find_all (len:=15) (c:=fun i=>bif mkP c i then some true else none) (F:=fun n i=>S_l4Token_b0 k n (c.toNat:Int) i) (fun n i hi=>by
  have hl:i<mk15.length:=hi
  have e:idx ([33,35,36,37,38,39,42,43,45,46,94,95,124,126,96]:List UInt8) (i:Int)=some mk15[i]:=idx_nat hl
  have e2:decide ((i:Int)<15)=true:=decide_eq_true (by omega)
  simp only[S_l4Token_b0,e2,cond_true,e,Option.bind_some,u8_eq,wrap_succ (by omega:i<9223372036854775807),mkP,List.getElem?_eq_getElem hl]
  cases (c==mk15[i])<;>rfl) (fun n i hi=>by
  have e2:decide ((i:Int)<15)=false:=decide_eq_false (by omega)
  simp only[S_l4Token_b0,e2,cond_false]) (k:=k) (by omega)
 rw[S_l4Token,this,findI_first]
 unfold tokB
 cases firstI (mkP c) 15 0 with
 |none=>simp[ocOf,oc,S_l4Letter_eq]
 |some j=>simp[ocOf,oc]
def ntP(x:List UInt8)(i:Nat):Bool:=match x[i]? with|some c=> !tokB c|none=>false
def inR(n a b:Int):Bool:=decide (a≤n)&&decide (n≤b)
theorem S_l1In_eq{k:Nat}(n a b:Int):S_l1In k n a b=some (inR n a b):=by
 rw[S_l1In,bif_dec,inR]
 by_cases h:a≤n<;>simp[h]
theorem I_inRange_eq{k:Nat}(n a b:Int):I_inRange k n a b=some (inR n a b):=by
 rw[I_inRange,bif_dec,inR]
 by_cases h:a≤n<;>simp[h]
def isTok(x:List UInt8):Bool:=(firstI (ntP x) x.length 0).isNone&&inR (x.length:Int) 1 40
theorem S_IsToken_eq{k:Nat}(hk:1073741824≤k)(x:List UInt8)(h:x.length<1073741824):S_IsToken k x=some (isTok x):=by
 have:=find_all (len:=x.length) (c:=fun i=>bif ntP x i then some false else none) (F:=fun n i=>S_IsToken_b0 k n x i) (fun n i hi=>by
  simp only[S_IsToken_b0,idx_nat hi,Option.bind_some,wrap_succ (by omega:i<9223372036854775807),bif_dec,lt_cast,hi,if_true,ntP,List.getElem?_eq_getElem hi,S_l4Token_eq hk]
  cases tokB x[i]<;>rfl) (fun n i hi=>by
  simp only[S_IsToken_b0,bif_dec,lt_cast]
  rw[if_neg (by omega)]) (k:=k) (by omega)
 rw[S_IsToken,this,findI_first]
 unfold isTok
 cases firstI (ntP x) x.length 0<;>simp[ocOf,oc,S_l1In_eq]
def auth:List UInt8:=[97,117,116,104,111,114,105,122,97,116,105,111,110]
def visitor(fs:List IField):List UInt8:=bif !isTok (selV fs auth)then []else bif decide (((selV fs auth).length:Int)>20)then []else selV fs auth
theorem S_VisitorOf_eq{k:Nat}(hk:1073741824≤k)(r:IRequest)(h:fsz r.Fields<67108864):S_VisitorOf k r=some (visitor r.Fields):=by
 obtain⟨s1,s2⟩:=selV_ok auth h
 have hl:=selV_len r.Fields auth
 rw[S_VisitorOf,S_l5Get,S_GetField_eq hk _ _ (by omega),Option.bind_some,Option.bind_some]
 show((S_SplitList k (getF r.Fields auth).1).bind _)=_
 rw[S_SplitList_eq hk _ s1,Option.bind_some,S_JoinList_eq hk _ s2,Option.bind_some]
 show((S_IsToken k (selV r.Fields auth)).bind fun w4=>bif !w4 then some []else bif decide (((selV r.Fields auth).length:Int)>20)then some []else some (selV r.Fields auth))=_
 rw[S_IsToken_eq hk _ (by omega),Option.bind_some]
 unfold visitor
 cases isTok (selV r.Fields auth)<;>cases decide (((selV r.Fields auth).length:Int)>20)<;>rfl
def pairT(s:List UInt8):List UInt8×List UInt8×Bool:=match firstI (byteP s 61) s.length 0 with|some i=>(trimT (s.take i),trimT (s.drop (i+1)),true)|none=>(trimT s,[],false)
theorem S_SplitPair_eq{k:Nat}(hk:1073741824≤k)(s:List UInt8)(h:s.length<1073741824):S_SplitPair k s=some (pairT s):=by
 have:=find_all (len:=s.length) (c:=fun i=>bif byteP s 61 i then some (trimT (s.take i),trimT (s.drop (i+1)),true)else none) (F:=fun n i=>S_SplitPair_b0 k n s i) (fun n i hi=>by
  have e:((UInt8.toNat s[i]:Int)==61)=(s[i]==61):=u8_eq s[i] 61
  simp only[S_SplitPair_b0,idx_nat hi,Option.bind_some,wrap_succ (by omega:i<9223372036854775807),bif_dec,lt_cast,hi,if_true,byteP_at hi,e]
  cases (s[i]==61)with
  |true=>rw[cond_true,cond_true,ssub_take (by omega),Option.bind_some,S_TrimText_eq hk _ (by simp;omega),Option.bind_some,ssub_drop (by omega),Option.bind_some,S_TrimText_eq hk _ (by simp;omega)];rfl
  |false=>rfl) (fun n i hi=>by
  simp only[S_SplitPair_b0,bif_dec,lt_cast]
  rw[if_neg (by omega)]) (k:=k) (by omega)
 rw[S_SplitPair,this,findI_first,S_TrimText_eq hk s h]
 unfold pairT
 cases firstI (byteP s 61) s.length 0<;>rfl
theorem pairT_len(s:List UInt8):(pairT s).1.length≤s.length∧(pairT s).2.1.length≤s.length:=by
 unfold pairT
 cases firstI (byteP s 61) s.length 0 with
 |none=>have:=trimT_len s;simp only[List.length_nil];omega
 |some i=>
  have h1:=trimT_len (s.take i)
  have h2:=trimT_len (s.drop (i+1))
  simp at h1 h2 ⊢;omega
def lowB(c:UInt8):UInt8:=bif decide (65≤c.toNat)&&decide (c.toNat≤90)then c+32 else c
def lowT(s:List UInt8):List UInt8:=s.map lowB
theorem lowB_add:∀j:Fin 256,(65≤j.val∧j.val≤90)→IntKind.wrap .u8 ((j.val:Int)+32)=(((UInt8.ofNat j.val)+32).toNat:Int):=by decide+kernel
theorem low_wrap(c:UInt8)(h:65≤c.toNat∧c.toNat≤90):IntKind.wrap .u8 ((c.toNat:Int)+32)=((c+32).toNat:Int):=by
 have:=lowB_add ⟨c.toNat,UInt8.toNat_lt c⟩ h
 simpa using this
theorem bytes_ints(s:List UInt8):bytesOf (intsOf s)=s:=by
 unfold bytesOf intsOf
 rw[List.map_map]
 conv=>rhs;rw[←List.map_id s]
 refine List.map_congr_left fun c _=> ?_
 simp
theorem ints_len(s:List UInt8):(intsOf s).length=s.length:=by unfold intsOf;simp
theorem ints_idx{s:List UInt8}{i:Nat}(h:i<s.length):idx (intsOf s) (i:Int)=some (s[i].toNat:Int):=by
 rw[idx_nat (by rw[ints_len];exact h)];simp[intsOf]
theorem ints_set(s:List UInt8)(i:Nat)(c:UInt8):(intsOf s).set i (c.toNat:Int)=intsOf (s.set i c):=by
 unfold intsOf;rw[List.map_set]
theorem low_loop{L:Nat}{F:Nat→Int→List Int→Option (List Int)}(T:∀n (i:Nat) (s:List UInt8) (h:i<s.length),s.length=L→F (n+1) (i:Int) (intsOf s)=F n ((i+1:Nat):Int) (intsOf (s.set i (lowB s[i]))))
 (E:∀n (i:Nat) (s:List UInt8),s.length≤i→s.length=L→F (n+1) (i:Int) (intsOf s)=some (intsOf s)):∀(n i:Nat) (s:List UInt8),i≤s.length→s.length -i<n→s.length=L→F n (i:Int) (intsOf s)=some (intsOf (s.take i++(s.drop i).map lowB)):=by
 intro n
 induction n with
 |zero=>intro i s _ h;omega
 |succ n ih=>
  intro i s hi hn hs
  by_cases h:i<s.length
  ·rw[T n i s h hs,ih (i+1) _ (by simp;omega) (by simp;omega) (by simpa using hs)]
   congr 2
   rw[List.drop_eq_getElem_cons h,List.map_cons]
   have e1:(s.set i (lowB s[i])).take (i+1)=s.take i++[lowB s[i]]:=by
    apply List.ext_getElem?
    intro j
    by_cases hj:j<i
    ·rw[List.getElem?_take,if_pos (by omega),List.getElem?_set_ne (by omega),List.getElem?_append_left (by simp;omega),List.getElem?_take,if_pos hj]
    ·by_cases hj2:j=i
     ·subst hj2
      rw[List.getElem?_take,if_pos (by omega),List.getElem?_set_self h,List.getElem?_append_right (by simp;omega)]
      simp[Nat.min_eq_left (Nat.le_of_lt h)]
     ·rw[List.getElem?_take,if_neg (by omega),List.getElem?_eq_none (by simp;omega)]
   have e2:(s.set i (lowB s[i])).drop (i+1)=s.drop (i+1):=by
    apply List.ext_getElem?
    intro j
    rw[List.getElem?_drop,List.getElem?_drop,List.getElem?_set_ne (by omega)]
   rw[e1,e2,List.append_assoc];rfl
  ·rw[E n i s (by omega) hs,List.drop_of_length_le (by omega),List.take_of_length_le (by omega)];simp
theorem S_LowerText_eq{k:Nat}(hk:1073741824≤k)(s:List UInt8)(h:s.length<1073741824):S_LowerText k s=some (lowT s):=by
 have:=low_loop (L:=s.length) (F:=fun n i r=>S_LowerText_b0 k n i r) (fun n i s hi hs=>by
  have hb:=UInt8.toNat_lt s[i]
  have hlen:((i:Int)<((intsOf s).length:Int)):=by rw[ints_len];omega
  simp only[S_LowerText_b0,bif_dec,hlen,if_true,S_LowerText_b1,ints_idx hi,Option.bind_some,wrap_succ (by omega:i<9223372036854775807)]
  rw[wrap_id (by omega) (by omega),S_l1In]
  by_cases c1:65≤s[i].toNat
  ·by_cases c2:s[i].toNat≤90
   ·have e1:decide ((s[i].toNat:Int)≥65)=true:=decide_eq_true (by omega)
    have e2:decide ((s[i].toNat:Int)≤90)=true:=decide_eq_true (by omega)
    have e3:lowB s[i]=s[i]+32:=by unfold lowB;rw[decide_eq_true c1,decide_eq_true c2];rfl
    simp only[e1,e2,S_LowerText_c18,cond_true,Option.bind_some,ints_idx hi,low_wrap _ ⟨c1,c2⟩,Int.toNat_natCast,ints_set,e3]
   ·have e1:decide ((s[i].toNat:Int)≥65)=true:=decide_eq_true (by omega)
    have e2:decide ((s[i].toNat:Int)≤90)=false:=decide_eq_false (by omega)
    have e3:lowB s[i]=s[i]:=by unfold lowB;rw[decide_eq_false c2];simp
    simp only[e1,e2,cond_true,cond_false,Option.bind_some,S_LowerText_c18,e3,List.set_getElem_self]
  ·have e1:decide ((s[i].toNat:Int)≥65)=false:=decide_eq_false (by omega)
   have e3:lowB s[i]=s[i]:=by unfold lowB;rw[decide_eq_false c1];simp
   simp only[e1,cond_false,Option.bind_some,S_LowerText_c18,e3,List.set_getElem_self]) (fun n i s hi _=>by
  have hlen:¬((i:Int)<((intsOf s).length:Int)):=by rw[ints_len];omega
  simp only[S_LowerText_b0,bif_dec,hlen,if_false]) k 0 s (by omega) (by omega) rfl
 have h1:S_LowerText_b0 k k 0 (intsOf s)=some (intsOf (s.take 0++(s.drop 0).map lowB)):=this
 rw[S_LowerText,h1,Option.bind_some,bytes_ints];simp[lowT]
theorem lowT_len(s:List UInt8):(lowT s).length=s.length:=by unfold lowT;simp
def dig:List UInt8→Int→Int→Option Int
 |[],q,_=>some q
 |d::r,q,sc=>bif inR (d.toNat:Int) 48 57 then dig r (q+sc*((d.toNat:Int) -48)) (sc.tdiv 10)else none
def fin1(o:Option Int):Option Int:=o.bind fun q=>bif decide (q>1000)then none else some q
def wtT:List UInt8→Option Int
 |[]=>none
 |c::r=>bif c==48||c==49 then(match r with
  |[]=>fin1 (some (1000*((c.toNat:Int) -48)))
  |p::ds=>bif p==46&&decide (ds.length≤3)then fin1 (dig ds (1000*((c.toNat:Int) -48)) 100)else none)else none
theorem wrap_dig8:∀j:Fin 256,(48≤j.val∧j.val≤57)→IntKind.wrap .u8 ((j.val:Int) -48)=(j.val:Int) -48:=by decide+kernel
theorem wrap_dig(c:UInt8)(h:48≤c.toNat∧c.toNat≤57):IntKind.wrap .u8 ((c.toNat:Int) -48)=(c.toNat:Int) -48:=wrap_dig8 ⟨c.toNat,UInt8.toNat_lt c⟩ h
theorem inR_iff{n a b:Int}:inR n a b=true↔a≤n∧n≤b:=by unfold inR;simp
theorem prod_in{sc d:Int}(h1:0≤sc)(h2:sc≤100)(h3:0≤d)(h4:d≤9):0≤sc*d∧sc*d≤900:=
 ⟨Int.mul_nonneg h1 h3,by have:=Int.mul_le_mul h2 h4 h3 (by omega:(0:Int)≤100);omega⟩
theorem tdiv_in{sc:Int}(h1:0≤sc)(h2:sc≤100):0≤sc.tdiv 10∧sc.tdiv 10≤100:=by
 rw[Int.tdiv_eq_ediv_of_nonneg h1];omega
theorem dig_nonneg:∀(l:List UInt8) (q sc r:Int),0≤q→0≤sc→sc≤100→dig l q sc=some r→0≤r
 |[],q,sc,r,hq,_,_,h=>by
  have:q=r:=by simpa[dig]using h
  omega
 |d::l,q,sc,r,hq,h1,h2,h=>by
  rw[dig]at h
  cases hi:inR (d.toNat:Int) 48 57 with
  |false=>rw[hi]at h;cases h
  |true=>
   rw[hi,cond_true]at h
   obtain⟨i1,i2⟩:=inR_iff.1 hi
   have p:=prod_in h1 h2 (show 0≤(d.toNat:Int) -48 by omega) (by omega)
   have t:=tdiv_in h1 h2
   exact dig_nonneg l _ _ r (by omega) t.1 t.2 h
theorem S_w_loop{k:Nat}{x:List UInt8}(hx:x.length≤1000):∀(n i:Nat) (q sc:Int),x.length -i<n→i≤5000→0≤q→q+900*((x.length -i:Nat):Int)≤10000000→0≤sc→sc≤100→
 S_l13Weight_b0 k n x q sc (i:Int)=some (match dig (x.drop i) q sc with|some r=> .nrm r|none=> .oth (-1)):=by
 intro n
 induction n with
 |zero=>intro i q sc h;omega
 |succ n ih=>
  intro i q sc hn hi hq hb h1 h2
  rw[S_l13Weight_b0,bif_dec]
  by_cases c:i<x.length
  ·have hb:=UInt8.toNat_lt x[i]
   rw[if_pos (by omega),idx_nat c,Option.bind_some,wrap_id (by omega) (by omega),S_l1In_eq,Option.bind_some,List.drop_eq_getElem_cons c,dig]
   cases hr:inR (x[i].toNat:Int) 48 57 with
   |false=>rfl
   |true=>
    obtain⟨i1,i2⟩:=inR_iff.1 hr
    have p:=prod_in h1 h2 (show 0≤(x[i].toNat:Int) -48 by omega) (by omega)
    have t:=tdiv_in h1 h2
    have ed:dv sc 10=some (sc.tdiv 10):=by simp[dv]
    rw[Bool.not_true,cond_false,cond_true,Option.bind_some,ed,Option.bind_some,wrap_dig _ (by omega),wrap_id (n:=(x[i].toNat:Int) -48) (by omega) (by omega)]
    generalize sc*((x[i].toNat:Int) -48)=pr at p
    rw[wrap_id (n:=pr) (by omega) (by omega),wrap_id (n:=q+pr) (by omega) (by omega),wrap_id (n:=sc.tdiv 10) (by omega) (by omega),wrap_succ (by omega)]
    exact ih (i+1) (q+pr) (sc.tdiv 10) (by omega) (by omega) (by omega) (by omega) t.1 t.2
  ·rw[if_neg (by omega),List.drop_of_length_le (by omega),dig]
theorem wtT_nonneg{v:List UInt8}{q:Int}(h:wtT v=some q):0≤q:=by
 have fin0:∀{o:Option Int} {q:Int},fin1 o=some q→o=some q:=fun {o q} h=>by
  unfold fin1 at h
  cases o with
  |none=>cases h
  |some r=>
   rw[Option.bind_some]at h
   cases hd:decide (r>1000)with
   |true=>rw[hd]at h;cases h
   |false=>rw[hd]at h;exact h
 cases v with
 |nil=>cases h
 |cons c r=>
  unfold wtT at h
  simp only at h
  cases hc:(c==48||c==49)with
  |false=>rw[hc]at h;cases h
  |true=>
   have hc2:48≤c.toNat:=by
    rcases Bool.or_eq_true _ _▸hc with e|e
    ·have:c=48:=by simpa using e
     subst this;decide
    ·have:c=49:=by simpa using e
     subst this;decide
   rw[hc,cond_true]at h
   cases r with
   |nil=>
    have:=fin0 h
    have:1000*((c.toNat:Int) -48)=q:=by simpa using this
    omega
   |cons p ds=>
    cases hp:(p==46&&decide (ds.length≤3))with
    |false=>simp only[hp,cond_false]at h;cases h
    |true=>
     simp only[hp,cond_true]at h
     exact dig_nonneg _ _ _ _ (by omega) (by omega) (by omega) (fin0 h)
theorem ocS{o:Option Int}:oc (match o with|some r=>(Oc.nrm r:Oc Int Int)|none=> .oth (-1)) (fun q=>bif decide (q>1000)then some (-1:Int)else some q) (fun r=>some r)=some ((fin1 o).getD (-1)):=by
 cases o with
 |none=>rfl
 |some q=>
  show(bif decide (q>1000)then some (-1:Int)else some q)=some (((some q).bind fun q=>bif decide (q>1000)then none else some q).getD (-1))
  rw[Option.bind_some]
  cases decide (q>1000)<;>rfl
theorem S_l13Weight_eq{k:Nat}(hk:1073741824≤k)(v:List UInt8):S_l13Weight k v=some ((wtT v).getD (-1)):=by
 cases v with
 |nil=>rfl
 |cons c r=>
  have e0:(((c::r).length:Int)==0)=false:=by rw[beq_eq_false_iff_ne];simp;omega
  rw[S_l13Weight,e0,cond_false,bif_dec]
  by_cases h5:((c::r).length:Int)>5
  ·rw[if_pos h5]
   have:wtT (c::r)=none:=by
    unfold wtT
    simp only
    cases r with
    |nil=>simp at h5
    |cons p ds=>
     have:decide (ds.length≤3)=false:=by simp at h5 ⊢;omega
     simp only[this,Bool.and_false,cond_false]
     cases (c==48||c==49)<;>rfl
   rw[this];rfl
  ·rw[if_neg h5]
   have i0:idx (c::r) (0:Int)=some c:=rfl
   have u48:((UInt8.toNat c:Int) !=48)= !(c==48):=by unfold bne;rw[←u8_eq c 48];rfl
   have u49:((UInt8.toNat c:Int) !=49)= !(c==49):=by unfold bne;rw[←u8_eq c 49];rfl
   simp only[i0,Option.bind_some,u48,u49,bif_dec]
   cases hc:(c==48||c==49)with
   |false=>
    have h1:(c==48)=false:=by cases h:(c==48)<;>simp_all
    have h2:(c==49)=false:=by cases h:(c==49)<;>simp_all
    have hw:wtT (c::r)=none:=by unfold wtT;simp only[hc,cond_false]
    rw[hw,h1,h2];rfl
   |true=>
    have hc2:48≤c.toNat∧c.toNat≤49:=by
     rcases Bool.or_eq_true _ _▸hc with e|e
     ·have:c=48:=by simpa using e
      subst this;decide
     ·have:c=49:=by simpa using e
      subst this;decide
    have hq:IntKind.wrap .i64 (1000*IntKind.wrap .i64 (IntKind.wrap .u8 ((c.toNat:Int) -48)))=1000*((c.toNat:Int) -48):=by
     rw[wrap_dig c (by omega),wrap_id (n:=(c.toNat:Int) -48) (by omega) (by omega),wrap_id (by omega) (by omega)]
    have key:∀(A:Option Int),(if((c::r).length:Int)>1 then((idx (c::r) (1:Int)).bind fun c3=>(bif((UInt8.toNat c3:Int) !=(46:Int))then some (-1:Int)else
     ((S_l13Weight_b0 k k (c::r) (IntKind.wrap .i64 (1000*IntKind.wrap .i64 (IntKind.wrap .u8 ((c.toNat:Int) -48)))) 100 2).bind fun o9=>oc o9 (fun o10=>if o10>1000 then some (-1:Int)else some o10) (fun o11=>some o11))))else
     ((S_l13Weight_b0 k k (c::r) (IntKind.wrap .i64 (1000*IntKind.wrap .i64 (IntKind.wrap .u8 ((c.toNat:Int) -48)))) 100 2).bind fun o9=>oc o9 (fun o10=>if o10>1000 then some (-1:Int)else some o10) (fun o11=>some o11)))=some ((wtT (c::r)).getD (-1)):=by
     intro _
     have hl:=S_w_loop (k:=k) (x:=c::r) (by simp at h5 ⊢;omega) k 2 (1000*((c.toNat:Int) -48)) 100 (by simp at h5 ⊢;omega) (by omega) (by omega) (by simp at h5 ⊢;omega) (by omega) (by omega)
     rw[show(((2:Nat)):Int)=2 from rfl]at hl
     rw[hq,hl]
     simp only[Option.bind_some,←bif_dec]
     rw[ocS]
     unfold wtT
     simp only[hc,cond_true]
     cases r with
     |nil=>rfl
     |cons p ds=>
      have h3:decide (ds.length≤3)=true:=by simp at h5 ⊢;omega
      have h1:decide (((c::p::ds).length:Int)>1)=true:=by simp;omega
      have i1:idx (c::p::ds) (1:Int)=some p:=rfl
      have u46:((UInt8.toNat p:Int) !=46)= !(p==46):=by unfold bne;rw[←u8_eq p 46];rfl
      rw[h1,cond_true,i1,Option.bind_some,u46]
      show _=some ((bif p==46&&decide (ds.length≤3)then fin1 (dig ds (1000*((c.toNat:Int) -48)) 100)else none).getD (-1))
      rw[h3,Bool.and_true]
      cases (p==46)<;>rfl
    have:=key none
    cases h1:(c==48)with
    |true=>simpa using this
    |false=>
     have h2:(c==49)=true:=by rw[h1]at hc;exact hc
     rw[h2];simpa using this
def qPart:List (List UInt8)→Option Int
 |[]=>none
 |[_]=>some 1000
 |[_,p]=>bif(pairT p).2.2&&(lowT (pairT p).1==[113])then wtT (pairT p).2.1 else none
 |_::_::_::_=>none
def partP(ps:List (List UInt8)):List IQuality:=match ps with
 |[]=>[]
 |n::_=>bif isTok (lowT (trimT n))then(match qPart ps with|some q=>[(⟨lowT (trimT n),q⟩:IQuality)]|none=>[])else []
def partF(e:List UInt8):List IQuality:=partP (cutP 59 e [])
def parseQ(x:List UInt8):List IQuality:=(splitL x).flatMap partF
theorem qPart_nonneg{ps:List (List UInt8)}{q:Int}(h:qPart ps=some q):0≤q:=by
 match ps,h with
 |[_],h=>
  have:(1000:Int)=q:=by simpa[qPart]using h
  omega
 |[_,p],h=>
  have h:(bif(pairT p).2.2&&(lowT (pairT p).1==[113])then wtT (pairT p).2.1 else none)=some q:=h
  cases hc:((pairT p).2.2&&(lowT (pairT p).1==[113]))with
  |true=>rw[hc]at h;exact wtT_nonneg h
  |false=>rw[hc]at h;cases h
theorem partF_len(e:List UInt8):(partF e).length≤1:=by
 unfold partF partP
 cases cutP 59 e []with
 |nil=>simp
 |cons n r=>
  show(bif isTok (lowT (trimT n))then(match qPart (n::r)with|some q=>[(⟨lowT (trimT n),q⟩:IQuality)]|none=>[])else []).length≤1
  cases isTok (lowT (trimT n))<;>cases qPart (n::r)<;>simp
theorem S_q{k:Nat}(hk:1073741824≤k){x5:Int}{r3:List (List UInt8)}{r4:List IQuality}{nm:List UInt8}{n:List UInt8}{rest:List (List UInt8)}(hb:∀p∈n::rest,p.length<1073741824):
 S_ParseQualities_c33 k x5 (decide (((n::rest).length:Int)>1)) r3 r4 (n::rest) nm 1000=some ((qPart (n::rest)).getD (-1)):=by
 cases rest with
 |nil=>rfl
 |cons p rest2=>
  have h1:decide (((n::p::rest2).length:Int)>1)=true:=by simp;omega
  have i1:idx (n::p::rest2) (1:Int)=some p:=rfl
  have hp:=hb p (by simp)
  have hl:=pairT_len p
  rw[h1,S_ParseQualities_c33,cond_true,i1,Option.bind_some,Option.bind_some,S_SplitPair_eq hk p hp,Option.bind_some,S_l13Weight_eq hk,Option.bind_some,S_LowerText_eq hk _ (by omega),Option.bind_some]
  unfold qPart
  cases rest2 with
  |cons p3 r=>
   have h2:decide (((n::p::p3::r).length:Int)>2)=true:=by simp;omega
   simp only[h2,S_ParseQualities_c56,cond_true,Option.bind_some]
   cases (pairT p).2.2<;>cases (lowT (pairT p).1==[113])<;>rfl
  |nil=>
   simp only[S_ParseQualities_c56,cond_true,Option.bind_some]
   cases (pairT p).2.2<;>cases (lowT (pairT p).1==[113])<;>rfl
theorem S_part{k:Nat}(hk:1073741824≤k){x5:Int}{r3:List (List UInt8)}{r4:List IQuality}{e:List UInt8}(hi:idx r3 x5=some e)(he:e.length<1073741000)(hr:r4.length≤1073741824):S_ParseQualities_b1 k x5 r3 r4=some (r4++partF e):=by
 have hc:=S_l12Split_eq hk e 59 he
 rw[show(((59:UInt8).toNat:Nat):Int)=59 from rfl]at hc
 have hm:=fun p=>cutP_mem 59 e [] p
 have hpos:=cutP_pos 59 e []
 rw[S_ParseQualities_b1,hi,Option.bind_some,Option.bind_some,hc,Option.bind_some]
 unfold partF
 cases hps:cutP 59 e []with
 |nil=>rw[hps]at hpos;simp at hpos
 |cons n rest=>
  rw[hps]at hm
  have hb:∀p∈n::rest,p.length<1073741824:=fun p hp=>by have:=hm p hp;simp at this;omega
  have hn:=hb n (by simp)
  have ht:=trimT_len n
  have hlw:=lowT_len (trimT n)
  rw[show idx (n::rest) (0:Int)=some n from rfl,Option.bind_some,Option.bind_some,S_TrimText_eq hk n hn,Option.bind_some,S_LowerText_eq hk _ (by omega),Option.bind_some,S_q hk hb,Option.bind_some,S_IsToken_eq hk _ (by omega),Option.bind_some]
  have hpp:partP (n::rest)=bif isTok (lowT (trimT n))then(match qPart (n::rest)with|some q=>[(⟨lowT (trimT n),q⟩:IQuality)]|none=>[])else []:=rfl
  rw[hpp]
  cases isTok (lowT (trimT n))with
  |false=>simp only[cond_false,S_ParseQualities_c65,Option.bind_some,List.append_nil]
  |true=>
   cases hq:qPart (n::rest)with
   |none=>simp only[cond_true,Option.getD_none,S_ParseQualities_c65];simp
   |some q=>
    have:=qPart_nonneg hq
    have hd:decide (q≥0)=true:=decide_eq_true this
    simp only[cond_true,Option.getD_some,S_ParseQualities_c65,hd]
    rw[appn_ok (by simp;omega)];rfl
theorem splitL_mem{x p:List UInt8}(h:p∈splitL x):p.length≤x.length:=by
 unfold splitL at h
 obtain⟨y,hy,hp⟩:=List.mem_flatMap.1 h
 have h1:=cutG_mem 44 x false false [] y hy
 have h2:=trimT_len y
 unfold keepF at hp
 cases hc:(trimT y==[])with
 |true=>rw[hc]at hp;simp at hp
 |false=>
  rw[hc]at hp
  have:p=trimT y:=by simpa using hp
  subst this
  simp at h1;omega
theorem S_ParseQualities_eq{k:Nat}(hk:1073741824≤k)(x:List UInt8)(h:x.length<1073741000):S_ParseQualities k x=some (parseQ x):=by
 have hl:=splitL_len x
 have hm:=fun p=>splitL_mem (x:=x) (p:=p)
 rw[S_ParseQualities,S_SplitList_eq hk x h,Option.bind_some]
 unfold parseQ
 generalize splitL x=w at hl hm
 have:=fold_all (len:=w.length) (g:=fun j s=>s++(w[j]?).elim [] partF) (Inv:=fun i s=>s.length≤i) (F:=fun m i s=>S_ParseQualities_b0 k m i w s) (out:=id) (fun m i s hi hI=>by
  have hp:=hm w[i] (List.getElem_mem hi)
  have hI:s.length≤i:=hI
  have e1:(w[i]?).elim [] partF=partF w[i]:=by rw[List.getElem?_eq_getElem hi,Option.elim_some]
  have hl1:=partF_len w[i]
  constructor
  ·show S_ParseQualities_b0 k (m+1) (i:Int) w s=S_ParseQualities_b0 k m _ w (s++(w[i]?).elim [] partF)
   rw[e1,S_ParseQualities_b0,bif_dec,if_pos (by omega),S_part hk (idx_nat hi) (by omega) (by omega),Option.bind_some,wrap_succ (by omega)]
  ·show(s++(w[i]?).elim [] partF).length≤_
   rw[e1,List.length_append];omega) (fun m i s hi=>by
  simp only[S_ParseQualities_b0,bif_dec,lt_cast]
  rw[if_neg (by omega)];rfl) (k:=k) (by omega) (s:=[]) (by simp)
 have h1:S_ParseQualities_b0 k k 0 w []=some (foldI (fun j s=>s++(w[j]?).elim [] partF) w.length 0 []):=this.1
 rw[h1,foldI_append (f:=partF) w.length 0 [] (by omega),List.drop_zero];rfl
def nameP(x:List IQuality)(s:List UInt8)(i:Nat):Bool:=match x[i]? with|some e=>e.Name==s|none=>false
def qAt(x:List IQuality)(i:Nat):Int:=match x[i]? with|some e=>e.Q|none=>0
def qOf(x:List IQuality)(s:List UInt8):Int:=
 match firstI (nameP x s) x.length 0 with
 |some i=>qAt x i
 |none=>match firstI (nameP x [42]) x.length 0 with
  |some i=>qAt x i
  |none=>0
theorem S_star{k:Nat}{x:List IQuality}{s:List UInt8}(hx:x.length<1073741824):∀(n j:Nat) (acc:Int),j≤x.length→j<n→
 S_QualityOf_b0 k n x s acc ((j:Int) -1)=some (match firstI (nameP x [42]) j 0 with|some i=>qAt x i|none=>acc):=by
 intro n
 induction n with
 |zero=>intro j acc _ h;omega
 |succ n ih=>
  intro j acc hj hn
  rw[S_QualityOf_b0,bif_dec]
  cases j with
  |zero=>rw[if_neg (by omega)];rfl
  |succ j=>
   have hi:j<x.length:=by omega
   rw[if_pos (by omega),show((j+1:Nat):Int) -1=(j:Int)by omega,S_QualityOf_b1,idx_nat hi,Option.bind_some,S_QualityOf_c20,idx_nat hi,wrap_id (by omega) (by omega)]
   have step:firstI (nameP x [42]) (j+1) 0=match firstI (nameP x [42]) j 0 with|some i=>some i|none=>bif nameP x [42] j then some j else none:=by
    cases h1:firstI (nameP x [42]) j 0 with
    |some i=>
     obtain⟨_,h3,h4,h5⟩:=firstI_some _ _ _ h1
     cases h2:firstI (nameP x [42]) (j+1) 0 with
     |none=>have:=firstI_none _ _ h2 i (by omega) (by omega);rw[this]at h4;cases h4
     |some i'=>
      obtain⟨_,g3,g4,g5⟩:=firstI_some _ _ _ h2
      rcases Nat.lt_trichotomy i i' with h|h|h
      ·have:=g5 i (by omega) h;rw[this]at h4;cases h4
      ·simp[h]
      ·have:=h5 i' (by omega) h;rw[this]at g4;cases g4
    |none=>
     have h2:=firstI_none _ _ h1
     cases hp:nameP x [42] j with
     |true=>
      cases h3:firstI (nameP x [42]) (j+1) 0 with
      |none=>have:=firstI_none _ _ h3 j (by omega) (by omega);rw[this]at hp;cases hp
      |some i'=>
       obtain⟨_,g3,g4,g5⟩:=firstI_some _ _ _ h3
       by_cases e:i'=j
       ·simp[e]
       ·have:=h2 i' (by omega) (by omega);rw[this]at g4;cases g4
     |false=>
      cases h3:firstI (nameP x [42]) (j+1) 0 with
      |none=>rfl
      |some i'=>
       obtain⟨_,g3,g4,g5⟩:=firstI_some _ _ _ h3
       by_cases e:i'=j
       ·rw[e,hp]at g4;cases g4
       ·have:=h2 i' (by omega) (by omega);rw[this]at g4;cases g4
   have hp:nameP x [42] j=(x[j].Name==[42]):=by simp[nameP,List.getElem?_eq_getElem hi]
   have hq:qAt x j=x[j].Q:=by simp[qAt,List.getElem?_eq_getElem hi]
   rw[step]
   cases hb:(x[j].Name==([42]:List UInt8))with
   |true=>
    rw[cond_true,Option.bind_some,Option.bind_some,Option.bind_some,ih j _ (by omega) (by omega),hp,hb,←hq]
    cases firstI (nameP x [42]) j 0<;>rfl
   |false=>
    rw[cond_false,Option.bind_some,Option.bind_some,ih j _ (by omega) (by omega),hp,hb]
    cases firstI (nameP x [42]) j 0<;>rfl
theorem S_QualityOf_eq{k:Nat}(hk:1073741824≤k)(x:List IQuality)(s:List UInt8)(h:x.length<1073741824):S_QualityOf k x s=some (qOf x s):=by
 rw[S_QualityOf,wrap_id (by omega) (by omega),S_star h k x.length 0 (by omega) (by omega),Option.bind_some]
 generalize hst:(match firstI (nameP x [42]) x.length 0 with|some i=>qAt x i|none=>(0:Int))=st
 have:=find_all (len:=x.length) (c:=fun i=>bif nameP x s i then some (qAt x i)else none) (F:=fun n i=>S_QualityOf_b2 k n x s st i) (fun n i hi=>by
  simp only[S_QualityOf_b2,idx_nat hi,Option.bind_some,wrap_succ (by omega:i<9223372036854775807),bif_dec,lt_cast,hi,if_true,nameP,qAt,List.getElem?_eq_getElem hi]
  cases (x[i].Name==s)<;>rfl) (fun n i hi=>by
  simp only[S_QualityOf_b2,bif_dec,lt_cast]
  rw[if_neg (by omega)]) (k:=k) (by omega)
 rw[this,findI_first]
 unfold qOf
 cases firstI (nameP x s) x.length 0 with
 |none=>simp only[Option.map_none,ocOf,Option.bind_some,oc];rw[←hst]
 |some j=>simp[ocOf,oc]
theorem partFs_len:∀l:List (List UInt8),(l.flatMap partF).length≤l.length
 |[]=>by simp
 |p::l=>by
  have:=partFs_len l
  have:=partF_len p
  rw[List.flatMap_cons,List.length_append,List.length_cons];omega
theorem parseQ_len(x:List UInt8):(parseQ x).length≤x.length+1:=by
 have h1:=partFs_len (splitL x)
 have h2:=splitL_len x
 unfold parseQ;omega
def bestS(q:List IQuality)(x:List (List UInt8))(j b:Nat):Nat:=match x[j]?,x[b]? with
 |some n,some m=>bif decide (qOf q n>qOf q m)then j else b
 |_,_=>b
def bestI(q:List IQuality)(x:List (List UInt8))(j:Nat)(m:List UInt8):List UInt8:=match x[j]? with
 |some n=>bif j==0||decide (qOf q n>qOf q m)then n else m
 |none=>m
theorem best_rel{q:List IQuality}{x:List (List UInt8)}(i b:Nat)(m:List UInt8)(hi:i<x.length)(h:b≤i∧(i=0→b=0)∧(0<i→b<x.length∧x[b]? =some m)):
 bestS q x i b≤i+1∧(i+1=0→bestS q x i b=0)∧(0<i+1→bestS q x i b<x.length∧x[bestS q x i b]? =some (bestI q x i m)):=by
 obtain⟨h1,h2,h3⟩:=h
 have hb:b<x.length:=by omega
 have e1:x[i]? =some x[i]:=List.getElem?_eq_getElem hi
 have e2:x[b]? =some x[b]:=List.getElem?_eq_getElem hb
 have key:bestS q x i b=(bif decide (qOf q x[i]>qOf q x[b])then i else b):=by unfold bestS;rw[e1,e2]
 have key2:bestI q x i m=(bif i==0||decide (qOf q x[i]>qOf q m)then x[i]else m):=by unfold bestI;rw[e1]
 rw[key,key2]
 rcases Nat.eq_zero_or_pos i with h0|h0
 ·have hb0:=h2 h0
  subst h0
  subst hb0
  have:(bif decide (qOf q x[0]>qOf q x[0])then 0 else 0)=0:=by cases decide (qOf q x[0]>qOf q x[0])<;>rfl
  rw[this]
  exact⟨by omega,fun _=>rfl,fun _=>⟨hi,by rw[e1];rfl⟩⟩
 ·obtain⟨h4,h5⟩:=h3 h0
  have hm:x[b]=m:=by rw[e2]at h5;exact Option.some.inj h5
  have hz:(i==0)=false:=beq_eq_false_iff_ne.2 (by omega)
  rw[hz,Bool.false_or,hm]
  cases decide (qOf q x[i]>qOf q m)with
  |true=>exact⟨by show i≤i+1;omega,fun e=>by omega,fun _=>⟨hi,e1⟩⟩
  |false=>exact⟨by show b≤i+1;omega,fun e=>by omega,fun _=>⟨hb,by show x[b]? =some m;exact h5⟩⟩
theorem S_Choose_loop{k:Nat}(hk:1073741824≤k){q:List IQuality}{x:List (List UInt8)}(hq:q.length<1073741824)(hx:x.length<1073741824):S_ChooseName_b0 k k x 0 0 q=some ((foldI (bestS q x) x.length 0 0:Nat):Int):=by
 have:=fold_all (len:=x.length) (g:=bestS q x) (Inv:=fun i b=>b≤i) (F:=fun m i (b:Nat)=>S_ChooseName_b0 k m x (b:Int) i q) (out:=fun b=>(b:Int)) (fun m i b hi hI=>by
  have hI:b≤i:=hI
  have hb:b<x.length:=by omega
  have e1:x[i]? =some x[i]:=List.getElem?_eq_getElem hi
  have e2:x[b]? =some x[b]:=List.getElem?_eq_getElem hb
  have key:bestS q x i b=(bif decide (qOf q x[i]>qOf q x[b])then i else b):=by unfold bestS;rw[e1,e2]
  constructor
  ·show S_ChooseName_b0 k (m+1) x (b:Int) (i:Int) q=S_ChooseName_b0 k m x ((bestS q x i b:Nat):Int) _ q
   rw[key,S_ChooseName_b0,bif_dec,if_pos (by omega),S_ChooseName_b1,idx_nat hi,Option.bind_some,S_QualityOf_eq hk _ _ hq,Option.bind_some,idx_nat hb,Option.bind_some,S_QualityOf_eq hk _ _ hq,Option.bind_some,S_ChooseName_c28,wrap_succ (by omega)]
   cases decide (qOf q x[i]>qOf q x[b])<;>rfl
  ·show bestS q x i b≤i+1
   rw[key]
   cases decide (qOf q x[i]>qOf q x[b])
   ·show b≤i+1;omega
   ·show i≤i+1;omega) (fun m i b hi=>by
  simp only[S_ChooseName_b0,bif_dec,lt_cast]
  rw[if_neg (by omega)]) (k:=k) (by omega) (s:=0) (by omega)
 exact this.1
def chooseT(x:List (List UInt8))(a:List UInt8):List UInt8:=foldI (bestI (parseQ a) x) x.length 0 []
theorem S_ChooseName_eq{k:Nat}(hk:1073741824≤k)(x:List (List UInt8))(a:List UInt8)(hx:x.length<1073741824)(ha:a.length<1073741000):S_ChooseName k x a=some (chooseT x a):=by
 have hp:=parseQ_len a
 have rel:=foldI_rel (g:=bestS (parseQ a) x) (g':=bestI (parseQ a) x) (R:=fun i b m=>b≤i∧(i=0→b=0)∧(0<i→b<x.length∧x[b]? =some m)) (len:=x.length) (fun i s t hi h=>best_rel i s t hi h) x.length 0 0 [] (by omega) ⟨by omega,fun _=>rfl,fun h=>by omega⟩
 rw[S_ChooseName,S_ParseQualities_eq hk a ha,Option.bind_some,S_Choose_loop hk (by omega) hx,Option.bind_some]
 unfold chooseT
 generalize foldI (bestS (parseQ a) x) x.length 0 0=b at rel
 generalize hm:foldI (bestI (parseQ a) x) x.length 0 []=m at rel
 obtain⟨r1,r2,r3⟩:=rel
 rw[S_l1Word,bif_dec,bif_dec,if_neg (by omega)]
 rcases Nat.eq_zero_or_pos x.length with h0|h0
 ·rw[if_pos (by omega),←hm,h0];rfl
 ·obtain⟨r4,r5⟩:=r3 h0
  rw[if_neg (by omega),idx_nat r4,Option.bind_some,Option.bind_some]
  rw[List.getElem?_eq_getElem r4]at r5
  exact r5
def variantT(r:IResource)(fs:List IField):List UInt8×List UInt8:=(chooseT r.Langs (getF fs [97,99,99,101,112,116,45,108,97,110,103,117,97,103,101]).1,bif r.Private then visitor fs else [])
theorem S_VariantOf_eq{k:Nat}(hk:1073741824≤k)(o:IResource)(r:IRequest)(hl:o.Langs.length<1073741824)(h:fsz r.Fields<67108864):S_VariantOf k o r=some (variantT o r.Fields):=by
 have hg:=getF_len r.Fields [97,99,99,101,112,116,45,108,97,110,103,117,97,103,101]
 have hc:S_VariantOf_c10 k ([]:List UInt8) (decide ((o.Langs.length:Int)>(0:Int))) o.Target o.Control o.Keys o.Private o.Langs o.Versions r.Method r.Host r.Target r.Fields=some (chooseT o.Langs (getF r.Fields [97,99,99,101,112,116,45,108,97,110,103,117,97,103,101]).1):=by
  unfold S_VariantOf_c10
  rw[S_l5Get,S_GetField_eq hk _ _ (by omega),Option.bind_some,Option.bind_some,S_ChooseName_eq hk _ _ hl (by omega),Option.bind_some,bif_dec]
  by_cases c:(o.Langs.length:Int)>0
  ·rw[if_pos c]
  ·rw[if_neg c]
   have:o.Langs=[]:=List.length_eq_zero_iff.1 (by omega)
   rw[this];rfl
 rw[S_VariantOf,hc,Option.bind_some,S_VisitorOf_eq hk r h,Option.bind_some]
 unfold variantT
 cases o.Private<;>rfl
theorem chooseT_len{x:List (List UInt8)}{a:List UInt8}{n:Nat}(h:∀e∈x,e.length≤n):(chooseT x a).length≤n:=by
 have key:∀(q:List IQuality) (m i:Nat) (s:List UInt8),s.length≤n→(foldI (bestI q x) m i s).length≤n:=by
  intro q m
  induction m with
  |zero=>intro i s hs;exact hs
  |succ m ih=>
   intro i s hs
   rw[foldI]
   refine ih (i+1) _ ?_
   unfold bestI
   cases he:x[i]? with
   |none=>exact hs
   |some e=>
    have:=h e (List.mem_of_getElem? he)
    simp only
    cases (i==0||decide (qOf q e>qOf q s))with
    |true=>exact this
    |false=>exact hs
 exact key _ _ _ _ (by simp)
theorem visitor_len(fs:List IField):(visitor fs).length≤20:=by
 unfold visitor
 cases isTok (selV fs auth)with
 |false=>simp
 |true=>
  by_cases h:((selV fs auth).length:Int)>20
  ·rw[decide_eq_true h];simp
  ·rw[decide_eq_false h];simp only[Bool.not_true,cond_false];omega
def dd(m:Nat):List UInt8:=if m=0 then []else Lib.decDigits m
theorem dd_step{m:Nat}(h:m≠0):dd m=dd (m/10)++[UInt8.ofNat (48+m % 10)]:=by
 unfold dd
 rw[if_neg h]
 by_cases c:m<10
 ·rw[Lib.decDigits,dif_pos c,if_pos (by omega),Nat.mod_eq_of_lt c];rfl
 ·rw[Lib.decDigits,dif_neg c,if_neg (by omega)]
theorem dd_len(d:Nat):∀m:Nat,m<10^d→(dd m).length≤d:=by
 induction d with
 |zero=>intro m h;have:m=0:=by simpa using h
        subst this;simp[dd]
 |succ d ih=>
  intro m h
  by_cases h0:m=0
  ·subst h0;simp[dd]
  ·rw[dd_step h0,List.length_append]
   have:=ih (m/10) (by rw[Nat.pow_succ]at h;omega)
   simp;omega
theorem wrap_digit:∀j:Fin 10,bytesOf [IntKind.wrap .u8 (IntKind.wrap .i64 (48+((j.val:Nat):Int)))]=[UInt8.ofNat (48+j.val)]:=by decide+kernel
theorem digit_of(m:Nat):bytesOf [IntKind.wrap .u8 (IntKind.wrap .i64 (48+((m % 10:Nat):Int)))]=[UInt8.ofNat (48+m % 10)]:=wrap_digit ⟨m % 10,by omega⟩
theorem S_FormatInt_loop{k:Nat}{a0:Int}:∀(n d:Nat) (x:Int) (s:List UInt8),d<n→x.natAbs<10^d→-9223372036854775808≤x→x≤9223372036854775807→s.length+d≤100→
 S_FormatInt_b0 k n a0 s x=some (dd x.natAbs++s):=by
 intro n
 induction n with
 |zero=>intro d x s h;omega
 |succ n ih=>
  intro d x s hd hx h1 h2 hs
  rw[S_FormatInt_b0]
  by_cases h0:x=0
  ·subst h0;simp[dd]
  ·have hm:x.natAbs≠0:=by omega
   have hne:(x !=0)=true:=by simpa using h0
   obtain⟨d,rfl⟩:∃d',d=d'+1:=by
    cases d with
    |zero=>simp at hx;omega
    |succ d=>exact⟨d,rfl⟩
   have e1:md x 10=some (x.tmod 10):=by simp[md]
   have e2:dv x 10=some (x.tdiv 10):=by simp[dv]
   have e3:S_FormatInt_c16 k a0 s x (x.tmod 10) (decide (x.tmod 10<0))=some ((x.natAbs % 10:Nat):Int):=by
    rw[S_FormatInt_c16,bif_dec]
    have ht:x.tmod 10=if 0≤x then((x.natAbs % 10:Nat):Int)else -((x.natAbs % 10:Nat):Int):=by
     split
     ·rw[Int.tmod_eq_emod_of_nonneg (by omega)];omega
     ·have:x= -(x.natAbs:Int):=by omega
      rw[this,Int.neg_tmod,Int.tmod_eq_emod_of_nonneg (by omega)]
      simp
    rw[ht]
    split
    ·rw[if_neg (by omega)]
    ·by_cases hz:x.natAbs % 10=0
     ·rw[hz];simp
     ·rw[if_pos (by omega),wrap_id (by omega) (by omega)];simp
   have e4:(x.tdiv 10).natAbs=x.natAbs/10:=by rw[Int.natAbs_tdiv];rfl
   have hb: -9223372036854775808≤x.tdiv 10∧x.tdiv 10≤9223372036854775807:=by omega
   rw[hne,cond_true,S_FormatInt_b1,e1,Option.bind_some,e3,Option.bind_some,digit_of,cat_ok (by simp;omega),Option.bind_some,Option.bind_some,e2,Option.bind_some,wrap_id (by omega) (by omega),
    ih d _ _ (by omega) (by rw[e4];rw[Nat.pow_succ]at hx;omega) hb.1 hb.2 (by simp;omega),e4,dd_step hm]
   simp
theorem itoa_dd(n:Int):Lib.itoa n=if n=0 then [48]else if n<0 then 45::dd n.natAbs else dd n.natAbs:=by
 unfold Lib.itoa
 by_cases h0:n=0
 ·subst h0;rw[if_neg (by omega),if_pos rfl,Lib.decDigits];rfl
 ·rw[if_neg h0]
  have hm:¬n.natAbs=0:=by omega
  unfold dd
  rw[if_neg hm]
  by_cases h:n<0
  ·rw[if_pos h,if_pos h]
  ·rw[if_neg h,if_neg h,show n.toNat=n.natAbs by omega]
theorem pow19:(10:Nat)^19=10000000000000000000:=by decide
theorem S_FormatInt_eq{k:Nat}(hk:1073741824≤k)(n:Int)(h1: -9223372036854775808≤n)(h2:n≤9223372036854775807):S_FormatInt k n=some (Lib.itoa n):=by
 have hp:=pow19
 have hl:=dd_len 19 n.natAbs (by omega)
 rw[S_FormatInt,itoa_dd]
 by_cases h0:n=0
 ·subst h0;rfl
 ·have hne:(n==0)=false:=by simpa using h0
  rw[hne,cond_false,S_FormatInt_loop k 19 n [] (by omega) (by omega) h1 h2 (by simp),Option.bind_some,List.append_nil,if_neg h0,bif_dec]
  by_cases h:n<0
  ·rw[if_pos h,if_pos h,cat_ok (by simp;omega)];rfl
  ·rw[if_neg h,if_neg h]
theorem I_FormatInt_eq{k:Nat}(n:Int)(h1: -9223372036854775808≤n)(h2:n≤9223372036854775807):I_FormatInt k n=some (Lib.itoa n):=by
 have hd:(decide (-9223372036854775808≤n)&&decide (n≤9223372036854775807))=true:=by rw[Bool.and_eq_true];exact⟨decide_eq_true h1,decide_eq_true h2⟩
 rw[I_FormatInt,strconv_Itoa,itoaO,hd];rfl
def leapN(y:Nat):Bool:=y % 4==0&&(y % 100 !=0||y % 400==0)
def mdN(y m:Nat):Nat:=if m=2 then(if leapN y then 29 else 28)else if m=4∨m=6∨m=9∨m=11 then 30 else 31
def ydN(y:Nat):Nat:=if leapN y then 366 else 365
def ysN:Nat→Nat
 |0=>0
 |n+1=>ysN n+ydN (1970+n)
def msN(y:Nat):Nat→Nat
 |0=>0
 |n+1=>msN y n+mdN y (n+1)
theorem msN_12(y:Nat):msN y 12=ydN y:=by
 simp only[msN,mdN,ydN]
 cases leapN y<;>simp
theorem ysN_mono{a b:Nat}(h:a≤b):ysN a≤ysN b:=by
 induction h with
 |refl=>exact Nat.le_refl _
 |step _ ih=>rw[ysN];omega
theorem msN_mono{y a b:Nat}(h:a≤b):msN y a≤msN y b:=by
 induction h with
 |refl=>exact Nat.le_refl _
 |step _ ih=>rw[msN];omega
theorem ysN_130:ysN 130=47482:=by decide+kernel
theorem mdN_pos(y m:Nat):28≤mdN y m∧mdN y m≤31:=by
 unfold mdN;split<;>split<;>omega
theorem ydN_bnd(y:Nat):365≤ydN y∧ydN y≤366:=by unfold ydN;split<;>omega
structure IsDay(day n p d:Nat):Prop where
 hn:n<130
 hp:p<12
 hd:d<mdN (1970+n) (p+1)
 eq:day=ysN n+msN (1970+n) p+d
theorem step_ex(f:Nat→Nat)(h0:f 0=0):∀(N x:Nat),x<f N→∃n,n<N∧f n≤x∧x<f (n+1):=by
 intro N
 induction N with
 |zero=>intro x h;omega
 |succ N ih=>
  intro x h
  by_cases c:x<f N
  ·obtain⟨n,h1,h2,h3⟩:=ih x c
   exact⟨n,by omega,h2,h3⟩
  ·exact⟨N,by omega,by omega,h⟩
theorem isDay_ex{day:Nat}(h:day≤47481):∃n p d,IsDay day n p d:=by
 obtain⟨n,h1,h2,h3⟩:=step_ex ysN rfl 130 day (by rw[ysN_130];omega)
 rw[ysN]at h3
 obtain⟨p,g1,g2,g3⟩:=step_ex (msN (1970+n)) rfl 12 (day -ysN n) (by rw[msN_12];omega)
 rw[msN]at g3
 exact⟨n,p,day -ysN n -msN (1970+n) p,h1,g1,by omega,by omega⟩
theorem IsDay.ltY{day n p d:Nat}(h:IsDay day n p d):msN (1970+n) p+d<ydN (1970+n):=by
 have h1:=h.hd
 have h2:msN (1970+n) (p+1)≤msN (1970+n) 12:=msN_mono (by have:=h.hp;omega)
 rw[msN_12,msN]at h2
 omega
theorem IsDay.lt{day n p d:Nat}(h:IsDay day n p d):day<ysN (n+1):=by
 have:=h.ltY
 rw[ysN,h.eq];omega
theorem IsDay.le{day n p d:Nat}(h:IsDay day n p d):day≤47481:=by
 have h1:=h.lt
 have h2:ysN (n+1)≤ysN 130:=ysN_mono (by have:=h.hn;omega)
 rw[ysN_130]at h2;omega
theorem IsDay.nu{day n p d n' p' d':Nat}(h:IsDay day n p d)(h':IsDay day n' p' d'):n=n':=by
 have h1:=h.lt
 have h2:=h'.lt
 have e1:=h.eq
 have e2:=h'.eq
 rcases Nat.lt_trichotomy n n' with c|c|c
 ·have:=ysN_mono (show n+1≤n' by omega);omega
 ·exact c
 ·have:=ysN_mono (show n'+1≤n by omega);omega
theorem IsDay.pu{day n p d p' d':Nat}(h:IsDay day n p d)(h':IsDay day n p' d'):p=p'∧d=d':=by
 have e1:=h.eq
 have e2:=h'.eq
 have h1:=h.hd
 have h2:=h'.hd
 have m1:msN (1970+n) (p+1)=msN (1970+n) p+mdN (1970+n) (p+1):=rfl
 have m2:msN (1970+n) (p'+1)=msN (1970+n) p'+mdN (1970+n) (p'+1):=rfl
 rcases Nat.lt_trichotomy p p' with c|c|c
 ·have:=msN_mono (y:=1970+n) (show p+1≤p' by omega);omega
 ·subst c;exact⟨rfl,by omega⟩
 ·have:=msN_mono (y:=1970+n) (show p'+1≤p by omega);omega
def okDay(y m d:Int):Bool:=decide (1970≤y)&&decide (y≤2099)&&(decide (1≤m)&&decide (m≤12))&&(decide (1≤d)&&decide (d≤mdN y.toNat m.toNat))
def daysI(y m d:Int):Int:=bif okDay y m d then((ysN (y.toNat -1970)+msN y.toNat (m.toNat -1)+(d.toNat -1):Nat):Int)else -1
theorem okDay_iff{y m d:Int}:okDay y m d=true↔1970≤y∧y≤2099∧1≤m∧m≤12∧1≤d∧d≤mdN y.toNat m.toNat:=by
 unfold okDay;simp only[Bool.and_eq_true,decide_eq_true_eq];omega
theorem daysI_of{day n p d:Nat}(h:IsDay day n p d):daysI ((1970+n:Nat):Int) ((p+1:Nat):Int) ((d+1:Nat):Int)=(day:Int):=by
 have h1:=h.hn;have h2:=h.hp;have h3:=h.hd
 have:okDay ((1970+n:Nat):Int) ((p+1:Nat):Int) ((d+1:Nat):Int)=true:=okDay_iff.2 ⟨by omega,by omega,by omega,by omega,by omega,by simp only[Int.toNat_natCast];omega⟩
 rw[daysI,this,cond_true,h.eq]
 rw[Int.toNat_natCast,Int.toNat_natCast,Int.toNat_natCast,Nat.add_sub_cancel_left,Nat.add_sub_cancel,Nat.add_sub_cancel]
def wkN(day:Nat):Nat:=(day % 7+4) % 7
theorem wkN_lt(day:Nat):wkN day<7:=by unfold wkN;omega
theorem md_nat{a b:Nat}(h:b≠0):md (a:Int) (b:Int)=some ((a % b:Nat):Int):=by
 unfold md
 rw[if_neg (by omega),Int.tmod_eq_emod_of_nonneg (by omega)];rfl
theorem dv_nat{a b:Nat}(h:b≠0):dv (a:Int) (b:Int)=some ((a/b:Nat):Int):=by
 unfold dv
 rw[if_neg (by omega),Int.tdiv_eq_ediv_of_nonneg (by omega)];rfl
theorem inR_t{n a b:Int}(h1:a≤n)(h2:n≤b):inR n a b=true:=by unfold inR;rw[decide_eq_true h1,decide_eq_true h2];rfl
theorem inR_and(n a b:Int):inR n a b=(decide (a≤n)&&decide (n≤b)):=rfl
theorem nat_beq0(n:Nat):(((n:Nat):Int)==(0:Int))=(n==0):=by
 by_cases h:n=0
 ·subst h;rfl
 ·rw[beq_ne h,beq_ne (by omega)]
theorem nat_bne0(n:Nat):(((n:Nat):Int) !=(0:Int))=(n !=0):=by rw[bne,nat_beq0];rfl
theorem leapN_def(y:Nat):leapN y=(y % 4==0&&(y % 100 !=0||y % 400==0)):=rfl
theorem wrap_nat{n:Nat}(h:n≤9223372036854775807):IntKind.wrap .i64 (n:Int)=(n:Int):=wrap_id (by omega) (by omega)
theorem S_Mod_nat{k:Nat}(a b:Nat)(h1:1≤b)(h2:b≤1000000000)(h3:a≤1000000000000):S_Mod k (a:Int) (b:Int)=some ((a % b:Nat):Int):=by
 have hb:a % b<b:=Nat.mod_lt _ (by omega)
 have e:(((a % b:Nat):Int)+(b:Int))=((a % b+b:Nat):Int):=by push_cast;rfl
 rw[S_Mod,S_l1In_eq,Option.bind_some,inR_t (by omega) (by omega),Bool.not_true,cond_false,md_nat (by omega),Option.bind_some,e,wrap_nat (by omega),md_nat (by omega),Option.bind_some,Nat.add_mod_right,Nat.mod_mod]
theorem S_IsLeap_nat{k:Nat}(y:Nat)(h:y≤1000000):S_IsLeap k (y:Int)=some (leapN y):=by
 have e4:S_Mod k (y:Int) 4=some ((y % 4:Nat):Int):=S_Mod_nat y 4 (by omega) (by omega) (by omega)
 have e100:S_Mod k (y:Int) 100=some ((y % 100:Nat):Int):=S_Mod_nat y 100 (by omega) (by omega) (by omega)
 have e400:S_Mod k (y:Int) 400=some ((y % 400:Nat):Int):=S_Mod_nat y 400 (by omega) (by omega) (by omega)
 rw[S_IsLeap,e4,Option.bind_some,e100,Option.bind_some,e400,Option.bind_some,nat_beq0,nat_bne0,nat_beq0,leapN_def]
 cases (y % 4==0)<;>cases (y % 100 !=0)<;>cases (y % 400==0)<;>rfl
theorem S_WeekdayOf_nat{k:Nat}(day:Nat)(h:day≤1000000):S_WeekdayOf k (day:Int)=some ((wkN day:Nat):Int):=by
 have e1:S_Mod k (day:Int) 7=some ((day % 7:Nat):Int):=S_Mod_nat day 7 (by omega) (by omega) (by omega)
 have e2:S_Mod k ((day % 7+4:Nat):Int) 7=some (((day % 7+4) % 7:Nat):Int):=S_Mod_nat _ 7 (by omega) (by omega) (by omega)
 have e3:(((day % 7:Nat):Int)+4)=((day % 7+4:Nat):Int):=by push_cast;rfl
 rw[S_WeekdayOf,e1,Option.bind_some,e3,wrap_nat (by omega),e2];rfl
theorem I_Mod_nat{k:Nat}(a b:Nat)(h1:1≤b)(h2:b≤1000000000)(h3:a≤1000000000000):I_Mod k (a:Int) (b:Int)=some ((a % b:Nat):Int):=by
 have hb:a % b<b:=Nat.mod_lt _ (by omega)
 have e:(((a % b:Nat):Int)+(b:Int))=((a % b+b:Nat):Int):=by push_cast;rfl
 rw[I_Mod,I_inRange_eq,Option.bind_some,inR_t (by omega) (by omega),Bool.not_true,cond_false,md_nat (by omega),Option.bind_some,e,wrap_nat (by omega),md_nat (by omega),Option.bind_some,Nat.add_mod_right,Nat.mod_mod]
theorem I_IsLeap_nat{k:Nat}(y:Nat)(h:y≤1000000):I_IsLeap k (y:Int)=some (leapN y):=by
 have e4:I_Mod k (y:Int) 4=some ((y % 4:Nat):Int):=I_Mod_nat y 4 (by omega) (by omega) (by omega)
 have e100:I_Mod k (y:Int) 100=some ((y % 100:Nat):Int):=I_Mod_nat y 100 (by omega) (by omega) (by omega)
 have e400:I_Mod k (y:Int) 400=some ((y % 400:Nat):Int):=I_Mod_nat y 400 (by omega) (by omega) (by omega)
 rw[I_IsLeap,e4,Option.bind_some,e100,Option.bind_some,e400,Option.bind_some,nat_beq0,nat_bne0,nat_beq0,leapN_def]
 cases (y % 4==0)<;>cases (y % 100 !=0)<;>cases (y % 400==0)<;>rfl
theorem I_WeekdayOf_nat{k:Nat}(day:Nat)(h:day≤1000000):I_WeekdayOf k (day:Int)=some ((wkN day:Nat):Int):=by
 have e1:I_Mod k (day:Int) 7=some ((day % 7:Nat):Int):=I_Mod_nat day 7 (by omega) (by omega) (by omega)
 have e2:I_Mod k ((day % 7+4:Nat):Int) 7=some (((day % 7+4) % 7:Nat):Int):=I_Mod_nat _ 7 (by omega) (by omega) (by omega)
 have e3:(((day % 7:Nat):Int)+4)=((day % 7+4:Nat):Int):=by push_cast;rfl
 rw[I_WeekdayOf,e1,Option.bind_some,e3,wrap_nat (by omega),e2];rfl
theorem mon_cases{m:Nat}(h1:1≤m)(h2:m≤12):m=1∨m=2∨m=3∨m=4∨m=5∨m=6∨m=7∨m=8∨m=9∨m=10∨m=11∨m=12:=by omega
theorem I_monthDays_nat{k:Nat}(y m:Nat)(h:y≤1000000)(h1:1≤m)(h2:m≤12):I_monthDays k (y:Int) (m:Int)=some ((mdN y m:Nat):Int):=by
 rw[I_monthDays,I_monthDays_b0,I_monthDays_c6,I_IsLeap_nat y h]
 unfold mdN
 rcases mon_cases h1 h2 with rfl|rfl|rfl|rfl|rfl|rfl|rfl|rfl|rfl|rfl|rfl|rfl<;>cases leapN y<;>rfl
theorem S_l3Long_nat{k:Nat}(y m:Nat)(h:y≤1000000)(h1:1≤m)(h2:m≤12):S_l3Long k (y:Int) (m:Int)=some ((mdN y m:Nat):Int):=by
 rw[S_l3Long,S_IsLeap_nat y h]
 unfold mdN
 rcases mon_cases h1 h2 with rfl|rfl|rfl|rfl|rfl|rfl|rfl|rfl|rfl|rfl|rfl|rfl<;>cases leapN y<;>rfl
theorem I_yearDays_nat{k:Nat}(y:Nat)(h:y≤1000000):I_yearDays k (y:Int)=some ((ydN y:Nat):Int):=by
 rw[I_yearDays,I_IsLeap_nat y h]
 unfold ydN
 cases leapN y<;>rfl
theorem cast_add(a b:Nat):((a:Int)+(b:Int))=((a+b:Nat):Int):=by push_cast;rfl
theorem I_Days_y{k:Nat}{x1:Int}{N a:Nat}(hN:N≤129)(ha:a≤1000):∀(n i:Nat),i≤N→N -i<n→I_DaysOf_b0 k n ((1970+N:Nat):Int) x1 ((a+ysN i:Nat):Int) ((1970+i:Nat):Int)=some ((a+ysN N:Nat):Int):=by
 intro n
 induction n with
 |zero=>intro i _ h;omega
 |succ n ih=>
  intro i hi hn
  have hm:=ysN_mono (show N≤130 by omega)
  rw[ysN_130]at hm
  rw[I_DaysOf_b0,bif_dec,I_yearDays_nat _ (by omega),Option.bind_some,cast_add,wrap_succ (by omega)]
  by_cases c:i<N
  ·have h3:=ysN_mono (show i+1≤N by omega)
   rw[ysN]at h3
   rw[if_pos (by omega),wrap_nat (by omega)]
   have:=ih (i+1) (by omega) (by omega)
   rw[ysN,←Nat.add_assoc a]at this
   exact this
  ·rw[if_neg (by omega),show i=N by omega]
theorem I_Days_m{k:Nat}{y a:Nat}{p:Nat}(hy:y≤1000000)(hp:p≤11)(ha:a≤1000000):∀(n i:Nat),i≤p→p -i<n→I_DaysOf_b2 k n (y:Int) ((p+1:Nat):Int) ((a+msN y i:Nat):Int) ((i+1:Nat):Int)=some ((a+msN y p:Nat):Int):=by
 intro n
 induction n with
 |zero=>intro i _ h;omega
 |succ n ih=>
  intro i hi hn
  have hm:=msN_mono (y:=y) (show p≤12 by omega)
  have hb:=ydN_bnd y
  rw[msN_12]at hm
  rw[I_DaysOf_b2,bif_dec,wrap_succ (by omega)]
  by_cases c:i<p
  ·have h3:=msN_mono (y:=y) (show i+1≤p by omega)
   rw[msN]at h3
   rw[if_pos (by omega),I_monthDays_nat _ _ (by omega) (by omega) (by omega),Option.bind_some,cast_add,wrap_nat (by omega)]
   have:=ih (i+1) (by omega) (by omega)
   rw[msN,←Nat.add_assoc a]at this
   exact this
  ·rw[if_neg (by omega),show i=p by omega]
theorem I_DaysOf_eq{k:Nat}(hk:1073741824≤k)(y m d:Int):I_DaysOf k y m d=some (daysI y m d):=by
 rw[I_DaysOf,I_inRange_eq,Option.bind_some,I_inRange_eq,Option.bind_some]
 unfold daysI okDay
 rw[inR_and,inR_and]
 cases h1:decide (1970≤y)&&decide (y≤2099)with
 |false=>rfl
 |true=>
  cases h2:decide (1≤m)&&decide (m≤12)with
  |false=>rfl
  |true=>
   rw[Bool.and_eq_true,decide_eq_true_eq,decide_eq_true_eq]at h1 h2
   obtain⟨N,rfl⟩:∃N:Nat,y=((1970+N:Nat):Int):=⟨y.toNat -1970,by omega⟩
   obtain⟨p,rfl⟩:∃p:Nat,m=((p+1:Nat):Int):=⟨m.toNat -1,by omega⟩
   rw[Bool.not_true,cond_false,cond_false,I_monthDays_nat _ _ (by omega) (by omega) (by omega),Option.bind_some,I_inRange_eq,Option.bind_some,inR_and,Int.toNat_natCast,Int.toNat_natCast]
   have hmd:=mdN_pos (1970+N) (p+1)
   cases h3:decide (1≤d)&&decide (d≤((mdN (1970+N) (p+1):Nat):Int))with
   |false=>rfl
   |true=>
    rw[Bool.and_eq_true,decide_eq_true_eq,decide_eq_true_eq]at h3
    obtain⟨a,rfl⟩:∃a:Nat,d=((a+1:Nat):Int):=⟨d.toNat -1,by omega⟩
    have e0:(((a+1:Nat):Int) -1)=((a+ysN 0:Nat):Int):=by rw[ysN];push_cast;omega
    have hb:=ysN_mono (show N≤130 by omega)
    rw[ysN_130]at hb
    have b1:=I_Days_y (k:=k) (x1:=((p+1:Nat):Int)) (N:=N) (a:=a) (by omega) (by omega) k 0 (by omega) (by omega)
    have b2:=I_Days_m (k:=k) (y:=1970+N) (a:=a+ysN N) (p:=p) (by omega) (by omega) (by omega) k 0 (by omega) (by omega)
    rw[e0,wrap_nat (by rw[ysN];omega)]
    have b1':I_DaysOf_b0 k k ((1970+N:Nat):Int) ((p+1:Nat):Int) ((a+ysN 0:Nat):Int) 1970=some ((a+ysN N:Nat):Int):=b1
    have b2':I_DaysOf_b2 k k ((1970+N:Nat):Int) ((p+1:Nat):Int) ((a+ysN N:Nat):Int) 1=some ((a+ysN N+msN (1970+N) p:Nat):Int):=b2
    rw[b1',Option.bind_some,b2',Option.bind_some,Bool.not_true,cond_false,Bool.and_true,Bool.and_true,cond_true,Nat.add_sub_cancel_left,Nat.add_sub_cancel,Int.toNat_natCast,Nat.add_sub_cancel,show a+ysN N+msN (1970+N) p=ysN N+msN (1970+N) p+a by omega]
theorem I_Civ_y{k:Nat}{x6:Int}{day N p d:Nat}(h:IsDay day N p d):∀(n i:Nat),i≤N→N -i<n→I_CivilOf_b0 k n ((day -ysN i:Nat):Int) ((1970+i:Nat):Int) x6=some (((day -ysN N:Nat):Int),((1970+N:Nat):Int)):=by
 intro n
 induction n with
 |zero=>intro i _ h;omega
 |succ n ih=>
  intro i hi hn
  have hN:=h.hn
  have hl:=h.le
  have he:=h.eq
  have hlt:=h.ltY
  rw[I_CivilOf_b0,I_yearDays_nat _ (by omega),Option.bind_some,Option.bind_some,bif_dec,wrap_succ (by omega)]
  have hb:=ydN_bnd (1970+i)
  by_cases c:i<N
  ·have h3:=ysN_mono (show i+1≤N by omega)
   rw[ysN]at h3
   have e:(((day -ysN i:Nat):Int) -((ydN (1970+i):Nat):Int))=((day -ysN (i+1):Nat):Int):=by rw[ysN];omega
   rw[if_pos (by omega),e,wrap_nat (by omega)]
   exact ih (i+1) (by omega) (by omega)
  ·rw[show i=N by omega,if_neg (by omega)]
theorem S_Civ_y{k:Nat}{day N p d:Nat}(h:IsDay day N p d):∀(n i:Nat),i≤N→N -i<n→S_CivilOf_b0 k n ((day -ysN i:Nat):Int) ((1970+i:Nat):Int)=some (((day -ysN N:Nat):Int),((1970+N:Nat):Int)):=by
 intro n
 induction n with
 |zero=>intro i _ h;omega
 |succ n ih=>
  intro i hi hn
  have hN:=h.hn
  have hl:=h.le
  have he:=h.eq
  have hlt:=h.ltY
  have e0:S_CivilOf_c12 k ((day -ysN i:Nat):Int) ((1970+i:Nat):Int) 365 (leapN (1970+i))=some ((ydN (1970+i):Nat):Int):=by
   rw[S_CivilOf_c12]
   unfold ydN
   cases leapN (1970+i)<;>rfl
  rw[S_CivilOf_b0,S_CivilOf_b1,S_IsLeap_nat _ (by omega),Option.bind_some,e0,Option.bind_some,bif_dec,wrap_succ (by omega)]
  have hb:=ydN_bnd (1970+i)
  by_cases c:i<N
  ·have h3:=ysN_mono (show i+1≤N by omega)
   rw[ysN]at h3
   have e:(((day -ysN i:Nat):Int) -((ydN (1970+i):Nat):Int))=((day -ysN (i+1):Nat):Int):=by rw[ysN];omega
   rw[if_neg (by omega),e,wrap_nat (by omega)]
   exact ih (i+1) (by omega) (by omega)
  ·rw[show i=N by omega,if_pos (by omega)];rfl
theorem S_Civ_m{k:Nat}{day N p d:Nat}(h:IsDay day N p d):∀(n i:Nat),i≤p→p -i<n→S_CivilOf_b2 k n ((day -ysN N -msN (1970+N) i:Nat):Int) ((1970+N:Nat):Int) ((i+1:Nat):Int)=some ((d:Int),((p+1:Nat):Int)):=by
 intro n
 induction n with
 |zero=>intro i _ h;omega
 |succ n ih=>
  intro i hi hn
  have hN:=h.hn
  have hp:=h.hp
  have hl:=h.le
  have he:=h.eq
  have hlt:=h.hd
  rw[S_CivilOf_b2,S_l3Long_nat _ _ (by omega) (by omega) (by omega),Option.bind_some,Option.bind_some,bif_dec,wrap_succ (by omega)]
  have hb:=mdN_pos (1970+N) (i+1)
  by_cases c:i<p
  ·have h3:=msN_mono (y:=1970+N) (show i+1≤p by omega)
   rw[msN]at h3
   have e:(((day -ysN N -msN (1970+N) i:Nat):Int) -((mdN (1970+N) (i+1):Nat):Int))=((day -ysN N -msN (1970+N) (i+1):Nat):Int):=by rw[msN];omega
   rw[if_pos (by omega),e,wrap_nat (by omega)]
   exact ih (i+1) (by omega) (by omega)
  ·have e:day -ysN N -msN (1970+N) p=d:=by omega
   rw[show i=p by omega,e,if_neg (by omega)]
theorem S_CivilOf_eq{k:Nat}(hk:1073741824≤k){day N p d:Nat}(h:IsDay day N p d):S_CivilOf k (day:Int)=some (((1970+N:Nat):Int),((p+1:Nat):Int),((d+1:Nat):Int)):=by
 have hN:=h.hn
 have hp:=h.hp
 have hl:=h.le
 have hd:=h.hd
 have hb:=mdN_pos (1970+N) (p+1)
 have b1:=S_Civ_y (k:=k) h k 0 (by omega) (by omega)
 have b2:=S_Civ_m (k:=k) h k 0 (by omega) (by omega)
 have b1':S_CivilOf_b0 k k (day:Int) 1970=some (((day -ysN N:Nat):Int),((1970+N:Nat):Int)):=b1
 have b2':S_CivilOf_b2 k k ((day -ysN N:Nat):Int) ((1970+N:Nat):Int) 1=some ((d:Int),((p+1:Nat):Int)):=b2
 rw[S_CivilOf,S_l1In_eq,Option.bind_some,inR_t (by omega) (by omega),Bool.not_true,cond_false,b1',Option.bind_some,b2',Option.bind_some,wrap_succ (by omega)]
theorem I_Civ_m{k:Nat}{day N p d:Nat}(h:IsDay day N p d):∀(n i:Nat),i≤p→p -i<n→I_CivilOf_b2 k n ((day -ysN N -msN (1970+N) i:Nat):Int) ((1970+N:Nat):Int) ((i+1:Nat):Int)=some ((d:Int),((p+1:Nat):Int)):=by
 intro n
 induction n with
 |zero=>intro i _ h;omega
 |succ n ih=>
  intro i hi hn
  have hN:=h.hn
  have hp:=h.hp
  have hl:=h.le
  have he:=h.eq
  have hlt:=h.hd
  rw[I_CivilOf_b2,I_monthDays_nat _ _ (by omega) (by omega) (by omega),Option.bind_some,Option.bind_some,bif_dec,wrap_succ (by omega)]
  have hb:=mdN_pos (1970+N) (i+1)
  by_cases c:i<p
  ·have h3:=msN_mono (y:=1970+N) (show i+1≤p by omega)
   rw[msN]at h3
   have e:(((day -ysN N -msN (1970+N) i:Nat):Int) -((mdN (1970+N) (i+1):Nat):Int))=((day -ysN N -msN (1970+N) (i+1):Nat):Int):=by rw[msN];omega
   rw[if_pos (by omega),e,wrap_nat (by omega)]
   exact ih (i+1) (by omega) (by omega)
  ·have e:day -ysN N -msN (1970+N) p=d:=by omega
   rw[show i=p by omega,e,if_neg (by omega)]
theorem I_CivilOf_eq{k:Nat}(hk:1073741824≤k){day N p d:Nat}(h:IsDay day N p d):I_CivilOf k (day:Int)=some (((1970+N:Nat):Int),((p+1:Nat):Int),((d+1:Nat):Int)):=by
 have hN:=h.hn
 have hp:=h.hp
 have hl:=h.le
 have hd:=h.hd
 have hb:=mdN_pos (1970+N) (p+1)
 have b1:=I_Civ_y (k:=k) (x6:=1) h k 0 (by omega) (by omega)
 have b2:=I_Civ_m (k:=k) h k 0 (by omega) (by omega)
 have b1':I_CivilOf_b0 k k (day:Int) 1970 1=some (((day -ysN N:Nat):Int),((1970+N:Nat):Int)):=b1
 have b2':I_CivilOf_b2 k k ((day -ysN N:Nat):Int) ((1970+N:Nat):Int) 1=some ((d:Int),((p+1:Nat):Int)):=b2
 rw[I_CivilOf,I_inRange_eq,Option.bind_some,inR_t (by omega) (by omega),Bool.not_true,cond_false,b1',Option.bind_some,b2',Option.bind_some,wrap_succ (by omega)]
def d2(n:Nat):List UInt8:=[UInt8.ofNat (48+n/10),UInt8.ofNat (48+n % 10)]
def d4(n:Nat):List UInt8:=[UInt8.ofNat (48+n/1000),UInt8.ofNat (48+n/100 % 10),UInt8.ofNat (48+n/10 % 10),UInt8.ofNat (48+n % 10)]
def dFull(w:Nat):List UInt8:=[[83,117,110,100,97,121],[77,111,110,100,97,121],[84,117,101,115,100,97,121],[87,101,100,110,101,115,100,97,121],[84,104,117,114,115,100,97,121],[70,114,105,100,97,121],[83,97,116,117,114,100,97,121]].getD w []
def mon3(p:Nat):List UInt8:=[[74,97,110],[70,101,98],[77,97,114],[65,112,114],[77,97,121],[74,117,110],[74,117,108],[65,117,103],[83,101,112],[79,99,116],[78,111,118],[68,101,99]].getD p []
def clkT(r:Nat):List UInt8:=d2 (r/3600)++[58]++d2 (r/60 % 60)++[58]++d2 (r % 60)
def T1(w n p d r:Nat):List UInt8:=(dFull w).take 3++[44,32]++d2 (d+1)++[32]++mon3 p++[32]++d4 (1970+n)++[32]++clkT r++[32,71,77,84]
def T2(w n p d r:Nat):List UInt8:=dFull w++[44,32]++d2 (d+1)++[45]++mon3 p++[45]++d2 ((1970+n) % 100)++[32]++clkT r++[32,71,77,84]
def T3(w n p d r:Nat):List UInt8:=(dFull w).take 3++[32]++mon3 p++[32]++(if d+1<10 then [32,UInt8.ofNat (48+(d+1))]else d2 (d+1))++[32]++clkT r++[32]++d4 (1970+n)
theorem dF3{w:Nat}(h:w<7):∃a b c r,dFull w=a::b::c::r∧3≤r.length∧r.length≤6:=by
 have:w=0∨w=1∨w=2∨w=3∨w=4∨w=5∨w=6:=by omega
 rcases this with rfl|rfl|rfl|rfl|rfl|rfl|rfl<;>exact⟨_,_,_,_,rfl,by decide,by decide⟩
theorem mon3e{p:Nat}(h:p<12):∃a b c,mon3 p=[a,b,c]:=by
 have:p=0∨p=1∨p=2∨p=3∨p=4∨p=5∨p=6∨p=7∨p=8∨p=9∨p=10∨p=11:=by omega
 rcases this with rfl|rfl|rfl|rfl|rfl|rfl|rfl|rfl|rfl|rfl|rfl|rfl<;>exact⟨_,_,_,rfl⟩
theorem T1_len{w n p d r:Nat}(hw:w<7)(hp:p<12):(T1 w n p d r).length=29:=by
 obtain⟨a,b,c,q,e,_⟩:=dF3 hw
 obtain⟨x,y,z,e2⟩:=mon3e hp
 unfold T1;rw[e,e2];rfl
theorem dayT_e(d:Nat):∃a b,(if d+1<10 then [32,UInt8.ofNat (48+(d+1))]else d2 (d+1))=[a,b]:=by
 split
 ·exact⟨_,_,rfl⟩
 ·exact⟨_,_,rfl⟩
theorem T3_len{w n p d r:Nat}(hw:w<7)(hp:p<12):(T3 w n p d r).length=24:=by
 obtain⟨a,b,c,q,e,_⟩:=dF3 hw
 obtain⟨x,y,z,e2⟩:=mon3e hp
 obtain⟨u,v,e3⟩:=dayT_e d
 unfold T3;rw[e,e2,e3];rfl
theorem T2_len{w n p d r:Nat}(hw:w<7)(hp:p<12):30≤(T2 w n p d r).length∧(T2 w n p d r).length≤33:=by
 obtain⟨a,b,c,q,e,h1,h2⟩:=dF3 hw
 obtain⟨x,y,z,e2⟩:=mon3e hp
 unfold T2;rw[e,e2];simp[d2,clkT];omega
theorem itoa_small{n:Nat}(h:n<100):Lib.itoa (n:Int)=if n<10 then [UInt8.ofNat (48+n)]else d2 n:=by
 rw[itoa_dd]
 by_cases h0:n=0
 ·subst h0;rfl
 ·rw[if_neg (by omega),if_neg (by omega),Int.natAbs_natCast,dd_step h0]
  by_cases c:n<10
  ·rw[if_pos c,show n/10=0 by omega,Nat.mod_eq_of_lt c];rfl
  ·rw[if_neg c,dd_step (by omega),show n/10/10=0 by omega,show n/10 % 10=n/10 by omega];rfl
theorem itoa_year{n:Nat}(h1:1000≤n)(h2:n<10000):Lib.itoa (n:Int)=d4 n:=by
 rw[itoa_dd,if_neg (by omega),if_neg (by omega),Int.natAbs_natCast,dd_step (by omega),dd_step (by omega),dd_step (by omega),dd_step (by omega),show n/10/10/10/10=0 by omega,show n/10/10/10 % 10=n/1000 by omega,show n/10/10 % 10=n/100 % 10 by omega]
 rfl
theorem ite_max0{n:Nat}:(if(n:Int)>(0:Int)then(n:Int)else(0:Int))=(n:Int):=by split<;>omega
theorem S_Max_0{k n:Nat}:S_Max k 0 (n:Int)=some (n:Int):=by
 rw[S_Max,bif_dec]
 by_cases h:n=0
 ·subst h;rfl
 ·rw[if_pos (by omega)]
theorem S_Dig_done{k n:Nat}{x1:Int}{x5:List UInt8}(h:x1≤(x5.length:Int)):S_Digits_b0 k (n+1) x1 x5=some x5:=by
 rw[S_Digits_b0,bif_dec,if_neg (by omega)]
theorem S_Dig_pad{k n:Nat}{c:UInt8}:S_Digits_b0 k (n+2) 2 [c]=some [48,c]:=by
 rw[S_Digits_b0,bif_dec,if_pos (by simp),bif_dec,if_pos (by simp),cat_ok (by simp),Option.bind_some]
 exact S_Dig_done (by simp)
theorem S_Digits2{k:Nat}(hk:1073741824≤k){n:Nat}(h:n<100):S_Digits k (n:Int) 2=some (d2 n):=by
 obtain⟨k',e⟩:∃k',k=k'+2:=⟨k -2,by omega⟩
 rw[S_Digits,S_Max_0,Option.bind_some,S_FormatInt_eq hk _ (by omega) (by omega),Option.bind_some,itoa_small h]
 by_cases c:n<10
 ·have:S_Digits_b0 k k 2 [UInt8.ofNat (48+n)]=some [48,UInt8.ofNat (48+n)]:=by
   conv=>lhs;arg 2;rw[e]
   exact S_Dig_pad
  rw[if_pos c,this,Option.bind_some]
  unfold d2
  rw[show n/10=0 by omega,Nat.mod_eq_of_lt c];rfl
 ·have:S_Digits_b0 k k 2 (d2 n)=some (d2 n):=by
   conv=>lhs;arg 2;rw[e]
   exact S_Dig_done (by simp[d2])
  rw[if_neg c,this];rfl
theorem I_Dig_done{k n:Nat}{x1:Int}{x5:List UInt8}(h:x1≤(x5.length:Int)):I_Digits_b0 k (n+1) x1 x5=some x5:=by
 rw[I_Digits_b0,bif_dec,if_neg (by omega)]
theorem I_Dig_pad{k n:Nat}{c:UInt8}:I_Digits_b0 k (n+2) 2 [c]=some [48,c]:=by
 rw[I_Digits_b0,bif_dec,if_pos (by simp),bif_dec,if_pos (by simp),cat_ok (by simp),Option.bind_some]
 exact I_Dig_done (by simp)
theorem I_Digits2{k:Nat}(hk:1073741824≤k){n:Nat}(h:n<100):I_Digits k (n:Int) 2=some (d2 n):=by
 obtain⟨k',e⟩:∃k',k=k'+2:=⟨k -2,by omega⟩
 rw[I_Digits,ite_max0,I_FormatInt_eq _ (by omega) (by omega),Option.bind_some,itoa_small h]
 by_cases c:n<10
 ·have:I_Digits_b0 k k 2 [UInt8.ofNat (48+n)]=some [48,UInt8.ofNat (48+n)]:=by
   conv=>lhs;arg 2;rw[e]
   exact I_Dig_pad
  rw[if_pos c,this,Option.bind_some]
  unfold d2
  rw[show n/10=0 by omega,Nat.mod_eq_of_lt c];rfl
 ·have:I_Digits_b0 k k 2 (d2 n)=some (d2 n):=by
   conv=>lhs;arg 2;rw[e]
   exact I_Dig_done (by simp[d2])
  rw[if_neg c,this];rfl
theorem S_Digits4{k:Nat}(hk:1073741824≤k){n:Nat}(h1:1000≤n)(h2:n<10000):S_Digits k (n:Int) 4=some (d4 n):=by
 obtain⟨k',e⟩:∃k',k=k'+2:=⟨k -2,by omega⟩
 have:S_Digits_b0 k k 4 (d4 n)=some (d4 n):=by
  conv=>lhs;arg 2;rw[e]
  exact S_Dig_done (by simp[d4])
 rw[S_Digits,S_Max_0,Option.bind_some,S_FormatInt_eq hk _ (by omega) (by omega),Option.bind_some,itoa_year h1 h2,this];rfl
theorem S_l3Clock_eq{k:Nat}(hk:1073741824≤k){t:Nat}(ht:t≤4102444799):S_l3Clock k (t:Int)=some (clkT (t % 86400)):=by
 have e1:md (t:Int) 86400=some ((t % 86400:Nat):Int):=md_nat (b:=86400) (by omega)
 have e2:dv ((t % 86400:Nat):Int) 3600=some ((t % 86400/3600:Nat):Int):=dv_nat (b:=3600) (by omega)
 have e3:dv ((t % 86400:Nat):Int) 60=some ((t % 86400/60:Nat):Int):=dv_nat (b:=60) (by omega)
 have e4:md ((t % 86400/60:Nat):Int) 60=some ((t % 86400/60 % 60:Nat):Int):=md_nat (b:=60) (by omega)
 have e5:md ((t % 86400:Nat):Int) 60=some ((t % 86400 % 60:Nat):Int):=md_nat (b:=60) (by omega)
 rw[S_l3Clock,e1,Option.bind_some,e2,Option.bind_some,wrap_nat (by omega),S_Digits2 hk (by omega),Option.bind_some,cat_ok (by simp[d2]),Option.bind_some,e3,Option.bind_some,wrap_nat (by omega),e4,Option.bind_some,S_Digits2 hk (by omega),Option.bind_some,cat_ok (by simp[d2]),Option.bind_some,cat_ok (by simp[d2]),Option.bind_some,e5,Option.bind_some,S_Digits2 hk (by omega),Option.bind_some,cat_ok (by simp[d2])]
 rfl
theorem day_tab:∀w:Fin 7,idx ([[83,117,110,100,97,121],[77,111,110,100,97,121],[84,117,101,115,100,97,121],[87,101,100,110,101,115,100,97,121],[84,104,117,114,115,100,97,121],[70,114,105,100,97,121],[83,97,116,117,114,100,97,121]]:List (List UInt8)) ((w.val:Nat):Int)=some (dFull w.val)∧ssub (dFull w.val) 0 3=some ((dFull w.val).take 3)∧ssub ([83,117,110,77,111,110,84,117,101,87,101,100,84,104,117,70,114,105,83,97,116]:List UInt8) (IntKind.wrap .i64 ((3:Int)*((w.val:Nat):Int))) (IntKind.wrap .i64 ((IntKind.wrap .i64 ((3:Int)*((w.val:Nat):Int)))+(3:Int)))=some ((dFull w.val).take 3):=by decide+kernel
theorem mon_tab:∀p:Fin 12,idx ([[74,97,110],[70,101,98],[77,97,114],[65,112,114],[77,97,121],[74,117,110],[74,117,108],[65,117,103],[83,101,112],[79,99,116],[78,111,118],[68,101,99]]:List (List UInt8)) (IntKind.wrap .i64 (((p.val+1:Nat):Int) -(1:Int)))=some (mon3 p.val)∧ssub ([74,97,110,70,101,98,77,97,114,65,112,114,77,97,121,74,117,110,74,117,108,65,117,103,83,101,112,79,99,116,78,111,118,68,101,99]:List UInt8) (IntKind.wrap .i64 ((IntKind.wrap .i64 ((3:Int)*((p.val+1:Nat):Int))) -(3:Int))) (IntKind.wrap .i64 ((3:Int)*((p.val+1:Nat):Int)))=some (mon3 p.val):=by decide+kernel
theorem dF3_len{w:Nat}(h:w<7):((dFull w).take 3).length=3:=by
 obtain⟨a,b,c,q,e,_⟩:=dF3 h
 rw[e];rfl
theorem dF_len{w:Nat}(h:w<7):(dFull w).length≤9:=by
 obtain⟨a,b,c,q,e,_⟩:=dF3 h
 rw[e];simp;omega
theorem mon3_len{p:Nat}(h:p<12):(mon3 p).length=3:=by
 obtain⟨a,b,c,e⟩:=mon3e h
 rw[e];rfl
theorem clkT_len(r:Nat):(clkT r).length=8:=rfl
theorem S_l3Forms_eq{k:Nat}(hk:1073741824≤k){t n p d:Nat}(ht:t≤4102444799)(h:IsDay (t/86400) n p d):S_l3Forms k (t:Int)=some [T1 (wkN (t/86400)) n p d (t % 86400),T2 (wkN (t/86400)) n p d (t % 86400),T3 (wkN (t/86400)) n p d (t % 86400)]:=by
 have hn:=h.hn
 have hp:=h.hp
 have hd:=h.hd
 have hm:=mdN_pos (1970+n) (p+1)
 have hw:=wkN_lt (t/86400)
 have e1:dv (t:Int) 86400=some ((t/86400:Nat):Int):=dv_nat (b:=86400) (by omega)
 have e2:md ((1970+n:Nat):Int) 100=some (((1970+n) % 100:Nat):Int):=md_nat (b:=100) (by omega)
 obtain⟨f1,f2,_⟩:=day_tab ⟨wkN (t/86400),hw⟩
 obtain⟨g1,_⟩:=mon_tab ⟨p,hp⟩
 simp only at f1 f2 g1
 have c1:=S_Digits2 hk (n:=d+1) (by omega)
 have c2:=S_Digits2 hk (n:=(1970+n) % 100) (by omega)
 have c3:=S_Digits4 hk (n:=1970+n) (by omega) (by omega)
 have c4:=S_l3Clock_eq hk ht
 have c5:=S_FormatInt_eq hk ((d+1:Nat):Int) (by omega) (by omega)
 have c6:decide (((d+1:Nat):Int)<10)=decide (d+1<10):=by by_cases c:d+1<10<;>simp[c]<;>omega
 have l1:=dF3_len hw
 have l2:=mon3_len hp
 have l3:=dF_len hw
 have l4:=clkT_len (t % 86400)
 rw[S_l3Forms,e1,Option.bind_some,wrap_nat (show t/86400≤9223372036854775807 by omega),S_CivilOf_eq hk h,Option.bind_some,S_l3Days,Option.bind_some,Option.bind_some,wrap_nat (show t/86400≤9223372036854775807 by omega),S_WeekdayOf_nat (k:=k) (t/86400) (by omega),Option.bind_some,f1,Option.bind_some,Option.bind_some,S_l3Months,Option.bind_some]
 simp only
 rw[g1,Option.bind_some,Option.bind_some,f2,Option.bind_some,cat_ok (by simp only[List.length_append,List.length_cons,List.length_nil,l1,l2,l4,d2,d4];omega),Option.bind_some,c1,Option.bind_some,cat_ok (by simp only[List.length_append,List.length_cons,List.length_nil,l1,l2,l4,d2,d4];omega),Option.bind_some,cat_ok (by simp only[List.length_append,List.length_cons,List.length_nil,l1,l2,l4,d2,d4];omega),Option.bind_some,cat_ok (by simp only[List.length_append,List.length_cons,List.length_nil,l1,l2,l4,d2,d4];omega),Option.bind_some,cat_ok (by simp only[List.length_append,List.length_cons,List.length_nil,l1,l2,l4,d2,d4];omega),Option.bind_some,c3,Option.bind_some,cat_ok (by simp only[List.length_append,List.length_cons,List.length_nil,l1,l2,l4,d2,d4];omega),Option.bind_some,cat_ok (by simp only[List.length_append,List.length_cons,List.length_nil,l1,l2,l4,d2,d4];omega),Option.bind_some,c4,Option.bind_some,cat_ok (by simp only[List.length_append,List.length_cons,List.length_nil,l1,l2,l4,d2,d4];omega),Option.bind_some,cat_ok (by simp only[List.length_append,List.length_cons,List.length_nil,l1,l2,l4,d2,d4];omega),Option.bind_some]
 rw[cat_ok (by simp only[List.length_append,List.length_cons,List.length_nil,l1,l2,l4,d2,d4];omega),Option.bind_some,Option.bind_some,cat_ok (by simp only[List.length_append,List.length_cons,List.length_nil,l1,l2,l4,d2,d4];omega),Option.bind_some,cat_ok (by simp only[List.length_append,List.length_cons,List.length_nil,l1,l2,l4,d2,d4];omega),Option.bind_some,cat_ok (by simp only[List.length_append,List.length_cons,List.length_nil,l1,l2,l4,d2,d4];omega),Option.bind_some,cat_ok (by simp only[List.length_append,List.length_cons,List.length_nil,l1,l2,l4,d2,d4];omega),Option.bind_some,e2,Option.bind_some,c2,Option.bind_some,cat_ok (by simp only[List.length_append,List.length_cons,List.length_nil,l1,l2,l4,d2,d4];omega),Option.bind_some,cat_ok (by simp only[List.length_append,List.length_cons,List.length_nil,l1,l2,l4,d2,d4];omega),Option.bind_some,Option.bind_some,cat_ok (by simp only[List.length_append,List.length_cons,List.length_nil,l1,l2,l4,d2,d4];omega),Option.bind_some,cat_ok (by simp only[List.length_append,List.length_cons,List.length_nil,l1,l2,l4,d2,d4];omega),Option.bind_some,Option.bind_some,c6,S_l3Forms_c69,c5,Option.bind_some,itoa_small (show d+1<100 by omega)]
 by_cases c:d+1<10
 ·rw[decide_eq_true c,cond_true,if_pos c,cat_ok (by simp only[List.length_append,List.length_cons,List.length_nil,l1,l2,l4,d2,d4];omega),Option.bind_some,Option.bind_some]
  rw[Option.bind_some,cat_ok (by simp only[List.length_append,List.length_cons,List.length_nil,l1,l2,l4,d2,d4];omega),Option.bind_some,cat_ok (by simp only[List.length_append,List.length_cons,List.length_nil,l1,l2,l4,d2,d4];omega),Option.bind_some,cat_ok (by simp only[List.length_append,List.length_cons,List.length_nil,l1,l2,l4,d2,d4];omega),Option.bind_some,cat_ok (by simp only[List.length_append,List.length_cons,List.length_nil,l1,l2,l4,d2,d4];omega),Option.bind_some,cat_ok (by simp only[List.length_append,List.length_cons,List.length_nil,l1,l2,l4,d2,d4];omega),Option.bind_some,Option.bind_some,cat_ok (by simp only[List.length_append,List.length_cons,List.length_nil,l1,l2,l4,d2,d4];omega),Option.bind_some,cat_ok (by simp only[List.length_append,List.length_cons,List.length_nil,l1,l2,l4,d2,d4];omega),Option.bind_some,Option.bind_some,cat_ok (by simp only[List.length_append,List.length_cons,List.length_nil,l1,l2,l4,d2,d4];omega),Option.bind_some]
  unfold T1 T2 T3
  rw[if_pos c];rfl
 ·rw[decide_eq_false c,cond_false,Option.bind_some]
  rw[Option.bind_some,cat_ok (by simp only[List.length_append,List.length_cons,List.length_nil,l1,l2,l4,d2,d4];omega),Option.bind_some,cat_ok (by simp only[List.length_append,List.length_cons,List.length_nil,l1,l2,l4,d2,d4];omega),Option.bind_some,cat_ok (by simp only[List.length_append,List.length_cons,List.length_nil,l1,l2,l4,d2,d4];omega),Option.bind_some,cat_ok (by simp only[List.length_append,List.length_cons,List.length_nil,l1,l2,l4,d2,d4];omega),Option.bind_some,cat_ok (by simp only[List.length_append,List.length_cons,List.length_nil,l1,l2,l4,d2,d4];omega),Option.bind_some,Option.bind_some,cat_ok (by simp only[List.length_append,List.length_cons,List.length_nil,l1,l2,l4,d2,d4];omega),Option.bind_some,cat_ok (by simp only[List.length_append,List.length_cons,List.length_nil,l1,l2,l4,d2,d4];omega),Option.bind_some,Option.bind_some,cat_ok (by simp only[List.length_append,List.length_cons,List.length_nil,l1,l2,l4,d2,d4];omega),Option.bind_some]
  unfold T1 T2 T3
  rw[if_neg c]
def digI(s:List UInt8):Int:=match Lib.atoiAll (Lib.trimLeftB s 32)with| .ok v=>v|_=> -1
theorem digI_t2:∀n:Fin 100,digI (d2 n.val)=n.val:=by decide+kernel
theorem digI_t4:∀n:Fin 130,digI (d4 (1970+n.val))=(1970+n.val:Nat):=by decide+kernel
theorem digI_t3:∀d:Fin 31,digI (if d.val+1<10 then [32,UInt8.ofNat (48+(d.val+1))]else d2 (d.val+1))=(d.val+1:Nat):=by decide+kernel
def monAll:List UInt8:=[74,97,110,70,101,98,77,97,114,65,112,114,77,97,121,74,117,110,74,117,108,65,117,103,83,101,112,79,99,116,78,111,118,68,101,99]
def isD(s:List UInt8)(t:Nat):Prop:=t≤4102444799∧∃n p d,IsDay (t/86400) n p d∧(s=T1 (wkN (t/86400)) n p d (t % 86400)∨(n<100∧s=T2 (wkN (t/86400)) n p d (t % 86400))∨s=T3 (wkN (t/86400)) n p d (t % 86400))
open Classical in
noncomputable def pDate(s:List UInt8):Int×Bool:=if h:∃t,isD s t then((Classical.choose h:Nat),true)else(0,false)
theorem pDate_no{s:List UInt8}(h:¬∃t,isD s t):pDate s=(0,false):=by unfold pDate;rw[dif_neg h]
theorem I_fullDay_eq{k w:Nat}(hw:w<7):I_fullDay k (w:Int)=some (dFull w):=by
 obtain⟨f1,_,_⟩:=day_tab ⟨w,hw⟩
 simp only at f1
 rw[I_fullDay,f1,Option.bind_some,Option.bind_some]
theorem I_dateText_1{k:Nat}(hk:1073741824≤k){t n p d:Nat}(ht:t≤4102444799)(h:IsDay (t/86400) n p d):I_dateText k (t:Int) 1=some (T1 (wkN (t/86400)) n p d (t % 86400)):=by
 have hn:=h.hn
 have hp:=h.hp
 have hd:=h.hd
 have hm:=mdN_pos (1970+n) (p+1)
 have hw:=wkN_lt (t/86400)
 have l1:=dF3_len hw
 have l2:=mon3_len hp
 have l3:=dF_len hw
 have e1:dv (t:Int) 86400=some ((t/86400:Nat):Int):=dv_nat (b:=86400) (by omega)
 have e2:dv (t:Int) 3600=some ((t/3600:Nat):Int):=dv_nat (b:=3600) (by omega)
 have e3:md ((t/3600:Nat):Int) 24=some ((t % 86400/3600:Nat):Int):=by
  rw[show t % 86400/3600=t/3600 % 24 by omega];exact md_nat (b:=24) (by omega)
 have e4:dv (t:Int) 60=some ((t/60:Nat):Int):=dv_nat (b:=60) (by omega)
 have e5:md ((t/60:Nat):Int) 60=some ((t % 86400/60 % 60:Nat):Int):=by
  rw[show t % 86400/60 % 60=t/60 % 60 by omega];exact md_nat (b:=60) (by omega)
 have e6:md (t:Int) 60=some ((t % 86400 % 60:Nat):Int):=by
  rw[show t % 86400 % 60=t % 60 by omega];exact md_nat (b:=60) (by omega)
 have e7:md ((1970+n:Nat):Int) 100=some (((1970+n) % 100:Nat):Int):=md_nat (b:=100) (by omega)
 obtain⟨f1,_,f3⟩:=day_tab ⟨wkN (t/86400),hw⟩
 obtain⟨_,g2⟩:=mon_tab ⟨p,hp⟩
 simp only at f1 f3 g2
 have c1:=I_Digits2 hk (n:=d+1) (by omega)
 have c2:=I_Digits2 hk (n:=(1970+n) % 100) (by omega)
 have c3:=I_Digits2 hk (n:=t % 86400/3600) (by omega)
 have c4:=I_Digits2 hk (n:=t % 86400/60 % 60) (by omega)
 have c5:=I_Digits2 hk (n:=t % 86400 % 60) (by omega)
 have c6:=I_FormatInt_eq (k:=k) ((1970+n:Nat):Int) (by omega) (by omega)
 have c7:=I_FormatInt_eq (k:=k) ((d+1:Nat):Int) (by omega) (by omega)
 rw[itoa_year (by omega) (by omega)]at c6
 rw[itoa_small (by omega)]at c7
 have c8:decide (((d+1:Nat):Int)<10)=decide (d+1<10):=by by_cases c:d+1<10<;>simp[c]<;>omega
 rw[I_dateText,I_inRange_eq,Option.bind_some,inR_t (by omega) (by omega),Bool.not_true,cond_false,e1,Option.bind_some,wrap_nat (show t/86400≤9223372036854775807 by omega),I_CivilOf_eq hk h,Option.bind_some,Option.bind_some,wrap_nat (show t/86400≤9223372036854775807 by omega),I_WeekdayOf_nat (k:=k) (t/86400) (by omega),Option.bind_some,e2,Option.bind_some,wrap_nat (show t/3600≤9223372036854775807 by omega),e3,Option.bind_some,c3,Option.bind_some,cat_ok (by simp only[List.length_append,List.length_cons,List.length_nil,l1,l2,d2,d4];omega),Option.bind_some,e4,Option.bind_some,wrap_nat (show t/60≤9223372036854775807 by omega),e5,Option.bind_some,c4,Option.bind_some,cat_ok (by simp only[List.length_append,List.length_cons,List.length_nil,l1,l2,d2,d4];omega),Option.bind_some,cat_ok (by simp only[List.length_append,List.length_cons,List.length_nil,l1,l2,d2,d4];omega),Option.bind_some,e6,Option.bind_some,c5,Option.bind_some,cat_ok (by simp only[List.length_append,List.length_cons,List.length_nil,l1,l2,d2,d4];omega),Option.bind_some,f3,Option.bind_some]
 simp only
 rw[g2,Option.bind_some]
 rw[show((1:Int)==1)=true from rfl,cond_true,cat_ok (by simp only[List.length_append,List.length_cons,List.length_nil,l1,l2,d2,d4];omega),Option.bind_some,c1,Option.bind_some,cat_ok (by simp only[List.length_append,List.length_cons,List.length_nil,l1,l2,d2,d4];omega),Option.bind_some,cat_ok (by simp only[List.length_append,List.length_cons,List.length_nil,l1,l2,d2,d4];omega),Option.bind_some,cat_ok (by simp only[List.length_append,List.length_cons,List.length_nil,l1,l2,d2,d4];omega),Option.bind_some,cat_ok (by simp only[List.length_append,List.length_cons,List.length_nil,l1,l2,d2,d4];omega),Option.bind_some,c6,Option.bind_some,cat_ok (by simp only[List.length_append,List.length_cons,List.length_nil,l1,l2,d2,d4];omega),Option.bind_some,cat_ok (by simp only[List.length_append,List.length_cons,List.length_nil,l1,l2,d2,d4];omega),Option.bind_some,cat_ok (by simp only[List.length_append,List.length_cons,List.length_nil,l1,l2,d2,d4];omega),Option.bind_some,cat_ok (by simp only[List.length_append,List.length_cons,List.length_nil,l1,l2,d2,d4];omega),Option.bind_some]
 rfl
theorem I_dateText_2{k:Nat}(hk:1073741824≤k){t n p d:Nat}(ht:t≤4102444799)(h:IsDay (t/86400) n p d):I_dateText k (t:Int) 2=some (if n<100 then T2 (wkN (t/86400)) n p d (t % 86400)else []):=by
 have hn:=h.hn
 have hp:=h.hp
 have hd:=h.hd
 have hm:=mdN_pos (1970+n) (p+1)
 have hw:=wkN_lt (t/86400)
 have l1:=dF3_len hw
 have l2:=mon3_len hp
 have l3:=dF_len hw
 have e1:dv (t:Int) 86400=some ((t/86400:Nat):Int):=dv_nat (b:=86400) (by omega)
 have e2:dv (t:Int) 3600=some ((t/3600:Nat):Int):=dv_nat (b:=3600) (by omega)
 have e3:md ((t/3600:Nat):Int) 24=some ((t % 86400/3600:Nat):Int):=by
  rw[show t % 86400/3600=t/3600 % 24 by omega];exact md_nat (b:=24) (by omega)
 have e4:dv (t:Int) 60=some ((t/60:Nat):Int):=dv_nat (b:=60) (by omega)
 have e5:md ((t/60:Nat):Int) 60=some ((t % 86400/60 % 60:Nat):Int):=by
  rw[show t % 86400/60 % 60=t/60 % 60 by omega];exact md_nat (b:=60) (by omega)
 have e6:md (t:Int) 60=some ((t % 86400 % 60:Nat):Int):=by
  rw[show t % 86400 % 60=t % 60 by omega];exact md_nat (b:=60) (by omega)
 have e7:md ((1970+n:Nat):Int) 100=some (((1970+n) % 100:Nat):Int):=md_nat (b:=100) (by omega)
 obtain⟨f1,_,f3⟩:=day_tab ⟨wkN (t/86400),hw⟩
 obtain⟨_,g2⟩:=mon_tab ⟨p,hp⟩
 simp only at f1 f3 g2
 have c1:=I_Digits2 hk (n:=d+1) (by omega)
 have c2:=I_Digits2 hk (n:=(1970+n) % 100) (by omega)
 have c3:=I_Digits2 hk (n:=t % 86400/3600) (by omega)
 have c4:=I_Digits2 hk (n:=t % 86400/60 % 60) (by omega)
 have c5:=I_Digits2 hk (n:=t % 86400 % 60) (by omega)
 have c6:=I_FormatInt_eq (k:=k) ((1970+n:Nat):Int) (by omega) (by omega)
 have c7:=I_FormatInt_eq (k:=k) ((d+1:Nat):Int) (by omega) (by omega)
 rw[itoa_year (by omega) (by omega)]at c6
 rw[itoa_small (by omega)]at c7
 have c8:decide (((d+1:Nat):Int)<10)=decide (d+1<10):=by by_cases c:d+1<10<;>simp[c]<;>omega
 rw[I_dateText,I_inRange_eq,Option.bind_some,inR_t (by omega) (by omega),Bool.not_true,cond_false,e1,Option.bind_some,wrap_nat (show t/86400≤9223372036854775807 by omega),I_CivilOf_eq hk h,Option.bind_some,Option.bind_some,wrap_nat (show t/86400≤9223372036854775807 by omega),I_WeekdayOf_nat (k:=k) (t/86400) (by omega),Option.bind_some,e2,Option.bind_some,wrap_nat (show t/3600≤9223372036854775807 by omega),e3,Option.bind_some,c3,Option.bind_some,cat_ok (by simp only[List.length_append,List.length_cons,List.length_nil,l1,l2,d2,d4];omega),Option.bind_some,e4,Option.bind_some,wrap_nat (show t/60≤9223372036854775807 by omega),e5,Option.bind_some,c4,Option.bind_some,cat_ok (by simp only[List.length_append,List.length_cons,List.length_nil,l1,l2,d2,d4];omega),Option.bind_some,cat_ok (by simp only[List.length_append,List.length_cons,List.length_nil,l1,l2,d2,d4];omega),Option.bind_some,e6,Option.bind_some,c5,Option.bind_some,cat_ok (by simp only[List.length_append,List.length_cons,List.length_nil,l1,l2,d2,d4];omega),Option.bind_some,f3,Option.bind_some]
 simp only
 rw[g2,Option.bind_some]
 rw[show((2:Int)==1)=false from rfl,show((2:Int)==2)=true from rfl,cond_true,cond_false,bif_dec]
 by_cases c:n<100
 ·rw[if_neg (by omega),if_pos c,I_fullDay_eq hw,Option.bind_some,cat_ok (by simp only[List.length_append,List.length_cons,List.length_nil,l1,l2,d2,d4];omega),Option.bind_some,c1,Option.bind_some,cat_ok (by simp only[List.length_append,List.length_cons,List.length_nil,l1,l2,d2,d4];omega),Option.bind_some,cat_ok (by simp only[List.length_append,List.length_cons,List.length_nil,l1,l2,d2,d4];omega),Option.bind_some,cat_ok (by simp only[List.length_append,List.length_cons,List.length_nil,l1,l2,d2,d4];omega),Option.bind_some,cat_ok (by simp only[List.length_append,List.length_cons,List.length_nil,l1,l2,d2,d4];omega),Option.bind_some,e7,Option.bind_some,c2,Option.bind_some,cat_ok (by simp only[List.length_append,List.length_cons,List.length_nil,l1,l2,d2,d4];omega),Option.bind_some,cat_ok (by simp only[List.length_append,List.length_cons,List.length_nil,l1,l2,d2,d4];omega),Option.bind_some,cat_ok (by simp only[List.length_append,List.length_cons,List.length_nil,l1,l2,d2,d4];omega),Option.bind_some,cat_ok (by simp only[List.length_append,List.length_cons,List.length_nil,l1,l2,d2,d4];omega),Option.bind_some]
  rfl
 ·rw[if_pos (by omega),if_neg c]
theorem I_dateText_3{k:Nat}(hk:1073741824≤k){t n p d:Nat}(ht:t≤4102444799)(h:IsDay (t/86400) n p d):I_dateText k (t:Int) 3=some (T3 (wkN (t/86400)) n p d (t % 86400)):=by
 have hn:=h.hn
 have hp:=h.hp
 have hd:=h.hd
 have hm:=mdN_pos (1970+n) (p+1)
 have hw:=wkN_lt (t/86400)
 have l1:=dF3_len hw
 have l2:=mon3_len hp
 have l3:=dF_len hw
 have e1:dv (t:Int) 86400=some ((t/86400:Nat):Int):=dv_nat (b:=86400) (by omega)
 have e2:dv (t:Int) 3600=some ((t/3600:Nat):Int):=dv_nat (b:=3600) (by omega)
 have e3:md ((t/3600:Nat):Int) 24=some ((t % 86400/3600:Nat):Int):=by
  rw[show t % 86400/3600=t/3600 % 24 by omega];exact md_nat (b:=24) (by omega)
 have e4:dv (t:Int) 60=some ((t/60:Nat):Int):=dv_nat (b:=60) (by omega)
 have e5:md ((t/60:Nat):Int) 60=some ((t % 86400/60 % 60:Nat):Int):=by
  rw[show t % 86400/60 % 60=t/60 % 60 by omega];exact md_nat (b:=60) (by omega)
 have e6:md (t:Int) 60=some ((t % 86400 % 60:Nat):Int):=by
  rw[show t % 86400 % 60=t % 60 by omega];exact md_nat (b:=60) (by omega)
 have e7:md ((1970+n:Nat):Int) 100=some (((1970+n) % 100:Nat):Int):=md_nat (b:=100) (by omega)
 obtain⟨f1,_,f3⟩:=day_tab ⟨wkN (t/86400),hw⟩
 obtain⟨_,g2⟩:=mon_tab ⟨p,hp⟩
 simp only at f1 f3 g2
 have c1:=I_Digits2 hk (n:=d+1) (by omega)
 have c2:=I_Digits2 hk (n:=(1970+n) % 100) (by omega)
 have c3:=I_Digits2 hk (n:=t % 86400/3600) (by omega)
 have c4:=I_Digits2 hk (n:=t % 86400/60 % 60) (by omega)
 have c5:=I_Digits2 hk (n:=t % 86400 % 60) (by omega)
 have c6:=I_FormatInt_eq (k:=k) ((1970+n:Nat):Int) (by omega) (by omega)
 have c7:=I_FormatInt_eq (k:=k) ((d+1:Nat):Int) (by omega) (by omega)
 rw[itoa_year (by omega) (by omega)]at c6
 rw[itoa_small (by omega)]at c7
 have c8:decide (((d+1:Nat):Int)<10)=decide (d+1<10):=by by_cases c:d+1<10<;>simp[c]<;>omega
 rw[I_dateText,I_inRange_eq,Option.bind_some,inR_t (by omega) (by omega),Bool.not_true,cond_false,e1,Option.bind_some,wrap_nat (show t/86400≤9223372036854775807 by omega),I_CivilOf_eq hk h,Option.bind_some,Option.bind_some,wrap_nat (show t/86400≤9223372036854775807 by omega),I_WeekdayOf_nat (k:=k) (t/86400) (by omega),Option.bind_some,e2,Option.bind_some,wrap_nat (show t/3600≤9223372036854775807 by omega),e3,Option.bind_some,c3,Option.bind_some,cat_ok (by simp only[List.length_append,List.length_cons,List.length_nil,l1,l2,d2,d4];omega),Option.bind_some,e4,Option.bind_some,wrap_nat (show t/60≤9223372036854775807 by omega),e5,Option.bind_some,c4,Option.bind_some,cat_ok (by simp only[List.length_append,List.length_cons,List.length_nil,l1,l2,d2,d4];omega),Option.bind_some,cat_ok (by simp only[List.length_append,List.length_cons,List.length_nil,l1,l2,d2,d4];omega),Option.bind_some,e6,Option.bind_some,c5,Option.bind_some,cat_ok (by simp only[List.length_append,List.length_cons,List.length_nil,l1,l2,d2,d4];omega),Option.bind_some,f3,Option.bind_some]
 simp only
 rw[g2,Option.bind_some]
 rw[show((3:Int)==1)=false from rfl,show((3:Int)==2)=false from rfl,cond_false,cond_false,c7,Option.bind_some,I_dateText_c97,c8]
 unfold T3
 by_cases c:d+1<10
 ·rw[decide_eq_true c,cond_true,if_pos c,if_pos c,cat_ok (by simp only[List.length_append,List.length_cons,List.length_nil,l1,l2,d2,d4];omega),Option.bind_some,Option.bind_some,cat_ok (by simp only[List.length_append,List.length_cons,List.length_nil,l1,l2,d2,d4];omega),Option.bind_some,cat_ok (by simp only[List.length_append,List.length_cons,List.length_nil,l1,l2,d2,d4];omega),Option.bind_some,cat_ok (by simp only[List.length_append,List.length_cons,List.length_nil,l1,l2,d2,d4];omega),Option.bind_some,cat_ok (by simp only[List.length_append,List.length_cons,List.length_nil,l1,l2,d2,d4];omega),Option.bind_some,cat_ok (by simp only[List.length_append,List.length_cons,List.length_nil,l1,l2,d2,d4];omega),Option.bind_some,cat_ok (by simp only[List.length_append,List.length_cons,List.length_nil,l1,l2,d2,d4];omega),Option.bind_some,cat_ok (by simp only[List.length_append,List.length_cons,List.length_nil,l1,l2,d2,d4];omega),Option.bind_some,c6,Option.bind_some,cat_ok (by simp only[List.length_append,List.length_cons,List.length_nil,l1,l2,d2,d4];omega),Option.bind_some]
  rfl
 ·rw[decide_eq_false c,cond_false,if_neg c,if_neg c,Option.bind_some,cat_ok (by simp only[List.length_append,List.length_cons,List.length_nil,l1,l2,d2,d4];omega),Option.bind_some,cat_ok (by simp only[List.length_append,List.length_cons,List.length_nil,l1,l2,d2,d4];omega),Option.bind_some,cat_ok (by simp only[List.length_append,List.length_cons,List.length_nil,l1,l2,d2,d4];omega),Option.bind_some,cat_ok (by simp only[List.length_append,List.length_cons,List.length_nil,l1,l2,d2,d4];omega),Option.bind_some,cat_ok (by simp only[List.length_append,List.length_cons,List.length_nil,l1,l2,d2,d4];omega),Option.bind_some,cat_ok (by simp only[List.length_append,List.length_cons,List.length_nil,l1,l2,d2,d4];omega),Option.bind_some,cat_ok (by simp only[List.length_append,List.length_cons,List.length_nil,l1,l2,d2,d4];omega),Option.bind_some,c6,Option.bind_some,cat_ok (by simp only[List.length_append,List.length_cons,List.length_nil,l1,l2,d2,d4];omega),Option.bind_some]
  rfl
theorem I_dateText_out{k:Nat}{t f:Int}(h:¬(0≤t∧t≤4102444799)):I_dateText k t f=some []:=by
 have:inR t 0 4102444799=false:=by
  unfold inR
  by_cases c:0≤t
  ·rw[decide_eq_false (p:=t≤4102444799) (by omega),Bool.and_false]
  ·rw[decide_eq_false c,Bool.false_and]
 rw[I_dateText,I_inRange_eq,Option.bind_some,this];rfl
def isF(f:Nat)(s:List UInt8)(t:Nat):Prop:=t≤4102444799∧∃n p d,IsDay (t/86400) n p d∧((f=1∧s=T1 (wkN (t/86400)) n p d (t % 86400))∨(f=2∧n<100∧s=T2 (wkN (t/86400)) n p d (t % 86400))∨(f=3∧s=T3 (wkN (t/86400)) n p d (t % 86400)))
theorem isF_isD{f:Nat}{s:List UInt8}{t:Nat}(h:isF f s t):isD s t:=by
 obtain⟨h1,n,p,d,h2,h3⟩:=h
 refine⟨h1,n,p,d,h2, ?_⟩
 rcases h3 with⟨_,h3⟩|⟨_,h4,h3⟩|⟨_,h3⟩
 ·exact .inl h3
 ·exact .inr (.inl ⟨h4,h3⟩)
 ·exact .inr (.inr h3)
theorem isD_isF{s:List UInt8}{t:Nat}(h:isD s t):isF 1 s t∨isF 2 s t∨isF 3 s t:=by
 obtain⟨h1,n,p,d,h2,h3⟩:=h
 rcases h3 with h3|⟨h4,h3⟩|h3
 ·exact .inl ⟨h1,n,p,d,h2,.inl ⟨rfl,h3⟩⟩
 ·exact .inr (.inl ⟨h1,n,p,d,h2,.inr (.inl ⟨rfl,h4,h3⟩)⟩)
 ·exact .inr (.inr ⟨h1,n,p,d,h2,.inr (.inr ⟨rfl,h3⟩)⟩)
theorem I_dateText_eq{k:Nat}(hk:1073741824≤k)(t:Int){f:Nat}(hf:f=1∨f=2∨f=3):∃x,I_dateText k t (f:Int)=some x∧(x≠[]→0≤t∧isF f x t.toNat)∧∀s u,isF f s u→t=(u:Int)→x=s:=by
 by_cases c:0≤t∧t≤4102444799
 ·obtain⟨u,rfl⟩:∃u:Nat,t=(u:Int):=⟨t.toNat,by omega⟩
  obtain⟨n,p,d,hd⟩:=isDay_ex (day:=u/86400) (by omega)
  have uniq:∀{v n' p' d':Nat},(u:Int)=(v:Int)→IsDay (v/86400) n' p' d'→u=v∧n=n'∧p=p'∧d=d':=by
   intro v n' p' d' hv h'
   have hv:u=v:=by omega
   subst hv
   have:=hd.nu h'
   subst this
   have:=hd.pu h'
   exact⟨rfl,rfl,this.1,this.2⟩
  rcases hf with rfl|rfl|rfl
  ·refine⟨_,I_dateText_1 hk (by omega) hd,fun _=>⟨by omega,by omega,n,p,d,hd,.inl ⟨rfl,rfl⟩⟩,fun s v ⟨_,n',p',d',h1,h2⟩ hv=> ?_⟩
   obtain⟨rfl,rfl,rfl,rfl⟩:=uniq hv h1
   rcases h2 with⟨_,h2⟩|⟨h3,_⟩|⟨h3,_⟩
   ·exact h2.symm
   ·cases h3
   ·cases h3
  ·refine⟨_,I_dateText_2 hk (by omega) hd,fun hx=> ?_,fun s v ⟨_,n',p',d',h1,h2⟩ hv=> ?_⟩
   ·by_cases c2:n<100
    ·rw[if_pos c2]
     exact⟨by omega,by omega,n,p,d,hd,.inr (.inl ⟨rfl,c2,rfl⟩)⟩
    ·rw[if_neg c2]at hx;exact absurd rfl hx
   ·obtain⟨rfl,rfl,rfl,rfl⟩:=uniq hv h1
    rcases h2 with⟨h3,_⟩|⟨_,h4,h2⟩|⟨h3,_⟩
    ·cases h3
    ·rw[if_pos h4];exact h2.symm
    ·cases h3
  ·refine⟨_,I_dateText_3 hk (by omega) hd,fun _=>⟨by omega,by omega,n,p,d,hd,.inr (.inr ⟨rfl,rfl⟩)⟩,fun s v ⟨_,n',p',d',h1,h2⟩ hv=> ?_⟩
   obtain⟨rfl,rfl,rfl,rfl⟩:=uniq hv h1
   rcases h2 with⟨h3,_⟩|⟨h3,_⟩|⟨_,h2⟩
   ·cases h3
   ·cases h3
   ·exact h2.symm
 ·refine⟨[],I_dateText_out c,fun hx=>absurd rfl hx,fun s u hu ht=> ?_⟩
  have:=hu.1
  omega
theorem I_digitsIn_eq{k:Nat}(q:List UInt8)(h:q.length≤1000):I_digitsIn k q=some (digI q):=by
 have hl:(Lib.trimLeftB q 32).length≤q.length:=by unfold Lib.trimLeftB;exact(List.dropWhile_suffix _).length_le
 have e:strings_TrimLeft k q [32]=some (Lib.trimLeftB q 32):=rfl
 rw[I_digitsIn,e,Option.bind_some,strconv_Atoi,atoiO,decide_eq_true (by omega),cond_true]
 unfold digI
 cases Lib.atoiAll (Lib.trimLeftB q 32)<;>rfl
def mI(q:List UInt8):Int:=IntKind.wrap .i64 (IntKind.wrap .i64 ((Lib.index monAll q).tdiv 3)+1)
theorem mI_t:∀p:Fin 12,mI (mon3 p.val)=(p.val+1:Nat):=by decide+kernel
def secI(c:List UInt8)(day:Int):Int:=IntKind.wrap .i64 ((IntKind.wrap .i64 ((IntKind.wrap .i64 ((IntKind.wrap .i64 (day*(86400:Int)))+(IntKind.wrap .i64 (digI (c.take 2)*(3600:Int)))))+(IntKind.wrap .i64 (digI ((c.take 5).drop 3)*(60:Int)))))+digI ((c.take 8).drop 6))
def timeI(y:Int)(q:List UInt8)(d:Int)(c:List UInt8):Int×Bool:=bif decide (daysI y (mI q) d<0)then(0,false)else(secI c (daysI y (mI q) d),true)
theorem I_timeOf_eq{k:Nat}(hk:1073741824≤k)(y d:Int)(q c:List UInt8)(h:c.length=8):I_timeOf k y q d c=some (timeI y q d c):=by
 have e:strings_Index k ([74,97,110,70,101,98,77,97,114,65,112,114,77,97,121,74,117,110,74,117,108,65,117,103,83,101,112,79,99,116,78,111,118,68,101,99]:List UInt8) q=some (Lib.index monAll q):=rfl
 have e2:dv (Lib.index monAll q) 3=some ((Lib.index monAll q).tdiv 3):=rfl
 have s1:ssub c 0 2=some (c.take 2):=by rw[ssub_ok (by omega) (by omega) (by omega)];rfl
 have s2:ssub c 3 5=some ((c.take 5).drop 3):=by rw[ssub_ok (by omega) (by omega) (by omega)];rfl
 have s3:ssub c 6 8=some ((c.take 8).drop 6):=by rw[ssub_ok (by omega) (by omega) (by omega)];rfl
 have em:IntKind.wrap .i64 ((IntKind.wrap .i64 ((Lib.index monAll q).tdiv 3))+1)=mI q:=rfl
 rw[I_timeOf,e,Option.bind_some,e2,Option.bind_some,em,I_DaysOf_eq hk,Option.bind_some]
 unfold timeI
 cases hd:decide (daysI y (mI q) d<0)with
 |true=>rfl
 |false=>rw[cond_false,s1,Option.bind_some,I_digitsIn_eq _ (by simp;omega),Option.bind_some,s2,Option.bind_some,I_digitsIn_eq _ (by simp;omega),Option.bind_some,s3,Option.bind_some,I_digitsIn_eq _ (by simp;omega),Option.bind_some];rfl
theorem secI_of{c:List UInt8}{r day:Nat}(hr:r<86400)(hd:day≤47481)(hc:c=clkT r):secI c (day:Int)=((86400*day+r:Nat):Int):=by
 have z1:=digI_t2 ⟨r/3600,by omega⟩
 have z2:=digI_t2 ⟨r/60 % 60,by omega⟩
 have z3:=digI_t2 ⟨r % 60,by omega⟩
 simp only at z1 z2 z3
 have q1:c.take 2=d2 (r/3600):=by rw[hc];rfl
 have q2:(c.take 5).drop 3=d2 (r/60 % 60):=by rw[hc];rfl
 have q3:(c.take 8).drop 6=d2 (r % 60):=by rw[hc];rfl
 unfold secI
 rw[q1,q2,q3,z1,z2,z3,wrap_id (n:=(day:Int)*86400) (by omega) (by omega),wrap_id (n:=((r/3600:Nat):Int)*3600) (by omega) (by omega),wrap_id (n:=((r/60 % 60:Nat):Int)*60) (by omega) (by omega),wrap_id (n:=(day:Int)*86400+((r/3600:Nat):Int)*3600) (by omega) (by omega),wrap_id (n:=(day:Int)*86400+((r/3600:Nat):Int)*3600+((r/60 % 60:Nat):Int)*60) (by omega) (by omega),wrap_id (by omega) (by omega)]
 omega
theorem timeI_of{q c:List UInt8}{y d:Int}{r day n p e:Nat}(h:IsDay day n p e)(hr:r<86400)(hy:y=(1970+n:Nat))(hd:d=(e+1:Nat))(hq:q=mon3 p)(hc:c=clkT r):timeI y q d c=(((86400*day+r:Nat):Int),true):=by
 have hm:=mI_t ⟨p,h.hp⟩
 simp only at hm
 have hl:=h.le
 unfold timeI
 rw[hq,hm,hy,hd,daysI_of h,decide_eq_false (by omega),cond_false,secI_of hr hl hc]
def in1(s:List UInt8):Int×Bool:=if s.length=29 then timeI (digI ((s.take 16).drop 12)) ((s.take 11).drop 8) (digI ((s.take 7).drop 5)) ((s.take 25).drop 17)else(0,false)
def in3(s:List UInt8):Int×Bool:=if s.length=24 then timeI (digI ((s.take 24).drop 20)) ((s.take 7).drop 4) (digI ((s.take 10).drop 8)) ((s.take 19).drop 11)else(0,false)
def y2I(n:Int):Int:=if n<70 then IntKind.wrap .i64 (n+100)else n
def in2(s:List UInt8):Int×Bool:=bif !(Lib.cut s [44]).2.2||((Lib.cut s [44]).2.1.length:Int) !=23||decide (((Lib.cut s [44]).1.length:Int)<6)then(0,false)else
 timeI (IntKind.wrap .i64 (1900+y2I (digI (((Lib.cut s [44]).2.1.take 10).drop 8)))) (((Lib.cut s [44]).2.1.take 7).drop 4) (digI (((Lib.cut s [44]).2.1.take 3).drop 1)) (((Lib.cut s [44]).2.1.take 19).drop 11)
theorem ssub_n{s:List UInt8}(a b:Nat)(h1:a≤b)(h2:b≤s.length):ssub s (a:Int) (b:Int)=some ((s.take b).drop a):=by rw[ssub_ok (by omega) (by omega) (by omega)];rfl
theorem I_dateIn_1{k:Nat}(hk:1073741824≤k)(s:List UInt8):I_dateIn k s 1=some (in1 s):=by
 rw[I_dateIn,show((1:Int)==2)=false from rfl,show((1:Int)==1)=true from rfl,show((1:Int)==3)=false from rfl,cond_false,cond_true]
 unfold in1
 by_cases h:s.length=29
 ·have s1:ssub s 12 16=some ((s.take 16).drop 12):=ssub_n 12 16 (by omega) (by omega)
  have s2:ssub s 8 11=some ((s.take 11).drop 8):=ssub_n 8 11 (by omega) (by omega)
  have s3:ssub s 5 7=some ((s.take 7).drop 5):=ssub_n 5 7 (by omega) (by omega)
  have s4:ssub s 17 25=some ((s.take 25).drop 17):=ssub_n 17 25 (by omega) (by omega)
  rw[beq_iff_eq.2 (by omega:(s.length:Int)=29),cond_true,if_pos h,s1,Option.bind_some,I_digitsIn_eq _ (by simp;omega),Option.bind_some,s2,Option.bind_some,s3,Option.bind_some,I_digitsIn_eq _ (by simp;omega),Option.bind_some,s4,Option.bind_some,I_timeOf_eq hk _ _ _ _ (by simp;omega),Option.bind_some]
 ·rw[beq_ne (by omega:¬(s.length:Int)=29),cond_false,if_neg h];rfl
theorem I_dateIn_3{k:Nat}(hk:1073741824≤k)(s:List UInt8):I_dateIn k s 3=some (in3 s):=by
 rw[I_dateIn,show((3:Int)==2)=false from rfl,show((3:Int)==1)=false from rfl,show((3:Int)==3)=true from rfl,cond_false,cond_false,cond_true]
 unfold in3
 by_cases h:s.length=24
 ·have s1:ssub s 20 24=some ((s.take 24).drop 20):=ssub_n 20 24 (by omega) (by omega)
  have s2:ssub s 4 7=some ((s.take 7).drop 4):=ssub_n 4 7 (by omega) (by omega)
  have s3:ssub s 8 10=some ((s.take 10).drop 8):=ssub_n 8 10 (by omega) (by omega)
  have s4:ssub s 11 19=some ((s.take 19).drop 11):=ssub_n 11 19 (by omega) (by omega)
  rw[beq_iff_eq.2 (by omega:(s.length:Int)=24),cond_true,if_pos h,s1,Option.bind_some,I_digitsIn_eq _ (by simp;omega),Option.bind_some,s2,Option.bind_some,s3,Option.bind_some,I_digitsIn_eq _ (by simp;omega),Option.bind_some,s4,Option.bind_some,I_timeOf_eq hk _ _ _ _ (by simp;omega),Option.bind_some]
 ·rw[beq_ne (by omega:¬(s.length:Int)=24),cond_false,if_neg h]
theorem I_dateIn_2{k:Nat}(hk:1073741824≤k)(s:List UInt8)(hs:s.length<1073741824):I_dateIn k s 2=some (in2 s):=by
 have e:strings_Cut k s [44]=some (Lib.cut s [44]):=by
  show(bif decide (s.length<4294967281)then some (Lib.cut s [44])else none)=_
  rw[decide_eq_true (by omega)];rfl
 rw[I_dateIn,show((2:Int)==2)=true from rfl,cond_true,e,Option.bind_some]
 unfold in2
 generalize Lib.cut s [44]=w
 obtain⟨day,rest,found⟩:=w
 simp only
 cases found with
 |false=>rfl
 |true=>
  rw[Bool.not_true,cond_false,Bool.false_or]
  by_cases h:rest.length=23
  ·have hb:((rest.length:Int) !=23)=false:=by rw[show(rest.length:Int)=23 by omega];rfl
   rw[hb,cond_false,Bool.false_or]
   cases decide ((day.length:Int)<6)with
   |true=>rfl
   |false=>
    have s1:ssub rest 8 10=some ((rest.take 10).drop 8):=ssub_n 8 10 (by omega) (by omega)
    have s2:ssub rest 4 7=some ((rest.take 7).drop 4):=ssub_n 4 7 (by omega) (by omega)
    have s3:ssub rest 1 3=some ((rest.take 3).drop 1):=ssub_n 1 3 (by omega) (by omega)
    have s4:ssub rest 11 19=some ((rest.take 19).drop 11):=ssub_n 11 19 (by omega) (by omega)
    have e3:I_dateIn_c34 k rest (digI ((rest.take 10).drop 8)) (decide (digI ((rest.take 10).drop 8)<70))=some (y2I (digI ((rest.take 10).drop 8))):=by
     rw[I_dateIn_c34,bif_dec];unfold y2I;split<;>rfl
    rw[cond_false,cond_false,s1,Option.bind_some,I_digitsIn_eq _ (by simp;omega),Option.bind_some,e3,Option.bind_some,s2,Option.bind_some,s3,Option.bind_some,I_digitsIn_eq _ (by simp;omega),Option.bind_some,s4,Option.bind_some,I_timeOf_eq hk _ _ _ _ (by simp;omega),Option.bind_some]
  ·have hb:((rest.length:Int) !=23)=true:=bne_ne (by omega)
   rw[hb,cond_true,Bool.true_or,cond_true]
theorem in1_of{w n p d r day:Nat}(hw:w<7)(h:IsDay day n p d)(hr:r<86400):in1 (T1 w n p d r)=(((86400*day+r:Nat):Int),true):=by
 have hd:=h.hd
 have hm:=mdN_pos (1970+n) (p+1)
 have t4:=digI_t4 ⟨n,h.hn⟩
 have t2:=digI_t2 ⟨d+1,by omega⟩
 simp only at t4 t2
 obtain⟨a,b,c,q,e,_⟩:=dF3 hw
 obtain⟨x,y,z,e2⟩:=mon3e h.hp
 have hl:(T1 w n p d r).length=29:=T1_len hw h.hp
 have q1:((T1 w n p d r).take 16).drop 12=d4 (1970+n):=by unfold T1;rw[e,e2];rfl
 have q2:((T1 w n p d r).take 11).drop 8=mon3 p:=by unfold T1;rw[e,e2];rfl
 have q3:((T1 w n p d r).take 7).drop 5=d2 (d+1):=by unfold T1;rw[e,e2];rfl
 have q4:((T1 w n p d r).take 25).drop 17=clkT r:=by unfold T1;rw[e,e2];rfl
 unfold in1
 rw[if_pos hl,q1,q2,q3,q4]
 exact timeI_of h hr t4 t2 rfl rfl
theorem in3_of{w n p d r day:Nat}(hw:w<7)(h:IsDay day n p d)(hr:r<86400):in3 (T3 w n p d r)=(((86400*day+r:Nat):Int),true):=by
 have hd:=h.hd
 have hm:=mdN_pos (1970+n) (p+1)
 have t4:=digI_t4 ⟨n,h.hn⟩
 have t3:=digI_t3 ⟨d,by omega⟩
 simp only at t4 t3
 obtain⟨a,b,c,q,e,_⟩:=dF3 hw
 obtain⟨x,y,z,e2⟩:=mon3e h.hp
 obtain⟨u,v,e3⟩:=dayT_e d
 rw[e3]at t3
 have hl:(T3 w n p d r).length=24:=T3_len hw h.hp
 have q1:((T3 w n p d r).take 24).drop 20=d4 (1970+n):=by unfold T3;rw[e,e2,e3];rfl
 have q2:((T3 w n p d r).take 7).drop 4=mon3 p:=by unfold T3;rw[e,e2,e3];rfl
 have q3:((T3 w n p d r).take 10).drop 8=[u,v]:=by unfold T3;rw[e,e2,e3];rfl
 have q4:((T3 w n p d r).take 19).drop 11=clkT r:=by unfold T3;rw[e,e2,e3];rfl
 unfold in3
 rw[if_pos hl,q1,q2,q3,q4]
 exact timeI_of h hr t4 t3 rfl rfl
def R2(n p d r:Nat):List UInt8:=[32]++d2 (d+1)++[45]++mon3 p++[45]++d2 ((1970+n) % 100)++[32]++clkT r++[32,71,77,84]
theorem T2_R2(w n p d r:Nat):T2 w n p d r=dFull w++44::R2 n p d r:=by unfold T2 R2;simp
theorem cut_skip{a c:UInt8}(l:List UInt8)(h:(c==a)=false):Lib.cut (a::l) [c]=(bif(Lib.cut l [c]).2.2 then(a::(Lib.cut l [c]).1,(Lib.cut l [c]).2.1,true)else(a::l,[],false)):=by
 have hi:Lib.index (a::l) [c]=if Lib.index l [c]== -1 then -1 else Lib.index l [c]+1:=by
  rw[Lib.index]
  have:List.isPrefixOf [c] (a::l)=false:=by simp[List.isPrefixOf,h]
  rw[this];rfl
 have hg:=Lib.index_ge l [c]
 unfold Lib.cut
 rw[hi]
 by_cases hm:Lib.index l [c]= -1
 ·rw[hm];rfl
 ·rw[beq_ne hm]
  simp only[Bool.false_eq_true,if_false]
  rw[if_pos (by omega),if_pos (by omega),show(Lib.index l [c]+1).toNat=(Lib.index l [c]).toNat+1 by omega]
  simp only[cond_true,List.take_succ_cons]
  rw[show(Lib.index l [c]).toNat+1+[c].length=((Lib.index l [c]).toNat+[c].length)+1 by omega,List.drop_succ_cons]
theorem cut_here{c:UInt8}(l:List UInt8):Lib.cut (c::l) [c]=([],l,true):=by
 have hi:Lib.index (c::l) [c]=0:=by rw[Lib.index];simp[List.isPrefixOf]
 unfold Lib.cut
 rw[hi];rfl
theorem cut_first{c:UInt8}:∀(x y:List UInt8),x.all (fun a=> !(c==a))=true→Lib.cut (x++c::y) [c]=(x,y,true)
 |[],y,_=>cut_here y
 |a::x,y,h=>by
  rw[List.all_cons,Bool.and_eq_true,Bool.not_eq_true']at h
  rw[List.cons_append,cut_skip _ h.1,cut_first x y h.2];rfl
theorem dF_nc:∀w:Fin 7,(dFull w.val).all (fun a=> !((44:UInt8)==a))=true:=by decide+kernel
theorem in2_of{w n p d r day:Nat}(hw:w<7)(h:IsDay day n p d)(hr:r<86400)(h100:n<100):in2 (T2 w n p d r)=(((86400*day+r:Nat):Int),true):=by
 have hd:=h.hd
 have hm:=mdN_pos (1970+n) (p+1)
 have t4:=digI_t2 ⟨(1970+n) % 100,by omega⟩
 have t2:=digI_t2 ⟨d+1,by omega⟩
 simp only at t4 t2
 obtain⟨a,b,c,q,e,hq,_⟩:=dF3 hw
 obtain⟨x,y,z,e2⟩:=mon3e h.hp
 have hc:Lib.cut (T2 w n p d r) [44]=(dFull w,R2 n p d r,true):=by rw[T2_R2];exact cut_first _ _ (dF_nc ⟨w,hw⟩)
 have hl:(R2 n p d r).length=23:=by unfold R2;rw[e2];rfl
 have hf:6≤(dFull w).length:=by rw[e];simp;omega
 have q1:((R2 n p d r).take 10).drop 8=d2 ((1970+n) % 100):=by unfold R2;rw[e2];rfl
 have q2:((R2 n p d r).take 7).drop 4=mon3 p:=by unfold R2;rw[e2];rfl
 have q3:((R2 n p d r).take 3).drop 1=d2 (d+1):=by unfold R2;rw[e2];rfl
 have q4:((R2 n p d r).take 19).drop 11=clkT r:=by unfold R2;rw[e2];rfl
 have hb:(((R2 n p d r).length:Int) !=23)=false:=by rw[hl];rfl
 unfold in2
 rw[hc]
 simp only
 rw[hb,decide_eq_false (by omega),Bool.not_true,Bool.false_or,Bool.false_or,cond_false,q1,q2,q3,q4,t4]
 refine timeI_of h hr ?_ t2 rfl rfl
 unfold y2I
 split
 ·rw[wrap_id (n:=(((1970+n) % 100:Nat):Int)+100) (by omega) (by omega),wrap_id (by omega) (by omega)];omega
 ·rw[wrap_id (by omega) (by omega)];omega
theorem in_ne{s:List UInt8}:(in1 s).2=true∨(in2 s).2=true∨(in3 s).2=true→s≠[]:=by
 intro h hs
 subst hs
 rcases h with h|h|h
 ·cases h
 ·cases h
 ·cases h
theorem pDate_cast{s:List UInt8}(hc:∀t u,isD s t→isD s u→t=u){t:Nat}(h:isD s t):pDate s=((t:Int),true):=by
 have hx:∃t,isD s t:=⟨t,h⟩
 unfold pDate
 rw[dif_pos hx,hc _ _ (Classical.choose_spec hx) h]
def inF(f:Nat)(s:List UInt8):Int×Bool:=if f=1 then in1 s else if f=2 then in2 s else in3 s
theorem inF_of{f:Nat}{s:List UInt8}{t:Nat}(h:isF f s t):inF f s=((t:Int),true):=by
 obtain⟨h1,n,p,d,h2,h3⟩:=h
 have hw:=wkN_lt (t/86400)
 have hr:t % 86400<86400:=Nat.mod_lt _ (by omega)
 have e:86400*(t/86400)+t % 86400=t:=Nat.div_add_mod t 86400
 rcases h3 with⟨rfl,rfl⟩|⟨rfl,h4,rfl⟩|⟨rfl,rfl⟩
 ·unfold inF
  rw[if_pos rfl,in1_of hw h2 hr,e]
 ·unfold inF
  rw[if_neg (by omega),if_pos rfl,in2_of hw h2 hr h4,e]
 ·unfold inF
  rw[if_neg (by omega),if_neg (by omega),in3_of hw h2 hr,e]
theorem isF_len{f:Nat}{s:List UInt8}{t:Nat}(h:isF f s t):(f=1∧s.length=29)∨(f=2∧30≤s.length∧s.length≤33)∨(f=3∧s.length=24):=by
 obtain⟨h1,n,p,d,h2,h3⟩:=h
 have hw:=wkN_lt (t/86400)
 rcases h3 with⟨rfl,rfl⟩|⟨rfl,h4,rfl⟩|⟨rfl,rfl⟩
 ·exact .inl ⟨rfl,T1_len hw h2.hp⟩
 ·exact .inr (.inl ⟨rfl,T2_len hw h2.hp⟩)
 ·exact .inr (.inr ⟨rfl,T3_len hw h2.hp⟩)
theorem isD_form{s:List UInt8}{t:Nat}(h:isD s t):∃f,isF f s t:=by
 rcases isD_isF h with h|h|h<;>exact⟨_,h⟩
theorem isD_uniq{s:List UInt8}(t u:Nat)(ht:isD s t)(hu:isD s u):t=u:=by
 obtain⟨f,hf⟩:=isD_form ht
 obtain⟨g,hg⟩:=isD_form hu
 have l1:=isF_len hf
 have l2:=isF_len hg
 have:f=g:=by omega
 subst this
 have e1:=inF_of hf
 rw[inF_of hg]at e1
 have:=congrArg Prod.fst e1
 simp only at this
 omega
theorem pDate_yes{s:List UInt8}{t:Nat}(h:isD s t):pDate s=((t:Int),true):=pDate_cast isD_uniq h
theorem I_dateIn_all{k:Nat}(hk:1073741824≤k)(s:List UInt8)(hs:s.length<1073741824){f:Nat}(hf:f=1∨f=2∨f=3):I_dateIn k s (f:Int)=some (inF f s):=by
 rcases hf with rfl|rfl|rfl
 ·exact I_dateIn_1 hk s
 ·exact I_dateIn_2 hk s hs
 ·exact I_dateIn_3 hk s
theorem inF_ne{f:Nat}{s:List UInt8}(hf:f=1∨f=2∨f=3)(h:(inF f s).2=true):s≠[]:=by
 rcases hf with rfl|rfl|rfl
 ·exact in_ne (.inl h)
 ·exact in_ne (.inr (.inl h))
 ·exact in_ne (.inr (.inr h))
theorem I_round{k:Nat}(hk:1073741824≤k)(s:List UInt8)(hs:s.length<1073741824){f:Nat}(hf:f=1∨f=2∨f=3)(n:Nat):
 (∃t,isF f s t∧I_ParseDate_b0 k (n+1) s (f:Int)=some (.oth ((t:Int),true)))∨((¬∃t,isF f s t)∧I_ParseDate_b0 k (n+1) s (f:Int)=I_ParseDate_b0 k n s ((f+1:Nat):Int)):=by
 rw[I_ParseDate_b0,bif_dec,if_pos (by omega),I_dateIn_all hk s hs hf,Option.bind_some,wrap_succ (by omega)]
 cases h:(inF f s).2 with
 |false=>
  refine .inr ⟨fun⟨t,ht⟩=> ?_,rfl⟩
  rw[inF_of ht]at h;cases h
 |true=>
  obtain⟨x,hx,h1,h2⟩:=I_dateText_eq hk (inF f s).1 hf
  rw[cond_true,hx,Option.bind_some]
  cases he:(x==s)with
  |true=>
   have he:x=s:=by simpa using he
   obtain⟨g1,g2⟩:=h1 (by rw[he];exact inF_ne hf h)
   refine .inl ⟨_,he▸g2, ?_⟩
   rw[cond_true,Int.toNat_of_nonneg g1]
  |false=>
   refine .inr ⟨fun⟨t,ht⟩=> ?_,rfl⟩
   have:=h2 s t ht (by rw[inF_of ht])
   rw[this]at he
   simp at he
theorem I_ParseDate_eq{k:Nat}(hk:1073741824≤k)(s:List UInt8)(hs:s.length<1073741824):I_ParseDate k s=some (pDate s):=by
 obtain⟨k',e⟩:∃k',k=k'+1+1+1+1:=⟨k -4,by omega⟩
 have main:(I_ParseDate_b0 k (k'+1+1+1+1) s ((1:Nat):Int)).bind (fun o3=>oc o3 (fun o4=>some ((0:Int),false)) (fun o5=>some o5))=some (pDate s):=by
  rcases I_round hk s hs (f:=1) (by omega) (k'+1+1+1)with⟨t,h1,h2⟩|⟨n1,h2⟩
  ·rw[h2,pDate_yes (isF_isD h1)];rfl
  ·rw[h2]
   rcases I_round hk s hs (f:=1+1) (by omega) (k'+1+1)with⟨t,h1,h2⟩|⟨n2,h2⟩
   ·rw[h2,pDate_yes (isF_isD h1)];rfl
   ·rw[h2]
    rcases I_round hk s hs (f:=1+1+1) (by omega) (k'+1)with⟨t,h1,h2⟩|⟨n3,h2⟩
    ·rw[h2,pDate_yes (isF_isD h1)];rfl
    ·rw[h2,I_ParseDate_b0,bif_dec,if_neg (by omega),pDate_no]
     ·rfl
     ·rintro⟨t,ht⟩
      rcases isD_isF ht with h|h|h
      ·exact n1 ⟨t,h⟩
      ·exact n2 ⟨t,h⟩
      ·exact n3 ⟨t,h⟩
 rw[I_ParseDate]
 rw[←e]at main
 exact main
def nmP(l:List IField)(n:List UInt8)(i:Nat):Bool:=match l[i]? with|some e=>e.Name==n|none=>false
def hasF(l:List IField)(n:List UInt8):Bool:=l.any fun e=>e.Name==n
theorem getF_has(n:List UInt8):∀l:List IField,decide (((valsF l n).length:Int)>0)=hasF l n
 |[]=>rfl
 |e::l=>by
  have ih:=getF_has n l
  unfold valsF hasF at ih ⊢
  rw[List.flatMap_cons,List.any_cons,List.length_append]
  unfold valOfF at ih ⊢
  cases (e.Name==n)with
  |true=>simp only[cond_true,Bool.true_or,List.length_cons,List.length_nil];exact decide_eq_true (by omega)
  |false=>simp only[cond_false,Bool.false_or,List.length_nil,Nat.zero_add];exact ih
def dateF(fs:List IField)(n:List UInt8):Int×Bool:=pDate (getF fs n).1
theorem getF_short{fs:List IField}(n:List UInt8)(h:fsz fs<268435456):(getF fs n).1.length<1073741824:=by have:=getF_len fs n;omega
theorem I_dateField_eq{k:Nat}(hk:1073741824≤k)(x:IResponse)(n:List UInt8)(h:fsz x.Fields<268435456):I_dateField k x n=some (dateF x.Fields n):=by
 rw[I_dateField,I_GetField_eq hk _ _ h,Option.bind_some,I_ParseDate_eq hk _ (getF_short n h),Option.bind_some];rfl
def tagB(c:UInt8):Bool:=inR (c.toNat:Int) 33 126&& !(c==34)
def isTagT(x:List UInt8):Bool:=x.all tagB&&decide ((x.length:Int)≤40)
theorem u8_34(c:UInt8):((c.toNat:Int)==34)=(c==34):=u8_eq c 34
theorem S_IsTag_loop{k:Nat}{w:Bool}{x:List UInt8}(hx:x.length<1073741824):∀(n i:Nat),i≤x.length→x.length -i<n→S_IsTag_b0 k n (i:Int) w x=some (if(x.drop i).all tagB then .nrm ()else .oth false):=by
 intro n
 induction n with
 |zero=>intro i _ h;omega
 |succ n ih=>
  intro i hi hn
  rw[S_IsTag_b0,bif_dec]
  by_cases c:i<x.length
  ·have hb:=UInt8.toNat_lt x[i]
   rw[if_pos (by omega),idx_nat c,Option.bind_some,wrap_id (by omega) (by omega),S_l1In_eq,Option.bind_some,Option.bind_some,u8_34,wrap_succ (by omega),ih (i+1) (by omega) (by omega),List.drop_eq_getElem_cons c,List.all_cons]
   unfold tagB
   cases inR (x[i].toNat:Int) 33 126<;>cases (x[i]==34)<;>rfl
  ·rw[if_neg (by omega),List.drop_of_length_le (by omega)];rfl
theorem I_IsTag_loop{k:Nat}{w:Bool}{x:List UInt8}(hx:x.length<1073741824):∀(n i:Nat),i≤x.length→x.length -i<n→I_IsTag_b0 k n (x.length:Int) (i:Int) w x=some (if(x.drop i).all tagB then .nrm ()else .oth false):=by
 intro n
 induction n with
 |zero=>intro i _ h;omega
 |succ n ih=>
  intro i hi hn
  rw[I_IsTag_b0,bif_dec]
  by_cases c:i<x.length
  ·have hb:=UInt8.toNat_lt x[i]
   rw[if_pos (by omega),idx_nat c,Option.bind_some,wrap_id (by omega) (by omega),I_inRange_eq,Option.bind_some,Option.bind_some,u8_34,wrap_succ (by omega),ih (i+1) (by omega) (by omega),List.drop_eq_getElem_cons c,List.all_cons]
   unfold tagB
   cases inR (x[i].toNat:Int) 33 126<;>cases (x[i]==34)<;>rfl
  ·rw[if_neg (by omega),List.drop_of_length_le (by omega)];rfl
theorem S_IsTag_eq{k:Nat}(hk:1073741824≤k)(t:ITag)(hx:t.Text.length<1073741824):S_IsTag k t=some (isTagT t.Text):=by
 have:S_IsTag_b0 k k 0 t.Weak t.Text=some (if(t.Text.drop 0).all tagB then .nrm ()else .oth false):=S_IsTag_loop hx k 0 (by omega) (by omega)
 rw[S_IsTag,this,Option.bind_some,List.drop_zero]
 unfold isTagT
 cases t.Text.all tagB<;>rfl
theorem I_IsTag_eq{k:Nat}(hk:1073741824≤k)(t:ITag)(hx:t.Text.length<1073741824):I_IsTag k t=some (isTagT t.Text):=by
 have:I_IsTag_b0 k k (t.Text.length:Int) 0 t.Weak t.Text=some (if(t.Text.drop 0).all tagB then .nrm ()else .oth false):=I_IsTag_loop hx k 0 (by omega) (by omega)
 rw[I_IsTag,this,Option.bind_some,List.drop_zero]
 unfold isTagT
 cases t.Text.all tagB<;>rfl
def fmtTag(t:ITag):List UInt8:=bif isTagT t.Text then(bif t.Weak then [87,47,34]++t.Text++[34]else [34]++t.Text++[34])else []
theorem I_FormatTag_eq{k:Nat}(hk:1073741824≤k)(t:ITag)(hx:t.Text.length<1073741824):I_FormatTag k t=some (fmtTag t):=by
 rw[I_FormatTag,I_IsTag_eq hk t hx,Option.bind_some,cat_ok (by simp;omega),Option.bind_some,cat_ok (by simp;omega),Option.bind_some,cat_ok (by simp;omega),Option.bind_some,cat_ok (by simp;omega),Option.bind_some]
 unfold fmtTag
 cases isTagT t.Text<;>cases t.Weak<;>rfl
theorem S_FormatTag_eq{k:Nat}(hk:1073741824≤k)(t:ITag)(hx:t.Text.length<1073741824):S_FormatTag k t=some (fmtTag t):=by
 rw[S_FormatTag,S_IsTag_eq hk t hx,Option.bind_some,cat_ok (by simp;omega),Option.bind_some,cat_ok (by simp;omega),Option.bind_some,cat_ok (by simp;omega),Option.bind_some,cat_ok (by simp;omega),Option.bind_some]
 unfold fmtTag
 cases isTagT t.Text<;>cases t.Weak<;>rfl
def midQ(r:List UInt8):List UInt8:=(r.take (r.length -1)).drop 1
def okQ(r:List UInt8):Bool:=decide (2≤r.length)&&(r[0]? ==some 34)&&(r[r.length -1]? ==some 34)&&isTagT (midQ r)
def tagQ(w:Bool)(r:List UInt8):ITag×Bool:=bif okQ r then(⟨w,midQ r⟩,true)else(⟨false,[]⟩,false)
def preW(s:List UInt8):Bool:=decide (2≤s.length)&&(s.take 2==[87,47])
def pTag(s:List UInt8):ITag×Bool:=bif preW s then tagQ true (s.drop 2)else tagQ false s
theorem dropWhile_all_ne{m:List UInt8}{r:List UInt8}(h:m.all (fun c=> !(c==34))=true)(hm:m≠[]):(m++r).dropWhile (fun b=>([34]:List UInt8).contains b)=m++r:=by
 cases m with
 |nil=>exact absurd rfl hm
 |cons a m=>
  rw[List.all_cons,Bool.and_eq_true,Bool.not_eq_true']at h
  have:([34]:List UInt8).contains a=false:=by simp only[List.contains,List.elem];rw[h.1]
  rw[List.cons_append,List.dropWhile_cons,this];rfl
theorem trim_q{m:List UInt8}(h:m.all (fun c=> !(c==34))=true):Lib.trimS (34::(m++[34])) [34]=m:=by
 have c34:([34]:List UInt8).contains (34:UInt8)=true:=rfl
 unfold Lib.trimS Lib.trimLeftS Lib.trimRightS
 have e:(34::(m++[34])).reverse=34::(m.reverse++[34]):=by simp
 rw[e,List.dropWhile_cons,c34,if_pos rfl]
 by_cases hm:m=[]
 ·subst hm;rfl
 ·have hr:m.reverse.all (fun c=> !(c==34))=true:=by rw[List.all_reverse];exact h
  rw[dropWhile_all_ne hr (by simpa using hm)]
  have e2:(m.reverse++[34]).reverse=34::m:=by simp
  rw[e2,List.dropWhile_cons,c34,if_pos rfl]
  have:=dropWhile_all_ne (r:=[]) h hm
  rw[List.append_nil]at this
  exact this
theorem tagB_ne{m:List UInt8}(h:m.all tagB=true):m.all (fun c=> !(c==34))=true:=by
 rw[List.all_eq_true]at h ⊢
 intro x hx
 have:=h x hx
 unfold tagB at this
 rw[Bool.and_eq_true]at this
 exact this.2
theorem okQ_iff(r:List UInt8):okQ r=true↔∃m,isTagT m=true∧r=34::(m++[34]):=by
 constructor
 ·intro h
  unfold okQ at h
  rw[Bool.and_eq_true,Bool.and_eq_true,Bool.and_eq_true,decide_eq_true_eq,beq_iff_eq,beq_iff_eq]at h
  obtain⟨⟨⟨h1,h2⟩,h3⟩,h4⟩:=h
  refine⟨midQ r,h4, ?_⟩
  unfold midQ
  cases r with
  |nil=>simp at h1
  |cons a r=>
   simp only[List.getElem?_cons_zero,Option.some.injEq]at h2
   subst h2
   have hr:r≠[]:=by intro e;subst e;simp at h1
   obtain⟨l,b,rfl⟩:∃l b,r=l++[b]:=⟨r.dropLast,r.getLast hr,(List.dropLast_concat_getLast hr).symm⟩
   have hb:b=34:=by
    have e:(34::(l++[b])).length -1=l.length+1:=by simp
    rw[e,List.getElem?_cons_succ,List.getElem?_append_right (by omega),Nat.sub_self]at h3
    simpa using h3
   subst hb
   have e:(34::(l++[34])).length -1=l.length+1:=by simp
   rw[e,List.take_succ_cons,List.take_left']
   ·rfl
   ·rfl
 ·rintro⟨m,hm,rfl⟩
  have e:(34::(m++[34])).length -1=m.length+1:=by simp
  have em:midQ (34::(m++[34]))=m:=by
   unfold midQ
   rw[e,List.take_succ_cons,List.take_left' rfl];rfl
  unfold okQ
  rw[em,hm,e,List.getElem?_cons_succ,List.getElem?_append_right (by omega),Nat.sub_self]
  simp
theorem midQ_of(m:List UInt8):midQ (34::(m++[34]))=m:=by
 have e:(34::(m++[34])).length -1=m.length+1:=by simp
 unfold midQ
 rw[e,List.take_succ_cons,List.take_left' rfl];rfl
theorem hasPre_W{k:Nat}(s:List UInt8):internal_stringslite_HasPrefix k s [87,47]=some (preW s):=by
 have l2:(([87,47]:List UInt8).length:Int)=2:=rfl
 rw[internal_stringslite_HasPrefix,l2,bif_dec]
 unfold preW
 by_cases c:2≤s.length
 ·have e1:ssub s (0:Int) (2:Int)=some (s.take 2):=by rw[ssub_ok (by omega) (by omega) (by omega)];rfl
  rw[if_pos (by omega),e1,Option.bind_some,decide_eq_true c,Bool.true_and]
 ·rw[if_neg (by omega),decide_eq_false c,Bool.false_and]
theorem cutPre_W{k:Nat}(s:List UInt8):strings_CutPrefix k s [87,47]=some (bif preW s then(s.drop 2,true)else(s,false)):=by
 have l2:(([87,47]:List UInt8).length:Int)=2:=rfl
 rw[strings_CutPrefix,internal_stringslite_CutPrefix,hasPre_W,Option.bind_some,l2]
 cases hp:preW s with
 |false=>rfl
 |true=>
  have h2:2≤s.length:=by
   unfold preW at hp
   rw[Bool.and_eq_true,decide_eq_true_eq]at hp
   exact hp.1
  have e2:ssub s (2:Int) (s.length:Int)=some (s.drop 2):=ssub_drop (i:=2) (by omega)
  rw[Bool.not_true,cond_false,e2];rfl
theorem trim_34{k:Nat}(r:List UInt8)(h:r.length<1073741824):strings_Trim k r [34]=some (Lib.trimS r [34]):=by
 have hd:(decide (r.length≤9223372036854775807)&&decide (([34]:List UInt8).length<4294967281)&&([34]:List UInt8).all (fun b=>decide (b.toNat<128)))=true:=by
  rw[Bool.and_eq_true,Bool.and_eq_true];exact⟨⟨decide_eq_true (by omega),by decide⟩,by decide⟩
 rw[strings_Trim,trimO,hd,cond_true]
theorem trimS_len(r cs:List UInt8):(Lib.trimS r cs).length≤r.length:=by
 unfold Lib.trimS Lib.trimLeftS Lib.trimRightS
 have h1:=(List.dropWhile_sublist (fun b=>cs.contains b) (l:=(r.reverse.dropWhile (fun b=>cs.contains b)).reverse)).length_le
 have h2:=(List.dropWhile_sublist (fun b=>cs.contains b) (l:=r.reverse)).length_le
 rw[List.length_reverse]at h1 h2
 omega
theorem fmt_iff(r:List UInt8)(p:List UInt8)(hp:p=[87,47]∨p=[]):(bif isTagT (Lib.trimS r [34])then p++([34]++Lib.trimS r [34]++[34])else [])=p++r∧p++r≠[]↔okQ r=true:=by
 rw[okQ_iff]
 constructor
 ·rintro⟨h,hne⟩
  cases ht:isTagT (Lib.trimS r [34])with
  |false=>rw[ht,cond_false]at h;exact absurd h.symm hne
  |true=>
   rw[ht,cond_true]at h
   exact⟨_,ht,(List.append_cancel_left h).symm⟩
 ·rintro⟨m,hm,rfl⟩
  have hm2:=hm
  unfold isTagT at hm2
  rw[Bool.and_eq_true]at hm2
  rw[trim_q (tagB_ne hm2.1),hm,cond_true]
  exact⟨rfl,by simp⟩
theorem I_ParseTag_eq{k:Nat}(hk:1073741824≤k)(s:List UInt8)(h:s.length<1073741824):I_ParseTag k s=some (pTag s):=by
 rw[I_ParseTag,cutPre_W,Option.bind_some]
 unfold pTag tagQ
 cases hw:preW s with
 |true=>
  have hs:s=[87,47]++s.drop 2:=by
   unfold preW at hw
   rw[Bool.and_eq_true,beq_iff_eq]at hw
   rw[←hw.2,List.take_append_drop]
  have hne:(s==[])=false:=beq_ne (by rw[hs];simp)
  have hl:=trimS_len (s.drop 2) [34]
  have hl2:(s.drop 2).length≤s.length:=by simp
  have:=fmt_iff (s.drop 2) [87,47] (.inl rfl)
  simp only[cond_true]
  rw[trim_34 _ (by omega),Option.bind_some,hne,cond_false,I_FormatTag_eq hk _ (by simp only;omega),Option.bind_some]
  unfold fmtTag
  simp only[cond_true]
  rw[←hs]at this
  have e:([87,47]:List UInt8)++([34]++Lib.trimS (s.drop 2) [34]++[34])=[87,47,34]++Lib.trimS (s.drop 2) [34]++[34]:=rfl
  rw[e]at this
  cases ho:okQ (s.drop 2)with
  |true=>
   obtain⟨g1,_⟩:=this.2 ho
   obtain⟨m,hm,hr⟩:=(okQ_iff _).1 ho
   unfold isTagT at hm
   rw[Bool.and_eq_true]at hm
   rw[beq_iff_eq.2 g1,Bool.not_true,cond_false,cond_true,hr,trim_q (tagB_ne hm.1),midQ_of]
  |false=>
   have:((bif isTagT (Lib.trimS (s.drop 2) [34])then [87,47,34]++Lib.trimS (s.drop 2) [34]++[34]else [])==s)=false:=beq_ne fun e=>by
    rw[this.1 ⟨e,fun h0=>by rw[h0]at hne;cases hne⟩]at ho;cases ho
   rw[this];rfl
 |false=>
  simp only[cond_false]
  rw[trim_34 _ h,Option.bind_some]
  have hl:=trimS_len s [34]
  by_cases hs:s=[]
  ·subst hs;rfl
  ·have:=fmt_iff s [] (.inr rfl)
   rw[List.nil_append]at this
   rw[beq_ne hs,cond_false,I_FormatTag_eq hk _ (by simp only;omega),Option.bind_some]
   unfold fmtTag
   simp only[cond_false]
   rw[List.nil_append]at this
   cases ho:okQ s with
   |true=>
    obtain⟨g1,_⟩:=this.2 ho
    obtain⟨m,hm,hr⟩:=(okQ_iff _).1 ho
    unfold isTagT at hm
    rw[Bool.and_eq_true]at hm
    rw[beq_iff_eq.2 g1,Bool.not_true,cond_false,cond_true]
    rw[hr,trim_q (tagB_ne hm.1),midQ_of]
   |false=>
    have:((bif isTagT (Lib.trimS s [34])then [34]++Lib.trimS s [34]++[34]else [])==s)=false:=beq_ne fun e=>by
     rw[this.1 ⟨e,hs⟩]at ho;cases ho
    rw[this];rfl
theorem I_StrongSame_eq{k:Nat}(a b:ITag):I_StrongSame k a b=some (!a.Weak&&(!b.Weak&&(a.Text==b.Text))):=by
 rw[I_StrongSame]
 cases a.Weak<;>cases b.Weak<;>rfl
def ansTag(fs:List IField):ITag×Bool:=pTag (getF fs [101,116,97,103]).1
theorem I_answerTag_eq{k:Nat}(hk:1073741824≤k)(x:IResponse)(h:fsz x.Fields<268435456):I_answerTag k x=some (ansTag x.Fields):=by
 rw[I_answerTag,I_GetField_eq hk _ _ h,Option.bind_some,I_ParseTag_eq hk _ (getF_short _ h),Option.bind_some];rfl
def ctlOf(r:IResource):List UInt8:=bif r.Private then(bif r.Control==[]then [112,114,105,118,97,116,101]else [112,114,105,118,97,116,101,44,32]++r.Control)else r.Control
theorem S_ControlOf_eq{k:Nat}(r:IResource)(h:r.Control.length≤1048576):S_ControlOf k r=some (ctlOf r):=by
 unfold S_ControlOf ctlOf
 rw[cat_ok (by simp;omega)]
 cases r.Private<;>cases (r.Control==[])<;>rfl
theorem S_BodyOf_some(k:Nat)(v:IVersion)(a b:List UInt8)(h0:v.Text.length≤1048576)(h1:a.length≤1048576)(h2:b.length≤1048576):∃r,S_BodyOf k v a b=some r:=by
 unfold S_BodyOf S_BodyOf_c11
 cases ha:(a==[])with
 |true=>
  simp only[Bool.not_true,cond_false,Option.bind_some,S_BodyOf_c18]
  cases hb:(b==[])with
  |true=>exact⟨_,rfl⟩
  |false=>
   rw[Bool.not_false,cond_true,cat_ok (by simp;omega),Option.bind_some,cat_ok (by simp;omega)]
   exact⟨_,rfl⟩
 |false=>
  rw[Bool.not_false,cond_true,cat_ok (by simp;omega),Option.bind_some,cat_ok (by simp;omega),Option.bind_some,cat_ok (by simp;omega)]
  simp only[Option.bind_some,S_BodyOf_c18]
  cases hb:(b==[])with
  |true=>exact⟨_,rfl⟩
  |false=>
   rw[Bool.not_false,cond_true,cat_ok (by simp;omega),Option.bind_some,cat_ok (by simp;omega)]
   exact⟨_,rfl⟩
def vLast(p:Nat→Bool):Nat→Int
 |0=> -1
 |j+1=>bif p j then(j:Int)else vLast p j
def atP(x:List IVersion)(t:Int)(i:Nat):Bool:=match x[i]? with|some e=>decide (e.At≤t)|none=>false
theorem atP_idx{x:List IVersion}{t:Int}{i:Nat}(h:i<x.length):atP x t i=decide (x[i].At≤t):=by simp only[atP,List.getElem?_eq_getElem h]
theorem S_VersionAt_loop{k:Nat}{t:Int}{a b c:List UInt8}{d:Bool}{e:List (List UInt8)}{x:List IVersion}(hx:x.length<1073741824):∀(n i:Nat),i≤x.length→x.length -i<n→
 S_VersionAt_b0 k n t (vLast (atP x t) i) (i:Int) a b c d e x=some (vLast (atP x t) x.length):=by
 intro n
 induction n with
 |zero=>intro i _ h;omega
 |succ n ih=>
  intro i hi hn
  rw[S_VersionAt_b0,bif_dec]
  by_cases h:i<x.length
  ·rw[if_pos (by omega),S_VersionAt_b1,idx_nat h,Option.bind_some,S_VersionAt_c21,wrap_succ (by omega)]
   have:=ih (i+1) (by omega) (by omega)
   rw[vLast,atP_idx h]at this
   cases hd:decide (x[i].At≤t)with
   |true=>rw[hd,cond_true]at this;rw[cond_true,Option.bind_some,Option.bind_some];exact this
   |false=>rw[hd,cond_false]at this;rw[cond_false,Option.bind_some,Option.bind_some];exact this
  ·rw[if_neg (by omega),show i=x.length by omega]
theorem S_VersionAt_eq{k:Nat}(hk:1073741824≤k)(r:IResource)(t:Int)(h:r.Versions.length<1073741824):S_VersionAt k r t=some (vLast (atP r.Versions t) r.Versions.length):=by
 rw[S_VersionAt]
 have:=S_VersionAt_loop (k:=k) (t:=t) (a:=r.Target) (b:=r.Control) (c:=r.Keys) (d:=r.Private) (e:=r.Langs) (x:=r.Versions) h k 0 (by omega) (by omega)
 rw[show(-1:Int)=vLast (atP r.Versions t) 0 from rfl,show(0:Int)=((0:Nat):Int)from rfl,this];rfl
theorem vLast_lt(p:Nat→Bool):∀n,-1≤vLast p n∧vLast p n<(n:Int)
 |0=>by unfold vLast;omega
 |n+1=>by
  have:=vLast_lt p n
  rw[vLast]
  cases p n with
  |true=>rw[cond_true];omega
  |false=>rw[cond_false];omega
def hexV(c:UInt8):Int:=if 48≤c.toNat∧c.toNat≤57 then(c.toNat:Int) -48 else if 97≤c.toNat∧c.toNat≤102 then(c.toNat:Int) -87 else if 65≤c.toNat∧c.toNat≤70 then(c.toNat:Int) -55 else -1
def hexC:List UInt8:=[48,49,50,51,52,53,54,55,56,57,65,66,67,68,69,70]
theorem S_hex0:∀j:Fin 256,S_l12Hex 0 (j.val:Int)=some (hexV (UInt8.ofNat j.val)):=by decide+kernel
theorem S_l12Hex_eq{k:Nat}(c:UInt8):S_l12Hex k (c.toNat:Int)=some (hexV c):=by
 have:=S_hex0 ⟨c.toNat,UInt8.toNat_lt c⟩
 simp only[UInt8.ofNat_toNat]at this
 exact this
theorem hexV_lt(c:UInt8):hexV c<16:=by
 unfold hexV
 split
 ·omega
 ·split
  ·omega
  ·split<;>omega
def vAB(a b:Nat):UInt8:=UInt8.ofNat (16*a+b)
def unres(v:UInt8):Bool:=letB v||v==45||v==46||v==95||v==126
def outAB(a b:Nat):List UInt8:=bif unres (vAB a b)then [vAB a b]else [37,hexC.getD a 0,hexC.getD b 0]
theorem outAB_len(a b:Nat):(outAB a b).length≤3:=by unfold outAB;cases unres (vAB a b)<;>simp
theorem ab_tab:∀a b:Fin 16,IntKind.wrap .u8 (IntKind.wrap .i64 (IntKind.wrap .i64 ((16:Int)*(a.val:Int))+(b.val:Int)))=((vAB a.val b.val).toNat:Int)∧shrI .u8 ((vAB a.val b.val).toNat:Int) 4=some (a.val:Int)∧andI .u8 ((vAB a.val b.val).toNat:Int) 15=(b.val:Int):=by decide+kernel
theorem idx_hexC{a:Nat}(h:a<16):idx ([48,49,50,51,52,53,54,55,56,57,65,66,67,68,69,70]:List UInt8) (a:Int)=some (hexC.getD a 0):=by
 have hl:a<hexC.length:=h
 have:idx hexC (a:Int)=some hexC[a]:=idx_nat hl
 rw[show hexC.getD a 0=hexC[a]by simp[List.getD,hl]]
 exact this
def dec:List UInt8→List UInt8→Option (List UInt8)
 |[],acc=>some acc
 |[c],acc=>bif c==37 then none else some (acc++[c])
 |[c,d],acc=>bif c==37 then none else dec [d] (acc++[c])
 |c::h::l::r,acc=>bif c==37 then(bif decide (0≤hexV h)&&decide (0≤hexV l)then dec r (acc++outAB (hexV h).toNat (hexV l).toNat)else none)else dec (h::l::r) (acc++[c])
theorem decA1(c:UInt8)(acc:List UInt8):dec [c] acc=bif c==37 then none else some (acc++[c]):=rfl
theorem decA2(c d:UInt8)(acc:List UInt8):dec [c,d] acc=bif c==37 then none else dec [d] (acc++[c]):=rfl
theorem decA3(c h l:UInt8)(r acc:List UInt8):dec (c::h::l::r) acc=bif c==37 then(bif decide (0≤hexV h)&&decide (0≤hexV l)then dec r (acc++outAB (hexV h).toNat (hexV l).toNat)else none)else dec (h::l::r) (acc++[c]):=rfl
theorem dec_p(r acc:List UInt8){c:UInt8}(h:(c==37)=false):dec (c::r) acc=dec r (acc++[c]):=by
 match r with
 |[]=>rw[decA1,h];rfl
 |[d]=>rw[decA2,h];rfl
 |d::e::r=>rw[decA3,h];rfl
theorem dec_s(r acc:List UInt8){c:UInt8}(h:(c==37)=true)(hr:r.length<2):dec (c::r) acc=none:=by
 match r,hr with
 |[],_=>rw[decA1,h];rfl
 |[d],_=>rw[decA2,h];rfl
theorem dec_h(r acc:List UInt8){c u l:UInt8}(h:(c==37)=true):dec (c::u::l::r) acc=bif decide (0≤hexV u)&&decide (0≤hexV l)then dec r (acc++outAB (hexV u).toNat (hexV l).toNat)else none:=by rw[decA3,h];rfl
theorem intsOf_app(a b:List UInt8):intsOf a++intsOf b=intsOf (a++b):=by unfold intsOf;simp
theorem S_emit{k:Nat}{x:List UInt8}{x5:Int}{acc:List UInt8}{a b:Nat}(ha:a<16)(hb:b<16)(hl:acc.length<1073741824){f:Bool}(hf:f=unres (vAB a b)):
 S_l12Plain_c75 k x x5 ((vAB a b).toNat:Int) f (intsOf acc)=some (intsOf (acc++outAB a b)):=by
 obtain⟨_,h2,h3⟩:=ab_tab ⟨a,ha⟩ ⟨b,hb⟩
 simp only at h2 h3
 subst hf
 unfold S_l12Plain_c75 outAB
 cases unres (vAB a b)with
 |true=>rw[cond_true,cond_true,appn_ok (by simp[intsOf];omega),←intsOf_app];rfl
 |false=>rw[cond_false,cond_false,h2,Option.bind_some,idx_hexC ha,Option.bind_some,h3,idx_hexC hb,Option.bind_some,appn_ok (by simp[intsOf];omega),←intsOf_app];rfl
theorem S_plain_loop{k:Nat}{x:List UInt8}(hx:x.length<1073741000):∀(n i:Nat) (acc:List UInt8),x.length -i<n→i≤x.length→acc.length≤i→
 S_l12Plain_b0 k n x (i:Int) (intsOf acc)=some (match dec (x.drop i) acc with|some t=> .nrm (intsOf t)|none=> .oth ([],false)):=by
 intro n
 induction n with
 |zero=>intro i acc h;omega
 |succ n ih=>
  intro i acc hn hi ha
  rw[S_l12Plain_b0,bif_dec]
  by_cases c:i<x.length
  ·have u37:((UInt8.toNat x[i]:Int) !=37)= !(x[i]==37):=by unfold bne;rw[←u8_eq x[i] 37];rfl
   rw[if_pos (by omega),S_l12Plain_b1,idx_nat c,Option.bind_some,u37,List.drop_eq_getElem_cons c]
   cases h37:(x[i]==37)with
   |false=>
    rw[Bool.not_false,cond_true,Option.bind_some,appn_ok (by simp[intsOf];omega),Option.bind_some,dec_p _ _ h37]
    simp only[Option.bind_some,oc]
    rw[wrap_succ (by omega),show intsOf acc++[(x[i].toNat:Int)]=intsOf (acc++[x[i]])from intsOf_app acc [x[i]]]
    exact ih (i+1) (acc++[x[i]]) (by omega) (by omega) (by simp;omega)
   |true=>
    have w2:IntKind.wrap .i64 ((i:Int)+2)=((i+2:Nat):Int):=by rw[wrap_id (by omega) (by omega)];omega
    rw[Bool.not_true,cond_false,w2,wrap_succ (by omega),bif_dec]
    by_cases c2:i+2<x.length
    ·have c1:i+1<x.length:=by omega
     rw[if_neg (by omega),idx_nat c1,Option.bind_some,S_l12Hex_eq,Option.bind_some,bif_dec,List.drop_eq_getElem_cons c1,List.drop_eq_getElem_cons c2,dec_h _ _ h37]
     by_cases hu:hexV x[i+1]<0
     ·rw[if_pos hu,decide_eq_false (by omega),Bool.false_and];rfl
     ·rw[if_neg hu,idx_nat c2,Option.bind_some,S_l12Hex_eq,Option.bind_some,bif_dec,decide_eq_true (by omega),Bool.true_and]
      by_cases hv:hexV x[i+2]<0
      ·rw[if_pos hv,decide_eq_false (by omega)];rfl
      ·rw[if_neg hv,decide_eq_true (by omega),cond_true]
       have g1:=hexV_lt x[i+1]
       have g2:=hexV_lt x[i+2]
       obtain⟨a,hav⟩:=Int.eq_ofNat_of_zero_le (show 0≤hexV x[i+1]by omega)
       obtain⟨b,hbv⟩:=Int.eq_ofNat_of_zero_le (show 0≤hexV x[i+2]by omega)
       have ga:a<16:=by omega
       have gb:b<16:=by omega
       have tb:=(ab_tab ⟨a,ga⟩ ⟨b,gb⟩).1
       simp only at tb
       simp only[S_l12Hex_eq,Option.bind_some,hav,hbv]
       rw[tb,S_l4Letter_eq,Option.bind_some,Int.toNat_natCast,Int.toNat_natCast]
       have e45:(((vAB a b).toNat:Int)==45)=(vAB a b==45):=u8_eq _ 45
       have e46:(((vAB a b).toNat:Int)==46)=(vAB a b==46):=u8_eq _ 46
       have e95:(((vAB a b).toNat:Int)==95)=(vAB a b==95):=u8_eq _ 95
       have e126:(((vAB a b).toNat:Int)==126)=(vAB a b==126):=u8_eq _ 126
       have ol:=outAB_len a b
       have fin:=ih (i+3) (acc++outAB a b) (by omega) (by omega) (by simp;omega)
       have w3:IntKind.wrap .i64 (((i+2:Nat):Int)+1)=((i+3:Nat):Int):=wrap_succ (by omega)
       rw[e45,e46,e95,e126]
       have em:∀{f:Bool},f=unres (vAB a b)→S_l12Plain_c75 k x (i:Int) ((vAB a b).toNat:Int) f (intsOf acc)=some (intsOf (acc++outAB a b)):=fun hf=>S_emit ga gb (by omega) hf
       have e1:∀o:Option (Oc (Int×List Int) (List UInt8×Bool)),o=some (.nrm (((i+2:Nat):Int),intsOf (acc++outAB a b)))→(o.bind fun o1=>oc o1 (fun o2=>S_l12Plain_b0 k n x (IntKind.wrap .i64 (o2.1+1)) o2.2) fun o3=>some (.oth o3))=some (match dec (x.drop (i+2+1)) (acc++outAB a b)with|some t=> .nrm (intsOf t)|none=> .oth ([],false)):=fun o ho=>by
        rw[ho,Option.bind_some]
        show S_l12Plain_b0 k n x (IntKind.wrap .i64 (((i+2:Nat):Int)+1)) (intsOf (acc++outAB a b))=_
        rw[w3];exact fin
       refine e1 _ ?_
       cases hL:letB (vAB a b)with
       |true=>rw[cond_true,em (by unfold unres;rw[hL];rfl)];rfl
       |false=>
        cases h1:(vAB a b==45)with
        |true=>rw[cond_false,cond_true,em (by unfold unres;rw[hL,h1];rfl)];rfl
        |false=>
         cases h2:(vAB a b==46)with
         |true=>rw[cond_false,cond_false,cond_true,em (by unfold unres;rw[hL,h1,h2];rfl)];rfl
         |false=>
          cases h3:(vAB a b==95)with
          |true=>rw[cond_false,cond_false,cond_false,cond_true,em (by unfold unres;rw[hL,h1,h2,h3];rfl)];rfl
          |false=>rw[cond_false,cond_false,cond_false,cond_false,em (by unfold unres;rw[hL,h1,h2,h3];rfl)];rfl
    ·rw[if_pos (by omega),dec_s _ _ h37 (by simp;omega)];rfl
  ·rw[if_neg (by omega),List.drop_of_length_le (by omega)];rfl
def decT(x:List UInt8):List UInt8×Bool:=match dec x []with|some t=>(t,true)|none=>([],false)
theorem S_l12Plain_eq{k:Nat}(hk:1073741824≤k)(x:List UInt8)(h:x.length<1073741000):S_l12Plain k x=some (decT x):=by
 have:=S_plain_loop (k:=k) h k 0 [] (by omega) (by omega) (by simp)
 rw[show(((0:Nat)):Int)=0 from rfl,show intsOf []=[]from rfl,List.drop_zero]at this
 rw[S_l12Plain,this,Option.bind_some]
 unfold decT
 cases dec x []with
 |none=>rfl
 |some t=>simp only[oc,bytes_ints]
def cleanE(last:Bool)(e:List UInt8)(out:List (List UInt8)):List (List UInt8):=
 bif !(e==[46])&& !(e==[46,46])then out++[e]else
 bif last then(bif e==[46,46]then out.take (out.length -1)else out)++[[]]else(bif e==[46,46]then out.take (out.length -1)else out)
def cleanL:List (List UInt8)→List (List UInt8)→List (List UInt8)
 |[],out=>out
 |e::r,out=>cleanL r (cleanE r.isEmpty e out)
theorem lensC(p:List UInt8)(l:List (List UInt8)):Lib.lens (p::l)=p.length+Lib.lens l:=rfl
theorem lens_app:∀a b:List (List UInt8),Lib.lens (a++b)=Lib.lens a+Lib.lens b
 |[],b=>by simp[Lib.lens]
 |p::a,b=>by rw[List.cons_append,lensC,lensC,lens_app a b];omega
theorem lens_take(l:List (List UInt8))(n:Nat):Lib.lens (l.take n)≤Lib.lens l:=by
 have:=lens_app (l.take n) (l.drop n)
 rw[List.take_append_drop]at this
 omega
theorem lens_one(p:List UInt8):Lib.lens [p]=p.length:=by rw[lensC];simp[Lib.lens]
theorem lens_mem:∀{l:List (List UInt8)} {p:List UInt8},p∈l→p.length≤Lib.lens l
 |q::l,p,h=>by
  rw[lensC]
  rcases List.mem_cons.1 h with rfl|h
  ·omega
  ·have:=lens_mem h;omega
theorem cutP_sum(b:UInt8):∀(l cur:List UInt8),Lib.lens (cutP b l cur)≤cur.length+l.length
 |[],cur=>by rw[cutP,lens_one];omega
 |c::r,cur=>by
  rw[cutP]
  have h1:=cutP_sum b r []
  have h2:=cutP_sum b r (cur++[c])
  cases (c==b)with
  |true=>rw[cond_true,lensC];simp at h1 ⊢;omega
  |false=>rw[cond_false];simp at h2 ⊢;omega
theorem cleanE_len(last:Bool)(e:List UInt8)(out:List (List UInt8)):(cleanE last e out).length≤out.length+1:=by
 unfold cleanE
 cases (!(e==[46])&& !(e==[46,46]))<;>cases last<;>cases (e==([46,46]:List UInt8))<;>simp<;>omega
theorem cleanE_lens(last:Bool)(e:List UInt8)(out:List (List UInt8)):Lib.lens (cleanE last e out)≤Lib.lens out+e.length:=by
 have h1:=lens_take out (out.length -1)
 have h2:=lens_app out [e]
 have h3:=lens_app (out.take (out.length -1)) [[]]
 have h4:=lens_app out [[]]
 rw[lens_one]at h2 h3 h4
 simp only[List.length_nil]at h3 h4
 unfold cleanE
 cases (!(e==[46])&& !(e==[46,46]))<;>cases last<;>cases (e==([46,46]:List UInt8))<;>simp only[cond_true,cond_false]<;>omega
theorem cleanL_len:∀(l out:List (List UInt8)),(cleanL l out).length≤out.length+l.length
 |[],out=>by simp[cleanL]
 |e::r,out=>by
  have h1:=cleanL_len r (cleanE r.isEmpty e out)
  have h2:=cleanE_len r.isEmpty e out
  rw[cleanL,List.length_cons];omega
theorem cleanL_lens:∀(l out:List (List UInt8)),Lib.lens (cleanL l out)≤Lib.lens out+Lib.lens l
 |[],out=>by simp[cleanL]
 |e::r,out=>by
  have h1:=cleanL_lens r (cleanE r.isEmpty e out)
  have h2:=cleanE_lens r.isEmpty e out
  rw[cleanL,lensC];omega
theorem last_eq{w:List (List UInt8)}{i:Nat}(h:i<w.length):((i:Int)==(w.length:Int) -1)=(w.drop (i+1)).isEmpty:=by
 by_cases c:i+1=w.length
 ·rw[beq_iff_eq.2 (by omega:(i:Int)=(w.length:Int) -1),List.drop_of_length_le (by omega)];rfl
 ·rw[beq_eq_false_iff_ne.2 (by omega:(i:Int)≠(w.length:Int) -1),List.drop_eq_getElem_cons (by omega)];rfl
theorem take_pred{out:List (List UInt8)}(h:out.length<1073741824)(h0:0<out.length):ssub out (0:Int) (IntKind.wrap .i64 ((out.length:Int) -1))=some (out.take (out.length -1)):=by
 rw[wrap_id (by omega) (by omega),show(out.length:Int) -1=((out.length -1:Nat):Int)by omega]
 exact ssub_take (by omega)
theorem S_clean1{k:Nat}{w out:List (List UInt8)}{i:Nat}(hw:w.length<1073741824)(hi:i<w.length)(ho:out.length<1073741824):
 S_l12Path_b1 k (i:Int) w out=some (cleanE (w.drop (i+1)).isEmpty w[i] out):=by
 rw[S_l12Path_b1,wrap_id (n:=(w.length:Int) -1) (by omega) (by omega),last_eq hi,S_l12Path_b2,idx_nat hi,Option.bind_some,Option.bind_some]
 generalize (w.drop (i+1)).isEmpty=last
 have ap:∀(o:List (List UInt8)) (e:List UInt8),o.length<1073741824→app 16 o [e]=some (o++[e]):=fun o e h=>appn_ok (by simp;omega)
 have tl:(out.take (out.length -1)).length<1073741824:=by simp;omega
 unfold cleanE
 cases h2:(w[i]==([46,46]:List UInt8))with
 |true=>
  have h2':w[i]=[46,46]:=by simpa using h2
  rw[cond_true]
  by_cases c:0<out.length
  ·rw[decide_eq_true (by omega),S_l12Path_c24,cond_true,take_pred ho c]
   simp only[Option.bind_some,S_l12Path_c60,ap _ _ tl,Bool.not_true,Bool.and_false,cond_false,cond_true]
   cases last<;>rfl
  ·have:out=[]:=List.length_eq_zero_iff.1 (by omega)
   subst this
   rw[decide_eq_false (by simp),S_l12Path_c24,cond_false,idx_nat hi,Option.bind_some,Option.bind_some,h2']
   cases last<;>rfl
 |false=>
  rw[cond_false,S_l12Path_c24,cond_false,idx_nat hi,Option.bind_some,Option.bind_some]
  cases h1:(w[i]==([46]:List UInt8))with
  |true=>
   simp only[Bool.not_true,cond_false,S_l12Path_c40,Option.bind_some,S_l12Path_c60,ap _ _ ho,Bool.false_and]
   cases last<;>rfl
  |false=>
   simp only[Bool.not_false,cond_true,idx_nat hi,Option.bind_some,h2,S_l12Path_c40,ap _ _ ho,S_l12Path_c60,cond_false,Bool.and_self]
theorem S_clean_loop{k:Nat}{w:List (List UInt8)}(hw:w.length<1073741824):∀(n i:Nat) (out:List (List UInt8)),w.length -i<n→i≤w.length→out.length≤i→S_l12Path_b0 k n (i:Int) w out=some (cleanL (w.drop i) out):=by
 intro n
 induction n with
 |zero=>intro i out h;omega
 |succ n ih=>
  intro i out hn hi ho
  rw[S_l12Path_b0,bif_dec]
  by_cases c:i<w.length
  ·have:=cleanE_len (w.drop (i+1)).isEmpty w[i] out
   rw[if_pos (by omega),S_clean1 hw c (by omega),Option.bind_some,wrap_succ (by omega),ih (i+1) _ (by omega) (by omega) (by omega)]
   conv=>rhs;rw[List.drop_eq_getElem_cons c,cleanL]
  ·rw[if_neg (by omega),List.drop_of_length_le (by omega),cleanL]
def pathT(p:List UInt8):List UInt8:=Lib.joinTail [47] (cleanL (cutP 47 (p.drop 1) []) [])
theorem S_path_text{k:Nat}{o:List (List UInt8)}(hl:o.length<1073741824)(hs:Lib.lens o<1073741824):∀(n i:Nat) (t:List UInt8),o.length -i<n→i≤o.length→t.length≤i+1073741824→
 t=Lib.joinTail [47] (o.take i)→S_l12Path_b3 k n t (i:Int) o=some (Lib.joinTail [47] o):=by
 intro n
 induction n with
 |zero=>intro i t h;omega
 |succ n ih=>
  intro i t hn hi ht he
  rw[S_l12Path_b3,bif_dec]
  by_cases c:i<o.length
  ·have hm:=lens_mem (List.getElem_mem c)
   have b4:=Lib.joinTail_take_succ [47] o i o[i] (List.getElem?_eq_getElem c)
   have b2:(Lib.joinTail [47] (o.take (i+1))).length≤(i+1)+1073741824:=by
    have b5:=Lib.joinTail_length [47] (o.take (i+1))
    have b6:=lens_take o (i+1)
    have b7:(o.take (i+1)).length≤i+1:=by simp;omega
    simp at b5 b7
    omega
   rw[if_pos (by omega),cat_ok (by simp;omega),Option.bind_some,idx_nat c,Option.bind_some,Option.bind_some,cat_ok (by simp;omega),Option.bind_some,wrap_succ (by omega)]
   have e:t++[47]++o[i]=Lib.joinTail [47] (o.take (i+1)):=by rw[b4,he]
   rw[e]
   exact ih (i+1) _ (by omega) (by omega) b2 rfl
  ·rw[if_neg (by omega),he,List.take_of_length_le (by omega)]
theorem cutL{x:List UInt8}:(cleanL (cutP 47 x []) []).length≤x.length+1∧Lib.lens (cleanL (cutP 47 x []) [])≤x.length:=by
 have h1:=cleanL_len (cutP 47 x []) []
 have h2:=cleanL_lens (cutP 47 x []) []
 have h3:=cutP_len 47 x []
 have h4:=cutP_sum 47 x []
 rw[show Lib.lens []=0 from rfl]at h2
 simp only[List.length_nil]at h1 h4
 omega
theorem S_l12Path_eq{k:Nat}(hk:1073741824≤k)(p:List UInt8)(h:p.length<1073740000)(h0:0<p.length):S_l12Path k p=some (pathT p):=by
 have hd:(p.drop 1).length<1073740000:=by simp;omega
 have hc:=cutP_len 47 (p.drop 1) []
 have c1:=S_clean_loop (k:=k) (w:=cutP 47 (p.drop 1) []) (by omega) k 0 [] (by omega) (by omega) (by simp)
 rw[show(((0:Nat)):Int)=0 from rfl,List.drop_zero]at c1
 obtain⟨l1,l2⟩:=cutL (x:=p.drop 1)
 have c2:=S_path_text (k:=k) (o:=cleanL (cutP 47 (p.drop 1) []) []) (by omega) (by omega) k 0 [] (by omega) (by omega) (by simp) (by simp[Lib.joinTail])
 rw[show(((0:Nat)):Int)=0 from rfl]at c2
 have hs:=S_l12Split_eq hk (p.drop 1) 47 (by omega)
 rw[show(((47:UInt8).toNat:Nat):Int)=47 from rfl]at hs
 have hsub:ssub p (1:Int) (p.length:Int)=some (p.drop 1):=ssub_drop (i:=1) (by omega)
 rw[S_l12Path,hsub,Option.bind_some,hs,Option.bind_some,c1,Option.bind_some,c2];rfl
def splitT(s:List UInt8):List UInt8×List UInt8×Bool:=match firstI (byteP s 63) s.length 0 with|some i=>(s.take i,s.drop (i+1),true)|none=>(s,[],false)
theorem S_SplitTarget_eq{k:Nat}(hk:1073741824≤k)(s:List UInt8)(h:s.length<1073741824):S_SplitTarget k s=some (splitT s):=by
 have:=find_all (len:=s.length) (c:=fun i=>bif byteP s 63 i then some (s.take i,s.drop (i+1),true)else none) (F:=fun n i=>S_SplitTarget_b0 k n s i) (fun n i hi=>by
  have e:((UInt8.toNat s[i]:Int)==63)=(s[i]==63):=u8_eq s[i] 63
  simp only[S_SplitTarget_b0,idx_nat hi,Option.bind_some,wrap_succ (by omega:i<9223372036854775807),bif_dec,lt_cast,hi,if_true,byteP_at hi,e]
  cases (s[i]==63)with
  |true=>rw[cond_true,cond_true,ssub_take (by omega),Option.bind_some,ssub_drop (by omega)];rfl
  |false=>rfl) (fun n i hi=>by
  simp only[S_SplitTarget_b0,bif_dec,lt_cast]
  rw[if_neg (by omega)]) (k:=k) (by omega)
 rw[S_SplitTarget,this,findI_first]
 unfold splitT
 cases firstI (byteP s 63) s.length 0<;>rfl
def neP(s:List UInt8):Bool:= !(s==[])
def insK(e:List UInt8)(out:List (List UInt8)):Nat→Nat
 |0=>0
 |k+1=>bif decide (e<out.getD k [])then insK e out k else k+1
def insE(e:List UInt8)(out:List (List UInt8)):List (List UInt8):=out.take (insK e out out.length)++[e]++out.drop (insK e out out.length)
def insAll:List (List UInt8)→List (List UInt8)→List (List UInt8)
 |[],out=>out
 |e::r,out=>insAll r (bif neP e then insE e out else out)
theorem insK_le(e:List UInt8)(out:List (List UInt8)):∀m,insK e out m≤m
 |0=>by rw[insK];omega
 |m+1=>by
  have:=insK_le e out m
  rw[insK]
  cases decide (e<out.getD m [])with
  |true=>rw[cond_true];omega
  |false=>rw[cond_false];omega
theorem insK_hi(e:List UInt8)(out:List (List UInt8)):∀m q,insK e out m≤q→q<m→e<out.getD q []
 |0,q,_,h=>by omega
 |m+1,q,h1,h2=>by
  rw[insK]at h1
  by_cases hc:e<out.getD m []
  ·rw[decide_eq_true hc,cond_true]at h1
   by_cases hq:q=m
   ·rw[hq];exact hc
   ·exact insK_hi e out m q h1 (by omega)
  ·rw[decide_eq_false hc,cond_false]at h1;omega
theorem insK_lo(e:List UInt8)(out:List (List UInt8)):∀m,0<insK e out m→¬e<out.getD (insK e out m -1) []
 |0,h=>by rw[insK]at h;omega
 |m+1,h=>by
  rw[insK]at h ⊢
  by_cases hc:e<out.getD m []
  ·rw[decide_eq_true hc,cond_true]at h ⊢;exact insK_lo e out m h
  ·rw[decide_eq_false hc,cond_false];exact hc
theorem insE_perm(e:List UInt8)(out:List (List UInt8)):(insE e out).Perm (e::out):=by
 unfold insE
 rw[List.append_assoc]
 have:=List.perm_middle (a:=e) (l₁:=out.take (insK e out out.length)) (l₂:=out.drop (insK e out out.length))
 rw[List.take_append_drop]at this
 exact this
theorem insE_sorted{e:List UInt8}{out:List (List UInt8)}(h:out.Pairwise fun x y=>x≤y):(insE e out).Pairwise fun x y=>x≤y:=by
 have k1:=insK_le e out out.length
 have gd:∀q (hq:q<out.length),out.getD q []=out[q]:=fun q hq=>by simp[List.getD,hq]
 have hi:∀y∈out.drop (insK e out out.length),e≤y:=fun y hy=>by
  obtain⟨q,hq,rfl⟩:=List.mem_iff_getElem.1 hy
  rw[List.length_drop]at hq
  rw[List.getElem_drop]
  have:=insK_hi e out out.length (insK e out out.length+q) (by omega) (by omega)
  rw[gd _ (by omega)]at this
  exact List.le_of_lt this
 have lo:∀x∈out.take (insK e out out.length),x≤e:=fun x hx=>by
  obtain⟨q,hq,rfl⟩:=List.mem_iff_getElem.1 hx
  have hq':q<insK e out out.length:=by rw[List.length_take]at hq;omega
  rw[List.getElem_take]
  have h0:=insK_lo e out out.length (by omega)
  rw[gd _ (by omega)]at h0
  have h1:=List.not_lt.1 h0
  by_cases c:q=insK e out out.length -1
  ·subst c;exact h1
  ·exact List.le_trans (List.pairwise_iff_getElem.1 h q (insK e out out.length -1) (by omega) (by omega) (by omega)) h1
 have hs:=h
 rw[←List.take_append_drop (insK e out out.length) out,List.pairwise_append]at hs
 unfold insE
 rw[List.append_assoc,List.pairwise_append]
 refine⟨hs.1,List.pairwise_cons.2 ⟨hi,hs.2.1⟩,fun x hx y hy=> ?_⟩
 rcases List.mem_cons.1 hy with rfl|hy
 ·exact lo x hx
 ·exact hs.2.2 x hx y hy
theorem insAll_ok:∀(w out:List (List UInt8)),(out.Pairwise fun x y=>x≤y)→((insAll w out).Pairwise fun x y=>x≤y)∧(insAll w out).Perm (w.filter neP++out)
 |[],out,h=>⟨h,.refl _⟩
 |e::r,out,h=>by
  rw[insAll]
  cases hn:neP e with
  |false=>
   rw[cond_false,List.filter_cons_of_neg (by simp[hn])]
   exact insAll_ok r out h
  |true=>
   rw[cond_true,List.filter_cons_of_pos hn]
   obtain⟨h1,h2⟩:=insAll_ok r (insE e out) (insE_sorted h)
   refine⟨h1,h2.trans ?_⟩
   exact((insE_perm e out).append_left _).trans (List.perm_middle.trans (.refl _))
theorem insAll_sort(w:List (List UInt8)):insAll w []=(w.filter neP).mergeSort fun x y=>decide (x≤y):=by
 obtain⟨h1,h2⟩:=insAll_ok w [] .nil
 rw[List.append_nil]at h2
 refine List.Perm.eq_of_pairwise (le:=fun x y=>x≤y) (fun a b _ _ h3 h4=>List.le_antisymm h3 h4) h1 ?_ (h2.trans (List.mergeSort_perm _ _).symm)
 have:=List.pairwise_mergeSort (le:=fun(x y:List UInt8)=>decide (x≤y)) (fun a b c h3 h4=>by simp only[decide_eq_true_eq]at*;exact List.le_trans h3 h4) (fun a b=>by
  simp only[Bool.or_eq_true,decide_eq_true_eq];exact List.le_total a b) (w.filter neP)
 exact this.imp fun h=>by simpa using h
theorem S_ins_pos{k:Nat}{w out:List (List UInt8)}{i:Int}{e:List UInt8}(hi:idx w i=some e)(ho:out.length<1073741824):∀(n j:Nat),j<n→j≤out.length→S_l12Query_b2 k n i (j:Int) w out=some ((insK e out j:Nat):Int):=by
 intro n
 induction n with
 |zero=>intro j h;omega
 |succ n ih=>
  intro j hn hj
  rw[S_l12Query_b2,bif_dec]
  cases j with
  |zero=>rw[if_neg (by omega)];rfl
  |succ j=>
   have hjl:j<out.length:=by omega
   rw[if_pos (by omega),hi,Option.bind_some,Option.bind_some,wrap_id (n:=((j+1:Nat):Int) -1) (by omega) (by omega),show((j+1:Nat):Int) -1=(j:Int)by omega,idx_nat hjl,Option.bind_some,Option.bind_some,Go.Proofs.bytesLess_eq,insK,show out.getD j []=out[j]by simp[List.getD,hjl]]
   cases decide (e<out[j])with
   |true=>rw[cond_true,cond_true];exact ih j (by omega) (by omega)
   |false=>rw[cond_false,cond_false]
theorem insE_len(e:List UInt8)(out:List (List UInt8)):(insE e out).length=out.length+1:=by have:=(insE_perm e out).length_eq;simpa using this
theorem S_ins_loop{k:Nat}(hk:1073741824≤k){w:List (List UInt8)}(hw:w.length<1073741824):∀(n i:Nat) (out:List (List UInt8)),w.length -i<n→i≤w.length→out.length≤i→S_l12Query_b0 k n (i:Int) w out=some (insAll (w.drop i) out):=by
 intro n
 induction n with
 |zero=>intro i out h;omega
 |succ n ih=>
  intro i out hn hi ho
  rw[S_l12Query_b0,bif_dec]
  by_cases c:i<w.length
  ·have kl:=insK_le w[i] out out.length
   have il:=insE_len w[i] out
   have step:S_l12Query_b1 k (i:Int) w out=some (bif neP w[i]then insE w[i] out else out):=by
    rw[S_l12Query_b1,S_ins_pos (idx_nat c) (by omega) k out.length (by omega) (by omega),Option.bind_some,idx_nat c,Option.bind_some,Option.bind_some,S_l12Query_c40]
    show((bif neP w[i]then _ else _:Option _).bind _)=_
    cases neP w[i]with
    |false=>rfl
    |true=>
     rw[cond_true,ssub_take kl,Option.bind_some,appn_ok (by simp;omega),Option.bind_some,idx_nat c,Option.bind_some,Option.bind_some,appn_ok (by simp;omega),Option.bind_some,ssub_drop kl,Option.bind_some,appn_ok (by simp;omega)]
     rfl
   rw[if_pos (by omega),step,Option.bind_some,wrap_succ (by omega),ih (i+1) _ (by omega) (by omega) (by cases neP w[i]<;>simp<;>omega)]
   conv=>rhs;rw[List.drop_eq_getElem_cons c,insAll]
  ·rw[if_neg (by omega),List.drop_of_length_le (by omega),insAll]
theorem lens_perm{l l':List (List UInt8)}(h:l.Perm l'):Lib.lens l=Lib.lens l':=by
 induction h with
 |nil=>rfl
 |cons x _ ih=>rw[lensC,lensC,ih]
 |swap x y l=>rw[lensC,lensC,lensC,lensC];omega
 |trans _ _ ih1 ih2=>exact ih1.trans ih2
theorem lens_filter(f:List UInt8→Bool):∀l:List (List UInt8),Lib.lens (l.filter f)≤Lib.lens l
 |[]=>by simp
 |e::l=>by
  have:=lens_filter f l
  cases h:f e with
  |true=>rw[List.filter_cons_of_pos h,lensC,lensC];omega
  |false=>rw[List.filter_cons_of_neg (by simp[h]),lensC];omega
def sortQ(q:List UInt8):List (List UInt8):=((cutP 38 q []).filter neP).mergeSort fun x y=>decide (x≤y)
theorem sortQ_perm(q:List UInt8):(sortQ q).Perm ((cutP 38 q []).filter neP):=List.mergeSort_perm _ _
theorem sortQ_lens(q:List UInt8):(sortQ q).length≤q.length+1∧Lib.lens (sortQ q)≤q.length:=by
 have h1:=lens_perm (sortQ_perm q)
 have h2:=(sortQ_perm q).length_eq
 have h3:=lens_filter neP (cutP 38 q [])
 have h4:=List.length_filter_le neP (cutP 38 q [])
 have h5:=cutP_len 38 q []
 have h6:=cutP_sum 38 q []
 simp only[List.length_nil]at h6
 omega
theorem sortQ_ne{q s:List UInt8}(h:s∈sortQ q):s≠[]:=by
 have:=(List.mem_filter.1 ((sortQ_perm q).mem_iff.1 h)).2
 unfold neP at this
 simpa using this
theorem S_q_text{k:Nat}{x:List UInt8}{r:List (List UInt8)}(h:2*r.length+Lib.lens (x::r)<8589934592):∀(n j:Nat),j≤r.length→r.length -j<n→
 S_l12Query_b4 k n (x++Lib.joinTail [38] (r.take j)) ((j+1:Nat):Int) (x::r)=some (x++Lib.joinTail [38] r):=by
 have hx:Lib.lens (x::r)=x.length+Lib.lens r:=rfl
 intro n
 induction n with
 |zero=>intro j _ h;omega
 |succ n ih=>
  intro j hj hn
  rw[S_l12Query_b4,bif_dec]
  by_cases c:j<r.length
  ·have hlen:((j+1:Nat):Int)<((x::r).length:Int):=by simp;omega
   have e1:decide (((j+1:Nat):Int)>0)=true:=decide_eq_true (by omega)
   have e2:idx (x::r) ((j+1:Nat):Int)=some r[j]:=by
    rw[idx_nat (by simp;omega)];simp
   have b1:=Lib.joinTail_take_le [38] r j
   have b2:=Lib.joinTail_length [38] r
   have b3:=Lib.joinTail_take_le [38] r (j+1)
   have b4:=Lib.joinTail_take_succ [38] r j r[j] (List.getElem?_eq_getElem c)
   have b5:=congrArg List.length b4
   simp only[List.length_append,List.length_cons,List.length_nil]at b2 b5
   rw[if_pos hlen,S_l12Query_b5,S_l12Query_c63,e1,cond_true,cat_ok (by simp;omega),Option.bind_some,Option.bind_some,e2,Option.bind_some,Option.bind_some,cat_ok (by simp;omega),Option.bind_some,Option.bind_some,wrap_succ (by omega)]
   have:=ih (j+1) (by omega) (by omega)
   rw[b4]at this
   rw[←this]
   congr 1
   simp
  ·have hlen:¬((j+1:Nat):Int)<((x::r).length:Int):=by simp;omega
   rw[if_neg hlen,List.take_of_length_le (by omega)]
theorem S_l12Query_eq{k:Nat}(hk:1073741824≤k)(q:List UInt8)(h:q.length<1073740000):S_l12Query k q=some (Lib.join (sortQ q) [38]):=by
 have hc:=cutP_len 38 q []
 obtain⟨l1,l2⟩:=sortQ_lens q
 have hs:=S_l12Split_eq hk q 38 (by omega)
 rw[show(((38:UInt8).toNat:Nat):Int)=38 from rfl]at hs
 have c1:=S_ins_loop (k:=k) hk (w:=cutP 38 q []) (by omega) k 0 [] (by omega) (by omega) (by simp)
 rw[show(((0:Nat)):Int)=0 from rfl,List.drop_zero,insAll_sort]at c1
 rw[S_l12Query,hs,Option.bind_some,c1,Option.bind_some]
 show((S_l12Query_b4 k k [] 0 (sortQ q)).bind _)=_
 obtain⟨k',rfl⟩:∃k',k=k'+1:=⟨k -1,by omega⟩
 cases hsq:sortQ q with
 |nil=>rfl
 |cons x r=>
  rw[hsq]at l1 l2
  have hm:Lib.lens (x::r)=x.length+Lib.lens r:=rfl
  simp only[List.length_cons]at l1
  have hb:2*r.length+Lib.lens (x::r)<8589934592:=by
   have t1:=l1
   have t2:=l2
   clear c1 hs
   omega
  have c2:=S_q_text (k:=k'+1) (x:=x) (r:=r) hb k' 0 (by omega) (by omega)
  rw[S_l12Query_b4,bif_dec,if_pos (by simp),S_l12Query_b5,S_l12Query_c63,show decide ((0:Int)>0)=false from rfl,cond_false,Option.bind_some,show idx (x::r) (0:Int)=some x from rfl,Option.bind_some,Option.bind_some,cat_ok (by simp;omega),Option.bind_some,Option.bind_some]
  rw[show IntKind.wrap .i64 ((0:Int)+1)=((0+1:Nat):Int)by decide,List.nil_append]
  rw[List.take_zero,show Lib.joinTail [38] []=[]from rfl,List.append_nil]at c2
  rw[c2,Option.bind_some,Lib.join_cons]
theorem dec_len:∀(x acc t:List UInt8),dec x acc=some t→t.length≤acc.length+x.length
 |[],acc,t,h=>by cases h;simp
 |[c],acc,t,h=>by
  rw[decA1]at h
  cases hc:(c==37)with
  |true=>rw[hc]at h;cases h
  |false=>rw[hc]at h;cases h;simp
 |[c,d],acc,t,h=>by
  rw[decA2]at h
  cases hc:(c==37)with
  |true=>rw[hc]at h;cases h
  |false=>rw[hc]at h;have:=dec_len [d] (acc++[c]) t h;simp at this ⊢;omega
 |c::u::l::r,acc,t,h=>by
  rw[decA3]at h
  cases hc:(c==37)with
  |true=>
   rw[hc,cond_true]at h
   cases h2:(decide (0≤hexV u)&&decide (0≤hexV l))with
   |false=>rw[h2]at h;cases h
   |true=>
    rw[h2]at h
    have:=dec_len r _ t h
    have ol:=outAB_len (hexV u).toNat (hexV l).toNat
    simp at this ⊢;omega
  |false=>rw[hc]at h;have:=dec_len (u::l::r) (acc++[c]) t h;simp at this ⊢;omega
theorem decT_len(x:List UInt8):(decT x).1.length≤x.length:=by
 unfold decT
 cases h:dec x []with
 |none=>simp
 |some t=>have:=dec_len x [] t h;simpa using this
def q47(p:List UInt8):Bool:=p[0]? ==some 47
def normT(s:List UInt8):List UInt8×Bool:=
 bif !(decT (splitT s).1).2 then([],false)else bif !(decT (splitT s).2.1).2 then([],false)else bif !q47 (decT (splitT s).1).1 then([],false)else
 (bif(sortQ (decT (splitT s).2.1).1).isEmpty then pathT (decT (splitT s).1).1 else pathT (decT (splitT s).1).1++[63]++Lib.join (sortQ (decT (splitT s).2.1).1) [38],true)
theorem splitT_len(s:List UInt8):(splitT s).1.length≤s.length∧(splitT s).2.1.length≤s.length:=by
 unfold splitT
 cases firstI (byteP s 63) s.length 0 with
 |none=>simp
 |some i=>simp;omega
theorem pathT_len(p:List UInt8):(pathT p).length≤2*p.length+1:=by
 obtain⟨l1,l2⟩:=cutL (x:=p.drop 1)
 have:=Lib.joinTail_length [47] (cleanL (cutP 47 (p.drop 1) []) [])
 rw[List.length_drop]at l1 l2
 unfold pathT
 rw[this]
 simp only[List.length_cons,List.length_nil]
 omega
theorem joinQ_len(q:List UInt8):(Lib.join (sortQ q) [38]).length≤2*q.length+1:=by
 obtain⟨l1,l2⟩:=sortQ_lens q
 cases hq:sortQ q with
 |nil=>simp[Lib.join_nil]
 |cons x r=>rw[hq]at l1 l2;rw[Lib.join_length];simp at l1 ⊢;omega
theorem join_empty(q:List UInt8):(Lib.join (sortQ q) [38]==[])=(sortQ q).isEmpty:=by
 cases hq:sortQ q with
 |nil=>rfl
 |cons x r=>
  have:=sortQ_ne (q:=q) (s:=x) (by rw[hq];exact .head _)
  rw[Lib.join_cons]
  cases x with
  |nil=>exact absurd rfl this
  |cons a b=>rfl
theorem S_NormalTarget_eq{k:Nat}(hk:1073741824≤k)(s:List UInt8)(h:s.length<134217728):S_NormalTarget k s=some (normT s):=by
 obtain⟨s1,s2⟩:=splitT_len s
 have d1:=decT_len (splitT s).1
 have d2:=decT_len (splitT s).2.1
 rw[S_NormalTarget,S_SplitTarget_eq hk s (by omega),Option.bind_some,S_l12Plain_eq hk _ (by omega),Option.bind_some,S_l12Plain_eq hk _ (by omega),Option.bind_some]
 unfold normT
 generalize decT (splitT s).1=p at d1 ⊢
 generalize decT (splitT s).2.1=q at d2 ⊢
 obtain⟨p,b1⟩:=p
 obtain⟨q,b2⟩:=q
 simp only at d1 d2
 cases b1<;>cases b2<;>simp only[Bool.not_true,Bool.not_false,cond_true,cond_false]
 cases p with
 |nil=>rfl
 |cons c r=>
  have e0:(((c::r).length:Int)==0)=false:=by rw[beq_eq_false_iff_ne];simp;omega
  have u47:((UInt8.toNat c:Int) !=47)= !(c==47):=by unfold bne;rw[←u8_eq c 47];rfl
  have hq:q47 (c::r)=(c==47):=by unfold q47;simp
  rw[e0,cond_false,show idx (c::r) (0:Int)=some c from rfl,Option.bind_some,u47,hq]
  cases (c==47)with
  |false=>rfl
  |true=>
   have pl:=pathT_len (c::r)
   have jl:=joinQ_len q
   simp only[Bool.not_true,cond_false]
   rw[S_l12Path_eq hk (c::r) (by omega) (by simp),Option.bind_some,S_l12Query_eq hk q (by omega),Option.bind_some,join_empty,S_NormalTarget_c50]
   cases (sortQ q).isEmpty with
   |true=>rfl
   |false=>rw[Bool.not_false,cond_true,cat_ok (by simp;omega),Option.bind_some,cat_ok (by simp;omega)];rfl
theorem S_IsNormalTarget_eq{k:Nat}(hk:1073741824≤k)(s:List UInt8)(h:s.length<134217728):S_IsNormalTarget k s=some ((normT s).2&&((normT s).1==s)):=by
 rw[S_IsNormalTarget,S_NormalTarget_eq hk s h,Option.bind_some]
 cases (normT s).2<;>rfl
def badV(c:UInt8):Bool:= !inR (c.toNat:Int) 32 126&&c !=9
def bvP(x:List UInt8)(i:Nat):Bool:=match x[i]? with|some c=>badV c|none=>false
def valOK(x:List UInt8):Bool:=(firstI (bvP x) x.length 0).isNone&&decide ((x.length:Int)≤200)&&(trimT x==x)
def nameOK(x:List UInt8):Bool:=isTok x&&(lowT x==x)
def bfP(l:List IField)(i:Nat):Bool:=match l[i]? with|some e=> !nameOK e.Name|| !valOK e.Value|none=>false
def areF(l:List IField):Bool:=(firstI (bfP l) l.length 0).isNone&&decide ((l.length:Int)≤24)
theorem u8_ne9(c:UInt8):((UInt8.toNat c:Int) !=(9:Int))=(c !=9):=by
 have:=u8_eq c 9
 unfold bne
 rw[←this];rfl
theorem S_l5Value_eq{k:Nat}(hk:1073741824≤k)(x:List UInt8)(h:x.length<1073741824):S_l5Value k x=some (valOK x):=by
 have:=find_all (len:=x.length) (c:=fun i=>bif bvP x i then some false else none) (F:=fun n i=>S_l5Value_b0 k n x i) (fun n i hi=>by
  have hb:=UInt8.toNat_lt x[i]
  simp only[S_l5Value_b0,idx_nat hi,Option.bind_some,wrap_succ (by omega:i<9223372036854775807),bif_dec,lt_cast,hi,if_true,bvP,List.getElem?_eq_getElem hi,badV,u8_ne9]
  rw[wrap_id (by omega) (by omega),S_l1In_eq,Option.bind_some]
  cases inR (x[i].toNat:Int) 32 126<;>cases (x[i] !=9)<;>rfl) (fun n i hi=>by
  simp only[S_l5Value_b0,bif_dec,lt_cast]
  rw[if_neg (by omega)]) (k:=k) (by omega)
 rw[S_l5Value,this,findI_first,S_TrimText_eq hk x h]
 unfold valOK
 cases firstI (bvP x) x.length 0 with
 |none=>cases decide ((x.length:Int)≤200)<;>simp[ocOf,oc]
 |some j=>simp[ocOf,oc]
theorem S_l5Name_eq{k:Nat}(hk:1073741824≤k)(x:List UInt8)(h:x.length<1073741824):S_l5Name k x=some (nameOK x):=by
 rw[S_l5Name,S_IsToken_eq hk x h,Option.bind_some,S_LowerText_eq hk x h]
 unfold nameOK
 cases isTok x<;>rfl
def shortF(l:List IField):Prop:=∀e∈l,e.Name.length<1073741824∧e.Value.length<1073741824
theorem S_AreFields_eq{k:Nat}(hk:1073741824≤k)(l:List IField)(h:l.length<1073741824)(hs:shortF l):S_AreFields k l=some (areF l):=by
 have:=find_all (len:=l.length) (c:=fun i=>bif bfP l i then some false else none) (F:=fun n i=>S_AreFields_b0 k n l i) (fun n i hi=>by
  obtain⟨h1,h2⟩:=hs l[i] (List.getElem_mem hi)
  simp only[S_AreFields_b0,idx_nat hi,Option.bind_some,wrap_succ (by omega:i<9223372036854775807),bif_dec,lt_cast,hi,if_true,bfP,List.getElem?_eq_getElem hi,S_l5Name_eq hk _ h1,S_l5Value_eq hk _ h2]
  cases nameOK l[i].Name<;>cases valOK l[i].Value<;>rfl) (fun n i hi=>by
  simp only[S_AreFields_b0,bif_dec,lt_cast]
  rw[if_neg (by omega)]) (k:=k) (by omega)
 rw[S_AreFields,this,findI_first]
 unfold areF
 cases firstI (bfP l) l.length 0<;>simp[ocOf,oc]
def clen:List UInt8:=[99,111,110,116,101,110,116,45,108,101,110,103,116,104]
def bP(p:UInt8→Bool)(x:List UInt8)(i:Nat):Bool:=match x[i]? with|some c=>p c|none=>false
def noB(p:UInt8→Bool)(x:List UInt8):Bool:=(firstI (bP p x) x.length 0).isNone
theorem bP_at{p:UInt8→Bool}{x:List UInt8}{i:Nat}(h:i<x.length):bP p x i=p x[i]:=by simp only[bP,List.getElem?_eq_getElem h]
structure ReqIn(r:IRequest):Prop where
 m:r.Method.length<1073741824
 h:r.Host.length<1073741824
 t:r.Target.length<1073741824
 f:fsz r.Fields<268435456
 s:shortF r.Fields
theorem u8_ne(c d:UInt8):((UInt8.toNat c:Int) !=(UInt8.toNat d:Int))=(c !=d):=by
 have:=u8_eq c d
 unfold bne
 rw[←this]
def isLow(c:UInt8):Bool:=inR (c.toNat:Int) 97 122
def badH(c:UInt8):Bool:= !inR (c.toNat:Int) 97 122&&(!inR (c.toNat:Int) 48 57&&(c !=45&&c !=46))
def badT(c:UInt8):Bool:= !inR (c.toNat:Int) 33 126
def hostT:List UInt8:=[104,111,115,116]
def isReq(r:IRequest):Bool:=
 noB isLow r.Method&&noB badH r.Host&&noB badT r.Target&&isTok r.Method&&inR (r.Host.length:Int) 1 40&&inR (r.Target.length:Int) 1 100&&(r.Target.head? ==some 47)&&areF r.Fields&&decide ((r.Fields.length:Int)<24)&& !hasF r.Fields clen&& !hasF r.Fields hostT
theorem idx0{x:List UInt8}(h:inR (x.length:Int) 1 100=true):∃c,idx x (0:Int)=some c∧x.head? =some c:=by
 unfold inR at h
 simp only[Bool.and_eq_true,decide_eq_true_eq]at h
 cases x with
 |nil=>simp at h
 |cons c r=>exact⟨c,rfl,rfl⟩
theorem req_b0{k:Nat}(hk:1073741824≤k)(a b c:List UInt8)(d:List IField)(h:a.length<1073741824):S_IsRequest_b0 k k 0 a b c d=some (ocOf (bif noB isLow a then none else some false)):=by
 have:=find_all (len:=a.length) (c:=fun i=>bif bP isLow a i then some false else none) (F:=fun n i=>S_IsRequest_b0 k n i a b c d) (fun n i hi=>by
  have hb:=UInt8.toNat_lt a[i]
  simp only[S_IsRequest_b0,idx_nat hi,Option.bind_some,wrap_succ (by omega:i<9223372036854775807),bif_dec,lt_cast,hi,if_true,bP_at hi,isLow]
  rw[wrap_id (by omega) (by omega),S_l1In_eq,Option.bind_some]
  cases inR (a[i].toNat:Int) 97 122<;>rfl) (fun n i hi=>by
  simp only[S_IsRequest_b0,bif_dec,lt_cast]
  rw[if_neg (by omega)]) (k:=k) (by omega)
 rw[this,findI_first]
 unfold noB
 cases firstI (bP isLow a) a.length 0<;>rfl
theorem req_b2{k:Nat}(hk:1073741824≤k)(a b c:List UInt8)(d:List IField)(h:b.length<1073741824):S_IsRequest_b2 k k 0 a b c d=some (ocOf (bif noB badH b then none else some false)):=by
 have:=find_all (len:=b.length) (c:=fun i=>bif bP badH b i then some false else none) (F:=fun n i=>S_IsRequest_b2 k n i a b c d) (fun n i hi=>by
  have hb:=UInt8.toNat_lt b[i]
  have e45:((UInt8.toNat b[i]:Int) !=(45:Int))=(b[i] !=45):=u8_ne b[i] 45
  have e46:((UInt8.toNat b[i]:Int) !=(46:Int))=(b[i] !=46):=u8_ne b[i] 46
  simp only[S_IsRequest_b2,idx_nat hi,Option.bind_some,wrap_succ (by omega:i<9223372036854775807),bif_dec,lt_cast,hi,if_true,bP_at hi,badH,e45,e46]
  rw[wrap_id (by omega) (by omega),S_l1In_eq,S_l1In_eq,Option.bind_some]
  cases inR (b[i].toNat:Int) 97 122<;>cases inR (b[i].toNat:Int) 48 57<;>cases (b[i] !=45)<;>cases (b[i] !=46)<;>rfl) (fun n i hi=>by
  simp only[S_IsRequest_b2,bif_dec,lt_cast]
  rw[if_neg (by omega)]) (k:=k) (by omega)
 rw[this,findI_first]
 unfold noB
 cases firstI (bP badH b) b.length 0<;>rfl
theorem req_b4{k:Nat}(hk:1073741824≤k)(a b c:List UInt8)(d:List IField)(h:c.length<1073741824):S_IsRequest_b4 k k 0 a b c d=some (ocOf (bif noB badT c then none else some false)):=by
 have:=find_all (len:=c.length) (c:=fun i=>bif bP badT c i then some false else none) (F:=fun n i=>S_IsRequest_b4 k n i a b c d) (fun n i hi=>by
  have hb:=UInt8.toNat_lt c[i]
  simp only[S_IsRequest_b4,idx_nat hi,Option.bind_some,wrap_succ (by omega:i<9223372036854775807),bif_dec,lt_cast,hi,if_true,bP_at hi,badT]
  rw[wrap_id (by omega) (by omega),S_l1In_eq,Option.bind_some]
  cases inR (c[i].toNat:Int) 33 126<;>rfl) (fun n i hi=>by
  simp only[S_IsRequest_b4,bif_dec,lt_cast]
  rw[if_neg (by omega)]) (k:=k) (by omega)
 rw[this,findI_first]
 unfold noB
 cases firstI (bP badT c) c.length 0<;>rfl
theorem S_IsRequest_eq{k:Nat}(hk:1073741824≤k)(r:IRequest)(h:ReqIn r):S_IsRequest k r=some (isReq r):=by
 have hl:r.Fields.length<1073741824:=by have:=h.f;unfold fsz at this;omega
 have hg:(getF r.Fields hostT).2=hasF r.Fields hostT:=getF_has hostT r.Fields
 have hg2:(getF r.Fields clen).2=hasF r.Fields clen:=getF_has clen r.Fields
 have e11:S_l11Fields k r.Fields=some (areF r.Fields&&decide ((r.Fields.length:Int)<24)&& !hasF r.Fields clen):=by
  rw[S_l11Fields]
  show(S_GetField k r.Fields clen).bind _=_
  rw[S_GetField_eq hk _ _ h.f,Option.bind_some,S_AreFields_eq hk _ hl h.s,Option.bind_some,hg2]
  cases areF r.Fields<;>cases decide ((r.Fields.length:Int)<24)<;>rfl
 rw[S_IsRequest,req_b0 hk _ _ _ _ h.m,Option.bind_some]
 unfold isReq
 cases noB isLow r.Method with
 |false=>rfl
 |true=>
  simp only[cond_true,ocOf,oc,req_b2 hk _ _ _ _ h.h,Option.bind_some]
  cases noB badH r.Host with
  |false=>rfl
  |true=>
   simp only[cond_true,req_b4 hk _ _ _ _ h.t,Option.bind_some,ocOf,oc]
   cases noB badT r.Target with
   |false=>rfl
   |true=>
    simp only[cond_true]
    show((S_GetField k r.Fields hostT).bind _)=_
    rw[S_GetField_eq hk _ _ h.f,Option.bind_some,S_IsToken_eq hk _ h.m,Option.bind_some,hg]
    simp only[S_l1In_eq,Option.bind_some]
    cases isTok r.Method<;>cases inR (r.Host.length:Int) 1 40<;>try rfl
    cases ht:inR (r.Target.length:Int) 1 100 with
    |false=>simp
    |true=>
     obtain⟨c,hc,hd⟩:=idx0 ht
     have e47:((UInt8.toNat c:Int)==(47:Int))=(c==47):=u8_eq c 47
     have e47':(some c==some (47:UInt8))=(c==47):=by cases h:(c==47)<;>simp_all
     simp only[cond_true,hc,hd,Option.bind_some,e47,e11,e47',Bool.true_and]
     cases (c==47)<;>cases areF r.Fields<;>cases decide ((r.Fields.length:Int)<24)<;>cases hasF r.Fields clen<;>simp
def tgtP(x:List IResource)(s:List UInt8)(i:Nat):Bool:=match x[i]? with|some e=>e.Target==s|none=>false
def findR(x:List IResource)(s:List UInt8):Int:=match firstI (tgtP x s) x.length 0 with|some j=>(j:Int)|none=> -1
theorem S_FindResource_eq{k:Nat}(hk:1073741824≤k)(o:IOrigin)(s:List UInt8)(h:o.Resources.length<1073741824):S_FindResource k o s=some (findR o.Resources s):=by
 have:=find_all (len:=o.Resources.length) (c:=fun i=>bif tgtP o.Resources s i then some (i:Int)else none) (F:=fun n i=>S_FindResource_b0 k n s i o.Host o.Resources) (fun n i hi=>by
  simp only[S_FindResource_b0,idx_nat hi,Option.bind_some,wrap_succ (by omega:i<9223372036854775807),bif_dec,lt_cast,hi,if_true,tgtP,List.getElem?_eq_getElem hi]
  cases (o.Resources[i].Target==s)<;>rfl) (fun n i hi=>by
  simp only[S_FindResource_b0,bif_dec,lt_cast]
  rw[if_neg (by omega)]) (k:=k) (by omega)
 rw[S_FindResource,this,findI_first]
 unfold findR
 cases firstI (tgtP o.Resources s) o.Resources.length 0<;>rfl
theorem findR_lt(x:List IResource)(s:List UInt8): -1≤findR x s∧findR x s<(x.length:Int):=by
 unfold findR
 cases hf:firstI (tgtP x s) x.length 0 with
 |none=>simp only;omega
 |some j=>have:=firstI_lt hf;simp only;omega
def allB(p:Nat→Bool)(m i:Nat):Bool:=(findI (fun j=>bif p j then none else some false) m i).isNone
theorem allB_succ(p:Nat→Bool)(m i:Nat):allB p (m+1) i=(p i&&allB p m (i+1)):=by
 unfold allB
 rw[findI]
 cases p i<;>rfl
theorem allB_iff{p:Nat→Bool}:∀(m i:Nat),allB p m i=true↔∀j,i≤j→j<i+m→p j=true
 |0,i=>⟨fun _ j h1 h2=>by omega,fun _=>rfl⟩
 |m+1,i=>by
  rw[allB_succ,Bool.and_eq_true,allB_iff m (i+1)]
  constructor
  ·rintro⟨h1,h2⟩ j h3 h4
   by_cases e:j=i
   ·exact e▸h1
   ·exact h2 j (by omega) (by omega)
  ·exact fun h=>⟨h i (by omega) (by omega),fun j h1 h2=>h j (by omega) (by omega)⟩
theorem allB_find{p:Nat→Bool}:∀(m i:Nat),ocOf (findI (fun j=>bif p j then none else some false) m i)=bif allB p m i then .nrm ()else .oth false
 |0,_=>rfl
 |m+1,i=>by
  rw[allB_succ,findI]
  cases p i with
  |false=>rfl
  |true=>exact allB_find m (i+1)
theorem all_loop{len:Nat}{p:Nat→Bool}{F:Nat→Int→Option (Oc Unit Bool)}
 (T:∀n i,i<len→F (n+1) (i:Int)=bif p i then F n ((i+1:Nat):Int)else some (.oth false))
 (E:∀n i,len≤i→F (n+1) (i:Int)=some (.nrm ())) {k:Nat} (hk:len<k):F k 0=some (bif allB p len 0 then .nrm ()else .oth false):=by
 have:=find_all (R:=Bool) (len:=len) (c:=fun j=>bif p j then none else some false) (F:=F) (fun n i h=>by
  rw[T n i h]
  cases p i<;>rfl) E hk
 rw[this,allB_find]
def tokP(l:List (List UInt8))(i:Nat):Bool:=match l[i]? with|some e=>isTok e|none=>true
def keysT(s:List UInt8):Bool:=bif s==[]then true else allB (tokP (cutP 32 s [])) (cutP 32 s []).length 0&&decide (((cutP 32 s []).length:Int)≤4)
theorem S_l15Keys_eq{k:Nat}(hk:1073741824≤k)(s:List UInt8)(h:s.length<1073741000):S_l15Keys k s=some (keysT s):=by
 have hl:=cutP_len 32 s []
 have hsp:S_l12Split k s 32=some (cutP 32 s []):=S_l12Split_eq hk s 32 h
 have hb:=all_loop (len:=(cutP 32 s []).length) (p:=tokP (cutP 32 s [])) (F:=fun n i=>S_l15Keys_b0 k n i (cutP 32 s [])) (fun n i hi=>by
  have hm:=cutP_mem 32 s [] _ (List.getElem_mem hi)
  simp only[List.length_nil]at hm
  rw[S_l15Keys_b0,bif_dec,if_pos (by omega),idx_nat hi,Option.bind_some,Option.bind_some,S_IsToken_eq hk _ (by omega),Option.bind_some,wrap_succ (by omega)]
  unfold tokP
  rw[List.getElem?_eq_getElem hi]
  cases h:isTok (cutP 32 s [])[i]<;>simp[h]) (fun n i hi=>by
  rw[S_l15Keys_b0,bif_dec,if_neg (by omega)]) (k:=k) (by omega)
 have hb':S_l15Keys_b0 k k 0 (cutP 32 s [])=_:=hb
 rw[S_l15Keys,hsp,Option.bind_some,hb',Option.bind_some]
 unfold keysT
 cases (s==[])with
 |true=>rfl
 |false=>cases allB (tokP (cutP 32 s [])) (cutP 32 s []).length 0<;>rfl
def eqAt(l:List (List UInt8))(e:List UInt8)(j:Nat):Bool:=match l[j]? with|some x=> !(x==e)|none=>true
def langP(l:List (List UInt8))(i:Nat):Bool:=match l[i]? with
 |some e=>allB (eqAt l e) i 0&&(nameOK e&&(decide ((e.length:Int)≤8)&& !(e==[42])))
 |none=>true
def verP(l:List IVersion)(i:Nat):Bool:=match l[i]? with
 |some e=>inR e.At 0 4102444799&&(decide ((e.Text.length:Int)≤400)&&(bif decide (0<i)then(match l[i -1]? with|some f=>decide (f.At<e.At)|none=>true)else true))
 |none=>true
def resT(r:IResource):Bool:=
 allB (langP r.Langs) r.Langs.length 0&&(allB (verP r.Versions) r.Versions.length 0&&(((normT r.Target).2&&((normT r.Target).1==r.Target))&&(decide ((r.Target.length:Int)≤100)&&(valOK r.Control&&(decide ((r.Control.length:Int)≤150)&&(keysT r.Keys&&(decide ((r.Langs.length:Int)≤4)&&inR (r.Versions.length:Int) 1 8)))))))
structure ResIn(r:IResource):Prop where
 ht:r.Target.length<134217728
 hc:r.Control.length<134217728
 hk:r.Keys.length<134217728
 hl:r.Langs.length<134217728
 hle:∀e∈r.Langs,e.length<134217728
 hv:r.Versions.length<134217728
theorem dec_gt(a b:Int):decide (a>b)= !decide (a≤b):=by
 by_cases h:a≤b
 ·rw[decide_eq_true h,decide_eq_false (by omega)];rfl
 ·rw[decide_eq_false h,decide_eq_true (by omega)];rfl
theorem dec_ge(a b:Int):decide (a≥b)= !decide (a<b):=by
 by_cases h:a<b
 ·rw[decide_eq_true h,decide_eq_false (by omega)];rfl
 ·rw[decide_eq_false h,decide_eq_true (by omega)];rfl
theorem S_lang_in{k:Nat}{y0 y1 y2:List UInt8}{y3:Bool}{l:List (List UInt8)}{y5:List IVersion}(hk:1073741824≤k)(hl:l.length<134217728){i:Nat}(hi:i<l.length):
 S_l15Resource_b2 k k (i:Int) 0 y0 y1 y2 y3 l y5=some (bif allB (eqAt l l[i]) i 0 then .nrm ()else .oth false):=
 all_loop (len:=i) (p:=eqAt l l[i]) (F:=fun n j=>S_l15Resource_b2 k n (i:Int) j y0 y1 y2 y3 l y5) (fun n j hj=>by
  have hj2:j<l.length:=by omega
  rw[S_l15Resource_b2,bif_dec,if_pos (by omega),idx_nat hj2,Option.bind_some,idx_nat hi,Option.bind_some,wrap_succ (by omega)]
  unfold eqAt
  rw[List.getElem?_eq_getElem hj2]
  simp only
  cases (l[j]==l[i])<;>rfl) (fun n j hj=>by
  rw[S_l15Resource_b2,bif_dec,if_neg (by omega)]) (by omega)
theorem S_langs{k:Nat}{y0 y1 y2:List UInt8}{y3:Bool}{l:List (List UInt8)}{y5:List IVersion}(hk:1073741824≤k)(hl:l.length<134217728)(hle:∀e∈l,e.length<134217728):
 S_l15Resource_b0 k k 0 y0 y1 y2 y3 l y5=some (bif allB (langP l) l.length 0 then .nrm ()else .oth false):=
 all_loop (len:=l.length) (p:=langP l) (F:=fun n j=>S_l15Resource_b0 k n j y0 y1 y2 y3 l y5) (fun n i hi=>by
  have hh:=hle _ (List.getElem_mem hi)
  rw[S_l15Resource_b0,bif_dec,if_pos (by omega),S_lang_in hk hl hi,Option.bind_some]
  unfold langP
  rw[List.getElem?_eq_getElem hi]
  simp only
  cases allB (eqAt l l[i]) i 0 with
  |false=>rfl
  |true=>
   rw[cond_true]
   simp only[oc]
   rw[idx_nat hi,Option.bind_some,S_l5Name_eq hk _ (by omega),Option.bind_some,Option.bind_some,Option.bind_some,dec_gt,wrap_succ (by omega),Bool.true_and]
   cases nameOK l[i]<;>cases decide ((l[i].length:Int)≤8)<;>cases (l[i]==[42])<;>rfl) (fun n j hj=>by
  rw[S_l15Resource_b0,bif_dec,if_neg (by omega)]) (by omega)
theorem S_vers{k:Nat}{y0 y1 y2:List UInt8}{y3:Bool}{y4:List (List UInt8)}{l:List IVersion}(hk:1073741824≤k)(hl:l.length<134217728):
 S_l15Resource_b4 k k 0 y0 y1 y2 y3 y4 l=some (bif allB (verP l) l.length 0 then .nrm ()else .oth false):=
 all_loop (len:=l.length) (p:=verP l) (F:=fun n j=>S_l15Resource_b4 k n j y0 y1 y2 y3 y4 l) (fun n i hi=>by
  rw[S_l15Resource_b4,bif_dec,if_pos (by omega),idx_nat hi,Option.bind_some,S_l1In_eq,Option.bind_some,dec_gt (l[i].Text.length:Int) 400,wrap_succ (by omega)]
  unfold verP
  rw[List.getElem?_eq_getElem hi]
  simp only
  by_cases c:0<i
  ·have e1:IntKind.wrap .i64 ((i:Int) -1)=((i -1:Nat):Int):=by rw[wrap_id (by omega) (by omega)];omega
   have h1:i -1<l.length:=by omega
   rw[decide_eq_true (by omega:(i:Int)>0),cond_true,e1,idx_nat h1,Option.bind_some,dec_ge l[i -1].At l[i].At,decide_eq_true c,cond_true,List.getElem?_eq_getElem h1]
   simp only
   cases inR l[i].At 0 4102444799<;>cases decide ((l[i].Text.length:Int)≤400)<;>cases decide (l[i -1].At<l[i].At)<;>rfl
  ·rw[decide_eq_false (by omega:¬(i:Int)>0),cond_false,decide_eq_false c,cond_false]
   cases inR l[i].At 0 4102444799<;>cases decide ((l[i].Text.length:Int)≤400)<;>rfl) (fun n j hj=>by
  rw[S_l15Resource_b4,bif_dec,if_neg (by omega)]) (by omega)
theorem S_l15Resource_eq{k:Nat}(hk:1073741824≤k)(r:IResource)(h:ResIn r):S_l15Resource k r=some (resT r):=by
 have ht:=h.ht
 have hc:=h.hc
 have hkk:=h.hk
 rw[S_l15Resource,S_langs hk h.hl h.hle,Option.bind_some,S_vers hk h.hv,Option.bind_some]
 unfold resT
 cases allB (langP r.Langs) r.Langs.length 0 with
 |false=>rfl
 |true=>
  cases allB (verP r.Versions) r.Versions.length 0 with
  |false=>rfl
  |true=>
   simp only[cond_true,oc]
   rw[S_IsNormalTarget_eq hk _ ht,Option.bind_some,S_l5Value_eq hk _ (by omega),Option.bind_some,S_l15Keys_eq hk _ (by omega),Option.bind_some,S_l1In_eq,Option.bind_some]
   generalize ((normT r.Target).2&&((normT r.Target).1==r.Target))=b1
   cases b1<;>cases decide ((r.Target.length:Int)≤100)<;>cases valOK r.Control<;>cases decide ((r.Control.length:Int)≤150)<;>cases keysT r.Keys<;>cases decide ((r.Langs.length:Int)≤4)<;>rfl
def orgP(l:List IResource)(i:Nat):Bool:=match l[i]? with|some e=>resT e&&(findR l e.Target==(i:Int))|none=>true
def askO(h:List UInt8):IRequest:=⟨[71,69,84],h,[47],[]⟩
def orgT(o:IOrigin):Bool:=allB (orgP o.Resources) o.Resources.length 0&&(decide ((o.Resources.length:Int)≤12)&&isReq (askO o.Host))
structure OrgIn(o:IOrigin):Prop where
 hh:o.Host.length<134217728
 hr:o.Resources.length<134217728
 hre:∀e∈o.Resources,ResIn e
theorem askO_in{h:List UInt8}(hh:h.length<134217728):ReqIn (askO h):=⟨by simp[askO],by simp only[askO];omega,by simp[askO],by simp[askO,fsz],fun e he=>by simp[askO]at he⟩
theorem S_IsOrigin_eq{k:Nat}(hk:1073741824≤k)(o:IOrigin)(h:OrgIn o):S_IsOrigin k o=some (orgT o):=by
 have hr:=h.hr
 have hb:=all_loop (len:=o.Resources.length) (p:=orgP o.Resources) (F:=fun n j=>S_IsOrigin_b0 k n j o.Host o.Resources) (fun n i hi=>by
  have hq:=S_FindResource_eq hk (⟨o.Host,o.Resources⟩:IOrigin) (o.Resources[i]).Target (by simp only;omega)
  rw[S_IsOrigin_b0,bif_dec,if_pos (by omega),idx_nat hi,Option.bind_some,S_l15Resource_eq hk _ (h.hre _ (List.getElem_mem hi)),Option.bind_some,Option.bind_some,hq,Option.bind_some,wrap_succ (by omega),bne]
  unfold orgP
  rw[List.getElem?_eq_getElem hi]
  simp only
  cases resT o.Resources[i]<;>cases (findR o.Resources (o.Resources[i]).Target==(i:Int))<;>rfl) (fun n j hj=>by
  rw[S_IsOrigin_b0,bif_dec,if_neg (by omega)]) (k:=k) (by omega)
 have hb':S_IsOrigin_b0 k k 0 o.Host o.Resources=_:=hb
 have ha:S_IsRequest k ⟨[71,69,84],o.Host,[47],[]⟩=some (isReq (askO o.Host)):=S_IsRequest_eq hk _ (askO_in h.hh)
 rw[S_IsOrigin,hb',Option.bind_some,ha,Option.bind_some]
 unfold orgT
 cases allB (orgP o.Resources) o.Resources.length 0 with
 |false=>rfl
 |true=>cases decide ((o.Resources.length:Int)≤12)<;>rfl
def okT(e:List UInt8):Bool:=(pTag e).2
def valT(e:List UInt8):ITag:=(pTag e).1
theorem I_tags_loop{k:Nat}(hk:1073741824≤k){l:List (List UInt8)}(hl:l.length<1073741824)(hm:∀e∈l,e.length<1073741824):∀(n i:Nat) (r:List ITag),i≤l.length→l.length -i<n→r.length≤i→
 I_ParseTagList_b0 k n (l.length:Int) (i:Int) r l=some (bif(l.drop i).all okT then .nrm (r++(l.drop i).map valT)else .oth ([],false,false)):=by
 intro n
 induction n with
 |zero=>intro i r _ h;omega
 |succ n ih=>
  intro i r hi hn hr
  rw[I_ParseTagList_b0,bif_dec]
  by_cases c:i<l.length
  ·rw[if_pos (by omega),idx_nat c,Option.bind_some,Option.bind_some,I_ParseTag_eq hk _ (hm _ (List.getElem_mem c)),Option.bind_some,List.drop_eq_getElem_cons c,List.all_cons,List.map_cons]
   cases ho:(pTag l[i]).2 with
   |false=>unfold okT;rw[ho];rfl
   |true=>
    unfold okT
    rw[ho,Bool.not_true,cond_false,Bool.true_and,appn_ok (by simp;omega),Option.bind_some,wrap_succ (by omega),ih (i+1) _ (by omega) (by omega) (by simp;omega)]
    unfold okT valT
    rw[List.append_assoc];rfl
  ·rw[if_neg (by omega),List.drop_of_length_le (by omega)]
   simp
def tagsT(s:List UInt8):List ITag×Bool×Bool:=
 bif trimT s==[42]then([],true,true)else bif(splitL s).all okT&&decide ((splitL s).length≤8)then((splitL s).map valT,false,decide ((splitL s).length>0))else([],false,false)
theorem tags_zero(s:List UInt8)(h:(splitL s).length=0):(splitL s).map valT=[]:=by rw[List.length_eq_zero_iff.1 h];rfl
theorem I_ParseTagList_eq{k:Nat}(hk:1073741824≤k)(s:List UInt8)(h:s.length<1073741000):I_ParseTagList k s=some (tagsT s):=by
 have h1:=splitL_len s
 have b:=I_tags_loop hk (l:=splitL s) (by omega) (fun e he=>by have:=splitL_mem he;omega) k 0 [] (by omega) (by omega) (by simp)
 have b':I_ParseTagList_b0 k k ((splitL s).length:Int) 0 [] (splitL s)=some (bif(splitL s).all okT then .nrm ((splitL s).map valT)else .oth ([],false,false)):=by simpa using b
 rw[I_ParseTagList,I_TrimText_eq s (by omega),Option.bind_some,I_SplitList_eq hk s h,Option.bind_some,b',Option.bind_some]
 unfold tagsT
 cases (trimT s==[42])with
 |true=>rfl
 |false=>
  rw[cond_false,cond_false]
  cases (splitL s).all okT with
  |false=>rfl
  |true=>
   rw[cond_true,Bool.true_and]
   simp only[oc,List.length_map]
   rw[I_inRange_eq,Option.bind_some]
   by_cases c:(splitL s).length≤8
   ·rw[decide_eq_true c,cond_true]
    by_cases c0:(splitL s).length=0
    ·have:inR ((splitL s).length:Int) 1 8=false:=by unfold inR;rw[decide_eq_false (p:=(1:Int)≤((splitL s).length:Int)) (by omega),Bool.false_and]
     rw[this,tags_zero s c0,decide_eq_false (by omega)];rfl
    ·rw[inR_t (by omega) (by omega),decide_eq_true (by omega)];rfl
   ·have:inR ((splitL s).length:Int) 1 8=false:=by unfold inR;rw[decide_eq_false (p:=((splitL s).length:Int)≤8) (by omega),Bool.and_false]
    rw[this,decide_eq_false c];rfl
theorem tagsT_len(s:List UInt8):(tagsT s).1.length≤8:=by
 unfold tagsT
 cases (trimT s==[42])with
 |true=>simp
 |false=>
  rw[cond_false]
  cases hc:(splitL s).all okT&&decide ((splitL s).length≤8)with
  |false=>simp
  |true=>
   rw[Bool.and_eq_true,decide_eq_true_eq]at hc
   rw[cond_true]
   simp only[List.length_map]
   exact hc.2
def sameS(e t:ITag):Bool:= !e.Weak&&(!t.Weak&&(e.Text==t.Text))
def sameW(e t:ITag):Bool:=e.Text==t.Text
def sameT(strong:Bool)(e t:ITag):Bool:=bif strong then sameS e t else sameW e t
def matchT(st:Bool)(s:List UInt8)(t:ITag)(has:Bool):Bool×Bool:=bif !(tagsT s).2.2 then(false,true)else bif has&&(tagsT s).1.any (sameT st · t)then(true,false)else((tagsT s).2.1,false)
theorem has_loop_1{k:Nat}{w:Bool}{x:List UInt8}{l:List ITag}(hl:l.length<1073741824):∀(n i:Nat),i≤l.length→l.length -i<n→
 ∃o,slices_IndexFunc_ITag_at_I_CheckConditions_1_b0 k n l w x (l.length:Int) (i:Int)=some o∧((o= .nrm ()∧(l.drop i).any (sameS · ⟨w,x⟩)=false)∨∃j:Nat,o= .oth (j:Int)∧(l.drop i).any (sameS · ⟨w,x⟩)=true):=by
 intro n
 induction n with
 |zero=>intro i _ h;omega
 |succ n ih=>
  intro i hi hn
  rw[slices_IndexFunc_ITag_at_I_CheckConditions_1_b0,bif_dec]
  by_cases c:i<l.length
  ·rw[if_pos (by omega),idx_nat c,Option.bind_some,I_CheckConditions_1,I_StrongSame_eq,Option.bind_some,Option.bind_some,wrap_succ (by omega),List.drop_eq_getElem_cons c,List.any_cons]
   cases hs:(!l[i].Weak&&(!w&&(l[i].Text==x)))with
   |true=>exact⟨_,rfl,.inr ⟨i,rfl,by unfold sameS;rw[hs];rfl⟩⟩
   |false=>
    obtain⟨o,h1,h2⟩:=ih (i+1) (by omega) (by omega)
    refine⟨o,h1, ?_⟩
    have:sameS l[i] ⟨w,x⟩=false:=by unfold sameS;exact hs
    rw[this,Bool.false_or];exact h2
  ·rw[if_neg (by omega),List.drop_of_length_le (by omega)]
   exact⟨_,rfl,.inl ⟨rfl,rfl⟩⟩
theorem has_1{k:Nat}(hk:1073741824≤k){w:Bool}{x:List UInt8}{l:List ITag}(hl:l.length<1073741824):slices_ContainsFunc_ITag_at_I_CheckConditions_1 k l w x=some (l.any (sameS · ⟨w,x⟩)):=by
 obtain⟨o,h1,h2⟩:=has_loop_1 (k:=k) (w:=w) (x:=x) hl k 0 (by omega) (by omega)
 have h1':slices_IndexFunc_ITag_at_I_CheckConditions_1_b0 k k l w x (l.length:Int) 0=some o:=h1
 rw[List.drop_zero]at h2
 rw[slices_ContainsFunc_ITag_at_I_CheckConditions_1,slices_IndexFunc_ITag_at_I_CheckConditions_1,h1',Option.bind_some]
 rcases h2 with⟨rfl,h2⟩|⟨j,rfl,h2⟩
 ·rw[h2];rfl
 ·rw[h2]
  simp only[oc,Option.bind_some]
  rw[decide_eq_true (by omega)]
theorem has_loop_2{k:Nat}{w:Bool}{x:List UInt8}{l:List ITag}(hl:l.length<1073741824):∀(n i:Nat),i≤l.length→l.length -i<n→
 ∃o,slices_IndexFunc_ITag_at_I_CheckConditions_2_b0 k n l w x (l.length:Int) (i:Int)=some o∧((o= .nrm ()∧(l.drop i).any (sameW · ⟨w,x⟩)=false)∨∃j:Nat,o= .oth (j:Int)∧(l.drop i).any (sameW · ⟨w,x⟩)=true):=by
 intro n
 induction n with
 |zero=>intro i _ h;omega
 |succ n ih=>
  intro i hi hn
  rw[slices_IndexFunc_ITag_at_I_CheckConditions_2_b0,bif_dec]
  by_cases c:i<l.length
  ·rw[if_pos (by omega),idx_nat c,Option.bind_some,I_CheckConditions_2,I_WeakSame,Option.bind_some,Option.bind_some,wrap_succ (by omega),List.drop_eq_getElem_cons c,List.any_cons]
   cases hs:(l[i].Text==x)with
   |true=>exact⟨_,rfl,.inr ⟨i,rfl,by unfold sameW;rw[hs];rfl⟩⟩
   |false=>
    obtain⟨o,h1,h2⟩:=ih (i+1) (by omega) (by omega)
    refine⟨o,h1, ?_⟩
    have:sameW l[i] ⟨w,x⟩=false:=by unfold sameW;exact hs
    rw[this,Bool.false_or];exact h2
  ·rw[if_neg (by omega),List.drop_of_length_le (by omega)]
   exact⟨_,rfl,.inl ⟨rfl,rfl⟩⟩
theorem has_2{k:Nat}(hk:1073741824≤k){w:Bool}{x:List UInt8}{l:List ITag}(hl:l.length<1073741824):slices_ContainsFunc_ITag_at_I_CheckConditions_2 k l w x=some (l.any (sameW · ⟨w,x⟩)):=by
 obtain⟨o,h1,h2⟩:=has_loop_2 (k:=k) (w:=w) (x:=x) hl k 0 (by omega) (by omega)
 have h1':slices_IndexFunc_ITag_at_I_CheckConditions_2_b0 k k l w x (l.length:Int) 0=some o:=h1
 rw[List.drop_zero]at h2
 rw[slices_ContainsFunc_ITag_at_I_CheckConditions_2,slices_IndexFunc_ITag_at_I_CheckConditions_2,h1',Option.bind_some]
 rcases h2 with⟨rfl,h2⟩|⟨j,rfl,h2⟩
 ·rw[h2];rfl
 ·rw[h2]
  simp only[oc,Option.bind_some]
  rw[decide_eq_true (by omega)]
def failT(q:List IField)(t:ITag)(has:Bool)(at_:Int)(dated:Bool):Bool:=
 bif(getF q [105,102,45,109,97,116,99,104]).2 then !(matchT true (getF q [105,102,45,109,97,116,99,104]).1 t has).1
 else bif(getF q [105,102,45,117,110,109,111,100,105,102,105,101,100,45,115,105,110,99,101]).2 then(bif(pDate (getF q [105,102,45,117,110,109,111,100,105,102,105,101,100,45,115,105,110,99,101]).1).2 then(bif dated then decide (at_>(pDate (getF q [105,102,45,117,110,109,111,100,105,102,105,101,100,45,115,105,110,99,101]).1).1)else false)else false)else false
theorem getF_short2{fs:List IField}(n:List UInt8)(h:fsz fs<268435456):(getF fs n).1.length<1073741000:=by have:=getF_len fs n;omega
theorem I_c52_eq{k:Nat}(hk:1073741824≤k)(has reads dated w:Bool)(at_:Int)(x m ho ta:List UInt8)(q:List IField)(h:fsz q<268435456):
 I_CheckConditions_c52 k has at_ dated reads (getF q [105,102,45,109,97,116,99,104]).1 (getF q [105,102,45,109,97,116,99,104]).2 m ho ta q w x=some (bif failT q ⟨w,x⟩ has at_ dated then .oth 412 else .nrm ()):=by
 have h8:=tagsT_len (getF q [105,102,45,109,97,116,99,104]).1
 rw[I_CheckConditions_c52,I_ParseTagList_eq hk _ (getF_short2 _ h),Option.bind_some,has_1 hk (by omega),Option.bind_some,I_GetField_eq hk _ _ h,Option.bind_some,I_CheckConditions_c80,I_ParseDate_eq hk _ (getF_short _ h),Option.bind_some]
 unfold failT matchT sameT
 simp only[cond_true]
 cases (getF q [105,102,45,109,97,116,99,104]).2 with
 |true=>
  cases (tagsT (getF q [105,102,45,109,97,116,99,104]).1).2.2 with
  |false=>rfl
  |true=>
   cases (tagsT (getF q [105,102,45,109,97,116,99,104]).1).2.1 with
   |true=>cases has<;>cases (tagsT (getF q [105,102,45,109,97,116,99,104]).1).1.any (sameS · ⟨w,x⟩)<;>rfl
   |false=>cases has<;>cases (tagsT (getF q [105,102,45,109,97,116,99,104]).1).1.any (sameS · ⟨w,x⟩)<;>rfl
 |false=>
  cases (getF q [105,102,45,117,110,109,111,100,105,102,105,101,100,45,115,105,110,99,101]).2 with
  |false=>rfl
  |true=>
   cases (pDate (getF q [105,102,45,117,110,109,111,100,105,102,105,101,100,45,115,105,110,99,101]).1).2 with
   |false=>rfl
   |true=>
    cases dated with
    |false=>rfl
    |true=>cases decide (at_>(pDate (getF q [105,102,45,117,110,109,111,100,105,102,105,101,100,45,115,105,110,99,101]).1).1)<;>rfl
def notModT(s:List UInt8)(at_:Int)(dated:Bool):Bool:=(pDate s).2&&dated&&decide (at_≤(pDate s).1)
theorem I_c135_eq{k:Nat}(hk:1073741824≤k)(at_:Int)(dated b:Bool)(s:List UInt8)(h:s.length<1073741824):I_CheckConditions_c135 k at_ dated s b=some (bif b&&notModT s at_ dated then .oth 304 else .nrm ()):=by
 rw[I_CheckConditions_c135,I_ParseDate_eq hk _ h,Option.bind_some]
 unfold notModT
 cases b<;>cases (pDate s).2<;>cases dated<;>cases decide (at_≤(pDate s).1)<;>rfl
def condT(m:List UInt8)(q x:List IField):Int:=
 bif failT q (ansTag x).1 (ansTag x).2 (dateF x [108,97,115,116,45,109,111,100,105,102,105,101,100]).1 (dateF x [108,97,115,116,45,109,111,100,105,102,105,101,100]).2 then 412
 else bif(getF q [105,102,45,110,111,110,101,45,109,97,116,99,104]).2 then(bif !(matchT false (getF q [105,102,45,110,111,110,101,45,109,97,116,99,104]).1 (ansTag x).1 (ansTag x).2).1 then 200 else bif(m==[71,69,84]||m==[72,69,65,68])then 304 else 412)
 else bif(getF q [105,102,45,109,111,100,105,102,105,101,100,45,115,105,110,99,101]).2&&((m==[71,69,84]||m==[72,69,65,68])&&notModT (getF q [105,102,45,109,111,100,105,102,105,101,100,45,115,105,110,99,101]).1 (dateF x [108,97,115,116,45,109,111,100,105,102,105,101,100]).1 (dateF x [108,97,115,116,45,109,111,100,105,102,105,101,100]).2)then 304 else 200
theorem matchT_w(s:List UInt8)(t:ITag)(has:Bool):(matchT false s t has).1=((tagsT s).2.2&&(has&&(tagsT s).1.any (sameW · t)||(tagsT s).2.1)):=by
 unfold matchT sameT
 simp only[cond_false]
 cases (tagsT s).2.2<;>cases has<;>cases (tagsT s).1.any (sameW · t)<;>rfl
theorem I_CheckConditions_eq{k:Nat}(hk:1073741824≤k)(r:IRequest)(x:IResponse)(h1:fsz r.Fields<268435456)(h2:fsz x.Fields<268435456):I_CheckConditions k r x=some (condT r.Method r.Fields x.Fields):=by
 have h8:=tagsT_len (getF r.Fields [105,102,45,110,111,110,101,45,109,97,116,99,104]).1
 rw[I_CheckConditions,I_answerTag_eq hk _ h2,Option.bind_some,I_dateField_eq hk _ _ h2,Option.bind_some,I_GetField_eq hk _ _ h1,Option.bind_some,Option.bind_some,I_c52_eq hk _ _ _ _ _ _ _ _ _ _ h1,I_c52_eq hk _ _ _ _ _ _ _ _ _ _ h1,Option.bind_some,Option.bind_some]
 unfold condT
 cases failT r.Fields (ansTag x.Fields).1 (ansTag x.Fields).2 (dateF x.Fields [108,97,115,116,45,109,111,100,105,102,105,101,100]).1 (dateF x.Fields [108,97,115,116,45,109,111,100,105,102,105,101,100]).2 with
 |true=>cases (r.Method==[71,69,84])<;>rfl
 |false=>
  have h9:=has_2 hk (w:=(ansTag x.Fields).1.Weak) (x:=(ansTag x.Fields).1.Text) (l:=(tagsT (getF r.Fields [105,102,45,110,111,110,101,45,109,97,116,99,104]).1).1) (by omega)
  simp only[cond_false,oc,Option.bind_some,I_GetField_eq hk _ _ h1,I_ParseTagList_eq hk _ (getF_short2 [105,102,45,110,111,110,101,45,109,97,116,99,104] h1),h9,I_c135_eq hk _ _ _ _ (getF_short [105,102,45,109,111,100,105,102,105,101,100,45,115,105,110,99,101] h1),matchT_w]
  cases (getF r.Fields [105,102,45,110,111,110,101,45,109,97,116,99,104]).2 with
  |true=>
   cases (tagsT (getF r.Fields [105,102,45,110,111,110,101,45,109,97,116,99,104]).1).2.2 with
   |false=>cases (r.Method==[71,69,84])<;>rfl
   |true=>cases (tagsT (getF r.Fields [105,102,45,110,111,110,101,45,109,97,116,99,104]).1).2.1<;>cases (ansTag x.Fields).2<;>cases (tagsT (getF r.Fields [105,102,45,110,111,110,101,45,109,97,116,99,104]).1).1.any (sameW · (ansTag x.Fields).1)<;>cases (r.Method==[71,69,84])<;>cases (r.Method==[72,69,65,68])<;>rfl
  |false=>
   cases (getF r.Fields [105,102,45,109,111,100,105,102,105,101,100,45,115,105,110,99,101]).2 with
   |false=>cases (r.Method==[71,69,84])<;>rfl
   |true=>cases (r.Method==[71,69,84])<;>cases (r.Method==[72,69,65,68])<;>cases notModT (getF r.Fields [105,102,45,109,111,100,105,102,105,101,100,45,115,105,110,99,101]).1 (dateF x.Fields [108,97,115,116,45,109,111,100,105,102,105,101,100]).1 (dateF x.Fields [108,97,115,116,45,109,111,100,105,102,105,101,100]).2<;>rfl
def rangeT(q x:List IField):Bool:=
 bif !(getF q [105,102,45,114,97,110,103,101]).2 then true else
 bif(pTag (getF q [105,102,45,114,97,110,103,101]).1).2 then(bif(ansTag x).2 then(!(pTag (getF q [105,102,45,114,97,110,103,101]).1).1.Weak&&(!(ansTag x).1.Weak&&((pTag (getF q [105,102,45,114,97,110,103,101]).1).1.Text==(ansTag x).1.Text)))else false)
 else bif(pDate (getF q [105,102,45,114,97,110,103,101]).1).2 then(bif(dateF x [108,97,115,116,45,109,111,100,105,102,105,101,100]).2 then(pDate (getF q [105,102,45,114,97,110,103,101]).1).1==(dateF x [108,97,115,116,45,109,111,100,105,102,105,101,100]).1 else false)else false
theorem I_RangeHolds_eq{k:Nat}(hk:1073741824≤k)(r:IRequest)(x:IResponse)(h1:fsz r.Fields<268435456)(h2:fsz x.Fields<268435456):I_RangeHolds k r x=some (rangeT r.Fields x.Fields):=by
 rw[I_RangeHolds,I_GetField_eq hk _ _ h1,Option.bind_some,I_ParseTag_eq hk _ (getF_short _ h1),Option.bind_some,I_answerTag_eq hk x h2,Option.bind_some,I_StrongSame_eq,Option.bind_some,I_ParseDate_eq hk _ (getF_short _ h1),Option.bind_some,I_dateField_eq hk x _ h2,Option.bind_some]
 unfold rangeT
 cases (getF r.Fields [105,102,45,114,97,110,103,101]).2 with
 |false=>rfl
 |true=>
  rw[Bool.not_true,cond_false,cond_false]
  cases (pTag (getF r.Fields [105,102,45,114,97,110,103,101]).1).2 with
  |true=>cases (ansTag x.Fields).2<;>rfl
  |false=>cases (pDate (getF r.Fields [105,102,45,114,97,110,103,101]).1).2<;>cases (dateF x.Fields [108,97,115,116,45,109,111,100,105,102,105,101,100]).2<;>rfl
theorem tokB_tab:∀n:Fin 256,tokB (UInt8.ofNat n.val)=true→tagB (UInt8.ofNat n.val)=true∧UInt8.ofNat n.val≠92:=by decide+kernel
theorem tokB_good{c:UInt8}(h:tokB c=true):tagB c=true∧c≠92:=by
 have:=tokB_tab ⟨c.toNat,UInt8.toNat_lt c⟩
 simp only[UInt8.ofNat_toNat]at this
 exact this h
theorem isTok_mem{x:List UInt8}(h:isTok x=true):∀c∈x,tokB c=true:=fun c hc=>by
 unfold isTok at h
 rw[Bool.and_eq_true,Option.isNone_iff_eq_none]at h
 obtain⟨j,hj,rfl⟩:=List.mem_iff_getElem.1 hc
 have:=firstI_none _ _ h.1 j (by omega) (by omega)
 unfold ntP at this
 rw[List.getElem?_eq_getElem hj]at this
 simpa using this
def GoodT(x:List UInt8):Prop:=∀c∈x,tagB c=true∧c≠92
theorem GoodT.app{x y:List UInt8}(hx:GoodT x)(hy:GoodT y):GoodT (x++y):=fun c hc=>by
 rcases List.mem_append.1 hc with h|h
 ·exact hx c h
 ·exact hy c h
theorem good_tok{x:List UInt8}(h:isTok x=true):GoodT x:=fun c hc=>tokB_good (isTok_mem h c hc)
theorem good_nil:GoodT []:=fun c hc=>by cases hc
theorem good_slash:GoodT [47]:=by unfold GoodT;decide
theorem good_digit:∀m:Fin 10,(Lib.itoa ((m.val:Nat):Int)).length=1∧∀c∈Lib.itoa ((m.val:Nat):Int),tagB c=true∧c≠92:=by
 intro m
 rw[itoa_small (by omega),if_pos m.isLt]
 revert m
 decide+kernel
def GoodS(s:List UInt8):Prop:=∃tx,s=34::(tx++[34])∧isTagT tx=true∧(∀c∈tx,c≠92)∧47∈tx
theorem good_fmt{tx:List UInt8}(h:GoodT tx)(hl:tx.length≤40)(h7:47∈tx):GoodS (fmtTag ⟨false,tx⟩):=by
 have ht:isTagT tx=true:=by
  unfold isTagT
  rw[Bool.and_eq_true,List.all_eq_true]
  exact⟨fun c hc=>(h c hc).1,decide_eq_true (by omega)⟩
 refine⟨tx, ?_,ht,fun c hc=>(h c hc).2,h7⟩
 unfold fmtTag
 simp only[ht,cond_true,cond_false]
 rfl
theorem cutG_in(b:UInt8):∀(x r cur:List UInt8),(∀c∈x,c≠34∧c≠92)→cutG b (x++r) true false cur=cutG b r true false (cur++x)
 |[],r,cur,_=>by simp
 |c::x,r,cur,h=>by
  obtain⟨h1,h2⟩:=h c (.head _)
  rw[List.cons_append,cutG,beq_eq_false_iff_ne.2 h1,beq_eq_false_iff_ne.2 h2,Bool.and_false,cond_false,cond_false,Bool.not_true,Bool.false_and,cond_false,cutG_in b x r _ fun d hd=>h d (.tail _ hd),List.append_assoc]
  rfl
theorem trim_quoted(tx:List UInt8):trimT (34::(tx++[34]))=34::(tx++[34]):=by
 unfold trimT rtrim
 rw[List.dropWhile_cons_of_neg (by decide),List.reverse_cons,List.reverse_append]
 show(List.dropWhile blank (34::(tx.reverse++[34]))).reverse=_
 rw[List.dropWhile_cons_of_neg (by decide)]
 simp
theorem splitL_tag{tx:List UInt8}(h:∀c∈tx,c≠34∧c≠92):splitL (34::(tx++[34]))=[34::(tx++[34])]:=by
 unfold splitL
 have e:cutG 44 (34::(tx++[34])) false false []=[34::(tx++[34])]:=by
  rw[cutG,Bool.false_and,cond_false]
  show cutG 44 (tx++[34]) true false [34]=_
  rw[cutG_in 44 tx [34] [34] h]
  rfl
 rw[e,List.flatMap_cons,List.flatMap_nil,List.append_nil]
 unfold keepF
 rw[trim_quoted]
 rfl
theorem pTag_quoted{tx:List UInt8}(h:isTagT tx=true):pTag (34::(tx++[34]))=(⟨false,tx⟩,true):=by
 have h1:preW (34::(tx++[34]))=false:=by
  unfold preW
  have:(List.take 2 (34::(tx++[34]))==[87,47])=false:=by cases tx<;>simp
  rw[this,Bool.and_false]
 unfold pTag tagQ
 rw[h1,cond_false,(okQ_iff _).2 ⟨tx,h,rfl⟩,cond_true,midQ_of]
theorem tagsT_quoted{tx:List UInt8}(h:isTagT tx=true)(h2:∀c∈tx,c≠92):tagsT (34::(tx++[34]))=([⟨false,tx⟩],false,true):=by
 have hq:∀c∈tx,c≠34:=fun c hc e=>by
  unfold isTagT at h
  rw[Bool.and_eq_true,List.all_eq_true]at h
  have:=h.1 c hc
  subst e
  revert this;decide
 unfold tagsT
 rw[trim_quoted]
 have:(34::(tx++[34])==[42])=false:=by simp
 rw[this,cond_false,splitL_tag fun c hc=>⟨hq c hc,h2 c hc⟩]
 have hp:okT (34::(tx++[34]))=true:=by unfold okT;rw[pTag_quoted h]
 have hv:valT (34::(tx++[34]))=⟨false,tx⟩:=by unfold valT;rw[pTag_quoted h]
 simp[hp,hv]
structure ShE(e:IField):Prop where
 n:e.Name.length≤20
 v:e.Value.length≤100
 t:e.Name=[101,116,97,103]→GoodS e.Value
 l:e.Name=[108,97,115,116,45,109,111,100,105,102,105,101,100]→∃u,isD e.Value u
structure ShF(n:Nat)(l:List IField):Prop where
 n:l.length≤n
 e:∀e∈l,ShE e
 t:(valsF l [101,116,97,103]).length≤1
 l:(valsF l [108,97,115,116,45,109,111,100,105,102,105,101,100]).length≤1
theorem valsF_app(a b:List IField)(n:List UInt8):valsF (a++b) n=valsF a n++valsF b n:=by unfold valsF;rw[List.flatMap_append]
theorem ShF.up{n m:Nat}{l:List IField}(h:ShF n l)(hm:n≤m):ShF m l:=⟨Nat.le_trans h.n hm,h.e,h.t,h.l⟩
theorem ShF.addO{n:Nat}{l:List IField}(h:ShF n l){nm v:List UInt8}(h1:nm.length≤20)(h2:v.length≤100)(h3:nm≠[101,116,97,103])(h4:nm≠[108,97,115,116,45,109,111,100,105,102,105,101,100]):ShF (n+1) (l++opt nm v):=by
 have k:∀x:List UInt8,nm≠x→valsF (opt nm v) x=[]:=fun x hx=>by
  unfold opt
  cases v==[]with
  |true=>rfl
  |false=>
   show valsF [⟨nm,v⟩] x=[]
   show(bif nm==x then [v]else [])++[]=[]
   rw[beq_eq_false_iff_ne.2 hx];rfl
 refine⟨opt_app h.n,fun e he=> ?_, ?_, ?_⟩
 ·rcases List.mem_append.1 he with he|he
  ·exact h.e e he
  ·unfold opt at he
   cases hv:v==[]with
   |true=>rw[hv]at he;cases he
   |false=>
    rw[hv,cond_false,List.mem_singleton]at he
    subst he
    exact⟨h1,h2,fun e=>absurd e h3,fun e=>absurd e h4⟩
 ·rw[valsF_app,k _ h3,List.append_nil];exact h.t
 ·rw[valsF_app,k _ h4,List.append_nil];exact h.l
theorem S_date{k:Nat}(hk:1073741824≤k){t:Int}(h:inR t 0 4102444799=true):∃d u,S_FormatDate k t=some d∧d.length≤29∧isD d u:=by
 rw[S_FormatDate,S_l1In_eq,Option.bind_some,h]
 unfold inR at h
 simp only[Bool.and_eq_true,decide_eq_true_eq]at h
 obtain⟨u,rfl⟩:=Int.eq_ofNat_of_zero_le h.1
 obtain⟨n,p,d,hd⟩:=isDay_ex (day:=u/86400) (by omega)
 rw[Bool.not_true,cond_false,S_l3Forms_eq hk (by omega) hd,Option.bind_some]
 refine⟨T1 (wkN (u/86400)) n p d (u % 86400),u,rfl, ?_,by omega,n,p,d,hd,.inl rfl⟩
 rw[T1_len (wkN_lt _) hd.hp];omega
def L17P(n:Nat)(e:Option (List Int×Int×Int×List IField)):Prop:=∃b i h r,e=some (b,i,h,r)∧CurOk ⟨b,i,h⟩∧r.length≤n
theorem L17P.out{n:Nat}{e:Option (List Int×Int×Int×List IField)}(h:L17P n e):L17P n (e.bind fun o=>some (o.1,o.2.1,o.2.2.1,o.2.2.2)):=by
 obtain⟨b,i,h',r,rfl,h1,h2⟩:=h
 exact⟨b,i,h',r,rfl,h1,h2⟩
theorem l17_str{k:Nat}{c:Sl1Cur}(h:CurOk c){l:List (List UInt8)}(h0:0<l.length)(nm:List UInt8){r:List IField}(hr:r.length≤100):
 L17P (r.length+1) ((S_l1Str k c l).bind fun w=>(app 32 r ([(⟨nm,w.1⟩:IField)]:List IField)).bind fun u=>some (w.2.b,w.2.i,w.2.h,u)):=by
 obtain⟨s,c',e,_,h'⟩:=S_l1Str_tot (k:=k) h h0
 rw[e,Option.bind_some,appn_ok (by simp only[List.length_cons,List.length_nil];omega),Option.bind_some]
 exact⟨_,_,_,_,rfl,h',by simp⟩
theorem l17_b1{k:Nat}{x5 x6:List (List UInt8)}(a5:0<x5.length)(a6:0<x6.length)(z:x5.length+x6.length≤100)(x7:Int){b:List Int}{i h:Int}(hc:CurOk ⟨b,i,h⟩)(p q t:List UInt8){r:List IField}(hr:r.length≤100)(u v w:List UInt8):
 L17P (r.length+1) (S_l17Request_b1 k x5 x6 x7 b i h p q t r u v w):=by
 unfold S_l17Request_b1
 obtain⟨n,c,e,_,h1⟩:=S_l1Below_tot (k:=k) hc (n:=5) (by omega)
 rw[e,Option.bind_some]
 have h1:CurOk ⟨c.b,c.i,c.h⟩:=h1
 have k68:∀y:Bool,L17P (r.length+1) (S_l17Request_c68 k x5 x6 x7 y c.b c.i c.h p q t r u v w):=fun y=>by
  unfold S_l17Request_c68
  cases y with
  |true=>exact l17_str h1 a6 _ hr
  |false=>
   have e2:appF 16 x5 x6=some (x5++x6):=by
    cases x6 with
    |nil=>simp at a6
    |cons a l=>
     show app 16 x5 (a::l)=_
     exact appn_ok (by simp only[List.length_cons]at z ⊢;omega)
   rw[cond_false,e2,Option.bind_some]
   exact l17_str h1 (by rw[List.length_append];omega) _ hr
 have k57:∀(m:Int) (y:Bool),L17P (r.length+1) (S_l17Request_c57 k x5 x6 x7 m y c.b c.i c.h p q t r u v w):=fun m y=>by
  unfold S_l17Request_c57
  cases y with
  |true=>exact l17_str h1 a6 _ hr
  |false=>exact(k68 _).out
 have k46:∀(m:Int) (y:Bool),L17P (r.length+1) (S_l17Request_c46 k x5 x6 x7 m y c.b c.i c.h p q t r u v w):=fun m y=>by
  unfold S_l17Request_c46
  cases y with
  |true=>exact l17_str h1 a5 _ hr
  |false=>exact(k57 _ _).out
 have k35:∀(m:Int) (y:Bool),L17P (r.length+1) (S_l17Request_c35 k x5 x6 x7 m y c.b c.i c.h p q t r u v w):=fun m y=>by
  unfold S_l17Request_c35
  cases y with
  |true=>exact l17_str h1 a5 _ hr
  |false=>exact(k46 _ _).out
 have kb2:L17P (r.length+1) (S_l17Request_b2 k x5 x6 x7 n c.b c.i c.h p q t r u v w):=by
  unfold S_l17Request_b2
  exact(k35 _ _).out
 exact kb2.out
theorem l17_loop{k:Nat}{x5 x6:List (List UInt8)}(a5:0<x5.length)(a6:0<x6.length)(z:x5.length+x6.length≤100)(p q t u v w:List UInt8):∀(n j:Nat) (r:List IField) (b:List Int) (i h:Int),j<n→r.length+j≤100→CurOk ⟨b,i,h⟩→
 L17P 100 (S_l17Request_b0 k n x5 x6 (j:Int) b i h p q t r u v w):=by
 intro n
 induction n with
 |zero=>intro j r b i h hj;omega
 |succ n ih=>
  intro j r b i h hj hx hc
  rw[S_l17Request_b0,bif_dec]
  cases j with
  |zero=>rw[if_neg (by omega)];exact⟨_,_,_,_,rfl,hc,by omega⟩
  |succ j=>
   rw[if_pos (by omega)]
   obtain⟨b',i',h',r',e,hc',hl⟩:=l17_b1 (k:=k) a5 a6 z (((j+1:Nat):Int)) hc p q t (r:=r) (by omega) u v w
   rw[e,Option.bind_some,wrap_pred (by omega)]
   exact ih j r' b' i' h' (by omega) (by omega) hc'
theorem S_l17Request_tot{k:Nat}(hk:1073741824≤k){c:Sl1Cur}{r:IRequest}(h:CurOk c)(hr:r.Fields.length≤2):∃r' c',S_l17Request k c r=some (r',c'):=by
 unfold S_l17Request
 obtain⟨v1,c1,e1,r1,h1⟩:=S_l1Below_tot (k:=k) h (n:=100) (by omega)
 have i1:inR v1 0 4102444799=true:=by
  unfold inR
  simp only[Bool.and_eq_true,decide_eq_true_eq]
  omega
 obtain⟨d1,u1,q1,_,_⟩:=S_date hk i1
 obtain⟨v2,c2,e2,r2,h2⟩:=S_l1Below_tot (k:=k) h1 (n:=100) (by omega)
 have i2:inR v2 0 4102444799=true:=by
  unfold inR
  simp only[Bool.and_eq_true,decide_eq_true_eq]
  omega
 obtain⟨d2,u2,q2,_,_⟩:=S_date hk i2
 obtain⟨v3,c3,e3,⟨a3,b3⟩,h3⟩:=S_l1Below_tot (k:=k) h2 (n:=3) (by omega)
 obtain⟨m,rfl⟩:=Int.eq_ofNat_of_zero_le a3
 simp only[e1,e2,e3,q1,q2,Option.bind_some]
 have h3:CurOk ⟨c3.b,c3.i,c3.h⟩:=h3
 obtain⟨b',i',h',r',e,_⟩:=l17_loop (k:=k) (x5:=[([34,48,47,47,34]:List UInt8),([34,49,47,47,34]:List UInt8),([34,50,47,47,34,44,32,34,48,47,100,101,47,34]:List UInt8),([87,47,34,48,47,47,34]:List UInt8),([42]:List UInt8),([98,97,100]:List UInt8),([34,48,47,101,110,47,34,44,32,34,49,47,100,101,47,34]:List UInt8)])
  (x6:=[d1,d2,([121,101,115,116,101,114,100,97,121]:List UInt8)]) (by simp) (by simp) (by simp) r.Method r.Host r.Target [] [] [] k m r.Fields c3.b c3.i c3.h (by omega) (by omega) h3
 rw[e]
 exact⟨_,_,rfl⟩
theorem orgS_in{o:IOrigin}(h:OrgS o):OrgIn o:=⟨by have:=h.h;omega,by have:=h.n;omega,fun e he=>by
 have q:=h.r e he
 have q1:=q.t
 have q2:=q.c
 have q3:=q.k
 have q4:=q.l
 have q5:=q.v.n
 exact⟨by omega,by omega,by omega,by omega,fun x hx=>by have:=q.le x hx;omega,by omega⟩⟩
theorem sh_bad{v:List UInt8}(hv:v.length≤100):ShF 8 [(⟨[99,97,99,104,101,45,99,111,110,116,114,111,108],v⟩:IField)]:=⟨by simp,fun e he=>by
 rw[List.mem_singleton]at he;subst he
 exact⟨by simp,hv,fun h=>absurd h (by simp),fun h=>absurd h (by simp)⟩,Nat.le_of_ble_eq_true rfl,Nat.le_of_ble_eq_true rfl⟩
theorem sh_err{d v:List UInt8}(hd:d.length≤29)(hv:v.length≤100):ShF 8 [(⟨[100,97,116,101],d⟩:IField),⟨[99,97,99,104,101,45,99,111,110,116,114,111,108],v⟩]:=⟨by simp,fun e he=>by
 simp only[List.mem_cons,List.not_mem_nil,or_false]at he
 rcases he with rfl|rfl
 ·exact⟨by simp,by simp only;omega,fun h=>absurd h (by simp),fun h=>absurd h (by simp)⟩
 ·exact⟨by simp,hv,fun h=>absurd h (by simp),fun h=>absurd h (by simp)⟩,Nat.le_of_ble_eq_true rfl,Nat.le_of_ble_eq_true rfl⟩
theorem org_res{o:IOrigin}(h:orgT o=true):∀e∈o.Resources,resT e=true:=fun e he=>by
 unfold orgT at h
 rw[Bool.and_eq_true]at h
 obtain⟨i,hi,rfl⟩:=List.mem_iff_getElem.1 he
 have:=(allB_iff _ _).1 h.1 i (by omega) (by omega)
 unfold orgP at this
 rw[List.getElem?_eq_getElem hi]at this
 simp only[Bool.and_eq_true]at this
 exact this.1
theorem choose_in{x:List (List UInt8)}{a:List UInt8}:chooseT x a=[]∨chooseT x a∈x:=by
 have key:∀(q:List IQuality) (m i:Nat) (s:List UInt8),(s=[]∨s∈x)→(foldI (bestI q x) m i s=[]∨foldI (bestI q x) m i s∈x):=by
  intro q m
  induction m with
  |zero=>intro i s hs;exact hs
  |succ m ih=>
   intro i s hs
   rw[foldI]
   refine ih (i+1) _ ?_
   unfold bestI
   cases he:x[i]? with
   |none=>exact hs
   |some e=>
    simp only
    cases (i==0||decide (qOf q e>qOf q s))with
    |true=>exact .inr (List.mem_of_getElem? he)
    |false=>exact hs
 exact key _ _ _ _ (.inl rfl)
theorem res_lang{e:IResource}(h:resT e=true):∀x∈e.Langs,isTok x=true∧x.length≤8:=fun x hx=>by
 unfold resT at h
 rw[Bool.and_eq_true]at h
 obtain⟨i,hi,rfl⟩:=List.mem_iff_getElem.1 hx
 have:=(allB_iff _ _).1 h.1 i (by omega) (by omega)
 unfold langP at this
 rw[List.getElem?_eq_getElem hi]at this
 simp only[Bool.and_eq_true,decide_eq_true_eq]at this
 obtain⟨_,h1,h2,_⟩:=this
 unfold nameOK at h1
 rw[Bool.and_eq_true]at h1
 exact⟨h1.1,by omega⟩
theorem res_at{e:IResource}(h:resT e=true){i:Nat}(hi:i<e.Versions.length):inR e.Versions[i].At 0 4102444799=true:=by
 unfold resT at h
 rw[Bool.and_eq_true,Bool.and_eq_true]at h
 have:=(allB_iff _ _).1 h.2.1 i (by omega) (by omega)
 unfold verP at this
 rw[List.getElem?_eq_getElem hi]at this
 simp only[Bool.and_eq_true]at this
 exact this.1
theorem vis_good(fs:List IField):GoodT (visitor fs)∧(visitor fs).length≤20:=by
 refine⟨?_,visitor_len fs⟩
 unfold visitor
 cases h:isTok (selV fs auth)with
 |false=>exact good_nil
 |true=>
  rw[Bool.not_true,cond_false]
  cases decide (((selV fs auth).length:Int)>20)with
  |true=>exact good_nil
  |false=>exact good_tok h
theorem Plain_shape{k:Nat}(hk:1073741824≤k){o:IOrigin}(hs:OrgS o){r:IRequest}(hr:ReqIn r)(hf:fsz r.Fields<67108864)(ht:r.Target.length≤1000)(t:Int):∃x,S_PlainAnswer k o r t=some x∧ShF 8 x.Fields:=by
 have ho:=orgS_in hs
 have hn:=hs.n
 have fr:=fun s=>S_FindResource_eq hk o s (by omega)
 rw[S_PlainAnswer]
 simp only[S_NormalTarget_eq hk _ (show r.Target.length<134217728 by omega),S_IsOrigin_eq hk o ho,S_IsRequest_eq hk r hr,S_l1In_eq,fr,Option.bind_some,S_l16Error]
 cases hO:orgT o with
 |false=>exact⟨_,rfl,sh_bad (by simp)⟩
 |true=>
 cases isReq r with
 |false=>exact⟨_,rfl,sh_bad (by simp)⟩
 |true=>
 cases (normT r.Target).2 with
 |false=>exact⟨_,rfl,sh_bad (by simp)⟩
 |true=>
 cases (r.Host==o.Host)with
 |false=>exact⟨_,rfl,sh_bad (by simp)⟩
 |true=>
 cases hT:inR t 0 4102444799 with
 |false=>exact⟨_,rfl,sh_bad (by simp)⟩
 |true=>
 obtain⟨d1,u1,q1,n1,i1⟩:=S_date hk hT
 simp only[Bool.not_true,cond_false,q1,Option.bind_some]
 obtain⟨a,b⟩:=findR_lt o.Resources (normT r.Target).1
 generalize findR o.Resources (normT r.Target).1=fi at*
 cases (r.Method==([71,69,84]:List UInt8))<;>cases (r.Method==([72,69,65,68]:List UInt8))<;>simp only[Bool.not_true,Bool.not_false,cond_false,cond_true]
 ·exact⟨_,rfl,sh_err n1 (by simp)⟩
 all_goals
  by_cases c:fi<0
  ·rw[decide_eq_true c];exact⟨_,rfl,sh_err n1 (by simp)⟩
  obtain⟨i,rfl⟩:=Int.eq_ofNat_of_zero_le (by omega:0≤fi)
  have hi:i<o.Resources.length:=by omega
  have hx:idx o.Resources ((i:Nat):Int)=some o.Resources[i]:=idx_nat hi
  have he:=hs.r _ (List.getElem_mem hi)
  have hR:=org_res hO _ (List.getElem_mem hi)
  generalize o.Resources[i]=e at hx he hR
  have hv:=he.v.n
  simp only[decide_eq_false c,cond_false,hx,Option.bind_some,S_VersionAt_eq hk e t (by omega)]
  obtain⟨a2,b2⟩:=vLast_lt (atP e.Versions t) e.Versions.length
  generalize vLast (atP e.Versions t) e.Versions.length=vi at*
  by_cases c2:vi<0
  ·rw[decide_eq_true c2];exact⟨_,rfl,sh_err n1 (by simp)⟩
  obtain⟨m,rfl⟩:=Int.eq_ofNat_of_zero_le (by omega:0≤vi)
  have hm:m<e.Versions.length:=by omega
  have hy:idx e.Versions ((m:Nat):Int)=some e.Versions[m]:=idx_nat hm
  have htx:=he.v.t _ (List.getElem_mem hm)
  have hat:=res_at hR hm
  generalize e.Versions[m]=v at hy htx hat
  simp only[decide_eq_false c2,cond_false,hy,Option.bind_some]
  cases v.Gone with
  |true=>exact⟨_,rfl,sh_err n1 (by simp)⟩
  |false=>
   obtain⟨d2,u2,q2,n2,i2⟩:=S_date hk hat
   have hl:=he.l
   have hc:=he.c
   have v1:(variantT e r.Fields).1.length≤8:=chooseT_len he.le
   have g1:GoodT (variantT e r.Fields).1:=by
    rcases choose_in (x:=e.Langs) (a:=(getF r.Fields [97,99,99,101,112,116,45,108,97,110,103,117,97,103,101]).1)with h|h
    ·show GoodT (chooseT _ _);rw[h];exact good_nil
    ·exact good_tok (res_lang hR _ h).1
   have v2:GoodT (variantT e r.Fields).2∧(variantT e r.Fields).2.length≤20:=by
    have:=vis_good r.Fields
    unfold variantT
    cases e.Private with
    |true=>exact this
    |false=>exact⟨good_nil,by simp⟩
   have s1:=S_VariantOf_eq hk e r (by omega) hf
   generalize variantT e r.Fields=w at*
   obtain⟨v3,v2⟩:=v2
   obtain⟨bd,hb⟩:=S_BodyOf_some k v w.1 w.2 (by omega) (by omega) (by omega)
   obtain⟨d3,d4⟩:=good_digit ⟨m,by omega⟩
   simp only at d3 d4
   have t1:S_TagOf k (m:Int) w.1 w.2=some ⟨false,Lib.itoa (m:Int)++[47]++w.1++[47]++w.2⟩:=by
    rw[S_TagOf,S_FormatInt_eq hk (m:Int) (by omega) (by omega),Option.bind_some,cat_ok (by simp;omega),Option.bind_some,cat_ok (by simp;omega),Option.bind_some,cat_ok (by simp;omega),Option.bind_some,cat_ok (by simp;omega)];rfl
   have tg:GoodS (fmtTag ⟨false,Lib.itoa (m:Int)++[47]++w.1++[47]++w.2⟩):=good_fmt ((((GoodT.app d4 good_slash).app g1).app good_slash).app v3) (by simp;omega) (by simp)
   have tl:(Lib.itoa (m:Int)++[47]++w.1++[47]++w.2).length≤40:=by simp;omega
   generalize Lib.itoa (m:Int)++[47]++w.1++[47]++w.2=tx at*
   have t3:=S_FormatTag_eq hk ⟨false,tx⟩ (show tx.length<1073741824 by omega)
   have tf:(fmtTag ⟨false,tx⟩).length≤100:=by
    unfold fmtTag
    cases isTagT tx with
    |false=>simp
    |true=>simp;omega
   generalize fmtTag ⟨false,tx⟩=et at*
   have e0:∀a b c:IField,app 32 ([]:List IField) [a,b,c]=some [a,b,c]:=fun a b c=>appn_ok (by simp)
   have u1:=app_if (l:=[]) (by simp) (decide ((e.Langs.length:Int)>(0:Int))) [97,99,99,101,112,116,45,108,97,110,103,117,97,103,101]
   have u2:=app_if (l:=[]++bif(decide ((e.Langs.length:Int)>(0:Int)))then [[97,99,99,101,112,116,45,108,97,110,103,117,97,103,101]]else []) (by cases (decide ((e.Langs.length:Int)>(0:Int)))<;>simp) e.Private [97,117,116,104,111,114,105,122,97,116,105,111,110]
   have u3:∀(b1 b2:Bool),(2*(([]++bif b1 then [[97,99,99,101,112,116,45,108,97,110,103,117,97,103,101]]else [])++bif b2 then [[97,117,116,104,111,114,105,122,97,116,105,111,110]]else []:List (List UInt8)).length+Lib.lens (([]++bif b1 then [[97,99,99,101,112,116,45,108,97,110,103,117,97,103,101]]else [])++bif b2 then [[97,117,116,104,111,114,105,122,97,116,105,111,110]]else []:List (List UInt8))≤100)∧decide (((([]++bif b1 then [[97,99,99,101,112,116,45,108,97,110,103,117,97,103,101]]else [])++bif b2 then [[97,117,116,104,111,114,105,122,97,116,105,111,110]]else []:List (List UInt8)).length:Int)>(0:Int))= !(joinT (([]++bif b1 then [[97,99,99,101,112,116,45,108,97,110,103,117,97,103,101]]else [])++bif b2 then [[97,117,116,104,111,114,105,122,97,116,105,111,110]]else [])==[]):=by decide
   obtain⟨u4,u5⟩:=u3 (decide ((e.Langs.length:Int)>(0:Int))) e.Private
   clear u3
   generalize (([]++bif(decide ((e.Langs.length:Int)>(0:Int)))then [[97,99,99,101,112,116,45,108,97,110,103,117,97,103,101]]else [])++bif e.Private then [[97,117,116,104,111,114,105,122,97,116,105,111,110]]else []:List (List UInt8))=wv at*
   have j1:=S_JoinList_eq hk wv (by omega)
   have j3:=joinT_len wv
   have hcl:(ctlOf e).length≤100:=by
    unfold ctlOf
    cases e.Private<;>cases (e.Control==[])<;>simp<;>omega
   have hkl:=he.k
   simp only[cond_false,s1,hb,q2,t1,t3,S_ControlOf_eq e (show e.Control.length≤1048576 by omega),Option.bind_some,e0,S_PlainAnswer_c127,S_PlainAnswer_c139,S_PlainAnswer_c144,S_PlainAnswer_c150,S_PlainAnswer_c160,S_PlainAnswer_c170,u1,u2,j1,u5]
   have L0:ShF 3 [(⟨[100,97,116,101],d1⟩:IField),⟨[108,97,115,116,45,109,111,100,105,102,105,101,100],d2⟩,⟨[101,116,97,103],et⟩]:=⟨by simp,fun e he=>by
    simp only[List.mem_cons,List.not_mem_nil,or_false]at he
    rcases he with rfl|rfl|rfl
    ·exact⟨by simp,by simp only;omega,fun h=>absurd h (by simp),fun h=>absurd h (by simp)⟩
    ·exact⟨by simp,by simp only;omega,fun h=>absurd h (by simp),fun _=>⟨_,i2⟩⟩
    ·exact⟨by simp,tf,fun _=>tg,fun h=>absurd h (by simp)⟩,Nat.le_of_ble_eq_true rfl,Nat.le_of_ble_eq_true rfl⟩
   generalize [(⟨[100,97,116,101],d1⟩:IField),⟨[108,97,115,116,45,109,111,100,105,102,105,101,100],d2⟩,⟨[101,116,97,103],et⟩]=l0 at*
   have L1:=L0.addO (nm:=[99,97,99,104,101,45,99,111,110,116,114,111,108]) (v:=ctlOf e) (by simp) hcl (by simp) (by simp)
   have L2:=L1.addO (nm:=[118,97,114,121]) (v:=joinT wv) (by simp) (by omega) (by simp) (by simp)
   have L3:=L2.addO (nm:=[99,111,110,116,101,110,116,45,108,97,110,103,117,97,103,101]) (v:=w.1) (by simp) (by omega) (by simp) (by simp)
   have L4:=L3.addO (nm:=[115,117,114,114,111,103,97,116,101,45,107,101,121]) (v:=e.Keys) (by simp) (by omega) (by simp) (by simp)
   have k1:=app_opt (Nat.le_trans L0.n (by omega)) [99,97,99,104,101,45,99,111,110,116,114,111,108] (ctlOf e)
   have k2:=app_opt (Nat.le_trans L1.n (by omega)) [118,97,114,121] (joinT wv)
   have k3:=app_opt (Nat.le_trans L2.n (by omega)) [99,111,110,116,101,110,116,45,108,97,110,103,117,97,103,101] w.1
   have k4:=app_opt (Nat.le_trans L3.n (by omega)) [115,117,114,114,111,103,97,116,101,45,107,101,121] e.Keys
   simp only[k1,k2,k3,k4,Option.bind_some]
   exact⟨_,rfl,L4.up (by omega)⟩
theorem ShF.drop{n:Nat}{l:List IField}(h:ShF n l)(p:IField→Bool):ShF n (l.filter p):=by
 have k:∀(m:List UInt8) (x:List IField),(valsF (x.filter p) m).length≤(valsF x m).length:=by
  intro m x
  induction x with
  |nil=>simp
  |cons a x ih=>
   unfold valsF at ih ⊢
   rw[List.filter_cons,List.flatMap_cons,List.length_append]
   split
   ·rw[List.flatMap_cons,List.length_append];omega
   ·omega
 exact⟨Nat.le_trans (List.length_filter_le _ _) h.n,fun e he=>h.e e (List.mem_filter.1 he).1,Nat.le_trans (k _ _) h.t,Nat.le_trans (k _ _) h.l⟩
theorem valsF_mem{l:List IField}{n s:List UInt8}(h:s∈valsF l n):∃e∈l,e.Name=n∧e.Value=s:=by
 unfold valsF at h
 rw[List.mem_flatMap]at h
 obtain⟨e,he,h⟩:=h
 unfold valOfF at h
 cases hn:e.Name==n with
 |false=>rw[hn]at h;cases h
 |true=>rw[hn,cond_true,List.mem_singleton]at h;exact⟨e,he,by simpa using hn,h.symm⟩
theorem getF_one{l:List IField}{n:List UInt8}(h:(valsF l n).length≤1)(h2:(getF l n).2=true):∃e∈l,e.Name=n∧(getF l n).1=e.Value:=by
 unfold getF at h2 ⊢
 simp only[decide_eq_true_eq]at h2
 match hv:valsF l n,h,h2 with
 |[s],_,_=>
  obtain⟨e,he,h3,h4⟩:=valsF_mem (l:=l) (n:=n) (s:=s) (by rw[hv];exact .head _)
  exact⟨e,he,h3,by rw[joinT_one,h4]⟩
 |_::_::_,h,_=>simp at h
 |[],_,h=>simp at h
theorem getF_none{l:List IField}{n:List UInt8}(h2:(getF l n).2=false):(getF l n).1=[]:=by
 unfold getF at h2 ⊢
 simp only[decide_eq_false_iff_not]at h2
 have:valsF l n=[]:=List.length_eq_zero_iff.1 (by omega)
 simp only[this]
 rfl
theorem S_DrawCheck_tot{k:Nat}(hk:1073741824≤k){x:List Int}(hx:x.length≤1048576):∃r y,S_DrawCheckConditions k x=some (r,y)∧ShF 8 y.Fields:=by
 obtain⟨c,e0,h0⟩:=S_l1New_tot hk hx
 obtain⟨o,c1,e1,h1,so⟩:=S_l15Draw_tot hk h0
 obtain⟨r,c2,e2,h2,⟨m1,m2,m3⟩,n1,f1⟩:=S_l15Ask_tot (k:=k) h1
 obtain⟨t,c3,e3,_,h3⟩:=S_l1Below_tot (k:=k) h2 (n:=160) (by omega)
 have z:=fsz_le (l:=r.Fields) (n:=60) fun e he=>(f1 e he).2
 have ri:ReqIn r:=⟨by omega,by omega,by omega,by omega,fun e he=>by have:=f1 e he;omega⟩
 obtain⟨y,e4,sy⟩:=Plain_shape hk so ri (by omega) (by omega) t
 obtain⟨v,c5,e5,h5⟩:=S_l1Once_tot (k:=k) h3 (n:=9) (by omega)
 have hc:∃b i h' l,S_DrawCheckConditions_c20 k v ([]:List UInt8) ([]:List UInt8) ([]:List UInt8) (0:Int) ([]:List UInt8) c5.b c5.i c5.h r.Method r.Host r.Target r.Fields y.Code y.Body y.Fields=some (b,i,h',l)∧CurOk ⟨b,i,h'⟩∧ShF 8 l:=by
  unfold S_DrawCheckConditions_c20
  cases v with
  |false=>exact⟨_,_,_,_,rfl,h5,sy⟩
  |true=>
   obtain⟨v6,c6,e6,l6,h6⟩:=S_l1Str_len (k:=k) h5 (l:=[([101,116,97,103]:List UInt8),([108,97,115,116,45,109,111,100,105,102,105,101,100]:List UInt8)]) (by decide) (n:=20) (by decide)
   have e6':S_l1Str k (⟨c5.b,c5.i,c5.h⟩:Sl1Cur) [([101,116,97,103]:List UInt8),([108,97,115,116,45,109,111,100,105,102,105,101,100]:List UInt8)]=some (v6,c6):=e6
   rw[cond_true,e6',Option.bind_some,S_DropField_eq hk _ _ (by have:=sy.n;omega),Option.bind_some]
   exact⟨_,_,_,_,rfl,h6,sy.drop _⟩
 obtain⟨b,i,h',l,e6,h6,sl⟩:=hc
 obtain⟨r',c7,e7⟩:=S_l17Request_tot (k:=k) (r:=r) hk h6 n1
 unfold S_DrawCheckConditions
 simp only[e0,e1,e2,e3,e4,e5,e6,e7,Option.bind_some]
 exact⟨_,_,rfl,sl⟩
theorem match_same{tx:List UInt8}(h:isTagT tx=true)(h2:∀c∈tx,c≠92)(st:Bool):matchT st (34::(tx++[34])) ⟨false,tx⟩ true=(true,false):=by
 unfold matchT
 rw[tagsT_quoted h h2]
 cases st<;>simp[sameT,sameS,sameW]
theorem match_other{t:ITag}{has:Bool}(h:has=true→t.Text≠[111,116,104,101,114]):matchT true [34,111,116,104,101,114,34] t has=(false,false):=by
 unfold matchT
 rw[show([34,111,116,104,101,114,34]:List UInt8)=34::([111,116,104,101,114]++[34])from rfl,tagsT_quoted (by decide) (by decide)]
 cases has with
 |false=>rfl
 |true=>
  have:([111,116,104,101,114]==t.Text)=false:=beq_eq_false_iff_ne.2 fun e=>h rfl e.symm
  simp[sameT,sameS,this]
theorem fsz_1{n v:List UInt8}:fsz [⟨n,v⟩]=1+v.length:=by simp[fsz]
theorem fsz_2{n v m w:List UInt8}:fsz [⟨n,v⟩,⟨m,w⟩]=2+v.length+w.length:=by simp[fsz];omega
structure FiveOK(k:Nat)(y:IResponse):Prop where
 a:(getF y.Fields [101,116,97,103]).2=true→∀h t,I_CheckConditions k ⟨[71,69,84],h,t,[⟨[105,102,45,110,111,110,101,45,109,97,116,99,104],(getF y.Fields [101,116,97,103]).1⟩]⟩ y=some 304
 b:(getF y.Fields [108,97,115,116,45,109,111,100,105,102,105,101,100]).2=true→∀h t,I_CheckConditions k ⟨[72,69,65,68],h,t,[⟨[105,102,45,109,111,100,105,102,105,101,100,45,115,105,110,99,101],(getF y.Fields [108,97,115,116,45,109,111,100,105,102,105,101,100]).1⟩]⟩ y=some 304
 c:(getF y.Fields [101,116,97,103]).2=true→∀h t,I_CheckConditions k ⟨[71,69,84],h,t,[⟨[105,102,45,109,97,116,99,104],(getF y.Fields [101,116,97,103]).1⟩,⟨[105,102,45,114,97,110,103,101],(getF y.Fields [101,116,97,103]).1⟩]⟩ y=some 200∧I_RangeHolds k ⟨[71,69,84],h,t,[⟨[105,102,45,109,97,116,99,104],(getF y.Fields [101,116,97,103]).1⟩,⟨[105,102,45,114,97,110,103,101],(getF y.Fields [101,116,97,103]).1⟩]⟩ y=some true
 d:∀h t,I_CheckConditions k ⟨[72,69,65,68],h,t,[⟨[105,102,45,109,97,116,99,104],[34,111,116,104,101,114,34]⟩,⟨[105,102,45,114,97,110,103,101],[34,111,116,104,101,114,34]⟩]⟩ y=some 412∧I_RangeHolds k ⟨[72,69,65,68],h,t,[⟨[105,102,45,109,97,116,99,104],[34,111,116,104,101,114,34]⟩,⟨[105,102,45,114,97,110,103,101],[34,111,116,104,101,114,34]⟩]⟩ y=some false
 e:∀h t,I_CheckConditions k ⟨[71,69,84],h,t,[]⟩ y=some 200
theorem five_ok{k:Nat}(hk:1073741824≤k){y:IResponse}(s:ShF 8 y.Fields)(hz:fsz y.Fields<10000):FiveOK k y:=by
 have tag:(getF y.Fields [101,116,97,103]).2=true→∃tx,(getF y.Fields [101,116,97,103]).1=34::(tx++[34])∧isTagT tx=true∧(∀c∈tx,c≠92)∧47∈tx∧ansTag y.Fields=(⟨false,tx⟩,true)∧tx.length≤98:=by
  intro h
  obtain⟨e,he,h1,h2⟩:=getF_one s.t h
  obtain⟨tx,h3,h4,h5,h6⟩:=(s.e e he).t h1
  have hl:=(s.e e he).v
  rw[h3]at hl
  simp only[List.length_cons,List.length_append,List.length_nil]at hl
  exact⟨tx,by rw[h2,h3],h4,h5,h6,by unfold ansTag;rw[h2,h3,pTag_quoted h4],by omega⟩
 have date:(getF y.Fields [108,97,115,116,45,109,111,100,105,102,105,101,100]).2=true→∃u:Nat,pDate (getF y.Fields [108,97,115,116,45,109,111,100,105,102,105,101,100]).1=((u:Int),true)∧(getF y.Fields [108,97,115,116,45,109,111,100,105,102,105,101,100]).1.length≤100:=by
  intro h
  obtain⟨e,he,h1,h2⟩:=getF_one s.l h
  obtain⟨u,h3⟩:=(s.e e he).l h1
  exact⟨u,by rw[h2];exact pDate_yes h3,by rw[h2];exact(s.e e he).v⟩
 have other:(ansTag y.Fields).2=true→(ansTag y.Fields).1.Text≠[111,116,104,101,114]:=by
  intro h
  cases hT:(getF y.Fields [101,116,97,103]).2 with
  |true=>
   obtain⟨tx,_,_,_,h6,h7,_⟩:=tag hT
   rw[h7]
   intro e
   have e:tx=[111,116,104,101,114]:=e
   rw[e]at h6
   revert h6;decide
  |false=>
   exfalso
   unfold ansTag at h
   rw[getF_none hT]at h
   revert h;decide
 refine⟨fun hT h t=> ?_,fun hD h t=> ?_,fun hT h t=> ?_,fun h t=> ?_,fun h t=> ?_⟩
 ·obtain⟨tx,h1,h2,h3,_,h5,h6⟩:=tag hT
  rw[h1]
  generalize hq:([⟨[105,102,45,110,111,110,101,45,109,97,116,99,104],34::(tx++[34])⟩]:List IField)=q
  have a1:(getF q [105,102,45,109,97,116,99,104]).2=false:=by rw[←hq];rfl
  have a2:(getF q [105,102,45,117,110,109,111,100,105,102,105,101,100,45,115,105,110,99,101]).2=false:=by rw[←hq];rfl
  have a3:(getF q [105,102,45,110,111,110,101,45,109,97,116,99,104]).2=true:=by rw[←hq];rfl
  have a4:(getF q [105,102,45,110,111,110,101,45,109,97,116,99,104]).1=34::(tx++[34]):=by rw[←hq];exact joinT_one _
  rw[I_CheckConditions_eq hk _ _ (by simp only;rw[←hq,fsz_1];simp;omega) (by omega)]
  simp only
  unfold condT failT
  rw[a1,cond_false,a2,cond_false,cond_false,a3,cond_true,a4,h5,match_same h2 h3]
  rfl
 ·obtain⟨u,h1,h2⟩:=date hD
  have hd:dateF y.Fields [108,97,115,116,45,109,111,100,105,102,105,101,100]=((u:Int),true):=h1
  generalize (getF y.Fields [108,97,115,116,45,109,111,100,105,102,105,101,100]).1=sd at*
  generalize hq:([⟨[105,102,45,109,111,100,105,102,105,101,100,45,115,105,110,99,101],sd⟩]:List IField)=q
  have a1:(getF q [105,102,45,109,97,116,99,104]).2=false:=by rw[←hq];rfl
  have a2:(getF q [105,102,45,117,110,109,111,100,105,102,105,101,100,45,115,105,110,99,101]).2=false:=by rw[←hq];rfl
  have a3:(getF q [105,102,45,110,111,110,101,45,109,97,116,99,104]).2=false:=by rw[←hq];rfl
  have a4:(getF q [105,102,45,109,111,100,105,102,105,101,100,45,115,105,110,99,101]).2=true:=by rw[←hq];rfl
  have a5:(getF q [105,102,45,109,111,100,105,102,105,101,100,45,115,105,110,99,101]).1=sd:=by rw[←hq];exact joinT_one _
  rw[I_CheckConditions_eq hk _ _ (by simp only;rw[←hq,fsz_1];omega) (by omega)]
  simp only
  unfold condT failT notModT
  rw[a1,cond_false,a2,cond_false,cond_false,a3,cond_false,a4,a5,hd,h1,decide_eq_true (by simp only;omega)]
  rfl
 ·obtain⟨tx,h1,h2,h3,_,h5,h6⟩:=tag hT
  rw[h1]
  generalize hq:([⟨[105,102,45,109,97,116,99,104],34::(tx++[34])⟩,⟨[105,102,45,114,97,110,103,101],34::(tx++[34])⟩]:List IField)=q
  have a1:(getF q [105,102,45,109,97,116,99,104]).2=true:=by rw[←hq];rfl
  have a2:(getF q [105,102,45,109,97,116,99,104]).1=34::(tx++[34]):=by rw[←hq];exact joinT_one _
  have a3:(getF q [105,102,45,110,111,110,101,45,109,97,116,99,104]).2=false:=by rw[←hq];rfl
  have a4:(getF q [105,102,45,109,111,100,105,102,105,101,100,45,115,105,110,99,101]).2=false:=by rw[←hq];rfl
  have a5:(getF q [105,102,45,114,97,110,103,101]).2=true:=by rw[←hq];rfl
  have a6:(getF q [105,102,45,114,97,110,103,101]).1=34::(tx++[34]):=by rw[←hq];exact joinT_one _
  have hl:fsz q<268435456:=by rw[←hq,fsz_2];simp;omega
  rw[I_CheckConditions_eq hk _ _ hl (by omega),I_RangeHolds_eq hk _ _ hl (by omega)]
  simp only
  unfold condT failT rangeT
  rw[a1,cond_true,a2,h5,match_same h2 h3,a3,a4,a5,a6,pTag_quoted h2]
  exact⟨rfl,by simp⟩
 ·generalize hq:([⟨[105,102,45,109,97,116,99,104],[34,111,116,104,101,114,34]⟩,⟨[105,102,45,114,97,110,103,101],[34,111,116,104,101,114,34]⟩]:List IField)=q
  have a1:(getF q [105,102,45,109,97,116,99,104]).2=true:=by rw[←hq];rfl
  have a2:(getF q [105,102,45,109,97,116,99,104]).1=[34,111,116,104,101,114,34]:=by rw[←hq];exact joinT_one _
  have a5:(getF q [105,102,45,114,97,110,103,101]).2=true:=by rw[←hq];rfl
  have a6:(getF q [105,102,45,114,97,110,103,101]).1=[34,111,116,104,101,114,34]:=by rw[←hq];exact joinT_one _
  have hl:fsz q<268435456:=by rw[←hq,fsz_2];decide
  have hp:pTag [34,111,116,104,101,114,34]=(⟨false,[111,116,104,101,114]⟩,true):=pTag_quoted (tx:=[111,116,104,101,114]) (by decide)
  rw[I_CheckConditions_eq hk _ _ hl (by omega),I_RangeHolds_eq hk _ _ hl (by omega)]
  simp only
  unfold condT failT rangeT
  rw[a1,cond_true,a2,match_other other,a5,a6,hp]
  refine⟨rfl, ?_⟩
  cases hh:(ansTag y.Fields).2 with
  |false=>rfl
  |true=>
   have:([111,116,104,101,114]==(ansTag y.Fields).1.Text)=false:=beq_eq_false_iff_ne.2 fun e=>other hh e.symm
   simp[this]
 ·rw[I_CheckConditions_eq hk _ _ (by simp[fsz]) (by omega)]
  rfl
theorem FnConditions_pure{k:Nat}(hk:1073741824≤k)(a0:List Int)(h0:InL InB a0):L_FnConditions k a0=some true:=by
 unfold L_FnConditions
 rw[L_big_eq,Option.bind_some,bif_dec]
 by_cases c1:(a0.length:Int)>1048576
 ·rw[if_pos c1]
 rw[if_neg c1]
 have ha:a0.length≤1048576:=by omega
 obtain⟨r,y,e,s⟩:=S_DrawCheck_tot hk ha
 have hn:=s.n
 have z:=fsz_le (l:=y.Fields) (n:=100) fun e he=>(s.e e he).v
 have hz:fsz y.Fields<10000:=by omega
 obtain⟨fa,fb,fc,fd,fe⟩:=five_ok hk s hz
 have fd1:=fun h t=>(fd h t).1
 have fd2:=fun h t=>(fd h t).2
 rw[e,Option.bind_some]
 simp only[I_GetField_eq hk _ _ (show fsz y.Fields<268435456 by omega),Option.bind_some]
 cases hT:(getF y.Fields [101,116,97,103]).2 with
 |true=>
  have fa:=fa hT
  have fc1:=fun h t=>(fc hT h t).1
  have fc2:=fun h t=>(fc hT h t).2
  cases hD:(getF y.Fields [108,97,115,116,45,109,111,100,105,102,105,101,100]).2 with
  |true=>
   have fb:=fb hD
   simp only[cond_true,fa,fb,fc1,fc2,fd1,fd2,fe,Option.bind_some,bne_self_eq_false,cond_false,beq_self_eq_true,Bool.not_true,Bool.not_false]
  |false=>simp only[cond_true,fa,fc1,fc2,fd1,fd2,fe,Option.bind_some,bne_self_eq_false,cond_false,beq_self_eq_true,Bool.not_true,Bool.not_false]
 |false=>
  cases hD:(getF y.Fields [108,97,115,116,45,109,111,100,105,102,105,101,100]).2 with
  |true=>
   have fb:=fb hD
   simp only[cond_true,fb,fd1,fd2,fe,Option.bind_some,bne_self_eq_false,cond_false,beq_self_eq_true,Bool.not_true,Bool.not_false]
  |false=>simp only[cond_true,fd1,fd2,fe,Option.bind_some,cond_false,beq_self_eq_true,Bool.not_true,Bool.not_false]
end
end Go.YtabadclgcgdccaaGreatDoor

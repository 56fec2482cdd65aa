/- Parts of the proof that belong together: Skp Aa Sm. -/
import Derived.WideKeyMaps
import Derived.DeepKeys4
import Derived.WalkArith
import Derived.ChangeMaps5
import Derived.Test.YtaoaafdommlhcaaGreatProg
import Derived.MapKept
import Derived.Carry
import Derived.Below
import Derived.RangeFuncRecord
import Derived.Laws.AppendOwn
set_option maxRecDepth 10000
set_option linter.unusedSimpArgs false
set_option linter.unusedVariables false
set_option autoImplicit false
open Go.Proofs.Tryz
namespace Go.Proofs.YtaoaafdommlhcaaGreat
open Go.WideMaps Go.MapKept Go.RowKit
inductive KL where
 |i (n:Int)
 |b (v:Bool)
 deriving DecidableEq
def KL.val:KL→Value
 |.i n=>.int .i64 n
 |.b v=>.bool v
def KL.lit:KL→Lit
 |.i n=>.int .i64 n
 |.b v=>.bool v
def KL.fit:Bool→KL→Prop
 |false,.i n=> -9223372036854775808≤n∧n≤9223372036854775807
 |true,.b _=>True
 |_,_=>False
def KFit:List Bool→List KL→Prop
 |[],[]=>True
 |s::sh,x::k=>KL.fit s x∧KFit sh k
 |_,_=>False
abbrev keyL(k:List KL):Value:=.agg (k.map KL.val).toArray
theorem KL.val_inj{x y:KL}(h:x.val=y.val):x=y:=by
 cases x<;>cases y<;>simp_all [KL.val]
theorem keyL_inj{a b:List KL}(h:keyL a=keyL b):a=b:=by
 have h1:a.map KL.val=b.map KL.val:=by injection h with h;simpa using congrArg Array.toList h
 have: ∀(l m:List KL),l.map KL.val=m.map KL.val→l=m:=by
  intro l
  induction l with
  |nil=>intro m h;cases m;rfl;cases h
  |cons x l ih=>
   intro m h
   cases m with
   |nil=>cases h
   |cons y m=>simp only[List.map_cons,List.cons.injEq]at h;rw[KL.val_inj h.1,ih m h.2]
 exact this a b h1
theorem KFit.len: ∀{sh:List Bool} {k:List KL},KFit sh k→k.length=sh.length
 |[],[],_=>rfl
 |_::sh,_::k,h=>by simp[KFit.len (sh:=sh) (k:=k) h.2]
theorem KFit.get: ∀{sh:List Bool} {k:List KL},KFit sh k→ ∀{i:Nat} {s:Bool},sh[i]?=some s→ ∃x,k[i]?=some x∧KL.fit s x
 |[],[],_,i,s,h=>by simp at h
 |t::sh,x::k,hk,0,s,h=>by simp at h;subst h;exact⟨x,rfl,hk.1⟩
 |t::sh,x::k,hk,i+1,s,h=>by
  obtain⟨y,h1,h2⟩:=KFit.get (sh:=sh) (k:=k) hk.2 (i:=i) (by simpa using h)
  exact⟨y,by simpa using h1,h2⟩
def kindB(P:Program)(t:TypeId):Bool→Bool
 |false=>match P.underlying t with|some (.int .i64)=>true|_=>false
 |true=>match P.underlying t with|some .bool=>true|_=>false
def fsKey(P:Program):Nat→List Field→List Bool→Bool
 |_,[],[]=>true
 |i,f::fs,s::sh=>kindB P f.type s&&(P.cellsOf f.type==1)&&(f.name != "_")&&(f.offset==i)&&fsKey P (i+1) fs sh
 |_,_,_=>false
def kmKey(P:Program)(k:TypeId)(sh:List Bool):Bool:=
 P.keyType k&&(P.cellsOf k==sh.length)&&(P.types.size !=0)&&match P.underlying k with
 |some (.struct fs)=>fsKey P 0 fs.toList sh
 |some (.array m e)=>m==sh.length&&(P.cellsOf e==1)&&sh.all (kindB P e)
 |_=>false
theorem kl_lits{P:Program}{t:TypeId}{D:Nat}{s:Bool}{x:KL}(ht:kindB P t s=true)(hx:KL.fit s x):P.keyLits (D+1) t [x.val]=some [x.lit]:=by
 unfold Program.keyLits
 cases s with
 |false=>
  simp only[kindB]at ht
  cases x with
  |i n=>
   split at ht
   ·rename_i h;rw[h];simp[KL.val,KL.lit,WalkArith.wf_i64 (show-9223372036854775808≤n∧n≤9223372036854775807 from hx)]
   ·cases ht
  |b v=>exact hx.elim
 |true=>
  simp only[kindB]at ht
  cases x with
  |i n=>exact hx.elim
  |b v=>
   split at ht
   ·rename_i h;rw[h];simp[KL.val,KL.lit]
   ·cases ht
theorem kdrop_one{α:Type}{l:List α}{i:Nat}{x:α}(h:l[i]?=some x):(l.drop i).take 1=[x]:=by
 obtain⟨h1,h2⟩:=List.getElem?_eq_some_iff.1 h
 rw[List.drop_eq_getElem_cons h1,h2];rfl
theorem kl_fs{P:Program}{D:Nat}{k:List KL}: ∀(fs:List Field) (sh:List Bool) (i:Nat),fsKey P i fs sh=true→KFit sh (k.drop i)→
  (fs.mapM fun f=>P.keyLits (D+1) f.type (((k.map KL.val).drop f.offset).take (P.cellsOf f.type)))=some ((k.drop i).map fun x=>[x.lit])
 |[],[],i,_,hk=>by
  have:(k.drop i).length=0:=hk.len
  rw[List.eq_nil_of_length_eq_zero this];rfl
 |[],_::_,i,h,_=>by simp[fsKey]at h
 |_::_,[],i,h,_=>by simp[fsKey]at h
 |f::fs,s::sh,i,h,hk=>by
  simp only[fsKey,Bool.and_eq_true,beq_iff_eq]at h
  obtain⟨⟨⟨⟨h1,h2⟩,_⟩,h3⟩,h4⟩:=h
  cases hd:k.drop i with
  |nil=>rw[hd]at hk;exact hk.elim
  |cons x r=>
   rw[hd]at hk
   have hi:k[i]?=some x:=by
    have:(k.drop i)[0]?=some x:=by rw[hd];rfl
    rwa [List.getElem?_drop,Nat.add_zero]at this
   have hr:k.drop (i+1)=r:=by rw[←List.drop_drop,hd];rfl
   have e1:(k.map KL.val)[i]?=some x.val:=by rw[List.getElem?_map,hi];rfl
   have ih:=kl_fs (D:=D) (k:=k) fs sh (i+1) h4 (by rw[hr];exact hk.2)
   rw[List.mapM_cons,h3,h2,kdrop_one e1,kl_lits h1 hk.1,ih,hr]
   rfl
theorem kl_arr{P:Program}{D:Nat}{e:TypeId}{k:List KL}{sh:List Bool}(he:sh.all (kindB P e)=true)(hk:KFit sh k): ∀(l:List Nat),(∀i∈l,i<k.length)→
  (l.mapM fun i=>P.keyLits (D+1) e (((k.map KL.val).drop (i*1)).take 1))=some (l.map fun i=>[(k.getD i (.i 0)).lit])
 |[],_=>rfl
 |i::l,h=>by
  have hi:=h i (by simp)
  have hs:i<sh.length:=by rw[←hk.len];exact hi
  obtain⟨x,h1,h2⟩:=hk.get (List.getElem?_eq_getElem hs)
  have e1:(k.map KL.val)[i*1]?=some x.val:=by rw[Nat.mul_one,List.getElem?_map,h1];rfl
  have ih:=kl_arr (D:=D) he hk l (fun j hj=>h j (by simp[hj]))
  have hb:=List.all_eq_true.1 he _ (List.getElem_mem hs)
  rw[List.mapM_cons,kdrop_one e1,kl_lits hb h2,ih]
  simp[h1]
theorem km_key{P:Program}{k:TypeId}{sh:List Bool}(hk:kmKey P k sh=true){x:List KL}(hx:KFit sh x): ∃l,keyOf P k (keyL x)=some l:=by
 unfold kmKey at hk
 simp only[Bool.and_eq_true,beq_iff_eq,bne_iff_ne]at hk
 obtain⟨⟨⟨h1,h2⟩,h0⟩,h3⟩:=hk
 obtain⟨m,hm⟩: ∃m,P.types.size=m+1:=⟨P.types.size-1,by omega⟩
 have hl:=hx.len
 split at h3
 ·rename_i fs hu
  have hall:fs.all (·.name != "_")=true:=by
   rw[Array.all_eq_true_iff_forall_mem]
   intro f hf
   have: ∀(l:List Field) (sh:List Bool) (i:Nat),fsKey P i l sh=true→ ∀f∈l,(f.name != "_")=true:=by
    intro l
    induction l with
    |nil=>intro _ _ _ f hf;cases hf
    |cons g l ih=>
     intro sh i h f hf
     cases sh with
     |nil=>simp[fsKey]at h
     |cons s sh=>
      simp only[fsKey,Bool.and_eq_true]at h
      rcases List.mem_cons.1 hf with rfl|hf
      ·exact h.1.1.2
      ·exact ih _ _ h.2 f hf
   exact this _ _ 0 h3 f (Array.mem_toList_iff.2 hf)
  have hF:(Value.formed P k (keyL x))=true:=by simp[Value.formed,hu,hl,h2]
  have:=kl_fs (P:=P) (D:=m) (k:=x) fs.toList sh 0 h3 (by simpa using hx)
  refine⟨Lit.string (keyBytes ((x.drop 0).map fun n=>[n.lit]).flatten),?_⟩
  ·unfold keyOf
   rw[hu]
   dsimp only
   rw[h1,hF]
   simp only[Bool.and_self,if_true,hm,Value.cells]
   unfold Program.keyLits
   rw[hu]
   dsimp only
   rw[if_pos ⟨by simp[hl,h2],hall⟩,this]
   rfl
 ·rename_i a e hu
  simp only[Bool.and_eq_true,beq_iff_eq]at h3
  obtain⟨⟨ha,hc⟩,he⟩:=h3
  subst ha
  have hF:(Value.formed P k (keyL x))=true:=by simp[Value.formed,hu,hl,h2]
  have:=kl_arr (P:=P) (D:=m) he hx (List.range sh.length) (fun i hi=>by rw[hl];exact List.mem_range.1 hi)
  refine⟨Lit.string (keyBytes ((List.range sh.length).map fun i=>[(x.getD i (.i 0)).lit]).flatten),?_⟩
  ·unfold keyOf
   rw[hu]
   dsimp only
   rw[h1,hF]
   simp only[Bool.and_self,if_true,hm,Value.cells]
   unfold Program.keyLits
   rw[hu]
   dsimp only
   rw[if_pos (by simp[hl,h2]),hc,this]
   rfl
 ·cases h3
structure MK(es:Array MapEntry)(clock:Nat)(sh:List Bool)(f:List KL→Option KL)(n:Nat):Prop where
 st:Stamped es clock
 ks: ∀e∈es.toList,∃k x,e.key=keyL k∧KFit sh k∧f k=some x∧e.val=x.val
 al: ∀k x,f k=some x→ ∃e∈es.toList,e.key=keyL k
 sz:es.size=n
theorem MK.empty(sh:List Bool):MK #[] 0 sh (fun _=>none) 0:=⟨stamped_empty 0,by simp,by simp,rfl⟩
theorem MK.fit{es:Array MapEntry}{clock n:Nat}{sh:List Bool}{f:List KL→Option KL}(h:MK es clock sh f n){k:List KL}{x:KL}(hf:f k=some x):KFit sh k:=by
 obtain⟨e,he,hk⟩:=h.al k x hf
 obtain⟨q,y,h1,h2,_,_⟩:=h.ks e he
 rwa [keyL_inj (hk.symm.trans h1)]
theorem MK.same{es:Array MapEntry}{clock n:Nat}{sh:List Bool}{K:List KL→Option KL}(h:MK es clock sh K n){e f:MapEntry}(he:e∈es.toList)(hf:f∈es.toList)(hk:e.key=f.key∨e.born=f.born):e=f:=by
 obtain⟨i,hi⟩:=List.mem_iff_getElem?.1 he
 obtain⟨j,hj⟩:=List.mem_iff_getElem?.1 hf
 have hij:i=j:=by
  rcases hk with hk|hk
  ·have a1:(es.toList.map (·.key))[i]?=some e.key:=by rw[List.getElem?_map,hi];rfl
   have a2:(es.toList.map (·.key))[j]?=some e.key:=by rw[List.getElem?_map,hj,hk];rfl
   exact(List.getElem?_inj (List.getElem?_eq_some_iff.1 a1).1 h.st.2.2).1 (a1.trans a2.symm)
  ·have a1:(es.toList.map (·.born))[i]?=some e.born:=by rw[List.getElem?_map,hi];rfl
   have a2:(es.toList.map (·.born))[j]?=some e.born:=by rw[List.getElem?_map,hj,hk];rfl
   exact(List.getElem?_inj (List.getElem?_eq_some_iff.1 a1).1 h.st.2.1).1 (a1.trans a2.symm)
 subst hij
 rw[hi]at hj
 exact Option.some.inj hj
def xN(f:List KL→Option KL)(k:List KL)(x:KL):List KL→Option KL:=fun q=>if q=k then some x else f q
def delK(f:List KL→Option KL)(k:List KL):List KL→Option KL:=fun q=>if q=k then none else f q
theorem MK.push{es:Array MapEntry}{clock n:Nat}{sh:List Bool}{f:List KL→Option KL}(h:MK es clock sh f n){k:List KL}(hk:KFit sh k)(x:KL)(hf:f k=none):
  MK (es.push {key:=keyL k,val:=x.val,born:=clock}) (clock+1) sh (xN f k x) (n+1):=by
 have hno: ∀e∈es.toList,e.key≠keyL k:=fun e he hek=>by
  obtain⟨q,y,h1,_,h3,_⟩:=h.ks e he
  rw[keyL_inj (h1.symm.trans hek),hf]at h3;cases h3
 refine⟨stamped_push h.st hno,fun e he=>?_,fun q y hq=>?_,by simp[h.sz]⟩
 ·simp only[Array.toList_push,List.mem_append,List.mem_singleton]at he
  rcases he with he|rfl
  ·obtain⟨q,y,h1,h2,h3,h4⟩:=h.ks e he
   refine⟨q,y,h1,h2,?_,h4⟩
   unfold xN
   rw[if_neg (fun e0=>by rw[e0,hf]at h3;cases h3)]
   exact h3
  ·exact⟨k,x,rfl,hk,by simp[xN],rfl⟩
 ·unfold xN at hq
  simp only[Array.toList_push,List.mem_append,List.mem_singleton]
  split at hq
  ·rename_i e0;subst e0;exact⟨_,.inr rfl,rfl⟩
  ·obtain⟨e,he,hek⟩:=h.al q y hq
   exact⟨e,.inl he,hek⟩
theorem MK.store{es:Array MapEntry}{clock n:Nat}{sh:List Bool}{f:List KL→Option KL}(h:MK es clock sh f n){k:List KL}(x:KL){j:Nat}{e0:MapEntry}(hj:es[j]?=some e0)(he0:e0.key=keyL k):
  MK (es.modify j fun e=>{e with key:=keyL k,val:=x.val}) clock sh (xN f k x) n:=by
 have hm0:e0∈es.toList:=by rw[←Array.getElem?_toList]at hj;exact List.mem_of_getElem? hj
 obtain⟨k0,x0,g1,g2,g3,_⟩:=h.ks e0 hm0
 obtain rfl:k0=k:=keyL_inj (g1.symm.trans he0)
 have hget: ∀i,(es.modify j fun e=>{e with key:=keyL k0,val:=x.val})[i]?=if i=j then some {e0 with key:=keyL k0,val:=x.val} else es[i]?:=fun i=>by
  rw[Array.getElem?_modify]
  by_cases hij:i=j
  ·subst hij;rw[if_pos rfl,if_pos rfl,hj];rfl
  ·rw[if_neg (fun q=>hij q.symm),if_neg hij]
 refine⟨stamped_modify h.st j _ (fun e _=>rfl) (fun e he hi=>?_),fun e he=>?_,fun q y hq=>?_,by simp[h.sz]⟩
 ·rw[hj]at hi;cases hi;exact he0.symm
 ·obtain⟨i,hi⟩:=List.mem_iff_getElem?.1 he
  rw[Array.getElem?_toList,hget]at hi
  split at hi
  ·cases hi;exact⟨k0,x,rfl,g2,by simp[xN],rfl⟩
  ·rename_i hij
   have hm:e∈es.toList:=by rw[←Array.getElem?_toList]at hi;exact List.mem_of_getElem? hi
   obtain⟨q,y,h1,h2,h3,h4⟩:=h.ks e hm
   refine⟨q,y,h1,h2,?_,h4⟩
   unfold xN
   rw[if_neg]
   ·exact h3
   ·rintro rfl
    have he2:=h.same hm hm0 (.inl (h1.trans he0.symm))
    subst he2
    apply hij
    have hli:=(Array.getElem?_eq_some_iff.1 hi).1
    have hlj:=(Array.getElem?_eq_some_iff.1 hj).1
    have a1:(es.toList.map (·.key))[i]?=some e.key:=by rw[List.getElem?_map,Array.getElem?_toList,hi];rfl
    have a2:(es.toList.map (·.key))[j]?=some e.key:=by rw[List.getElem?_map,Array.getElem?_toList,hj];rfl
    exact(List.getElem?_inj (List.getElem?_eq_some_iff.1 a1).1 h.st.2.2).1 (a1.trans a2.symm)
 ·unfold xN at hq
  have key: ∀(i:Nat) (e:MapEntry),es[i]?=some e→ ∃e'∈(es.modify j fun e=>{e with key:=keyL k0,val:=x.val}).toList,e'.key=e.key:=fun i e hi=>by
   by_cases hij:i=j
   ·subst hij
    rw[hj]at hi;cases hi
    refine⟨{e0 with key:=keyL k0,val:=x.val},List.mem_of_getElem? (i:=i) ?_,he0.symm⟩
    rw[Array.getElem?_toList,hget,if_pos rfl]
   ·refine⟨e,List.mem_of_getElem? (i:=i) ?_,rfl⟩
    rw[Array.getElem?_toList,hget,if_neg hij,hi]
  split at hq
  ·rename_i e1;subst e1
   obtain⟨e',h1,h2⟩:=key j e0 hj
   exact⟨e',h1,h2.trans he0⟩
  ·obtain⟨e,he,hek⟩:=h.al q y hq
   obtain⟨i,hi⟩:=List.mem_iff_getElem?.1 he
   rw[Array.getElem?_toList]at hi
   obtain⟨e',h1,h2⟩:=key i e hi
   exact⟨e',h1,h2.trans hek⟩
theorem MK.erase{es:Array MapEntry}{clock n:Nat}{sh:List Bool}{f:List KL→Option KL}(h:MK es clock sh f n){k:List KL}{j:Nat}{e0:MapEntry}(hj:es[j]?=some e0)(he0:e0.key=keyL k):
  MK (es.eraseIdxIfInBounds j) clock sh (delK f k) (n-1):=by
 have hjs:j<es.size:=(Array.getElem?_eq_some_iff.1 hj).1
 have hsub:(es.eraseIdxIfInBounds j).toList=es.toList.eraseIdx j:=by
  unfold Array.eraseIdxIfInBounds
  rw[dif_pos hjs]
  simp
 have hm0:e0∈es.toList:=by rw[←Array.getElem?_toList]at hj;exact List.mem_of_getElem? hj
 refine⟨stamped_erase h.st j,fun e he=>?_,fun q y hq=>?_,?_⟩
 ·rw[hsub]at he
  have hm:=(List.eraseIdx_sublist _ _).subset he
  obtain⟨q,y,h1,h2,h3,h4⟩:=h.ks e hm
  refine⟨q,y,h1,h2,?_,h4⟩
  unfold delK
  rw[if_neg]
  ·exact h3
  ·rintro rfl
   have he2:=h.same hm hm0 (.inl (h1.trans he0.symm))
   subst he2
   obtain⟨i,hij,hi⟩:=List.mem_eraseIdx_iff_getElem?.1 he
   apply hij
   have a1:(es.toList.map (·.key))[i]?=some e.key:=by rw[List.getElem?_map,hi];rfl
   have a2:(es.toList.map (·.key))[j]?=some e.key:=by rw[List.getElem?_map,Array.getElem?_toList,hj];rfl
   exact(List.getElem?_inj (List.getElem?_eq_some_iff.1 a1).1 h.st.2.2).1 (a1.trans a2.symm)
 ·unfold delK at hq
  split at hq
  ·cases hq
  ·rename_i hne
   obtain⟨e,he,hek⟩:=h.al q y hq
   refine⟨e,?_,hek⟩
   rw[hsub]
   obtain⟨i,hi⟩:=List.mem_iff_getElem?.1 he
   refine List.mem_eraseIdx_iff_getElem?.2 ⟨i,fun hij=>hne ?_,hi⟩
   subst hij
   rw[Array.getElem?_toList,hj]at hi
   cases hi
   exact keyL_inj (hek.symm.trans he0)
 ·have:=congrArg List.length hsub
  rw[List.length_eraseIdx,if_pos (by simpa using hjs)]at this
  have e2:=h.sz
  simp only[Array.length_toList]at this
  omega
def remL(a:Nat)(b:Nat):List Nat:=
 if a=0∨b=0 then []else if h:a%b=0 then [a,b]else a::remL b (a%b)
termination_by b
decreasing_by exact Nat.mod_lt _ (by omega)
theorem remL_last: ∀(n a b:Nat),b≤n→b≠0→(remL a b).getLastD b=Nat.gcd a b
 |0,a,b,h,hb=>by omega
 |n+1,a,b,h,hb=>by
  rw[remL]
  by_cases ha:a=0
  ·subst ha;simp
  ·rw[if_neg (by omega)]
   split
   ·rename_i h0
    rw[Nat.gcd_comm,Nat.gcd_rec,h0]
    simp
   ·rename_i h0
    have hlt:a%b<b:=Nat.mod_lt _ (by omega)
    have ih:=remL_last n b (a%b) (by omega) h0
    have hne:remL b (a%b)≠[]:=by
     rw[remL,if_neg (by omega)]
     split<;>simp
    rw[Nat.gcd_comm,Nat.gcd_rec,Nat.gcd_comm,←ih]
    cases hr:remL b (a%b) with
    |nil=>exact absurd hr hne
    |cons x r=>simp[List.getLastD]
structure Rt2 where
 n:Int
 d:Int
 deriving DecidableEq
def pQ(r:Rt2):Bool:=decide (1≤r.d∧r.d≤1073741824∧ -1073741824≤r.n∧r.n≤1073741824)&&decide (Nat.gcd r.n.natAbs r.d.toNat=1)
open Go.RowKit Go.MapKept
def MapN(w:World)(b:Nat)(f:Int→Option Value)(n:Nat):Prop:=
 ∃es clock,w.heap[b]?=some (.map es clock)∧Stamped es clock∧(∀e∈es.toList,∃a,e.key=.int .i64 a)∧
  (∀e∈es.toList,∀a,e.key=.int .i64 a→f a=some e.val)∧(∀a v,f a=some v→ ∃e∈es.toList,e.key=.int .i64 a)∧es.size=n
theorem MapN.lt{w:World}{b:Nat}{f:Int→Option Value}{n:Nat}(h:MapN w b f n):b<w.heap.size:=by
 obtain⟨es,clock,hb,_⟩:=h
 exact(Array.getElem?_eq_some_iff.1 hb).1
theorem MapN.of_block{w w':World}{b:Nat}{f:Int→Option Value}{n:Nat}(h:MapN w b f n)(hb:w'.heap[b]?=w.heap[b]?):MapN w' b f n:=by
 obtain⟨es,clock,hh,r⟩:=h
 exact⟨es,clock,hb.trans hh,r⟩
theorem MapN.made(w:World):MapN (w.alloc (.map #[] 0)) w.heap.size (fun _=>none) 0:=
 ⟨#[],0,(MapKept.heap_alloc w _).1,stamped_empty 0,by simp,by simp,by simp,rfl⟩
section
variable {P:Program} {w:World} {b:Nat} {f:Int→Option Value} {n:Nat} {mt kt et:TypeId}
theorem MapN.find{es:Array MapEntry}(hks: ∀e∈es.toList,∃a,e.key=.int .i64 a)(k:Int):
  (Instr.findNow (.int .i64) (.int .i64 k) es.toList 0=some none∧ ∀x∈es.toList,x.key≠.int .i64 k)∨ ∃j e,Instr.findNow (.int .i64) (.int .i64 k) es.toList 0=some (some (0+j,e.val))∧es.toList[j]?=some e∧e.key=.int .i64 k:=
 findNow_spec (d:=.int .i64) (k:=.int .i64 k) rfl es.toList 0 (fun x hx=>by obtain⟨a,ha⟩:=hks x hx;rw[ha];rfl)
theorem MapN.lookup(h:MapN w b f n)(hm:P.underlying mt=some (.map kt et))(hd:P.underlying kt=some (.int .i64)){z:Value}(hz: ∀w,(zeroValue et).run P w=.ok z w)(k:Int):
  (Instr.lookup mt (.map (some b)) (.int .i64 k) false).run P w=.ok ((f k).getD z) w:=by
 obtain⟨es,clock,hb,hs,hks,h1,h2,hsz⟩:=h
 rcases MapN.find hks k with⟨hf,hn⟩|⟨j,e,hf,hj,he⟩
 ·have:f k=none:=by
   cases hfk:f k with
   |none=>rfl
   |some v=>obtain⟨e,he,hek⟩:=h2 k v hfk;exact absurd hek (hn e he)
  simp[Instr.lookup,run_underlying hm,MapKept.run_getObj_map hb,run_checkKey hd (k:=.int .i64 k) rfl,run_findKey hd hf,hz,Result.andThen,this]
 ·have hmem:e∈es.toList:=List.mem_of_getElem? hj
  have:f k=some e.val:=h1 e hmem k he
  simp[Instr.lookup,run_underlying hm,MapKept.run_getObj_map hb,run_checkKey hd (k:=.int .i64 k) rfl,run_findKey hd hf,Result.andThen,this]
theorem MapN.lookup_ok(h:MapN w b f n)(hm:P.underlying mt=some (.map kt et))(hd:P.underlying kt=some (.int .i64)){z:Value}(hz: ∀w,(zeroValue et).run P w=.ok z w)(k:Int):
  (Instr.lookup mt (.map (some b)) (.int .i64 k) true).run P w=.ok (.tuple #[(f k).getD z,.bool (f k).isSome]) w:=by
 obtain⟨es,clock,hb,hs,hks,h1,h2,hsz⟩:=h
 rcases MapN.find hks k with⟨hf,hn⟩|⟨j,e,hf,hj,he⟩
 ·have:f k=none:=by
   cases hfk:f k with
   |none=>rfl
   |some v=>obtain⟨e,he,hek⟩:=h2 k v hfk;exact absurd hek (hn e he)
  simp[Instr.lookup,run_underlying hm,MapKept.run_getObj_map hb,run_checkKey hd (k:=.int .i64 k) rfl,run_findKey hd hf,hz,Result.andThen,this]
 ·have hmem:e∈es.toList:=List.mem_of_getElem? hj
  have:f k=some e.val:=h1 e hmem k he
  simp[Instr.lookup,run_underlying hm,MapKept.run_getObj_map hb,run_checkKey hd (k:=.int .i64 k) rfl,run_findKey hd hf,Result.andThen,this]
def upd(f:Int→Option Value)(k:Int)(v:Value):Int→Option Value:=fun q=>if q=k then some v else f q
theorem MapN.update(h:MapN w b f n)(hm:P.underlying mt=some (.map kt et))(hd:P.underlying kt=some (.int .i64))(k:Int)(v:Value):
  ∃w',(Instr.mapUpdate mt (.map (some b)) (.int .i64 k) v).run P w=.ok () w'∧MapN w' b (upd f k v) (if (f k).isSome then n else n+1)∧w.grownBy w' (some b)∧w'.heap.size=w.heap.size∧w'.drawn=w.drawn:=by
 obtain⟨es,clock,hb,hs,hks,h1,h2,hsz⟩:=h
 have hlt:b<w.heap.size:=(Array.getElem?_eq_some_iff.1 hb).1
 rcases MapN.find hks k with⟨hf,hn⟩|⟨j,e,hf,hj,he⟩
 ·refine⟨{w with heap:=w.heap.setIfInBounds b (.map (es.push {key:=.int .i64 k,val:=v,born:=clock}) (clock+1))},by simp[Instr.mapUpdate,run_underlying hm,MapKept.run_getObj_map hb,run_checkKey hd (k:=.int .i64 k) rfl,run_findKey hd hf,MapKept.run_setObj_map _ hb,Result.andThen],⟨_,_,(heap_set hb).1,stamped_push hs hn,?_,?_,?_,?_⟩,⟨rfl,rfl,rfl,by simp,fun i hi hne=>?_⟩,by simp,rfl⟩
  ·intro x hx
   simp only[Array.toList_push,List.mem_append,List.mem_singleton]at hx
   rcases hx with hx|rfl
   ·exact hks x hx
   ·exact⟨k,rfl⟩
  ·intro x hx a ha
   simp only[Array.toList_push,List.mem_append,List.mem_singleton]at hx
   rcases hx with hx|rfl
   ·have:a≠k:=fun hak=>hn x hx (by rw[ha,hak])
    simp only[upd,if_neg this];exact h1 x hx a ha
   ·simp only[Value.int.injEq,true_and]at ha
    simp only[upd,if_pos ha.symm]
  ·intro a u ha
   by_cases hak:a=k
   ·exact⟨_,by simp;exact .inr rfl,by rw[hak]⟩
   ·simp only[upd,if_neg hak]at ha
    obtain⟨x,hx,hxa⟩:=h2 a u ha
    exact⟨x,by simp[Array.toList_push];exact .inl (by simpa using hx),hxa⟩
  ·have hfk:f k=none:=by
    cases hfk:f k with
    |none=>rfl
    |some v=>obtain⟨e,he,hek⟩:=h2 k v hfk;exact absurd hek (hn e he)
   simp[hfk,hsz]
  ·exact(heap_set hb).2 i (fun e=>hne (by rw[e]))
 ·have hj':es[j]?=some e:=by simpa using hj
  have hkey: ∀e',es[j]?=some e'→({e' with key:=.int .i64 k,val:=v}:MapEntry).key=e'.key:=fun e' he'=>by rw[hj']at he';cases he';exact he.symm
  have hmem: ∀x,x∈(es.modify j fun e=>{e with key:=.int .i64 k,val:=v}).toList↔(x={e with key:=.int .i64 k,val:=v}∨(x∈es.toList∧x.key≠.int .i64 k)):=by
   intro x
   have hnd:=hs.2.2
   constructor
   ·intro hx
    obtain⟨i,hi⟩:=List.mem_iff_getElem?.1 hx
    rw[Array.getElem?_toList,Array.getElem?_modify]at hi
    by_cases hij:j=i
    ·subst hij
     rw[if_pos rfl,hj']at hi
     simp at hi
     exact .inl hi.symm
    ·rw[if_neg hij]at hi
     refine .inr ⟨List.mem_iff_getElem?.2 ⟨i,by simpa using hi⟩,fun hxk=>hij ?_⟩
     have a1:(es.toList.map (·.key))[j]?=some (.int .i64 k):=by simp[hj',he]
     have a2:(es.toList.map (·.key))[i]?=some (.int .i64 k):=by simp[hi,hxk]
     have hjl:j<(es.toList.map (·.key)).length:=(List.getElem?_eq_some_iff.1 a1).1
     exact(List.getElem?_inj hjl hnd).1 (a1.trans a2.symm)
   ·rintro(rfl|⟨hx,hxk⟩)
    ·refine List.mem_iff_getElem?.2 ⟨j,?_⟩
     rw[Array.getElem?_toList,Array.getElem?_modify,if_pos rfl,hj'];rfl
    ·obtain⟨i,hi⟩:=List.mem_iff_getElem?.1 hx
     have hij:j≠i:=fun h=>by subst h;rw[hj]at hi;cases hi;exact hxk he
     refine List.mem_iff_getElem?.2 ⟨i,?_⟩
     rw[Array.getElem?_toList,Array.getElem?_modify,if_neg hij];simpa using hi
  refine⟨{w with heap:=w.heap.setIfInBounds b (.map (es.modify j fun e=>{e with key:=.int .i64 k,val:=v}) clock)},by simp[Instr.mapUpdate,run_underlying hm,MapKept.run_getObj_map hb,run_checkKey hd (k:=.int .i64 k) rfl,run_findKey hd hf,hj',he,run_keyThatStays (d:=.int .i64) (k:=.int .i64 k) rfl,MapKept.run_setObj_map _ hb,Result.andThen],⟨_,_,(heap_set hb).1,stamped_modify hs _ _ (fun _ _=>rfl) (fun e' _ he'=>hkey e' he'),?_,?_,?_,?_⟩,⟨rfl,rfl,rfl,by simp,fun i hi hne=>?_⟩,by simp,rfl⟩
  ·intro x hx
   rcases (hmem x).1 hx with rfl|⟨hx,_⟩
   ·exact⟨k,rfl⟩
   ·exact hks x hx
  ·intro x hx a ha
   rcases (hmem x).1 hx with rfl|⟨hx,hxk⟩
   ·simp only[Value.int.injEq,true_and]at ha
    simp only[upd,if_pos ha.symm]
   ·have:a≠k:=fun hak=>hxk (by rw[ha,hak])
    simp only[upd,if_neg this];exact h1 x hx a ha
  ·intro a u ha
   by_cases hak:a=k
   ·exact⟨_,(hmem _).2 (.inl rfl),by rw[hak]⟩
   ·simp only[upd,if_neg hak]at ha
    obtain⟨x,hx,hxa⟩:=h2 a u ha
    exact⟨x,(hmem _).2 (.inr ⟨hx,by rw[hxa];intro e;simp at e;exact hak e⟩),hxa⟩
  ·have hfk:f k=some e.val:=h1 e (List.mem_of_getElem? hj) k he
   simp[hfk,hsz]
  ·exact(heap_set hb).2 i (fun e=>hne (by rw[e]))
theorem MapN.len(h:MapN w b f n): ∃es clock,w.heap[b]?=some (.map es clock)∧es.size=n:=by
 obtain⟨es,clock,hb,_,_,_,_,hs⟩:=h
 exact⟨es,clock,hb,hs⟩
end
end Go.Proofs.YtaoaafdommlhcaaGreat

/- Parts of the proof that belong together: Sl St So. -/
import Derived.Test.YtaoaafdommlhcaaGreatHA08
import Derived.Laws.Small
import Derived.Test.YtaoaafdommlhcaaGreatRows
import Derived.ProofKit
import Derived.OpenShut
import Derived.Deep.Slices
import Derived.ChangeCalls
set_option maxRecDepth 10000
set_option linter.unusedSimpArgs false
set_option linter.unusedVariables false
set_option autoImplicit false
open Go.Proofs.Tryz
namespace Go.Proofs.YtaoaafdommlhcaaGreat
open Go
theorem app_ok{n b:Nat}(h:n≤2147483648)(hb:Nat.ble b 65536=true):n*b≤140737488355328:=
 Nat.mul_le_mul h (Nat.le_of_ble_eq_true hb)
section
variable {P:Program} {ro:Option Nat} {env:Env} {σ:List Ent} {o:Oper} {dst:Option Tmp} {ty:TypeId} {pos:String} {after:Array Edge} {guard:Option (Nat×Bool)}
def eqFs(P:Program):List Field→Nat→List AV→List AV→Option Bool
 |[],_,_,_=>some true
 |f::fs,i,.int k a::xs,.int k' b::ys=>match P.underlying f.type,P.info? f.type,decide (f.name≠ "_"),f.offset==i,decide (k=k') with
  |some (.int _),some _,true,true,true=>(eqFs P fs (i+1) xs ys).map ((a==b)&& ·)
  |_,_,_,_,_=>none
 |f::fs,i,.bool a::xs,.bool b::ys=>match P.underlying f.type,P.info? f.type,decide (f.name≠ "_"),f.offset==i with
  |some .bool,some _,true,true=>(eqFs P fs (i+1) xs ys).map ((a==b)&& ·)
  |_,_,_,_=>none
 |f::fs,i,.str a::xs,.str b::ys=>match P.underlying f.type,P.info? f.type,decide (f.name≠ "_"),f.offset==i with
  |some .string,some _,true,true=>(eqFs P fs (i+1) xs ys).map ((a.toList==b.toList)&& ·)
  |_,_,_,_=>none
 |_,_,_,_=>none
theorem qN{t:TypeId}{cs:Array Value}{off:Nat}{v:Value}{w:World}(ha:(isAgg t).run P w=.ok false w)(hv:cs[off]?=some v):(part t cs off).run P w=.ok v w:=by
 simp[part,Sem.run_bind,ha,hv]
theorem isAgg_int{t:TypeId}{k:IntKind}{i:TypeInfo}(h:P.underlying t=some (.int k))(hi:P.info? t=some i)(w:World):(isAgg t).run P w=.ok false w:=(xE (b:=false) (sz:=i.size) (by simp[tyOf,h,hi]) w).1
theorem isAgg_str{t:TypeId}{i:TypeInfo}(h:P.underlying t=some .string)(hi:P.info? t=some i)(w:World):(isAgg t).run P w=.ok false w:=(xE (b:=false) (sz:=i.size) (by simp[tyOf,h,hi]) w).1
theorem isAgg_bool{t:TypeId}{i:TypeInfo}(h:P.underlying t=some .bool)(hi:P.info? t=some i)(w:World):(isAgg t).run P w=.ok false w:=(xE (b:=false) (sz:=i.size) (by simp[tyOf,h,hi]) w).1
theorem run_eqFs{M:Mem}{d:Nat}{w:World}{vs us:Array Value}: ∀{fs:List Field} {i:Nat} {xs ys:List AV} {r:Bool},eqFs P fs i xs ys=some r→(∀(j:Nat) x,xs[j]?=some x→ ∃v,vs[i+j]?=some v∧VRel M x v)→(∀(j:Nat) x,ys[j]?=some x→ ∃v,us[i+j]?=some v∧VRel M x v)→
  (Op.eqFields (d+1) vs us fs).run P w=.ok r w
 |[],i,xs,ys,r,h,_,_=>by simp only[eqFs,Option.some.injEq]at h;subst h;simp[Op.eqFields]
 |f::fs,i,xs,ys,r,h,h1,h2=>by
  unfold eqFs at h
  split at h
  ·cases ‹_::_=[]›
  ·rename_i i _ _ _ _ f' fs' k a xs k' b ys heq
   cases heq
   split at h
   ·rename_i k0 i0 hu hi0 hname hoff hk
    simp only[Option.map_eq_some_iff]at h
    obtain⟨r',h,rfl⟩:=h
    have hk:k=k':=by simpa using hk
    have hoff:f.offset=i:=by simpa using hoff
    have hname:f.name≠ "_" :=by simpa using hname
    obtain⟨v,hv,hrv⟩:=h1 0 _ rfl
    obtain⟨u,hu',hru⟩:=h2 0 _ rfl
    simp only[VRel]at hrv hru
    subst hrv hru hk
    have ih:=run_eqFs (d:=d) (w:=w) (i:=i+1) h (fun j x hx=>by have:=h1 (j+1) x (by simpa using hx);rwa [show i+(j+1)=i+1+j by omega]at this) (fun j x hx=>by have:=h2 (j+1) x (by simpa using hx);rwa [show i+(j+1)=i+1+j by omega]at this)
    have e1:=qN (P:=P) (isAgg_int hu hi0 w) (show vs[f.offset]?=some (.int k a) by rw[hoff];simpa using hv)
    have e2:=qN (P:=P) (isAgg_int hu hi0 w) (show us[f.offset]?=some (.int k b) by rw[hoff];simpa using hu')
    simp only[Op.eqFields,if_pos hname,Sem.run_bind,e1,e2,Result.andThen_ok,run_equalIn_int w d f.type k _ a b hu]
    cases hab:a==b
    ·simp
    ·simpa using ih
   ·cases h
  ·rename_i i _ _ _ _ f' fs' a xs b ys heq
   cases heq
   split at h
   ·rename_i i0 hu hi0 hname hoff
    simp only[Option.map_eq_some_iff]at h
    obtain⟨r',h,rfl⟩:=h
    have hoff:f.offset=i:=by simpa using hoff
    have hname:f.name≠ "_" :=by simpa using hname
    obtain⟨v,hv,hrv⟩:=h1 0 _ rfl
    obtain⟨u,hu',hru⟩:=h2 0 _ rfl
    simp only[VRel]at hrv hru
    subst hrv hru
    have ih:=run_eqFs (d:=d) (w:=w) (i:=i+1) h (fun j x hx=>by have:=h1 (j+1) x (by simpa using hx);rwa [show i+(j+1)=i+1+j by omega]at this) (fun j x hx=>by have:=h2 (j+1) x (by simpa using hx);rwa [show i+(j+1)=i+1+j by omega]at this)
    have e1:=qN (P:=P) (isAgg_bool hu hi0 w) (show vs[f.offset]?=some (.bool a) by rw[hoff];simpa using hv)
    have e2:=qN (P:=P) (isAgg_bool hu hi0 w) (show us[f.offset]?=some (.bool b) by rw[hoff];simpa using hu')
    simp only[Op.eqFields,if_pos hname,Sem.run_bind,e1,e2,Result.andThen_ok,run_equalIn_bool' w d f.type a b hu]
    cases hab:a==b
    ·simp
    ·simpa using ih
   ·cases h
  ·rename_i i _ _ _ _ f' fs' a xs b ys heq
   cases heq
   split at h
   ·rename_i i0 hu hi0 hname hoff
    simp only[Option.map_eq_some_iff]at h
    obtain⟨r',h,rfl⟩:=h
    have hoff:f.offset=i:=by simpa using hoff
    have hname:f.name≠ "_" :=by simpa using hname
    obtain⟨v,hv,hrv⟩:=h1 0 _ rfl
    obtain⟨u,hu',hru⟩:=h2 0 _ rfl
    simp only[VRel]at hrv hru
    subst hrv hru
    have ih:=run_eqFs (d:=d) (w:=w) (i:=i+1) h (fun j x hx=>by have:=h1 (j+1) x (by simpa using hx);rwa [show i+(j+1)=i+1+j by omega]at this) (fun j x hx=>by have:=h2 (j+1) x (by simpa using hx);rwa [show i+(j+1)=i+1+j by omega]at this)
    have e1:=qN (P:=P) (isAgg_str hu hi0 w) (show vs[f.offset]?=some (.string a) by rw[hoff];simpa using hv)
    have e2:=qN (P:=P) (isAgg_str hu hi0 w) (show us[f.offset]?=some (.string b) by rw[hoff];simpa using hu')
    simp only[Op.eqFields,if_pos hname,Sem.run_bind,e1,e2,Result.andThen_ok,run_equalIn_string w d f.type a b hu]
    cases hab:a.toList==b.toList
    ·simp
    ·simpa using ih
   ·cases h
  ·cases h
def eqTyB(P:Program)(t:TypeId):Bool:=!P.eqGuardType P.depth t&&!P.stoodInHeld t
theorem eqTy_spec{t:TypeId}{fs:Array Field}(h:P.underlying t=some (.struct fs))(hb:eqTyB P t=true):P.underlying t=some (.struct (P.fieldsOf t))∧P.fieldsOf t=fs∧P.eqGuardType P.depth t=false∧P.stoodInHeld t=false:=by
 have e:P.fieldsOf t=fs:=by unfold Program.fieldsOf;rw[h]
 simp only[eqTyB,Bool.and_eq_true,Bool.not_eq_true']at hb
 exact⟨by rw[e];exact h,e,hb.1,hb.2⟩
theorem g_eqlAgg{x y:Operand}{t yt:TypeId}{fs:Array Field}{l m:List AV}{b:Bool}(ht:P.underlying t=some (.struct fs))(hq:eqTyB P t=true)(hx:xP env x=some (.agg l))(hy:xP env y=some (.agg m))(hb:eqFs P fs.toList 0 l m=some b):
  GOp P ro ⟨dst,.binOp .eql t x y yt,ty,pos,after,guard⟩ env σ (Is (.bool b) σ):=
 zA _ (by intro c h;cases h) fun X M e w hg ho=>by
  have h1:=ho x (by simp[Op.operands]) _ hx
  have h2:=ho y (by simp[Op.operands]) _ hy
  simp only[VRel]at h1 h2
  obtain⟨vs,e1,k1⟩:=h1
  obtain⟨us,e2,k2⟩:=h2
  obtain⟨c1,c2,c3,c4⟩:=eqTy_spec ht hq
  refine⟨.bool b,by simp[VRel],?_⟩
  have hr:=run_eqFs (P:=P) (d:=9998) (w:=w) hb (vs:=vs) (us:=us) (M:=M) (fun j x hx=>by obtain⟨v,a,b⟩:=k1.get hx;exact⟨v,by simpa using a,b⟩) (fun j x hx=>by obtain⟨v,a,b⟩:=k2.get hx;exact⟨v,by simpa using a,b⟩)
  simp only[execOp,e1,e2,Sem.run_bind,run_eqGuard_agg w .eql t x y vs us c3,Result.andThen_ok,run_eql_struct,run_equalIn_agg w 9999 t vs us c1 c4,c2,hr]
  rfl
theorem g_neqAgg{x y:Operand}{t yt:TypeId}{fs:Array Field}{l m:List AV}{b:Bool}(ht:P.underlying t=some (.struct fs))(hq:eqTyB P t=true)(hx:xP env x=some (.agg l))(hy:xP env y=some (.agg m))(hb:eqFs P fs.toList 0 l m=some b):
  GOp P ro ⟨dst,.binOp .neq t x y yt,ty,pos,after,guard⟩ env σ (Is (.bool (!b)) σ):=
 zA _ (by intro c h;cases h) fun X M e w hg ho=>by
  have h1:=ho x (by simp[Op.operands]) _ hx
  have h2:=ho y (by simp[Op.operands]) _ hy
  simp only[VRel]at h1 h2
  obtain⟨vs,e1,k1⟩:=h1
  obtain⟨us,e2,k2⟩:=h2
  obtain⟨c1,c2,c3,c4⟩:=eqTy_spec ht hq
  refine⟨.bool (!b),by simp[VRel],?_⟩
  have hr:=run_eqFs (P:=P) (d:=9998) (w:=w) hb (vs:=vs) (us:=us) (M:=M) (fun j x hx=>by obtain⟨v,a,b⟩:=k1.get hx;exact⟨v,by simpa using a,b⟩) (fun j x hx=>by obtain⟨v,a,b⟩:=k2.get hx;exact⟨v,by simpa using a,b⟩)
  simp only[execOp,e1,e2,Sem.run_bind,run_eqGuard_agg w .neq t x y vs us c3,Result.andThen_ok,run_neq_struct,run_equalIn_agg w 9999 t vs us c1 c4,c2,hr]
  rfl
theorem run_equalIn_nil{t e:TypeId}(ht:P.underlying t=some (.slice e))(d:Nat)(a:Addr)(n c:Nat)(w:World):(Op.equalIn (d+1) t (.slice (some a) n c) (.slice none 0 0)).run P w=.ok false w:=by
 simp only[Op.equalIn,Sem.run_bind,run_underlying ht,Result.andThen_ok,Sem.run_pure]
theorem run_eql_nil{t e:TypeId}(ht:P.underlying t=some (.slice e))(a:Addr)(n c:Nat)(w:World):(binOp .eql t (.slice (some a) n c) (.slice none 0 0)).run P w=.ok (.bool false) w:=by
 have h:=run_equalIn_nil (P:=P) ht 9999 a n c w
 simp only[binOp]
 simp only[Op.equal,Op.maxDepth,Sem.run_bind,Sem.run_map,h]
 rfl
theorem g_eqlNil{x:Operand}{t e yt:TypeId}{sz:Nat}{L:List (List AV)}(ht:P.underlying t=some (.slice e))(hx:xP env x=some (.dl sz L))(hL:0<L.length):
  GOp P ro ⟨dst,.binOp .eql t x (.const nilS) yt,ty,pos,after,guard⟩ env σ (Is (.bool false) σ):=
 zA _ (by intro c h;cases h) fun X M en w hg ho=>by
  have h1:=ho x (by simp[Op.operands]) _ hx
  simp only[VRel]at h1
  obtain⟨a,cap,hv,_,_,_,h2⟩:=h1
  rcases h2 with rfl|⟨b,off,rfl,_⟩
  ·simp at hL
  refine⟨.bool false,by simp[VRel],?_⟩
  have e:en.eval (.const nilS)=nilS:=rfl
  simp only[execOp,e,hv,Sem.run_bind,run_eql_nil ht]
  rfl
theorem g_max{x y:Operand}{ats:Array TypeId}{k k':IntKind}{a b:Int}(hx:xP env x=some (.int k a))(hy:xP env y=some (.int k' b)):
  GOp P ro ⟨dst,.call {callee:=.builtin .max,args:=#[x,y],argTypes:=ats},ty,pos,after,guard⟩ env σ (Is (.int k (max a b)) σ):=
 zA _ (by intro c h;cases h) fun X M e w hg ho=>by
  have h1:=ho x (by simp[Op.operands,Call.operands]) _ hx
  have h2:=ho y (by simp[Op.operands,Call.operands]) _ hy
  simp only[VRel]at h1 h2
  refine⟨.int k (max a b),by simp[VRel],?_⟩
  have e:(if b>a then b else a)=max a b:=by split<;>omega
  simp[execOp,resolve,invoke,builtin,h1,h2,Sem.run_bind,run_max_int2,e]
theorem g_min{x y:Operand}{ats:Array TypeId}{k k':IntKind}{a b:Int}(hx:xP env x=some (.int k a))(hy:xP env y=some (.int k' b)):
  GOp P ro ⟨dst,.call {callee:=.builtin .min,args:=#[x,y],argTypes:=ats},ty,pos,after,guard⟩ env σ (Is (.int k (min a b)) σ):=
 zA _ (by intro c h;cases h) fun X M e w hg ho=>by
  have h1:=ho x (by simp[Op.operands,Call.operands]) _ hx
  have h2:=ho y (by simp[Op.operands,Call.operands]) _ hy
  simp only[VRel]at h1 h2
  refine⟨.int k (min a b),by simp[VRel],?_⟩
  have e:(if b<a then b else a)=min a b:=by split<;>omega
  simp[execOp,resolve,invoke,builtin,h1,h2,Sem.run_bind,run_min_int2,e]
theorem flatten_set{sz:Nat}: ∀{l:List (List AV)} {k:Nat} {y:List AV},(∀x∈l,x.length=sz)→y.length=sz→k<l.length→(l.set k y).flatten=l.flatten.take (k*sz)++y++l.flatten.drop (k*sz+y.length)
 |[],k,y,_,_,h=>by simp at h
 |x::l,0,y,hs,hy,_=>by
  have hx:=hs x (by simp)
  simp[hy,←hx]
 |x::l,k+1,y,hs,hy,hk=>by
  have hx:=hs x (by simp)
  have ih:=flatten_set (l:=l) (k:=k) (fun z hz=>hs z (by simp[hz])) hy (by simpa using hk)
  have e1:(k+1)*sz=x.length+k*sz:=by rw[Nat.add_mul,hx];omega
  have e2:(k+1)*sz+y.length=x.length+(k*sz+y.length):=by omega
  simp only[List.set_cons_succ,List.flatten_cons,ih]
  rw[e2,e1,List.take_length_add_append,List.drop_length_add_append]
  simp
theorem qQ{sz:Nat}: ∀{l:List (List AV)},(∀x∈l,x.length=sz)→l.flatten.length=l.length*sz
 |[],_=>by simp
 |x::l,h=>by
  have h1:=h x (by simp)
  have ih:=qQ (l:=l) (fun z hz=>h z (by simp[hz]))
  simp only[List.flatten_cons,List.length_append,ih,h1,List.length_cons,Nat.add_mul];omega
theorem vB{t e:TypeId}{x y:Operand}{k sz:Nat}{g:Bool}{v:AV}{u:Value}{l:List (List AV)}{σ':List Ent}(ht:tyOf P t=some (g,sz))(hx:xP env x=some (.rptr u (k*sz)))(hy:xP env y=some v)(h1:isOne v=true)(ha:v.cells.all AV.one=true)(hsz:v.cells.length=sz)
  (hk:k<l.length) (hu:Upd σ (.row u e sz l) (.row u e sz (l.set k v.cells)) σ'):GOp P ro ⟨dst,.store t x y,ty,pos,after,guard⟩ env σ (Is (.raw undef) σ'):=by
 refine⟨fun X M a w hg=>?_⟩
 obtain⟨xs,_,_,hs⟩:=hg.ent _ hu.mem
 have hfl:=qQ hs
 have hle:(k+1)*sz≤l.length*sz:=Nat.mul_le_mul_right _ hk
 rw[Nat.add_mul]at hle
 have hb:k*sz+v.cells.length≤l.flatten.length:=by omega
 exact(g_storeRow (l:=l) (l':=l.set k v.cells) ht hx hy h1 ha hsz (by omega) (by rw[setL_eq _ _ _ hb];exact flatten_set hs hsz hk) (by simp) (fun z hz=>by rcases List.mem_or_eq_of_mem_set hz with h|rfl;exact hs z h;exact hsz) hu).run X M a w hg
theorem kG{α:Type}{l:List α}{k:Nat}{x y:α}(h:l[k]?=some x):(l.set k y)[k]?=some y:=by
 have:=(List.getElem?_eq_some_iff.1 h).1
 simp[this]
theorem g_setPart{t e:TypeId}{x y:Operand}{k sz o n:Nat}{g:Bool}{v:AV}{u:Value}{l:List (List AV)}{σ':List Ent}{A B:List AV}(ht:tyOf P t=some (g,n))(hx:xP env x=some (.rptr u (k*sz+o)))(hy:xP env y=some v)(h1:isOne v=true)(ha:v.cells.all AV.one=true)(hsz:v.cells.length=n)
  (hu:Upd σ (.row u e sz l) (.row u e sz (l.set k B)) σ') (hA:l[k]?=some A) (hf:o+n≤A.length) (hB:setL A o v.cells=B):GOp P ro ⟨dst,.store t x y,ty,pos,after,guard⟩ env σ (Is (.raw undef) σ'):=by
 refine⟨fun X M a w hg=>?_⟩
 obtain⟨xs,_,_,hs⟩:=hg.ent _ hu.mem
 have hk:k<l.length:=(List.getElem?_eq_some_iff.1 hA).1
 have hAl:=hs A (List.mem_of_getElem? hA)
 have hself:l.set k A=l:=by
  apply List.ext_getElem?
  intro j
  rw[List.getElem?_set]
  by_cases e:k=j
  ·subst e;simp only[hk,if_true];exact hA.symm
  ·rw[if_neg e]
 have hfl:=flatten_set hs hAl hk
 rw[hself]at hfl
 have hsize:=qQ hs
 have hBl:B.length=sz:=by rw[←hB,setL_eq _ _ _ (by omega)];simp only[List.length_append,List.length_take,List.length_drop];omega
 have hfB:=flatten_set hs hBl hk
 have hle:(k+1)*sz≤l.length*sz:=Nat.mul_le_mul_right _ hk
 rw[Nat.add_mul]at hle
 have htl:(l.flatten.take (k*sz)).length=k*sz:=by rw[List.length_take];omega
 generalize hP:l.flatten.take (k*sz)=Pp at hfl hfB htl
 rw[hAl]at hfl
 rw[hBl]at hfB
 generalize hQ:l.flatten.drop (k*sz+sz)=Qq at hfl hfB
 refine(g_storeRow (l:=l) (l':=l.set k B) ht hx hy h1 ha hsz (by omega) ?_ (by simp) (fun z hz=>by rcases List.mem_or_eq_of_mem_set hz with h|rfl;exact hs z h;exact hBl) hu).run X M a w hg
 rw[hfB,hfl,setL_eq _ _ _ (by simp only[List.length_append];omega),←hB,setL_eq _ _ _ (by omega)]
 rw[←htl,List.append_assoc Pp A Qq,List.take_length_add_append,show Pp.length+o+v.cells.length=Pp.length+(o+v.cells.length) by omega,List.drop_length_add_append]
 rw[List.take_append_of_le_length (by omega),List.drop_append_of_le_length (by omega)]
 simp
theorem g_sliceMap{α:Type}{f:α→List AV}{t e:TypeId}{sz:Nat}{x:Operand}{lo hi:Option Operand}{L:List α}{l h:Nat}{li hj:Int}(ht:pP P t=some (e,sz))(hx:xP env x=some (.dl sz (L.map f)))(hlo:uR env 0 lo=some li)(hhi:uR env (L.map f).length hi=some hj)
  (hl:li=(l:Int)) (hh:hj=(h:Int)) (hlh:li≤hj∧hj≤(L.length:Int)):GOp P ro ⟨dst,.slice t x lo hi none,ty,pos,after,guard⟩ env σ (Is (.dl sz (((L.take h).drop l).map f)) σ):=
 g_sliceDl ht hx hlo hhi hl hh (by omega) (by rw[List.length_map];omega) (by rw[List.map_drop,List.map_take])
theorem g_sliceLo{α:Type}{f:α→List AV}{t e:TypeId}{sz:Nat}{x lo:Operand}{L:List α}{l:Nat}{li:Int}(ht:pP P t=some (e,sz))(hx:xP env x=some (.dl sz (L.map f)))(hlo:uR env 0 (some lo)=some li)
  (hl:li=(l:Int)) (hlh:li≤(L.length:Int)):GOp P ro ⟨dst,.slice t x (some lo) none none,ty,pos,after,guard⟩ env σ (Is (.dl sz ((L.drop l).map f)) σ):=
 g_sliceDl ht hx hlo rfl hl rfl (by rw[List.length_map];omega) (Nat.le_refl _) (by rw[List.take_length,List.map_drop])
theorem g_sliceHi{α:Type}{f:α→List AV}{t e:TypeId}{sz:Nat}{x hi:Operand}{L:List α}{h:Nat}{hj:Int}(ht:pP P t=some (e,sz))(hx:xP env x=some (.dl sz (L.map f)))(hhi:uR env (L.map f).length (some hi)=some hj)
  (hh:hj=(h:Int)) (hlh:hj≤(L.length:Int)):GOp P ro ⟨dst,.slice t x none (some hi) none,ty,pos,after,guard⟩ env σ (Is (.dl sz ((L.take h).map f)) σ):=
 g_sliceDl ht hx rfl hhi rfl hh (Nat.zero_le _) (by rw[List.length_map];omega) (by rw[List.drop_zero,List.map_take])
theorem vF{e:TypeId}{sz:Nat}{l:List (List AV)}(h:GOp P ro o env σ (Rowed e sz l σ)):GOp P ro o env σ (Is (.dl sz l) σ):=by
 refine⟨fun X M a w hg ho K Qx hK=>h.run X M a w hg ho K Qx ?_⟩
 rintro M' u w' v σ' hm hgd hv ⟨v⟩
 obtain⟨M1,h1,h2,h3⟩:=hgd.shut .here
 simp only[VRel]at hv
 obtain⟨rfl,_⟩:=hv
 exact hK M1 _ w' _ _ (Mem.le_trans hm h1) h2 h3 .mk
theorem nil_rel(M:Mem)(sz:Nat):VRel M (.dl sz []) nilS:=by simp only[VRel];exact⟨none,0,rfl,by simp,by omega,by simp,by simp⟩
theorem scall_nil(sz:Nat){P:Program}{f:FuncId}{args args':List AV}{σ:List Ent}{Q:AV→List Ent→Prop}(hc:Cv nilS (.dl sz []) args args')(h:SCall P f args' σ Q):SCall P f args σ Q:=
 ⟨fun X M w vs hg ha=>h.run X M w vs hg (hc.rel (nil_rel M sz) ha)⟩
theorem Cv.refl{v:Value}{x:AV}: ∀l:List AV,Cv v x l l
 |[]=>.nil
 |_::l=>.same (Cv.refl l)
inductive SealEnv(env:Env)(v:Value)(x:AV):Env→Prop
 |nil:SealEnv env v x []
 |same {t:Nat} {y:AV} {r:Env} (h:lk env t=some y) (k:SealEnv env v x r):SealEnv env v x ((t,y)::r)
 |here {t:Nat} {r:Env} (h:lk env t=some (.slv v)) (k:SealEnv env v x r):SealEnv env v x ((t,x)::r)
theorem SealEnv.rel{v:Value}{x:AV}{env':Env}{M M':Mem}{tmps:Array Value}(hm:M.le M')(hx:VRel M' x v)(he:EnvRel M env tmps)(h:SealEnv env v x env'):EnvRel M' env' tmps:=by
 induction h with
 |nil=>intro t y hy;simp[lk]at hy
 |@same t y r h k ih=>
  intro u z hz
  by_cases e:t=u
  ·subst e;rw[uU]at hz;cases hz
   exact he.mono hm t y h
  ·rw[qR e]at hz;exact ih u z hz
 |@here t r h k ih=>
  intro u z hz
  by_cases e:t=u
  ·subst e;rw[uU]at hz;cases hz
   obtain⟨a,h1,h2⟩:=he t _ h
   simp only[VRel]at h2
   obtain⟨rfl,_⟩:=h2
   exact⟨_,h1,hx⟩
  ·rw[qR e]at hz;exact ih u z hz
theorem ex_seal{c:Code}{Q:Exit→St→Prop}{mk:List Nat}{n:Nat}{v:Value}{e:TypeId}{sz:Nat}{l:List (List AV)}{env':Env}{σ':List Ent}(hr:Rem σ (.row v e sz l) σ')(he:SealEnv env v (.dl sz l) env')(h:EX P ro c Q ⟨env',σ',mk,n⟩):EX P ro c Q ⟨env,σ,mk,n⟩:=
 ⟨fun X M a w hs=>by
  obtain⟨M1,h1,h2,h3⟩:=hs.good.shut hr
  refine Go.wpIn_mono (h.run X M1 a w ⟨h2,hs.size,hs.defs,he.rel h1 h3 hs.env⟩) ?_
  rintro e a' w' ⟨M',s',hm,hs',hq⟩
  exact⟨M',s',Mem.le_trans h1 hm,hs',hq⟩⟩
theorem xX{c:Code}{Q:Exit→St→Prop}{mk:List Nat}{n:Nat}(e:TypeId)(sz:Nat)(h:EX P ro c Q ⟨env,.row nilS e sz []::σ,mk,n⟩):EX P ro c Q ⟨env,σ,mk,n⟩:=
 ⟨fun X M a w hs=>by
  have hg:=hs.good
  have hn:Good X M (.row nilS e sz []::σ) w:=⟨hg.os,hg.tape,hg.output,hg.mem,hg.frm,hg.dis,fun e' he=>by
    rcases List.mem_cons.1 he with rfl|he
    ·exact⟨[],World.ownsRow_nil w 0 e sz,by simp[VRels],by simp⟩
    ·exact hg.ent e' he,
   fun e' he b hb=>by
    rcases List.mem_cons.1 he with rfl|he
    ·cases hb
    ·exact hg.own e' he b hb,hg.nod⟩
  exact h.run X M a w ⟨hn,hs.size,hs.defs,hs.env⟩⟩
end
open Go.ChangeShapes Go.WideShapes Go.ChangeAt Go.RowKit Go.Deep
def hp(w:World):Mem:=fun b=>w.heap[b]?
def fx0(w:World):Fx:={w0:=w,fr:=fun _=>none}
theorem Good.start(w:World):Good (fx0 w) (hp w) [] w:=
 ⟨rfl,rfl,rfl,fun _ _ h=>h,fun _ _ h=>(by cases h),fun _ _ _=>rfl,fun _ h=>(by cases h),fun _ h=>(by cases h),List.nodup_nil⟩
theorem Good.below{w w':World}{M':Mem}{σ:List Ent}(h:Good (fx0 w) M' σ w')(hm:(hp w).le M'):Below w.heap.size w w':=by
 have hb: ∀k,k<w.heap.size→w'.heap[k]?=w.heap[k]?:=fun k hk=>by
  have e:w.heap[k]?=some w.heap[k]:=Array.getElem?_eq_getElem hk
  rw[e]
  exact h.mem k _ (hm k _ e)
 refine⟨h.os,h.tape,h.output,?_,hb⟩
 by_cases hlt:w'.heap.size<w.heap.size
 ·have e:=hb _ hlt
  rw[Array.getElem?_eq_getElem hlt]at e
  have:=(Array.getElem?_eq_some_iff.1 e).1
  omega
 ·omega
inductive Sh where
 |int (k:IntKind)
 |bool
 |str
 |agg (l:List Sh)
 |slice (s:Sh)
mutual
def Sh.n:Sh→Nat
 |.agg l=>Sh.ns l
 |_=>1
def Sh.ns:List Sh→Nat
 |[]=>0
 |s::l=>s.n+Sh.ns l
end
def elemsF (P:Program) (e:TypeId) (m:Nat):List Field:=(List.range m).map fun i=>{name:= "",type:=e,offset:=i*P.cellsOf e,embedded:=false,tag:= "",pkgPath:= "",byteOffset:=0}
mutual
def Sh.ok(P:Program):Sh→TypeId→Bool
 |.int k,t=>match P.underlying t with|some (.int k')=>k'==k|_=>false
 |.bool,t=>match P.underlying t with|some .bool=>true|_=>false
 |.str,t=>match P.underlying t with|some .string=>true|_=>false
 |.agg l,t=>match P.underlying t with|some (.struct fs)=>Sh.oks P l fs.toList 0&&P.cellsOf t==Sh.ns l|some (.array m e)=>Sh.oks P l (elemsF P e m) 0&&P.cellsOf t==Sh.ns l|_=>false
 |.slice s,t=>match P.underlying t with|some (.slice e)=>Sh.ok P s e&&P.cellsOf e==s.n&&decide (0<s.n)|_=>false
def Sh.oks(P:Program):List Sh→List Field→Nat→Bool
 |[],[],_=>true
 |s::l,f::fs,o=>Sh.ok P s f.type&&f.offset==o&&P.cellsOf f.type==s.n&&Sh.oks P l fs (o+s.n)
 |_,_,_=>false
end
mutual
/-- What cells of such a type may be. -/
def Fits:Sh→List AV→Prop
 |.int k,l=> ∃n,l=[.int k n]∧(Lit.int k n).wf=true
 |.bool,l=> ∃b,l=[.bool b]
 |.str,l=> ∃s,l=[.str s]∧s.size≤maxLen
 |.agg ss,l=>Fitss ss l
 |.slice s,l=> ∃xs,l=[.dl s.n xs]∧xs.length≤maxLen∧ ∀x∈xs,Fits s x
def Fitss:List Sh→List AV→Prop
 |[],l=>l=[]
 |s::ss,l=> ∃a b,l=a++b∧Fits s a∧Fitss ss b
end
theorem RRel.of_get{M:Mem}{b sz:Nat}: ∀{l:List (List AV)} {i:Nat},(∀x∈l,x.length=sz)→(∀k x,l[k]?=some x→CRel M b (i+k*sz) x)→RRel M b i l
 |[],_,_,_=>by simp[RRel]
 |y::l,i,hs,h=>by
  simp only[RRel]
  refine⟨by simpa using h 0 y rfl,RRel.of_get (sz:=sz) (fun x hx=>hs x (by simp[hx])) (fun k x hk=>?_)⟩
  have:=h (k+1) x (by simpa using hk)
  rw[hs y (by simp),show i+sz+k*sz=i+(k+1)*sz by rw[Nat.add_mul];omega]
  exact this
section
variable {H:Type} {enc:TypeId×Value→H} {P:Program} {w:World} {spare:Nat→Bool} {held:Bool}
theorem cell_hp{b i:Nat}{v:Value}(h:w.cell? ⟨b,i,none⟩=some v):(hp w).cell b i=some v:=by
 unfold World.cell? at h
 unfold Mem.cell hp
 cases hb:w.heap[b]? with
 |none=>rw[show (⟨b,i,none⟩:Addr).block=b from rfl,hb]at h;cases h
 |some o=>rw[show (⟨b,i,none⟩:Addr).block=b from rfl,hb]at h;cases o<;>simp_all
mutual
theorem trod_fits: ∀(s:Sh) (t:TypeId) (fuel:Nat) (cs:List Value) (x:DataW H×List MemPlace),Sh.ok P s t=true→DataW.trod enc P w 0 spare held fuel t cs=some x→ ∃l,VRels (hp w) l cs∧Fits s l∧l.length=s.n
 |.int k,t,fuel,cs,x,hok,h=>by
  unfold Sh.ok at hok
  split at hok
  ·rename_i k' ht
   have:k'=k:=by simpa using hok
   subst this
   obtain⟨n,rfl,_,hw⟩:=DataW.trod_int ht h
   exact⟨[.int k' n],by simp[VRels,VRel],by simp only[Fits];exact⟨n,rfl,hw⟩,by simp[Sh.n]⟩
  ·cases hok
 |.bool,t,fuel,cs,x,hok,h=>by
  unfold Sh.ok at hok
  split at hok
  ·rename_i ht
   obtain⟨b,rfl,_⟩:=DataW.trod_bool ht h
   exact⟨[.bool b],by simp[VRels,VRel],by simp only[Fits];exact⟨b,rfl⟩,by simp[Sh.n]⟩
  ·cases hok
 |.str,t,fuel,cs,x,hok,h=>by
  unfold Sh.ok at hok
  split at hok
  ·rename_i ht
   obtain⟨b,rfl,_,hs⟩:=DataW.trod_string ht h
   exact⟨[.str b],by simp[VRels,VRel],by simp only[Fits];exact⟨b,rfl,hs⟩,by simp[Sh.n]⟩
  ·cases hok
 |.slice s,t,fuel,cs,x,hok,h=>by
  unfold Sh.ok at hok
  split at hok
  ·rename_i e ht
   simp only[Bool.and_eq_true,beq_iff_eq,decide_eq_true_eq]at hok
   obtain⟨⟨hok,hn⟩,hpos⟩:=hok
   rcases open_slice ht h with⟨rfl,rfl⟩|⟨a,len,cap,m,n,D,Pl,rfl,_,hlc,hcm,hm,_,hel⟩
   ·refine⟨[.dl s.n []],?_,by simp only[Fits];exact⟨[],rfl,Nat.zero_le _,by simp⟩,by simp[Sh.n]⟩
    simp only[VRels,VRel]
    exact⟨_,_,rfl,⟨none,0,rfl,Nat.le_refl _,Nat.zero_le _,by simp,.inl (by simp)⟩,rfl⟩
   ·have hlm:len≤m:=by rw[hm];split<;>omega
    have hex: ∀i,i<len→ ∃l,(∃cs',w.cells? 0 (a.add (i*s.n)) s.n=some cs'∧VRels (hp w) l cs')∧Fits s l∧l.length=s.n:=by
     intro i hi
     obtain⟨cs',h1,h2⟩:=hel i (by omega)
     obtain⟨l,h3,h4,h5⟩:=trod_fits s e n cs' _ hok h2
     rw[hn]at h1
     exact⟨l,⟨cs',h1,h3⟩,h4,h5⟩
    obtain⟨V,hV⟩:=choose_lt hex
    have hspot:0<len→a.spot=none:=fun h0=>by
     obtain⟨⟨cs',h1,_⟩,_⟩:=hV 0 h0
     obtain⟨_,hl',hc⟩:=World.cells?_some h1
     have:=hc 0 hpos
     simp only[Nat.zero_mul,Addr.add,if_true]at this
     unfold World.cell? at this
     have hx:cs'[0]?=some (cs'[0]'(by omega)):=List.getElem?_eq_getElem (by omega)
     rw[hx]at this
     split at this
     ·split at this
      ·cases this
      ·rename_i hs;simpa using hs
     ·cases this
    refine⟨[.dl s.n ((List.range len).map V)],?_,?_,by simp[Sh.n]⟩
    ·simp only[VRels,VRel]
     refine⟨_,_,rfl,⟨some a,cap,by simp,by simpa using hlc,hcm,?_,?_⟩,rfl⟩
     ·intro x hx
      obtain⟨i,hi,rfl⟩:=List.mem_map.1 hx
      exact(hV i (List.mem_range.1 hi)).2.2
     ·by_cases h0:len=0
      ·subst h0;exact .inl rfl
      ·right
       have hs:=hspot (by omega)
       refine⟨a.block,a.off,by cases a;simp at hs;subst hs;rfl,RRel.of_get (sz:=s.n) ?_ ?_⟩
       ·intro x hx
        obtain⟨i,hi,rfl⟩:=List.mem_map.1 hx
        exact(hV i (List.mem_range.1 hi)).2.2
       ·intro k x hk
        rw[List.getElem?_map]at hk
        by_cases hkl:k<len
        ·rw[List.getElem?_range hkl]at hk
         simp only[Option.map_some,Option.some.injEq]at hk
         subst hk
         obtain⟨⟨cs',h1,h2⟩,_,h3⟩:=hV k hkl
         obtain⟨_,hl',hc⟩:=World.cells?_some h1
         refine CRel.of_cells h2 (fun j v hj=>cell_hp ?_)
         have hjn:j<s.n:=by
          have:=(List.getElem?_eq_some_iff.1 hj).1;omega
         have:=hc j hjn
         rw[hj]at this
         have ea:(a.add (k*s.n)).add j=⟨a.block,a.off+k*s.n+j,none⟩:=by
          rw[add_add]
          unfold Addr.add
          cases a;simp only at hs;subst hs
          split<;>simp_all<;>omega
         rw[←ea];exact this
        ·rw[List.getElem?_eq_none (by simpa using hkl)]at hk;cases hk
    ·simp only[Fits]
     refine⟨_,rfl,by simp;omega,fun x hx=>?_⟩
     obtain⟨i,hi,rfl⟩:=List.mem_map.1 hx
     exact(hV i (List.mem_range.1 hi)).2.1
  ·cases hok
 |.agg ss,t,fuel,cs,x,hok,h=>by
  unfold Sh.ok at hok
  split at hok
  ·rename_i fs ht
   simp only[Bool.and_eq_true,beq_iff_eq]at hok
   obtain⟨hok,hn⟩:=hok
   obtain⟨xs,n,_,_,hlen,hxl,hf⟩:=DataW.trod_struct ht h
   obtain⟨l,h1,h2,h3⟩:=trods_fits ss fs.toList n cs 0 hok (fun f hfm=>by
    obtain⟨i,hi⟩:=List.getElem?_of_mem hfm
    have hi':fs[i]?=some f:=by simpa using hi
    have:=hf i f hi'
    have hlt:i<xs.length:=by rw[hxl];exact(Array.getElem?_eq_some_iff.1 hi').1
    rw[List.getElem?_eq_getElem hlt]at this
    exact⟨_,this⟩) (by omega)
   refine⟨l,?_,by simpa only [Fits]using h2,by simpa [Sh.n]using h3⟩
   rw[hn]at hlen
   rw[List.drop_zero,List.take_of_length_le (by omega)]at h1
   exact h1
  ·rename_i m e ht
   simp only[Bool.and_eq_true,beq_iff_eq]at hok
   obtain⟨hok,hn⟩:=hok
   obtain⟨xs,n,_,_,hlen,hxl,hf⟩:=DataW.trod_array ht h
   obtain⟨l,h1,h2,h3⟩:=trods_fits ss (elemsF P e m) n cs 0 hok (fun f hfm=>by
    obtain⟨i,hi,rfl⟩:=List.mem_map.1 hfm
    have hi:=List.mem_range.1 hi
    have:=hf i hi
    rw[List.getElem?_eq_getElem (by omega)]at this
    exact⟨_,this⟩) (by omega)
   refine⟨l,?_,by simpa only [Fits]using h2,by simpa [Sh.n]using h3⟩
   rw[hn]at hlen
   rw[List.drop_zero,List.take_of_length_le (by omega)]at h1
   exact h1
  ·cases hok
theorem trods_fits: ∀(ss:List Sh) (fs:List Field) (n:Nat) (cs:List Value) (o:Nat),Sh.oks P ss fs o=true→(∀f∈fs,∃x,DataW.trod enc P w 0 spare held n f.type ((cs.drop f.offset).take (P.cellsOf f.type))=some x)→o+Sh.ns ss≤cs.length→
  ∃l,VRels (hp w) l ((cs.drop o).take (Sh.ns ss))∧Fitss ss l∧l.length=Sh.ns ss
 |[],fs,n,cs,o,hok,hf,hl=>⟨[],by simp[VRels,Sh.ns],by simp[Fitss],by simp[Sh.ns]⟩
 |s::ss,[],n,cs,o,hok,hf,hl=>by simp[Sh.oks]at hok
 |s::ss,f::fs,n,cs,o,hok,hf,hl=>by
  simp only[Sh.oks,Bool.and_eq_true,beq_iff_eq]at hok
  obtain⟨⟨⟨h1,h2⟩,h3⟩,h4⟩:=hok
  simp only[Sh.ns]at hl
  obtain⟨x,hx⟩:=hf f (by simp)
  obtain⟨a,a1,a2,a3⟩:=trod_fits s f.type n _ x h1 hx
  obtain⟨b,b1,b2,b3⟩:=trods_fits ss fs n cs (o+s.n) h4 (fun g hg=>hf g (by simp[hg])) (by omega)
  refine⟨a++b,?_,by simp only[Fitss];exact⟨a,b,rfl,a2,b2⟩,by simp[Sh.ns,a3,b3]⟩
  rw[h2,h3]at a1
  have:=a1.append b1
  simp only[Sh.ns]
  rw[List.take_add,List.drop_drop]
  exact this
end
def argAV:Sh→List AV→AV
 |.agg _,l=>.agg l
 |_,l=>l.headD (.bool true)
theorem arg_fits{s:Sh}{t:TypeId}{v:Value}{d:DataW H}{ps:List MemPlace}{r:Reach}{b0:Nat}(hok:Sh.ok P s t=true)(hval:Value.okWide P w r b0 t v)(hd:DataW.Trod enc P w 0 spare held t v d ps):
  ∃l,Fits s l∧VRel (hp w) (argAV s l) v:=by
 obtain⟨fuel,hf⟩:=hd
 obtain⟨l,h1,h2,h3⟩:=trod_fits s t fuel _ _ hok hf
 refine⟨l,h2,?_⟩
 cases s with
 |int k=>
  unfold Sh.ok at hok
  split at hok
  ·rename_i k' ht
   obtain⟨n,rfl⟩:=okWide_int ht hval
   simp only[Fits]at h2
   obtain⟨m,rfl,_⟩:=h2
   simpa [VRels,Value.cells,argAV]using h1
  ·cases hok
 |bool=>
  unfold Sh.ok at hok
  split at hok
  ·rename_i ht
   obtain⟨n,rfl⟩:=okWide_bool ht hval
   simp only[Fits]at h2
   obtain⟨m,rfl⟩:=h2
   simpa [VRels,Value.cells,argAV]using h1
  ·cases hok
 |str=>
  unfold Sh.ok at hok
  split at hok
  ·rename_i ht
   obtain⟨n,rfl⟩:=okWide_string ht hval
   simp only[Fits]at h2
   obtain⟨m,rfl,_⟩:=h2
   simpa [VRels,Value.cells,argAV]using h1
  ·cases hok
 |slice s=>
  unfold Sh.ok at hok
  split at hok
  ·rename_i e ht
   obtain⟨a,n,c,rfl⟩:=okWide_slice ht hval
   simp only[Fits]at h2
   obtain⟨m,rfl,_⟩:=h2
   simp only[VRels,Value.cells]at h1
   obtain⟨v,r,e,h1,_⟩:=h1
   simp at e
   obtain⟨rfl,rfl⟩:=e
   exact h1
  ·cases hok
 |agg ss=>
  unfold Sh.ok at hok
  split at hok
  ·rename_i fs ht
   obtain⟨cs,rfl,_⟩:=okWide_struct ht hval
   simp only[argAV,VRel]
   exact⟨cs,rfl,by simpa [Value.cells]using h1⟩
  ·rename_i m e ht
   simp only[Value.okWide,ht]at hval
   obtain⟨cs,rfl,_⟩:=hval
   simp only[argAV,VRel]
   exact⟨cs,rfl,by simpa [Value.cells]using h1⟩
  ·cases hok
theorem args_fit: ∀{ss:List Sh} {ts:List TypeId} {vs:List Value} {ds:List (DataW H)} {ps:List MemPlace} {r:Reach} {b0:Nat},ss.length=ts.length→(∀(i:Nat) s t,ss[i]?=some s→ts[i]?=some t→Sh.ok P s t=true)→(∀(j:Nat) t v,ts[j]?=some t→vs[j]?=some v→Value.okWide P w r b0 t v)→
  DataW.TrodAll enc P w 0 spare held ts vs ds ps→ ∃ls:List (List AV),ls.length=ss.length∧(∀(i:Nat) s l,ss[i]?=some s→ls[i]?=some l→Fits s l)∧VRels (hp w) (List.zipWith argAV ss ls) vs
 |[],[],vs,ds,ps,r,b0,_,_,_,h=>by
  obtain⟨rfl,rfl,rfl⟩:=trodAll_nil h
  exact⟨[],rfl,by simp,by simp[VRels]⟩
 |s::ss,[],_,_,_,_,_,hl,_,_,_=>by simp at hl
 |[],t::ts,_,_,_,_,_,hl,_,_,_=>by simp at hl
 |s::ss,t::ts,vs,ds,ps,r,b0,hl,hok,hval,h=>by
  obtain⟨v,vs',d,ds',p,q,rfl,rfl,rfl,h1,h2⟩:=trodAll_cons h
  obtain⟨l,f1,f2⟩:=arg_fits (hok 0 s t rfl rfl) (hval 0 t v rfl rfl) h1
  obtain⟨ls,g1,g2,g3⟩:=args_fit (ss:=ss) (by simpa using hl) (fun i s t a b=>hok (i+1) s t (by simpa using a) (by simpa using b)) (fun j t v a b=>hval (j+1) t v (by simpa using a) (by simpa using b)) h2
  refine⟨l::ls,by simp[g1],?_,?_⟩
  ·intro i s' l' ha hb
   cases i with
   |zero=>simp at ha hb;subst ha;subst hb;exact f1
   |succ i=>exact g2 i s' l' (by simpa using ha) (by simpa using hb)
  ·simp only[List.zipWith_cons_cons,VRels]
   exact⟨v,vs',rfl,f2,g3⟩
theorem trodAll_stays{W W':World}(hl:laidOutB P=true)(hb:Below W.heap.size W W'){sp:Nat→Bool}: ∀{ts:List TypeId} {vs:List Value} {ds:List (DataW H)} {ps:List MemPlace},(∀t∈ts,P.readableRec t=true∧t<P.types.size)→(∀x∈ps,x.block<W.heap.size)→(∀x∈ps,sp x.block=true)→
  DataW.TrodAll enc P W 0 (fun _=>true) true ts vs ds ps→DataW.TrodAll enc P W' 0 sp true ts vs ds ps
 |[],vs,ds,ps,_,_,_,h=>by
  obtain⟨rfl,rfl,rfl⟩:=trodAll_nil h
  exact h
 |t::ts,vs,ds,ps,ht,hlt,hsp,h=>by
  obtain⟨v,vs',d,ds',p,q,rfl,rfl,rfl,h1,h2⟩:=trodAll_cons h
  exact trodAll_cons_mk (WideElems.Trod_stays hl (ht t (by simp)).1 (ht t (by simp)).2 h1 (fun x hx=>hb.same (hlt x (by simp[hx]))) (fun x hx=>hsp x (by simp[hx])))
   (trodAll_stays hl hb (fun u hu=>ht u (by simp[hu])) (fun x hx=>hlt x (by simp[hx])) (fun x hx=>hsp x (by simp[hx])) h2)
theorem law_post{f:Func}{s:ChangeSpec}{W W':World}{args:Array Value}{ds gs:List (DataW H)}{before:List MemPlace}(hl:laidOutB P=true)(hrow: ∀t∈f.params.toList,P.readableRec t=true∧t<P.types.size){tb:TypeId}(hrt:f.resultTypes=#[tb])(htb:P.underlying tb=some .bool)
  (hvs:s.vars=[]) (hfn: ∀ds:List (DataW H),ds.length=f.params.size→s.fn H ds={results:=[.lit (.bool true)],args:=ds})
  (hW:DataW.Whole enc P f.params.toList s.vars false W args.toList ds gs before) (hb:Below W.heap.size W W'):s.post enc P f false true false false W args (.bool true) W':=by
 have hlt: ∀p∈before,p.block<W.heap.size:=fun p hp=>by simpa using hW.lt p hp
 have hW':=hW
 obtain⟨p,q,hA,hV,rfl,hfz,hnd⟩:=hW
 rw[hvs]at hV
 obtain⟨rfl,rfl⟩:=trodVars_none hV
 have hlen:ds.length=f.params.size:=by
  have:=(trodAll_length hA).2
  simpa using this
 have hs:s.fn H (ds++[])={results:=[.lit (.bool true)],args:=ds}:=by rw[List.append_nil];exact hfn ds hlen
 have hres: ∀(b:Nat) (sp:Nat→Bool) (hd:Bool),DataW.TrodAll enc P W' b sp hd f.resultTypes.toList ((Value.bool true).resultList f.resultTypes.size) (s.fn H (ds++[])).results []:=fun b sp hd=>by
  rw[hs,hrt]
  exact trodAll_cons_mk (shut_bool htb _) trodAll_mk0
 have hargs: ∀sp:Nat→Bool,(∀p'∈p++[],sp p'.block=true)→DataW.TrodAll enc P W' 0 sp true f.params.toList args.toList (s.fn H (ds++[])).args p:=fun sp hsp=>by
  rw[hs]
  exact trodAll_stays hl hb hrow (fun x hx=>hlt x (by simp[hx])) (fun x hx=>hsp x (by simp[hx])) hA
 have hvars: ∀sp:Nat→Bool,DataW.TrodVars enc P W' sp s.vars (s.fn H (ds++[])).vars []:=fun sp=>by
  rw[hs,hvs];exact rfl
 refine⟨ds,[],p++[],[],p,[],hW',hres _ _ _,hargs _ (fun x hx=>by simpa using hlt x hx),hvars _,hb.frame _,fun _=>?_⟩
 refine⟨ok_one hrt rfl (okWide_bool_mk htb _),_,_,([]++p)++[],⟨[]++p,[],trodAll_append (hargs _ (fun _ _=>rfl)) (hres _ _ _),hvars _,rfl,?_,?_⟩,?_⟩
 ·intro b off hp
  rw[hb.frozen (hlt (.cell b off) (by simpa using hp))]
  exact hfz b off (by simpa using hp)
 ·intro ha;cases ha
 ·intro x hx _
  simpa using hx
def shsB(P:Program):List Sh→List TypeId→Bool
 |[],[]=>true
 |s::ss,t::ts=>Sh.ok P s t&&P.readableRec t&&decide (t<P.types.size)&&shsB P ss ts
 |_,_=>false
theorem shsB_all{P:Program}: ∀{ss:List Sh} {ts:List TypeId},shsB P ss ts=true→ss.length=ts.length∧(∀t∈ts,P.readableRec t=true∧t<P.types.size)∧ ∀(i:Nat) s t,ss[i]?=some s→ts[i]?=some t→Sh.ok P s t=true
 |[],[],_=>⟨rfl,by simp,by simp⟩
 |[],_::_,h=>by simp[shsB]at h
 |_::_,[],h=>by simp[shsB]at h
 |s::ss,t::ts,h=>by
  simp only[shsB,Bool.and_eq_true,decide_eq_true_eq]at h
  obtain⟨⟨⟨h1,h2⟩,h3⟩,h4⟩:=h
  obtain⟨k1,k2,k3⟩:=shsB_all h4
  refine⟨by simp[k1],fun u hu=>?_,fun i a b ha hb=>?_⟩
  ·rcases List.mem_cons.1 hu with rfl|hu
   ·exact⟨h2,h3⟩
   ·exact k2 u hu
  ·cases i with
   |zero=>simp at ha hb;subst ha;subst hb;exact h1
   |succ i=>exact k3 i a b (by simpa using ha) (by simpa using hb)
theorem law_calls{f:Func}{fn:FuncId}{s:ChangeSpec}{ss:List Sh}(hl:laidOutB P=true)(hss:shsB P ss f.params.toList=true){tb:TypeId}(hrt:f.resultTypes=#[tb])(htb:P.underlying tb=some .bool)
  (hvs:s.vars=[]) (hfn: ∀ds:List (DataW H),ds.length=f.params.size→s.fn H ds={results:=[.lit (.bool true)],args:=ds})
  (hc: ∀ls:List (List AV),ls.length=ss.length→(∀(i:Nat) s l,ss[i]?=some s→ls[i]?=some l→Fits s l)→SCall P fn (List.zipWith argAV ss ls) [] (fun r _=>r=.bool true))
  {W:World} {base:Nat} {args:Array Value} {ds gs:List (DataW H)} {before:List MemPlace}
  (hval: ∀(j:Nat) t v,f.params[j]?=some t→args[j]?=some v→Value.okWide P W .any base t v)
  (hW:DataW.Whole enc P f.params.toList s.vars false W args.toList ds gs before):
  Calls P fn args W fun e W'=> ∃v,e=.returned v∧s.post enc P f false true false false W args v W':=by
 obtain⟨hsl,hrow,hsh⟩:=shsB_all hss
 have hW':=hW
 obtain⟨p,q,hA,hV,rfl,hfz,hnd⟩:=hW
 obtain⟨ls,h1,h2,h3⟩:=args_fit hsl hsh (fun j t v a b=>hval j t v (by simpa using a) (by simpa using b)) hA
 refine((hc ls h1 h2).run (fx0 W) (hp W) W args (Good.start W) h3).mono ?_
 rintro e W' ⟨M',σ',r,v,hm,hg,hv,rfl,rfl⟩
 simp only[VRel]at hv
 subst hv
 exact⟨_,rfl,law_post hl hrow hrt htb hvs hfn hW' (hg.below hm)⟩
end
theorem fits_slice{α:Type}{f:α→List AV}{p:α→Prop}{s:Sh}(hs: ∀x,Fits s x→ ∃a,x=f a∧p a){l:List AV}(h:Fits (.slice s) l): ∃xs:List α,l=[.dl s.n (xs.map f)]∧ ∀a∈xs,p a:=by
 simp only[Fits]at h
 obtain⟨xs,rfl,hlen,h2⟩:=h
 clear hlen
 have: ∃ys:List α,xs=ys.map f∧ ∀a∈ys,p a:=by
  induction xs with
  |nil=>exact⟨[],rfl,by simp⟩
  |cons x xs ih=>
   obtain⟨a,rfl,ha⟩:=hs x (h2 x (by simp))
   obtain⟨ys,rfl,hy⟩:=ih (fun z hz=>h2 z (by simp[hz]))
   refine⟨a::ys,rfl,?_⟩
   intro b hb
   rcases List.mem_cons.1 hb with rfl|hb
   ·exact ha
   ·exact hy b hb
 obtain⟨ys,rfl,hy⟩:=this
 exact⟨ys,rfl,hy⟩
theorem fits_i64{l:List AV}(h:Fits (.int .i64) l): ∃n:Int,l=[.int .i64 n]∧(-9223372036854775808≤n∧n≤9223372036854775807):=by
 simp only[Fits]at h
 obtain⟨n,rfl,h⟩:=h
 exact⟨n,rfl,by simp[Lit.wf,IntKind.min,IntKind.max,IntKind.bits,IntKind.signed]at h;omega⟩
end Go.Proofs.YtaoaafdommlhcaaGreat

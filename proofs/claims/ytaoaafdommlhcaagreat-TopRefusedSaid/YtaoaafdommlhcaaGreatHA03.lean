/- Parts of the proof that belong together: Sc. -/
import Derived.Test.YtaoaafdommlhcaaGreatHA02
import Derived.WalkSpells
import Derived.Laws.StructEq
set_option maxRecDepth 10000
set_option linter.unusedSimpArgs false
set_option linter.unusedVariables false
set_option autoImplicit false
open Go.Proofs.Tryz
namespace Go.Proofs.YtaoaafdommlhcaaGreat
inductive Is(v:AV)(σ:List Ent):AV→List Ent→Prop
 |mk:Is v σ v σ
section
variable {P:Program} {ro:Option Nat} {env:Env} {σ:List Ent} {o:Oper} {dst:Option Tmp} {ty:TypeId} {pos:String} {after:Array Edge} {guard:Option (Nat×Bool)}
theorem wJ{R:AV→List Ent→Prop}(hnd: ∀c,o.op≠.defer c)
  (h: ∀X M a w,Good X M σ w→OpRel M env a o→ ∃M' u w' v σ',M.le M'∧Good X M' σ' w'∧VRel M' v u∧R v σ'∧((execOp a.eval o).run P w=.ok (.value u) w'∨((execOp a.eval o).run P w=.ok .skip w'∧u=undef))):GOp P ro o env σ R:=by
 refine⟨fun X M a w hg ho K Qx hK=>?_⟩
 obtain⟨M',u,w',v,σ',hm,hg',hv,hR,hr⟩:=h X M a w hg ho
 refine⟨fun f _=>tT f ro,?_⟩
 have hs:(o.semAt (tN ro).round a.eval)=execOp a.eval o:=Oper.semAt_eq _ _ _ hnd
 rw[hs]
 rcases hr with hr|⟨hr,rfl⟩
 ·rw[hr];exact hK M' u w' v σ' hm hg' hv hR
 ·rw[hr];exact hK M' undef w' v σ' hm hg' hv hR
theorem zA(v:AV)(hnd: ∀c,o.op≠.defer c)(h: ∀X M a w,Good X M σ w→OpRel M env a o→ ∃u,VRel M v u∧(execOp a.eval o).run P w=.ok (.value u) w):GOp P ro o env σ (Is v σ):=
 wJ hnd fun X M a w hg ho=>let ⟨u,h1,h2⟩:=h X M a w hg ho;⟨M,u,w,v,σ,Mem.le_refl M,hg,h1,.mk,.inl h2⟩
theorem g_move{x:Operand}{v:AV}(h:xP env x=some v):GOp P ro ⟨dst,.move x,ty,pos,after,guard⟩ env σ (Is v σ):=
 zA v (by intro c h;cases h) fun X M a w hg ho=>⟨a.eval x,ho x (by simp[Op.operands]) v h,rfl⟩
theorem g_assign{x:Operand}{v:AV}(h:xP env x=some v):GOp P ro ⟨dst,.assign x,ty,pos,after,guard⟩ env σ (Is v σ):=
 zA v (by intro c h;cases h) fun X M a w hg ho=>⟨a.eval x,ho x (by simp[Op.operands]) v h,rfl⟩
theorem g_pick_t{c x y:Operand}{b:Bool}{v:AV}(hc:xP env c=some (.bool b))(hb:b=true)(h:xP env x=some v):GOp P ro ⟨dst,.pick c x y,ty,pos,after,guard⟩ env σ (Is v σ):=
 zA v (by intro c h;cases h) fun X M a w hg ho=>by
  have h1:=ho c (by simp[Op.operands]) _ hc
  have h2:=ho x (by simp[Op.operands]) v h
  simp only[VRel]at h1
  exact⟨a.eval x,h2,by simp[execOp,h1,hb,asBool,Sem.run_bind]⟩
theorem g_pick_f{c x y:Operand}{b:Bool}{v:AV}(hc:xP env c=some (.bool b))(hb:b=false)(h:xP env y=some v):GOp P ro ⟨dst,.pick c x y,ty,pos,after,guard⟩ env σ (Is v σ):=
 zA v (by intro c h;cases h) fun X M a w hg ho=>by
  have h1:=ho c (by simp[Op.operands]) _ hc
  have h2:=ho y (by simp[Op.operands]) v h
  simp only[VRel]at h1
  exact⟨a.eval y,h2,by simp[execOp,h1,hb,asBool,Sem.run_bind]⟩
def opInt:BinOp→IntKind→Int→Int→Option AV
 |.add,k,a,b=>some (.int k (k.wrap (a+b)))
 |.sub,k,a,b=>some (.int k (k.wrap (a-b)))
 |.mul,k,a,b=>some (.int k (k.wrap (a*b)))
 |.eql,_,a,b=>some (.bool (a==b))
 |.neq,_,a,b=>some (.bool (a !=b))
 |.lss,_,a,b=>some (.bool (decide (a<b)))
 |.leq,_,a,b=>some (.bool (decide (a≤b)))
 |.gtr,_,a,b=>some (.bool (decide (b<a)))
 |.geq,_,a,b=>some (.bool (decide (b≤a)))
 |_,_,_,_=>none
theorem run_opInt{op:BinOp}{k:IntKind}{a b:Int}{v:AV}{t:TypeId}{x y:Operand}(h:opInt op k a b=some v)(w:World):
  ∃u,(∀M,VRel M v u)∧(do eqGuard op t x y (.int k a) (.int k b);binOp op t (.int k a) (.int k b):Sem Value).run P w=.ok u w:=by
 cases op<;>simp only[opInt,Option.some.injEq,reduceCtorEq]at h<;>subst h<;>
  exact⟨_,fun M=>by simp only[VRel];first|rfl|exact rfl,by simp[eqGuard,binOp,Op.intArith,Op.intCmp,Sem.run_bind]⟩
theorem kA{op:BinOp}{x y:Operand}{t yt:TypeId}{k:IntKind}{a b:Int}{v:AV}(hx:xP env x=some (.int k a))(hy:xP env y=some (.int k b))(hv:opInt op k a b=some v):
  GOp P ro ⟨dst,.binOp op t x y yt,ty,pos,after,guard⟩ env σ (Is v σ):=
 zA v (by intro c h;cases h) fun X M e w hg ho=>by
  have h1:=ho x (by simp[Op.operands]) _ hx
  have h2:=ho y (by simp[Op.operands]) _ hy
  simp only[VRel]at h1 h2
  obtain⟨u,hu,hr⟩:=run_opInt (P:=P) (t:=t) (x:=x) (y:=y) hv w
  exact⟨u,hu M,by simp only[execOp,h1,h2];rw[Sem.run_bind,hr];rfl⟩
theorem uE{n:Int}(h: -9223372036854775808≤n∧n≤9223372036854775807):IntKind.i64.wrap n=n:=by rw[IntKind.wrap_i64];omega
theorem g_add{x y:Operand}{t yt:TypeId}{a b c:Int}(hx:xP env x=some (.int .i64 a))(hy:xP env y=some (.int .i64 b))(hc:a+b=c)(hr: -9223372036854775808≤c∧c≤9223372036854775807):
  GOp P ro ⟨dst,.binOp .add t x y yt,ty,pos,after,guard⟩ env σ (Is (.int .i64 c) σ):=kA hx hy (by simp only[opInt];rw[hc,uE hr])
theorem g_sub{x y:Operand}{t yt:TypeId}{a b c:Int}(hx:xP env x=some (.int .i64 a))(hy:xP env y=some (.int .i64 b))(hc:a-b=c)(hr: -9223372036854775808≤c∧c≤9223372036854775807):
  GOp P ro ⟨dst,.binOp .sub t x y yt,ty,pos,after,guard⟩ env σ (Is (.int .i64 c) σ):=kA hx hy (by simp only[opInt];rw[hc,uE hr])
theorem g_mul{x y:Operand}{t yt:TypeId}{a b c:Int}(hx:xP env x=some (.int .i64 a))(hy:xP env y=some (.int .i64 b))(hc:a*b=c)(hr: -9223372036854775808≤c∧c≤9223372036854775807):
  GOp P ro ⟨dst,.binOp .mul t x y yt,ty,pos,after,guard⟩ env σ (Is (.int .i64 c) σ):=kA hx hy (by simp only[opInt];rw[hc,uE hr])
theorem g_neg{x:Operand}{t:TypeId}{a c:Int}(hx:xP env x=some (.int .i64 a))(hc: -a=c)(hr: -9223372036854775808≤c∧c≤9223372036854775807):
  GOp P ro ⟨dst,.unOp .neg t x,ty,pos,after,guard⟩ env σ (Is (.int .i64 c) σ):=
 zA _ (by intro c h;cases h) fun X M e w hg ho=>by
  have h1:=ho x (by simp[Op.operands]) _ hx
  simp only[VRel]at h1
  refine⟨.int .i64 c,by simp[VRel],?_⟩
  have e1:(0:Int)-a=c:=by omega
  simp[execOp,h1,Op.unary,Op.intArith,Sem.run_bind,e1,uE hr]
theorem g_not{x:Operand}{t:TypeId}{b:Bool}(hx:xP env x=some (.bool b)):GOp P ro ⟨dst,.unOp .not t x,ty,pos,after,guard⟩ env σ (Is (.bool (!b)) σ):=
 zA _ (by intro c h;cases h) fun X M e w hg ho=>by
  have h1:=ho x (by simp[Op.operands]) _ hx
  simp only[VRel]at h1
  exact⟨.bool (!b),by simp[VRel],by simp[execOp,h1,Op.unary,Sem.run_bind]⟩
theorem g_eqlBool{x y:Operand}{t yt:TypeId}{a b:Bool}(ht:P.underlying t=some .bool)(hx:xP env x=some (.bool a))(hy:xP env y=some (.bool b)):
  GOp P ro ⟨dst,.binOp .eql t x y yt,ty,pos,after,guard⟩ env σ (Is (.bool (a==b)) σ):=
 zA _ (by intro c h;cases h) fun X M e w hg ho=>by
  have h1:=ho x (by simp[Op.operands]) _ hx
  have h2:=ho y (by simp[Op.operands]) _ hy
  simp only[VRel]at h1 h2
  refine⟨.bool (a==b),by simp[VRel],?_⟩
  simp[execOp,h1,h2,eqGuard,binOp,Sem.run_bind,Op.equal,run_equalIn_bool' w _ t a b ht,Op.maxDepth]
theorem g_neqBool{x y:Operand}{t yt:TypeId}{a b:Bool}(ht:P.underlying t=some .bool)(hx:xP env x=some (.bool a))(hy:xP env y=some (.bool b)):
  GOp P ro ⟨dst,.binOp .neq t x y yt,ty,pos,after,guard⟩ env σ (Is (.bool (a !=b)) σ):=
 zA _ (by intro c h;cases h) fun X M e w hg ho=>by
  have h1:=ho x (by simp[Op.operands]) _ hx
  have h2:=ho y (by simp[Op.operands]) _ hy
  simp only[VRel]at h1 h2
  refine⟨.bool (a !=b),by simp[VRel],?_⟩
  simp[execOp,h1,h2,eqGuard,binOp,Sem.run_bind,Op.equal,run_equalIn_bool' w _ t a b ht,Op.maxDepth,bne]
def offOf(P:Program)(s f:Nat):Option Nat:=match P.underlying s with
 |some (.struct fs)=>match fs[f]? with
  |some x=>match (P.info? x.type).map (·.size) with
   |some (_+1)=>some x.offset
   |_=>none
  |none=>none
 |_=>none
def pP(P:Program)(t:TypeId):Option (TypeId×Nat):=match P.underlying t with
 |some (.slice e)=>(P.info? e).map fun i=>(e,i.size)
 |_=>none
def tyOf(P:Program)(t:TypeId):Option (Bool×Nat):=match P.underlying t,P.info? t with
 |some d,some i=>some ((match d with|.struct _|.array _ _=>true|_=>false),i.size)
 |_,_=>none
theorem vC{t e:TypeId}{sz:Nat}(h:pP P t=some (e,sz)):P.underlying t=some (.slice e)∧ ∃i,P.info? e=some i∧i.size=sz:=by
 unfold pP at h
 cases hu:P.underlying t with
 |none=>rw[hu]at h;cases h
 |some d=>
  rw[hu]at h
  cases d<;>first|cases h|skip
  rename_i e'
  simp only[Option.map_eq_some_iff,Prod.mk.injEq]at h
  obtain⟨i,hi,rfl,rfl⟩:=h
  exact⟨rfl,i,hi,rfl⟩
theorem xE{t:TypeId}{b:Bool}{sz:Nat}(h:tyOf P t=some (b,sz))(w:World):(isAgg t).run P w=.ok b w∧(sizeOf t).run P w=.ok sz w:=by
 unfold tyOf at h
 cases hu:P.underlying t with
 |none=>rw[hu]at h;cases h
 |some d=>
  cases hi:P.info? t with
  |none=>rw[hu,hi]at h;cases h
  |some i=>
   rw[hu,hi]at h
   simp only[Option.some.injEq,Prod.mk.injEq]at h
   obtain⟨rfl,rfl⟩:=h
   constructor
   ·unfold isAgg;rw[Sem.run_bind,run_underlying hu w];cases d<;>rfl
   ·simp[sizeOf,typeInfo,hi,Sem.run_bind]
theorem flatten_get{α:Type}{sz:Nat}: ∀{l:List (List α)} {k i:Nat} {x:List α} {u:α},(∀y∈l,y.length=sz)→l[k]?=some x→x[i]?=some u→l.flatten[k*sz+i]?=some u
 |[],k,i,x,u,_,h,_=>by simp at h
 |y::l,0,i,x,u,hs,h,hu=>by
  simp at h;subst h
  have hi:i<y.length:=(List.getElem?_eq_some_iff.1 hu).1
  simp only[Nat.zero_mul,Nat.zero_add,List.flatten_cons]
  rw[List.getElem?_append_left hi];exact hu
 |y::l,k+1,i,x,u,hs,h,hu=>by
  have hy:=hs y (by simp)
  have ih:=flatten_get (l:=l) (k:=k) (fun z hz=>hs z (by simp[hz])) (by simpa using h) hu
  rw[List.flatten_cons,List.getElem?_append_right (by rw[hy,Nat.add_mul];omega),hy]
  rw[←ih];congr 1;rw[Nat.add_mul];omega
inductive Pts(σ:List Ent):AV→Nat→AV→Prop
 |e {l:List AV} {i j:Nat} {u:AV} (h:l[i+j]?=some u):Pts σ (.eptr l i) j u
 |p {b i:Nat} {l:List AV} {t:TypeId} {j:Nat} {u:AV} (hm:Ent.cells b l t∈σ) (h:l[i+j]?=some u):Pts σ (.ptr b i) j u
 |r {v:Value} {i sz:Nat} {e:TypeId} {l:List (List AV)} {j:Nat} {u:AV} (hm:Ent.row v e sz l∈σ) (h:l.flatten[i+j]?=some u):Pts σ (.rptr v i) j u
 |k0 {v:Value} {k sz:Nat} {e:TypeId} {l:List (List AV)} {x:List AV} {j:Nat} {u:AV} (hm:Ent.row v e sz l∈σ) (hx:l[k]?=some x) (h:x[j]?=some u):Pts σ (.rptr v (k*sz)) j u
 |k1 {v:Value} {k sz o:Nat} {e:TypeId} {l:List (List AV)} {x:List AV} {j:Nat} {u:AV} (hm:Ent.row v e sz l∈σ) (hx:l[k]?=some x) (h:x[o+j]?=some u):Pts σ (.rptr v (k*sz+o)) j u
 |g {b i:Nat} {l:List AV} {j:Nat} {u:AV} (hm:Ent.glob b l∈σ) (h:l[i+j]?=some u):Pts σ (.ptr b i) j u
theorem cell_of_mem{X:Fx}{M:Mem}{w:World}(hg:Good X M σ w){b i:Nat}{v:Value}(h:M.cell b i=some v):w.cell? ⟨b,i,none⟩=some v:=by
 unfold Mem.cell at h
 cases ho:M b with
 |none=>rw[ho]at h;cases h
 |some o=>
  rw[ho]at h
  cases o<;>first|cases h|skip
  unfold World.cell?
  rw[hg.mem b _ ho]
  exact h
theorem Pts.cell{X:Fx}{M:Mem}{w:World}(hg:Good X M σ w){p:AV}{j:Nat}{u:AV}(h:Pts σ p j u){pv:Value}(hp:VRel M p pv): ∃a v,pv=.pointer (some a)∧a.spot=none∧w.cell? (a.add j)=some v∧VRel M u v:=by
 have add: ∀b i,(⟨b,i,none⟩:Addr).add j=⟨b,i+j,none⟩:=fun b i=>by unfold Addr.add;split<;>simp_all
 have hr: ∀{v:Value} {i sz:Nat} {e:TypeId} {l:List (List AV)} {u:AV},Ent.row v e sz l∈σ→l.flatten[i+j]?=some u→VRel M (.rptr v i) pv→ ∃a v,pv=.pointer (some a)∧a.spot=none∧w.cell? (a.add j)=some v∧VRel M u v:=by
  intro v i sz e l u hm h hp
  simp only[VRel]at hp
  obtain⟨b,n,cap,rfl,rfl⟩:=hp
  obtain⟨xs,h1,h2,_⟩:=hg.ent _ hm
  obtain⟨v,h3,h4⟩:=h2.get h
  have:=h1.cells (g:=b) rfl _ v h3
  refine⟨_,v,rfl,rfl,?_,h4⟩
  have e0: ∀n,(⟨b,0,none⟩:Addr).add n=⟨b,n,none⟩:=fun n=>by unfold Addr.add;split<;>simp_all
  rw[e0]at this
  rw[add]
  exact this
 cases h with
 |e h=>
  simp only[VRel]at hp
  obtain⟨b,base,rfl,hc⟩:=hp
  obtain⟨v,h1,h2⟩:=hc.get h
  exact⟨_,v,rfl,rfl,by rw[add,Nat.add_assoc];exact cell_of_mem hg h1,h2⟩
 |p hm h=>
  simp only[VRel]at hp
  subst hp
  obtain⟨c,h1,h2⟩:=hg.ent _ hm
  obtain⟨v,h3,h4⟩:=h2.get h
  refine⟨_,v,rfl,rfl,?_,h4⟩
  rw[add]
  unfold World.cell?
  rw[h1]
  simpa using h3
 |g hm h=>
  simp only[VRel]at hp
  subst hp
  obtain⟨v,h3,h4⟩:=CRel.get (hg.ent _ hm) h
  rw[Nat.zero_add]at h3
  refine⟨_,v,rfl,rfl,?_,h4⟩
  rw[add]
  exact cell_of_mem hg h3
 |r hm h=>exact hr hm h hp
 |k0 hm hx h=>
  obtain⟨_,_,_,hs⟩:=hg.ent _ hm
  exact hr hm (flatten_get hs hx h) hp
 |k1 hm hx h=>
  obtain⟨_,_,_,hs⟩:=hg.ent _ hm
  exact hr hm (by rw[Nat.add_assoc];exact flatten_get hs hx h) hp
theorem g_load1{t:TypeId}{x:Operand}{p u:AV}{sz:Nat}(ht:tyOf P t=some (false,sz))(hx:xP env x=some p)(hp:Pts σ p 0 u):GOp P ro ⟨dst,.load t x,ty,pos,after,guard⟩ env σ (Is u σ):=
 zA u (by intro c h;cases h) fun X M e w hg ho=>by
  have h1:=ho x (by simp[Op.operands]) _ hx
  obtain⟨a,v,h2,_,h3,h4⟩:=hp.cell hg h1
  refine⟨v,h4,?_⟩
  obtain⟨k1,k2⟩:=xE ht w
  have h3':w.cell? a=some v:=by simpa [Addr.add]using h3
  simp[execOp,h2,Instr.loadAt,Instr.sureAddr,loadVar,Sem.run_bind,k1,run_load,h3']
theorem run_loadAgg{M:Mem}{w:World}{a:Addr}{L:List AV}(h: ∀(j:Nat) (u:AV),L[j]?=some u→ ∃v,w.cell? (a.add j)=some v∧VRel M u v): ∃vs,(loadCells a L.length).run P w=.ok vs w∧VRels M L vs.toList:=by
 have ex: ∀j,∃v,∀u,L[j]?=some u→w.cell? (a.add j)=some v∧VRel M u v:=fun j=>by
  cases hj:L[j]? with
  |none=>exact⟨undef,fun u hu=>by cases hu⟩
  |some u=>obtain⟨v,h1⟩:=h j u hj;exact⟨v,fun u' hu=>by cases hu;exact h1⟩
 obtain⟨f,hf⟩: ∃f:Nat→Value,∀j u,L[j]?=some u→w.cell? (a.add j)=some (f j)∧VRel M u (f j):=⟨fun j=>Classical.choose (ex j),fun j=>Classical.choose_spec (ex j)⟩
 refine⟨_,run_loadCells w a L.length f (fun j hj=>?_),?_⟩
 ·exact(hf j L[j] (List.getElem?_eq_getElem hj)).1
 ·refine VRels.of_get (by simp) (fun i x v h1 h2=>?_)
  have hi:i<L.length:=by rcases Nat.lt_or_ge i L.length with h|h;exact h;rw[List.getElem?_eq_none h]at h1;cases h1
  have h3:=(hf i x h1).2
  simp[hi]at h2
  rw[←h2];exact h3
inductive Slab(σ:List Ent):AV→Nat→List AV→Prop
 |e {l L:List AV} {i n:Nat} (h:(l.drop i).take n=L) (hn:L.length=n):Slab σ (.eptr l i) n L
 |p {b i:Nat} {l L:List AV} {t:TypeId} {n:Nat} (hm:Ent.cells b l t∈σ) (h:(l.drop i).take n=L) (hn:L.length=n):Slab σ (.ptr b i) n L
 |r {v:Value} {i sz:Nat} {e:TypeId} {l:List (List AV)} {L:List AV} {n:Nat} (hm:Ent.row v e sz l∈σ) (h:(l.flatten.drop i).take n=L) (hn:L.length=n):Slab σ (.rptr v i) n L
 |k0 {v:Value} {k sz:Nat} {e:TypeId} {l:List (List AV)} {x L:List AV} {n:Nat} (hm:Ent.row v e sz l∈σ) (hx:l[k]?=some x) (h:x.take n=L) (hn:L.length=n):Slab σ (.rptr v (k*sz)) n L
 |g {b i:Nat} {l L:List AV} {n:Nat} (hm:Ent.glob b l∈σ) (h:(l.drop i).take n=L) (hn:L.length=n):Slab σ (.ptr b i) n L
theorem Slab.pts{p:AV}{n:Nat}{L:List AV}(h:Slab σ p n L):L.length=n∧ ∀(j:Nat) (u:AV),L[j]?=some u→Pts σ p j u:=by
 have key: ∀(l:List AV) (i j:Nat) (u:AV),((l.drop i).take n)[j]?=some u→l[i+j]?=some u:=fun l i j u h=>by
  rw[List.getElem?_take]at h
  split at h
  ·simpa [List.getElem?_drop]using h
  ·cases h
 cases h with
 |e h hn=>subst h;exact⟨hn,fun j u hu=>.e (key _ _ _ _ hu)⟩
 |p hm h hn=>subst h;exact⟨hn,fun j u hu=>.p hm (key _ _ _ _ hu)⟩
 |r hm h hn=>subst h;exact⟨hn,fun j u hu=>.r hm (key _ _ _ _ hu)⟩
 |g hm h hn=>subst h;exact⟨hn,fun j u hu=>.g hm (key _ _ _ _ hu)⟩
 |k0 hm hx h hn=>
  subst h
  refine⟨hn,fun j u hu=>.k0 hm hx ?_⟩
  rw[List.getElem?_take]at hu
  split at hu
  ·exact hu
  ·cases hu
theorem Slab.addr{X:Fx}{M:Mem}{w:World}(hg:Good X M σ w){p:AV}{n:Nat}{L:List AV}(h:Slab σ p n L)(hn:0<n){pv:Value}(hp:VRel M p pv):
  ∃a,pv=.pointer (some a)∧ ∀(j:Nat) (u:AV),L[j]?=some u→ ∃v,w.cell? (a.add j)=some v∧VRel M u v:=by
 obtain⟨hl,hpts⟩:=h.pts
 obtain⟨a0,v0,e0,_,_,_⟩:=(hpts 0 L[0] (List.getElem?_eq_getElem (by omega))).cell hg hp
 refine⟨a0,e0,fun j u hu=>?_⟩
 obtain⟨a,v,e1,_,h1,h2⟩:=(hpts j u hu).cell hg hp
 rw[e0]at e1;cases e1
 exact⟨v,h1,h2⟩
theorem g_loadAgg{t:TypeId}{x:Operand}{p:AV}{sz:Nat}{L:List AV}(ht:tyOf P t=some (true,sz))(hsz:0<sz)(hx:xP env x=some p)(hp:Slab σ p sz L):GOp P ro ⟨dst,.load t x,ty,pos,after,guard⟩ env σ (Is (.agg L) σ):=
 zA _ (by intro c h;cases h) fun X M e w hg ho=>by
  have h1:=ho x (by simp[Op.operands]) _ hx
  obtain⟨a,h2,h3⟩:=hp.addr hg hsz h1
  obtain⟨vs,h4,h5⟩:=run_loadAgg (P:=P) h3
  obtain⟨k1,k2⟩:=xE ht w
  rw[hp.pts.1]at h4
  exact⟨.agg vs,⟨vs,rfl,h5⟩,by simp[execOp,h2,Instr.loadAt,Instr.sureAddr,loadVar,Sem.run_bind,k1,k2,h4]⟩
def AV.plus:AV→Nat→Option AV
 |.ptr b i,n=>some (.ptr b (i+n))
 |.eptr l i,n=>some (.eptr l (i+n))
 |.rptr v i,n=>some (.rptr v (i+n))
 |_,_=>none
theorem VRel.plus{M:Mem}{p q:AV}{n:Nat}(h:p.plus n=some q){v:Value}(hv:VRel M p v): ∃a,v=.pointer (some a)∧VRel M q (.pointer (some (a.add n))):=by
 have add: ∀b i,(⟨b,i,none⟩:Addr).add n=⟨b,i+n,none⟩:=fun b i=>by unfold Addr.add;split<;>simp_all
 cases p<;>simp only[AV.plus,Option.some.injEq,reduceCtorEq]at h<;>subst h<;>simp only[VRel]at hv ⊢
 ·subst hv;exact⟨_,rfl,by rw[add]⟩
 ·obtain⟨b,base,rfl,hc⟩:=hv;exact⟨_,rfl,b,base,by rw[add,Nat.add_assoc],hc⟩
 ·obtain⟨b,m,cap,rfl,rfl⟩:=hv;exact⟨_,rfl,b,m,cap,rfl,by rw[add]⟩
theorem g_fieldAddr{s f off:Nat}{x:Operand}{p q:AV}(ht:offOf P s f=some off)(hx:xP env x=some p)(hq:p.plus off=some q):GOp P ro ⟨dst,.fieldAddr s x f,ty,pos,after,guard⟩ env σ (Is q σ):=
 zA q (by intro c h;cases h) fun X M e w hg ho=>by
  have h1:=ho x (by simp[Op.operands]) _ hx
  obtain⟨a,h2,h3⟩:=h1.plus hq
  refine⟨_,h3,?_⟩
  unfold offOf at ht
  cases hu:P.underlying s with
  |none=>rw[hu]at ht;cases ht
  |some d=>
   rw[hu]at ht
   cases d<;>first|cases ht|skip
   rename_i fs
   cases hf:fs[f]? with
   |none=>simp only[hf]at ht;cases ht
   |some fd=>
    simp only[hf]at ht
    cases hi:P.info? fd.type with
    |none=>simp only[hi]at ht;cases ht
    |some i=>
     simp only[hi,Option.map_some]at ht
     cases hs:i.size with
     |zero=>rw[hs]at ht;cases ht
     |succ m=>
      rw[hs]at ht
      cases ht
      simp[execOp,h2,Instr.fieldAt,Instr.sureAddr,fieldPlace,Sem.run_bind,run_underlying hu,hf,sizeOf,typeInfo,hi,hs]
theorem g_indexDl{t e:TypeId}{x ix:Operand}{sz k:Nat}{L:List (List AV)}{kk:IntKind}{i:Int}{u:List AV}(ht:pP P t=some (e,sz))(hx:xP env x=some (.dl sz L))(hi:xP env ix=some (.int kk i))(hk:i=(k:Int))(hu:L[k]?=some u):
  GOp P ro ⟨dst,.indexAddr t x ix,ty,pos,after,guard⟩ env σ (Is (.eptr u 0) σ):=
 zA _ (by intro c h;cases h) fun X M e' w hg ho=>by
  have h1:=ho x (by simp[Op.operands]) _ hx
  have h2:=ho ix (by simp[Op.operands]) _ hi
  simp only[VRel]at h1 h2
  obtain⟨a,cap,h3,h4,h5,h6,h7⟩:=h1
  obtain⟨hue,inf,hinf,hsz⟩:=vC ht
  have hlt:k<L.length:=by rcases Nat.lt_or_ge k L.length with h|h;exact h;rw[List.getElem?_eq_none h]at hu;cases hu
  rcases h7 with rfl|⟨b,off,rfl,hr⟩
  ·simp at hlt
  have hc:=hr.get h6 hu
  have add:(⟨b,off,none⟩:Addr).add (k*sz)=⟨b,off+k*sz,none⟩:=by unfold Addr.add;split<;>simp_all
  refine⟨.pointer (some ⟨b,off+k*sz,none⟩),⟨b,off+k*sz,by simp,hc⟩,?_⟩
  subst hk
  simp[execOp,h2,h3,Instr.indexAt,asIntOf,Sem.run_bind,run_underlying hue,sizeOf,typeInfo,hinf,hsz,hlt,add]
theorem g_indexRow{t e e':TypeId}{x ix:Operand}{sz k:Nat}{L:List (List AV)}{kk:IntKind}{i:Int}{v:Value}(ht:pP P t=some (e,sz))(hx:xP env x=some (.slv v))(hm:Ent.row v e' sz L∈σ)(hi:xP env ix=some (.int kk i))(hk:i=(k:Int))(hlt:k<L.length):
  GOp P ro ⟨dst,.indexAddr t x ix,ty,pos,after,guard⟩ env σ (Is (.rptr v (k*sz)) σ):=
 zA _ (by intro c h;cases h) fun X M en w hg ho=>by
  have h1:=ho x (by simp[Op.operands]) _ hx
  have h2:=ho ix (by simp[Op.operands]) _ hi
  simp only[VRel]at h1 h2
  obtain⟨h1,_⟩:=h1
  obtain⟨hue,inf,hinf,hsz⟩:=vC ht
  obtain⟨xs,⟨ho1,ho2⟩,_,_⟩:=hg.ent _ hm
  rcases ho2 with⟨rfl,h0⟩|⟨g,cap,cur,rfl,_,hgg,hnc,_⟩
  ·omega
  have add:(⟨g,0,none⟩:Addr).add (k*sz)=⟨g,k*sz,none⟩:=by unfold Addr.add;split<;>simp_all
  refine⟨.pointer (some ⟨g,k*sz,none⟩),⟨g,L.length,cap,rfl,rfl⟩,?_⟩
  subst hk
  simp[execOp,h2,h1,Instr.indexAt,asIntOf,Sem.run_bind,run_underlying hue,sizeOf,typeInfo,hinf,hsz,hlt,add]
def lenA(σ:List Ent):AV→Nat→Prop
 |.dl _ l,n=>n=l.length
 |.slv v,n=>(∃e sz l,Ent.row v e sz l∈σ∧n=l.length)∨(v=nilS∧n=0)
 |_,_=>False
theorem lenA_rel{X:Fx}{M:Mem}{w:World}(hg:Good X M σ w){x:AV}{n:Nat}(h:lenA σ x n){v:Value}(hv:VRel M x v): ∃a cap,v=.slice a n cap∧n≤cap∧cap≤maxLen:=by
 cases x<;>simp only[lenA]at h<;>simp only[VRel]at hv
 ·subst h;obtain⟨a,cap,rfl,h1,h2,_⟩:=hv;exact⟨a,cap,rfl,h1,h2⟩
 ·obtain⟨rfl,_⟩:=hv
  rcases h with⟨e,sz,l,hm,rfl⟩|⟨rfl,rfl⟩
  ·obtain⟨xs,⟨ho1,ho2⟩,_,_⟩:=hg.ent _ hm
   rcases ho2 with⟨rfl,h0⟩|⟨g,cap,cur,rfl,_,hgg,hnc,hcm,_⟩
   ·rw[h0];exact⟨none,0,rfl,by omega,by omega⟩
   ·exact⟨_,cap,rfl,hnc,hcm⟩
  ·exact⟨none,0,rfl,by omega,by omega⟩
theorem g_len{x:Operand}{t e:TypeId}{sz n:Nat}{v:AV}(ht:pP P t=some (e,sz))(hx:xP env x=some v)(hn:lenA σ v n):
  GOp P ro ⟨dst,.call {callee:=.builtin .len,args:=#[x],argTypes:=#[t]},ty,pos,after,guard⟩ env σ (Is (.int .i64 (n:Int)) σ):=
 zA _ (by intro c h;cases h) fun X M en w hg ho=>by
  have h1:=ho x (by simp[Op.operands,Call.operands]) _ hx
  obtain⟨a,cap,h2,h3,h4⟩:=lenA_rel hg hn h1
  obtain⟨hue,inf,hinf,hsz⟩:=vC ht
  refine⟨.int .i64 n,by simp[VRel],?_⟩
  simp[execOp,resolve,invoke,builtin,Builtin.len_,Sem.run_bind,run_underlying hue,h2,goInt]
end
theorem jY{P:Program}{ro:Option Nat}{c:Code}{Q:Exit→St→Prop}{s:St}{t:Nat}{v:AV}{n:Nat}(hx:lk s.env t=some v)(hn:lenA s.σ v n)(h:n≤9223372036854775807→EX P ro c Q s):EX P ro c Q s:=
 ⟨fun X M a w hs=>by
  obtain⟨_,cap,_,h1,h2⟩:=lenA_rel hs.good hn (hs.env.eval (x:=.tmp t) hx)
  exact(h (by unfold maxLen at h2;omega)).run X M a w hs⟩
end Go.Proofs.YtaoaafdommlhcaaGreat

/- Parts of the proof that belong together: Sf Sg. -/
import Derived.Test.YtaoaafdommlhcaaGreatHA04
import Derived.RangeFuncCalls
import Derived.Shelf.Abstract
set_option maxRecDepth 10000
set_option linter.unusedSimpArgs false
set_option linter.unusedVariables false
set_option autoImplicit false
open Go.Proofs.Tryz
namespace Go.Proofs.YtaoaafdommlhcaaGreat
section
variable {P:Program} {ro:Option Nat} {env:Env} {σ σ':List Ent} {o:Oper} {dst:Option Tmp} {ty:TypeId} {pos:String} {after:Array Edge} {guard:Option (Nat×Bool)}
def uR(env:Env)(d:Nat):Option Operand→Option Int
 |none=>some d
 |some x=>match xP env x with
  |some (.int _ n)=>some n
  |_=>none
theorem g_sliceDl{t e:TypeId}{sz:Nat}{x:Operand}{lo hi:Option Operand}{L R:List (List AV)}{l h:Nat}{li hj:Int}(ht:pP P t=some (e,sz))(hx:xP env x=some (.dl sz L))(hlo:uR env 0 lo=some li)(hhi:uR env L.length hi=some hj)
  (hl:li=(l:Int)) (hh:hj=(h:Int)) (hlh:l≤h) (hhL:h≤L.length) (hR:(L.take h).drop l=R):
  GOp P ro ⟨dst,.slice t x lo hi none,ty,pos,after,guard⟩ env σ (Is (.dl sz R) σ):=
 zA _ (by intro c h;cases h) fun X M a w hg ho=>by
  have h1:=ho x (by simp[Op.operands]) _ hx
  simp only[VRel]at h1
  obtain⟨ad,cap,hv,h2,h3,h4,h5⟩:=h1
  obtain⟨hue,inf,hinf,hsz⟩:=vC ht
  subst hR hl hh
  have hlen:((L.take h).drop l).length=h-l:=by simp;omega
  have elo: ∀(y:Operand),lo=some y→ ∃k,a.eval y=.int k (l:Int):=fun y hy=>by
   subst hy
   simp only[uR]at hlo
   split at hlo
   ·rename_i k n he
    cases hlo
    have:=ho y (by simp[Op.operands]) _ he
    simp only[VRel]at this
    exact⟨_,this⟩
   ·cases hlo
  have ehi: ∀(y:Operand),hi=some y→ ∃k,a.eval y=.int k (h:Int):=fun y hy=>by
   subst hy
   simp only[uR]at hhi
   split at hhi
   ·rename_i k n he
    cases hhi
    have:=ho y (by simp[Op.operands]) _ he
    simp only[VRel]at this
    exact⟨_,this⟩
   ·cases hhi
  have ehn:hi=none→h=L.length:=fun e=>by subst e;simp only[uR,Option.some.injEq]at hhi;omega
  have eln:lo=none→l=0:=fun e=>by subst e;simp only[uR,Option.some.injEq]at hlo;omega
  refine⟨.slice (if cap=l then ad else ad.map (·.add (l*sz))) (h-l) (cap-l),?_,?_⟩
  ·simp only[VRel]
   refine⟨_,_,by rw[hlen],by omega,by omega,fun y hy=>h4 y (List.mem_of_mem_take (List.mem_of_mem_drop hy)),?_⟩
   rcases h5 with rfl|⟨b,off,rfl,hr⟩
   ·left;simp
   ·by_cases hc:cap=l
    ·left
     have:h=l:=by omega
     subst this
     exact List.eq_nil_of_length_eq_zero (by omega)
    ·right
     refine⟨b,off+l*sz,?_,?_⟩
     ·rw[if_neg hc];simp only[Option.map_some,Option.some.injEq];unfold Addr.add;split<;>simp_all
     ·exact RRel.drop l (fun y hy=>h4 y (List.mem_of_mem_take hy)) (RRel.take h hr)
  ·have hlc:h≤cap:=by omega
   cases lo with
   |none=>
    have e0:=eln rfl
    subst e0
    cases hi with
    |none=>
     have e1:=ehn rfl
     subst e1
     simp[execOp,hv,Instr.sliceAt,Instr.slice,run_underlying hue,Instr.sliceBounds,Sem.run_bind,sizeOf,typeInfo,hinf,hsz]
    |some y=>
     obtain⟨k,hy⟩:=ehi y rfl
     simp[execOp,hv,hy,Instr.sliceAt,Instr.slice,run_underlying hue,Instr.sliceBounds,Sem.run_bind,sizeOf,typeInfo,hinf,hsz,Instr.sliceBound,asIntOf,hlc]
   |some z=>
    obtain⟨kz,hz⟩:=elo z rfl
    cases hi with
    |none=>
     have e1:=ehn rfl
     subst e1
     simp[execOp,hv,hz,Instr.sliceAt,Instr.slice,run_underlying hue,Instr.sliceBounds,Sem.run_bind,sizeOf,typeInfo,hinf,hsz,Instr.sliceBound,asIntOf,hlh]
    |some y=>
     obtain⟨k,hy⟩:=ehi y rfl
     simp[execOp,hv,hz,hy,Instr.sliceAt,Instr.slice,run_underlying hue,Instr.sliceBounds,Sem.run_bind,sizeOf,typeInfo,hinf,hsz,Instr.sliceBound,asIntOf,hlc,hlh]
theorem g_extract{x:Operand}{ix:Nat}{l:List AV}{v:AV}(hx:xP env x=some (.tup l))(hv:l[ix]?=some v):GOp P ro ⟨dst,.extract x ix,ty,pos,after,guard⟩ env σ (Is v σ):=
 zA v (by intro c h;cases h) fun X M a w hg ho=>by
  have h1:=ho x (by simp[Op.operands]) _ hx
  simp only[VRel]at h1
  obtain⟨vs,e,h2⟩:=h1
  obtain⟨u,h3,h4⟩:=h2.get hv
  exact⟨u,h4,by simp[execOp,e,Instr.extract,Sem.run_bind,show vs[ix]?=some u by simpa using h3]⟩
def fieldOf(P:Program)(s f:Nat):Option (Nat×Bool×Nat):=match P.underlying s with
 |some (.struct fs)=>match fs[f]? with
  |some x=>(tyOf P x.type).map fun p=>(x.offset,p.1,p.2)
  |none=>none
 |_=>none
theorem g_field1{s f off sz:Nat}{x:Operand}{l:List AV}{v:AV}(ht:fieldOf P s f=some (off,false,sz))(hx:xP env x=some (.agg l))(hv:l[off]?=some v):GOp P ro ⟨dst,.field s x f,ty,pos,after,guard⟩ env σ (Is v σ):=
 zA v (by intro c h;cases h) fun X M a w hg ho=>by
  have h1:=ho x (by simp[Op.operands]) _ hx
  simp only[VRel]at h1
  obtain⟨vs,e,h2⟩:=h1
  obtain⟨u,h3,h4⟩:=h2.get hv
  unfold fieldOf at ht
  split at ht
  ·rename_i fs hu
   split at ht
   ·rename_i fd hf
    simp only[Option.map_eq_some_iff,Prod.mk.injEq]at ht
    obtain⟨⟨b,n⟩,ht,rfl,rfl,rfl⟩:=ht
    obtain⟨k1,k2⟩:=xE ht w
    exact⟨u,h4,by simp[execOp,e,Instr.field,Sem.run_bind,run_underlying hu,hf,asAgg,part,k1,show vs[fd.offset]?=some u by simpa using h3]⟩
   ·cases ht
  ·cases ht
theorem g_fieldAgg{s f off sz:Nat}{x:Operand}{l L:List AV}(ht:fieldOf P s f=some (off,true,sz))(hx:xP env x=some (.agg l))(hL:(l.drop off).take sz=L):GOp P ro ⟨dst,.field s x f,ty,pos,after,guard⟩ env σ (Is (.agg L) σ):=
 zA _ (by intro c h;cases h) fun X M a w hg ho=>by
  have h1:=ho x (by simp[Op.operands]) _ hx
  simp only[VRel]at h1
  obtain⟨vs,e,h2⟩:=h1
  unfold fieldOf at ht
  split at ht
  ·rename_i fs hu
   split at ht
   ·rename_i fd hf
    simp only[Option.map_eq_some_iff,Prod.mk.injEq]at ht
    obtain⟨⟨b,n⟩,ht,rfl,rfl,rfl⟩:=ht
    obtain⟨k1,k2⟩:=xE ht w
    refine⟨.agg (vs.extract fd.offset (fd.offset+n)),⟨_,rfl,?_⟩,by simp[execOp,e,Instr.field,Sem.run_bind,run_underlying hu,hf,asAgg,part,k1,k2]⟩
    have:=(h2.drop fd.offset).take n
    rw[hL]at this
    simpa [Array.toList_extract,List.extract_eq_take_drop]using this
   ·cases ht
  ·cases ht
def evAs(env:Env):List Operand→Option (List AV)
 |[]=>some []
 |x::r=>match xP env x,evAs env r with
  |some v,some l=>some (v::l)
  |_,_=>none
theorem evAs_rel{M:Mem}{a:Act}{env:Env}: ∀{xs:List Operand} {l:List AV},(∀x∈xs,∀v,xP env x=some v→VRel M v (a.eval x))→evAs env xs=some l→VRels M l (xs.map a.eval)
 |[],l,_,h=>by simp only[evAs,Option.some.injEq]at h;subst h;simp[VRels]
 |x::xs,l,hx,h=>by
  simp only[evAs]at h
  split at h
  ·rename_i v l' h1 h2
   cases h
   simp only[List.map_cons,VRels]
   exact⟨_,_,rfl,hx x (by simp) v h1,evAs_rel (fun y hy=>hx y (by simp[hy])) h2⟩
  ·cases h
theorem g_makeFunc{f:Fn}{first cap:Array Operand}{l c:List AV}(h1:evAs env first.toList=some l)(h2:evAs env cap.toList=some c):GOp P ro ⟨dst,.makeFunc f first cap,ty,pos,after,guard⟩ env σ (Is (.fn f l c) σ):=
 zA _ (by intro c h;cases h) fun X M a w hg ho=>by
  have k1:=evAs_rel (a:=a) (M:=M) (fun x hx v hv=>ho x (by simp only[Op.operands,Array.mem_append];exact .inl (by simpa using hx)) v hv) h1
  have k2:=evAs_rel (a:=a) (M:=M) (fun x hx v hv=>ho x (by simp only[Op.operands,Array.mem_append];exact .inr (by simpa using hx)) v hv) h2
  refine⟨.func f (first.map a.eval) (cap.map a.eval),?_,by simp[execOp,Instr.makeFunc,Sem.run_bind]⟩
  simp only[VRel]
  exact⟨_,_,rfl,by simpa using k1,by simpa using k2⟩
def isPtr:AV→Bool
 |.ptr _ _=>true
 |.eptr _ _=>true
 |.rptr _ _=>true
 |_=>false
theorem g_nilCheck{x:Operand}{v:AV}(hx:xP env x=some v)(hp:isPtr v=true):GOp P ro ⟨dst,.nilCheck x,ty,pos,after,guard⟩ env σ (Is v σ):=
 zA v (by intro c h;cases h) fun X M a w hg ho=>by
  have h1:=ho x (by simp[Op.operands]) _ hx
  obtain⟨ad,e⟩: ∃ad,a.eval x=.pointer (some ad):=by
   cases v<;>first|cases hp|skip
   ·simp only[VRel]at h1;exact⟨_,h1⟩
   ·simp only[VRel]at h1;obtain⟨b,base,e,_⟩:=h1;exact⟨_,e⟩
   ·simp only[VRel]at h1;obtain⟨b,n,cap,_,e⟩:=h1;exact⟨_,e⟩
  refine⟨a.eval x,h1,?_⟩
  simp[execOp,e]
theorem uJ(z:List AV): ∀(n i:Nat),i<n*z.length→(List.replicate n z).flatten[i]?=z[i%z.length]?
 |0,i,h=>by simp at h
 |n+1,i,h=>by
  rw[List.replicate_succ,List.flatten_cons]
  by_cases hi:i<z.length
  ·rw[List.getElem?_append_left hi,Nat.mod_eq_of_lt hi]
  ·rw[List.getElem?_append_right (by omega),uJ z n _ (by rw[Nat.add_mul]at h;omega)]
   congr 1
   exact(Nat.mod_eq_sub_mod (by omega)).symm
theorem g_makeSlice{t e:TypeId}{sz bytes n:Nat}{x y:Operand}{kx ky:IntKind}{i j:Int}{z:List AV}(ht:appOf P t=some (e,sz,bytes))(hz:zeroA P e=some z)(hx:xP env x=some (.int kx i))(hy:xP env y=some (.int ky j))(hi:i=(n:Int))(hj:j=(n:Int))(hb:n*bytes≤140737488355328):
  GOp P ro ⟨dst,.makeSlice t x y,ty,pos,after,guard⟩ env σ (Rowed e sz (List.replicate n z) σ):=
 wJ (by intro c h;cases h) fun X M a w hg ho=>by
  have h1:=ho x (by simp[Op.operands]) _ hx
  have h2:=ho y (by simp[Op.operands]) _ hy
  simp only[VRel]at h1 h2
  obtain⟨hue,inf,z',hinf,hz',hsz,hby,hzl,h0,hb0⟩:=qP ht
  obtain⟨i',zv,hi',hzv,rfl⟩:=pC hz
  rw[hinf]at hi';cases hi'
  rw[hz']at hzv;cases hzv
  subst hi hj
  have hn63:n≤140737488355328:=Nat.le_trans (Nat.le_mul_of_pos_right n hb0) hb
  have hbI:(inf.bytes:Int)*(n:Int)≤281474976710656:=by
   rw[hby]
   have:((bytes*n:Nat):Int)≤281474976710656:=by rw[Nat.mul_comm];omega
   rwa [Int.natCast_mul]at this
  have hr:=run_make (P:=P) w t e inf z' hue hinf hz' kx ky n n (by omega) (by omega) hbI (by omega)
  simp only[Int.toNat_natCast]at hr
  have hzL:(z'.cells.toList.map cA).length=sz:=by simp[hzl]
  have hgd:=alloc_row hg (madeCells z'.cells (n*inf.size)) e sz (l:=List.replicate n (z'.cells.toList.map cA)) (cap:=n) (by simp) (by unfold maxLen;omega) (by rw[size_madeCells,hsz]) (fun x hx=>by rw[(List.mem_replicate.1 hx).2,hzL]) (by
   rw[List.take_of_length_le (by simp[size_madeCells,hsz])]
   have h3:=zeros_rel M (z:=z') (n:=n*inf.size) (fun _=>by omega)
   have e1:kR (z'.cells.toList.map cA) (n*inf.size)=(List.replicate n (z'.cells.toList.map cA)).flatten:=by
    apply List.ext_getElem?
    intro k
    by_cases hk:k<n*sz
    ·rw[uJ _ _ _ (by rw[hzL];exact hk)]
     simp only[kR,hsz,List.getElem?_map,List.getElem?_range hk,Option.map_some,hzL]
     have hlt:k%sz<(z'.cells.toList.map cA).length:=by rw[hzL];exact Nat.mod_lt _ h0
     have e2: ∃q,(z'.cells.toList.map cA)[k%sz]?=some q:=⟨_,List.getElem?_eq_getElem hlt⟩
     rw[List.getElem?_map]at e2
     obtain⟨q,e2⟩:=e2
     rw[e2];rfl
    ·rw[List.getElem?_eq_none (by simp[kR,hsz];omega),List.getElem?_eq_none (by simp[hzl];omega)]
   rw[←e1];exact h3)
  simp only[List.length_replicate]at hgd
  refine⟨M,.slice (some ⟨w.heap.size,0,none⟩) n n,_,.slv _,_,Mem.le_refl M,hgd,by simp[VRel,Value.isSl],.mk _,.inl ?_⟩
  simp only[execOp,h1,h2,Sem.run_bind,hr,Result.andThen_ok]
  rfl
end
structure SCall(P:Program)(f:FuncId)(args:List AV)(σ:List Ent)(Q:AV→List Ent→Prop):Prop where
 run: ∀X M w (vs:Array Value),Good X M σ w→VRels M args vs.toList→Calls P f vs w fun e w'=> ∃M' σ' r v,M.le M'∧Good X M' σ' w'∧VRel M' r v∧e=.returned v∧Q r σ'
theorem SCall.mono{P:Program}{f:FuncId}{args:List AV}{σ:List Ent}{Q Q':AV→List Ent→Prop}(h:SCall P f args σ Q)(hq: ∀r σ',Q r σ'→Q' r σ'):SCall P f args σ Q':=
 ⟨fun X M w vs hg ha=>(h.run X M w vs hg ha).mono fun _ _ ⟨M',σ',r,v,h1,h2,h3,h4,h5⟩=>⟨M',σ',r,v,h1,h2,h3,h4,hq _ _ h5⟩⟩
def Ent.mem(w:World)(τ:List Ent):Mem:=fun b=>if some b∈τ.map Ent.block then w.heap[b]? else none
theorem SCall.frame{P:Program}{f:FuncId}{args:List AV}{σ:List Ent}{Q:AV→List Ent→Prop}(τ:List Ent)(h:SCall P f args σ Q):SCall P f args (σ++τ) fun r σ'=> ∃σ1,σ'=σ1++τ∧Q r σ1:=by
 refine⟨fun X M w vs hg ha=>?_⟩
 have hmem: ∀e∈τ,∀b,e.block=some b→(Ent.mem w τ) b=w.heap[b]?:=fun e he b hb=>by
  unfold Ent.mem;rw[if_pos (List.mem_map.2 ⟨e,he,hb⟩)]
 obtain⟨X',hX'⟩: ∃X':Fx,X'={w0:=X.w0,fr:=fun b=>(X.fr b).or (Ent.mem w τ b)}:=⟨_,rfl⟩
 have hnod:=hg.nod
 rw[List.filterMap_append,List.nodup_append]at hnod
 have hmt: ∀b o,Ent.mem w τ b=some o→ ∃e∈τ,e.block=some b:=fun b o ho=>by
  unfold Ent.mem at ho
  split at ho
  ·rename_i hb
   obtain⟨e,he,hb⟩:=List.mem_map.1 hb
   exact⟨e,he,hb⟩
  ·cases ho
 have hg':Good X' M σ w:=by
  refine⟨by rw[hX'];exact hg.os,by rw[hX'];exact hg.tape,by rw[hX'];exact hg.output,hg.mem,?_,?_,fun e he=>hg.ent e (List.mem_append.2 (.inl he)),?_,hnod.1⟩
  ·intro b o ho
   rw[hX']at ho
   simp only at ho
   cases hf:X.fr b with
   |some o'=>rw[hf]at ho;simp only[Option.some_or,Option.some.injEq]at ho;subst ho;exact hg.frm b _ hf
   |none=>
    rw[hf,Option.none_or]at ho
    unfold Ent.mem at ho
    split at ho
    ·exact ho
    ·cases ho
  ·intro b o ho
   rw[hX']
   simp only[hg.dis b o ho,Option.none_or]
   cases hm:Ent.mem w τ b with
   |none=>rfl
   |some o'=>
    obtain⟨e',he',hb'⟩:=hmt b o' hm
    have:=(hg.own e' (List.mem_append.2 (.inr he')) b hb').1
    rw[ho]at this;cases this
  ·intro e he b hb
   obtain⟨k1,k2⟩:=hg.own e (List.mem_append.2 (.inl he)) b hb
   refine⟨k1,?_⟩
   rw[hX']
   simp only[k2,Option.none_or]
   cases hm:Ent.mem w τ b with
   |none=>rfl
   |some o=>
    obtain⟨e',he',hb'⟩:=hmt b o hm
    exact absurd rfl (hnod.2.2 b (List.mem_filterMap.2 ⟨e,he,hb⟩) b (List.mem_filterMap.2 ⟨e',he',hb'⟩))
 refine(h.run X' M w vs hg' ha).mono ?_
 rintro e w' ⟨M',σ1,r,v,hm,hg1,hv,he,hq⟩
 refine⟨M',σ1++τ,r,v,hm,?_,hv,he,σ1,rfl,hq⟩
 have kept: ∀e∈τ,∀b,e.block=some b→w'.heap[b]?=w.heap[b]?:=fun e he b hb=>by
  have hlt:=Ent.block_lt (hg.ent e (List.mem_append.2 (.inr he))) hb
  have ho:w.heap[b]?=some w.heap[b]:=Array.getElem?_eq_getElem hlt
  rw[ho]
  refine hg1.frm b _ ?_
  rw[hX']
  have:=(hg.own e (List.mem_append.2 (.inr he)) b hb).2
  simp only[this,Option.none_or,hmem e he b hb,ho]
 refine⟨by have:=hg1.os;rw[hX']at this;exact this,by have:=hg1.tape;rw[hX']at this;exact this,by have:=hg1.output;rw[hX']at this;exact this,hg1.mem,?_,?_,?_,?_,?_⟩
 ·intro b o ho
  refine hg1.frm b o ?_
  rw[hX'];simp[ho]
 ·intro b o ho
  have:=hg1.dis b o ho
  rw[hX']at this
  simp only at this
  cases hf:X.fr b with
  |none=>rfl
  |some o=>rw[hf]at this;cases this
 ·intro e he
  rcases List.mem_append.1 he with he|he
  ·exact hg1.ent e he
  ·exact((hg.ent e (List.mem_append.2 (.inr he))).same (kept e he)).mono hm
 ·intro e he b hb
  rcases List.mem_append.1 he with he|he
  ·obtain⟨k1,k2⟩:=hg1.own e he b hb
   refine⟨k1,?_⟩
   rw[hX']at k2
   simp only at k2
   cases hf:X.fr b with
   |none=>rfl
   |some o=>rw[hf]at k2;cases k2
  ·obtain⟨k1,k2⟩:=hg.own e (List.mem_append.2 (.inr he)) b hb
   refine⟨?_,k2⟩
   cases hM:M' b with
   |none=>rfl
   |some o=>
    have hlt:=Ent.block_lt (hg.ent e (List.mem_append.2 (.inr he))) hb
    have hd:=hg1.dis b o hM
    rw[hX']at hd
    simp only[k2,Option.none_or,hmem e he b hb,Array.getElem?_eq_getElem hlt]at hd
    cases hd
 ·rw[List.filterMap_append,List.nodup_append]
  refine⟨hg1.nod,hnod.2.1,fun b hb b' hb' heq=>?_⟩
  subst heq
  obtain⟨e1,he1,hb1⟩:=List.mem_filterMap.1 hb
  obtain⟨e2,he2,hb2⟩:=List.mem_filterMap.1 hb'
  have k2:=(hg1.own e1 he1 b hb1).2
  rw[hX']at k2
  have:=(hg.own e2 (List.mem_append.2 (.inr he2)) b hb2).2
  have hlt:=Ent.block_lt (hg.ent e2 (List.mem_append.2 (.inr he2))) hb2
  simp only[this,Option.none_or,hmem e2 he2 b hb2,Array.getElem?_eq_getElem hlt]at k2
  cases k2
section
variable {P:Program} {ro:Option Nat} {env:Env} {σ σ':List Ent} {o:Oper} {dst:Option Tmp} {ty:TypeId} {pos:String} {after:Array Edge} {guard:Option (Nat×Bool)}
theorem callsIn_fence{f:FuncId}{args:Array Value}{w:World}{R:Ending→World→Prop}(h:Calls P f args w R):CallsIn (tN ro) 0 P f args w R:=by
 have h1:=callsIn_wide (n:=0).2 h
 exact h1
theorem zQ{f:Operand}{args:Array Operand}{ats:Array TypeId}{g:FuncId}{first cap l:List AV}{Q:AV→List Ent→Prop}(hf:xP env f=some (.fn (.func g) first cap))(hl:evAs env args.toList=some l)(he:Enters P g)(h:SCall P g (first++l++cap) σ Q):
  GOp P ro ⟨dst,.call {callee:=.value f,args:=args,argTypes:=ats},ty,pos,after,guard⟩ env σ Q:=by
 refine⟨fun X M a w hg ho K Qx hK=>?_⟩
 have h1:=ho f (by simp[Op.operands,Call.operands]) _ hf
 simp only[VRel]at h1
 obtain⟨vs,ws,hv,k1,k2⟩:=h1
 have k3:=evAs_rel (a:=a) (M:=M) (fun x hx v hv=>ho x (by simp only[Op.operands,Call.operands,Array.mem_append];exact .inr (by simpa using hx)) v hv) hl
 refine⟨fun f _=>tT f ro,?_⟩
 rw[Oper.semAt_eq _ _ _ (by intro c h;cases h)]
 have hrun:(execOp a.eval ⟨dst,.call {callee:=.value f,args:=args,argTypes:=ats},ty,pos,after,guard⟩).run P w=.ok (.enter g (vs++args.map a.eval++ws)) w:=by
  simp only[execOp,resolve,Sem.run_bind,hv,Deferred.ofValue,Sem.run_pure,Result.andThen_ok,invoke]
  exact he _ _
 rw[hrun]
 refine⟨fun hd=>(by cases hd),callsIn_fence ((h.run X M w _ hg (by simpa using(k1.append k3).append k2)).mono ?_)⟩
 rintro e w' ⟨M',σ',r,v,hm,hg',hv',rfl,hq⟩
 exact hK M' v w' r σ' hm hg' hv' hq
inductive Rem:List Ent→Ent→List Ent→Prop
 |here {e:Ent} {σ:List Ent}:Rem (e::σ) e σ
 |there {e x:Ent} {σ σ':List Ent}:Rem σ e σ'→Rem (x::σ) e (x::σ')
theorem Rem.split{e:Ent}(h:Rem σ e σ'): ∃a c,σ=a++e::c∧σ'=a++c:=by
 induction h with
 |@here e σ=>exact⟨[],σ,rfl,rfl⟩
 |@there e x σ σ' _ ih=>obtain⟨a,c,h1,h2⟩:=ih;exact⟨x::a,c,by rw[h1];rfl,by rw[h2];rfl⟩
theorem Rem.sub{e:Ent}(h:Rem σ e σ'):σ'.Sublist σ:=by
 obtain⟨a,c,rfl,rfl⟩:=h.split
 exact(List.Sublist.refl a).append (List.sublist_cons_self e c)
theorem Good.rem{X:Fx}{M:Mem}{e:Ent}{w w':World}(h:Good X M σ w)(hr:Rem σ e σ')(hos:w'.os=w.os)(htp:w'.tape=w.tape)(hout:w'.output=w.output)(hold: ∀k,e.block≠some k→w'.heap[k]?=w.heap[k]?):Good X M σ' w':=by
 obtain⟨a,c,rfl,rfl⟩:=hr.split
 have hme:e∈a++e::c:=by simp
 have hnod:=h.nod
 simp only[List.filterMap_append,List.filterMap_cons]at hnod
 have oth: ∀x∈a++c,∀b,x.block=some b→e.block≠some b:=by
  intro x hx b hb heq
  rw[heq]at hnod
  simp only[List.nodup_append,List.nodup_cons]at hnod
  rcases List.mem_append.1 hx with hx|hx
  ·exact hnod.2.2 b (List.mem_filterMap.2 ⟨x,hx,hb⟩) b (by simp) rfl
  ·exact hnod.2.1.1 (List.mem_filterMap.2 ⟨x,hx,hb⟩)
 have hsub: ∀x∈a++c,x∈a++e::c:=fun x hx=>hr.sub.subset hx
 refine⟨hos.trans h.os,htp.trans h.tape,hout.trans h.output,fun b o ho=>?_,fun b o ho=>?_,h.dis,?_,fun x hx=>h.own x (hsub x hx),(hr.sub.filterMap _).nodup h.nod⟩
 ·refine(hold b (fun hb=>?_)).trans (h.mem b o ho)
  have:=(h.own e hme b hb).1;rw[ho]at this;cases this
 ·refine(hold b (fun hb=>?_)).trans (h.frm b o ho)
  have:=(h.own e hme b hb).2;rw[ho]at this;cases this
 ·exact fun x hx=>(h.ent x (hsub x hx)).same (fun b hb=>hold b (oth x hx b hb))
inductive Marks:List Nat→List Ent→List Ent→Prop
 |nil {σ:List Ent}:Marks [] σ σ
 |cons {D:Nat} {ds:List Nat} {σ σ1 σ2:List Ent}:Rem σ (.obj D (.deferred (some []))) σ1→Marks ds σ1 σ2→Marks (D::ds) σ σ2
theorem leaves_marks{X:Fx}{M:Mem}{fn:Func}{tmps:Array Value}{R:Ending→World→Prop}{ds:List Nat}{σ σ1:List Ent}(h:Marks ds σ σ1): ∀{w:World},Good X M σ w→(∀w',Good X M σ1 w'→ ∃v,(results fn tmps).run P w'=.ok v w'∧R (.returned v) w')→
  LeavesInM (tN none) 0 P fn tmps R (marksD ds) .returning w:=by
 induction h with
 |nil=>intro w hg hr;exact hr w hg
 |@cons D ds σ σ1 σ2 hrem _ ih=>
  intro w hg hr
  obtain⟨a,c,rfl,rfl⟩:=hrem.split
  have hD:w.heap[D]?=some (.deferred (some [])):=hg.ent (.obj D (.deferred (some []))) (by simp)
  refine⟨by simp,.inl ⟨D,w.putObj D (.deferred none),rfl,run_takeDeferred hD,ih ?_ hr⟩⟩
  exact hg.rem hrem rfl rfl rfl (fun k hk=>World.putObj_heap_other (fun e=>hk (by simp[Ent.block,e])))
inductive Res1(P:Program)(env:Env)(σ:List Ent):ResultVar→AV→Prop
 |ofTmp {t:Tmp} {v:AV} (h:lk env t=some v):Res1 P env σ (.tmp t) v
 |ofCell {a:Tmp} {t:TypeId} {sz:Nat} {p v:AV} (h:lk env a=some p) (ht:tyOf P t=some (false,sz)) (hp:Pts σ p 0 v):Res1 P env σ (.cell a t) v
 |ofAgg {a:Tmp} {t:TypeId} {sz:Nat} {p:AV} {L:List AV} (h:lk env a=some p) (ht:tyOf P t=some (true,sz)) (h0:0<sz) (hp:Slab σ p sz L):Res1 P env σ (.cell a t) (.agg L)
inductive Res(P:Program)(env:Env)(σ:List Ent):List ResultVar→List AV→Prop
 |nil:Res P env σ [] []
 |cons {r:ResultVar} {rs:List ResultVar} {v:AV} {vs:List AV}:Res1 P env σ r v→Res P env σ rs vs→Res P env σ (r::rs) (v::vs)
def oneA:List AV→AV
 |[v]=>v
 |vs=>.tup vs
def resV(tmps:Array Value):ResultVar→Sem Value
 |.tmp t=>pure (tmps.getD t undef)
 |.cell a t=>do loadVar t (←asAddr (tmps.getD a undef))
theorem results_eq(fn:Func)(tmps:Array Value):results fn tmps=(do let vs←fn.results.mapM (resV tmps);pure (if h:vs.size=1 then vs[0]else .tuple vs)):=by
 unfold results
 congr 1
theorem Res1.run{X:Fx}{M:Mem}{tmps:Array Value}{w:World}{r:ResultVar}{v:AV}(h:Res1 P env σ r v)(hg:Good X M σ w)(he:EnvRel M env tmps):
  ∃u,(resV tmps r).run P w=.ok u w∧VRel M v u:=by
 cases h with
 |ofTmp h=>
  obtain⟨u,h1,h2⟩:=he _ _ h
  exact⟨u,by simp[resV,Array.getD_eq_getD_getElem?,h1],h2⟩
 |ofCell h ht hp=>
  obtain⟨u,h1,h2⟩:=he _ _ h
  obtain⟨ad,z,rfl,_,h3,h4⟩:=hp.cell hg h2
  obtain⟨k1,k2⟩:=xE ht w
  have h3':w.cell? ad=some z:=by simpa [Addr.add]using h3
  exact⟨z,by simp[resV,Array.getD_eq_getD_getElem?,h1,asAddr,loadVar,Sem.run_bind,k1,run_load,h3'],h4⟩
 |ofAgg h ht h0 hp=>
  obtain⟨u,h1,h2⟩:=he _ _ h
  obtain⟨ad,rfl,h3⟩:=hp.addr hg h0 h2
  obtain⟨vs,h4,h5⟩:=run_loadAgg (P:=P) h3
  obtain⟨k1,k2⟩:=xE ht w
  rw[hp.pts.1]at h4
  exact⟨.agg vs,by simp[resV,Array.getD_eq_getD_getElem?,h1,asAddr,loadVar,Sem.run_bind,k1,k2,h4],⟨vs,rfl,h5⟩⟩
theorem Res.run{X:Fx}{M:Mem}{tmps:Array Value}{w:World}{rs:List ResultVar}{vs:List AV}(h:Res P env σ rs vs)(hg:Good X M σ w)(he:EnvRel M env tmps):
  ∃us,(rs.mapM (resV tmps)).run P w=.ok us w∧VRels M vs us:=by
 induction h with
 |nil=>exact⟨[],rfl,by simp[VRels]⟩
 |cons h1 _ ih=>
  obtain⟨us,e1,e2⟩:=ih
  obtain⟨u,e3,e4⟩:=h1.run hg he
  refine⟨u::us,?_,by simp only[VRels];exact⟨u,us,rfl,e4,e2⟩⟩
  rw[List.mapM_cons,Sem.run_bind,e3]
  simp only[Result.andThen_ok,Sem.run_bind,e1,Sem.run_pure]
theorem results_run{X:Fx}{M:Mem}{fn:Func}{tmps:Array Value}{w:World}{vs:List AV}(h:Res P env σ fn.results.toList vs)(hg:Good X M σ w)(he:EnvRel M env tmps): ∃u,(results fn tmps).run P w=.ok u w∧VRel M (oneA vs) u:=by
 obtain⟨us,h1,h2⟩:=h.run hg he
 have hl:=h2.length
 rw[results_eq,Array.mapM_eq_mapM_toList]
 simp only[Functor.map]
 rw[show∀(m:Sem (List Value)),m.bind (Sem.pure∘List.toArray)=m>>=fun l=>pure l.toArray from fun _=>rfl]
 simp only[Sem.run_bind,h1,Result.andThen_ok,Sem.run_pure]
 match vs,us,h2,hl with
 |[],[],h2,_=>exact⟨.tuple #[],by simp,by simp[oneA,VRel,VRels]⟩
 |[v],[u],h2,_=>simp only[VRels,List.cons.injEq]at h2;obtain⟨_,_,⟨rfl,rfl⟩,h2,_⟩:=h2;exact⟨u,by simp,h2⟩
 |v::v'::vs,u::u'::us,h2,_=>exact⟨.tuple (u::u'::us).toArray,by simp,by simp only[oneA,VRel];exact⟨_,rfl,by simpa using h2⟩⟩
def Fin(σ:List Ent)(r:AV)(Q:AV→List Ent→Prop):Prop:=
 ∀X M w u,Good X M σ w→VRel M r u→ ∃M' σ' r',M.le M'∧Good X M' σ' w∧VRel M' r' u∧Q r' σ'
theorem zY{r:AV}{Q:AV→List Ent→Prop}(h:Q r σ):Fin σ r Q:=fun _ M _ _ hg hv=>⟨M,σ,r,Mem.le_refl M,hg,hv,h⟩
theorem fin_drop{r:AV}{Q:AV→List Ent→Prop}(hs:σ'.Sublist σ)(h:Fin σ' r Q):Fin σ r Q:=fun X M w u hg hv=>h X M w u (hg.sub hs) hv
theorem fin_view{r r':AV}{Q:AV→List Ent→Prop}(hv: ∀M u,VRel M r u→VRel M r' u)(h:Fin σ r' Q):Fin σ r Q:=fun X M w u hg hr=>h X M w u hg (hv M u hr)
theorem Good.shut{X:Fx}{M:Mem}{v:Value}{e:TypeId}{sz:Nat}{l:List (List AV)}{w:World}(h:Good X M σ w)(hr:Rem σ (.row v e sz l) σ'): ∃M',M.le M'∧Good X M' σ' w∧VRel M' (.dl sz l) v:=by
 obtain⟨a,c,rfl,rfl⟩:=hr.split
 have hme:Ent.row v e sz l∈a++Ent.row v e sz l::c:=by simp
 obtain⟨xs,hown,hrel,hs⟩:=h.ent _ hme
 have hsub: ∀x∈a++c,x∈a++Ent.row v e sz l::c:=fun x hx=>hr.sub.subset hx
 rcases hown.2 with⟨rfl,h0⟩|⟨g,cap,cur,rfl,hb,hgg,hnc,hcm,hcs,htk⟩
 ·refine⟨M,Mem.le_refl M,h.sub hr.sub,?_⟩
  have:l=[]:=List.eq_nil_of_length_eq_zero h0
  subst this
  simp only[VRel]
  exact⟨none,0,rfl,by simp,by omega,by simp,by simp⟩
 ·have hno:M g=none∧X.fr g=none:=h.own _ hme g rfl
  have hle:M.le (fun b=>if b=g then some (.cells cur e (0,0))else M b):=fun b o ho=>by
   simp only
   split
   ·rename_i hb';subst hb';rw[hno.1]at ho;cases ho
   ·exact ho
  refine⟨_,hle,⟨h.os,h.tape,h.output,?_,h.frm,?_,fun x hx=>(h.ent x (hsub x hx)).mono hle,?_,(hr.sub.filterMap _).nodup h.nod⟩,?_⟩
  ·intro b o ho
   split at ho
   ·rename_i hb';subst hb';cases ho;exact hgg
   ·exact h.mem b o ho
  ·intro b o ho
   split at ho
   ·rename_i hb';subst hb';exact hno.2
   ·exact h.dis b o ho
  ·intro x hx b hb'
   refine⟨?_,(h.own x (hsub x hx) b hb').2⟩
   split
   ·rename_i hbg
    subst hbg
    have hnod:=h.nod
    simp only[List.filterMap_append,List.filterMap_cons,Ent.block,Value.ownBlock,List.nodup_append,List.nodup_cons]at hnod
    rcases List.mem_append.1 hx with hx|hx
    ·exact absurd rfl (hnod.2.2 b (List.mem_filterMap.2 ⟨x,hx,hb'⟩) b (by simp))
    ·exact absurd (List.mem_filterMap.2 ⟨x,hx,hb'⟩) hnod.2.1.1
   ·exact(h.own x (hsub x hx) b hb').1
  ·simp only[VRel]
   refine⟨_,cap,rfl,hnc,hcm,hs,.inr ⟨g,0,rfl,RRel.of_cells (VRels.mono hle _ _ hrel) (fun j v hv=>?_)⟩⟩
   unfold Mem.cell
   simp only[if_true]
   rw[←htk,List.getElem?_take]at hv
   split at hv
   ·simpa using hv
   ·cases hv
inductive Cv(v:Value)(x:AV):List AV→List AV→Prop
 |nil:Cv v x [] []
 |here {l l':List AV}:Cv v x l l'→Cv v x (.slv v::l) (x::l')
 |same {y:AV} {l l':List AV}:Cv v x l l'→Cv v x (y::l) (y::l')
 |agg {m m' l l':List AV}:Cv v x m m'→Cv v x l l'→Cv v x (.agg m::l) (.agg m'::l')
 |tup {m m' l l':List AV}:Cv v x m m'→Cv v x l l'→Cv v x (.tup m::l) (.tup m'::l')
theorem Cv.rel{M:Mem}{v:Value}{x:AV}(hx:VRel M x v){l l':List AV}(h:Cv v x l l'): ∀{vs:List Value},VRels M l vs→VRels M l' vs:=by
 induction h with
 |nil=>exact fun h=>h
 |here _ ih=>intro vs h;simp only[VRels]at h ⊢;obtain⟨u,r,rfl,h1,h2⟩:=h;simp only[VRel]at h1;obtain⟨rfl,_⟩:=h1;exact⟨_,_,rfl,hx,ih h2⟩
 |same _ ih=>intro vs h;simp only[VRels]at h ⊢;obtain⟨u,r,rfl,h1,h2⟩:=h;exact⟨_,_,rfl,h1,ih h2⟩
 |agg _ _ ih1 ih2=>intro vs h;simp only[VRels,VRel]at h ⊢;obtain⟨u,r,rfl,⟨ws,rfl,h1⟩,h2⟩:=h;exact⟨_,_,rfl,⟨ws,rfl,ih1 h1⟩,ih2 h2⟩
 |tup _ _ ih1 ih2=>intro vs h;simp only[VRels,VRel]at h ⊢;obtain⟨u,r,rfl,⟨ws,rfl,h1⟩,h2⟩:=h;exact⟨_,_,rfl,⟨ws,rfl,ih1 h1⟩,ih2 h2⟩
theorem Cv.rel1{M:Mem}{v:Value}{x r r':AV}(hx:VRel M x v)(h:Cv v x [r] [r']){u:Value}(hr:VRel M r u):VRel M r' u:=by
 have:=h.rel hx (vs:=[u]) (by simp only[VRels];exact⟨u,[],rfl,hr,rfl⟩)
 simp only[VRels,List.cons.injEq]at this
 obtain⟨_,_,⟨rfl,_⟩,h,_⟩:=this
 exact h
theorem xS{r r':AV}{Q:AV→List Ent→Prop}{v:Value}{e:TypeId}{sz:Nat}{l:List (List AV)}(hr:Rem σ (.row v e sz l) σ')(hc:Cv v (.dl sz l) [r] [r'])(h:Fin σ' r' Q):Fin σ r Q:=fun X M w u hg hv=>by
 obtain⟨M1,h1,h2,h3⟩:=hg.shut hr
 obtain⟨M2,σ2,r2,h4,h5,h6,h7⟩:=h X M1 w u h2 (hc.rel1 h3 (hv.mono h1))
 exact⟨M2,σ2,r2,Mem.le_trans h1 h4,h5,h6,h7⟩
theorem xK{r r':AV}{Q:AV→List Ent→Prop}{sz:Nat}(hc:Cv nilS (.dl sz []) [r] [r'])(h:Fin σ r' Q):Fin σ r Q:=
 fin_view (fun M u hv=>hc.rel1 (by simp only[VRel];exact⟨none,0,rfl,by simp,by omega,by simp,by simp⟩) hv) h
def RetOK(P:Program)(fn:Func)(Q:AV→List Ent→Prop)(s:St):Prop:= ∃vs σ1,Marks s.marks s.σ σ1∧Res P s.env σ1 fn.results.toList vs∧Fin σ1 (oneA vs) Q
def retA(P:Program)(fn:Func)(Q:AV→List Ent→Prop):Exit→St→Prop
 |.ret,s=>RetOK P fn Q s
 |.normal,s=>RetOK P fn Q s
 |_,_=>False
def jU:Nat→List AV→Env
 |_,[]=>[]
 |k,v::r=>(k,v)::jU (k+1) r
theorem argsEnv_get: ∀(l:List AV) (k t:Nat) (v:AV),lk (jU k l) t=some v→k≤t∧l[t-k]?=some v
 |[],k,t,v,h=>by simp[jU,lk]at h
 |x::l,k,t,v,h=>by
  by_cases e:k=t
  ·subst e;simp only[jU]at h;rw[uU]at h;simpa using h
  ·simp only[jU]at h
   rw[qR e]at h
   obtain⟨h1,h2⟩:=argsEnv_get l (k+1) t v h
   refine⟨by omega,?_⟩
   rw[show t-k=(t-(k+1))+1 by omega]
   simpa using h2
theorem zZ{f:FuncId}{fn:Func}{c:Code}{args:List AV}{Q:AV→List Ent→Prop}(hf:P.funcs[f]?=some fn)(hb:fn.body=some c)(hn:args.length≤fn.ntmps)
  (h:EX P none c (retA P fn Q) ⟨jU 0 args,σ,[],fn.ntmps⟩):SCall P f args σ Q:=by
 refine⟨fun X0 M w vs hg0 ha=>?_⟩
 obtain⟨X,hX⟩: ∃X:Fx,X={X0 with dt:=[]}:=⟨_,rfl⟩
 have hg:Good X M σ w:=hX▸hg0.dt []
 have back: ∀{M σ w},Good X M σ w→Good X0 M σ w:=fun h=>(hX▸h:Good {X0 with dt:=[]} _ _ _).undt
 have hl:=ha.length
 simp only[Array.length_toList]at hl
 refine callsIn_wide (n:=0).1 (callsIn_of_wp_marks hf hb trivial ?_)
 have hs:Sim X M ⟨jU 0 args,σ,[],fn.ntmps⟩ {tmps:=vs++Array.replicate (fn.ntmps-vs.size) undef,defers:=[]} w:=by
  refine⟨hg,by simp;omega,by rw[hX];rfl,fun t v hv=>?_⟩
  obtain⟨_,h2⟩:=argsEnv_get _ _ _ _ hv
  obtain⟨u,h3,h4⟩:=ha.get h2
  refine⟨u,?_,h4⟩
  simp only[Nat.sub_zero,Array.getElem?_toList]at h3
  have hlt:t<vs.size:=by rcases Nat.lt_or_ge t vs.size with h|h;exact h;rw[Array.getElem?_eq_none h]at h3;cases h3
  rw[Array.getElem?_append_left hlt];exact h3
 refine Go.wpIn_mono (h.run X M _ w hs) ?_
 rintro e a' w' ⟨M',s',hm,hs',hq⟩
 have fin:RetOK P fn Q s'→LeavesInM Fence.wide 0 P fn a'.tmps (fun e w'=> ∃M' σ' r v,M.le M'∧Good X0 M' σ' w'∧VRel M' r v∧e=.returned v∧Q r σ') a'.defers .returning w':=by
  rintro⟨rs,σ1,h1,h2,h3⟩
  rw[hs'.defs,show X.dt=[] by rw[hX],List.append_nil]
  refine leaves_marks h1 hs'.good (fun w2 hg2=>?_)
  obtain⟨u,hu,hv⟩:=results_run h2 hg2 hs'.env
  obtain⟨M2,σ2,r2,k1,k2,k3,k4⟩:=h3 X M' w2 u hg2 hv
  exact⟨u,hu,M2,σ2,r2,u,Mem.le_trans hm k1,back k2,k3,rfl,k4⟩
 cases e with
 |ret=>exact fin hq
 |normal=>exact fin hq
 |exit id=>exact hq.elim
 |goto l=>exact hq.elim
 |panic ch=>exact hq.elim
 |outgrown=>exact hq.elim
end
end Go.Proofs.YtaoaafdommlhcaaGreat

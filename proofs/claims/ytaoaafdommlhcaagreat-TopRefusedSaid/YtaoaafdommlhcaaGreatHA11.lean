/- Parts of the proof that belong together: Sz Ss Sca Scc Scd Sti. -/
import Derived.Test.YtaoaafdommlhcaaGreatHA10
import Derived.Laws.CopyRow
import Derived.Lib.Overlaps
set_option maxRecDepth 10000
set_option linter.unusedSimpArgs false
set_option linter.unusedVariables false
set_option autoImplicit false
open Go.Proofs.Tryz
namespace Go.Proofs.YtaoaafdommlhcaaGreat
def heapM(w:World):Mem:=fun b=>w.heap[b]?
theorem Good.le_heap{X:Fx}{M:Mem}{σ:List Ent}{w:World}(h:Good X M σ w):M.le (heapM w):=fun b o ho=>h.mem b o ho
theorem Good.lent{X:Fx}{M:Mem}{σ:List Ent}{w:World}{v:Value}{e:TypeId}{sz:Nat}{l:List (List AV)}(h:Good X M σ w)(hm:Ent.row v e sz l∈σ):VRel (heapM w) (.dl sz l) v:=by
 obtain⟨xs,hown,hrel,hs⟩:=h.ent _ hm
 rcases hown.2 with⟨rfl,h0⟩|⟨g,cap,cur,rfl,hb,hgg,hnc,hcm,hcs,htk⟩
 ·have:l=[]:=List.eq_nil_of_length_eq_zero h0
  subst this
  simp only[VRel]
  exact⟨none,0,rfl,by simp,by simp[maxLen],by simp,by simp⟩
 ·simp only[VRel]
  refine⟨_,cap,rfl,hnc,hcm,hs,.inr ⟨g,0,rfl,RRel.of_cells (VRels.mono h.le_heap _ _ hrel) (fun j v hv=>?_)⟩⟩
  unfold Mem.cell heapM
  rw[hgg]
  simp only
  rw[←htk,List.getElem?_take]at hv
  split at hv
  ·simpa using hv
  ·cases hv
inductive Lend(σ:List Ent):List AV→List AV→Prop
 |refl {a:List AV}:Lend σ a a
 |step {a b c:List AV} {v:Value} {e:TypeId} {sz:Nat} {l:List (List AV)} (hm:Ent.row v e sz l∈σ) (hc:Cv v (.dl sz l) a b) (h:Lend σ b c):Lend σ a c
theorem Lend.rel{X:Fx}{M:Mem}{σ:List Ent}{w:World}(hg:Good X M σ w){a b:List AV}(h:Lend σ a b): ∀{vs:List Value},VRels (heapM w) a vs→VRels (heapM w) b vs:=by
 induction h with
 |refl=>exact fun h=>h
 |step hm hc _ ih=>exact fun h=>ih (hc.rel (hg.lent hm) h)
def AV.pure:AV→Bool
 |.int _ _=>true
 |.bool _=>true
 |.tup [.int _ _,.int _ _]=>true
 |.tup [.bool _,.int _ _]=>true
 |_=>false
theorem VRel.pure{M M':Mem}: ∀{x:AV} {v:Value},x.pure=true→VRel M x v→VRel M' x v
 |.int _ _,v,_,h=>by simpa [VRel]using h
 |.bool _,v,_,h=>by simpa [VRel]using h
 |.tup [.int _ _,.int _ _],v,_,h=>by simpa [VRel,VRels]using h
 |.tup [.bool _,.int _ _],v,_,h=>by simpa [VRel,VRels]using h
theorem ex_join{P:Program}{ro:Option Nat}{x y:Code}{Q:Exit→St→Prop}{s:St}{α:Type}(f:α→St)(h1:EX P ro x (thenA (fun s=> ∃a,s.le (f a)) Q) s)(h2: ∀a,EX P ro y Q (f a)):EX P ro (.seq x y) Q s:=
 ex_seq (ex_mono h1 fun e s h=>by
  cases e with
  |normal=>obtain⟨a,ha⟩:=h;exact yS ha (h2 a)
  |exit id=>exact h
  |goto l=>exact h
  |ret=>exact h
  |panic ch=>exact h
  |outgrown=>exact h)
section
variable {P:Program} {ro:Option Nat} {env:Env} {σ:List Ent} {dst:Option Tmp} {ty:TypeId} {pos:String} {after:Array Edge} {guard:Option (Nat×Bool)}
def arrTy(P:Program)(t:TypeId):Option (Nat×Nat):=match P.underlying t with
 |some (.array n e)=>(P.info? e).map fun i=>(n,i.size)
 |_=>none
theorem arrTy_spec{t:TypeId}{n sz:Nat}(h:arrTy P t=some (n,sz)): ∃e i,P.underlying t=some (.array n e)∧P.info? e=some i∧i.size=sz:=by
 unfold arrTy at h
 split at h
 ·rename_i m e hu
  simp only[Option.map_eq_some_iff,Prod.mk.injEq]at h
  obtain⟨i,hi,rfl,rfl⟩:=h
  exact⟨e,i,hu,hi,rfl⟩
 ·cases h
theorem g_indexArr{t:TypeId}{x ix:Operand}{n sz k:Nat}{kk:IntKind}{i:Int}{p q:AV}(ht:arrTy P t=some (n,sz))(hx:xP env x=some p)(hi:xP env ix=some (.int kk i))(hk:i=(k:Int))(hlt:k<n)(hq:p.plus (k*sz)=some q):
  GOp P ro ⟨dst,.indexAddr t x ix,ty,pos,after,guard⟩ env σ (Is q σ):=
 zA q (by intro c h;cases h) fun X M a w hg ho=>by
  have h1:=ho x (by simp[Op.operands]) _ hx
  have h2:=ho ix (by simp[Op.operands]) _ hi
  obtain⟨ad,h3,h4⟩:=h1.plus hq
  simp only[VRel]at h2
  obtain⟨e,inf,hu,hinf,hsz⟩:=arrTy_spec ht
  refine⟨_,h4,?_⟩
  subst hk
  simp[execOp,h2,h3,Instr.indexAt,Instr.sureAddr,asIntOf,Sem.run_bind,run_underlying hu,sizeOf,typeInfo,hinf,hsz,hlt]
def arrOne(P:Program)(t:TypeId):Option Nat:=match P.underlying t with
 |some (.array n e)=>match tyOf P e with
  |some (false,1)=>some n
  |_=>none
 |_=>none
theorem g_index1{t:TypeId}{x ix:Operand}{n k:Nat}{kk:IntKind}{i:Int}{l:List AV}{v:AV}(ht:arrOne P t=some n)(hx:xP env x=some (.agg l))(hi:xP env ix=some (.int kk i))(hk:i=(k:Int))(hlt:k<n)(hv:l[k]?=some v):
  GOp P ro ⟨dst,.index t x ix,ty,pos,after,guard⟩ env σ (Is v σ):=
 zA v (by intro c h;cases h) fun X M a w hg ho=>by
  have h1:=ho x (by simp[Op.operands]) _ hx
  have h2:=ho ix (by simp[Op.operands]) _ hi
  simp only[VRel]at h1 h2
  obtain⟨vs,e,h3⟩:=h1
  obtain⟨u,h4,h5⟩:=h3.get hv
  unfold arrOne at ht
  split at ht
  ·rename_i m el hu
   split at ht
   ·rename_i hty
    cases ht
    obtain⟨k1,k2⟩:=xE hty w
    subst hk
    exact⟨u,h5,by simp[execOp,e,h2,Instr.index,asIntOf,Sem.run_bind,run_underlying hu,part,k1,k2,hlt,show vs[k]?=some u by simpa using h4]⟩
   ·cases ht
  ·cases ht
theorem pts_gk{b k o:Nat}{l:List AV}{u:AV}(hm:Ent.glob b l∈σ)(ho:o=k)(h:l[k]?=some u):Pts σ (.ptr b o) 0 u:=.g hm (by rw[ho];exact h)
theorem rrel_ones{M:Mem}{b:Nat}: ∀{l:List AV} {i:Nat},CRel M b i l→RRel M b i (l.map fun x=>[x])
 |[],_,_=>by simp[RRel]
 |x::l,i,h=>by
  simp only[CRel]at h
  simp only[List.map_cons,RRel,CRel,List.length_singleton]
  exact⟨⟨h.1,trivial⟩,rrel_ones h.2⟩
theorem g_sliceTab{t:TypeId}{x hi:Operand}{n h g:Nat}{hj:Int}{l:List AV}(ht:arrTy P t=some (n,1))(hx:xP env x=some (.ptr g 0))(hm:Ent.glob g l∈σ)(hl:l.length=n)(hn:Nat.ble n 1000000=true)(hhi:uR env 0 (some hi)=some hj)(hh:hj=(h:Int))(hle:h≤n):
  GOp P ro ⟨dst,.slice t x none (some hi) none,ty,pos,after,guard⟩ env σ (Is (.dl 1 ((l.take h).map fun x=>[x])) σ):=
 zA _ (by intro c hc;cases hc) fun X M a w hg ho=>by
  have h1:=ho x (by simp[Op.operands]) _ hx
  simp only[VRel]at h1
  obtain⟨e,inf,hu,hinf,hsz⟩:=arrTy_spec ht
  have hn:=Nat.le_of_ble_eq_true hn
  have hc:CRel M g 0 l:=hg.ent _ hm
  obtain⟨k,hk⟩: ∃k,a.eval hi=.int k (h:Int):=by
   simp only[uR]at hhi
   split at hhi
   ·rename_i k m he
    cases hhi
    have:=ho hi (by simp[Op.operands]) _ he
    simp only[VRel]at this
    exact⟨_,this.trans (by rw[hh])⟩
   ·cases hhi
  refine⟨.slice (some ⟨g,0,none⟩) h n,?_,?_⟩
  ·simp only[VRel]
   refine⟨_,n,by rw[List.length_map,List.length_take,Nat.min_eq_left (by omega)],by rw[List.length_map,List.length_take];omega,by unfold maxLen;omega,fun y hy=>?_,.inr ⟨g,0,rfl,?_⟩⟩
   ·obtain⟨_,_,rfl⟩:=List.mem_map.1 hy;rfl
   ·rw[List.map_take]
    exact RRel.take h (rrel_ones hc)
  ·by_cases h0:n=0
   ·subst h0
    obtain rfl:h=0:=by omega
    simp[execOp,h1,hk,Instr.sliceAt,Instr.sureAddr,run_underlying hu,Instr.sliceBounds,Sem.run_bind,sizeOf,typeInfo,hinf,hsz,Instr.sliceBound,asIntOf]
   ·simp[execOp,h1,hk,Instr.sliceAt,Instr.sureAddr,run_underlying hu,Instr.sliceBounds,Sem.run_bind,sizeOf,typeInfo,hinf,hsz,Instr.sliceBound,asIntOf,hle,h0]
    unfold Addr.add
    split<;>simp_all
theorem g_remP{x y:Operand}{t yt:TypeId}{k:IntKind}{a b:Int}(hx:xP env x=some (.int k a))(hy:xP env y=some (.int k b))(h:0≤a∧0<b):
  GOp P ro ⟨dst,.binOp .rem t x y yt,ty,pos,after,guard⟩ env σ (Is (.int k (a%b)) σ):=
 g_rem hx hy (by omega) (Int.tmod_eq_emod_of_nonneg h.1)
theorem g_quoP{x y:Operand}{t yt:TypeId}{a b:Int}(hx:xP env x=some (.int .i64 a))(hy:xP env y=some (.int .i64 b))(h:0≤a∧0<b)(hm:a≤9223372036854775807):
  GOp P ro ⟨dst,.binOp .quo t x y yt,ty,pos,after,guard⟩ env σ (Is (.int .i64 (a/b)) σ):=
 g_quo hx hy (by omega) (Int.tdiv_eq_ediv_of_nonneg h.1) (by
  have h1:=Int.ediv_le_self b h.1
  have h2:=Int.ediv_nonneg h.1 (show 0≤b by omega)
  omega)
end
section
variable {P:Program} {ro:Option Nat} {env:Env} {σ:List Ent} {dst:Option Tmp} {ty:TypeId} {pos:String} {after:Array Edge} {guard:Option (Nat×Bool)}
theorem bound_eval{M:Mem}{a:Act}{o:Oper}{hi:Operand}{hj:Int}{h d:Nat}(ho:OpRel M env a o)(hm:hi∈o.op.operands)(hhi:uR env d (some hi)=some hj)(hh:hj=(h:Int)): ∃k,a.eval hi=.int k (h:Int):=by
 simp only[uR]at hhi
 split at hhi
 ·rename_i k m he
  cases hhi
  have:=ho hi hm _ he
  simp only[VRel]at this
  exact⟨_,this.trans (by rw[hh])⟩
 ·cases hhi
theorem ownsRow_cutN{w:World}{base g cap n k sz:Nat}{e:TypeId}{xs:List Value}(h:w.ownsRow base e sz (.slice (some ⟨g,0,none⟩) n cap) n xs)(hk:k≤n):w.ownsRow base e sz (.slice (some ⟨g,0,none⟩) k cap) k (xs.take (k*sz)):=by
 rcases h.2 with⟨h0,_⟩|⟨g',cap',cur,hv,hbg,hg,hnc,hcm,hcs,htk⟩
 ·cases h0
 ·cases hv
  have hl:=h.1
  have hks:k*sz≤n*sz:=Nat.mul_le_mul_right sz hk
  refine⟨by rw[List.length_take];omega,.inr ⟨g,cap,cur,rfl,hbg,hg,by omega,hcm,hcs,?_⟩⟩
  rw[←htk,List.take_take];congr 1;omega
theorem g_cutRow{t e e':TypeId}{sz k:Nat}{x hi:Operand}{v:Value}{L:List (List AV)}{F:Value→List Ent}{hj:Int}(ht:pP P t=some (e',sz))(hx:xP env x=some (.slv v))(hu: ∀v',Upd σ (.row v e sz L) (.row v' e sz (L.take k)) (F v'))(hhi:uR env 0 (some hi)=some hj)(hh:hj=(k:Int))(hk:k≤L.length):
  GOp P ro ⟨dst,.slice t x none (some hi) none,ty,pos,after,guard⟩ env σ (Grew F):=
 wJ (by intro c hc;cases hc) fun X M a w hg ho=>by
  have h1:=ho x (by simp[Op.operands]) _ hx
  simp only[VRel]at h1
  obtain⟨hv,_⟩:=h1
  obtain⟨kk,hkk⟩:=bound_eval ho (by simp[Op.operands]) hhi hh
  obtain⟨hue,inf,hinf,hsz⟩:=vC ht
  obtain⟨xs,hown,hrel,hs⟩:=hg.ent _ (hu v).mem
  have hrel':VRels M (L.take k).flatten (xs.take (k*sz)):=by
   have e1:(L.take k).flatten=L.flatten.take (k*sz):=by
    have:=qQ (l:=L.take k) (sz:=sz) (fun y hy=>hs y (List.mem_of_mem_take hy))
    rw[List.length_take,Nat.min_eq_left hk]at this
    have e2:L.flatten=(L.take k).flatten++(L.drop k).flatten:=by rw[←List.flatten_append,List.take_append_drop]
    rw[e2,List.take_left' this]
   rw[e1]
   exact hrel.take _
  rcases hown.2 with⟨rfl,h0⟩|⟨g,cap,cur,rfl,hb0,hgg,hnc,hcm,hcs,htk⟩
  ·have hL:L=[]:=List.eq_nil_of_length_eq_zero h0
   subst hL
   obtain rfl:k=0:=by simpa using hk
   refine⟨M,nilS,w,.slv nilS,F nilS,Mem.le_refl M,?_,by simp[VRel,Value.isSl],.mk _,.inl ?_⟩
   ·exact hg.upd (hu nilS) rfl rfl rfl (fun _ _ _=>rfl) (hg.ent _ (hu nilS).mem) (.inl rfl)
   ·simp[execOp,hv,hkk,Instr.sliceAt,Instr.slice,run_underlying hue,Instr.sliceBounds,Sem.run_bind,sizeOf,typeInfo,hinf,hsz,Instr.sliceBound,asIntOf]
  ·have hrow:=ownsRow_cutN hown hk
   refine⟨M,.slice (some ⟨g,0,none⟩) k cap,w,.slv _,F (.slice (some ⟨g,0,none⟩) k cap),Mem.le_refl M,?_,by simp[VRel,Value.isSl],.mk _,.inl ?_⟩
   ·refine hg.upd (hu _) rfl rfl rfl (fun _ _ _=>rfl) ?_ (.inl rfl)
    refine⟨_,?_,hrel',fun y hy=>hs y (List.mem_of_mem_take hy)⟩
    rw[List.length_take,Nat.min_eq_left hk]
    exact hrow
   ·have hkc:k≤cap:=by omega
    have ha:(⟨g,0,none⟩:Addr).add 0=⟨g,0,none⟩:=by unfold Addr.add;split<;>simp_all
    simp[execOp,hv,hkk,Instr.sliceAt,Instr.slice,run_underlying hue,Instr.sliceBounds,Sem.run_bind,sizeOf,typeInfo,hinf,hsz,Instr.sliceBound,asIntOf,hkc,ha]
end
section
variable {P:Program} {ro:Option Nat} {env:Env} {σ:List Ent} {dst:Option Tmp} {ty:TypeId} {pos:String} {after:Array Edge} {guard:Option (Nat×Bool)}
def capS:Value→Nat
 |.slice _ _ c=>c
 |_=>0
theorem g_capRow{x:Operand}{t e e':TypeId}{sz:Nat}{v:Value}{L:List (List AV)}(ht:pP P t=some (e,sz))(hx:xP env x=some (.slv v))(hm:Ent.row v e' sz L∈σ):
  GOp P ro ⟨dst,.call {callee:=.builtin .cap,args:=#[x],argTypes:=#[t]},ty,pos,after,guard⟩ env σ (Is (.int .i64 (capS v)) σ):=
 zA _ (by intro c h;cases h) fun X M en w hg ho=>by
  have h1:=ho x (by simp[Op.operands,Call.operands]) _ hx
  simp only[VRel]at h1
  obtain⟨h1,_⟩:=h1
  obtain⟨hue,inf,hinf,hsz⟩:=vC ht
  obtain⟨xs,hown,_,_⟩:=hg.ent _ hm
  refine⟨.int .i64 (capS v),by simp[VRel],?_⟩
  rcases hown.2 with⟨rfl,h0⟩|⟨g,cap,cur,rfl,_,_,hnc,_⟩
  ·simp[execOp,resolve,invoke,builtin,Builtin.cap_,Sem.run_bind,run_underlying hue,h1,goInt,capS]
  ·simp[execOp,resolve,invoke,builtin,Builtin.cap_,Sem.run_bind,run_underlying hue,h1,goInt,capS]
def cut{α:Type}(L:List α)(a b:Nat):List α:=(L.drop a).take (b-a)
inductive SrcC(σ:List Ent)(sz:Nat):AV→List (List AV)→Prop
 |s {x:AV} {m:List (List AV)} (h:Src σ x sz m):SrcC σ sz x m
 |p {v:Value} {e:TypeId} {L:List (List AV)} {a b:Nat} (h:Ent.row v e sz L∈σ) (h1:a≤b) (h2:b≤L.length):SrcC σ sz (.raw (pA sz v a b)) (cut L a b)
theorem cut_flat{sz:Nat}{L:List (List AV)}{a b:Nat}(h: ∀x∈L,x.length=sz):(cut L a b).flatten=cut L.flatten (a*sz) (b*sz):=by
 unfold cut
 rw[uD (b-a) (fun x hx=>h x (List.mem_of_mem_drop hx)),pE a h,Nat.sub_mul]
theorem cut_len{α:Type}{L:List α}{a b:Nat}(h:b≤L.length):(cut L a b).length=b-a:=by unfold cut;rw[List.length_take,List.length_drop];omega
theorem srcC_vals{X:Fx}{M:Mem}{w:World}(hg:Good X M σ w){x:AV}{sz:Nat}{m:List (List AV)}(h:SrcC σ sz x m){u:Value}(hu:VRel M x u):
  ∃a cap,u=.slice a m.length cap∧ ∃vs:List Value,VRels M m.flatten vs∧vs.length=m.length*sz∧(∀x∈m,x.length=sz)∧(a=none→m=[])∧ ∀ad,a=some ad→ ∀(j:Nat) (v:Value),vs[j]?=some v→w.cell? (ad.add j)=some v:=by
 cases h with
 |s h=>exact src_vals hg h hu
 |@p v e L a b hm h1 h2=>
  simp only[VRel]at hu
  subst hu
  obtain⟨xs,hown,hr,hs⟩:=hg.ent _ hm
  have hl:=hown.1
  have hms: ∀x∈cut L a b,x.length=sz:=fun x hx=>hs x (List.mem_of_mem_drop (List.mem_of_mem_take hx))
  have hba:b*sz≤L.length*sz:=Nat.mul_le_mul_right _ h2
  have hab:a*sz≤b*sz:=Nat.mul_le_mul_right _ h1
  have hvr:VRels M (cut L a b).flatten (cut xs (a*sz) (b*sz)):=by
   rw[cut_flat hs]
   exact(hr.drop _).take _
  have hvl:(cut xs (a*sz) (b*sz)).length=(cut L a b).length*sz:=by rw[cut_len (by omega),cut_len h2,Nat.sub_mul]
  rcases hown.2 with⟨rfl,h0⟩|⟨g,cap,cur,rfl,hbg,hgg,hnc,hcm,hcs,htk⟩
  ·obtain rfl:a=0:=by omega
   obtain rfl:b=0:=by omega
   exact⟨none,0,by simp[pA,cut],_,hvr,hvl,hms,fun _=>by simp[cut],by simp⟩
  ·refine⟨some (if cap=a then ⟨g,0,none⟩else (⟨g,0,none⟩:Addr).add (a*sz)),cap-a,?_,_,hvr,hvl,hms,by simp,?_⟩
   ·rw[cut_len h2]
    show Value.slice (if cap=a then some ⟨g,0,none⟩else (some (⟨g,0,none⟩:Addr)).map (·.add (a*sz))) (b-a) (cap-a)=_
    split<;>rfl
   ·rintro ad ⟨⟩ j u hj
    have hcell: ∀(j:Nat) (u:Value),xs[j]?=some u→w.cell? ((⟨g,0,none⟩:Addr).add j)=some u:=hown.cells (g:=g) rfl
    by_cases hc:cap=a
    ·have:(cut xs (a*sz) (b*sz)).length=0:=by rw[hvl,cut_len h2,show b-a=0 by omega,Nat.zero_mul]
     rw[List.getElem?_eq_none (by omega)]at hj;cases hj
    ·rw[if_neg hc]
     unfold cut at hj
     rw[List.getElem?_take]at hj
     split at hj
     ·rw[List.getElem?_drop]at hj
      have:=hcell _ _ hj
      rw[Addr.add_lit]at this ⊢
      rw[Addr.add_lit]
      simpa [Nat.add_assoc]using this
     ·cases hj
def tU{α:Type}(L:List α)(a:Nat)(m:List α):List α:=L.take a++m++L.drop (a+m.length)
theorem over_flat{sz:Nat}{L m:List (List AV)}{a:Nat}(h: ∀x∈L,x.length=sz)(hm: ∀x∈m,x.length=sz):(tU L a m).flatten=tU L.flatten (a*sz) m.flatten:=by
 unfold tU
 rw[List.flatten_append,List.flatten_append,uD a h,pE _ h,qQ hm,Nat.add_mul]
theorem tG{α:Type}{L m:List α}{a:Nat}(h:a+m.length≤L.length):(tU L a m).length=L.length:=by
 unfold tU;rw[List.length_append,List.length_append,List.length_take,List.length_drop];omega
theorem g_copy{d x:Operand}{t t' e:TypeId}{sz bytes:Nat}{v:Value}{L m:List (List AV)}{xv:AV}{lo hi c:Nat}{σ1:List Ent}(ht:appOf P t=some (e,sz,bytes))(hd:xP env d=some (.raw (pA sz v lo hi)))(hx:xP env x=some xv)
  (hsrc:SrcC σ sz xv m) (hu:Upd σ (.row v e sz L) (.row v e sz (tU L lo (m.take c))) σ1) (hlo:lo≤hi) (hhi:hi≤L.length) (hc:c=min m.length (hi-lo)) (hone: ∀y∈m.take c,y.all AV.one=true):
  GOp P ro ⟨dst,.call {callee:=.builtin .copy,args:=#[d,x],argTypes:=#[t,t']},ty,pos,after,guard⟩ env σ (Is (.int .i64 c) σ1):=
 wJ (by intro c h;cases h) fun X M a w hg ho=>by
  have h1:=ho d (by simp[Op.operands,Call.operands]) _ hd
  have h2:=ho x (by simp[Op.operands,Call.operands]) _ hx
  simp only[VRel]at h1
  obtain⟨hue,inf,z,hinf,hz,hsz,hby,hzl,h0,hb0⟩:=qP ht
  obtain⟨sa,scap,hsv,vs,hv1,hv2,hv3,hv4,hv5⟩:=srcC_vals hg hsrc h2
  obtain⟨xs,hown,hr,hsl⟩:=hg.ent _ hu.mem
  have hl:=hown.1
  have hms: ∀y∈m.take c,y.length=sz:=fun y hy=>hv3 y (List.mem_of_mem_take hy)
  have hcm:c≤m.length:=by omega
  have hmc:(m.take c).length=c:=by rw[List.length_take];omega
  have hvc:(vs.take (c*sz)).length=c*sz:=by
   have:c*sz≤m.length*sz:=Nat.mul_le_mul_right _ hcm
   rw[List.length_take];omega
  have hvr:VRels M (m.take c).flatten (vs.take (c*sz)):=by rw[uD c hv3];exact hv1.take _
  have hone':(m.take c).flatten.all AV.one=true:=by
   rw[List.all_eq_true]
   intro y hy
   obtain⟨q,hq,hy⟩:=List.mem_flatten.1 hy
   exact List.all_eq_true.1 (hone q hq) y hy
  have hvo:=qW hvr hone'
  by_cases hc0:c=0
  ·subst hc0
   have e0:tU L lo (m.take 0)=L:=by unfold tU;simp
   rw[e0]at hu
   refine⟨M,.int .i64 0,w,.int .i64 0,σ1,Mem.le_refl M,hg.upd hu rfl rfl rfl (fun _ _ _=>rfl) (hg.ent _ hu.mem) (.inl rfl),by simp[VRel],by exact .mk,.inl ?_⟩
   have hmin:Nat.min m.length (hi-lo)=0:=hc.symm
   have hld: ∀(q:Addr),(loadCells q 0).run P w=.ok #[] w:=fun q=>by simpa using run_loadCells_list (P:=P) w q [] (by simp)
   have hdv: ∃da dc,pA sz v lo hi=.slice da (hi-lo) dc:=by
    rcases hown.2 with⟨rfl,_⟩|⟨g,cap,cur,rfl,_⟩<;>exact⟨_,_,rfl⟩
   obtain⟨da,dc,hdv⟩:=hdv
   rw[hdv]at h1
   have key:(Builtin.copy_ #[t,t'] ty #[.slice da (hi-lo) dc,.slice sa m.length scap]).run P w=.ok (goInt 0) w:=by
    cases da<;>cases sa<;>simp[Builtin.copy_,run_underlying hue,Builtin.lenOf,Builtin.firstCells,sizeOf,typeInfo,hinf,hmin,storeCells,hld]
   simp only[execOp,resolve,invoke,builtin,Sem.run_bind,Sem.run_pure,Result.andThen_ok,List.map_toArray,List.map_cons,List.map_nil,h1,hsv,key]
   rfl
  ·rcases hown.2 with⟨rfl,hn0⟩|⟨g,cap,cur,rfl,hbg,hgg,hnc,hcmx,hcs,htk⟩
   ·omega
   ·cases sa with
    |none=>have:=hv4 rfl;subst this;simp at hcm;omega
    |some ad=>
     have hcap:¬ cap=lo:=by omega
     have hda:(⟨g,0,none⟩:Addr).add (lo*sz)=⟨g,lo*sz,none⟩:=by rw[Addr.add_lit];simp
     have hd1:pA sz (.slice (some ⟨g,0,none⟩) L.length cap) lo hi=.slice (some ⟨g,lo*sz,none⟩) (hi-lo) (cap-lo):=by
      simp[pA,hcap,hda]
     rw[hd1]at h1
     have hlc:lo*sz+c*sz≤L.length*sz:=by rw[←Nat.add_mul];exact Nat.mul_le_mul_right _ (by omega)
     have hcc:L.length*sz≤cap*sz:=Nat.mul_le_mul_right _ hnc
     have hld:=run_loadCells_list (P:=P) w ad (vs.take (c*sz)) (fun j u hj=>hv5 ad rfl j u (by
      rw[List.getElem?_take]at hj
      split at hj
      ·exact hj
      ·cases hj))
     have hst:=run_storeCells_at P g (lo*sz) e (vs.take (c*sz)) 0 cur w hgg (by rw[hvc,hcs];omega) (fun u hu=>hvo u hu)
     rw[hvc]at hld hst
     simp only[Nat.add_zero]at hst
     have hmin:Nat.min m.length (hi-lo)=c:=hc.symm
     have key:(Builtin.copy_ #[t,t'] ty #[.slice (some ⟨g,lo*sz,none⟩) (hi-lo) (cap-lo),.slice (some ad) m.length scap]).run P w=.ok (goInt c) (w.setRow g (cur.toList.take (lo*sz)++vs.take (c*sz)++cur.toList.drop (lo*sz+c*sz)).toArray):=by
      simp[Builtin.copy_,run_underlying hue,Builtin.lenOf,Builtin.firstCells,sizeOf,typeInfo,hinf,hmin,hsz,hld,hst]
     have hcsz:(cur.toList.take (lo*sz)++vs.take (c*sz)++cur.toList.drop (lo*sz+c*sz)).toArray.size=cap*sz:=by
      simp only[List.size_toArray,List.length_append,List.length_take,List.length_drop,Array.length_toList,hcs]
      rw[List.length_take]at hvc
      omega
     have hrow:(Ent.row (.slice (some ⟨g,0,none⟩) L.length cap) e sz (tU L lo (m.take c))).at M (w.setRow g (cur.toList.take (lo*sz)++vs.take (c*sz)++cur.toList.drop (lo*sz+c*sz)).toArray):=by
      refine⟨tU xs (lo*sz) (vs.take (c*sz)),⟨?_,.inr ⟨g,cap,_,?_,hbg,setRow_heap w g cur _ e _ hgg,?_,hcmx,hcsz,?_⟩⟩,?_,?_⟩
      ·rw[tG (by rw[hvc,hl];exact hlc),tG (by rw[hmc];omega)];exact hl
      ·rw[tG (by rw[hmc];omega)]
      ·rw[tG (by rw[hmc];omega)];exact hnc
      ·rw[tG (by rw[hmc];omega),←htk]
       unfold tU
       rw[hvc]
       apply List.ext_getElem?
       intro j
       simp only[List.getElem?_take,List.getElem?_append,List.getElem?_drop,List.length_append,List.length_take,List.length_drop,Array.length_toList,hcs]
       have hvs:min (c*sz) vs.length=c*sz:=by rw[List.length_take]at hvc;exact hvc
       rw[hvs]
       have e1:min (lo*sz) (cap*sz)=lo*sz:=by omega
       have e2:min (lo*sz) (min (L.length*sz) (cap*sz))=lo*sz:=by omega
       rw[e1,e2]
       by_cases hj:j<L.length*sz
       ·rw[if_pos hj]
        by_cases hj1:j<lo*sz+c*sz
        ·rw[if_pos hj1,if_pos hj1]
         by_cases hj2:j<lo*sz
         ·rw[if_pos hj2,if_pos hj2,if_pos hj2,if_pos hj2,if_pos hj]
         ·rw[if_neg hj2,if_neg hj2]
        ·rw[if_neg hj1,if_neg hj1,if_pos (by omega)]
       ·rw[if_neg hj,if_neg (by omega),if_neg (by omega)]
      ·rw[over_flat hsl hms]
       unfold tU
       rw[qQ hms,hmc,hvc]
       exact((hr.take _).append hvr).append (hr.drop _)
      ·intro y hy
       unfold tU at hy
       rcases List.mem_append.1 hy with hy|hy
       ·rcases List.mem_append.1 hy with hy|hy
        ·exact hsl y (List.mem_of_mem_take hy)
        ·exact hms y hy
       ·exact hsl y (List.mem_of_mem_drop hy)
     refine⟨M,.int .i64 c,w.setRow g (cur.toList.take (lo*sz)++vs.take (c*sz)++cur.toList.drop (lo*sz+c*sz)).toArray,.int .i64 c,σ1,Mem.le_refl M,hg.upd hu rfl rfl rfl (fun k hk hne=>?_) hrow (.inl rfl),by simp[VRel],by exact .mk,.inl ?_⟩
     ·exact setRow_other w g k _ (fun e=>hne (by simp[Ent.block,Value.ownBlock,e]))
     ·simp only[execOp,resolve,invoke,builtin,Sem.run_bind,Sem.run_pure,Result.andThen_ok,List.map_toArray,List.map_cons,List.map_nil,h1,hsv,key]
      rfl
end
section
variable {P:Program} {ro:Option Nat} {env:Env} {σ:List Ent} {dst:Option Tmp} {ty:TypeId} {pos:String} {after:Array Edge} {guard:Option (Nat×Bool)}
theorem Rem.mem{e:Ent}{σ σ':List Ent}(h:Rem σ e σ'):e∈σ:=by
 obtain⟨a,c,rfl,_⟩:=h.split;simp
theorem rem_apart{X:Fx}{M:Mem}{w:World}(hg:Good X M σ w){e e2:Ent}{σ1:List Ent}(h:Rem σ e σ1)(h2:e2∈σ1){b:Nat}(hb:e.block=some b):e2.block≠some b:=by
 obtain⟨a,c,h3,rfl⟩:=h.split
 have hn:=hg.nod
 rw[h3,List.filterMap_append,List.filterMap_cons,hb]at hn
 simp only at hn
 intro h4
 have:b∈List.filterMap Ent.block (a++c):=List.mem_filterMap.2 ⟨e2,h2,h4⟩
 rw[List.filterMap_append,List.mem_append]at this
 rw[List.nodup_append]at hn
 rcases this with h5|h5
 ·exact hn.2.2 b h5 b (by simp) rfl
 ·exact(List.nodup_cons.1 hn.2.1).1 h5
def rawsL(sz:Nat):List Value→Nat→List (List AV)
 |_,0=>[]
 |vs,n+1=>(vs.take sz).map .raw::rawsL sz (vs.drop sz) n
theorem rawsL_len(sz:Nat): ∀(n:Nat) (vs:List Value),(rawsL sz vs n).length=n
 |0,_=>rfl
 |n+1,vs=>by rw[rawsL,List.length_cons,rawsL_len sz n]
theorem rawsL_size(sz:Nat): ∀(n:Nat) (vs:List Value),vs.length=n*sz→ ∀x∈rawsL sz vs n,x.length=sz
 |0,_,_,x,hx=>by cases hx
 |n+1,vs,h,x,hx=>by
  rw[Nat.add_mul,Nat.one_mul]at h
  rcases List.mem_cons.1 hx with rfl|hx
  ·simp;omega
  ·exact rawsL_size sz n _ (by rw[List.length_drop];omega) x hx
theorem raws_rel(M:Mem): ∀(vs:List Value),VRels M (vs.map .raw) vs
 |[]=>by simp[VRels]
 |v::vs=>by simp only[List.map_cons,VRels];exact⟨v,vs,rfl,by simp[VRel],raws_rel M vs⟩
theorem rawsL_flat(sz:Nat): ∀(n:Nat) (vs:List Value),vs.length=n*sz→(rawsL sz vs n).flatten=vs.map .raw
 |0,vs,h=>by
  have:vs=[]:=List.eq_nil_of_length_eq_zero (by omega)
  subst this;rfl
 |n+1,vs,h=>by
  rw[Nat.add_mul,Nat.one_mul]at h
  rw[rawsL,List.flatten_cons,rawsL_flat sz n _ (by rw[List.length_drop];omega),←List.map_append,List.take_append_drop]
inductive Opened(m sz:Nat)(F:Value→List (List AV)→List Ent):AV→List Ent→Prop
 |mk (v:Value) (J:List (List AV)) (h:J.length=m):Opened m sz F (.slv v) (F v J)
theorem g_openRow{t e e':TypeId}{sz m:Nat}{x hi:Operand}{v:Value}{L:List (List AV)}{F:Value→List (List AV)→List Ent}{hj:Int}(ht:pP P t=some (e',sz))(hx:xP env x=some (.slv v))(hu: ∀v' J,Upd σ (.row v e sz L) (.row v' e sz (L++J)) (F v' J))(hhi:uR env 0 (some hi)=some hj)(hh:hj=((L.length+m:Nat):Int))(hc:L.length+m≤capS v):
  GOp P ro ⟨dst,.slice t x none (some hi) none,ty,pos,after,guard⟩ env σ (Opened m sz F):=
 wJ (by intro c hc;cases hc) fun X M a w hg ho=>by
  have h1:=ho x (by simp[Op.operands]) _ hx
  simp only[VRel]at h1
  obtain⟨hv,_⟩:=h1
  obtain⟨kk,hkk⟩:=bound_eval ho (by simp[Op.operands]) hhi hh
  obtain⟨hue,inf,hinf,hsz⟩:=vC ht
  obtain⟨xs,hown,hrel,hs⟩:=hg.ent _ (hu v []).mem
  rcases hown.2 with⟨rfl,h0⟩|⟨g,cap,cur,rfl,hb0,hgg,hnc,hcm,hcs,htk⟩
  ·have hL:L=[]:=List.eq_nil_of_length_eq_zero h0
   subst hL
   obtain rfl:m=0:=by simpa [capS,nilS]using hc
   refine⟨M,nilS,w,.slv nilS,F nilS [],Mem.le_refl M,?_,by simp[VRel,Value.isSl],.mk _ [] rfl,.inl ?_⟩
   ·exact hg.upd (hu nilS []) rfl rfl rfl (fun _ _ _=>rfl) (hg.ent _ (hu nilS []).mem) (.inl rfl)
   ·simp at hkk
    simp[execOp,hv,hkk,Instr.sliceAt,Instr.slice,run_underlying hue,Instr.sliceBounds,Sem.run_bind,sizeOf,typeInfo,hinf,hsz,Instr.sliceBound,asIntOf]
  ·simp only[capS]at hc
   have hsp:L.length*sz+m*sz≤cap*sz:=by rw[←Nat.add_mul];exact Nat.mul_le_mul_right _ hc
   obtain⟨ys,hys⟩: ∃ys,ys=(cur.toList.drop (L.length*sz)).take (m*sz):=⟨_,rfl⟩
   have hyl:ys.length=m*sz:=by rw[hys,List.length_take,List.length_drop,Array.length_toList,hcs];omega
   refine⟨M,.slice (some ⟨g,0,none⟩) (L.length+m) cap,w,.slv _,F (.slice (some ⟨g,0,none⟩) (L.length+m) cap) (rawsL sz ys m),Mem.le_refl M,?_,by simp[VRel,Value.isSl],.mk _ _ (rawsL_len sz m ys),.inl ?_⟩
   ·refine hg.upd (hu _ _) rfl rfl rfl (fun _ _ _=>rfl) ?_ (.inl rfl)
    refine⟨xs++ys,?_,?_,fun y hy=>?_⟩
    ·have hl2:(L++rawsL sz ys m).length=L.length+m:=by rw[List.length_append,rawsL_len]
     rw[hl2]
     refine⟨by rw[List.length_append,hown.1,hyl,Nat.add_mul],.inr ⟨g,cap,cur,rfl,hb0,hgg,hc,hcm,hcs,?_⟩⟩
     rw[←htk,hys,Nat.add_mul,List.take_add]
    ·rw[List.flatten_append,rawsL_flat sz m ys hyl]
     exact hrel.append (raws_rel M ys)
    ·rcases List.mem_append.1 hy with hy|hy
     ·exact hs y hy
     ·exact rawsL_size sz m ys hyl y hy
   ·have ha:(⟨g,0,none⟩:Addr).add 0=⟨g,0,none⟩:=by unfold Addr.add;split<;>simp_all
    simp at hkk
    simp[execOp,hv,hkk,Instr.sliceAt,Instr.slice,run_underlying hue,Instr.sliceBounds,Sem.run_bind,sizeOf,typeInfo,hinf,hsz,Instr.sliceBound,asIntOf,hc,ha]
    rw[if_pos ⟨by omega,by omega⟩,show ((L.length:Int)+(m:Int)).toNat=L.length+m by omega]
theorem g_overlaps {f x y:Operand} {ats:Array TypeId} {g:FuncId} {fn:Func} {tS tR e1 e2 e:TypeId} {sz sz2 a0 b0:Nat} {v v2:Value} {L m:List (List AV)} {σ1:List Ent} (hf:xP env f=some (.fn (.func g) [] [])) (hfn:P.funcs[g]?=some fn) (hname:(fn.name== "runtime.NumGoroutine")=false) (hb:fn.body.isNone=true) (hnx:Extern.findNext fn=none)
  (hfd:Extern.find fn=some (Extern.SlicesOverlaps.overlaps #[tS,tS] #[tR])) (ht:pP P tS=some (e,sz)) (hx:xP env x=some (.slv v2)) (hy:xP env y=some (.raw (pA sz v a0 b0))) (hrem:Rem σ (.row v2 e2 sz2 m) σ1) (hm:Ent.row v e1 sz L∈σ1) (hsz:0<sz) (hsz2:0<sz2) (hne:L≠[]):
  GOp P ro ⟨dst,.call {callee:=.value f,args:=#[x,y],argTypes:=ats},ty,pos,after,guard⟩ env σ (Is (.bool false) σ):=
 zA _ (by intro c h;cases h) fun X M a w hg ho=>by
  have h0:=ho f (by simp[Op.operands,Call.operands]) _ hf
  have h1:=ho x (by simp[Op.operands,Call.operands]) _ hx
  have h2:=ho y (by simp[Op.operands,Call.operands]) _ hy
  simp only[VRel]at h0 h1 h2
  obtain⟨ws1,ws2,h0,k1,k2⟩:=h0
  simp only[VRels]at k1 k2
  obtain rfl:ws1=#[]:=by cases ws1;simp at k1;rw[k1]
  obtain rfl:ws2=#[]:=by cases ws2;simp at k2;rw[k2]
  obtain⟨h1,_⟩:=h1
  obtain⟨hue,inf,hinf,hsi⟩:=vC ht
  obtain⟨xs2,hown2,hr2,hsl2⟩:=hg.ent _ hrem.mem
  obtain⟨xs,hown,hr,hsl⟩:=hg.ent _ (hrem.sub.subset hm)
  have hz: ∀w,(Go.sizeOf e).run P w=.ok sz w:=fun w=>by simp[Go.sizeOf,typeInfo,hinf,hsi]
  refine⟨.bool false,by simp[VRel],?_⟩
  rcases hown.2 with⟨rfl,hn0⟩|⟨gb,cap,cur,rfl,hbg,hgg,hnc,hcmx,hcs,htk⟩
  ·exact absurd (List.eq_nil_of_length_eq_zero hn0) hne
  ·have hL0:0<L.length:=by cases L with|nil=>exact absurd rfl hne|cons=>simp
   have hy2: ∃off,pA sz (.slice (some ⟨gb,0,none⟩) L.length cap) a0 b0=.slice (some ⟨gb,off,none⟩) (b0-a0) (cap-a0):=by
    unfold pA
    by_cases hc:cap=a0
    ·exact⟨0,by simp[hc]⟩
    ·exact⟨a0*sz,by simp[hc,Addr.add_lit]⟩
   obtain⟨off,hy2⟩:=hy2
   rw[hy2]at h2
   have hov:(Extern.SlicesOverlaps.overlaps #[tS,tS] #[tR] #[v2,.slice (some ⟨gb,off,none⟩) (b0-a0) (cap-a0)]).run P w=.ok (.bool false) w:=by
    rcases hown2.2 with⟨rfl,hn2⟩|⟨g2,cap2,cur2,rfl,hbg2,hgg2,hnc2,hcmx2,hcs2,htk2⟩
    ·change Sem.run P (α:=Value) (do
      let some t:=(#[tS,tS]:Array TypeId)[0]?|stuck "slices.overlaps: no parameter types"
      let .slice elem←underlying t|stuck "slices.overlaps: slice type expected"
      let size←sizeOf elem
      pure (Value.bool false)) w=_
     simp[run_underlying hue,hz]
    ·have hap:g2≠gb:=fun e=>(rem_apart hg hrem hm (b:=g2) (by simp[Ent.block,Value.ownBlock])) (by simp[Ent.block,Value.ownBlock,e])
     refine Lib.run_overlaps_apart w tS tR e hue sz hz ⟨g2,0,none⟩ ⟨gb,off,none⟩ m.length cap2 _ _ hap e2 e1 (cap2*sz2) (cap*sz) ?_ ?_ ?_ ?_ ?_
     ·simp[World.shape?,hgg2,hcs2]
     ·simp[World.shape?,hgg,hcs]
     ·have:=Nat.mul_pos (show 0<cap by omega) hsz;omega
     ·simp[World.frozen?,hgg2]
     ·simp[World.frozen?,hgg2]
   have hrun:=run_callFunc_extern (P:=P) hfn hname hb hnx hfd #[v2,.slice (some ⟨gb,off,none⟩) (b0-a0) (cap-a0)] w
   rw[hov]at hrun
   simp[execOp,resolve,invoke,Sem.run_bind,Deferred.ofValue,h0,h1,h2,hrun]
end
section
variable {P:Program} {ro:Option Nat} {env:Env} {σ:List Ent} {o:Oper} {dst:Option Tmp} {ty:TypeId} {pos:String} {after:Array Edge} {guard:Option (Nat×Bool)}
theorem VRel.untight{M:Mem}{sz:Nat}{l:List (List AV)}{u:Value}(h:VRel M (.dlt sz l) u):VRel M (.dl sz l) u:=by
 simp only[VRel]at *
 obtain⟨a,h1,h2,h3,h4⟩:=h
 exact⟨a,l.length,h1,Nat.le_refl _,h2,h3,h4⟩
theorem g_slice3{t e:TypeId}{sz k:Nat}{x hi mx:Operand}{L:List (List AV)}{hj mj:Int}(ht:pP P t=some (e,sz))(hx:xP env x=some (.dl sz L))(hhi:uR env 0 (some hi)=some hj)(hmx:uR env 0 (some mx)=some mj)(hh:hj=(k:Int))(hm:mj=(k:Int))(hk:k≤L.length):
  GOp P ro ⟨dst,.slice t x none (some hi) (some mx),ty,pos,after,guard⟩ env σ (Is (.dlt sz (L.take k)) σ):=
 zA _ (by intro c hc;cases hc) fun X M a w hg ho=>by
  have h1:=ho x (by simp[Op.operands]) _ hx
  simp only[VRel]at h1
  obtain⟨ad,cap,hv,h2,h3,h4,h5⟩:=h1
  obtain⟨kk,hkk⟩:=bound_eval ho (by simp[Op.operands]) hhi hh
  obtain⟨km,hkm⟩:=bound_eval ho (by simp[Op.operands]) hmx hm
  obtain⟨hue,inf,hinf,hsz⟩:=vC ht
  have hlen:(L.take k).length=k:=by rw[List.length_take];omega
  have hkc:k≤cap:=by omega
  refine⟨.slice (if k=0 then ad else ad.map (·.add (0*sz))) k k,?_,?_⟩
  ·simp only[VRel]
   refine⟨_,by rw[hlen],by omega,fun y hy=>h4 y (List.mem_of_mem_take hy),?_⟩
   by_cases h0:k=0
   ·left;subst h0;rfl
   ·rcases h5 with rfl|⟨b,off,rfl,hr⟩
    ·left;simp
    ·right
     refine⟨b,off,?_,RRel.take k hr⟩
     rw[if_neg h0];simp only[Option.map_some,Option.some.injEq];unfold Addr.add;split<;>simp_all
  ·simp[execOp,hv,hkk,hkm,Instr.sliceAt,Instr.slice,run_underlying hue,Instr.sliceBounds,Sem.run_bind,sizeOf,typeInfo,hinf,hsz,Instr.sliceBound,asIntOf,hkc]
theorem run_append_zero{w:World}(t ty' e:TypeId)(i:TypeInfo)(ht:P.underlying t=some (.slice e))(hi:P.info? e=some i)(ad sa:Option Addr)(n c:Nat)(hn:ad=none→n=0):
  (Builtin.append_ #[t,t] ty' #[.slice ad n n,.slice sa 0 c]).run P w=.ok (.slice ad n n) w:=by
 have hld: ∀(q:Addr),(loadCells q 0).run P w=.ok #[] w:=fun q=>by simpa using run_loadCells_list (P:=P) w q [] (by simp)
 cases ad with
 |none=>
  have:=hn rfl;subst this
  cases sa<;>simp[Builtin.append_,run_underlying ht,sizeOf,typeInfo,hi,Builtin.lenOf,Builtin.firstCells,storeCells,hld]
 |some ad=>cases sa<;>simp[Builtin.append_,run_underlying ht,sizeOf,typeInfo,hi,Builtin.lenOf,Builtin.firstCells,storeCells,hld]
theorem g_appendT{t e:TypeId}{sz bytes:Nat}{s x:Operand}{xv:AV}{L m:List (List AV)}(ht:appOf P t=some (e,sz,bytes))(hs:xP env s=some (.dlt sz L))(hx:xP env x=some xv)
  (hsrc:SrcC σ sz xv m) (hm0:m≠[]) (hb:(L.length+m.length)*bytes≤140737488355328):
  GOp P ro ⟨dst,.call {callee:=.builtin .append,args:=#[s,x],argTypes:=#[t,t]},ty,pos,after,guard⟩ env σ (Rowed e sz (L++m) σ):=
 wJ (by intro c h;cases h) fun X M a w hg ho=>by
  have h1:=ho s (by simp[Op.operands,Call.operands]) _ hs
  have h2:=ho x (by simp[Op.operands,Call.operands]) _ hx
  obtain⟨la,lcap,hlv,ls,l1,l2,l3,l4,l5⟩:=src_vals hg (.d (σ:=σ)) h1.untight
  simp only[VRel]at h1
  obtain⟨la',hlv',hlm,_,_⟩:=h1
  rw[hlv']at hlv
  cases hlv
  obtain⟨hue,i,z,hi,hz,hsz,hby,hzl,h0,hb0⟩:=qP ht
  obtain⟨sa,scap,hsv,vs,hv1,hv2,hv3,hv4,hv5⟩:=srcC_vals hg hsrc h2
  have hmp:0<m.length:=List.length_pos_iff.2 hm0
  cases sa with
  |none=>exact absurd (hv4 rfl) hm0
  |some ad=>
   have h63:L.length+m.length≤maxLen:=by
    have:=Nat.le_mul_of_pos_right (L.length+m.length) hb0
    unfold maxLen;omega
   have hsm:L.length+m.length≤9223372036854775807:=by unfold maxLen at h63;omega
   have hon:(ls.toArray++vs.toArray).size=(L.length+m.length)*sz:=by
    rw[Array.size_append,List.size_toArray,List.size_toArray,l2,hv2,Nat.add_mul]
   have hzc: ∀q,(Builtin.zeroCells z.cells q).size=q*sz:=fun q=>by simp[Builtin.zeroCells,hzl]
   have hge:=grownCap_ge w (L.length+m.length) L.length e
   have hcm:grownCap w (L.length+m.length) L.length e≤maxLen:=grownCap_le_maxLen w (L.length+m.length) L.length e h63
   have hll:(L++m).length=L.length+m.length:=List.length_append
   have hgd:=alloc_row hg.drew (ls.toArray++vs.toArray++Builtin.zeroCells z.cells (grownCap w (L.length+m.length) L.length e-(L.length+m.length))) e sz (l:=L++m) (cap:=grownCap w (L.length+m.length) L.length e) (by rw[hll];exact hge) hcm (by rw[Array.size_append,hon,hzc,←Nat.add_mul];congr 1;omega) (fun y hy=>by
    rcases List.mem_append.1 hy with hy|hy
    ·exact l3 y hy
    ·exact hv3 y hy) (by
    rw[hll,Array.toList_append,List.take_left' (by rw[Array.length_toList];exact hon),List.flatten_append]
    have:=l1.append hv1
    simpa using this)
   rw[hll]at hgd
   have hrun:(Builtin.append_ #[t,t] ty #[a.eval s,.slice (some ad) m.length scap]).run P w=.ok (.slice (some ⟨w.heap.size,0,none⟩) (L.length+m.length) (grownCap w (L.length+m.length) L.length e)) (w.drew.alloc (.cells (ls.toArray++vs.toArray++Builtin.zeroCells z.cells (grownCap w (L.length+m.length) L.length e-(L.length+m.length))) e)):=by
    rw[hlv']
    cases la with
    |none=>
     have hL:=l4 rfl
     subst hL
     obtain rfl:ls=[]:=List.eq_nil_of_length_eq_zero (by simpa using l2)
     have:=run_append_nil (P:=P) (w:=w) t ty e i z hue hi hz ad m.length scap vs (by rw[hv2,hsz]) (hv5 ad rfl) hmp (by simp at hsm;omega) (by rw[hby];simp at hb;omega)
     simpa using this
    |some lb=>
     exact run_append_grow (P:=P) w t ty e i z hue hi hz lb L.length L.length ls (by rw[l2,hsz]) (l5 lb rfl) ad m.length scap vs (by rw[hv2,hsz]) (hv5 ad rfl) (by omega) (by omega) (growslice_fits (by omega) (by rw[hby];exact hb))
   refine⟨M,.slice (some ⟨w.heap.size,0,none⟩) (L.length+m.length) (grownCap w (L.length+m.length) L.length e),_,.slv _,_,Mem.le_refl M,hgd,by simp[VRel,Value.isSl],.mk _,.inl ?_⟩
   simp only[execOp,resolve,invoke,builtin,Sem.run_bind,Sem.run_pure,Result.andThen_ok,List.map_toArray,List.map_cons,List.map_nil,hsv,hrun]
   rfl
theorem g_appendTS{t e:TypeId}{sz bytes:Nat}{s x:Operand}{xv:AV}{L m:List (List AV)}(ht:appOf P t=some (e,sz,bytes))(hs:xP env s=some (.dlt sz L))(hx:xP env x=some xv)
  (hsrc:SrcC σ sz xv m) (hb:(L.length+m.length)*bytes≤140737488355328):
  GOp P ro ⟨dst,.call {callee:=.builtin .append,args:=#[s,x],argTypes:=#[t,t]},ty,pos,after,guard⟩ env σ (Is (.dl sz (L++m)) σ):=by
 by_cases hm0:m=[]
 ·subst hm0
  refine zA _ (by intro c h;cases h) fun X M a w hg ho=>?_
  have h1:=ho s (by simp[Op.operands,Call.operands]) _ hs
  have h2:=ho x (by simp[Op.operands,Call.operands]) _ hx
  have h1':=h1.untight
  obtain⟨sa,scap,hsv,vs,hv1,hv2,hv3,hv4,hv5⟩:=srcC_vals hg hsrc h2
  simp only[VRel]at h1
  obtain⟨la',hlv',hlm,_,hd⟩:=h1
  obtain⟨hue,i,z,hi,hz,hsz,hby,hzl,h0,hb0⟩:=qP ht
  refine⟨a.eval s,by rw[List.append_nil];exact h1',?_⟩
  have hn:la'=none→L.length=0:=fun e=>by
   rcases hd with rfl|⟨b,off,h,_⟩
   ·rfl
   ·rw[e]at h;cases h
  have hrun:=run_append_zero (P:=P) (w:=w) t ty e i hue hi la' sa L.length scap hn
  simp only[List.length_nil]at hsv
  simp only[execOp,resolve,invoke,builtin,Sem.run_bind,Sem.run_pure,Result.andThen_ok,List.map_toArray,List.map_cons,List.map_nil,hsv,hlv',hrun]
 ·exact vF (g_appendT ht hs hx hsrc hm0 hb)
end
end Go.Proofs.YtaoaafdommlhcaaGreat

/- Parts of the proof that belong together: Sa Sb. -/
import Derived.Test.YtaoaafdommlhcaaGreatHA01
import Derived.TacticsIn
import Derived.RangeFuncRecord
import Derived.RangeFuncLeaves
import Derived.Laws.AppendOwn
import Derived.Below
import Derived.KernelRfl
import Derived.Deep.LoopGhost
set_option maxRecDepth 10000
set_option linter.unusedSimpArgs false
set_option linter.unusedVariables false
set_option autoImplicit false
open Go.Proofs.Tryz
namespace Go.Proofs.YtaoaafdommlhcaaGreat
abbrev Mem:=Nat→Option Obj
def Mem.le(M M':Mem):Prop:= ∀b o,M b=some o→M' b=some o
theorem Mem.le_refl(M:Mem):M.le M:=fun _ _ h=>h
theorem Mem.le_trans{A B C:Mem}(h:A.le B)(k:B.le C):A.le C:=fun b o ho=>k b o (h b o ho)
def Mem.cell(M:Mem)(b i:Nat):Option Value:=match M b with|some (.cells c _ _)=>c[i]?|_=>none
theorem Mem.cell_mono{M M':Mem}(h:M.le M'){b i:Nat}{v:Value}(hc:M.cell b i=some v):M'.cell b i=some v:=by
 unfold Mem.cell at *
 cases ho:M b with
 |none=>rw[ho]at hc;cases hc
 |some o=>rw[ho]at hc;rw[h b o ho];exact hc
inductive AV where
 |int (k:IntKind) (n:Int)
 |bool (b:Bool)
 |str (s:ByteArray)
 |agg (l:List AV)
 |tup (l:List AV)
 |dl (sz:Nat) (l:List (List AV))
 |dlt (sz:Nat) (l:List (List AV))
 |ptr (b o:Nat)
 |eptr (l:List AV) (o:Nat)
 |slv (v:Value)
 |rptr (v:Value) (i:Nat)
 |fn (f:Fn) (first cap:List AV)
 |mp (b:Nat)
 |raw (v:Value)
 deriving Inhabited
abbrev nilS:Value:=.slice none 0 0
def _root_.Go.Value.isSl:Value→Bool
 |.slice _ _ _=>true
 |_=>false
mutual
/-- What an abstract value stands for. -/
def VRel(M:Mem):AV→Value→Prop
 |.int k n,v=>v=.int k n
 |.bool b,v=>v=.bool b
 |.str s,v=>v=.string s
 |.agg l,v=> ∃vs,v=.agg vs∧VRels M l vs.toList
 |.tup l,v=> ∃vs,v=.tuple vs∧VRels M l vs.toList
 |.dl sz l,v=> ∃a cap,v=.slice a l.length cap∧l.length≤cap∧cap≤maxLen∧(∀x∈l,x.length=sz)∧(l=[]∨ ∃b off,a=some ⟨b,off,none⟩∧RRel M b off l)
 |.dlt sz l,v=> ∃a,v=.slice a l.length l.length∧l.length≤maxLen∧(∀x∈l,x.length=sz)∧(l=[]∨ ∃b off,a=some ⟨b,off,none⟩∧RRel M b off l)
 |.ptr b o,v=>v=.pointer (some ⟨b,o,none⟩)
 |.eptr l o,v=> ∃b base,v=.pointer (some ⟨b,base+o,none⟩)∧CRel M b base l
 |.slv u,v=>v=u∧u.isSl=true
 |.rptr u i,v=> ∃b n cap,u=.slice (some ⟨b,0,none⟩) n cap∧v=.pointer (some ⟨b,i,none⟩)
 |.fn f a c,v=> ∃vs ws,v=.func f vs ws∧VRels M a vs.toList∧VRels M c ws.toList
 |.mp b,v=>v=.map (some b)
 |.raw u,v=>v=u
def VRels(M:Mem):List AV→List Value→Prop
 |[],vs=>vs=[]
 |x::l,vs=> ∃v r,vs=v::r∧VRel M x v∧VRels M l r
/-- Cells that lie in a row. -/
def CRel(M:Mem)(b:Nat):Nat→List AV→Prop
 |_,[]=>True
 |i,x::l=>(∃v,M.cell b i=some v∧VRel M x v)∧CRel M b (i+1) l
def RRel(M:Mem)(b:Nat):Nat→List (List AV)→Prop
 |_,[]=>True
 |i,x::l=>CRel M b i x∧RRel M b (i+x.length) l
end
mutual
theorem VRel.mono{M M':Mem}(h:M.le M'): ∀(x:AV) (v:Value),VRel M x v→VRel M' x v
 |.int k n,v,hv=>by simpa [VRel]using hv
 |.bool b,v,hv=>by simpa [VRel]using hv
 |.str s,v,hv=>by simpa [VRel]using hv
 |.agg l,v,hv=>by simp only[VRel]at *;obtain⟨vs,e,k⟩:=hv;exact⟨vs,e,VRels.mono h l _ k⟩
 |.tup l,v,hv=>by simp only[VRel]at *;obtain⟨vs,e,k⟩:=hv;exact⟨vs,e,VRels.mono h l _ k⟩
 |.dl sz l,v,hv=>by
  simp only[VRel]at *
  obtain⟨a,cap,e,h1,h2,h3,k⟩:=hv
  refine⟨a,cap,e,h1,h2,h3,?_⟩
  rcases k with k|⟨b,off,e2,k⟩
  ·exact .inl k
  ·exact .inr ⟨b,off,e2,RRel.mono h l b off k⟩
 |.dlt sz l,v,hv=>by
  simp only[VRel]at *
  obtain⟨a,e,h1,h3,k⟩:=hv
  refine⟨a,e,h1,h3,?_⟩
  rcases k with k|⟨b,off,e2,k⟩
  ·exact .inl k
  ·exact .inr ⟨b,off,e2,RRel.mono h l b off k⟩
 |.ptr b o,v,hv=>by simpa [VRel]using hv
 |.eptr l o,v,hv=>by simp only[VRel]at *;obtain⟨b,base,e,k⟩:=hv;exact⟨b,base,e,CRel.mono h l b base k⟩
 |.slv u,v,hv=>by simpa [VRel]using hv
 |.rptr u i,v,hv=>by simpa [VRel]using hv
 |.fn f a c,v,hv=>by simp only[VRel]at *;obtain⟨vs,ws,e,k1,k2⟩:=hv;exact⟨vs,ws,e,VRels.mono h a _ k1,VRels.mono h c _ k2⟩
 |.mp b,v,hv=>by simpa [VRel]using hv
 |.raw u,v,hv=>by simpa [VRel]using hv
theorem VRels.mono{M M':Mem}(h:M.le M'): ∀(l:List AV) (vs:List Value),VRels M l vs→VRels M' l vs
 |[],vs,hv=>by simpa [VRels]using hv
 |x::l,vs,hv=>by simp only[VRels]at *;obtain⟨v,r,e,k1,k2⟩:=hv;exact⟨v,r,e,VRel.mono h x v k1,VRels.mono h l r k2⟩
theorem CRel.mono{M M':Mem}(h:M.le M'): ∀(l:List AV) (b i:Nat),CRel M b i l→CRel M' b i l
 |[],_,_,_=>by simp[CRel]
 |x::l,b,i,hv=>by simp only[CRel]at *;obtain⟨⟨v,h1,h2⟩,k⟩:=hv;exact⟨⟨v,Mem.cell_mono h h1,VRel.mono h x v h2⟩,CRel.mono h l b (i+1) k⟩
theorem RRel.mono{M M':Mem}(h:M.le M'): ∀(l:List (List AV)) (b i:Nat),RRel M b i l→RRel M' b i l
 |[],_,_,_=>by simp[RRel]
 |x::l,b,i,hv=>by simp only[RRel]at *;exact⟨CRel.mono h x b i hv.1,RRel.mono h l b (i+x.length) hv.2⟩
end
theorem VRels.length{M:Mem}: ∀{l:List AV} {vs:List Value},VRels M l vs→vs.length=l.length
 |[],vs,h=>by simp only[VRels]at h;simp[h]
 |x::l,vs,h=>by simp only[VRels]at h;obtain⟨v,r,rfl,_,k⟩:=h;simp[VRels.length k]
theorem VRels.get{M:Mem}: ∀{l:List AV} {vs:List Value} {i:Nat} {x:AV},VRels M l vs→l[i]?=some x→ ∃v,vs[i]?=some v∧VRel M x v
 |[],_,i,x,_,h=>by simp at h
 |y::l,vs,i,x,hv,h=>by
  simp only[VRels]at hv
  obtain⟨v,r,rfl,k1,k2⟩:=hv
  cases i with
  |zero=>simp at h;subst h;exact⟨v,rfl,k1⟩
  |succ i=>simp at h;simpa using VRels.get k2 h
theorem VRels.of_get{M:Mem}: ∀{l:List AV} {vs:List Value},vs.length=l.length→(∀(i:Nat) (x:AV) (v:Value),l[i]?=some x→vs[i]?=some v→VRel M x v)→VRels M l vs
 |[],vs,hl,_=>by simp only[VRels];exact List.eq_nil_of_length_eq_zero (by simpa using hl)
 |y::l,[],hl,_=>by simp at hl
 |y::l,v::r,hl,h=>by
  simp only[VRels]
  exact⟨v,r,rfl,h 0 y v rfl rfl,VRels.of_get (by simpa using hl) (fun i x v h1 h2=>h (i+1) x v (by simpa using h1) (by simpa using h2))⟩
theorem VRels.append{M:Mem}{l l':List AV}{vs vs':List Value}(h:VRels M l vs)(h':VRels M l' vs'):VRels M (l++l') (vs++vs'):=by
 have e1:=h.length
 have e2:=h'.length
 refine VRels.of_get (by simp[e1,e2]) (fun i x v h1 h2=>?_)
 by_cases hi:i<l.length
 ·rw[List.getElem?_append_left hi]at h1
  rw[List.getElem?_append_left (by omega)]at h2
  obtain⟨v',e,k⟩:=h.get h1
  rw[h2]at e;cases e;exact k
 ·rw[List.getElem?_append_right (by omega)]at h1
  rw[List.getElem?_append_right (by omega)]at h2
  obtain⟨v',e,k⟩:=h'.get h1
  rw[e1,e]at h2;cases h2;exact k
theorem VRels.take{M:Mem}{l:List AV}{vs:List Value}(h:VRels M l vs)(n:Nat):VRels M (l.take n) (vs.take n):=by
 have e1:=h.length
 refine VRels.of_get (by simp[e1]) (fun i x v h1 h2=>?_)
 rw[List.getElem?_take]at h1 h2
 split at h1
 ·rename_i hi
  rw[if_pos hi]at h2
  obtain⟨v',e,k⟩:=h.get h1
  rw[h2]at e;cases e;exact k
 ·cases h1
theorem VRels.drop{M:Mem}{l:List AV}{vs:List Value}(h:VRels M l vs)(n:Nat):VRels M (l.drop n) (vs.drop n):=by
 have e1:=h.length
 refine VRels.of_get (by simp[e1]) (fun i x v h1 h2=>?_)
 rw[List.getElem?_drop]at h1 h2
 obtain⟨v',e,k⟩:=h.get h1
 rw[h2]at e;cases e;exact k
theorem VRels.set{M:Mem}{l:List AV}{vs:List Value}(h:VRels M l vs)(n:Nat){x:AV}{v:Value}(hx:VRel M x v):VRels M (l.set n x) (vs.set n v):=by
 have e1:=h.length
 refine VRels.of_get (by simp[e1]) (fun i y u h1 h2=>?_)
 rw[List.getElem?_set]at h1 h2
 by_cases e:n=i
 ·subst e
  rw[if_pos rfl]at h1 h2
  split at h1<;>split at h2<;>simp_all
 ·rw[if_neg e]at h1 h2
  obtain⟨v',e,k⟩:=h.get h1
  rw[h2]at e;cases e;exact k
theorem CRel.get{M:Mem}{b:Nat}: ∀{l:List AV} {i j:Nat} {x:AV},CRel M b i l→l[j]?=some x→ ∃v,M.cell b (i+j)=some v∧VRel M x v
 |[],_,_,_,_,h=>by simp at h
 |y::l,i,j,x,hc,h=>by
  simp only[CRel]at hc
  cases j with
  |zero=>simp at h;subst h;exact hc.1
  |succ j=>simp at h;have:=CRel.get hc.2 h;rwa [show i+1+j=i+(j+1) by omega]at this
theorem RRel.get{M:Mem}{b sz:Nat}: ∀{l:List (List AV)} {i k:Nat} {x:List AV},(∀x∈l,x.length=sz)→RRel M b i l→l[k]?=some x→CRel M b (i+k*sz) x
 |[],_,_,_,_,_,h=>by simp at h
 |y::l,i,k,x,hs,hc,h=>by
  simp only[RRel]at hc
  cases k with
  |zero=>simp at h;subst h;simpa using hc.1
  |succ k=>
   simp at h
   have:=RRel.get (fun x hx=>hs x (by simp[hx])) hc.2 h
   rw[hs y (by simp)]at this
   rwa [show i+sz+k*sz=i+(k+1)*sz by rw[Nat.add_mul];omega]at this
theorem RRel.drop{M:Mem}{b sz:Nat}: ∀{l:List (List AV)} {i:Nat} (k:Nat),(∀x∈l,x.length=sz)→RRel M b i l→RRel M b (i+k*sz) (l.drop k)
 |[],_,k,_,_=>by simp[RRel]
 |y::l,i,0,_,h=>by simpa using h
 |y::l,i,k+1,hs,h=>by
  simp only[RRel]at h
  have:=RRel.drop k (fun x hx=>hs x (by simp[hx])) h.2
  rw[hs y (by simp)]at this
  rw[show i+(k+1)*sz=i+sz+k*sz by rw[Nat.add_mul];omega]
  simpa using this
theorem RRel.take{M:Mem}{b:Nat}: ∀{l:List (List AV)} {i:Nat} (k:Nat),RRel M b i l→RRel M b i (l.take k)
 |[],_,k,_=>by simp[RRel]
 |y::l,i,0,_=>by simp[RRel]
 |y::l,i,k+1,h=>by simp only[List.take_succ_cons,RRel]at *;exact⟨h.1,RRel.take k h.2⟩
theorem CRel.of_cells{M:Mem}{b:Nat}: ∀{l:List AV} {vs:List Value} {i:Nat},VRels M l vs→(∀j v,vs[j]?=some v→M.cell b (i+j)=some v)→CRel M b i l
 |[],_,_,_,_=>by simp[CRel]
 |x::l,vs,i,h,hc=>by
  simp only[VRels]at h
  obtain⟨v,r,rfl,k1,k2⟩:=h
  simp only[CRel]
  exact⟨⟨v,by simpa using hc 0 v rfl,k1⟩,CRel.of_cells k2 (fun j u hu=>by have:=hc (j+1) u (by simpa using hu);rwa [show i+(j+1)=i+1+j by omega]at this)⟩
theorem RRel.of_cells{M:Mem}{b:Nat}: ∀{l:List (List AV)} {vs:List Value} {i:Nat},VRels M l.flatten vs→(∀j v,vs[j]?=some v→M.cell b (i+j)=some v)→RRel M b i l
 |[],_,_,_,_=>by simp[RRel]
 |x::l,vs,i,h,hc=>by
  simp only[List.flatten_cons]at h
  have e:=h.length
  simp at e
  have h1:=h.take x.length
  have h2:=h.drop x.length
  rw[List.take_left]at h1
  rw[List.drop_left]at h2
  simp only[RRel]
  exact⟨CRel.of_cells h1 (fun j v hv=>by rw[List.getElem?_take]at hv;split at hv;exact hc j v hv;cases hv),RRel.of_cells h2 (fun j v hv=>by rw[List.getElem?_drop]at hv;have:=hc _ v hv;rwa [←Nat.add_assoc]at this)⟩
def AV.one:AV→Bool
 |.agg _=>false
 |.tup _=>false
 |.raw v=>v.oneCell'
 |_=>true
theorem VRel.one{M:Mem}{x:AV}{v:Value}(h:VRel M x v)(ho:x.one=true):v.oneCell'=true:=by
 cases x<;>simp only[VRel,AV.one]at * <;>first
  |(obtain⟨rfl,h⟩:=h;cases v<;>first|rfl|cases h)
  |(subst h;first|rfl|exact ho)
  |(obtain⟨a,rfl,_⟩:=h;rfl)
  |(obtain⟨a,b,rfl,_⟩:=h;rfl)
  |(obtain⟨a,b,c,_,rfl⟩:=h;rfl)
  |cases ho
abbrev Env:=List (Nat×AV)
def lk:Env→Nat→Option AV
 |[],_=>none
 |(t,v)::r,u=>match Nat.beq t u with|true=>some v|false=>lk r u
theorem uU(t:Nat)(v:AV)(r:Env):lk ((t,v)::r) t=some v:=by simp[lk]
theorem qR{t u:Nat}(h:t≠u)(v:AV)(r:Env):lk ((t,v)::r) u=lk r u:=by
 have:Nat.beq t u=false:=by cases hb:Nat.beq t u with
  |false=>rfl
  |true=>exact absurd (Nat.eq_of_beq_eq_true hb) h
 simp[lk,this]
def EnvRel(M:Mem)(env:Env)(tmps:Array Value):Prop:= ∀t v,lk env t=some v→ ∃u,tmps[t]?=some u∧VRel M v u
theorem EnvRel.mono{M M':Mem}(h:M.le M'){env:Env}{tmps:Array Value}(he:EnvRel M env tmps):EnvRel M' env tmps:=
 fun t v hv=>let ⟨u,h1,h2⟩:=he t v hv;⟨u,h1,VRel.mono h _ _ h2⟩
inductive Ent where
 |cells (b:Nat) (l:List AV) (t:TypeId)
 |row (v:Value) (e:TypeId) (sz:Nat) (l:List (List AV))
 |obj (b:Nat) (o:Obj)
 |imap (b:Nat) (f:Int→Option AV) (n:Nat)
 |kmap (b:Nat) (sh:List Bool) (f:List KL→Option KL) (n:Nat)
 |loop (b:Nat) (st:LoopState) (pe:Option Code) (fn:FuncId) (env:Env) (n:Nat) (ps:Array Tmp) (asg body:Code) (D:Nat)
 |glob (b:Nat) (l:List AV)
def Ent.at(M:Mem)(w:World):Ent→Prop
 |.cells b l t=> ∃c,w.heap[b]?=some (.cells c t (0,0))∧VRels M l c.toList
 |.row v e sz l=> ∃xs,w.ownsRow 0 e sz v l.length xs∧VRels M l.flatten xs∧(∀x∈l,x.length=sz)
 |.obj b o=>w.heap[b]?=some o
 |.imap b f n=> ∃g,MapN w b g n∧ ∀k,match f k,g k with
  |some x,some v=>VRel M x v
  |none,none=>True
  |_,_=>False
 |.kmap b sh f n=> ∃es clock,w.heap[b]?=some (.map es clock)∧MK es clock sh f n
 |.loop b st pe fn env n ps asg body D=> ∃tmps,tmps.size=n∧EnvRel M env tmps∧w.heap[b]?=some (.loop {state:=st,pending:=pe,fn:=fn,tmps:=tmps,params:=ps,assign:=asg,body:=body,defers:=D})
 |.glob b l=>CRel M b 0 l
def Ent.block:Ent→Option Nat
 |.cells b _ _=>some b
 |.row v _ _ _=>v.ownBlock
 |.obj b _=>some b
 |.imap b _ _=>some b
 |.kmap b _ _ _=>some b
 |.loop b _ _ _ _ _ _ _ _ _=>some b
 |.glob _ _=>none
structure Fx where
 w0:World
 fr:Mem
 dt:List Deferred:=[]
structure Good(X:Fx)(M:Mem)(σ:List Ent)(w:World):Prop where
 os:w.os=X.w0.os
 tape:w.tape=X.w0.tape
 output:w.output=X.w0.output
 mem: ∀b o,M b=some o→w.heap[b]?=some o
 frm: ∀b o,X.fr b=some o→w.heap[b]?=some o
 dis: ∀b o,M b=some o→X.fr b=none
 ent: ∀e∈σ,e.at M w
 own: ∀e∈σ,∀b,e.block=some b→M b=none∧X.fr b=none
 nod:(σ.filterMap Ent.block).Nodup
theorem Good.dt{X:Fx}{M:Mem}{σ:List Ent}{w:World}(h:Good X M σ w)(d:List Deferred):Good {X with dt:=d} M σ w:=⟨h.os,h.tape,h.output,h.mem,h.frm,h.dis,h.ent,h.own,h.nod⟩
theorem Good.undt{X:Fx}{M:Mem}{σ:List Ent}{w:World}{d:List Deferred}(h:Good {X with dt:=d} M σ w):Good X M σ w:=⟨h.os,h.tape,h.output,h.mem,h.frm,h.dis,h.ent,h.own,h.nod⟩
theorem Ent.at.mono{M M':Mem}(h:M.le M'){w:World}: ∀{e:Ent},e.at M w→e.at M' w
 |.cells b l t,⟨c,h1,h2⟩=>⟨c,h1,VRels.mono h _ _ h2⟩
 |.row v e sz l,⟨xs,h1,h2,h3⟩=>⟨xs,h1,VRels.mono h _ _ h2,h3⟩
 |.obj b o,h'=>h'
 |.imap b f n,⟨g,h1,h2⟩=>⟨g,h1,fun k=>by
  have:=h2 k
  cases hf:f k<;>cases hg:g k<;>simp only[hf,hg]at this ⊢
  exact VRel.mono h _ _ this⟩
 |.kmap b sh f n,h'=>h'
 |.loop b st pe fn env n ps asg body D,⟨tmps,h1,h2,h3⟩=>⟨tmps,h1,h2.mono h,h3⟩
 |.glob b l,h'=>CRel.mono h l b 0 h'
theorem Ent.at.same{M:Mem}{w w':World}: ∀{e:Ent},(∀b,e.block=some b→w'.heap[b]?=w.heap[b]?)→e.at M w→e.at M w'
 |.cells b l t,hb,⟨c,h1,h2⟩=>⟨c,(hb b rfl).trans h1,h2⟩
 |.row v e sz l,hb,⟨xs,h1,h2,h3⟩=>by
  refine⟨xs,⟨h1.1,?_⟩,h2,h3⟩
  rcases h1.2 with hn|⟨g,cap,cur,rfl,hb',hg,rest⟩
  ·exact .inl hn
  ·exact .inr ⟨g,cap,cur,rfl,hb',(hb g rfl).trans hg,rest⟩
 |.obj b o,hb,h'=>(hb b rfl).trans h'
 |.imap b f n,hb,⟨g,h1,h2⟩=>⟨g,h1.of_block (hb b rfl),h2⟩
 |.kmap b sh f n,hb,⟨es,clock,h1,h2⟩=>⟨es,clock,(hb b rfl).trans h1,h2⟩
 |.loop b st pe fn env n ps asg body D,hb,⟨tmps,h1,h2,h3⟩=>⟨tmps,h1,h2,(hb b rfl).trans h3⟩
 |.glob b l,_,h'=>h'
theorem Ent.block_lt{M:Mem}{w:World}: ∀{e:Ent} {b:Nat},e.at M w→e.block=some b→b<w.heap.size
 |.cells b l t,b',⟨c,h1,_⟩,hb=>by cases hb;exact(Array.getElem?_eq_some_iff.1 h1).1
 |.row v e sz l,b',⟨xs,h1,_⟩,hb=>(h1.lt b' hb).2
 |.obj b o,b',h',hb=>by cases hb;exact(Array.getElem?_eq_some_iff.1 h').1
 |.imap b f n,b',⟨g,h1,h2⟩,hb=>by cases hb;exact h1.lt
 |.kmap b sh f n,b',⟨es,clock,h1,h2⟩,hb=>by cases hb;exact(Array.getElem?_eq_some_iff.1 h1).1
 |.loop b st pe fn env n ps asg body D,b',⟨tmps,h1,h2,h3⟩,hb=>by cases hb;exact(Array.getElem?_eq_some_iff.1 h3).1
theorem Good.sub{X:Fx}{M:Mem}{σ σ':List Ent}{w:World}(h:Good X M σ w)(hs:σ'.Sublist σ):Good X M σ' w:=
 ⟨h.os,h.tape,h.output,h.mem,h.frm,h.dis,fun e he=>h.ent e (hs.subset he),fun e he=>h.own e (hs.subset he),(hs.filterMap _).nodup h.nod⟩
theorem Good.drew{X:Fx}{M:Mem}{σ:List Ent}{w:World}(h:Good X M σ w):Good X M σ {w with drawn:=w.drawn+1}:=
 ⟨h.os,h.tape,h.output,h.mem,h.frm,h.dis,fun e he=>(h.ent e he).same (fun _ _=>rfl),h.own,h.nod⟩
theorem Good.alloc{X:Fx}{M:Mem}{σ:List Ent}{w:World}(h:Good X M σ w)(o:Obj)(e:Ent)(hb:e.block=some w.heap.size)(he:e.at M (w.alloc o)):Good X M (e::σ) (w.alloc o):=by
 have old: ∀k,k<w.heap.size→(w.alloc o).heap[k]?=w.heap[k]?:=fun k hk=>Go.RowKit.Below.heap_alloc w o k hk
 have lt: ∀b (o':Obj),w.heap[b]?=some o'→b<w.heap.size:=fun b o' ho=>(Array.getElem?_eq_some_iff.1 ho).1
 refine⟨h.os,h.tape,h.output,fun b o' ho=>(old b (lt b o' (h.mem b o' ho))).trans (h.mem b o' ho),fun b o' ho=>(old b (lt b o' (h.frm b o' ho))).trans (h.frm b o' ho),h.dis,?_,?_,?_⟩
 ·intro e' he'
  rcases List.mem_cons.1 he' with rfl|he'
  ·exact he
  ·exact(h.ent e' he').same (fun b hb=>old b (Ent.block_lt (h.ent e' he') hb))
 ·intro e' he' b hb'
  rcases List.mem_cons.1 he' with rfl|he'
  ·rw[hb]at hb';cases hb'
   constructor
   ·cases ho:M w.heap.size with
    |none=>rfl
    |some o'=>exact absurd (lt _ o' (h.mem _ o' ho)) (Nat.lt_irrefl _)
   ·cases ho:X.fr w.heap.size with
    |none=>rfl
    |some o'=>exact absurd (lt _ o' (h.frm _ o' ho)) (Nat.lt_irrefl _)
  ·exact h.own e' he' b hb'
 ·rw[List.filterMap_cons_some hb,List.nodup_cons]
  refine⟨fun hm=>?_,h.nod⟩
  obtain⟨e',he',hb'⟩:=List.mem_filterMap.1 hm
  exact absurd (Ent.block_lt (h.ent e' he') hb') (Nat.lt_irrefl _)
inductive Upd:List Ent→Ent→Ent→List Ent→Prop
 |here {e e':Ent} {σ:List Ent}:Upd (e::σ) e e' (e'::σ)
 |there {e e' x:Ent} {σ σ':List Ent}:Upd σ e e' σ'→Upd (x::σ) e e' (x::σ')
theorem Upd.mem{σ σ':List Ent}{e e':Ent}(h:Upd σ e e' σ'):e∈σ:=by
 induction h with
 |here=>simp
 |there _ ih=>simp[ih]
theorem Upd.split{σ σ':List Ent}{e e':Ent}(h:Upd σ e e' σ'): ∃a c,σ=a++e::c∧σ'=a++e'::c:=by
 induction h with
 |@here e e' σ=>exact⟨[],σ,rfl,rfl⟩
 |@there e e' x σ σ' _ ih=>obtain⟨a,c,h1,h2⟩:=ih;exact⟨x::a,c,by rw[h1];rfl,by rw[h2];rfl⟩
theorem Good.upd{X:Fx}{M:Mem}{σ σ':List Ent}{e e':Ent}{w w':World}(h:Good X M σ w)(hu:Upd σ e e' σ')(hos:w'.os=w.os)(htp:w'.tape=w.tape)(hout:w'.output=w.output)
  (hold: ∀k,k<w.heap.size→e.block≠some k→w'.heap[k]?=w.heap[k]?) (he:e'.at M w') (hblk:e'.block=e.block∨ ∃b,e'.block=some b∧w.heap.size≤b):Good X M σ' w':=by
 obtain⟨a,c,rfl,rfl⟩:=hu.split
 have lt: ∀b (o':Obj),w.heap[b]?=some o'→b<w.heap.size:=fun b o' ho=>(Array.getElem?_eq_some_iff.1 ho).1
 have hme:e∈a++e::c:=by simp
 have hnod:=h.nod
 simp only[List.filterMap_append,List.filterMap_cons]at hnod
 have oth: ∀x∈a++c,∀b,x.block=some b→e.block≠some b:=by
  intro x hx b hb heq
  rw[heq]at hnod
  simp only[List.nodup_append,List.nodup_cons]at hnod
  have hmem:b∈(a.filterMap Ent.block)∨b∈c.filterMap Ent.block:=by
   rcases List.mem_append.1 hx with hx|hx
   ·exact .inl (List.mem_filterMap.2 ⟨x,hx,hb⟩)
   ·exact .inr (List.mem_filterMap.2 ⟨x,hx,hb⟩)
  rcases hmem with hm|hm
  ·exact hnod.2.2 b hm b (by simp) rfl
  ·exact hnod.2.1.1 hm
 refine⟨hos.trans h.os,htp.trans h.tape,hout.trans h.output,fun b o' ho=>?_,fun b o' ho=>?_,h.dis,?_,?_,?_⟩
 ·refine(hold b (lt b o' (h.mem b o' ho)) (fun hb=>?_)).trans (h.mem b o' ho)
  have:=(h.own e hme b hb).1;rw[ho]at this;cases this
 ·refine(hold b (lt b o' (h.frm b o' ho)) (fun hb=>?_)).trans (h.frm b o' ho)
  have:=(h.own e hme b hb).2;rw[ho]at this;cases this
 ·intro x hx
  rcases List.mem_append.1 hx with hx|hx
  ·have hx':x∈a++e::c:=by simp[hx]
   exact(h.ent x hx').same (fun b hb=>hold b (Ent.block_lt (h.ent x hx') hb) (oth x (by simp[hx]) b hb))
  ·rcases List.mem_cons.1 hx with rfl|hx
   ·exact he
   ·have hx':x∈a++e::c:=by simp[hx]
    exact(h.ent x hx').same (fun b hb=>hold b (Ent.block_lt (h.ent x hx') hb) (oth x (by simp[hx]) b hb))
 ·intro x hx b hb
  rcases List.mem_append.1 hx with hx|hx
  ·exact h.own x (by simp[hx]) b hb
  ·rcases List.mem_cons.1 hx with rfl|hx
   ·rcases hblk with hk|⟨b',hk,hge⟩
    ·rw[hk]at hb;exact h.own e hme b hb
    ·rw[hk]at hb
     obtain rfl:b'=b:=by simpa using hb
     constructor
     ·cases ho:M b' with
      |none=>rfl
      |some o'=>exact absurd (lt _ o' (h.mem _ o' ho)) (by omega)
     ·cases ho:X.fr b' with
      |none=>rfl
      |some o'=>exact absurd (lt _ o' (h.frm _ o' ho)) (by omega)
   ·exact h.own x (by simp[hx]) b hb
 ·simp only[List.filterMap_append,List.filterMap_cons]
  rcases hblk with hk|⟨b',hk,hge⟩
  ·rw[hk];exact hnod
  ·rw[hk]
   have h1:(a.filterMap Ent.block++c.filterMap Ent.block).Nodup:=by
    cases hb:e.block with
    |none=>rw[hb]at hnod;exact hnod
    |some b=>rw[hb]at hnod;simp only[List.nodup_append,List.nodup_cons]at hnod ⊢;exact⟨hnod.1,hnod.2.1.2,fun x hx y hy=>hnod.2.2 x hx y (by simp[hy])⟩
   have fresh: ∀x∈a++c,x.block≠some b':=fun x hx hb=>by
    have hx':x∈a++e::c:=by rcases List.mem_append.1 hx with hx|hx<;>simp[hx]
    have:=Ent.block_lt (h.ent x hx') hb;omega
   simp only[List.nodup_append,List.nodup_cons]at h1 ⊢
   refine⟨h1.1,⟨fun hm=>?_,h1.2.1⟩,fun x hx y hy=>?_⟩
   ·obtain⟨e',he',hb'⟩:=List.mem_filterMap.1 hm;exact fresh e' (by simp[he']) hb'
   ·rcases List.mem_cons.1 hy with rfl|hy
    ·rintro rfl;obtain⟨e',he',hb'⟩:=List.mem_filterMap.1 hx;exact fresh e' (by simp[he']) hb'
    ·exact h1.2.2 x hx y hy
structure Stuck(p:Prop):Prop where
 out:p
def cA:Value→AV
 |.int k n=>.int k n
 |.bool b=>.bool b
 |.string s=>.str s
 |.slice a l c=>.slv (.slice a l c)
 |v=>.raw v
theorem cA_rel(M:Mem)(v:Value):VRel M (cA v) v:=by cases v<;>simp[cA,VRel,Value.isSl]
def xP(env:Env):Operand→Option AV
 |.tmp t=>lk env t
 |.const v=>some (cA v)
 |.func f=>some (.fn (.func f) [] [])
 |.global g=>some (.ptr g 0)
structure St where
 env:Env
 σ:List Ent
 marks:List Nat
 n:Nat
def marksD(l:List Nat):List Deferred:=l.map fun D=>{target:=.collected D,args:=#[]}
structure Sim(X:Fx)(M:Mem)(s:St)(a:Act)(w:World):Prop where
 good:Good X M s.σ w
 size:a.tmps.size=s.n
 defs:a.defers=marksD s.marks++X.dt
 env:EnvRel M s.env a.tmps
theorem EnvRel.eval{M:Mem}{env:Env}{a:Act}(he:EnvRel M env a.tmps){x:Operand}{v:AV}(h:xP env x=some v):VRel M v (a.eval x):=by
 cases x with
 |tmp t=>
  obtain⟨u,h1,h2⟩:=he t v h
  simpa [Act.eval,Array.getD_eq_getD_getElem?,h1]using h2
 |const c=>simp only[xP,Option.some.injEq]at h;subst h;exact cA_rel M c
 |func f=>simp only[xP,Option.some.injEq]at h;subst h;simp[Act.eval,VRel,VRels]
 |global g=>simp only[xP,Option.some.injEq]at h;subst h;simp[Act.eval,VRel]
def put(dst:Option Tmp)(v:AV)(env:Env):Env:=match dst with|some d=>(d,v)::env|none=>env
def uF(dst:Option Tmp)(n:Nat):Bool:=match dst with|some d=>decide (d<n)|none=>true
theorem EnvRel.put{M:Mem}{env:Env}{a:Act}{dst:Option Tmp}{n:Nat}{v:AV}{u:Value}(he:EnvRel M env a.tmps)(hn:a.tmps.size=n)(hd:uF dst n=true)(hv:VRel M v u):
  EnvRel M (put dst v env) (a.put dst u).tmps:=by
 cases dst with
 |none=>exact he
 |some d=>
  intro t x hx
  have hd':d<a.tmps.size:=by rw[hn];simpa [uF]using hd
  simp only[Go.Act.put,Go.Proofs.YtaoaafdommlhcaaGreat.put]at *
  by_cases e:d=t
  ·subst e
   rw[uU]at hx
   cases hx
   exact⟨u,by rw[Array.getElem?_setIfInBounds_self_of_lt hd'],hv⟩
  ·rw[qR e]at hx
   obtain⟨u',h1,h2⟩:=he t x hx
   exact⟨u',by rw[Array.getElem?_setIfInBounds_ne e];exact h1,h2⟩
theorem Sim.put{X:Fx}{M M':Mem}{s:St}{a:Act}{w w':World}(h:Sim X M s a w)(hm:M.le M'){σ':List Ent}(hg:Good X M' σ' w'){dst:Option Tmp}(hd:uF dst s.n=true){v:AV}{u:Value}(hv:VRel M' v u):
  Sim X M' {s with env:=Go.Proofs.YtaoaafdommlhcaaGreat.put dst v s.env,σ:=σ'} (a.put dst u) w':=by
 refine⟨hg,?_,?_,(h.env.mono hm).put h.size hd hv⟩
 ·cases dst<;>simp[Go.Act.put,h.size]
 ·cases dst<;>simp[Go.Act.put,h.defs]
structure St.le(s s':St):Prop where
 env: ∀t v,lk s'.env t=some v→lk s.env t=some v
 σ:s'.σ.Sublist s.σ
 marks:s'.marks=s.marks
 n:s'.n=s.n
theorem St.le_refl(s:St):s.le s:=⟨fun _ _ h=>h,List.Sublist.refl _,rfl,rfl⟩
theorem Sim.weaken{X:Fx}{M:Mem}{s s':St}{a:Act}{w:World}(h:Sim X M s a w)(hl:s.le s'):Sim X M s' a w:=
 ⟨h.good.sub hl.σ,h.size.trans hl.n.symm,by rw[h.defs,hl.marks],fun t v hv=>h.env t v (hl.env t v hv)⟩
def EnvSub:Env→Env→Prop
 |[],_=>True
 |(t,v)::r,e=>lk e t=some v∧EnvSub r e
theorem EnvSub.spec: ∀{e' e:Env},EnvSub e' e→ ∀t v,lk e' t=some v→lk e t=some v
 |[],_,_,t,v,h=>by simp[lk]at h
 |(t',v')::r,e,⟨h1,h2⟩,t,v,h=>by
  by_cases hb:t'=t
  ·subst hb;rw[uU]at h;cases h;exact h1
  ·rw[qR hb]at h;exact EnvSub.spec h2 t v h
theorem St.le_of{env env':Env}{σ σ':List Ent}{m:List Nat}{n:Nat}(h:EnvSub env' env)(hs:σ'.Sublist σ):St.le ⟨env,σ,m,n⟩ ⟨env',σ',m,n⟩:=⟨h.spec,hs,rfl,rfl⟩
def tN(ro:Option Nat):Fence:={Fence.wide with round:=ro}
def postA(X:Fx)(M:Mem)(Q:Exit→St→Prop):Exit→Act→World→Prop:=fun e a w=> ∃M' s,M.le M'∧Sim X M' s a w∧Q e s
theorem qT{X:Fx}{M M':Mem}(hm:M.le M'){Q Q':Exit→St→Prop}(hq: ∀e s,Q e s→Q' e s){e:Exit}{a:Act}{w:World}(h:postA X M' Q e a w):postA X M Q' e a w:=
 let ⟨M2,s,h1,h2,h3⟩:=h;⟨M2,s,Mem.le_trans hm h1,h2,hq e s h3⟩
structure EX(P:Program)(ro:Option Nat)(c:Code)(Q:Exit→St→Prop)(s:St):Prop where
 run: ∀X M a w,Sim X M s a w→c.wpIn (tN ro) 0 P (postA X M Q) a w
section
variable {P:Program} {ro:Option Nat} {Q Q':Exit→St→Prop} {s s':St} {x y c:Code}
theorem ex_mono(h:EX P ro c Q s)(hq: ∀e s,Q e s→Q' e s):EX P ro c Q' s:=
 ⟨fun X M a w hs=>Go.wpIn_mono (h.run X M a w hs) fun _ _ _ hp=>qT (Mem.le_refl M) hq hp⟩
theorem yS(hl:s.le s')(h:EX P ro c Q s'):EX P ro c Q s:=⟨fun X M a w hs=>h.run X M a w (hs.weaken hl)⟩
theorem ex_skip(h:Q .normal s):EX P ro .skip Q s:=⟨fun _ M _ _ hs=>wpIn_skip ⟨M,s,Mem.le_refl M,hs,h⟩⟩
theorem ex_label{l:Nat}(h:Q .normal s):EX P ro (.label l) Q s:=⟨fun _ M _ _ hs=>wpIn_label ⟨M,s,Mem.le_refl M,hs,h⟩⟩
theorem ex_exit{id:Nat}(h:Q (.exit id) s):EX P ro (.exit id) Q s:=⟨fun _ M _ _ hs=>wpIn_exit ⟨M,s,Mem.le_refl M,hs,h⟩⟩
theorem ex_ret(h:Q .ret s):EX P ro .ret Q s:=⟨fun _ M _ _ hs=>wpIn_ret ⟨M,s,Mem.le_refl M,hs,h⟩⟩
def thenA(next:St→Prop)(Q:Exit→St→Prop):Exit→St→Prop
 |.normal,s=>next s
 |e,s=>Q e s
theorem ex_seq(h:EX P ro x (thenA (EX P ro y Q) Q) s):EX P ro (.seq x y) Q s:=by
 refine⟨fun X M a w hs=>?_⟩
 refine wpIn_seq (Go.wpIn_mono (h.run X M a w hs) ?_)
 rintro e a' w' ⟨M',s',hm,hs',hq⟩
 cases e with
 |normal=>exact Go.wpIn_mono (hq.run X M' a' w' hs') fun _ _ _ hp=>qT hm (fun _ _ h=>h) hp
 |exit id=>exact⟨M',s',hm,hs',hq⟩
 |goto l=>exact⟨M',s',hm,hs',hq⟩
 |ret=>exact⟨M',s',hm,hs',hq⟩
 |panic ch=>exact⟨M',s',hm,hs',hq⟩
 |outgrown=>exact⟨M',s',hm,hs',hq⟩
theorem ex_cond{o:Operand}{b:Bool}(hc:xP s.env o=some (.bool b))(ht:b=true→EX P ro x Q s)(hf:b=false→EX P ro y Q s):EX P ro (.cond o x y) Q s:=by
 refine⟨fun X M a w hs=>?_⟩
 have hv:a.eval o=.bool b:=by simpa [VRel]using hs.env.eval hc
 exact wpIn_cond_split hv (fun h=>(ht h).run X M a w hs) (fun h=>(hf h).run X M a w hs)
theorem ex_cond_t{o:Operand}{b:Bool}(hc:xP s.env o=some (.bool b))(hb:b=true)(h:EX P ro x Q s):EX P ro (.cond o x y) Q s:=ex_cond hc (fun _=>h) (fun e=>by rw[hb]at e;cases e)
theorem ex_cond_f{o:Operand}{b:Bool}(hc:xP s.env o=some (.bool b))(hb:b=false)(h:EX P ro y Q s):EX P ro (.cond o x y) Q s:=ex_cond hc (fun e=>by rw[hb]at e;cases e) (fun _=>h)
def blockA(id:Nat)(Q:Exit→St→Prop):Exit→St→Prop
 |.exit id',s=>if id'=id then Q .normal s else Q (.exit id') s
 |e,s=>Q e s
theorem ex_block{id:Nat}(h:EX P ro c (blockA id Q) s):EX P ro (.block id c) Q s:=by
 refine⟨fun X M a w hs=>?_⟩
 refine wpIn_block (Go.wpIn_mono (h.run X M a w hs) ?_)
 rintro e a' w' ⟨M',s',hm,hs',hq⟩
 cases e with
 |exit id'=>
  simp only[blockA]at hq
  simp only[Exit.inBlock]
  split<;>rename_i hi
  ·rw[if_pos hi]at hq;exact⟨M',s',hm,hs',hq⟩
  ·rw[if_neg hi]at hq;exact⟨M',s',hm,hs',hq⟩
 |normal=>exact⟨M',s',hm,hs',hq⟩
 |goto l=>exact⟨M',s',hm,hs',hq⟩
 |ret=>exact⟨M',s',hm,hs',hq⟩
 |panic ch=>exact⟨M',s',hm,hs',hq⟩
 |outgrown=>exact⟨M',s',hm,hs',hq⟩
def roundA{α:Type}(f:α→St)(Inv:α→Prop)(μ:α→Nat)(n:Nat)(Q:Exit→St→Prop):Exit→St→Prop
 |.normal,s=> ∃x,Inv x∧μ x<n∧s.le (f x)
 |e,s=>Q e s
theorem zU{α:Type}(f:α→St)(Inv:α→Prop)(μ:α→Nat)(x0:α)(h0:Inv x0)(hs0:s.le (f x0))(hr: ∀x,Inv x→EX P ro c (roundA f Inv μ (μ x) Q) (f x)):EX P ro (.loop c) Q s:=by
 refine⟨fun X M a w hs=>?_⟩
 refine wpIn_loop (fun a w=> ∃n,∃x M',μ x=n∧M.le M'∧Inv x∧Sim X M' (f x) a w) (fun a w=>leastOf (fun n=> ∃x M',μ x=n∧M.le M'∧Inv x∧Sim X M' (f x) a w))
  ⟨_,x0,M,rfl,Mem.le_refl M,h0,hs.weaken hs0⟩ ?_
 intro a w hI
 obtain⟨x,M',hn,hm,hi,hsx⟩:=(leastOf_spec hI).1
 refine Go.wpIn_mono ((hr x hi).run X M' a w hsx) ?_
 rintro e a' w' ⟨M2,s2,hm2,hs2,hq⟩
 cases e with
 |normal=>
  obtain⟨x',hi',hlt,hle⟩:=hq
  have hp: ∃x M',μ x=μ x'∧M.le M'∧Inv x∧Sim X M' (f x) a' w':=⟨x',M2,rfl,Mem.le_trans hm hm2,hi',hs2.weaken hle⟩
  exact⟨⟨_,hp⟩,Nat.lt_of_le_of_lt ((leastOf_spec ⟨_,hp⟩).2 _ hp) (hn▸hlt)⟩
 |exit id=>exact⟨M2,s2,Mem.le_trans hm hm2,hs2,hq⟩
 |goto l=>exact⟨M2,s2,Mem.le_trans hm hm2,hs2,hq⟩
 |ret=>exact⟨M2,s2,Mem.le_trans hm hm2,hs2,hq⟩
 |panic ch=>exact⟨M2,s2,Mem.le_trans hm hm2,hs2,hq⟩
 |outgrown=>exact⟨M2,s2,Mem.le_trans hm hm2,hs2,hq⟩
def noGotoA(Q:Exit→St→Prop):Exit→St→Prop
 |.goto _,_=>False
 |e,s=>Q e s
theorem kW{P:Program}{b:Frame}{a:Act}{k:List Item}{cs:List Frame}{w:World}{c:Code}:step P (lone (b.atR a (.code (.scope c)::k)) cs w)=.next (lone (b.atR a (.code c::.inScope c::k)) cs w):=
 step_lone_go (by simp[stepG,stepG.exec,Frame.atR])
theorem stepR_inScope{P:Program}{b:Frame}{a:Act}{k:List Item}{cs:List Frame}{w:World}{c:Code}:step P (lone (b.atR a (.inScope c::k)) cs w)=.next (lone (b.atR a k) cs w):=
 step_lone_go (by simp[stepG,stepG.exec,Frame.atR])
theorem wpIn_scope{F:Fence}{n:Nat}{P:Program}{Q:Exit→Act→World→Prop}{a:Act}{w:World}{c:Code}(h:c.wpIn F n P (fun e a w=>match e with|.goto _=>False|e=>Q e a w) a w):(Code.scope c).wpIn F n P Q a w:=by
 intro b k cs hro hb hr
 obtain⟨e,a₁,w₁,hq,harr⟩:=h b (.inScope c::k) cs hro hb hr
 have h0:(lone (b.atR a (.code (.scope c)::k)) cs w).fenced P F:=fenced_calm hb hr rfl
 cases e with
 |normal=>exact⟨.normal,a₁,w₁,hq,.head h0 kW (StepsIn.trans harr (.one (fenced_calm (fr:=b.atR a₁ (.inScope c::k)) hb hr rfl) stepR_inScope))⟩
 |exit id=>
  have hx:exitTo id (.inScope c::k)=exitTo id k:=by simp[exitTo]
  exact⟨.exit id,a₁,w₁,hq,fun k' hk=>.head h0 kW (harr.1 k' (by rw[hx];exact hk)),fun hr' hk=>let ⟨k₁,h1,h2⟩:=harr.2 hr' (by rw[hx];exact hk);⟨k₁,h1,.head h0 kW h2⟩⟩
 |goto l=>exact hq.elim
 |ret=>exact⟨_,a₁,w₁,hq,.of_steps (.one h0 kW) harr⟩
 |panic ch=>exact⟨_,a₁,w₁,hq,.of_steps (.one h0 kW) harr⟩
 |outgrown=>exact⟨_,a₁,w₁,hq,.of_steps (.one h0 kW) harr⟩
theorem ex_scope(h:EX P ro c (noGotoA Q) s):EX P ro (.scope c) Q s:=by
 refine⟨fun X M a w hs=>?_⟩
 refine wpIn_scope (Go.wpIn_mono (h.run X M a w hs) ?_)
 rintro e a' w' ⟨M',s',hm,hs',hq⟩
 cases e with
 |goto l=>exact hq.elim
 |normal=>exact⟨M',s',hm,hs',hq⟩
 |exit id=>exact⟨M',s',hm,hs',hq⟩
 |ret=>exact⟨M',s',hm,hs',hq⟩
 |panic ch=>exact⟨M',s',hm,hs',hq⟩
 |outgrown=>exact⟨M',s',hm,hs',hq⟩
end
def OpRel(M:Mem)(env:Env)(a:Act)(o:Oper):Prop:= ∀x∈o.op.operands,∀v,xP env x=some v→VRel M v (a.eval x)
theorem EnvRel.op{M:Mem}{env:Env}{a:Act}(he:EnvRel M env a.tmps)(o:Oper):OpRel M env a o:=fun _ _ _ hv=>he.eval hv
structure GOp(P:Program)(ro:Option Nat)(o:Oper)(env:Env)(σ:List Ent)(R:AV→List Ent→Prop):Prop where
 run: ∀X M a w,Good X M σ w→OpRel M env a o→ ∀(K:Act→World→Prop) (Qx:Exit→Act→World→Prop),
  (∀M' u w' v σ',M.le M'→Good X M' σ' w'→VRel M' v u→R v σ'→K (a.put o.dst u) w')→o.wpIn (tN ro) 0 P a w K Qx
structure EXL(P:Program)(ro:Option Nat)(ops:Array Oper)(l:List Oper)(Q:Exit→St→Prop)(s:St):Prop where
 run: ∀X M a w,Sim X M s a w→wpListIn (tN ro) 0 P ops (postA X M Q) l a w
section
variable {P:Program} {ro:Option Nat} {Q:Exit→St→Prop} {s:St} {ops:Array Oper} {rest l:List Oper} {o:Oper}
theorem ex_region{id:Nat}(h:EXL P ro l.toArray l Q s):EX P ro (.region id l.toArray false) Q s:=⟨fun X M a w hs=>wpIn_region_lit (h.run X M a w hs)⟩
theorem exl_nil(h:Q .normal s):EXL P ro ops [] Q s:=⟨fun _ M _ _ hs=>⟨M,s,Mem.le_refl M,hs,h⟩⟩
theorem wR{F:Fence}{n:Nat}{Q1 Q2:Exit→Act→World→Prop}(hq: ∀e a w,Q1 e a w→Q2 e a w): ∀(l:List Oper) (a:Act) (w:World),wpListIn F n P ops Q1 l a w→wpListIn F n P ops Q2 l a w
 |[],a,w,h=>hq _ _ _ h
 |o::l,a,w,h=>by
  unfold wpListIn at h ⊢
  split
  ·rename_i hw
   rw[if_pos hw]at h
   unfold Oper.wpIn at h ⊢
   refine⟨h.1,?_⟩
   have h2:=h.2
   generalize (o.semAt F.round a.eval).run P w=r at h2
   cases r with
   |ok nx w'=>
    cases nx<;>simp only[Oper.uponIn]at h2 ⊢ <;>first
     |exact wR hq l _ _ h2
     |exact⟨h2.1,CallsIn.mono h2.2 (fun e w' he=>by cases e<;>first|exact wR hq l _ _ he|exact hq _ _ _ he|exact let ⟨a,w,h⟩:=he;⟨a,w,hq _ _ _ h⟩)⟩
     |exact⟨h2.1,RowsIn.mono h2.2 (fun _ _ he=>wR hq l _ _ he)⟩
     |exact⟨h2.1,RoundIn.mono h2.2 (fun e w' he=>by cases e<;>first|exact wR hq l _ _ he|exact hq _ _ _ he|exact let ⟨a,w,h⟩:=he;⟨a,w,hq _ _ _ h⟩)⟩
   |halt x w'=>cases x<;>simp only[Oper.uponIn]at h2 ⊢ <;>first|exact hq _ _ _ h2
  ·rename_i hw
   rw[if_neg hw]at h
   exact⟨h.1,wR hq l _ _ h.2⟩
theorem tT(f:FuncId)(ro:Option Nat):(tN ro).fn f:=trivial
theorem exl_core{R:AV→List Ent→Prop}(hw: ∀a:Act,a.tmps.size=s.n→(∀M,EnvRel M s.env a.tmps→Region.wanted o (yielded ops a.tmps)=true))(hd:uF o.dst s.n=true)(hg:GOp P ro o s.env s.σ R)
  (h: ∀v σ',R v σ'→EXL P ro ops rest Q {s with env:=put o.dst v s.env,σ:=σ'}):EXL P ro ops (o::rest) Q s:=by
 refine⟨fun X M a w hs=>?_⟩
 unfold wpListIn
 rw[if_pos (hw a hs.size M hs.env)]
 refine hg.run X M a w hs.good (hs.env.op o) _ _ ?_
 intro M' u w' v σ' hm hgd hv hR
 exact wR (fun _ _ _ hp=>qT hm (fun _ _ h=>h) hp) _ _ _ ((h v σ' hR).run X M' _ w' (hs.put hm hgd hd hv))
theorem kV{R:AV→List Ent→Prop}(hgd:o.guard=none)(hd:uF o.dst s.n=true)(hg:GOp P ro o s.env s.σ R)
  (h: ∀v σ',R v σ'→EXL P ro ops rest Q {s with env:=put o.dst v s.env,σ:=σ'}):EXL P ro ops (o::rest) Q s:=
 exl_core (fun a _ _ _=>by simp[Region.wanted,hgd]) hd hg h
def wK(ops:Array Oper)(o:Oper)(env:Env):Option (AV×Bool):=match o.guard with
 |some (j,want)=>(((ops[j]?).bind (·.dst)).bind (lk env)).map (·,want)
 |none=>none
theorem guardA_spec{env:Env}{b want:Bool}{v:AV}(h:wK ops o env=some (v,want)): ∃j d,o.guard=some (j,want)∧(ops[j]?).bind (·.dst)=some d∧lk env d=some v:=by
 unfold wK at h
 cases hg:o.guard with
 |none=>rw[hg]at h;cases h
 |some g=>
  obtain⟨j,wt⟩:=g
  rw[hg]at h
  simp only[Option.map_eq_some_iff,Prod.mk.injEq]at h
  obtain⟨x,hx,rfl,rfl⟩:=h
  obtain⟨d,h1,h2⟩:=Option.bind_eq_some_iff.1 hx
  exact⟨j,d,rfl,h1,h2⟩
theorem wanted_of{M:Mem}{env:Env}{a:Act}(he:EnvRel M env a.tmps){b want:Bool}(h:wK ops o env=some (.bool b,want)):Region.wanted o (yielded ops a.tmps)=(b==want):=by
 obtain⟨j,d,hg,hd,hl⟩:=guardA_spec (b:=b) h
 obtain⟨u,h1,h2⟩:=he d _ hl
 simp only[VRel]at h2
 subst h2
 simp[Region.wanted,hg,yielded,hd,h1]
theorem wanted_raw{M:Mem}{env:Env}{a:Act}(he:EnvRel M env a.tmps){want:Bool}(h:wK ops o env=some (.raw undef,want)):Region.wanted o (yielded ops a.tmps)=false:=by
 obtain⟨j,d,hg,hd,hl⟩:=guardA_spec (b:=want) h
 obtain⟨u,h1,h2⟩:=he d _ hl
 simp only[VRel]at h2
 subst h2
 simp[Region.wanted,hg,yielded,hd,h1,undef]
theorem exl_want{R:AV→List Ent→Prop}{b want:Bool}(hgd:wK ops o s.env=some (.bool b,want))(hb:b=want)(hd:uF o.dst s.n=true)(hg:GOp P ro o s.env s.σ R)
  (h: ∀v σ',R v σ'→EXL P ro ops rest Q {s with env:=put o.dst v s.env,σ:=σ'}):EXL P ro ops (o::rest) Q s:=
 exl_core (fun a _ M he=>by rw[wanted_of he hgd,hb];simp) hd hg h
theorem exl_off(hw: ∀(a:Act) (M:Mem),EnvRel M s.env a.tmps→Region.wanted o (yielded ops a.tmps)=false)(hd:uF o.dst s.n=true)
  (h:EXL P ro ops rest Q {s with env:=put o.dst (.raw undef) s.env}):EXL P ro ops (o::rest) Q s:=by
 refine⟨fun X M a w hs=>?_⟩
 unfold wpListIn
 rw[if_neg (by rw[hw a M hs.env];simp)]
 exact⟨fun f _=>tT f ro,h.run X M _ w (hs.put (Mem.le_refl M) hs.good hd (by simp[VRel]))⟩
theorem exl_skip{b want:Bool}(hgd:wK ops o s.env=some (.bool b,want))(hb:b=!want)(hd:uF o.dst s.n=true)
  (h:EXL P ro ops rest Q {s with env:=put o.dst (.raw undef) s.env}):EXL P ro ops (o::rest) Q s:=
 exl_off (fun a M he=>by rw[wanted_of he hgd,hb];cases want<;>rfl) hd h
theorem exl_skip_raw{want:Bool}(hgd:wK ops o s.env=some (.raw undef,want))(hd:uF o.dst s.n=true)
  (h:EXL P ro ops rest Q {s with env:=put o.dst (.raw undef) s.env}):EXL P ro ops (o::rest) Q s:=
 exl_off (fun a M he=>wanted_raw he hgd) hd h
theorem exl_case{b want:Bool}(_:wK ops o s.env=some (.bool b,want))(ht:b=true→EXL P ro ops (o::rest) Q s)(hf:b=false→EXL P ro ops (o::rest) Q s):EXL P ro ops (o::rest) Q s:=by
 cases b
 ·exact hf rfl
 ·exact ht rfl
end
end Go.Proofs.YtaoaafdommlhcaaGreat

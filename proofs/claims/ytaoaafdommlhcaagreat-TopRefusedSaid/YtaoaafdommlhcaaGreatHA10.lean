/- Parts of the proof that belong together: Sp Sq Sbt Sco Snu Sr Sv Sw Sx Sy. -/
import Derived.Test.YtaoaafdommlhcaaGreatHA09
import Derived.Deep.DeepAppendRoom
import Derived.ChangeKeysEq
import Derived.Maps.RangeRun
set_option maxRecDepth 10000
set_option linter.unusedSimpArgs false
set_option linter.unusedVariables false
set_option autoImplicit false
open Go.Proofs.Tryz
namespace Go.Proofs.YtaoaafdommlhcaaGreat
inductive ShutEnts(v:Value)(x:AV):List Ent→List Ent→Prop
 |nil:ShutEnts v x [] []
 |same {e:Ent} {σ σ':List Ent} (h:ShutEnts v x σ σ'):ShutEnts v x (e::σ) (e::σ')
 |cells {b:Nat} {l l':List AV} {t:TypeId} {σ σ':List Ent} (hc:Cv v x l l') (h:ShutEnts v x σ σ'):ShutEnts v x (.cells b l t::σ) (.cells b l' t::σ')
theorem ShutEnts.refl{v:Value}{x:AV}: ∀σ:List Ent,ShutEnts v x σ σ
 |[]=>.nil
 |_::σ=>.same (ShutEnts.refl σ)
theorem ShutEnts.blocks{v:Value}{x:AV}{σ σ':List Ent}(h:ShutEnts v x σ σ'):σ'.map Ent.block=σ.map Ent.block:=by
 induction h with
 |nil=>rfl
 |same _ ih=>simp[ih]
 |cells _ _ ih=>simp[ih,Ent.block]
theorem ShutEnts.ents{v:Value}{x:AV}{σ σ':List Ent}{M:Mem}{w:World}(hx:VRel M x v)(h:ShutEnts v x σ σ'):(∀e∈σ,e.at M w)→ ∀e∈σ',e.at M w:=by
 induction h with
 |nil=>exact fun h=>h
 |same _ ih=>
  intro ha e he
  rcases List.mem_cons.1 he with rfl|he
  ·exact ha _ (by simp)
  ·exact ih (fun e he=>ha e (by simp[he])) e he
 |@cells b l l' t σ σ' hc _ ih=>
  intro ha e he
  rcases List.mem_cons.1 he with rfl|he
  ·obtain⟨c,h1,h2⟩:=ha (.cells b l t) (by simp)
   exact⟨c,h1,hc.rel hx h2⟩
  ·exact ih (fun e he=>ha e (by simp[he])) e he
theorem tE: ∀σ:List Ent,σ.filterMap Ent.block=(σ.map Ent.block).filterMap id
 |[]=>rfl
 |e::σ=>by
  have ih:=tE σ
  cases h:e.block with
  |none=>rw[List.filterMap_cons_none h,ih];simp[h]
  |some b=>rw[List.filterMap_cons_some h,ih];simp[h]
theorem Good.shutE{X:Fx}{M:Mem}{σ σ':List Ent}{w:World}{v:Value}{x:AV}(hx:VRel M x v)(hg:Good X M σ w)(h:ShutEnts v x σ σ'):Good X M σ' w:=by
 have hb:=h.blocks
 refine⟨hg.os,hg.tape,hg.output,hg.mem,hg.frm,hg.dis,h.ents hx hg.ent,fun e he b hb'=>?_,?_⟩
 ·have hm:some b∈σ'.map Ent.block:=List.mem_map.2 ⟨e,he,hb'⟩
  rw[hb]at hm
  obtain⟨e',he',hb2⟩:=List.mem_map.1 hm
  exact hg.own e' he' b hb2
 ·rw[tE,hb,←tE];exact hg.nod
theorem g_conv64{P:Program}{ro:Option Nat}{env:Env}{σ:List Ent}{dst:Option Tmp}{ty:TypeId}{pos:String}{after:Array Edge}{guard:Option (Nat×Bool)}{s t:TypeId}{x:Operand}{k' ks:IntKind}{n:Int}(hs:P.underlying s=some (.int ks))(ht:P.underlying t=some (.int .i64))(hx:xP env x=some (.int k' n))(hn: -9223372036854775808≤n∧n≤9223372036854775807):
  GOp P ro ⟨dst,.convert s t x,ty,pos,after,guard⟩ env σ (Is (.int .i64 n) σ):=
 zA _ (by intro c h;cases h) fun X M e w hg ho=>by
  have h1:=ho x (by simp[Op.operands]) _ hx
  simp only[VRel]at h1
  refine⟨.int .i64 n,by simp[VRel],?_⟩
  have hw:IntKind.i64.wrap n=n:=uE hn
  simp[execOp,h1,convert,Sem.run_bind,run_underlying hs,run_underlying ht,Conv.intToInt,hw]
section
variable {P:Program} {ro:Option Nat} {env:Env} {σ σ':List Ent} {o:Oper} {dst:Option Tmp} {ty:TypeId} {pos:String} {after:Array Edge} {guard:Option (Nat×Bool)}
def pA(sz:Nat)(v:Value)(l h:Nat):Value:=match v with
 |.slice a _ cap=>.slice (if cap=l then a else a.map (·.add (l*sz))) (h-l) (cap-l)
 |_=>v
theorem g_sliceRow{t e e':TypeId}{sz:Nat}{x:Operand}{lo hi:Option Operand}{v:Value}{L:List (List AV)}{l h:Nat}{li hj:Int}(ht:pP P t=some (e,sz))(hx:xP env x=some (.slv v))(hm:Ent.row v e' sz L∈σ)(hlo:uR env 0 lo=some li)(hhi:uR env L.length hi=some hj)
  (hl:li=(l:Int)) (hh:hj=(h:Int)) (hlh:l≤h) (hhL:h≤L.length):
  GOp P ro ⟨dst,.slice t x lo hi none,ty,pos,after,guard⟩ env σ (Is (.raw (pA sz v l h)) σ):=
 zA _ (by intro c h;cases h) fun X M a w hg ho=>by
  have h1:=ho x (by simp[Op.operands]) _ hx
  simp only[VRel]at h1
  obtain⟨h1,_⟩:=h1
  obtain⟨hue,inf,hinf,hsz⟩:=vC ht
  obtain⟨xs,hown,_,_⟩:=hg.ent _ hm
  subst hl hh
  obtain⟨ad,cap,rfl,hcap⟩: ∃ad cap,v=.slice ad L.length cap∧L.length≤cap:=by
   rcases hown.2 with⟨rfl,h0⟩|⟨g,cap,cur,rfl,_,_,hnc,_⟩
   ·exact⟨none,0,by rw[h0],by omega⟩
   ·exact⟨_,cap,rfl,hnc⟩
  have elo: ∀(y:Operand),lo=some y→ ∃k,a.eval y=.int k (l:Int):=fun y hy=>by
   subst hy
   simp only[uR]at hlo
   split at hlo
   ·rename_i k n he
    cases hlo
    have:=ho y (by simp[Op.operands]) _ he
    simp only[VRel]at this
    exact⟨_,this⟩
   ·cases hlo
  have ehi: ∀(y:Operand),hi=some y→ ∃k,a.eval y=.int k (h:Int):=fun y hy=>by
   subst hy
   simp only[uR]at hhi
   split at hhi
   ·rename_i k n he
    cases hhi
    have:=ho y (by simp[Op.operands]) _ he
    simp only[VRel]at this
    exact⟨_,this⟩
   ·cases hhi
  have ehn:hi=none→h=L.length:=fun e=>by subst e;simp only[uR,Option.some.injEq]at hhi;omega
  have eln:lo=none→l=0:=fun e=>by subst e;simp only[uR,Option.some.injEq]at hlo;omega
  refine⟨pA sz (.slice ad L.length cap) l h,by simp[VRel],?_⟩
  have hlc:h≤cap:=by omega
  cases lo with
  |none=>
   have e0:=eln rfl
   subst e0
   cases hi with
   |none=>
    have e1:=ehn rfl
    subst e1
    simp[pA,execOp,h1,Instr.sliceAt,Instr.slice,run_underlying hue,Instr.sliceBounds,Sem.run_bind,sizeOf,typeInfo,hinf,hsz]
   |some y=>
    obtain⟨k,hy⟩:=ehi y rfl
    simp[pA,execOp,h1,hy,Instr.sliceAt,Instr.slice,run_underlying hue,Instr.sliceBounds,Sem.run_bind,sizeOf,typeInfo,hinf,hsz,Instr.sliceBound,asIntOf,hlc]
  |some z=>
   obtain⟨kz,hz⟩:=elo z rfl
   cases hi with
   |none=>
    have e1:=ehn rfl
    subst e1
    simp[pA,execOp,h1,hz,Instr.sliceAt,Instr.slice,run_underlying hue,Instr.sliceBounds,Sem.run_bind,sizeOf,typeInfo,hinf,hsz,Instr.sliceBound,asIntOf,hlh]
   |some y=>
    obtain⟨k,hy⟩:=ehi y rfl
    simp[pA,execOp,h1,hz,hy,Instr.sliceAt,Instr.slice,run_underlying hue,Instr.sliceBounds,Sem.run_bind,sizeOf,typeInfo,hinf,hsz,Instr.sliceBound,asIntOf,hlc,hlh]
theorem uD{sz:Nat}: ∀{L:List (List AV)} (k:Nat),(∀x∈L,x.length=sz)→(L.take k).flatten=L.flatten.take (k*sz)
 |[],k,_=>by simp
 |x::L,0,_=>by simp
 |x::L,k+1,h=>by
  have hx:=h x (by simp)
  rw[List.take_succ_cons,List.flatten_cons,List.flatten_cons,uD k (fun y hy=>h y (by simp[hy])),List.take_append,hx]
  congr 1
  ·rw[List.take_of_length_le];rw[hx,Nat.add_mul];omega
  ·congr 1;rw[Nat.add_mul];omega
theorem pE{sz:Nat}: ∀{L:List (List AV)} (k:Nat),(∀x∈L,x.length=sz)→(L.drop k).flatten=L.flatten.drop (k*sz)
 |[],k,_=>by simp
 |x::L,0,_=>by simp
 |x::L,k+1,h=>by
  have hx:=h x (by simp)
  have e:(k+1)*sz=x.length+k*sz:=by rw[hx,Nat.add_mul];omega
  rw[List.drop_succ_cons,List.flatten_cons,pE k (fun y hy=>h y (by simp[hy])),e,List.drop_length_add_append]
theorem g_appendCut{t e:TypeId}{sz bytes:Nat}{s x:Operand}{v:Value}{L:List (List AV)}{k k1 n:Nat}{F:Value→List Ent}(ht:appOf P t=some (e,sz,bytes))(hs:xP env s=some (.raw (pA sz v 0 k)))(hx:xP env x=some (.raw (pA sz v k1 n)))
  (hu: ∀v',Upd σ (.row v e sz L) (.row v' e sz (L.eraseIdx k)) (F v')) (hn:n=L.length) (hk1:k1=k+1) (hk:k<L.length) (hone: ∀y∈L,y.all AV.one=true):
  GOp P ro ⟨dst,.call {callee:=.builtin .append,args:=#[s,x],argTypes:=#[t,t]},ty,pos,after,guard⟩ env σ (Grew F):=
 wJ (by intro c h;cases h) fun X M a w hg ho=>by
  have h1:=ho s (by simp[Op.operands,Call.operands]) _ hs
  have h2:=ho x (by simp[Op.operands,Call.operands]) _ hx
  simp only[VRel]at h1 h2
  obtain⟨hue,i,z,hi,hz,hsz,hby,hzl,h0,hb0⟩:=qP ht
  obtain⟨xs,hown,hr,hsl⟩:=hg.ent _ (hu v).mem
  subst hn hk1
  have hone':L.flatten.all AV.one=true:=by
   rw[List.all_eq_true]
   intro y hy
   obtain⟨q,hq,hy⟩:=List.mem_flatten.1 hy
   exact List.all_eq_true.1 (hone q hq) y hy
  have h1':=qW hr hone'
  rcases hown.2 with⟨rfl,hn0⟩|⟨g,cap,cur,rfl,hbg,hgg,hnc,hcm,hcs,htk⟩
  ·omega
  ·have hlo:=hown.1
   have hcell: ∀(j:Nat) (u:Value),xs[j]?=some u→w.cell? ((⟨g,0,none⟩:Addr).add j)=some u:=hown.cells (g:=g) rfl
   have hkm:k*sz+(L.length-(k+1))*sz≤L.length*sz:=by rw[←Nat.add_mul];exact Nat.mul_le_mul_right _ (by omega)
   have hsplit:(k+1)*sz+(L.length-(k+1))*sz=L.length*sz:=by rw[←Nat.add_mul];congr 1;omega
   obtain⟨news,hnews⟩: ∃news,news=xs.drop ((k+1)*sz):=⟨_,rfl⟩
   have hnl:news.length=(L.length-(k+1))*sz:=by rw[hnews,List.length_drop,hlo];omega
   have hone2: ∀u∈news,u.oneCell'=true:=fun u hu=>h1' u (by rw[hnews]at hu;exact List.mem_of_mem_drop hu)
   obtain⟨ad,had,hadc⟩: ∃ad:Addr,pA sz (.slice (some ⟨g,0,none⟩) L.length cap) (k+1) L.length=.slice (some ad) (L.length-(k+1)) (cap-(k+1))∧ ∀(j:Nat) (u:Value),news[j]?=some u→w.cell? (ad.add j)=some u:=by
    by_cases hc:cap=k+1
    ·refine⟨⟨g,0,none⟩,by simp[pA,hc],fun j u hj=>?_⟩
     have:news.length=0:=by rw[hnl,show L.length-(k+1)=0 by omega,Nat.zero_mul]
     rw[List.getElem?_eq_none (by omega)]at hj;cases hj
    ·refine⟨(⟨g,0,none⟩:Addr).add ((k+1)*sz),by simp[pA,hc],fun j u hj=>?_⟩
     rw[hnews,List.getElem?_drop]at hj
     have:=hcell _ _ hj
     rw[Addr.add_lit]at this ⊢
     rw[Addr.add_lit]
     simpa [Nat.add_assoc]using this
   have hs0:pA sz (.slice (some ⟨g,0,none⟩) L.length cap) 0 k=.slice (some ⟨g,0,none⟩) k cap:=by
    simp[pA,Addr.add]
   have hown0:w.ownsRow 0 e sz (.slice (some ⟨g,0,none⟩) k cap) k (xs.take (k*sz)):=by
    refine⟨?_,.inr ⟨g,cap,cur,rfl,hbg,hgg,by omega,hcm,hcs,?_⟩⟩
    ·rw[List.length_take,hlo]
     have:k*sz≤L.length*sz:=Nat.mul_le_mul_right _ (by omega)
     omega
    ·rw[←htk,List.take_take]
     congr 1
     have:k*sz≤L.length*sz:=Nat.mul_le_mul_right _ (by omega)
     omega
   have hroom:k+(L.length-(k+1))≤cap:=by omega
   obtain⟨w',hrun,hown',hgr⟩:=run_append_own_spare (P:=P) w 0 t ty e i sz hue hi hsz g k cap _ hown0 ad (L.length-(k+1)) (cap-(k+1)) news hnl hadc hone2 hroom
   have hel:(L.eraseIdx k).length=k+(L.length-(k+1)):=by rw[List.length_eraseIdx,if_pos hk];omega
   have hef:L.eraseIdx k=L.take k++L.drop (k+1):=List.eraseIdx_eq_take_drop_succ L k
   have hent:(Ent.row (.slice (some ⟨g,0,none⟩) (k+(L.length-(k+1))) cap) e sz (L.eraseIdx k)).at M w':=by
    refine⟨xs.take (k*sz)++news,by rw[hel];exact hown',?_,fun y hy=>hsl y (List.mem_of_mem_eraseIdx hy)⟩
    rw[hef,List.flatten_append,uD k hsl,pE (k+1) hsl,hnews]
    exact(hr.take _).append (hr.drop _)
   refine⟨M,_,w',.slv _,F _,Mem.le_refl M,hg.upd (hu _) hgr.os hgr.tape hgr.output (fun k hk hne=>hgr.block k hk (fun e=>hne e.symm)) hent (.inl rfl),⟨rfl,rfl⟩,.mk _,.inl ?_⟩
   rw[hs0]at h1
   rw[had]at h2
   simp[execOp,resolve,invoke,builtin,Sem.run_bind,h1,h2,hrun]
theorem g_rem{x y:Operand}{t yt:TypeId}{k:IntKind}{a b c:Int}(hx:xP env x=some (.int k a))(hy:xP env y=some (.int k b))(hb:b≠0)(hc:a.tmod b=c):
  GOp P ro ⟨dst,.binOp .rem t x y yt,ty,pos,after,guard⟩ env σ (Is (.int k c) σ):=
 zA _ (by intro c h;cases h) fun X M e w hg ho=>by
  have h1:=ho x (by simp[Op.operands]) _ hx
  have h2:=ho y (by simp[Op.operands]) _ hy
  simp only[VRel]at h1 h2
  exact⟨.int k c,by simp[VRel],by simp[execOp,h1,h2,eqGuard,binOp,Op.intDiv,Sem.run_bind,hb,hc]⟩
theorem g_remN{x y:Operand}{t yt:TypeId}{k:IntKind}{a b:Int}{m n:Nat}(hx:xP env x=some (.int k a))(hy:xP env y=some (.int k b))(ha:a=(m:Int))(hb:b=(n:Int))(h0:n≠0):
  GOp P ro ⟨dst,.binOp .rem t x y yt,ty,pos,after,guard⟩ env σ (Is (.int k ((m%n:Nat):Int)) σ):=
 g_rem hx hy (by omega) (by subst ha hb;rfl)
theorem g_quo{x y:Operand}{t yt:TypeId}{a b c:Int}(hx:xP env x=some (.int .i64 a))(hy:xP env y=some (.int .i64 b))(hb:b≠0)(hc:a.tdiv b=c)(hr: -9223372036854775808≤c∧c≤9223372036854775807):
  GOp P ro ⟨dst,.binOp .quo t x y yt,ty,pos,after,guard⟩ env σ (Is (.int .i64 c) σ):=
 zA _ (by intro c h;cases h) fun X M e w hg ho=>by
  have h1:=ho x (by simp[Op.operands]) _ hx
  have h2:=ho y (by simp[Op.operands]) _ hy
  simp only[VRel]at h1 h2
  exact⟨.int .i64 c,by simp[VRel],by simp[execOp,h1,h2,eqGuard,binOp,Op.intDiv,Sem.run_bind,hb,hc,uE hr]⟩
def opBits:BinOp→IntKind→Int→Int→Option Int
 |.and,k,x,y=>some (k.wrap (BitVec.ofInt k.bits x&&&BitVec.ofInt k.bits y).toNat)
 |.or,k,x,y=>some (k.wrap (BitVec.ofInt k.bits x|||BitVec.ofInt k.bits y).toNat)
 |.xor,k,x,y=>some (k.wrap (BitVec.ofInt k.bits x^^^BitVec.ofInt k.bits y).toNat)
 |.andNot,k,x,y=>some (k.wrap (BitVec.ofInt k.bits x&&&~~~ BitVec.ofInt k.bits y).toNat)
 |.shl,k,x,y=>if y<0 then none else some (k.wrap (x*2^min y.toNat k.bits))
 |.shr,k,x,y=>if y<0 then none else some (x.fdiv (2^min y.toNat k.bits))
 |_,_,_,_=>none
theorem g_bits{op:BinOp}{x y:Operand}{t yt:TypeId}{k k':IntKind}{a b c d:Int}(hx:xP env x=some (.int k a))(hy:xP env y=some (.int k' b))(hk:k'=k∨op=.shl∨op=.shr)(hc:opBits op k a b=some c)(hd:c=d):
  GOp P ro ⟨dst,.binOp op t x y yt,ty,pos,after,guard⟩ env σ (Is (.int k d) σ):=
 zA _ (by intro c h;cases h) fun X M e w hg ho=>by
  have h1:=ho x (by simp[Op.operands]) _ hx
  have h2:=ho y (by simp[Op.operands]) _ hy
  simp only[VRel]at h1 h2
  subst hd
  refine⟨.int k c,by simp[VRel],?_⟩
  cases op<;>simp only[opBits,reduceCtorEq]at hc
  case and=>rcases hk with rfl|h|h<;>first|(cases h;done)|(cases hc;simp[execOp,h1,h2,eqGuard,binOp,Op.intBits,Sem.run_bind])
  case or=>rcases hk with rfl|h|h<;>first|(cases h;done)|(cases hc;simp[execOp,h1,h2,eqGuard,binOp,Op.intBits,Sem.run_bind])
  case xor=>rcases hk with rfl|h|h<;>first|(cases h;done)|(cases hc;simp[execOp,h1,h2,eqGuard,binOp,Op.intBits,Sem.run_bind])
  case andNot=>rcases hk with rfl|h|h<;>first|(cases h;done)|(cases hc;simp[execOp,h1,h2,eqGuard,binOp,Op.intBits,Sem.run_bind])
  case shl=>
   split at hc
   ·cases hc
   ·rename_i h0
    cases hc
    simp[execOp,h1,h2,eqGuard,binOp,Op.shift,Sem.run_bind,h0]
  case shr=>
   split at hc
   ·cases hc
   ·rename_i h0
    cases hc
    simp[execOp,h1,h2,eqGuard,binOp,Op.shift,Sem.run_bind,h0]
end
def andNot(a b:Nat):Nat:=a^^^(a&&&b)
section
variable {P:Program} {ro:Option Nat} {env:Env} {σ:List Ent} {dst:Option Tmp} {ty:TypeId} {pos:String} {after:Array Edge} {guard:Option (Nat×Bool)}
end
section
variable {P:Program} {ro:Option Nat} {env:Env} {σ:List Ent} {dst:Option Tmp} {ty:TypeId} {pos:String} {after:Array Edge} {guard:Option (Nat×Bool)}
theorem g_conv{s t:TypeId}{x:Operand}{k' ks k2:IntKind}{n c:Int}(hs:P.underlying s=some (.int ks))(ht:P.underlying t=some (.int k2))(hx:xP env x=some (.int k' n))(hc:k2.wrap n=c):
  GOp P ro ⟨dst,.convert s t x,ty,pos,after,guard⟩ env σ (Is (.int k2 c) σ):=
 zA _ (by intro c h;cases h) fun X M e w hg ho=>by
  have h1:=ho x (by simp[Op.operands]) _ hx
  simp only[VRel]at h1
  refine⟨.int k2 c,by simp[VRel],?_⟩
  simp[execOp,h1,convert,Sem.run_bind,run_underlying hs,run_underlying ht,Conv.intToInt,hc]
theorem wrapU64{m:Nat}(h:m<18446744073709551616):IntKind.u64.wrap (m:Int)=m:=by rw[IntKind.wrap_u64];omega
end
theorem g_negK{P:Program}{ro:Option Nat}{env:Env}{σ:List Ent}{dst:Option Tmp}{ty:TypeId}{pos:String}{after:Array Edge}{guard:Option (Nat×Bool)}{x:Operand}{t:TypeId}{k:IntKind}{a c:Int}(hx:xP env x=some (.int k a))(hc:k.wrap (0-a)=c):
  GOp P ro ⟨dst,.unOp .neg t x,ty,pos,after,guard⟩ env σ (Is (.int k c) σ):=
 zA _ (by intro c h;cases h) fun X M e w hg ho=>by
  have h1:=ho x (by simp[Op.operands]) _ hx
  simp only[VRel]at h1
  refine⟨.int k c,by simp[VRel],?_⟩
  have e1:k.wrap (-a)=c:=by rw[←hc];congr 1;omega
  simp[execOp,h1,Op.unary,Op.intArith,Sem.run_bind,e1,hc]
theorem g_quoK{P:Program}{ro:Option Nat}{env:Env}{σ:List Ent}{dst:Option Tmp}{ty:TypeId}{pos:String}{after:Array Edge}{guard:Option (Nat×Bool)}{x y:Operand}{t yt:TypeId}{k:IntKind}{a b c:Int}(hx:xP env x=some (.int k a))(hy:xP env y=some (.int k b))(hb:b≠0)(hc:k.wrap (a.tdiv b)=c):
  GOp P ro ⟨dst,.binOp .quo t x y yt,ty,pos,after,guard⟩ env σ (Is (.int k c) σ):=
 zA _ (by intro c h;cases h) fun X M e w hg ho=>by
  have h1:=ho x (by simp[Op.operands]) _ hx
  have h2:=ho y (by simp[Op.operands]) _ hy
  simp only[VRel]at h1 h2
  exact⟨.int k c,by simp[VRel],by simp[execOp,h1,h2,eqGuard,binOp,Op.intDiv,Sem.run_bind,hb,hc]⟩
section
variable {P:Program} {ro:Option Nat} {le:List Ent→List Ent→Prop} {ops:Array Oper}
def lexO(ef:List Nat)(ops:Array Oper):Nat→List Nat→Array Bool→Bool
 |_,[],L=>(Region.ready .any ops L).isEmpty
 |k,i::r,L=>(if ef.contains k then Region.ready .any ops L==[i]else (Region.ready .any ops L).contains i&&Region.free .any ops L i)&&lexO ef ops (k+1) r (L.setIfInBounds i true)
theorem anyF_ord{ef:List Nat}{Q:EnvF→List Ent→Prop}(hrf: ∀a,le a a)(htr: ∀a b c,le a b→le b c→le a c): ∀(ord:List Nat) (l:List Oper) (k:Nat) (L:Array Bool) (e:EnvF) (σ:List Ent),l.map some=ord.map (ops[·]?)→
  lexO ef ops k ord L=true→WQ P ro le ef ops Q k l e σ→anyF P ro le ops Q l.length L e σ
 |[],[],_,_,_,_,_,hB,h=>⟨by simpa [lexO]using hB,h⟩
 |[],_::_,_,_,_,_,hl,_,_=>by cases hl
 |_::_,[],_,_,_,_,hl,_,_=>by cases hl
 |j::ord,o::l,k,L,e,σ,hl,hB,h=>by
  simp only[List.map_cons,List.cons.injEq]at hl
  obtain⟨h0,hl'⟩:=hl
  simp only[lexO,Bool.and_eq_true]at hB
  obtain⟨hr,hB'⟩:=hB
  rcases h with⟨he,hg,R,hR,hK⟩|⟨he,v,hy,hK⟩
  ·rw[if_pos he]at hr
   have hr':Region.ready .any ops L=[j]:=by simpa using hr
   refine⟨fun h=>(by rw[hr']at h;cases h),fun i hi=>?_⟩
   rw[hr',List.mem_singleton]at hi
   subst hi
   unfold stepF
   simp only[←h0]
   exact .inr ⟨hg,.inr ⟨R,hR,fun v σ' hr2=>⟨(hK v σ' hr2).1,anyF_ord hrf htr ord l (k+1) _ _ _ hl' hB' (hK v σ' hr2).2⟩⟩⟩
  ·rw[if_neg (by rw[he];simp),Bool.and_eq_true]at hr
   exact anyF_first hrf htr h0.symm l.length L e σ (Region.free_spec h0.symm hr.2) (by simpa using hr.1) hy
    (anyF_ord hrf htr ord l (k+1) _ _ _ hl' hB' hK)
def pick(l:List Oper)(ord:List Nat):List Oper:=ord.filterMap (l[·]?)
theorem pick_map{l:List Oper}{m:Nat}: ∀{ord:List Nat},m≤l.length→(ord.all fun i=>Nat.blt i m)=true→(pick l ord).map some=ord.map ((l.take m).toArray[·]?)
 |[],_,_=>rfl
 |i::ord,hm,h=>by
  simp only[List.all_cons,Bool.and_eq_true]at h
  have hi:i<m:=by simpa using h.1
  have e:l[i]?=some l[i]:=List.getElem?_eq_getElem (by omega)
  have e2:(l.take m).toArray[i]?=some l[i]:=by simp[List.getElem?_take,hi,e]
  have ih:=pick_map hm h.2
  unfold pick at ih ⊢
  rw[List.filterMap_cons_some e,List.map_cons,List.map_cons,ih,e2]
theorem ex_drawLO(kp:Ent→Prop){env:Env}{σ:List Ent}{mk:List Nat}{n:Nat}{Q:Exit→St→Prop}{l:List Oper}{id:Nat}(m:Nat)(ord ef:List Nat)(hm:P.follows .mixedOrders=true)(hB:vG [] l m=true)(hd:(l.all fun o=>uF o.dst n)=true)
  (hO:lexO ef (l.take m).toArray 0 ord (Array.replicate m false)=true) (hp:((ord.all fun i=>Nat.blt i m)&&Nat.beq ord.length m)=true)
  (h:WL P ro kp ef (l.take m).toArray (fun env σ=>EXL P ro l.toArray (l.drop m) Q ⟨env,σ,mk,n⟩) 0 (pick l ord) env σ):EX P ro (.region id l.toArray true) Q ⟨env,σ,mk,n⟩:=by
 refine⟨fun X M a w hs=>?_⟩
 refine wpIn_region_any hm ?_
 have hB0:=hB
 simp only[vG,Bool.and_eq_true,decide_eq_true_eq]at hB0
 obtain⟨⟨⟨⟨_,_⟩,hpre⟩,htail⟩,hn⟩:=hB0
 rw[Bool.and_eq_true]at hp
 obtain⟨hp1,hp2⟩:=hp
 have hol:ord.length=m:=by simpa using hp2
 have hd': ∀o∈l,uF o.dst n=true:=fun o ho=>List.all_eq_true.1 hd o ho
 have hpm:=pick_map hn hp1
 have hlen:(pick l ord).length=m:=by
  have:=congrArg List.length hpm
  simp only[List.length_map]at this
  omega
 have hany:=anyF_ord (le:=AddsK kp) (AddsK.refl) (fun _ _ _=>AddsK.trans) ord (pick l ord) 0 (Array.replicate m false) (lk env) σ hpm hO h.run
 rw[hlen]at hany
 have:=any_head (P:=P) (ro:=ro) (le:=AddsK kp) AddsK.refl (nn:=n) (ds:=marksD mk++X.dt) (Qr:=postA X M Q) (g:=l.length-m) (X:=X) (M0:=M) hB hn hpre hd' (Q:=fun e σ=> ∃env,lk env=e∧EXL P ro l.toArray (l.drop m) Q ⟨env,σ,mk,n⟩) ?_ m _ _ M (lk env) σ a _ (Goes.start hn) (Mem.le_refl M) ⟨hs.good.drew,hs.size,hs.defs,hs.env⟩ hany
 ·rw[List.size_toArray]
  rwa [show m+(l.length-m)=l.length by omega]at this
 ·intro M1 e σ a1 w1 hm1 hs1 hq
  obtain⟨env,rfl,hx⟩:=hq
  have h1:=hx.run X M1 a1 w1 ⟨hs1.good,hs1.size,hs1.defs,hs1.env⟩
  have h2:=wR (fun _ _ _ hp=>qT hm1 (fun _ _ h=>h) hp) _ _ _ h1
  have h3:=any_tail (l.drop m) m (fullB l m) (fun j=>by simp[List.getElem?_drop]) (by rw[List.length_drop];exact htail) a1 w1 h2
  rwa [List.length_drop]at h3
end
inductive SealEnvC(env:Env)(v:Value)(x:AV):Env→Prop
 |nil:SealEnvC env v x []
 |cons {t:Nat} {y y':AV} {r:Env} (h:lk env t=some y) (hc:Cv v x [y] [y']) (k:SealEnvC env v x r):SealEnvC env v x ((t,y')::r)
theorem SealEnvC.rel{v:Value}{x:AV}{env env':Env}{M M':Mem}{tmps:Array Value}(hm:M.le M')(hx:VRel M' x v)(he:EnvRel M env tmps)(h:SealEnvC env v x env'):EnvRel M' env' tmps:=by
 induction h with
 |nil=>intro t y hy;simp[lk]at hy
 |@cons t y y' r h hc k ih=>
  intro u z hz
  by_cases e:t=u
  ·subst e
   rw[uU]at hz
   cases hz
   obtain⟨q,h1,h2⟩:=he t y h
   have h3:=hc.rel hx (M:=M') (vs:=[q]) (by simp only[VRels];exact⟨q,[],rfl,VRel.mono hm _ _ h2,rfl⟩)
   simp only[VRels]at h3
   obtain⟨q',r',e1,h4,e2⟩:=h3
   cases e1
   exact⟨q,h1,h4⟩
  ·rw[qR e]at hz
   exact ih u z hz
theorem exl_shutC{P:Program}{ro:Option Nat}{env:Env}{σ σ1 σ':List Ent}{ops:Array Oper}{rest:List Oper}{Q:Exit→St→Prop}{mk:List Nat}{n:Nat}{v:Value}{e:TypeId}{sz:Nat}{l:List (List AV)}{env':Env}(hr:Rem σ (.row v e sz l) σ1)(hs:ShutEnts v (.dl sz l) σ1 σ')(he:SealEnvC env v (.dl sz l) env')(h:EXL P ro ops rest Q ⟨env',σ',mk,n⟩):EXL P ro ops rest Q ⟨env,σ,mk,n⟩:=
 ⟨fun X M a w hs'=>by
  obtain⟨M1,h1,h2,h3⟩:=hs'.good.shut hr
  exact wR (fun _ _ _ ⟨M',s',hm,hs2,hq⟩=>⟨M',s',Mem.le_trans h1 hm,hs2,hq⟩) _ _ _ (h.run X M1 a w ⟨h2.shutE h3 hs,hs'.size,hs'.defs,he.rel h1 h3 hs'.env⟩)⟩
theorem Good.perm{X:Fx}{M:Mem}{σ σ':List Ent}{w:World}(h:Good X M σ w)(hp:σ.Perm σ'):Good X M σ' w:=
 ⟨h.os,h.tape,h.output,h.mem,h.frm,h.dis,fun e he=>h.ent e (hp.mem_iff.2 he),fun e he=>h.own e (hp.mem_iff.2 he),(hp.filterMap Ent.block).nodup_iff.1 h.nod⟩
theorem Good.framed{X:Fx}{M:Mem}{σ τ:List Ent}{w:World}(hg:Good X M (σ++τ) w): ∃X',Good X' M σ w∧ ∀M' σ1 w',M.le M'→Good X' M' σ1 w'→Good X M' (σ1++τ) w':=by
 have hmem: ∀e∈τ,∀b,e.block=some b→(Ent.mem w τ) b=w.heap[b]?:=fun e he b hb=>by
  unfold Ent.mem;rw[if_pos (List.mem_map.2 ⟨e,he,hb⟩)]
 obtain⟨X',hX'⟩: ∃X':Fx,X'={w0:=X.w0,fr:=fun b=>(X.fr b).or (Ent.mem w τ b)}:=⟨_,rfl⟩
 have hnod:=hg.nod
 rw[List.filterMap_append,List.nodup_append]at hnod
 have hmt: ∀b o,Ent.mem w τ b=some o→ ∃e∈τ,e.block=some b:=fun b o ho=>by
  unfold Ent.mem at ho
  split at ho
  ·rename_i hb
   obtain⟨e,he,hb⟩:=List.mem_map.1 hb
   exact⟨e,he,hb⟩
  ·cases ho
 have hg':Good X' M σ w:=by
  refine⟨by rw[hX'];exact hg.os,by rw[hX'];exact hg.tape,by rw[hX'];exact hg.output,hg.mem,?_,?_,fun e he=>hg.ent e (List.mem_append.2 (.inl he)),?_,hnod.1⟩
  ·intro b o ho
   rw[hX']at ho
   simp only at ho
   cases hf:X.fr b with
   |some o'=>rw[hf]at ho;simp only[Option.some_or,Option.some.injEq]at ho;subst ho;exact hg.frm b _ hf
   |none=>
    rw[hf,Option.none_or]at ho
    unfold Ent.mem at ho
    split at ho
    ·exact ho
    ·cases ho
  ·intro b o ho
   rw[hX']
   simp only[hg.dis b o ho,Option.none_or]
   cases hm:Ent.mem w τ b with
   |none=>rfl
   |some o'=>
    obtain⟨e',he',hb'⟩:=hmt b o' hm
    have:=(hg.own e' (List.mem_append.2 (.inr he')) b hb').1
    rw[ho]at this;cases this
  ·intro e he b hb
   obtain⟨k1,k2⟩:=hg.own e (List.mem_append.2 (.inl he)) b hb
   refine⟨k1,?_⟩
   rw[hX']
   simp only[k2,Option.none_or]
   cases hm:Ent.mem w τ b with
   |none=>rfl
   |some o=>
    obtain⟨e',he',hb'⟩:=hmt b o hm
    exact absurd rfl (hnod.2.2 b (List.mem_filterMap.2 ⟨e,he,hb⟩) b (List.mem_filterMap.2 ⟨e',he',hb'⟩))
 refine⟨X',hg',fun M' σ1 w' hm hg1=>?_⟩
 have kept: ∀e∈τ,∀b,e.block=some b→w'.heap[b]?=w.heap[b]?:=fun e he b hb=>by
  have hlt:=Ent.block_lt (hg.ent e (List.mem_append.2 (.inr he))) hb
  have ho:w.heap[b]?=some w.heap[b]:=Array.getElem?_eq_getElem hlt
  rw[ho]
  refine hg1.frm b _ ?_
  rw[hX']
  have:=(hg.own e (List.mem_append.2 (.inr he)) b hb).2
  simp only[this,Option.none_or,hmem e he b hb,ho]
 refine⟨by have:=hg1.os;rw[hX']at this;exact this,by have:=hg1.tape;rw[hX']at this;exact this,by have:=hg1.output;rw[hX']at this;exact this,hg1.mem,?_,?_,?_,?_,?_⟩
 ·intro b o ho
  refine hg1.frm b o ?_
  rw[hX'];simp[ho]
 ·intro b o ho
  have:=hg1.dis b o ho
  rw[hX']at this
  simp only at this
  cases hf:X.fr b with
  |none=>rfl
  |some o=>rw[hf]at this;cases this
 ·intro e he
  rcases List.mem_append.1 he with he|he
  ·exact hg1.ent e he
  ·exact((hg.ent e (List.mem_append.2 (.inr he))).same (kept e he)).mono hm
 ·intro e he b hb
  rcases List.mem_append.1 he with he|he
  ·obtain⟨k1,k2⟩:=hg1.own e he b hb
   refine⟨k1,?_⟩
   rw[hX']at k2
   simp only at k2
   cases hf:X.fr b with
   |none=>rfl
   |some o=>rw[hf]at k2;cases k2
  ·obtain⟨k1,k2⟩:=hg.own e (List.mem_append.2 (.inr he)) b hb
   refine⟨?_,k2⟩
   cases hM:M' b with
   |none=>rfl
   |some o=>
    have hlt:=Ent.block_lt (hg.ent e (List.mem_append.2 (.inr he))) hb
    have hd:=hg1.dis b o hM
    rw[hX']at hd
    simp only[k2,Option.none_or,hmem e he b hb,Array.getElem?_eq_getElem hlt]at hd
    cases hd
 ·rw[List.filterMap_append,List.nodup_append]
  refine⟨hg1.nod,hnod.2.1,fun b hb b' hb' heq=>?_⟩
  subst heq
  obtain⟨e1,he1,hb1⟩:=List.mem_filterMap.1 hb
  obtain⟨e2,he2,hb2⟩:=List.mem_filterMap.1 hb'
  have k2:=(hg1.own e1 he1 b hb1).2
  rw[hX']at k2
  have:=(hg.own e2 (List.mem_append.2 (.inr he2)) b hb2).2
  have hlt:=Ent.block_lt (hg.ent e2 (List.mem_append.2 (.inr he2))) hb2
  simp only[this,Option.none_or,hmem e2 he2 b hb2,Array.getElem?_eq_getElem hlt]at k2
  cases k2
theorem SRound.frame{P:Program}{l:Nat}{args:List AV}{σ:List Ent}{Q:AV→List Ent→Prop}(τ:List Ent)(h:SRound P l args σ Q):SRound P l args (σ++τ) fun r σ'=> ∃σ1,σ'=σ1++τ∧Q r σ1:=
 ⟨fun X M w vs hg ha=>by
  obtain⟨X',h1,h2⟩:=hg.framed
  obtain⟨f,tmps,asg,body,k1,k2⟩:=h.run X' M w vs h1 ha
  exact⟨f,tmps,asg,body,k1,k2.mono fun _ _ ⟨M',σ',r,v,q1,q2,q3,q4,q5⟩=>⟨M',σ'++τ,r,v,q1,h2 M' σ' _ q1 q2,q3,q4,σ',rfl,q5⟩⟩⟩
theorem SRound.front{P:Program}{l:Nat}{args:List AV}{σ:List Ent}{Q:AV→List Ent→Prop}(τ:List Ent)(h:SRound P l args σ Q):SRound P l args (τ++σ) fun r σ'=> ∃σ1,σ'=τ++σ1∧Q r σ1:=
 ⟨fun X M w vs hg ha=>by
  obtain⟨f,tmps,asg,body,k1,k2⟩:=(h.frame τ).run X M w vs (hg.perm List.perm_append_comm) ha
  exact⟨f,tmps,asg,body,k1,k2.mono fun _ _ ⟨M',σ',r,v,q1,q2,q3,q4,σ1,e,q5⟩=>⟨M',τ++σ1,r,v,q1,by subst e;exact q2.perm List.perm_append_comm,q3,q4,σ1,rfl,q5⟩⟩⟩
theorem SCall.front{P:Program}{f:FuncId}{args:List AV}{σ:List Ent}{Q:AV→List Ent→Prop}(τ:List Ent)(h:SCall P f args σ Q):SCall P f args (τ++σ) fun r σ'=> ∃σ1,σ'=τ++σ1∧Q r σ1:=
 ⟨fun X M w vs hg ha=>((h.frame τ).run X M w vs (hg.perm List.perm_append_comm) ha).mono fun _ _ ⟨M',σ',r,v,q1,q2,q3,q4,σ1,e,q5⟩=>⟨M',τ++σ1,r,v,q1,by subst e;exact q2.perm List.perm_append_comm,q3,q4,σ1,rfl,q5⟩⟩
section
variable {P:Program} {ro:Option Nat} {env:Env} {σ σ':List Ent} {dst:Option Tmp} {ty:TypeId} {pos:String} {after:Array Edge} {guard:Option (Nat×Bool)}
theorem g_max3{x y z:Operand}{ats:Array TypeId}{k k' k2:IntKind}{a b c:Int}(hx:xP env x=some (.int k a))(hy:xP env y=some (.int k' b))(hz:xP env z=some (.int k2 c)):
  GOp P ro ⟨dst,.call {callee:=.builtin .max,args:=#[x,y,z],argTypes:=ats},ty,pos,after,guard⟩ env σ (Is (.int k (max (max a b) c)) σ):=
 zA _ (by intro c h;cases h) fun X M e w hg ho=>by
  have h1:=ho x (by simp[Op.operands,Call.operands]) _ hx
  have h2:=ho y (by simp[Op.operands,Call.operands]) _ hy
  have h3:=ho z (by simp[Op.operands,Call.operands]) _ hz
  simp only[VRel]at h1 h2 h3
  refine⟨.int k (max (max a b) c),by simp[VRel],?_⟩
  have e:(if c>(if b>a then b else a)then c else (if b>a then b else a))=max (max a b) c:=by split<;>split<;>omega
  have hr:(Builtin.max_ ats ty #[.int k a,.int k' b,.int k2 c]).run P w=.ok (.int k (if c>(if b>a then b else a)then c else (if b>a then b else a))) w:=by
   by_cases h:b>a
   ·by_cases h':c>b
    ·simp[Builtin.max_,Builtin.max2,h,h']
    ·simp[Builtin.max_,Builtin.max2,h,h']
   ·by_cases h':c>a
    ·simp[Builtin.max_,Builtin.max2,h,h']
    ·simp[Builtin.max_,Builtin.max2,h,h']
  simp[execOp,resolve,invoke,builtin,h1,h2,h3,Sem.run_bind,hr,e]
def arrOf(P:Program)(t:TypeId):Option Nat:=match P.underlying t with
 |some (.array _ e)=>(P.info? e).map (·.size)
 |_=>none
theorem g_buildArr{t:TypeId}{parts:Array (Nat×Operand)}{sz:Nat}{z L:List AV}{l:List (Nat×AV)}(hp:arrOf P t=some sz)(hz:zeroA P t=some z)(hl:partsA env parts.toList=some l)(hf:fillA (fun i=>some (i*sz,sz)) z l=some L):
  GOp P ro ⟨dst,.build t parts,ty,pos,after,guard⟩ env σ (Is (.agg L) σ):=
 zA _ (by intro c h;cases h) fun X M a w hg ho=>by
  obtain⟨i,zv,hi,hzv,rfl⟩:=pC hz
  obtain⟨k1,k2⟩:=partsA_rel (a:=a) (M:=M) (fun x hx v hv=>ho x (by simpa [Op.operands]using hx) v hv) hl
  obtain⟨c',h1,h2⟩:=fill_rel (fun i=>some (i*sz,sz)) l (parts.toList.map fun p=>(p.1,a.eval p.2)) _ zv.cells L (cAs_rel M _) k1 k2 hf
  refine⟨.agg c',⟨c',rfl,h2⟩,?_⟩
  unfold arrOf at hp
  cases hu:P.underlying t with
  |none=>rw[hu]at hp;cases hp
  |some d=>
   rw[hu]at hp
   cases d<;>first|cases hp|skip
   rename_i n e
   simp only[Option.map_eq_some_iff]at hp
   obtain⟨j,hj,rfl⟩:=hp
   simp only[execOp,Instr.build,Sem.run_bind,zeroValue,typeInfo,run_program,Result.andThen_ok,hi,Sem.run_pure,hzv,run_underlying hu,sizeOf,hj]
   simp[h1,Sem.run_bind]
end
section
variable {P:Program} {ro:Option Nat} {env:Env} {σ σ':List Ent} {dst:Option Tmp} {ty:TypeId} {pos:String} {after:Array Edge} {guard:Option (Nat×Bool)}
def arr2Of(P:Program)(t:TypeId):Bool:=match P.underlying t with
 |some (.array 2 e)=>match P.underlying e with
  |some (.int _)=>(P.info? e).isSome&&Nat.beq (P.cellsOf e) 1&&!P.eqGuardType P.depth t
  |_=>false
 |_=>false
def arr2A(P:Program)(t:TypeId):Bool:=match P.underlying t with
 |some (.array 2 _)=>true
 |_=>false
theorem run_arr2{t:TypeId}{k0 k1:IntKind}{a0 a1 b0 b1:Int}{xs ys:Array Value}(ht:arr2Of P t=true)(h1:xs[0]?=some (.int k0 a0))(h2:xs[1]?=some (.int k1 a1))(h3:ys[0]?=some (.int k0 b0))(h4:ys[1]?=some (.int k1 b1))(w:World):
  (Op.equalIn 10000 t (.agg xs) (.agg ys)).run P w=.ok ((a0==b0)&&(a1==b1)) w∧P.eqGuardType P.depth t=false:=by
 unfold arr2Of at ht
 split at ht
 ·rename_i e hu
  split at ht
  ·rename_i k he
   simp only[Bool.and_eq_true,Bool.not_eq_true',Option.isSome_iff_exists]at ht
   obtain⟨⟨⟨i,hi⟩,hc⟩,hg⟩:=ht
   have hc:P.cellsOf e=1:=by simpa using hc
   refine⟨?_,hg⟩
   rw[run_equalIn_array w 9999 xs ys hu hi,hc]
   have r1:=qN (P:=P) (isAgg_int he hi w) h1
   have r2:=qN (P:=P) (isAgg_int he hi w) h2
   have r3:=qN (P:=P) (isAgg_int he hi w) h3
   have r4:=qN (P:=P) (isAgg_int he hi w) h4
   have q1:(Op.equalIn 9999 e (.int k0 a0) (.int k0 b0)).run P w=.ok (a0==b0) w:=run_equalIn_int (P:=P) w 9998 e k0 k a0 b0 he
   have q2:(Op.equalIn 9999 e (.int k1 a1) (.int k1 b1)).run P w=.ok (a1==b1) w:=run_equalIn_int (P:=P) w 9998 e k1 k a1 b1 he
   have hr:List.range 2=[0,1]:=rfl
   rw[hr]
   simp only[Op.eqItems,Sem.run_bind,Nat.zero_mul,Nat.one_mul,r1,r2,r3,r4,Result.andThen_ok,q1,q2]
   cases hab:a0==b0
   ·simp
   ·cases hab2:a1==b1<;>simp[r2,r4,q2,hab2]
  ·cases ht
 ·cases ht
theorem g_eqlArr2{x y:Operand}{t yt:TypeId}{k0 k1:IntKind}{a0 a1 b0 b1:Int}(_:arr2A P t=true)(ht:arr2Of P t=true)(hx:xP env x=some (.agg [.int k0 a0,.int k1 a1]))(hy:xP env y=some (.agg [.int k0 b0,.int k1 b1])):
  GOp P ro ⟨dst,.binOp .eql t x y yt,ty,pos,after,guard⟩ env σ (Is (.bool ((a0==b0)&&(a1==b1))) σ):=
 zA _ (by intro c h;cases h) fun X M e w hg ho=>by
  have h1:=ho x (by simp[Op.operands]) _ hx
  have h2:=ho y (by simp[Op.operands]) _ hy
  simp only[VRel]at h1 h2
  obtain⟨vs,e1,k1'⟩:=h1
  obtain⟨us,e2,k2'⟩:=h2
  obtain⟨v0,p0,q0⟩:=k1'.get (i:=0) rfl
  obtain⟨v1,p1,q1⟩:=k1'.get (i:=1) rfl
  obtain⟨u0,p2,q2⟩:=k2'.get (i:=0) rfl
  obtain⟨u1,p3,q3⟩:=k2'.get (i:=1) rfl
  simp only[VRel]at q0 q1 q2 q3
  subst q0 q1 q2 q3
  obtain⟨hr,hg2⟩:=run_arr2 (P:=P) ht (by simpa using p0) (by simpa using p1) (by simpa using p2) (by simpa using p3) w
  refine⟨.bool ((a0==b0)&&(a1==b1)),by simp[VRel],?_⟩
  simp only[execOp,e1,e2,Sem.run_bind,run_eqGuard_agg w .eql t x y vs us hg2,Result.andThen_ok,run_eql_struct,hr]
  rfl
theorem g_neqArr2{x y:Operand}{t yt:TypeId}{k0 k1:IntKind}{a0 a1 b0 b1:Int}(_:arr2A P t=true)(ht:arr2Of P t=true)(hx:xP env x=some (.agg [.int k0 a0,.int k1 a1]))(hy:xP env y=some (.agg [.int k0 b0,.int k1 b1])):
  GOp P ro ⟨dst,.binOp .neq t x y yt,ty,pos,after,guard⟩ env σ (Is (.bool (!((a0==b0)&&(a1==b1)))) σ):=
 zA _ (by intro c h;cases h) fun X M e w hg ho=>by
  have h1:=ho x (by simp[Op.operands]) _ hx
  have h2:=ho y (by simp[Op.operands]) _ hy
  simp only[VRel]at h1 h2
  obtain⟨vs,e1,k1'⟩:=h1
  obtain⟨us,e2,k2'⟩:=h2
  obtain⟨v0,p0,q0⟩:=k1'.get (i:=0) rfl
  obtain⟨v1,p1,q1⟩:=k1'.get (i:=1) rfl
  obtain⟨u0,p2,q2⟩:=k2'.get (i:=0) rfl
  obtain⟨u1,p3,q3⟩:=k2'.get (i:=1) rfl
  simp only[VRel]at q0 q1 q2 q3
  subst q0 q1 q2 q3
  obtain⟨hr,hg2⟩:=run_arr2 (P:=P) ht (by simpa using p0) (by simpa using p1) (by simpa using p2) (by simpa using p3) w
  refine⟨.bool (!((a0==b0)&&(a1==b1))),by simp[VRel],?_⟩
  simp only[execOp,e1,e2,Sem.run_bind,run_eqGuard_agg w .neq t x y vs us hg2,Result.andThen_ok,run_neq_struct,hr]
  rfl
end
structure AF(P:Program)(ro:Option Nat)(kp:Ent→Prop)(ops:Array Oper)(F:Env→List Ent→Prop)(f:Nat)(L:Array Bool)(env:Env)(σ:List Ent):Prop where
 run:anyF P ro (AddsK kp) ops (fun e σ=> ∃env,lk env=e∧F env σ) f L (lk env) σ
section
variable {P:Program} {ro:Option Nat} {kp:Ent→Prop} {ops:Array Oper} {F:Env→List Ent→Prop} {f:Nat} {L L':Array Bool} {env:Env} {σ:List Ent} {o:Oper}
theorem ex_drawAF(kp:Ent→Prop){mk:List Nat}{n:Nat}{Q:Exit→St→Prop}{l:List Oper}{id:Nat}(m:Nat)(hm:P.follows .mixedOrders=true)(hB:vG [] l m=true)(hd:(l.all fun o=>uF o.dst n)=true)
  (h:AF P ro kp (l.take m).toArray (fun env σ=>EXL P ro l.toArray (l.drop m) Q ⟨env,σ,mk,n⟩) m (Array.replicate m false) env σ):EX P ro (.region id l.toArray true) Q ⟨env,σ,mk,n⟩:=by
 refine⟨fun X M a w hs=>?_⟩
 refine wpIn_region_any hm ?_
 have hB0:=hB
 simp only[vG,Bool.and_eq_true,decide_eq_true_eq]at hB0
 obtain⟨⟨⟨⟨_,_⟩,hpre⟩,htail⟩,hn⟩:=hB0
 have hd': ∀o∈l,uF o.dst n=true:=fun o ho=>List.all_eq_true.1 hd o ho
 have hany:=h.run
 have:=any_head (P:=P) (ro:=ro) (le:=AddsK kp) AddsK.refl (nn:=n) (ds:=marksD mk++X.dt) (Qr:=postA X M Q) (g:=l.length-m) (X:=X) (M0:=M) hB hn hpre hd' (Q:=fun e σ=> ∃env,lk env=e∧EXL P ro l.toArray (l.drop m) Q ⟨env,σ,mk,n⟩) ?_ m _ _ M (lk env) σ a _ (Goes.start hn) (Mem.le_refl M) ⟨hs.good.drew,hs.size,hs.defs,hs.env⟩ hany
 ·rw[List.size_toArray]
  rwa [show m+(l.length-m)=l.length by omega]at this
 ·intro M1 e σ a1 w1 hm1 hs1 hq
  obtain⟨env,rfl,hx⟩:=hq
  have h1:=hx.run X M1 a1 w1 ⟨hs1.good,hs1.size,hs1.defs,hs1.env⟩
  have h2:=wR (fun _ _ _ hp=>qT hm1 (fun _ _ h=>h) hp) _ _ _ h1
  have h3:=any_tail (l.drop m) m (fullB l m) (fun j=>by simp[List.getElem?_drop]) (by rw[List.length_drop];exact htail) a1 w1 h2
  rwa [List.length_drop]at h3
end
theorem pD{P:Program}{ro:Option Nat}{c:Code}{Q:Exit→St→Prop}{env:Env}{σ σ':List Ent}{mk:List Nat}{n:Nat}(hp:σ.Perm σ')(h:EX P ro c Q ⟨env,σ',mk,n⟩):EX P ro c Q ⟨env,σ,mk,n⟩:=
 ⟨fun X M a w hs=>h.run X M a w ⟨hs.good.perm hp,hs.size,hs.defs,hs.env⟩⟩
open Go.MapKept
structure MapE(es:Array MapEntry)(clock:Nat)(K:Int→Int)(n:Nat):Prop where
 st:Stamped es clock
 ks: ∀e∈es.toList,∃a,e.key=.int .i64 a∧K a≠0∧e.val=.int .i64 (K a)
 al: ∀a,K a≠0→ ∃e∈es.toList,e.key=.int .i64 a
 sz:es.size=n
def Hit(es:Array MapEntry)(seen:Array Nat)(q:Int):Prop:= ∃e∈es.toList,e.key=.int .i64 q∧seen.contains e.born=true
theorem Hit.none(es:Array MapEntry)(q:Int):¬ Hit es #[] q:=by
 rintro⟨e,_,_,h⟩;simp at h
theorem MapE.same{es:Array MapEntry}{clock n:Nat}{K:Int→Int}(h:MapE es clock K n){e f:MapEntry}(he:e∈es.toList)(hf:f∈es.toList)(hk:e.key=f.key∨e.born=f.born):e=f:=by
 obtain⟨i,hi⟩:=List.mem_iff_getElem?.1 he
 obtain⟨j,hj⟩:=List.mem_iff_getElem?.1 hf
 have hij:i=j:=by
  rcases hk with hk|hk
  ·have a1:(es.toList.map (·.key))[i]?=some e.key:=by rw[List.getElem?_map,hi];rfl
   have a2:(es.toList.map (·.key))[j]?=some e.key:=by rw[List.getElem?_map,hj,hk];rfl
   exact(List.getElem?_inj (List.getElem?_eq_some_iff.1 a1).1 h.st.2.2).1 (a1.trans a2.symm)
  ·have a1:(es.toList.map (·.born))[i]?=some e.born:=by rw[List.getElem?_map,hi];rfl
   have a2:(es.toList.map (·.born))[j]?=some e.born:=by rw[List.getElem?_map,hj,hk];rfl
   exact(List.getElem?_inj (List.getElem?_eq_some_iff.1 a1).1 h.st.2.1).1 (a1.trans a2.symm)
 subst hij
 rw[hi]at hj
 exact Option.some.inj hj
theorem MapE.push{es:Array MapEntry}{clock n:Nat}{K:Int→Int}(h:MapE es clock K n){e:MapEntry}(he:e∈es.toList){k:Int}(hk:e.key=.int .i64 k){seen:Array Nat}{q:Int}(hq:Hit es (seen.push e.born) q):Hit es seen q∨q=k:=by
 obtain⟨f,hf,hfk,hs⟩:=hq
 rw[contains_push,Bool.or_eq_true,beq_iff_eq]at hs
 rcases hs with hs|hs
 ·exact .inl ⟨f,hf,hfk,hs⟩
 ·obtain rfl:=h.same hf he (.inr hs)
  rw[hk]at hfk
  exact .inr (by simpa using hfk.symm)
theorem MapE.fresh{es:Array MapEntry}{clock n:Nat}{K:Int→Int}(h:MapE es clock K n){e:MapEntry}(he:e∈es.toList){k:Int}(hk:e.key=.int .i64 k){seen:Array Nat}(hs:seen.contains e.born=false):¬ Hit es seen k:=by
 rintro⟨f,hf,hfk,hs2⟩
 obtain rfl:=h.same hf he (.inl (by rw[hfk,hk]))
 rw[hs]at hs2;cases hs2
section
variable {P:Program} {ro:Option Nat} {env:Env} {σ:List Ent} {dst:Option Tmp} {ty:TypeId} {pos:String} {after:Array Edge} {guard:Option (Nat×Bool)}
end
end Go.Proofs.YtaoaafdommlhcaaGreat

/- Parts of the proof that belong together: Dj Sme Dk Dl Dm. -/
import Derived.Test.YtaoaafdommlhcaaGreatHA07
import Derived.Test.YtaoaafdommlhcaaGreatHA12
import Derived.Test.YtaoaafdommlhcaaGreatHA16
import Derived.Test.YtaoaafdommlhcaaGreatHA20
set_option maxRecDepth 10000
set_option maxHeartbeats 8000000
set_option linter.unusedSimpArgs false
set_option linter.unusedVariables false
set_option autoImplicit false
open Go.Proofs.Tryz
namespace Go.Proofs.YtaoaafdommlhcaaGreat
def numE:Nat→List Ded→List Ey
 |_,[]=>[]
 |i,x::l=>(i,x)::numE (i+1) l
theorem numE_snd: ∀(i:Nat) (l:List Ded),(numE i l).map (·.2)=l
 |_,[]=>rfl
 |i,x::l=>by simp[numE,numE_snd (i+1) l]
theorem numE_ent: ∀(i:Nat) (l:List Ded),(numE i l).map entC=l.map dedC
 |_,[]=>rfl
 |i,x::l=>by rw[numE,List.map_cons,List.map_cons,numE_ent (i+1) l]
theorem numE_len(i:Nat)(l:List Ded):(numE i l).length=l.length:=by rw[←List.length_map (f:=(·.2)),numE_snd]
theorem numE_ge: ∀{i:Nat} {l:List Ded} {e:Ey},e∈numE i l→i≤e.1
 |i,x::l,e,h=>by
  simp only[numE,List.mem_cons]at h
  rcases h with rfl|h
  ·exact Nat.le_refl _
  ·have:=numE_ge h;omega
theorem numE_up: ∀(i:Nat) (l:List Ded),(numE i l).Pairwise fun x y=>x.1<y.1
 |_,[]=>.nil
 |i,x::l=>List.pairwise_cons.2 ⟨fun y hy=>numE_ge hy,numE_up (i+1) l⟩
def voidB(l:List Ded)(known:Int)(n:Int):Bool:=l.any fun y=>(decide (y.kind=4)&&decide (y.known≤known))&&(n==y.of)
def goneB(l:List Ded)(hour known:Int)(x:Ded):Bool:=decide (x.kind=4)||decide (known<x.known)||decide (hour<x.at_)||voidB l known x.no
def vL(l:List Ded)(hour known:Int):List Ded:=(sortE (numE 0 (l.filter fun x=>!goneB l hour known x))).map (·.2)
theorem gone_c(l:List Ded)(hour known:Int)(x:Ded){b1 b2 b3 bm n:Nat}{σ:List Ent}(h1:Ent.cells b1 [.int .i64 known] 3∈σ)(h2:Ent.cells b2 [.int .i64 hour] 3∈σ)(h3:Ent.cells b3 [.mp bm] 55∈σ)(h4:Ent.imap bm (boolM (voidB l known)) n∈σ):
  SCall prog 222 [dedV x,.ptr b1 0,.ptr b2 0,.ptr b3 0] σ (Is (.bool (goneB l hour known x)) σ):=by
 refine zZ func222 rfl (by simp) ?_
 unfold goneB
 generalize voidB l known=S at h4 ⊢
 refine uZ ?_;and_intros<;>first|exact nl|intros
 all_goals
  refine zW .nil zG yY (zN ?_)
  first|rfl|(simp[*];done)|(rw[Bool.eq_iff_iff];simp[*];done)
theorem voidB_step{l:List Ded}{k:Nat}{x:Ded}(known:Int)(h:l[k]?=some x):voidB (l.take (k+1)) known=fun n=>voidB (l.take k) known n||((decide (x.kind=4)&&decide (x.known≤known))&&n==x.of):=by
 funext n
 unfold voidB
 rw[List.take_add_one,List.any_append,h]
 simp
theorem values_c(l:List Ded)(σ:List Ent):SCall prog 225 [deds l] σ (fun r τ=> ∃b,r=.fn (.func 263) [] [.ptr b 0]∧τ=.cells b [deds l] 32::σ):=by
 refine zZ func225 rfl (by simp) ?_
 refine yW ?_;intros
 rename Nat=>b;revert b
 intro b
 refine zS (σ3:=.cells b [deds l] 32::σ) .nil zG zJ ?_
 exact zY ⟨b,rfl,rfl⟩
theorem values1_c(l:List Ded)(b:Nat):Yields prog 263 [] [.ptr b 0] (l.map fun x=>[dedV x]) (fun τ=>Ent.cells b [deds l] 32∈τ):=by
 intro y σ I Stop hC hy h0
 refine zZ func263 rfl (by simp) ?_
 have m1:=hC _ _ h0
 refine yW ?_;intros
 refine jY (t:=5) rfl (by first|exact(List.length_map _).symm|rfl) (fun hlen=>?_)
 refine zU (fun(z:Nat×List Ent)=>(⟨[(0,.fn (.yield y) [] []),(5,deds l),(6,.int .i64 l.length),(7,.int .i64 (z.1:Nat))],z.2,[],f263.ntmps⟩:St)) (fun z=>z.1≤l.length∧I z.1 z.2) (fun z=>l.length-z.1) (0,σ) (⟨Nat.zero_le _,h0⟩) (St.le_of zC yY) ?_
 intro z hI
 obtain⟨k,τ⟩:=z
 obtain⟨hI1,hI2⟩:=hI
 dsimp only at hI1 hI2 ⊢
 clear m1 h0
 by_cases hk:k<l.length
 ·obtain⟨x,hx⟩:=zH hk
  have gx:=tW hx
  have hr:=hy k [dedV x] τ (by rw[List.getElem?_map,hx];rfl) hI2
  clear hx hy
  have hr2: ∀{bb:Nat} {Z:List AV} {T:TypeId},SRound prog y [dedV x] (.cells bb Z T::τ) fun r σ'=> ∃σ1,σ'=.cells bb Z T::σ1∧(r=.bool true∧I (k+1) σ1∨r=.bool false∧Stop σ1):=fun {bb Z T}=>by
   have:=SRound.front [.cells bb Z T] hr
   simpa using this
  repeat' first|(refine zge ?_;(refine zK rfl rfl rfl (tX rfl rfl hr2) ?_;rintro _ _ ⟨σ2,rfl,⟨rfl,hs⟩|⟨rfl,hs⟩⟩))|(refine yX ?_;intros)|(refine yV ?_ ?_<;>(intro z;cases z with|_ h)<;>intro hp)|exact nl|fail
  ·exact⟨(k+1,σ2),⟨hk,hs⟩,by dsimp only;omega,(St.le_of zC zJ)⟩
  ·refine zS (σ3:=σ2) .nil zG zJ ?_
   exact zY (.inr hs)
 ·obtain rfl:k=l.length:=by omega
  refine yW ?_;intros
  refine zS (σ3:=τ) .nil zG zJ ?_
  exact zY (.inl (by rw[List.length_map];exact hI2))
theorem counting_c(l:List Ded)(hl:l.length≤512)(hour known:Int)(σ:List Ent):
  SCall prog 160 [deds l,.int .i64 hour,.int .i64 known] σ (fun r τ=> ∃b,r=.fn (.func 263) [] [.ptr b 0]∧τ=.cells b [deds (vL l hour known)] 32::σ):=by
 refine zZ func160 rfl (by simp) ?_
 refine yW ?_;intros
 rename Nat=>bv;revert bv;rename Nat=>bm;revert bm;rename Nat=>bk;revert bk;rename Nat=>bh;revert bh
 intro bh bk bm bv
 refine jY (t:=11) rfl (by first|exact(List.length_map _).symm|rfl) (fun hlen=>?_)
 refine zU (fun(z:Nat×Nat)=>(⟨[(0,deds l),(4,.ptr bh 0),(5,.ptr bk 0),(7,.ptr bv 0),(11,deds l),(12,.int .i64 l.length),(13,.int .i64 (z.1:Nat))],.cells bv [.mp bm] 55::.imap bm (boolM (voidB (l.take z.1) known)) z.2::.cells bk [.int .i64 known] 3::.cells bh [.int .i64 hour] 3::σ,[],f160.ntmps⟩:St)) (fun z=>z.1≤l.length) (fun z=>l.length-z.1) (0,0) (Nat.zero_le _) (St.le_of zC yY) ?_
 intro z hI
 obtain⟨k,n⟩:=z
 dsimp only at hI ⊢
 by_cases hk:k<l.length
 ·obtain⟨x,hx⟩:=zH hk
  have gx:=tW hx
  have hst:=voidB_step known hx
  clear hx
  by_cases h4:x.kind=4∧x.known≤known
  ·have e1:(fun q=>voidB (l.take k) known q||q==x.of)=voidB (l.take (k+1)) known:=by
    rw[hst];funext q;rw[decide_eq_true h4.1,decide_eq_true h4.2];rfl
   obtain⟨h4a,h4b⟩:=h4
   generalize voidB (l.take k) known=S at e1 ⊢
   clear hst
   refine yW ?_;intros
   refine⟨(k+1,if (boolM S x.of).isSome=true then n else n+1),hk,by dsimp only;omega,?_⟩
   dsimp only
   rw[←e1]
   exact(St.le_of zC zJ)
  ·have e1:voidB (l.take k) known=voidB (l.take (k+1)) known:=by
    rw[hst]
    funext q
    have:(decide (x.kind=4)&&decide (x.known≤known))=false:=by rw[←Bool.decide_and];exact decide_eq_false h4
    rw[this];simp
   generalize voidB (l.take k) known=S at e1 ⊢
   clear hst
   have key:x.kind=4→¬ x.known≤known:=fun h1 h2=>h4 ⟨h1,h2⟩
   by_cases h5:x.kind=4
   ·have h6:=key h5
    clear key h4
    refine yW ?_;intros
    refine⟨(k+1,n),hk,by dsimp only;omega,?_⟩
    dsimp only
    rw[←e1]
    exact(St.le_of zC zJ)
   ·clear key h4
    refine yW ?_;intros
    refine⟨(k+1,n),hk,by dsimp only;omega,?_⟩
    dsimp only
    rw[←e1]
    exact(St.le_of zC zJ)
 ·obtain rfl:k=l.length:=by omega
  rw[List.take_length]
  have c1:=cloneD_c l (by omega)
  have c2:=fun(v:Value) (τ:List Ent) (h1:Ent.cells bk [.int .i64 known] 3∈τ) (h2:Ent.cells bh [.int .i64 hour] 3∈τ) (h3:Ent.cells bv [.mp bm] 55∈τ) (h4:Ent.imap bm (boolM (voidB l known)) n∈τ)=>
   deleteD_c l (by omega) 222 [.ptr bk 0,.ptr bh 0,.ptr bv 0] (goneB l hour known) v τ (zX (by kernel_rfl)) (fun c _ τ' hs=>gone_c l hour known c (hs _ h1) (hs _ h2) (hs _ h3) (hs _ h4))
  obtain⟨E,hE⟩: ∃E,numE 0 (l.filter fun x=>!goneB l hour known x)=E:=⟨_,rfl⟩
  have hEl:E.length≤2000:=by
   rw[←hE,numE_len];have:=List.length_filter_le (fun x=>!goneB l hour known x) l;omega
  have c3:=fun v τ=>sortStable_c E (by rw[←hE];exact numE_up _ _) hEl v τ
  have hr1: ∀v,Ent.row v 35 9 ((l.filter fun x=>!goneB l hour known x).map dedC)=rowE v E:=fun v=>by
   show _=Ent.row v _ 9 (E.map entC)
   rw[←hE,numE_ent]
  have hr2: ∀v,rowE v (sortE E)=.row v 35 9 ((vL l hour known).map dedC):=fun v=>by
   show Ent.row v _ 9 ((sortE E).map entC)=_
   unfold vL
   rw[hE,List.map_map];rfl
  generalize vL l hour known=C at hr2 ⊢
  clear hEl hE
  repeat' first|(refine zge ?_;first|(refine zK rfl rfl rfl (zQ rfl rfl (zX (by kernel_rfl)) (c1 _)) ?_;rintro _ _ ⟨v,rfl,rfl⟩)|(refine zK rfl rfl rfl (zQ rfl rfl (zX (by kernel_rfl)) (c2 v _ yP yP yP yP)) ?_;rintro _ _ ⟨v2,rfl,rfl⟩;rw[hr1])|(refine zK rfl rfl rfl (zQ rfl rfl (zX (by kernel_rfl)) (c3 v2 _)) ?_;rintro _ _ ⟨rfl,rfl⟩;rw[hr2]))|(show EX _ _ (Code.seq (Code.region 10 _ _) _) _ _;refine Stuck.out ?_)|(refine vW ?_;intros)|(refine yV ?_ ?_<;>(intro z;cases z with|_ h)<;>intro hp)|exact nl|fail
  all_goals try refine Stuck.mk ?_
  clear c1 c2 c3 hr1 hr2
  refine ex_seal (env':=[(0,deds C)]) .here (by repeat (first|exact .nil|refine .same rfl ?_|refine .here rfl ?_)) ?_
  repeat' first|(refine zge ?_;(refine zK rfl rfl rfl (zQ rfl rfl (zX (by kernel_rfl)) (values_c C _)) ?_;rintro _ _ ⟨b,rfl,rfl⟩))|(refine yX ?_;intros)|fail
  refine zS (σ3:=.cells b [deds C] 32::σ) .nil zG zJ ?_
  exact zY ⟨b,rfl,rfl⟩
open Go.WideMaps Go.MapKept Go.RowKit
section
variable {P:Program} {ro:Option Nat} {env:Env} {σ σ':List Ent} {o:Oper} {dst:Option Tmp} {ty:TypeId} {pos:String} {after:Array Edge} {guard:Option (Nat×Bool)}
theorem modify_same{es:Array MapEntry}{j:Nat}{e:MapEntry}{f g:MapEntry→MapEntry}(hj:es[j]?=some e)(h:f e=g e):es.modify j f=es.modify j g:=by
 apply Array.ext_getElem?
 intro i
 rw[Array.getElem?_modify,Array.getElem?_modify]
 by_cases hij:j=i
 ·subst hij;rw[if_pos rfl,if_pos rfl,hj];simp[h]
 ·rw[if_neg hij,if_neg hij]
inductive EntriedK(b:Nat)(sh:List Bool)(f:List KL→Option KL)(n:Nat)(k:List KL)(v:KL)(σ1:Ent→List Ent):AV→List Ent→Prop
 |mk (es:Array MapEntry) (clock:Nat) (e:MapEntry) (hE:MK es clock sh f n) (he:e∈es.toList) (hk:e.key=keyL k):EntriedK b sh f n k v σ1 (.tup [v.av,.int .i64 (e.born:Int)]) (σ1 (.obj b (.map es clock)))
theorem wS{t kt et:TypeId}{x ix:Operand}{b n:Nat}{sh:List Bool}{f:List KL→Option KL}{k:List KL}{l:List AV}{z:KL}{σ1:Ent→List Ent}(ht:kmOf P t=some (kt,et))(K:KeyLaw P kt)(hk:kmKey P kt sh=true)(hz:zeroV P et=some z.av)(hx:xP env x=some (.mp b))(hi:xP env ix=some (.agg l))(hl:l=k.map KL.av)(hkf:KFit sh k)(hu: ∀e,Upd σ (.kmap b sh f n) e (σ1 e)):
  GOp P ro ⟨dst,.mapEntry t x ix,ty,pos,after,guard⟩ env σ (EntriedK b sh (xN f k ((f k).getD z)) (cntK f k n) k ((f k).getD z) σ1):=
 wJ (by intro c h;cases h) fun X M a w hg ho=>by
  subst hl
  have h1:=ho x (by simp[Op.operands]) _ hx
  have h2:=kl_key (ho ix (by simp[Op.operands]) _ hi)
  simp only[VRel]at h1
  obtain⟨zv,hz1,hz2⟩:=zeroV_spec hz
  have hz2:=kl_rel (hz2 M)
  subst hz2
  have hent:=hg.ent _ (hu (.kmap b sh f n)).mem
  obtain⟨es,clock,hb,hE⟩:=hent
  obtain⟨kl,hkl,hc⟩:=mk_find K hk hE hkf w
  have hfin: ∀es' clock' (e:MapEntry),MK es' clock' sh (xN f k ((f k).getD z)) (cntK f k n)→e∈es'.toList→e.key=keyL k→(Instr.mapEntry t (.map (some b)) (keyL k)).run P w=.ok (.tuple #[((f k).getD z).val,.int .i64 (e.born:Int)]) {w with heap:=w.heap.setIfInBounds b (.map es' clock')}→
    ∃M' u w' r σ1',M.le M'∧Good X M' σ1' w'∧VRel M' r u∧EntriedK b sh (xN f k ((f k).getD z)) (cntK f k n) k ((f k).getD z) σ1 r σ1'∧((execOp a.eval ⟨dst,.mapEntry t x ix,ty,pos,after,guard⟩).run P w=.ok (.value u) w'∨((execOp a.eval ⟨dst,.mapEntry t x ix,ty,pos,after,guard⟩).run P w=.ok .skip w'∧u=undef)):=by
   intro es' clock' e hE' he hek hrun
   refine⟨M,.tuple #[((f k).getD z).val,.int .i64 (e.born:Int)],{w with heap:=w.heap.setIfInBounds b (.map es' clock')},_,_,Mem.le_refl M,?_,?_,.mk es' clock' e hE' he hek,.inl ?_⟩
   ·exact hg.upd (hu _) rfl rfl rfl (fun q hq hne=>(heap_set hb).2 q (fun e=>hne (by rw[e];rfl))) (heap_set hb).1 (.inl rfl)
   rotate_left
   ·simp only[execOp,h1,h2,Sem.run_bind,hrun,Result.andThen_ok,Sem.run_pure]
   ·simp only[VRel,VRels]
    exact⟨_,rfl,_,_,rfl,kl_av M _,_,_,rfl,rfl,rfl⟩
  rcases hc with⟨hf,hno⟩|⟨j,e,y,hf,hj,he,hy,hev⟩
  ·have hg0:(f k).getD z=z:=by rw[hno];rfl
   have hn1:cntK f k n=n+1:=by unfold cntK;rw[hno];rfl
   refine hfin (es.push {key:=keyL k,val:=z.val,born:=clock}) (clock+1) {key:=keyL k,val:=z.val,born:=clock} ?_ (by simp) rfl ?_
   ·rw[hg0,hn1];exact hE.push hkf z hno
   ·rw[hg0]
    simp[Instr.mapEntry,Sem.run_bind,run_underlying (tF ht),MapKept.run_getObj_map hb,K.check w _ hkl,hf,hz1,MapKept.run_setObj_map _ hb,Result.andThen,goInt]
  ·have hg0:(f k).getD z=y:=by rw[hy];rfl
   have hn1:cntK f k n=n:=by unfold cntK;rw[hy];rfl
   have hms:=modify_same (f:=fun e=>{e with key:=keyL k}) (g:=fun e=>{e with key:=keyL k,val:=y.val}) hj (by simp[hev])
   have hst:=hE.store y hj he
   refine hfin (es.modify j fun e=>{e with key:=keyL k}) clock {e with key:=keyL k} ?_ ?_ rfl ?_
   ·rw[hg0,hn1,hms];exact hst
   ·refine List.mem_of_getElem? (i:=j) ?_
    rw[Array.getElem?_toList,Array.getElem?_modify,if_pos rfl,hj];rfl
   ·rw[hg0,←hev]
    simp[Instr.mapEntry,Sem.run_bind,run_underlying (tF ht),MapKept.run_getObj_map hb,K.check w _ hkl,hf,hj,he,K.stays w hkl,MapKept.run_setObj_map _ hb,Result.andThen,goInt]
theorem xC{t kt et:TypeId}{x ix:Operand}{b n clock:Nat}{es:Array MapEntry}{sh:List Bool}{f:List KL→Option KL}{k:List KL}{l:List AV}{z v:KL}{r:AV}(ht:kmOf P t=some (kt,et))(K:KeyLaw P kt)(hk:kmKey P kt sh=true)(hz:zeroV P et=some z.av)(hx:xP env x=some (.mp b))(hE:MK es clock sh f n)(hm:Ent.obj b (.map es clock)∈σ)(hi:xP env ix=some (.agg l))(hl:l=k.map KL.av)(hkf:KFit sh k)(hv:(f k).getD z=v)(hr:v.av=r):
  GOp P ro ⟨dst,.lookup t x ix false,ty,pos,after,guard⟩ env σ (Is r σ):=
 zA _ (by intro c h;cases h) fun X M a w hg ho=>by
  subst hl hv hr
  have h1:=ho x (by simp[Op.operands]) _ hx
  have h2:=kl_key (ho ix (by simp[Op.operands]) _ hi)
  simp only[VRel]at h1
  obtain⟨zv,hz1,hz2⟩:=zeroV_spec hz
  have hz2:=kl_rel (hz2 M)
  subst hz2
  have hb:w.heap[b]?=some (.map es clock):=hg.ent _ hm
  obtain⟨kl,hkl,hc⟩:=mk_find K hk hE hkf w
  refine⟨((f k).getD z).val,kl_av M _,?_⟩
  rcases hc with⟨hf,hno⟩|⟨j,e,y,hf,hj,he,hy,hev⟩
  ·simp[execOp,h1,h2,Sem.run_bind,Instr.lookup,run_underlying (tF ht),MapKept.run_getObj_map hb,K.check w _ hkl,hf,hz1,Result.andThen,hno]
  ·simp[execOp,h1,h2,Sem.run_bind,Instr.lookup,run_underlying (tF ht),MapKept.run_getObj_map hb,K.check w _ hkl,hf,Result.andThen,hy,hev]
theorem find_born{es:Array MapEntry}{clock n:Nat}{sh:List Bool}{f:List KL→Option KL}(hE:MK es clock sh f n){e:MapEntry}(he:e∈es.toList): ∃j,es.findIdx? (fun x=>(x.born:Int)==(e.born:Int))=some j∧es[j]?=some e:=by
 obtain⟨j,hj⟩:=List.mem_iff_getElem?.1 he
 rw[Array.getElem?_toList]at hj
 cases hf:es.findIdx? (fun x=>(x.born:Int)==(e.born:Int)) with
 |none=>
  rw[Array.findIdx?_eq_none_iff]at hf
  have:=hf e (Array.mem_toList_iff.1 he)
  simp at this
 |some i=>
  obtain⟨hi,h1,_⟩:=Array.findIdx?_eq_some_iff_getElem.1 hf
  have hb:es[i].born=e.born:=by
   have:=h1;simp only[beq_iff_eq]at this;omega
  have hs:=hE.same (e:=es[i]) (f:=e) (Array.mem_toList_iff.2 (Array.getElem_mem hi)) he (.inr hb)
  exact⟨i,rfl,by rw[Array.getElem?_eq_getElem hi,hs]⟩
theorem xQ{t:TypeId}{x s y:Operand}{b n clock:Nat}{es:Array MapEntry}{e:MapEntry}{sh:List Bool}{f f':List KL→Option KL}{k:List KL}{v:KL}{r:AV}(hE:MK es clock sh f n)(he:e∈es.toList)(hk:e.key=keyL k)(hx:xP env x=some (.mp b))(hs:xP env s=some (.int .i64 (e.born:Int)))(hy:xP env y=some r)(hr:r=v.av)(hu:Upd σ (.obj b (.map es clock)) (.kmap b sh f' n) σ')(hf:xN f k v=f'):
  GOp P ro ⟨dst,.entryStore t x s y,ty,pos,after,guard⟩ env σ (Is (.raw undef) σ'):=
 wJ (by intro c h;cases h) fun X M a w hg ho=>by
  subst hf hr
  have h1:=ho x (by simp[Op.operands]) _ hx
  have h2:=ho s (by simp[Op.operands]) _ hs
  have h3:=kl_rel (ho y (by simp[Op.operands]) _ hy)
  simp only[VRel]at h1 h2
  have hb:w.heap[b]?=some (.map es clock):=hg.ent _ hu.mem
  obtain⟨j,hfi,hj⟩:=find_born hE he
  have hms:=modify_same (f:=fun e=>{e with val:=v.val}) (g:=fun e=>{e with key:=keyL k,val:=v.val}) hj (by simp[hk])
  have hst:=hE.store v hj hk
  rw[←hms]at hst
  have hrun:(Instr.entryStore t (.map (some b)) (.int .i64 (e.born:Int)) v.val).run P w=.ok () {w with heap:=w.heap.setIfInBounds b (.map (es.modify j fun e=>{e with val:=v.val}) clock)}:=by
   simp[Instr.entryStore,Sem.run_bind,MapKept.run_getObj_map hb,asInt,asIntOf,hfi,MapKept.run_setObj_map _ hb,Result.andThen]
  refine⟨M,undef,{w with heap:=w.heap.setIfInBounds b (.map (es.modify j fun e=>{e with val:=v.val}) clock)},.raw undef,σ',Mem.le_refl M,?_,by simp[VRel],.mk,.inr ⟨?_,rfl⟩⟩
  ·exact hg.upd hu rfl rfl rfl (fun q hq hne=>(heap_set hb).2 q (fun e=>hne (by rw[e];rfl))) ⟨_,_,(heap_set hb).1,hst⟩ (.inl rfl)
  ·simp[execOp,h1,h2,h3,Sem.run_bind,hrun]
theorem wA(f:List KL→Option KL)(k:List KL)(x y:KL):xN (xN f k x) k y=xN f k y:=by
 funext q
 unfold xN
 split<;>rfl
end
open Go.WideMaps
theorem tK:KeyLaw prog 263:=deep_law_laid (by kernel_rfl) (m:=3) (by omega) (of_decide_eq_true (by kernel_rfl)) (by kernel_rfl) (by kernel_rfl)
theorem tJ:kmKey prog 263 [false,false]=true:=by kernel_rfl
abbrev BkF:=List KL→Option KL
def zV(f:BkF)(k:List KL):Int:=match f k with|some (.i n)=>n|_=>0
def IntV(f:BkF):Prop:= ∀k x,f k=some x→ ∃n,x=.i n
theorem xZ{f:BkF}(h:IntV f)(k:List KL):(f k).getD (.i 0)=.i (zV f k):=by
 unfold zV
 cases hf:f k with
 |none=>rfl
 |some x=>obtain⟨n,rfl⟩:=h k x hf;rfl
theorem vH{f:BkF}(h:IntV f)(k:List KL):((xN f k ((f k).getD (.i 0))) k).getD (.i 0)=.i (zV f k):=by rw[←xZ h];simp[xN]
theorem IntV.upd{f:BkF}(h:IntV f)(k:List KL)(v:Int):IntV (xN f k (.i v)):=fun q x hq=>by
 unfold xN at hq
 split at hq
 ·cases hq;exact⟨v,rfl⟩
 ·exact h q x hq
theorem IntV.del{f:BkF}(h:IntV f)(k:List KL):IntV (delK f k):=fun q x hq=>by
 unfold delK at hq
 split at hq
 ·cases hq
 ·exact h q x hq
def vY(f:BkF)(k:List KL)(v:Int):BkF:=xN f k (.i (zV f k+v))
theorem IntV.add{f:BkF}(h:IntV f)(k:List KL)(v:Int):IntV (vY f k v):=h.upd k _
theorem wD(f:BkF)(k q:List KL)(v:Int):zV (vY f k v) q=zV f q+if q=k then v else 0:=by
 by_cases h:q=k
 ·subst h;simp[zV,vY,xN]
 ·rw[if_neg h];simp[zV,vY,xN,h]
theorem valK_del(f:BkF)(k q:List KL):zV (delK f k) q=if q=k then 0 else zV f q:=by
 by_cases h:q=k
 ·subst h;simp[zV,delK]
 ·rw[if_neg h];simp[zV,delK,h]
theorem tP{a b:Int}(ha: -9223372036854775808≤a∧a≤9223372036854775807)(hb: -9223372036854775808≤b∧b≤9223372036854775807):KFit [false,false] (K2 a b):=⟨ha,hb,trivial⟩
theorem lapse_c(x:Ded)(n:Int)(b:AV)(σ:List Ent):SCall prog 261 [b,dedV x,.int .i64 n] σ (Is (.tup []) σ):=by
 refine zZ func261 rfl (by simp) ?_
 refine yW ?_;intros
 refine zS (σ3:=σ) .nil zG zJ ?_
 exact zY .mk
theorem pass_c(x:Ded)(n:Int)(f:BkF)(hf:IntV f)(hr:0≤x.right∧x.right≤1000)(ht:0≤x.to∧x.to≤1000)(hb: -4611686018427387904≤zV f (K2 x.right x.to)+n∧zV f (K2 x.right x.to)+n≤4611686018427387904)(b m:Nat)(σ:List Ent):
  SCall prog 259 [.mp b,dedV x,.int .i64 n] (.kmap b [false,false] f m::σ) (fun r τ=>r=.tup []∧ ∃m',τ=.kmap b [false,false] (vY f (K2 x.right x.to) n) m'::σ):=by
 refine zZ func259 rfl (by simp) ?_
 have hk:KFit [false,false] (K2 x.right x.to):=tP (by omega) (by omega)
 refine yW ?_;intros
 rename Nat=>bx;revert bx
 intro bx
 refine yB (fun e=>e=.cells bx (dedC x) 35) [6,9] 11 rfl (by kernel_rfl) rfl ?_
 simp only[List.take_succ_cons,List.take_zero,List.drop_succ_cons,List.drop_zero]
 repeat' first|(refine zgd ?_;first|(refine xH rfl rfl (zR (z:=.i 0) (k:=K2 x.right x.to) rfl tK tJ rfl rfl yP rfl rfl hk (xZ hf _) rfl) ?_)|(refine yN rfl rfl (wS (z:=.i 0) (k:=K2 x.right x.to) rfl tK tJ rfl rfl rfl rfl hk (fun _=>Upd.there Upd.here)) ?_;rintro _ _ ⟨es,clock,e,hE,he,hek⟩;refine⟨zks,?_⟩)|(refine xH rfl rfl (xC (z:=.i 0) (k:=K2 x.right x.to) rfl tK tJ rfl rfl hE yP rfl rfl hk (vH hf _) rfl) ?_))|(refine xD (.entryStore _ _ _ _) ?_;refine yE rfl rfl (xQ (v:=.i _) hE he hek rfl rfl rfl rfl (Upd.there Upd.here) (wA _ _ _ _)) ?_)|(refine yX ?_;intros)|refine vX rfl rfl rfl ?_ ?_|fail
 all_goals
  refine zS (σ3:=.kmap b [false,false] (vY f (K2 x.right x.to) n) (cntK f (K2 x.right x.to) m)::σ) .nil zG zJ ?_
  exact zY ⟨rfl,_,rfl⟩
def kS(n:Int)(p:Prt):Int:=(p.share.n*n).fdiv p.share.d
def vU(r:Int)(v:Prt→Int)(l:List Prt)(f:BkF):BkF:=l.foldl (fun f p=>vY f (K2 r p.farm) (v p)) f
theorem addsK_snoc(r:Int)(v:Prt→Int)(l:List Prt)(p:Prt)(f:BkF):vU r v (l++[p]) f=vY (vU r v l f) (K2 r p.farm) (v p):=by simp[vU]
theorem addsK_int{r:Int}{v:Prt→Int}: ∀{l:List Prt} {f:BkF},IntV f→IntV (vU r v l f)
 |[],_,h=>h
 |p::l,_,h=>addsK_int (l:=l) (h.add _ _)
theorem addsK_bound{r:Int}{v:Prt→Int}{B M:Int}: ∀{l:List Prt} {f:BkF},(∀q,0≤zV f q∧zV f q≤B)→(∀p∈l,0≤v p∧v p≤M)→ ∀q,0≤zV (vU r v l f) q∧zV (vU r v l f) q≤B+l.length*M
 |[],f,hB,_,q=>by simpa [vU]using hB q
 |p::l,f,hB,hv,q=>by
  have hp:=hv p (by simp)
  have hv2: ∀y∈l,0≤v y∧v y≤M:=fun y hy=>hv y (by simp[hy])
  have h1: ∀q,0≤zV (vY f (K2 r p.farm) (v p)) q∧zV (vY f (K2 r p.farm) (v p)) q≤B+M:=fun q=>by
   rw[wD];have:=hB q;split<;>omega
  have:=addsK_bound (r:=r) (v:=v) (B:=B+M) (M:=M) (l:=l) h1 hv2 q
  simp only[vU,List.foldl_cons,List.length_cons]at this ⊢
  have e:((l.length+1:Nat):Int)*M=l.length*M+M:=by rw[Int.natCast_add,Int.add_mul];simp
  rw[e];omega
def splitF(x:Ded)(n:Int)(f:BkF):BkF:=vU x.right (fun _=>1) (x.parts.take (n-zF (kS n) x.parts).toNat) (vU x.right (kS n) x.parts f)
theorem split_c(x:Ded)(n:Int)(f:BkF)(hf:IntV f)(hr:0≤x.right∧x.right≤1000)(hn:0≤n∧n≤1073741824)(hln:x.parts.length≤16)(hP: ∀p∈x.parts,(0≤p.farm∧p.farm≤1000)∧pQ p.share=true∧0≤kS n p∧kS n p≤1073741824)(hs:0≤n-zF (kS n) x.parts∧n-zF (kS n) x.parts≤x.parts.length)
  (hb: ∀q,0≤zV f q∧zV f q≤1099511627776) (b m:Nat) (σ:List Ent):
  SCall prog 260 [.mp b,dedV x,.int .i64 n] (.kmap b [false,false] f m::σ) (fun r τ=>r=.tup []∧ ∃m',τ=.kmap b [false,false] (splitF x n f) m'::σ):=by
 refine zZ func260 rfl (by simp) ?_
 have hB: ∀k,k≤x.parts.length→ ∀q,0≤zV (vU x.right (kS n) (x.parts.take k) f) q∧zV (vU x.right (kS n) (x.parts.take k) f) q≤1116691496960:=fun k hk q=>by
  have:=addsK_bound (r:=x.right) (v:=kS n) (B:=1099511627776) (M:=1073741824) hb (l:=x.parts.take k) (fun p h=>(hP p (List.mem_of_mem_take h)).2.2) q
  rw[List.length_take,Nat.min_eq_left hk]at this
  have e:(k:Int)*1073741824≤17179869184:=by omega
  omega
 have hS: ∀k,k≤x.parts.length→0≤zF (kS n) (x.parts.take k)∧zF (kS n) (x.parts.take k)≤17179869184:=fun k hk=>by
  refine⟨uQ fun p h=>(hP p (List.mem_of_mem_take h)).2.2.1,?_⟩
  have h1:=kN (f:=kS n) (g:=fun _=>1073741824) (l:=x.parts.take k) fun p h=>(hP p (List.mem_of_mem_take h)).2.2.2
  have h2: ∀l:List Prt,zF (fun _=>(1073741824:Int)) l=l.length*1073741824:=fun l=>by
   induction l with
   |nil=>rfl
   |cons a l ih=>simp only[zF,ih,List.length_cons];omega
  rw[h2,List.length_take,Nat.min_eq_left hk]at h1
  omega
 refine yW ?_;intros
 rename Nat=>bx;revert bx
 intro bx
 refine jY (t:=16) rfl (by first|exact(List.length_map _).symm|rfl) (fun hlen=>?_)
 have hst: ∀k p,x.parts[k]?=some p→x.parts.take (k+1)=x.parts.take k++[p]:=fun k p h=>by rw[List.take_add_one,h];rfl
 refine zU (fun(z:Int×Nat×Nat)=>(⟨[(0,.mp b),(2,.int .i64 n),(4,.ptr bx 0),(6,.int .i64 z.1),(16,prts x.parts),(17,.int .i64 x.parts.length),(18,.int .i64 (z.2.1:Nat))],.cells bx (dedC x) 35::.kmap b [false,false] (vU x.right (kS n) (x.parts.take z.2.1) f) z.2.2::σ,[],f260.ntmps⟩:St)) (fun z=>z.2.1≤x.parts.length∧z.1=n-zF (kS n) (x.parts.take z.2.1)) (fun z=>x.parts.length-z.2.1) (n,0,m) (⟨Nat.zero_le _,by simp[zF]⟩) (St.le_of zC yY) ?_
 intro z hI
 obtain⟨left,k,m1⟩:=z
 obtain⟨hI1,hI2⟩:=hI
 dsimp only at hI1 hI2 ⊢
 by_cases hk:k<x.parts.length
 ·obtain⟨p,hx⟩:=zH hk
  have gx:=prt_get hx
  have hpk:=hst k p hx
  obtain⟨⟨f1,f2⟩,o1,l1,l2⟩:=hP p (List.mem_of_getElem? hx)
  have ct:=fun τ=>timesR_c p.share n o1 (by omega) τ
  have hb1:=hB k hI1 (K2 x.right p.farm)
  have hs1:=hS k hI1
  have hI3:left-kS n p=n-zF (kS n) (x.parts.take (k+1)):=by rw[hpk,vQ,hI2];simp only[zF];omega
  have hfi:IntV (vU x.right (kS n) (x.parts.take k) f):=addsK_int hf
  have hnew:vU x.right (kS n) (x.parts.take (k+1)) f=vY (vU x.right (kS n) (x.parts.take k) f) (K2 x.right p.farm) (kS n p):=by rw[hpk,addsK_snoc]
  have hkf:KFit [false,false] (K2 x.right p.farm):=tP (by omega) (by omega)
  rw[show (p.share.n*n).fdiv p.share.d=kS n p from rfl]at ct
  have hlft: -17179869184≤left∧left≤17179869184:=by omega
  generalize vU x.right (kS n) (x.parts.take k) f=g at hb1 hfi hnew ⊢
  generalize kS n p=lo at ct l1 l2 hI3 hnew
  generalize-((-p.share.n*n).fdiv p.share.d)=hi at ct
  clear hB hS hs hb hx hpk hI2 hs1 o1
  repeat' first|(apply yQ;exact zD;rfl;rfl;refine zL ?_;exact ct _)|(refine xV ?_;and_intros<;>first|exact nl|intros)|fail
  rename Nat=>bp;revert bp
  intro bp
  refine yB (fun e=>e=.cells bx (dedC x) 35∨e=.cells bp (prtC p) 307) [6,9] 11 rfl (by kernel_rfl) rfl ?_
  simp only[List.take_succ_cons,List.take_zero,List.drop_succ_cons,List.drop_zero]
  repeat' first|(refine zgd ?_;first|(refine xH rfl rfl (zR (z:=.i 0) (k:=K2 x.right p.farm) rfl tK tJ rfl rfl yP rfl rfl hkf (xZ hfi _) rfl) ?_)|(refine yN rfl rfl (wS (z:=.i 0) (k:=K2 x.right p.farm) rfl tK tJ rfl rfl rfl rfl hkf (fun _=>Upd.there (Upd.there Upd.here))) ?_;rintro _ _ ⟨es,clock,e,hE,he,hek⟩;refine⟨zks,?_⟩)|(refine xH rfl rfl (xC (z:=.i 0) (k:=K2 x.right p.farm) rfl tK tJ rfl rfl hE yP rfl rfl hkf (vH hfi _) rfl) ?_))|(refine xD (.entryStore _ _ _ _) ?_;refine yE rfl rfl (xQ (v:=.i _) hE he hek rfl rfl rfl rfl (Upd.there (Upd.there Upd.here)) (wA _ _ _ _)) ?_)|(refine yX ?_;intros)|refine vX rfl rfl rfl ?_ ?_|fail
  all_goals
   refine⟨(left-lo,k+1,cntK g (K2 x.right p.farm) m1),⟨hk,hI3⟩,by dsimp only;omega,?_⟩
   dsimp only
   rw[hnew]
   exact(St.le_of zC zJ)
 ·obtain rfl:k=x.parts.length:=by omega
  rw[List.take_length]at hI2 ⊢
  have hB2:=hB x.parts.length (Nat.le_refl _)
  rw[List.take_length]at hB2
  unfold splitF
  obtain⟨j,hj⟩: ∃j:Nat,left=(j:Int):=⟨left.toNat,by omega⟩
  have hjl:j≤x.parts.length:=by omega
  have hjn:(n-zF (kS n) x.parts).toNat=j:=by omega
  rw[hjn]
  subst hj
  have hgi:IntV (vU x.right (kS n) x.parts f):=addsK_int hf
  generalize vU x.right (kS n) x.parts f=g at hB2 hgi ⊢
  obtain⟨L,hL⟩: ∃L,x.parts.take j=L:=⟨_,rfl⟩
  have hLl:L.length=j:=by rw[←hL,List.length_take];omega
  have hLm: ∀p∈L,0≤p.farm∧p.farm≤1000:=fun p h=>by rw[←hL]at h;exact(hP p (List.mem_of_mem_take h)).1
  have hB3: ∀k,k≤L.length→ ∀q,0≤zV (vU x.right (fun _=>1) (L.take k) g) q∧zV (vU x.right (fun _=>1) (L.take k) g) q≤1116691497000:=fun k hk q=>by
   have:=addsK_bound (r:=x.right) (v:=fun _=>1) (B:=1116691496960) (M:=1) hB2 (l:=L.take k) (fun p h=>by omega) q
   rw[List.length_take,Nat.min_eq_left hk]at this
   omega
  have hst2: ∀k p,L[k]?=some p→L.take (k+1)=L.take k++[p]:=fun k p h=>by rw[List.take_add_one,h];rfl
  rw[hL]
  clear hB hS hs hb hI2 hB2 hst hP
  refine yW ?_;intros
  rw[hL]
  refine zU (fun(z:Nat×Nat)=>(⟨[(0,.mp b),(4,.ptr bx 0),(48,prts L),(49,.int .i64 L.length),(50,.int .i64 (z.1:Nat))],.cells bx (dedC x) 35::.kmap b [false,false] (vU x.right (fun _=>1) (L.take z.1) g) z.2::σ,[],f260.ntmps⟩:St)) (fun z=>z.1≤L.length) (fun z=>L.length-z.1) (0,m1) (Nat.zero_le _) (St.le_of zC yY) ?_
  intro z hI
  obtain⟨k,m2⟩:=z
  dsimp only at hI ⊢
  by_cases hk:k<L.length
  ·obtain⟨p,hx⟩:=zH hk
   have gx:=prt_get hx
   have hpk:=hst2 k p hx
   obtain⟨f1,f2⟩:=hLm p (List.mem_of_getElem? hx)
   have hb1:=hB3 k hI (K2 x.right p.farm)
   have hfi:IntV (vU x.right (fun _=>1) (L.take k) g):=addsK_int hgi
   have hnew:vU x.right (fun _=>1) (L.take (k+1)) g=vY (vU x.right (fun _=>1) (L.take k) g) (K2 x.right p.farm) 1:=by rw[hpk,addsK_snoc]
   have hkf:KFit [false,false] (K2 x.right p.farm):=tP (by omega) (by omega)
   generalize vU x.right (fun _=>1) (L.take k) g=g2 at hb1 hfi hnew ⊢
   clear hB3 hx hpk hL hLm hst2
   refine yW ?_;intros
   rename Nat=>bp;revert bp
   intro bp
   refine yB (fun e=>e=.cells bx (dedC x) 35∨e=.cells bp (prtC p) 307) [6,8] 10 rfl (by kernel_rfl) rfl ?_
   simp only[List.take_succ_cons,List.take_zero,List.drop_succ_cons,List.drop_zero]
   repeat' first|(refine zgd ?_;first|(refine xH rfl rfl (zR (z:=.i 0) (k:=K2 x.right p.farm) rfl tK tJ rfl rfl yP rfl rfl hkf (xZ hfi _) rfl) ?_)|(refine yN rfl rfl (wS (z:=.i 0) (k:=K2 x.right p.farm) rfl tK tJ rfl rfl rfl rfl hkf (fun _=>Upd.there (Upd.there Upd.here))) ?_;rintro _ _ ⟨es,clock,e,hE,he,hek⟩;refine⟨zks,?_⟩)|(refine xH rfl rfl (xC (z:=.i 0) (k:=K2 x.right p.farm) rfl tK tJ rfl rfl hE yP rfl rfl hkf (vH hfi _) rfl) ?_))|(refine xD (.entryStore _ _ _ _) ?_;refine yE rfl rfl (xQ (v:=.i _) hE he hek rfl rfl rfl rfl (Upd.there (Upd.there Upd.here)) (wA _ _ _ _)) ?_)|(refine yX ?_;intros)|refine vX rfl rfl rfl ?_ ?_|fail
   all_goals
    refine⟨(k+1,cntK g2 (K2 x.right p.farm) m2),hk,by dsimp only;omega,?_⟩
    dsimp only
    rw[hnew]
    exact(St.le_of zC zJ)
  ·obtain rfl:k=L.length:=by omega
   rw[List.take_length]
   refine yW ?_;intros
   refine zS (σ3:=.kmap b [false,false] (vU x.right (fun _=>1) L g) m2::σ) .nil zG zJ ?_
   exact zY ⟨rfl,_,rfl⟩
theorem makeR_eq{N D:Int}(hD:0<D)(h:(makeR N D).2=0):(makeR N D).1.n*D=N*(makeR N D).1.d∧0<(makeR N D).1.d:=by
 unfold makeR at h ⊢
 split at h
 ·cases h
 ·rename_i hm
  rw[if_neg hm]
  obtain⟨g,hg⟩: ∃g,Nat.gcd N.natAbs D.natAbs=g:=⟨_,rfl⟩
  rw[hg]
  have hg0:0<g:=by rw[←hg];exact Nat.gcd_pos_of_pos_right _ (by omega)
  obtain⟨a,ha⟩:g∣N.natAbs:=by rw[←hg];exact Nat.gcd_dvd_left _ _
  obtain⟨b,hb⟩:g∣D.natAbs:=by rw[←hg];exact Nat.gcd_dvd_right _ _
  have e1:N.natAbs/g=a:=by rw[ha,Nat.mul_div_cancel_left _ hg0]
  have e2:D.natAbs/g=b:=by rw[hb,Nat.mul_div_cancel_left _ hg0]
  have hD2 : D = (g : Int) * b := by have : (D.natAbs : Int) = ((g * b : Nat) : Int) := by rw [hb]
                                     rw[Int.natCast_mul]at this;omega
  have hb0:0<b:=by
   rcases Nat.eq_zero_or_pos b with rfl|h
   ·simp at hD2;omega
   ·exact h
  dsimp only
  rw[e1,e2]
  refine⟨?_,by omega⟩
  have hN:(N.natAbs:Int)=(g:Int)*a:=by rw[ha,Int.natCast_mul]
  rw[hD2]
  split
  ·have:N= -((g:Int)*a):=by omega
   rw[this];grind
  ·have:N=(g:Int)*a:=by omega
   rw[this];grind
theorem addR_eq{s p:Rt2}(h:(xL s p).2=0):pQ s=true∧pQ p=true∧(xL s p).1.n*(s.d*p.d)=(s.n*p.d+p.n*s.d)*(xL s p).1.d∧0<(xL s p).1.d:=by
 unfold xL at h ⊢
 cases hs:pQ s&&pQ p with
 |false=>rw[hs]at h;simp at h
 |true=>
  rw[hs,if_pos rfl]at h
  rw[if_pos rfl]
  simp only[Bool.and_eq_true]at hs
  obtain⟨⟨d1,_⟩,_⟩:=wC hs.1
  obtain⟨⟨d2,_⟩,_⟩:=wC hs.2
  have:=makeR_eq (N:=s.n*p.d+p.n*s.d) (D:=s.d*p.d) (Int.mul_pos (by omega) (by omega)) h
  exact⟨hs.1,hs.2,this⟩
theorem fdiv_lo{a d:Int}(hd:0<d):a.fdiv d*d≤a∧a≤(a.fdiv d+1)*d:=by
 rw[Int.fdiv_eq_ediv_of_nonneg _ (by omega)]
 have h1:=Int.ediv_mul_le a (b:=d) (by omega)
 have h2:=Int.lt_ediv_add_one_mul_self a hd
 omega
theorem parts_law(F:Nat)(n:Int)(hn:0≤n): ∀(l:List Prt) (seen:Int→Bool) (s r:Rt2) (T k:Int),0<s.d→T*s.d≤s.n*n→s.n*n≤(T+k)*s.d→qS xL F l seen s=some r→
  0<r.d∧(T+zF (kS n) l)*r.d≤r.n*n∧r.n*n≤(T+zF (kS n) l+(k+l.length))*r.d∧ ∀p∈l,(0≤p.farm∧p.farm<F)∧pQ p.share=true∧0≤kS n p
 |[],_,s,r,T,k,h0,h1,h2,h=>by
  simp only[qS,Option.some.injEq]at h
  subst h
  simp only[zF,Int.add_zero,List.length_nil,Int.natCast_zero]
  exact⟨h0,h1,h2,by simp⟩
 |p::l,seen,s,r,T,k,h0,h1,h2,h=>by
  unfold qS at h
  split at h
  ·cases h
  ·rename_i hb
   split at h
   ·cases h
   ·rename_i he
    have he:(xL s p.share).2=0:=by simpa using he
    obtain⟨o1,o2,e1,e2⟩:=addR_eq he
    obtain⟨⟨d2,_⟩,_⟩:=wC o2
    have hfd:=fdiv_lo (a:=p.share.n*n) (d:=p.share.d) (by omega)
    have hpn:0<p.share.n:=by
     rcases Int.lt_or_le 0 p.share.n with h|h
     ·exact h
     ·exact absurd (.inr (.inr h)) hb
    have hlo:0≤kS n p:=by
     unfold kS
     rw[Int.fdiv_eq_ediv_of_nonneg _ (by omega)]
     exact Int.ediv_nonneg (Int.mul_nonneg (by omega) hn) (by omega)
    have hfarm:inB p.farm 0 (F-1)=true:=by
     cases hq:inB p.farm 0 (F-1) with
     |true=>rfl
     |false=>exact absurd (.inl hq) hb
    obtain⟨L,hL⟩: ∃L,kS n p=L:=⟨_,rfl⟩
    rw[show (p.share.n*n).fdiv p.share.d=L from hL]at hfd
    generalize xL s p.share=A at e1 e2 h
    obtain⟨t,e⟩:=A
    dsimp only at e1 e2 h
    have hpos:0<s.d*p.share.d:=Int.mul_pos h0 (by omega)
    have k1:T*s.d*p.share.d≤s.n*n*p.share.d:=Int.mul_le_mul_of_nonneg_right h1 (by omega)
    have k2:L*p.share.d*s.d≤p.share.n*n*s.d:=Int.mul_le_mul_of_nonneg_right hfd.1 (by omega)
    have k3:s.n*n*p.share.d≤(T+k)*s.d*p.share.d:=Int.mul_le_mul_of_nonneg_right h2 (by omega)
    have k4:p.share.n*n*s.d≤(L+1)*p.share.d*s.d:=Int.mul_le_mul_of_nonneg_right hfd.2 (by omega)
    have q1:(T+L)*(s.d*p.share.d)≤n*(s.n*p.share.d+p.share.n*s.d):=by
     have a1:(T+L)*(s.d*p.share.d)=T*s.d*p.share.d+L*p.share.d*s.d:=by grind
     have a2:n*(s.n*p.share.d+p.share.n*s.d)=s.n*n*p.share.d+p.share.n*n*s.d:=by grind
     rw[a1,a2];omega
    have q2:n*(s.n*p.share.d+p.share.n*s.d)≤(T+L+(k+1))*(s.d*p.share.d):=by
     have a1:(T+L+(k+1))*(s.d*p.share.d)=(T+k)*s.d*p.share.d+(L+1)*p.share.d*s.d:=by grind
     have a2:n*(s.n*p.share.d+p.share.n*s.d)=s.n*n*p.share.d+p.share.n*n*s.d:=by grind
     rw[a1,a2];omega
    have r1:(T+L)*t.d≤t.n*n:=by
     refine Int.le_of_mul_le_mul_right ?_ hpos
     have b1:=Int.mul_le_mul_of_nonneg_right q1 (c:=t.d) (by omega)
     have b2:(T+L)*t.d*(s.d*p.share.d)=(T+L)*(s.d*p.share.d)*t.d:=by grind
     have b3:t.n*n*(s.d*p.share.d)=n*(t.n*(s.d*p.share.d)):=by grind
     rw[b2,b3,e1]
     have b4:n*((s.n*p.share.d+p.share.n*s.d)*t.d)=n*(s.n*p.share.d+p.share.n*s.d)*t.d:=by grind
     rw[b4];exact b1
    have r2:t.n*n≤(T+L+(k+1))*t.d:=by
     refine Int.le_of_mul_le_mul_right ?_ hpos
     have b1:=Int.mul_le_mul_of_nonneg_right q2 (c:=t.d) (by omega)
     have b2:(T+L+(k+1))*t.d*(s.d*p.share.d)=(T+L+(k+1))*(s.d*p.share.d)*t.d:=by grind
     have b3:t.n*n*(s.d*p.share.d)=n*(t.n*(s.d*p.share.d)):=by grind
     rw[b2,b3,e1]
     have b4:n*((s.n*p.share.d+p.share.n*s.d)*t.d)=n*(s.n*p.share.d+p.share.n*s.d)*t.d:=by grind
     rw[b4];exact b1
    obtain⟨i1,i2,i3,i4⟩:=parts_law F n hn l _ t r (T+L) (k+1) e2 r1 r2 h
    simp only[zF,hL]
    refine⟨i1,?_,?_,?_⟩
    ·rwa [Int.add_assoc]at i2
    ·rw[show T+L+zF (kS n) l=T+(L+zF (kS n) l) by omega]at i3
     rw[show k+((p::l).length:Int)=k+1+l.length by simp only[List.length_cons];omega]
     exact i3
    ·intro y hy
     rcases List.mem_cons.1 hy with rfl|hy
     ·refine⟨?_,o2,hlo⟩
      unfold inB at hfarm
      simp only[Bool.and_eq_true,decide_eq_true_eq]at hfarm
      omega
     ·exact i4 y hy
theorem whole_law{d:Dis}{l:List Prt}(h:kQ xL d l=true){n:Int}(hn:0≤n):zF (kS n) l≤n∧n≤zF (kS n) l+l.length∧l.length≤16∧ ∀p∈l,(0≤p.farm∧p.farm<d.F.length)∧pQ p.share=true∧0≤kS n p:=by
 unfold kQ at h
 cases hp:qS xL d.F.length l (fun _=>false) ⟨0,1⟩ with
 |none=>rw[hp]at h;cases h
 |some s=>
  rw[hp]at h
  simp only[Bool.and_eq_true,decide_eq_true_eq]at h
  obtain⟨h1,rfl⟩:=h
  obtain⟨_,i2,i3,i4⟩:=parts_law d.F.length n hn l _ ⟨0,1⟩ ⟨1,1⟩ 0 0 (by decide) (by simp) (by simp) hp
  unfold inB at h1
  simp only[Bool.and_eq_true,decide_eq_true_eq]at h1
  dsimp only at i2 i3
  exact⟨by omega,by omega,by omega,i4⟩
end Go.Proofs.YtaoaafdommlhcaaGreat

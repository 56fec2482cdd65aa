/- Parts of the proof that belong together: Ea Eb Ec Ed. -/
import Derived.Test.YtaoaafdommlhcaaGreatHA07
import Derived.Test.YtaoaafdommlhcaaGreatHA22
import Derived.Test.YtaoaafdommlhcaaGreatHA23
import Derived.Shelf.SlicesG.Cmp
import Derived.Ground.SlsfProg
import Derived.Ground.NamesProg
import Derived.Test.YtaoaafdommlhcaaGreatProg
set_option maxRecDepth 10000
set_option maxHeartbeats 16000000
set_option linter.unusedSimpArgs false
set_option linter.unusedVariables false
set_option autoImplicit false
open Go.Proofs.Tryz
namespace Go.Proofs.YtaoaafdommlhcaaGreat
open Go.Shelf Go.Sort Go.RowKit
def orI:List Int→Int
 |[]=>0
 |n::l=>if n=0 then orI l else n
def pF:List Int→List Int→Bool
 |a::l,b::m=>if a=b then pF l m else decide (a<b)
 |_,_=>false
def pV(l m:List Int):Int:=orI (List.zipWith wQ l m)
theorem lexI_cons(a b:Int)(l m:List Int):pV (a::l) (b::m)=if a=b then pV l m else if a<b then-1 else 1:=by
 unfold pV
 simp only[List.zipWith_cons_cons,orI,wQ]
 by_cases h:a=b
 ·subst h;simp
 ·by_cases h2:a<b
  ·simp[h,h2]
  ·have h3:b<a:=by omega
   simp[h,h2,h3]
theorem lexI_lt: ∀l m:List Int,decide (pV l m<0)=pF l m
 |[],_=>by simp[pV,orI,pF]
 |_::_,[]=>by simp[pV,orI,pF]
 |a::l,b::m=>by
  rw[lexI_cons,pF]
  split
  ·exact lexI_lt l m
  ·split<;>simp[*]
theorem ltI_irr: ∀l:List Int,pF l l=false
 |[]=>rfl
 |a::l=>by rw[pF,if_pos rfl];exact ltI_irr l
theorem ltI_trans: ∀{l m k:List Int},l.length=m.length→m.length=k.length→pF l m=true→pF m k=true→pF l k=true
 |[],_,_,_,_,h,_=>by simp[pF]at h
 |a::l,[],_,h,_,_,_=>by simp at h
 |a::l,b::m,[],_,h,_,_=>by simp at h
 |a::l,b::m,c::k,h1,h2,h3,h4=>by
  simp only[List.length_cons,Nat.add_right_cancel_iff]at h1 h2
  rw[pF]at h3 h4 ⊢
  by_cases e1:a=b
  ·subst e1
   rw[if_pos rfl]at h3
   by_cases e2:a=c
   ·rw[if_pos e2]at h4 ⊢;exact ltI_trans h1 h2 h3 h4
   ·rw[if_neg e2]at h4 ⊢;exact h4
  ·rw[if_neg e1]at h3
   simp only[decide_eq_true_eq]at h3
   by_cases e2:b=c
   ·subst e2;rw[if_neg e1];simpa using h3
   ·rw[if_neg e2]at h4
    simp only[decide_eq_true_eq]at h4
    rw[if_neg (by omega)]
    simp only[decide_eq_true_eq];omega
theorem ltI_eq: ∀{l m:List Int},l.length=m.length→pF l m=false→pF m l=false→l=m
 |[],[],_,_,_=>rfl
 |[],_::_,h,_,_=>by simp at h
 |_::_,[],h,_,_=>by simp at h
 |a::l,b::m,h1,h2,h3=>by
  simp only[List.length_cons,Nat.add_right_cancel_iff]at h1
  rw[pF]at h2 h3
  by_cases e:a=b
  ·subst e
   rw[if_pos rfl]at h2 h3
   rw[ltI_eq h1 h2 h3]
  ·rw[if_neg e]at h2
   rw[if_neg (Ne.symm e)]at h3
   simp only[decide_eq_false_iff_not]at h2 h3
   omega
section
variable {α:Type} {ks:α→List Int} {n:Nat}
theorem lt_lex(x y:α):ltOf (fun a b=>pV (ks a) (ks b)) x y=pF (ks x) (ks y):=lexI_lt _ _
theorem swo_lex(hn: ∀x,(ks x).length=n):SWO (ltOf fun a b=>pV (ks a) (ks b)) where
 irrefl x:=by rw[lt_lex];exact ltI_irr _
 trans x y z h1 h2:=by
  rw[lt_lex]at *
  exact ltI_trans (by rw[hn,hn]) (by rw[hn,hn]) h1 h2
 ntrans x y z h1 h2:=by
  rw[lt_lex]at *
  have e: ∀x y:α,(ks x).length=(ks y).length:=fun x y=>by rw[hn,hn]
  cases h3:pF (ks x) (ks z) with
  |false=>rfl
  |true=>
   cases h4:pF (ks y) (ks x) with
   |true=>rw[ltI_trans (e _ _) (e _ _) h4 h3]at h2;cases h2
   |false=>rw[←ltI_eq (e _ _) h1 h4,h3]at h2;cases h2
theorem sorted_lex(hn: ∀x,(ks x).length=n){S T:List α}(hS:S.Pairwise fun a b=>ltOf (fun a b=>pV (ks a) (ks b)) b a=false)(hT:T.Pairwise fun a b=>pF (ks a) (ks b)=true)(hp:S.Perm T):S=T:=by
 have e: ∀x y:α,(ks x).length=(ks y).length:=fun x y=>by rw[hn,hn]
 have hT2:T.Pairwise fun a b=>pF (ks b) (ks a)=false:=hT.imp fun {a b} h=>by
  cases h2:pF (ks b) (ks a) with
  |false=>rfl
  |true=>have:=ltI_trans (e _ _) (e _ _) h h2;rw[ltI_irr]at this;cases this
 have hinj: ∀a∈T,∀b∈T,ks a=ks b→a=b:=by
  clear hS hT2 hp
  induction T with
  |nil=>intro a ha;cases ha
  |cons x T ih=>
   obtain⟨h1,h2⟩:=List.pairwise_cons.1 hT
   intro a ha b hb hk
   rcases List.mem_cons.1 ha with e1|ha1<;>rcases List.mem_cons.1 hb with e2|hb2
   ·rw[e1,e2]
   ·have:=h1 b hb2;rw[←e1,hk,ltI_irr]at this;cases this
   ·have:=h1 a ha1;rw[←e2,hk,ltI_irr]at this;cases this
   ·exact ih h2 a ha1 b hb2 hk
 refine List.Perm.eq_of_pairwise (le:=fun a b=>pF (ks b) (ks a)=false) (fun a b ha hb h1 h2=>?_) (hS.imp fun {a b} h=>by rwa [lt_lex]at h) hT2 hp
 exact hinj a (hp.mem_iff.1 ha) b hb (ltI_eq (e _ _) h2 h1)
end
theorem or_c(l:List Int)(hl:l.length≤1000)(σ:List Ent):SCall prog 78 [ints l] σ (Is (.int .i64 (orI l)) σ):=by
 refine zZ func78 rfl (by simp) ?_
 refine yW ?_;intros
 refine zU (fun(k:Nat)=>(⟨[(6,ints l),(3,.int .i64 0),(7,.int .i64 l.length),(8,.int .i64 k)],σ,[],f78.ntmps⟩:St)) (fun k=>k≤l.length∧orI l=orI (l.drop k)) (fun k=>l.length-k) 0 (⟨by omega,rfl⟩) (St.le_of zC yY) ?_
 intro k hI
 obtain⟨hI1,hI2⟩:=hI
 by_cases hk:k<l.length
 ·obtain⟨x,hx⟩:=zH hk
  have gx:=wU hx
  rw[wZ hx,orI]at hI2
  clear hx
  by_cases h0:x=0
  ·rw[if_pos h0]at hI2
   refine yW ?_;intros
   exact⟨k+1,⟨hk,hI2⟩,by omega,(St.le_of zC zJ)⟩
  ·rw[if_neg h0]at hI2
   rw[hI2]
   clear hI2
   refine yW ?_;intros
   refine zW .nil zG zJ ?_
   rfl
 ·rw[List.drop_of_length_le (by omega)]at hI2
  rw[hI2]
  refine yW ?_;intros
  refine zW .nil zG zJ ?_
  rfl
structure Hol where
 right:Int
 farm:Int
 litres:Int
 rank:Int
abbrev holC(h:Hol):List AV:=[.int .i64 h.right,.int .i64 h.farm,.int .i64 h.litres,.int .i64 h.rank]
def holE(h:Hol):List Value:=[.int .i64 h.right,.int .i64 h.farm,.int .i64 h.litres,.int .i64 h.rank]
def holK(h:Hol):List Int:=[h.right,h.farm]
instance:Inhabited Hol:=⟨⟨0,0,0,0⟩⟩
theorem hol_rel(M:Mem)(l:List Hol): ∀vs,VRels M (l.map holC).flatten vs↔vs=l.flatMap holE:=by
 induction l with
 |nil=>intro vs;cases vs<;>simp[VRels]
 |cons x l ih=>
  intro vs
  simp only[List.map_cons,List.flatten_cons,List.cons_append,List.nil_append,VRels,VRel,List.flatMap_cons,holE]
  constructor
  ·rintro⟨v1,r1,rfl,rfl,v2,r2,rfl,rfl,v3,r3,rfl,rfl,v4,r4,rfl,rfl,h⟩
   rw[(ih _).1 h]
  ·rintro rfl
   exact⟨_,_,rfl,rfl,_,_,rfl,rfl,_,_,rfl,rfl,_,_,rfl,rfl,(ih _).2 (by simp[holE])⟩
theorem holCmp_c(x y:Hol)(σ:List Ent):SCall prog 162 [.agg (holC x),.agg (holC y)] σ (Is (.int .i64 (pV (holK x) (holK y))) σ):=by
 refine zZ func162 rfl (by simp) ?_
 refine yW ?_;intros
 rename Nat=>by_;revert by_;rename Nat=>bx;revert bx
 intro bx by_
 refine yB (fun e=>e=.cells bx (holC x) 201∨e=.cells by_ (holC y) 201) [4,9,10,11] 12 rfl (by kernel_rfl) rfl ?_
 simp only[List.take_succ_cons,List.take_zero,List.drop_succ_cons,List.drop_zero]
 repeat' first|(refine zgp (.call {callee:=.value (.func 43),args:=_,argTypes:=_}) ?_;refine yN rfl rfl (zQ rfl rfl (zX (by kernel_rfl)) (cmpI_c _ _ _)) ?_;rintro _ _ ⟨⟩;refine⟨zks,?_⟩)|(refine zgp (.buildSlice _ _ _) ?_;refine xH rfl rfl (vF (xT rfl rfl (by decide) rfl rfl zck)) ?_)|(refine zgp (.call {callee:=.value (.func 78),args:=_,argTypes:=_}) ?_;refine yN rfl rfl (zQ rfl rfl (zX (by kernel_rfl)) (or_c [wQ x.right y.right,wQ x.farm y.farm] (by simp) _)) ?_;rintro _ _ ⟨⟩;refine⟨zks,?_⟩)|(refine yX ?_;intros)|fail
 all_goals
  refine zS (σ3:=σ) .nil zG zJ ?_
  exact zY .mk
def Tryz.sortHol_ren:Go.Shelf.Ren:=⟨fun|6=>161|15=>113|14=>226|28=>173|29=>174|20=>264|21=>265|22=>266|23=>267|24=>268|25=>269|26=>270|27=>271|46=>287|47=>228|48=>229|49=>288|50=>289|57=>294|n=>n,fun|22=>197|24=>201|25=>265|3=>3|39=>193|0=>0|53=>275|55=>277|4=>4|46=>269|45=>268|50=>118|5=>5|9=>9|66=>323|70=>327|76=>351|77=>352|n=>n,fun|n=>n⟩
theorem Tryz.sortHol:Go.Proofs.SlLaysF0.n6 prog Tryz.sortHol_ren:={
 mixed:=by kernel_rfl
 f6:=⟨f161.name,by decide,func161.trans (congrArg some (by kernel_rfl))⟩
 f14:=⟨f226.name,by decide,func226.trans (congrArg some (by kernel_rfl))⟩
 f15:=func113.trans (congrArg some (by kernel_rfl))
 f20:=⟨f264.name,by decide,func264.trans (congrArg some (by kernel_rfl))⟩
 f21:=⟨f265.name,by decide,func265.trans (congrArg some (by kernel_rfl))⟩
 f22:=⟨f266.name,by decide,func266.trans (congrArg some (by kernel_rfl))⟩
 f23:=⟨f267.name,by decide,func267.trans (congrArg some (by kernel_rfl))⟩
 f24:=⟨f268.name,by decide,func268.trans (congrArg some (by kernel_rfl))⟩
 f25:=⟨f269.name,by decide,func269.trans (congrArg some (by kernel_rfl))⟩
 f26:=⟨f270.name,by decide,func270.trans (congrArg some (by kernel_rfl))⟩
 f27:=⟨f271.name,by decide,func271.trans (congrArg some (by kernel_rfl))⟩
 f28:=func173.trans (congrArg some (by kernel_rfl))
 f29:=func174.trans (congrArg some (by kernel_rfl))
 f46:=⟨f287.name,by decide,func287.trans (congrArg some (by kernel_rfl))⟩
 f47:=func228.trans (congrArg some (by kernel_rfl))
 f48:=func229.trans (congrArg some (by kernel_rfl))
 f49:=⟨f288.name,by decide,func288.trans (congrArg some (by kernel_rfl))⟩
 f50:=⟨f289.name,by decide,func289.trans (congrArg some (by kernel_rfl))⟩
 f57:=⟨Tryz.f294.name,by decide,func294.trans (congrArg some (by kernel_rfl))⟩
 t0:=Tryz.underlying0
 a0:=Tryz.isAgg0
 z0:=Tryz.sizeOf0
 v0:=Tryz.zeroValue0
 t3:=Tryz.underlying3
 a3:=Tryz.isAgg3
 z3:=Tryz.sizeOf3
 v3:=Tryz.zeroValue3
 t4:=Tryz.underlying4
 a4:=Tryz.isAgg4
 z4:=Tryz.sizeOf4
 v4:=Tryz.zeroValue4
 t5:=Tryz.underlying5
 a5:=Tryz.isAgg5
 z5:=Tryz.sizeOf5
 v5:=Tryz.zeroValue5
 t9:=Tryz.underlying9
 a9:=Tryz.isAgg9
 z9:=Tryz.sizeOf9
 v9:=Tryz.zeroValue9
 t22:=Tryz.underlying197
 a22:=Tryz.isAgg197
 z22:=Tryz.sizeOf197
 v22:=Tryz.zeroValue197
 t25:=Tryz.underlying265
 a25:=Tryz.isAgg265
 z25:=Tryz.sizeOf265
 v25:=Tryz.zeroValue265
 t39:=Tryz.underlying193
 a39:=Tryz.isAgg193
 z39:=Tryz.sizeOf193
 v39:=Tryz.zeroValue193
 t45:=Tryz.underlying268
 a45:=Tryz.isAgg268
 z45:=Tryz.sizeOf268
 v45:=Tryz.zeroValue268
 t46:=Tryz.underlying269
 a46:=Tryz.isAgg269
 z46:=Tryz.sizeOf269
 v46:=Tryz.zeroValue269
 t50:=Tryz.underlying118
 a50:=Tryz.isAgg118
 z50:=Tryz.sizeOf118
 v50:=Tryz.zeroValue118
 t53:=Tryz.underlying275
 a53:=Tryz.isAgg275
 z53:=Tryz.sizeOf275
 v53:=Tryz.zeroValue275
 t55:=Tryz.underlying277
 a55:=Tryz.isAgg277
 z55:=Tryz.sizeOf277
 v55:=Tryz.zeroValue277
 t66:=Tryz.underlying323
 a66:=Tryz.isAgg323
 z66:=Tryz.sizeOf323
 v66:=Tryz.zeroValue323
 t70:=Tryz.underlying327
 a70:=Tryz.isAgg327
 z70:=Tryz.sizeOf327
 v70:=Tryz.zeroValue327
 t76:=Tryz.underlying351
 a76:=Tryz.isAgg351
 z76:=Tryz.sizeOf351
 v76:=Tryz.zeroValue351
 t77:=Tryz.underlying352
 a77:=Tryz.isAgg352
 z77:=Tryz.sizeOf352
 v77:=Tryz.zeroValue352}
theorem sortHol_c{l:List Hol}{v:Value}{σ:List Ent}{F:Ent→List Ent}(hb:l.length≤4000000)(hu: ∀e',Upd σ (.row v 201 4 (l.map holC)) e' (F e')):
  SCall prog 161 [.slv v,.fn (.func 162) [] []] σ (fun r τ=>r=.tup []∧ ∃S:List Hol,S.Perm l∧S.Pairwise (fun a b=>ltOf (fun a b=>pV (holK a) (holK b)) b a=false)∧τ=F (.row v 201 4 (S.map holC))):=
 sortK_in Tryz.sortHol (enc:=holE) (av:=holC) (by decide) (fun w=>(xE (b:=true) (sz:=4) rfl w).1) (fun w=>(xE (b:=true) (sz:=4) rfl w).2) (fun _=>rfl)
  (fun x v hv=>by simp only[holE,List.mem_cons,List.not_mem_nil,or_false]at hv;rcases hv with rfl|rfl|rfl|rfl<;>rfl)
  (fun M x vs h=>by subst h;have:=(hol_rel M [x] _).2 rfl;simpa using this) hol_rel (fun _=>rfl) (swo_lex (n:=2) fun _=>rfl)
  (enters_of func162 (by kernel_rfl) rfl) (fun x y=>holCmp_c x y []) (by omega) hu
theorem fits_ok{d:Dis}{E:Int→Option Ded}{x:Ded}(h:fitsB xL d E x=true)(hk:x.kind≠4):DedOk d x:=by
 unfold fitsB at h
 simp only[Bool.and_eq_true]at h
 obtain⟨_,h⟩:=h
 have held:pZ d x=true→(0≤x.right∧x.right<d.G.length)∧0≤x.frm∧x.frm<d.F.length:=fun h=>by
  unfold pZ inB at h
  simp only[Bool.and_eq_true,decide_eq_true_eq]at h
  omega
 by_cases h1:x.kind=1
 ·rw[if_pos h1]at h
  simp only[Bool.and_eq_true,inB,decide_eq_true_eq]at h
  exact⟨.inl h1,(held h.1.1).1,(held h.1.1).2,fun _=>by omega,fun h2=>by omega⟩
 rw[if_neg h1]at h
 by_cases h2:x.kind=2
 ·rw[if_pos h2]at h
  simp only[Bool.and_eq_true]at h
  exact⟨.inr (.inl h2),(held h.1).1,(held h.1).2,fun h3=>by omega,fun _=>h.2⟩
 rw[if_neg h2]at h
 by_cases h3:x.kind=3
 ·rw[if_pos h3]at h
  exact⟨.inr (.inr h3),(held h).1,(held h).2,fun h4=>by omega,fun h4=>by omega⟩
 rw[if_neg h3,if_neg hk]at h
 cases h
theorem deeds_fit{d:Dis}: ∀{l:List Ded} {o:Option Int} {E:Int→Option Ded},jW xL d o E l=true→ ∀x∈l,∃E,fitsB xL d E x=true
 |[],_,_,_=>fun x hx=>nomatch hx
 |y::l,o,E,h=>by
  unfold jW at h
  simp only[Bool.and_eq_true]at h
  intro x hx
  rcases List.mem_cons.1 hx with rfl|hx
  ·exact⟨E,h.1.2⟩
  ·exact deeds_fit h.2 x hx
theorem insE_perm(x:Ey): ∀l:List Ey,(insE x l).Perm (x::l)
 |[]=>List.Perm.refl _
 |y::l=>by
  unfold insE
  split
  ·exact List.Perm.refl _
  ·exact((insE_perm x l).cons y).trans (List.Perm.swap x y l)
theorem sortE_perm: ∀l:List Ey,(sortE l).Perm l
 |[]=>List.Perm.refl _
 |x::l=>(insE_perm x (sortE l)).trans ((sortE_perm l).cons x)
theorem count_mem{l:List Ded}{hour known:Int}{x:Ded}(h:x∈vL l hour known):x∈l∧goneB l hour known x=false:=by
 unfold vL at h
 have h2: ∀L:List Ey,x∈(sortE L).map (·.2)→x∈L.map (·.2):=fun L h=>(((sortE_perm L).map _).mem_iff).1 h
 have h3:=h2 _ h
 rw[numE_snd,List.mem_filter]at h3
 exact⟨h3.1,by simpa using h3.2⟩
theorem count_len(l:List Ded)(hour known:Int):(vL l hour known).length≤l.length:=by
 unfold vL
 rw[List.length_map,(sortE_perm _).length_eq,numE_len]
 exact List.length_filter_le _ _
theorem kU{d:Dis}{l:List Ded}(h:wF xL d l=0):yZ d=0∧l.length≤512∧jW xL d none (fun _=>none) l=true:=by
 unfold wF at h
 by_cases h0:yZ d=0
 ·rw[if_neg (by simpa using h0)]at h
  cases ht:tooL l with
  |true=>rw[ht]at h;simp at h
  |false=>
   rw[ht,if_neg (by decide)]at h
   cases hd:jW xL d none (fun _=>none) l with
   |false=>rw[hd]at h;simp at h
   |true=>
    unfold tooL at ht
    simp only[Bool.or_eq_false_iff,decide_eq_false_iff_not]at ht
    exact⟨h0,by omega,rfl⟩
 ·rw[if_pos h0]at h
  exact absurd h h0
theorem count_ok{d:Dis}{l:List Ded}(h:wF xL d l=0)(hour known:Int):(∀x∈vL l hour known,DedOk d x)∧(vL l hour known).length≤512:=by
 obtain⟨_,h2,h3⟩:=kU h
 refine⟨fun x hx=>?_,Nat.le_trans (count_len _ _ _) h2⟩
 obtain⟨k1,k2⟩:=count_mem hx
 obtain⟨E,hE⟩:=deeds_fit h3 x k1
 refine fits_ok hE fun e=>?_
 unfold goneB at k2
 rw[e]at k2
 simp at k2
def rankG(d:Dis)(r:Nat):Int:=match d.G[r]? with|some x=>x.rank|none=>0
def kH(d:Dis)(g:BkF)(r a:Nat):Hol:=⟨r,a,zV g (K2 r a),rankG d r⟩
def kY(d:Dis)(g:BkF):List Hol:=(List.range d.G.length).flatMap fun r:Nat=>(List.range d.F.length).filterMap fun a:Nat=>if 0<zV g (K2 r a)then some (kH d g r a)else none
theorem holds_mem{d:Dis}{g:BkF}{h:Hol}:h∈kY d g↔ ∃r a:Nat,r<d.G.length∧a<d.F.length∧0<zV g (K2 r a)∧h=kH d g r a:=by
 unfold kY
 simp only[List.mem_flatMap,List.mem_range,List.mem_filterMap]
 constructor
 ·rintro⟨r,hr,a,ha,h⟩
  split at h
  ·rename_i hv;cases h;exact⟨r,a,hr,ha,hv,rfl⟩
  ·cases h
 ·rintro⟨r,a,hr,ha,hv,rfl⟩
  exact⟨r,hr,a,ha,by rw[if_pos hv]⟩
theorem holds_up(d:Dis)(g:BkF):(kY d g).Pairwise fun a b=>pF (holK a) (holK b)=true:=by
 have e: ∀r a s b:Nat,pF (holK (kH d g r a)) (holK (kH d g s b))=true↔r<s∨r=s∧a<b:=fun r a s b=>by
  simp only[holK,kH,pF]
  by_cases h1:(r:Int)=s
  ·rw[if_pos h1]
   by_cases h2:(a:Int)=b
   ·rw[if_pos h2];simp;omega
   ·rw[if_neg h2,decide_eq_true_eq];omega
  ·rw[if_neg h1,decide_eq_true_eq];omega
 unfold kY
 rw[List.pairwise_flatMap]
 refine⟨fun r _=>?_,?_⟩
 ·refine List.Pairwise.filterMap (R:=(· < ·)) _ (fun a b hab x hx y hy=>?_) List.pairwise_lt_range
  split at hx<;>cases hx
  split at hy<;>cases hy
  exact(e _ _ _ _).2 (.inr ⟨rfl,hab⟩)
 ·refine List.pairwise_lt_range.imp fun {r s} hrs x hx y hy=>?_
  simp only[List.mem_filterMap]at hx hy
  obtain⟨a,_,hx⟩:=hx
  obtain⟨b,_,hy⟩:=hy
  split at hx<;>cases hx
  split at hy<;>cases hy
  exact(e _ _ _ _).2 (.inl hrs)
theorem pair_nodup{α:Type}{ks:α→List Int}{l:List α}(h:l.Pairwise fun a b=>pF (ks a) (ks b)=true):l.Nodup:=h.imp fun {a b} h e=>by subst e;rw[ltI_irr]at h;cases h
structure Gath(d:Dis)(g:BkF)(hit:List KL→Prop)(H:List Hol):Prop where
 nd:H.Nodup
 of: ∀h∈H,∃r a:Nat,r<d.G.length∧a<d.F.length∧0<zV g (K2 r a)∧h=kH d g r a∧hit (K2 r a)
 all: ∀r a:Nat,hit (K2 r a)→0<zV g (K2 r a)→kH d g r a∈H
theorem Gath.nil(d:Dis)(g:BkF)(es:Array MapEntry):Gath d g (HitK es #[]) []:=⟨.nil,fun _ h=>(nomatch h),fun _ _ h=>absurd h (HitK.none _ _)⟩
theorem Gath.step{d:Dis}{g:BkF}{es:Array MapEntry}{seen:Array Nat}{e:MapEntry}{r a:Nat}{H:List Hol}(h:Gath d g (HitK es seen) H)(hr:r<d.G.length)(ha:a<d.F.length)(he:e∈es.toList)(hk:e.key=keyL (K2 r a))
  (hn:¬ HitK es seen (K2 r a)) (hp: ∀q,HitK es (seen.push e.born) q→HitK es seen q∨q=K2 r a):Gath d g (HitK es (seen.push e.born)) (if 0<zV g (K2 r a)then H++[kH d g r a]else H):=by
 have hs:=HitK.self (seen:=seen) he hk
 by_cases hv:0<zV g (K2 r a)
 ·rw[if_pos hv]
  refine⟨?_,fun x hx=>?_,fun s b hh hv2=>?_⟩
  ·rw[List.nodup_append]
   refine⟨h.nd,by simp,fun x hx y hy e=>?_⟩
   simp only[List.mem_singleton]at hy
   subst hy e
   obtain⟨s,b,_,_,_,h5,h6⟩:=h.of _ hx
   have e1:(r:Int)=s:=congrArg Hol.right h5
   have e2:(a:Int)=b:=congrArg Hol.farm h5
   rw[e1,e2]at hn
   exact hn h6
  ·rcases List.mem_append.1 hx with hx|hx
   ·obtain⟨s,b,h1,h2,h3,h4,h5⟩:=h.of x hx
    exact⟨s,b,h1,h2,h3,h4,h5.keep⟩
   ·simp only[List.mem_singleton]at hx
    exact⟨r,a,hr,ha,hv,hx,hs⟩
  ·rcases hp _ hh with h1|h1
   ·exact List.mem_append_left _ (h.all s b h1 hv2)
   ·obtain⟨e1,e2⟩:=K2_inj.1 h1
    obtain rfl:s=r:=by omega
    obtain rfl:b=a:=by omega
    simp
 ·rw[if_neg hv]
  refine⟨h.nd,fun x hx=>?_,fun s b hh hv2=>?_⟩
  ·obtain⟨s,b,h1,h2,h3,h4,h5⟩:=h.of x hx
   exact⟨s,b,h1,h2,h3,h4,h5.keep⟩
  ·rcases hp _ hh with h1|h1
   ·exact h.all s b h1 hv2
   ·rw[h1]at hv2;exact absurd hv2 hv
theorem Gath.done{d:Dis}{g:BkF}{hit:List KL→Prop}{H S:List Hol}(h:Gath d g hit H)(hall: ∀q x,g q=some x→hit q)(hS:S.Perm H)(hs:S.Pairwise fun a b=>ltOf (fun a b=>pV (holK a) (holK b)) b a=false):S=kY d g:=by
 refine sorted_lex (n:=2) (ks:=holK) (fun _=>rfl) hs (holds_up d g) (hS.trans ?_)
 rw[List.perm_ext_iff_of_nodup h.nd (pair_nodup (holds_up d g))]
 intro x
 rw[holds_mem]
 constructor
 ·intro hx
  obtain⟨r,a,h1,h2,h3,h4,_⟩:=h.of x hx
  exact⟨r,a,h1,h2,h3,h4⟩
 ·rintro⟨r,a,h1,h2,h3,rfl⟩
  refine h.all r a ?_ h3
  cases hg:g (K2 r a) with
  |none=>unfold zV at h3;rw[hg]at h3;exact absurd h3 (by decide)
  |some y=>exact hall _ _ hg
theorem gath_len{d:Dis}{g:BkF}{hit:List KL→Prop}{H:List Hol}(h:Gath d g hit H):H.length≤(kY d g).length:=by
 refine List.Nodup.length_le_of_subset h.nd fun x hx=>?_
 obtain⟨r,a,h1,h2,h3,h4,_⟩:=h.of x hx
 exact holds_mem.2 ⟨r,a,h1,h2,h3,h4⟩
theorem holds_len(d:Dis)(g:BkF):(kY d g).length≤d.G.length*d.F.length:=by
 unfold kY
 rw[List.length_flatMap]
 have h: ∀l:List Nat,(l.map fun r:Nat=>((List.range d.F.length).filterMap fun a:Nat=>if 0<zV g (K2 r a)then some (kH d g r a)else none).length).sum≤l.length*d.F.length:=by
  intro l
  induction l with
  |nil=>simp
  |cons r l ih=>
   rw[List.map_cons,List.sum_cons,List.length_cons,Nat.add_mul]
   have:=List.length_filterMap_le (fun a:Nat=>if 0<zV g (K2 r a)then some (kH d g r a)else none) (List.range d.F.length)
   rw[List.length_range]at this
   omega
 have:=h (List.range d.G.length)
 rwa [List.length_range]at this
abbrev hols(l:List Hol):AV:=.dl 4 (l.map holC)
theorem at_c(d:Dis)(l:List Ded)(hc:wF xL d l=0)(hour known:Int)(hh:0≤hour∧hour<d.hours)(hk:0≤known∧known≤1048576)(hhr:d.hours≤4096)(σ:List Ent):
  SCall prog 107 [disV d,deds l,.int .i64 hour,.int .i64 known] σ (Is (.tup [hols (kY d (effF d (vL l hour known)).1),.int .i64 0]) σ):=by
 refine zZ func107 rfl (by simp) ?_
 have c0:=checkL_c d l
 obtain⟨hd,hl,_⟩:=kU hc
 rw[hc]at c0
 have c1:=rin_c hour 0 (d.hours-1)
 rw[show inB hour 0 (d.hours-1)=true by unfold inB;simp;omega]at c1
 have c2:=rin_c known 0 1048576
 rw[show inB known 0 1048576=true by unfold inB;simp;omega]at c2
 obtain⟨k1,k2⟩:=count_ok hc hour known
 have c3:=counting_c l hl hour known
 have c4:=effect_c d hd (vL l hour known) k1 k2
 obtain⟨hfe,hvv⟩:=zP hd
 have hG:=(yC hfe).2.2.2.1
 have hF:=(yC hfe).2.1
 have hB:BkOk d (effF d (vL l hour known)).1:=eff_ok k1 (beg_all hvv)
 clear hc hl hd k1 k2 hfe hvv
 generalize vL l hour known=C at c3 c4 hB ⊢
 generalize (effF d C).1=g at c4 hB ⊢
 refine xX 201 4 ?_
 repeat' first|(apply yQ;exact zD;rfl;rfl;refine zL ?_;first|exact c0 _|exact c1 _|exact c2 _)|(refine xV ?_;and_intros<;>first|exact nl|intros)|cases ‹BV _ _›|exact wG|fail
 clear c0 c1 c2
 rename Nat=>bd;revert bd
 intro bd
 refine wH (fun e=>e=.cells bd (disC d) 31) [4,5] rfl rfl ?_
 repeat' first|(refine zgp (.call {callee:=.value (.func 160),args:=_,argTypes:=_}) ?_;refine yN rfl rfl (zQ rfl rfl (zX (by kernel_rfl)) (c3 _)) ?_;rintro _ _ ⟨bC,rfl,rfl⟩;refine⟨zks,?_⟩)|(refine zgp (.call {callee:=.value (.func 159),args:=_,argTypes:=_}) ?_;refine yN rfl rfl (zQ rfl rfl (zX (by kernel_rfl)) (c4 bC _)) ?_;rintro _ _ ⟨bm,m,ve,rfl,rfl⟩;refine⟨zks,?_⟩)|(refine xD (.range _ _) ?_;refine zK rfl rfl rfl (g_rangeKm rfl rfl (fun e=>qJ)) ?_;rintro _ _ ⟨r,es,clock,hE⟩)|(refine yX ?_;intros)|fail
 have hil: ∀k y,g k=some y→ ∃(s a:Nat) (n:Int) (x:Rgt),k=K2 s a∧y=.i n∧s<d.G.length∧a<d.F.length∧(d.G.map rgtC)[s]?=some (rgtC x)∧rankG d s=x.rank:=fun k y hy=>by
  obtain⟨s,a,rfl,h1,h2⟩:=hB.key k y hy
  obtain⟨n,rfl⟩:=hB.iv _ _ hy
  obtain⟨x,hx⟩:=zH h1
  exact⟨s,a,n,x,rfl,rfl,h1,h2,rgt_get hx,by unfold rankG;rw[hx]⟩
 have hHl: ∀hit H,Gath d g hit H→H.length≤200000:=fun hit H h=>by
  have h1:=gath_len h
  have h2:=holds_len d g
  have h3:d.G.length*d.F.length≤256*600:=Nat.mul_le_mul hG hF
  omega
 clear c3 c4 hB
 refine zU (fun(z:Array Nat×List Hol×Value)=>(⟨[(4,.ptr bd 0),(8,.slv z.2.2),(41,.ptr r 0)],.obj r (.mapIter (some bm) clock z.1 clock)::.obj bm (.map es clock)::.cells bd (disC d) 31::.row z.2.2 201 4 (z.2.1.map holC)::σ,[],f107.ntmps⟩:St)) (fun z=>Gath d g (HitK es z.1) z.2.1) (fun z=>(leftOf es z.1).size) (#[],[],nilS) (Gath.nil d g es) (St.le_of zC yY) ?_
 intro z hI
 obtain⟨seen,H,v⟩:=z
 dsimp only at hI ⊢
 repeat' first|(refine xD (.next _ _) ?_;refine zK rfl rfl rfl (g_nextKm hE rfl yP (by intro s;exact Upd.here)) ?_;rintro _ _ (hdn|⟨e,k,y,he,hkk,hv,h0,hn,hpp,hm⟩);rotate_left;obtain⟨s,a,n,x,rfl,rfl,hs,ha,hx,hrk⟩:=hil k y h0)|(refine xD (.call {callee:=.value (.func 161),args:=_,argTypes:=_}) ?_;refine zK rfl rfl rfl (zQ rfl rfl (zX (by kernel_rfl)) (sortHol_c (Nat.le_trans (hHl _ _ hI) (by decide)) (fun e=>qJ))) ?_;rintro _ _ ⟨rfl,S,hS1,hS2,rfl⟩)|(refine xD (.entry _) ?_;apply wW;rfl;rfl;rfl;exact g_entryKm hE he hkk hv rfl yP yP)|(show EX _ _ (Code.seq (Code.region 10 _ _) _) _ _;refine Stuck.out ?_)|(refine vW ?_;intros)|fail
 all_goals try refine Stuck.mk ?_
 ·have hval:zV g (K2 s a)=n:=by unfold zV;rw[h0]
  have hHm:=hHl _ _ hI
  have hHe:(H.map holC).length=H.length:=List.length_map _
  have hst:=hI.step hs ha he hkk hn hpp
  rw[hval]at hst
  by_cases hn0:0<n
  ·rw[if_pos hn0]at hst
   have hmp:H.map holC++[holC (kH d g s a)]=(H++[kH d g s a]).map holC:=by simp
   unfold kH at hmp
   rw[hval,hrk]at hmp
   refine yW ?_;intros
   rename Nat=>bt;revert bt
   intro bt
   refine yB (fun e=>e=.cells bt [.int .i64 (s:Int),.int .i64 (a:Int)] 263∨e=.cells bd (disC d) 31) [14,15] 16 rfl (by kernel_rfl) rfl ?_
   simp only[List.take_succ_cons,List.take_zero,List.drop_succ_cons,List.drop_zero]
   repeat' first|(refine zB ?_;intros)|(refine xB ?_;intros)|fail
   rename Value=>v'
   refine⟨(_,H++[kH d g s a],v'),hst,hm,?_⟩
   unfold kH
   rw[hval,hrk]
   dsimp only
   rw[←hmp]
   exact(St.le_of zC zJ)
  ·rw[if_neg hn0]at hst
   refine yW ?_;intros
   exact⟨(_,H,v),hst,hm,(St.le_of zC zJ)⟩
 ·refine zS (σ3:=.row v 201 4 (S.map holC)::σ) .nil zG zJ ?_
  rw[hI.done hdn hS1 hS2]
  exact xS .here (.tup (.here (.same .nil)) .nil) (zY .mk)
open Go.WideMaps
theorem useLaw:KeyLaw prog 145:=deep_law_laid (by kernel_rfl) (m:=3) (by omega) (of_decide_eq_true (by kernel_rfl)) (by kernel_rfl) (by kernel_rfl)
theorem useKey:kmKey prog 145 [false,false]=true:=by kernel_rfl
structure LawS where
 ow:Int→Int
 od:List KL→Bool
 ea:List KL→Bool
def law0:LawS:=⟨fun _=>0,fun _=>false,fun _=>false⟩
def lawN(hour:Int)(S:LawS)(y:Rgt):LawS:=
 if hour<y.frm∨y.to<hour then S
 else if y.kind=3 then {S with ea:=fun q=>decide (q=K2 y.farm y.reach)||S.ea q}
 else if y.kind=2∧S.od (K2 y.farm y.reach)=false then {S with od:=fun q=>decide (q=K2 y.farm y.reach)||S.od q,ow:=fun q=>if q=y.reach then S.ow y.reach+1 else S.ow q}
 else S
def lawOf(d:Dis)(hour:Int):LawS:=d.G.foldl (lawN hour) law0
def mayB(S:LawS)(farm reach:Int):Bool:=decide ((if S.od (K2 farm reach)then S.ow reach-1 else S.ow reach)=0)||S.ea (K2 farm reach)
theorem lawN_ow{hour:Int}{S:LawS}{y:Rgt}{n:Int}(h: ∀q,0≤S.ow q∧S.ow q≤n): ∀q,0≤(lawN hour S y).ow q∧(lawN hour S y).ow q≤n+1:=fun q=>by
 have h1:=h q
 have h2:=h y.reach
 unfold lawN
 split
 ·omega
 split
 ·dsimp only;omega
 split
 ·dsimp only;split<;>omega
 ·omega
theorem laws_ow(hour:Int): ∀(l:List Rgt) (S:LawS) (n:Int),(∀q,0≤S.ow q∧S.ow q≤n)→ ∀q,0≤(l.foldl (lawN hour) S).ow q∧(l.foldl (lawN hour) S).ow q≤n+l.length
 |[],S,n,h,q=>by simpa using h q
 |y::l,S,n,h,q=>by
  have:=laws_ow hour l (lawN hour S y) (n+1) (lawN_ow h) q
  simp only[List.foldl_cons,List.length_cons]
  omega
theorem law_ow(d:Dis)(hour:Int)(k:Nat)(q:Int):0≤((d.G.take k).foldl (lawN hour) law0).ow q∧((d.G.take k).foldl (lawN hour) law0).ow q≤(d.G.length:Int):=by
 have:=laws_ow hour (d.G.take k) law0 0 (fun q=>by simp[law0]) q
 have h:=List.length_take_le k d.G
 have h2:(d.G.take k).length≤d.G.length:=by rw[List.length_take];omega
 omega
abbrev lawC(b1 b2 b3:Nat):List AV:=[.mp b1,.mp b2,.mp b3]
theorem valid_c(d:Dis)(hd:yZ d=0)(hour:Int)(σ:List Ent):SCall prog 52 [disV d,.int .i64 hour] σ (fun r τ=> ∃b1 b2 b3 n1 n2 n3,r=.agg (lawC b1 b2 b3)∧
  τ=.kmap b3 [false,false] (kT (lawOf d hour).ea) n3::.kmap b2 [false,false] (kT (lawOf d hour).od) n2::.imap b1 (intM (lawOf d hour).ow) n1::σ):=by
 refine zZ func52 rfl (by simp) ?_
 obtain⟨hfe,hv⟩:=zP hd
 have hG:=(yC hfe).2.2.2.1
 have hRF:=yC hfe
 have hrt: ∀x∈d.G,(0≤x.farm∧x.farm≤1000)∧0≤x.reach∧x.reach≤1000:=fun x hx=>by
  unfold yD at hv
  simp only[Bool.and_eq_true]at hv
  have h:=List.all_eq_true.1 hv.1.2 x hx
  unfold qC idxB at h
  simp only[Bool.and_eq_true,decide_eq_true_eq]at h
  omega
 have how:=law_ow d hour
 clear hfe hv hd hRF
 repeat' first|(refine xD (.makeMap 133 _) ?_;refine tD [false,false] rfl rfl rfl (vE [false,false]) ?_;intro bm)|(refine yX ?_;intros)|fail
 rename Nat=>bx;revert bx;rename Nat=>bb3;revert bb3;rename Nat=>bb2;revert bb2;rename Nat=>bb1;revert bb1;rename Nat=>b4;revert b4;rename Nat=>bd;revert bd
 intro bd b4 bb1 bb2 bb3 bx
 refine jY (t:=14) rfl (by first|exact(List.length_map _).symm|rfl) (fun hlen=>?_)
 refine zU (fun(z:Nat×Nat×Nat×Nat)=>(⟨[(1,.int .i64 hour),(4,.ptr b4 0),(5,.ptr bx 0),(14,rgts d.G),(15,.int .i64 d.G.length),(16,.int .i64 (z.1:Nat))],.cells bx (lawC bb1 bb2 bb3) 135::.kmap bb3 [false,false] (kT ((d.G.take z.1).foldl (lawN hour) law0).ea) z.2.2.2::.kmap bb2 [false,false] (kT ((d.G.take z.1).foldl (lawN hour) law0).od) z.2.2.1::.imap bb1 (intM ((d.G.take z.1).foldl (lawN hour) law0).ow) z.2.1::.cells b4 [cA (.map none),cA (.map none),cA (.map none)] 135::σ,[],f52.ntmps⟩:St)) (fun z=>z.1≤d.G.length) (fun z=>d.G.length-z.1) (0,0,0,0) (Nat.zero_le _) (St.le_of zC yY) ?_
 intro z hI
 obtain⟨k,n1,n2,n3⟩:=z
 dsimp only at hI ⊢
 by_cases hk:k<d.G.length
 ·obtain⟨y,hy⟩:=zH hk
  have gy:=rgt_get hy
  obtain⟨⟨r1,r2⟩,r3,r4⟩:=hrt y (List.mem_of_getElem? hy)
  have hkf:KFit [false,false] (K2 y.farm y.reach):=tP (by omega) (by omega)
  have hst:(d.G.take (k+1)).foldl (lawN hour) law0=lawN hour ((d.G.take k).foldl (lawN hour) law0) y:=by rw[List.take_add_one,hy];simp
  obtain⟨o1,o2⟩:=how k y.reach
  have hg1:=boolK_getD ((d.G.take k).foldl (lawN hour) law0).od (K2 y.farm y.reach)
  have hg2:=intM_getD ((d.G.take k).foldl (lawN hour) law0).ow y.reach
  clear how hrt hy
  generalize (d.G.take k).foldl (lawN hour) law0=S at hst o1 o2 hg1 hg2 ⊢
  clear hg2
  obtain⟨S2,hS2⟩: ∃S2,lawN hour S y=S2:=⟨_,rfl⟩
  rw[hS2]at hst
  unfold lawN at hS2
  by_cases h1:hour<y.frm∨y.to<hour
  ·rw[if_pos h1]at hS2
   rcases Int.lt_or_le hour y.frm with h2|h2
   ·refine yW ?_;intros
    exact⟨(k+1,n1,n2,n3),hk,by dsimp only;omega,by dsimp only;rw[hst,←hS2];exact(St.le_of zC zJ)⟩
   ·have h3:y.to<hour:=by omega
    refine yW ?_;intros
    exact⟨(k+1,n1,n2,n3),hk,by dsimp only;omega,by dsimp only;rw[hst,←hS2];exact(St.le_of zC zJ)⟩
  ·rw[if_neg h1]at hS2
   obtain⟨h2,h3⟩:=not_or.1 h1
   by_cases h4:y.kind=3
   ·rw[if_pos h4]at hS2
    repeat' first|(refine xD (.mapUpdate _ _ _ _) ?_;refine yE rfl rfl (wT (k:=K2 y.farm y.reach) (v:=.b true) rfl useLaw useKey rfl rfl rfl hkf rfl rfl qJ (boolK_upd _ _)) ?_)|(refine yX ?_;intros)|(refine yV ?_ ?_<;>(intro z;cases z with|_ h)<;>intro hp)|exact nl|fail
    exact⟨(k+1,n1,n2,_),hk,by dsimp only;omega,by dsimp only;rw[hst,←hS2];exact(St.le_of zC zJ)⟩
   ·rw[if_neg h4]at hS2
    by_cases h5:y.kind=2
    ·by_cases h6:S.od (K2 y.farm y.reach)=true
     ·rw[if_neg (by rw[h6];simp)]at hS2
      rw[h6]at hg1
      repeat' first|(refine xD (.lookup 133 _ _ false) ?_;apply uS;rfl;(first|rfl|assumption);rfl;rfl;refine zR (z:=.b false) (k:=K2 y.farm y.reach) rfl useLaw useKey rfl rfl yP rfl rfl hkf hg1 rfl)|(refine yX ?_;intros)|(refine yV ?_ ?_<;>(intro z;cases z with|_ h)<;>intro hp)|exact nl|fail
      exact⟨(k+1,n1,n2,n3),hk,by dsimp only;omega,by dsimp only;rw[hst,←hS2];exact(St.le_of zC zJ)⟩
     ·rw[Bool.not_eq_true]at h6
      rw[if_pos ⟨h5,h6⟩]at hS2
      rw[h6]at hg1
      repeat' first|(refine xD (.lookup 133 _ _ false) ?_;apply uS;rfl;(first|rfl|assumption);rfl;rfl;refine zR (z:=.b false) (k:=K2 y.farm y.reach) rfl useLaw useKey rfl rfl yP rfl rfl hkf hg1 rfl)|(refine xD (.mapUpdate 133 _ _ _) ?_;refine yE rfl rfl (wT (k:=K2 y.farm y.reach) (v:=.b true) rfl useLaw useKey rfl rfl rfl hkf rfl rfl qJ (boolK_upd _ _)) ?_)|(refine yX ?_;intros)|(refine yV ?_ ?_<;>(intro z;cases z with|_ h)<;>intro hp)|exact nl|fail
      refine⟨(k+1,if (intM S.ow y.reach).isSome=true then n1 else n1+1,cntK (kT S.od) (K2 y.farm y.reach) n2,n3),hk,by dsimp only;omega,?_⟩
      dsimp only
      rw[hst,←hS2,intM_upd S.ow y.reach (S.ow y.reach+1) (by omega)]
      dsimp only
      exact(St.le_of zC zJ)
    ·rw[if_neg (fun h=>h5 h.1)]at hS2
     refine yW ?_;intros
     exact⟨(k+1,n1,n2,n3),hk,by dsimp only;omega,by dsimp only;rw[hst,←hS2];exact(St.le_of zC zJ)⟩
 ·obtain rfl:k=d.G.length:=by omega
  rw[List.take_length]
  refine yW ?_;intros
  refine zS (σ3:=.kmap bb3 [false,false] (kT (lawOf d hour).ea) n3::.kmap bb2 [false,false] (kT (lawOf d hour).od) n2::.imap bb1 (intM (lawOf d hour).ow) n1::σ) .nil zG zJ ?_
  exact zY ⟨_,_,_,_,_,_,rfl,rfl⟩
theorem may_c(S:LawS)(farm reach:Int)(hw:0≤S.ow reach∧S.ow reach≤1000)(hf:0≤farm∧farm≤1000)(hr:0≤reach∧reach≤1000){b1 b2 b3 n1 n2 n3:Nat}{σ:List Ent}(m1:Ent.imap b1 (intM S.ow) n1∈σ)(m2:Ent.kmap b2 [false,false] (kT S.od) n2∈σ)(m3:Ent.kmap b3 [false,false] (kT S.ea) n3∈σ):
  SCall prog 57 [.agg (lawC b1 b2 b3),.agg [.int .i64 farm,.int .i64 reach]] σ (Is (.bool (mayB S farm reach)) σ):=by
 refine zZ func57 rfl (by simp) ?_
 have hkf:KFit [false,false] (K2 farm reach):=tP (by omega) (by omega)
 have g1:=intM_getD S.ow reach
 have g2:=boolK_getD S.od (K2 farm reach)
 have g3:=boolK_getD S.ea (K2 farm reach)
 unfold mayB
 clear g1
 generalize S.ea (K2 farm reach)=be at g3 ⊢
 cases hb:S.od (K2 farm reach) with
 |true=>
  rw[hb]at g2
  rw[if_pos rfl]
  clear hb
  repeat' first|(show EXL _ _ _ ({dst:=_,op:=.lookup 133 _ _ false,type:=_,pos:=_,after:=_,guard:=none}::_) _ _;first|(refine wW rfl rfl rfl (zR (z:=.b false) (k:=K2 farm reach) rfl useLaw useKey rfl rfl yP rfl rfl hkf g2 rfl) ?_))|(show EXL _ _ _ ({dst:=_,op:=.lookup 133 _ _ false,type:=_,pos:=_,after:=_,guard:=some _}::_) _ _;apply uS;rfl;(first|rfl|assumption);rfl;rfl;refine zR (z:=.b false) (k:=K2 farm reach) rfl useLaw useKey rfl rfl yP rfl rfl hkf g3 rfl)|(refine yX ?_;intros)|(refine yV ?_ ?_<;>(intro z;cases z with|_ h)<;>intro hp)|fail
  all_goals
   refine zW .nil zG yY (zN ?_)
   simp_all
 |false=>
  rw[hb]at g2
  rw[if_neg (by decide)]
  clear hb
  repeat' first|(show EXL _ _ _ ({dst:=_,op:=.lookup 133 _ _ false,type:=_,pos:=_,after:=_,guard:=none}::_) _ _;first|(refine wW rfl rfl rfl (zR (z:=.b false) (k:=K2 farm reach) rfl useLaw useKey rfl rfl yP rfl rfl hkf g2 rfl) ?_))|(show EXL _ _ _ ({dst:=_,op:=.lookup 133 _ _ false,type:=_,pos:=_,after:=_,guard:=some _}::_) _ _;apply uS;rfl;(first|rfl|assumption);rfl;rfl;refine zR (z:=.b false) (k:=K2 farm reach) rfl useLaw useKey rfl rfl yP rfl rfl hkf g3 rfl)|(refine yX ?_;intros)|(refine yV ?_ ?_<;>(intro z;cases z with|_ h)<;>intro hp)|fail
  all_goals
   refine zW .nil zG yY (zN ?_)
   simp_all
end Go.Proofs.YtaoaafdommlhcaaGreat

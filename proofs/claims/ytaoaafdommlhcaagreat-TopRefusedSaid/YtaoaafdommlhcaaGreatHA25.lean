/- Parts of the proof that belong together: Ee Ef Eg. -/
import Derived.Test.YtaoaafdommlhcaaGreatHA07
import Derived.Test.YtaoaafdommlhcaaGreatHA24
set_option maxRecDepth 10000
set_option maxHeartbeats 16000000
set_option linter.unusedSimpArgs false
set_option linter.unusedVariables false
set_option autoImplicit false
open Go.Proofs.Tryz
namespace Go.Proofs.YtaoaafdommlhcaaGreat
def TakeB(d:Dis)(f:BkF):Prop:= ∀(r a:Int) (x:KL),f (K2 r a)=some x→ ∃g,d.G[r.toNat]?=some g∧g.kind=1
def DedTk(d:Dis)(x:Ded):Prop:= ∃g,d.G[x.right.toNat]?=some g∧g.kind=1
theorem fits_take{d:Dis}{E:Int→Option Ded}{x:Ded}(h:fitsB xL d E x=true)(hk:x.kind≠4):DedTk d x:=by
 unfold fitsB at h
 simp only[Bool.and_eq_true]at h
 obtain⟨_,h⟩:=h
 have held:pZ d x=true→DedTk d x:=fun h=>by
  unfold pZ at h
  simp only[Bool.and_eq_true]at h
  have h2:=h.1.2
  split at h2
  ·rename_i g hg;exact⟨g,hg,by simpa using h2⟩
  ·cases h2
 by_cases h1:x.kind=1
 ·rw[if_pos h1]at h
  simp only[Bool.and_eq_true]at h
  exact held h.1.1
 rw[if_neg h1]at h
 by_cases h2:x.kind=2
 ·rw[if_pos h2]at h
  simp only[Bool.and_eq_true]at h
  exact held h.1
 rw[if_neg h2]at h
 by_cases h3:x.kind=3
 ·rw[if_pos h3]at h
  exact held h
 rw[if_neg h3,if_neg hk]at h
 cases h
theorem beg_take{d:Dis}: ∀{l:List Rgt} {i:Nat} {f:BkF},(∀(k:Nat) x,l[k]?=some x→d.G[i+k]?=some x)→TakeB d f→TakeB d (begF i l f)
 |[],_,_,_,h=>h
 |x::l,i,f,hl,h=>by
  unfold begF
  refine beg_take (fun k y hy=>by have:=hl (k+1) y (by simpa using hy);rwa [show i+(k+1)=i+1+k by omega]at this) ?_
  split
  ·rename_i h1
   intro r a y hy
   unfold xN at hy
   split at hy
   ·rename_i e
    obtain⟨rfl,_⟩:=K2_inj.1 e
    exact⟨x,by have:=hl 0 x rfl;simpa using this,h1⟩
   ·exact h r a y hy
  ·exact h
theorem does_take{d:Dis}{x:Ded}(hx:DedTk d x){f:BkF}(h:TakeB d f)(n:Int):TakeB d (doesF x n f):=by
 have hadds: ∀(v:Prt→Int) (l:List Prt) (f:BkF),TakeB d f→TakeB d (vU x.right v l f):=fun v l f h r a y hy=>by
  rcases addsK_some hy with⟨p,_,e⟩|⟨z,hz⟩
  ·obtain⟨rfl,_⟩:=K2_inj.1 e;exact hx
  ·exact h r a z hz
 unfold doesF
 split
 ·intro r a y hy
  rcases addK_some hy with e|hz
  ·obtain⟨rfl,_⟩:=K2_inj.1 e;exact hx
  ·exact h r a y hz
 ·split
  ·exact hadds _ _ _ (hadds _ _ _ h)
  ·exact h
theorem eff_take{d:Dis}: ∀{l:List Ded} {S:BkF×List Int},(∀x∈l,DedTk d x)→TakeB d S.1→TakeB d (l.foldl effS S).1
 |[],_,_,h=>h
 |x::l,S,hl,h=>eff_take (l:=l) (fun y hy=>hl y (by simp[hy])) (by
  unfold effS
  split
  ·exact h
  ·exact does_take (hl x (by simp)) (fun r a y hy=>h r a y (delK_some hy)) _)
theorem book_take{d:Dis}{l:List Ded}(h:wF xL d l=0)(hour known:Int):TakeB d (effF d (vL l hour known)).1:=by
 obtain⟨_,_,h3⟩:=kU h
 unfold effF
 refine eff_take (fun x hx=>?_) (beg_take (fun k x hx=>by simpa using hx) (fun r a x hx=>by cases hx))
 obtain⟨k1,k2⟩:=count_mem hx
 obtain⟨E,hE⟩:=deeds_fit h3 x k1
 refine fits_take hE fun e=>?_
 unfold goneB at k2
 rw[e]at k2
 simp at k2
structure Clm where
 right:Int
 farm:Int
 hour:Int
 litres:Int
 rank:Int
 deriving DecidableEq
abbrev clmC(c:Clm):List AV:=[.int .i64 c.right,.int .i64 c.farm,.int .i64 c.hour,.int .i64 c.litres,.int .i64 c.rank]
abbrev clmV(c:Clm):AV:=.agg (clmC c)
abbrev clms(l:List Clm):AV:=.dl 5 (l.map clmC)
def openR(hour:Int)(x:Rgt):Bool:=decide (x.frm≤hour)&&decide (hour≤x.to)&&decide ((hour-x.frm)%x.every<x.length)
def openH(d:Dis)(hour:Int)(h:Hol):Option Clm:=match d.G[h.right.toNat]? with
 |some x=>if openR hour x then some ⟨h.right,h.farm,hour,h.litres,h.rank⟩else none
 |none=>none
def openL(d:Dis)(l:List Ded)(hour known:Int):List Clm:=(kY d (effF d (vL l hour known)).1).filterMap (openH d hour)
structure TakeOk(d:Dis)(x:Rgt):Prop where
 kd:x.kind=1
 fr:0≤x.frm∧x.frm≤x.to∧x.to≤d.hours-1
 rk:0≤x.rank∧x.rank≤1048576
 lt:1≤x.litres∧x.litres≤1073741824
 ev:1≤x.length∧x.length≤x.every∧x.every≤d.hours
theorem take_ok{d:Dis}{x:Rgt}(h:qC d x=true)(hk:x.kind=1):TakeOk d x:=by
 unfold qC at h
 rw[if_pos hk]at h
 simp[vS]at h
 exact⟨hk,by omega,by omega,by omega,by omega⟩
theorem hold_right{d:Dis}{l:List Ded}(hc:wF xL d l=0){hour known:Int}{h:Hol}(hh:h∈kY d (effF d (vL l hour known)).1):
  ∃(r a:Nat) (x:Rgt),h.right=r∧h.farm=a∧d.G[r]?=some x∧a<d.F.length∧TakeOk d x∧h.rank=x.rank∧1≤h.litres∧h.litres≤1073741824:=by
 obtain⟨r,a,h1,h2,h3,rfl⟩:=holds_mem.1 hh
 obtain⟨hd,_,_⟩:=kU hc
 obtain⟨hfe,hv⟩:=zP hd
 obtain⟨k1,k2⟩:=count_ok hc hour known
 have hB:BkOk d (effF d (vL l hour known)).1:=eff_ok k1 (beg_all hv)
 have hT:=book_take hc hour known
 generalize (effF d (vL l hour known)).1=g at h3 hB hT ⊢
 have hle:=hB.le (K2 r a)
 cases hg:g (K2 r a) with
 |none=>unfold zV at h3;rw[hg]at h3;exact absurd h3 (by decide)
 |some y=>
  obtain⟨x,hx,hk⟩:=hT r a y hg
  simp only[Int.toNat_natCast]at hx
  have hok:TakeOk d x:=by
   unfold yD at hv
   simp only[Bool.and_eq_true]at hv
   exact take_ok (List.all_eq_true.1 hv.1.2 x (List.mem_of_getElem? hx)) hk
  exact⟨r,a,x,rfl,rfl,hx,h2,hok,by simp only[kH,rankG,hx],by simp only[kH];omega,by simp only[kH];omega⟩
theorem open_c(d:Dis)(l:List Ded)(hour known:Int)(σ:List Ent):SCall prog 53 [disV d,deds l,.int .i64 hour,.int .i64 known] σ (fun r τ=> ∃b1 b2 b3 b4,r=.fn (.func 106) [] [.ptr b1 0,.ptr b2 0,.ptr b3 0,.ptr b4 0]∧
  τ=.cells b4 [.int .i64 known] 3::.cells b3 [.int .i64 hour] 3::.cells b2 [deds l] 32::.cells b1 (disC d) 31::σ):=by
 refine zZ func53 rfl (by simp) ?_
 refine yW ?_;intros
 rename Nat=>b4;revert b4;rename Nat=>b3;revert b3;rename Nat=>b2;revert b2;rename Nat=>b1;revert b1
 intro b1 b2 b3 b4
 refine zS (σ3:=.cells b4 [.int .i64 known] 3::.cells b3 [.int .i64 hour] 3::.cells b2 [deds l] 32::.cells b1 (disC d) 31::σ) .nil zG zJ ?_
 exact zY ⟨_,_,_,_,rfl,rfl⟩
theorem hol_get{l:List Hol}{k:Nat}{x:Hol}(h:l[k]?=some x):(l.map holC)[k]?=some (holC x):=by rw[List.getElem?_map,h];rfl
theorem open1_c(d:Dis)(l:List Ded)(hc:wF xL d l=0)(hour known:Int)(hh:0≤hour∧hour<d.hours)(hk:0≤known∧known≤1048576)(hhr:d.hours≤4096)(b1 b2 b3 b4:Nat):
  Yields prog 106 [] [.ptr b1 0,.ptr b2 0,.ptr b3 0,.ptr b4 0] ((openL d l hour known).map fun c=>[clmV c])
   (fun τ=>Ent.cells b1 (disC d) 31∈τ∧Ent.cells b2 [deds l] 32∈τ∧Ent.cells b3 [.int .i64 hour] 3∈τ∧Ent.cells b4 [.int .i64 known] 3∈τ):=by
 intro y σ I Stop hC hy h0
 refine zZ func106 rfl (by simp) ?_
 obtain⟨m1,m2,m3,m4⟩:=hC _ _ h0
 have c1:=at_c d l hc hour known hh hk hhr
 have hR:=fun h=>hold_right (h:=h) hc (hour:=hour) (known:=known)
 unfold openL at hy ⊢
 generalize kY d (effF d (vL l hour known)).1=H at c1 hR hy ⊢
 clear hc hk
 repeat' first|(apply yQ;exact zD;rfl;rfl;refine zL ?_;exact c1 _)|(refine xV ?_;and_intros<;>first|exact nl|intros)|fail
 clear c1
 refine jY (t:=19) rfl (by first|exact(List.length_map _).symm|rfl) (fun hlen=>?_)
 refine zU (fun(z:Nat×Nat×List Ent)=>(⟨[(0,.fn (.yield y) [] []),(1,.ptr b1 0),(2,.ptr b2 0),(3,.ptr b3 0),(4,.ptr b4 0),(19,hols H),(20,.int .i64 H.length),(21,.int .i64 (z.1:Nat))],z.2.2,[],f106.ntmps⟩:St)) (fun z=>z.1≤H.length∧(H.drop z.1).filterMap (openH d hour)=(H.filterMap (openH d hour)).drop z.2.1∧z.2.1≤(H.filterMap (openH d hour)).length∧I z.2.1 z.2.2) (fun z=>H.length-z.1) (0,0,σ) (⟨Nat.zero_le _,rfl,Nat.zero_le _,h0⟩) (St.le_of zC yY) ?_
 intro z hI
 obtain⟨k,j,τ⟩:=z
 obtain⟨hI1,hI2,hI3,hI4⟩:=hI
 dsimp only at hI1 hI2 hI3 hI4 ⊢
 clear m1 m2 m3 m4 h0
 obtain⟨m1,m2,m3,m4⟩:=hC _ _ hI4
 by_cases hk:k<H.length
 ·obtain⟨h,hx⟩:=zH hk
  have gx:=hol_get hx
  obtain⟨r,a,x,e1,e2,hg,ha,hT,e5,hl1,hl2⟩:=hR h (List.mem_of_getElem? hx)
  have gg:=rgt_get hg
  rw[wZ hx,List.filterMap_cons]at hI2
  have hop:openH d hour h=if openR hour x then some ⟨h.right,h.farm,hour,h.litres,h.rank⟩else none:=by unfold openH;rw[e1,Int.toNat_natCast,hg]
  rw[hop]at hI2
  obtain⟨h_r,h_a,n,rk⟩:=h
  dsimp only at e1 e2 e5 hl1 hl2 hI2
  subst e1 e2 e5
  clear hop hR hg hx
  obtain⟨t1,⟨t2,t3,t4⟩,t5,t6,t7,t8,t9⟩:=hT
  clear t1 t5 t6 ha
  by_cases q1:hour<x.frm
  ·rw[show openR hour x=false by unfold openR;simp;omega,if_neg (by decide)]at hI2
   clear hy
   refine yW ?_;intros
   exact⟨(k+1,j,τ),⟨hk,hI2,hI3,hI4⟩,by dsimp only;omega,(St.le_of zC zJ)⟩
  by_cases q2:x.to<hour
  ·rw[show openR hour x=false by unfold openR;simp;omega,if_neg (by decide)]at hI2
   clear hy
   refine yW ?_;intros
   exact⟨(k+1,j,τ),⟨hk,hI2,hI3,hI4⟩,by dsimp only;omega,(St.le_of zC zJ)⟩
  by_cases q3:x.length≤(hour-x.frm)%x.every
  ·rw[show openR hour x=false by unfold openR;simp;omega,if_neg (by decide)]at hI2
   clear hy
   refine yW ?_;intros
   exact⟨(k+1,j,τ),⟨hk,hI2,hI3,hI4⟩,by dsimp only;omega,(St.le_of zC zJ)⟩
  ·rw[show openR hour x=true by unfold openR;simp;omega,if_pos rfl]at hI2
   have hj:(H.filterMap (openH d hour))[j]?=some ⟨r,a,hour,n,x.rank⟩:=by
    have:=congrArg (fun m:List Clm=>m[0]?) hI2
    simpa using this.symm
   have hjd:(H.drop (k+1)).filterMap (openH d hour)=(H.filterMap (openH d hour)).drop (j+1):=by
    have:=congrArg (fun m:List Clm=>m.drop 1) hI2
    simpa using this
   have hjl:j<(H.filterMap (openH d hour)).length:=(List.getElem?_eq_some_iff.1 hj).1
   have hr:=hy j [clmV ⟨r,a,hour,n,x.rank⟩] τ (by rw[List.getElem?_map,hj];rfl) hI4
   clear hy hj hI2
   have hr2: ∀{bb bc:Nat} {Z Z2:List AV} {T T2:TypeId},SRound prog y [clmV ⟨r,a,hour,n,x.rank⟩] (.cells bb Z T::.cells bc Z2 T2::τ) fun r σ'=> ∃σ1,σ'=.cells bb Z T::.cells bc Z2 T2::σ1∧(r=.bool true∧I (j+1) σ1∨r=.bool false∧Stop σ1):=fun {bb bc Z Z2 T T2}=>by
    have:=SRound.front [.cells bb Z T,.cells bc Z2 T2] hr
    simpa using this
   repeat' first|(refine xD (.call {callee:=.value (.tmp _),args:=_,argTypes:=_}) ?_;refine zK rfl rfl rfl (tX rfl rfl hr2) ?_;rintro _ _ ⟨σ2,rfl,⟨rfl,hs⟩|⟨rfl,hs⟩⟩)|(refine yX ?_;intros)|refine zT ?_|(refine yV ?_ ?_<;>(intro z;cases z with|_ h)<;>intro hp)|exact nl|fail
   ·exact⟨(k+1,j+1,σ2),⟨hk,hjd,hjl,hs⟩,by dsimp only;omega,(St.le_of zC zJ)⟩
   ·refine zS (σ3:=σ2) .nil zG zJ ?_
    exact zY (.inr hs)
 ·obtain rfl:k=H.length:=by omega
  have hj:j=(H.filterMap (openH d hour)).length:=by
   rw[List.drop_length]at hI2
   have:=List.drop_eq_nil_iff.1 hI2.symm
   omega
  refine yW ?_;intros
  refine zS (σ3:=τ) .nil zG zJ ?_
  exact zY (.inl (by rw[List.length_map,←hj];exact hI4))
open Go.Shelf Go.Sort Go.RowKit
theorem firstI_c(l:List Int)(hl:l.length≤1000)(σ:List Ent):SCall prog 114 [ints l] σ (Is (.int .i64 (orI l)) σ):=by
 refine zZ func114 rfl (by simp) ?_
 refine yW ?_;intros
 refine zU (fun(k:Nat)=>(⟨[(5,ints l),(6,.int .i64 l.length),(7,.int .i64 k)],σ,[],f114.ntmps⟩:St)) (fun k=>k≤l.length∧orI l=orI (l.drop k)) (fun k=>l.length-k) 0 (⟨by omega,rfl⟩) (St.le_of zC yY) ?_
 intro k hI
 obtain⟨hI1,hI2⟩:=hI
 by_cases hk:k<l.length
 ·obtain⟨x,hx⟩:=zH hk
  have gx:=wU hx
  rw[wZ hx,orI]at hI2
  clear hx
  by_cases h0:x=0
  ·rw[if_pos h0]at hI2
   refine yW ?_;intros
   exact⟨k+1,⟨hk,hI2⟩,by omega,(St.le_of zC zJ)⟩
  ·rw[if_neg h0]at hI2
   rw[hI2]
   clear hI2
   refine yW ?_;intros
   refine zW .nil zG zJ ?_
   rfl
 ·rw[List.drop_of_length_le (by omega)]at hI2
  rw[hI2]
  refine yW ?_;intros
  refine zW .nil zG zJ ?_
  rfl
def clmK(c:Clm):List Int:=[c.hour,c.rank,c.right,c.farm]
theorem order_c(x y:Clm)(σ:List Ent):SCall prog 60 [clmV x,clmV y] σ (Is (.int .i64 (pV (clmK x) (clmK y))) σ):=by
 refine zZ func60 rfl (by simp) ?_
 refine yW ?_;intros
 rename Nat=>by_;revert by_;rename Nat=>bx;revert bx
 intro bx by_
 refine yB (fun e=>e=.cells bx (clmC x) 57∨e=.cells by_ (clmC y) 57) [4,9,14,19,20,21] 22 rfl (by kernel_rfl) rfl ?_
 simp only[List.take_succ_cons,List.take_zero,List.drop_succ_cons,List.drop_zero]
 repeat' first|(refine zgp (.call {callee:=.value (.func 43),args:=_,argTypes:=_}) ?_;refine yN rfl rfl (zQ rfl rfl (zX (by kernel_rfl)) (cmpI_c _ _ _)) ?_;rintro _ _ ⟨⟩;refine⟨zks,?_⟩)|(refine zgp (.buildSlice _ _ _) ?_;refine xH rfl rfl (vF (xT rfl rfl (by decide) rfl rfl zck)) ?_)|(refine zgp (.call {callee:=.value (.func 114),args:=_,argTypes:=_}) ?_;refine yN rfl rfl (zQ rfl rfl (zX (by kernel_rfl)) (firstI_c [wQ x.hour y.hour,wQ x.rank y.rank,wQ x.right y.right,wQ x.farm y.farm] (by simp) _)) ?_;rintro _ _ ⟨⟩;refine⟨zks,?_⟩)|(refine yX ?_;intros)|fail
 all_goals
  refine zS (σ3:=σ) .nil zG zJ ?_
  exact zY .mk
structure Fnd where
 c:Clm
 reach:Int
instance:Inhabited Fnd:=⟨⟨⟨0,0,0,0,0⟩,0⟩⟩
abbrev fndC(f:Fnd):List AV:=[.int .i64 f.c.right,.int .i64 f.c.farm,.int .i64 f.c.hour,.int .i64 f.c.litres,.int .i64 f.c.rank,.int .i64 f.reach]
def fndE(f:Fnd):List Value:=[.int .i64 f.c.right,.int .i64 f.c.farm,.int .i64 f.c.hour,.int .i64 f.c.litres,.int .i64 f.c.rank,.int .i64 f.reach]
def fndK(f:Fnd):List Int:=clmK f.c
abbrev fnds(l:List Fnd):AV:=.dl 6 (l.map fndC)
theorem fnd_rel(M:Mem)(l:List Fnd): ∀vs,VRels M (l.map fndC).flatten vs↔vs=l.flatMap fndE:=by
 induction l with
 |nil=>intro vs;cases vs<;>simp[VRels]
 |cons x l ih=>
  intro vs
  simp only[List.map_cons,List.flatten_cons,List.cons_append,List.nil_append,VRels,VRel,List.flatMap_cons,fndE]
  constructor
  ·rintro⟨v1,r1,rfl,rfl,v2,r2,rfl,rfl,v3,r3,rfl,rfl,v4,r4,rfl,rfl,v5,r5,rfl,rfl,v6,r6,rfl,rfl,h⟩
   rw[(ih _).1 h]
  ·rintro rfl
   exact⟨_,_,rfl,rfl,_,_,rfl,rfl,_,_,rfl,rfl,_,_,rfl,rfl,_,_,rfl,rfl,_,_,rfl,rfl,(ih _).2 (by simp[fndE])⟩
theorem fndCmp_c(x y:Fnd)(σ:List Ent):SCall prog 59 [.agg (fndC x),.agg (fndC y)] σ (Is (.int .i64 (pV (fndK x) (fndK y))) σ):=by
 refine zZ func59 rfl (by simp) ?_
 repeat' first|(apply yQ;exact zD;rfl;rfl;refine zL ?_;exact order_c x.c y.c _)|(refine xV ?_;and_intros<;>first|exact nl|intros)|fail
 all_goals
  refine zW .nil zG zJ ?_
  rfl
def Tryz.sortFnd_ren:Go.Shelf.Ren:=⟨fun|6=>58|15=>113|14=>112|28=>173|29=>174|20=>165|21=>166|22=>167|23=>168|24=>169|25=>170|26=>171|27=>172|46=>227|47=>228|48=>229|49=>230|50=>231|57=>272|n=>n,fun|22=>67|24=>71|25=>149|3=>3|39=>193|0=>0|53=>275|55=>277|4=>4|46=>269|45=>268|50=>118|5=>5|9=>9|66=>323|70=>327|76=>351|77=>352|n=>n,fun|n=>n⟩
theorem Tryz.sortFnd:Go.Proofs.SlLaysF0.n6 prog Tryz.sortFnd_ren:={
 mixed:=by kernel_rfl
 f6:=⟨f58.name,by decide,func58.trans (congrArg some (by kernel_rfl))⟩
 f14:=⟨f112.name,by decide,func112.trans (congrArg some (by kernel_rfl))⟩
 f15:=func113.trans (congrArg some (by kernel_rfl))
 f20:=⟨f165.name,by decide,func165.trans (congrArg some (by kernel_rfl))⟩
 f21:=⟨f166.name,by decide,func166.trans (congrArg some (by kernel_rfl))⟩
 f22:=⟨f167.name,by decide,func167.trans (congrArg some (by kernel_rfl))⟩
 f23:=⟨f168.name,by decide,func168.trans (congrArg some (by kernel_rfl))⟩
 f24:=⟨f169.name,by decide,func169.trans (congrArg some (by kernel_rfl))⟩
 f25:=⟨f170.name,by decide,func170.trans (congrArg some (by kernel_rfl))⟩
 f26:=⟨f171.name,by decide,func171.trans (congrArg some (by kernel_rfl))⟩
 f27:=⟨f172.name,by decide,func172.trans (congrArg some (by kernel_rfl))⟩
 f28:=func173.trans (congrArg some (by kernel_rfl))
 f29:=func174.trans (congrArg some (by kernel_rfl))
 f46:=⟨f227.name,by decide,func227.trans (congrArg some (by kernel_rfl))⟩
 f47:=func228.trans (congrArg some (by kernel_rfl))
 f48:=func229.trans (congrArg some (by kernel_rfl))
 f49:=⟨f230.name,by decide,func230.trans (congrArg some (by kernel_rfl))⟩
 f50:=⟨f231.name,by decide,func231.trans (congrArg some (by kernel_rfl))⟩
 f57:=⟨f272.name,by decide,func272.trans (congrArg some (by kernel_rfl))⟩
 t0:=Tryz.underlying0
 a0:=Tryz.isAgg0
 z0:=Tryz.sizeOf0
 v0:=Tryz.zeroValue0
 t3:=Tryz.underlying3
 a3:=Tryz.isAgg3
 z3:=Tryz.sizeOf3
 v3:=Tryz.zeroValue3
 t4:=Tryz.underlying4
 a4:=Tryz.isAgg4
 z4:=Tryz.sizeOf4
 v4:=Tryz.zeroValue4
 t5:=Tryz.underlying5
 a5:=Tryz.isAgg5
 z5:=Tryz.sizeOf5
 v5:=Tryz.zeroValue5
 t9:=Tryz.underlying9
 a9:=Tryz.isAgg9
 z9:=Tryz.sizeOf9
 v9:=Tryz.zeroValue9
 t22:=Tryz.underlying67
 a22:=Tryz.isAgg67
 z22:=Tryz.sizeOf67
 v22:=Tryz.zeroValue67
 t25:=Tryz.underlying149
 a25:=Tryz.isAgg149
 z25:=Tryz.sizeOf149
 v25:=Tryz.zeroValue149
 t39:=Tryz.underlying193
 a39:=Tryz.isAgg193
 z39:=Tryz.sizeOf193
 v39:=Tryz.zeroValue193
 t45:=Tryz.underlying268
 a45:=Tryz.isAgg268
 z45:=Tryz.sizeOf268
 v45:=Tryz.zeroValue268
 t46:=Tryz.underlying269
 a46:=Tryz.isAgg269
 z46:=Tryz.sizeOf269
 v46:=Tryz.zeroValue269
 t50:=Tryz.underlying118
 a50:=Tryz.isAgg118
 z50:=Tryz.sizeOf118
 v50:=Tryz.zeroValue118
 t53:=Tryz.underlying275
 a53:=Tryz.isAgg275
 z53:=Tryz.sizeOf275
 v53:=Tryz.zeroValue275
 t55:=Tryz.underlying277
 a55:=Tryz.isAgg277
 z55:=Tryz.sizeOf277
 v55:=Tryz.zeroValue277
 t66:=Tryz.underlying323
 a66:=Tryz.isAgg323
 z66:=Tryz.sizeOf323
 v66:=Tryz.zeroValue323
 t70:=Tryz.underlying327
 a70:=Tryz.isAgg327
 z70:=Tryz.sizeOf327
 v70:=Tryz.zeroValue327
 t76:=Tryz.underlying351
 a76:=Tryz.isAgg351
 z76:=Tryz.sizeOf351
 v76:=Tryz.zeroValue351
 t77:=Tryz.underlying352
 a77:=Tryz.isAgg352
 z77:=Tryz.sizeOf352
 v77:=Tryz.zeroValue352}
theorem sortFnd_c{l:List Fnd}{v:Value}{σ:List Ent}{F:Ent→List Ent}(hb:l.length≤4000000)(hu: ∀e',Upd σ (.row v 71 6 (l.map fndC)) e' (F e')):
  SCall prog 58 [.slv v,.fn (.func 59) [] []] σ (fun r τ=>r=.tup []∧ ∃S:List Fnd,S.Perm l∧S.Pairwise (fun a b=>ltOf (fun a b=>pV (fndK a) (fndK b)) b a=false)∧τ=F (.row v 71 6 (S.map fndC))):=
 sortK_in Tryz.sortFnd (enc:=fndE) (av:=fndC) (by decide) (fun w=>(xE (b:=true) (sz:=6) rfl w).1) (fun w=>(xE (b:=true) (sz:=6) rfl w).2) (fun _=>rfl)
  (fun x v hv=>by simp only[fndE,List.mem_cons,List.not_mem_nil,or_false]at hv;rcases hv with rfl|rfl|rfl|rfl|rfl|rfl<;>rfl)
  (fun M x vs h=>by subst h;have:=(fnd_rel M [x] _).2 rfl;simpa using this) fnd_rel (fun _=>rfl) (swo_lex (n:=4) fun _=>rfl)
  (enters_of func59 (by kernel_rfl) rfl) (fun x y=>fndCmp_c x y []) (by omega) hu
theorem fInt_idx(l:List Int)(g:Nat)(first cap:List AV)(p:Int→Bool)(σ:List Ent)(he:Enters prog g)(hf: ∀(k:Nat) (c:Int),l[k]?=some c→SCall prog g (first++[(AV.int .i64) c]++cap) σ (Is (.bool (p c)) σ)):
  SCall prog 55 [.dl 1 (l.map intC),.fn (.func g) first cap] σ (Is (.int .i64 (yG p l 0)) σ):=by
 refine zZ func55 rfl (by simp) ?_
 refine uZ ?_;and_intros<;>first|exact nl|intros
 refine jY (t:=0) rfl (by first|exact(List.length_map _).symm|rfl) (fun hlen=>?_)
 refine zU (fun(k:Nat)=>(⟨[(0,.dl 1 (l.map intC)),(1,.fn (.func g) first cap),(7,.int .i64 l.length),(8,.int .i64 k)],σ,[],f55.ntmps⟩:St)) (fun k=>k≤l.length∧yG p l 0=yG p (l.drop k) k) (fun k=>l.length-k) 0 (⟨Nat.zero_le _,rfl⟩) (St.le_of zC yY) ?_
 intro k hI
 by_cases hk:k<l.length
 ·obtain⟨c,hc⟩: ∃c,l[k]?=some c:=⟨_,List.getElem?_eq_getElem hk⟩
  have hd:=pU p hc
  repeat' first|(refine zB ?_;intros)|(apply qX;exact zD;rfl;rfl;exact zQ rfl rfl he (hf k c hc))|(refine xB ?_;intros)|(refine yV ?_ ?_<;>(intro z;cases z with|_ h)<;>intro hp)|exact nl|fail
  ·refine zW .nil (.cons (.ofTmp rfl) .nil) (List.Sublist.refl _) (int_eq ?_)
   rw[hI.2,hd,if_pos (by assumption)]
  ·refine⟨k+1,⟨hk,by rw[hI.2,hd,if_neg (by simp[*])]⟩,by omega,St.le_of zC yY⟩
 ·refine uZ ?_;and_intros<;>first|exact nl|intros
  refine zW .nil (.cons (.ofTmp rfl) .nil) (List.Sublist.refl _) (int_eq ?_)
  rw[hI.2,List.drop_of_length_le (by omega)];rfl
def findI(p:Int→Bool):List Int→Int
 |[]=> -1
 |x::l=>if p x then x else findI p l
theorem findI_idx{p:Int→Bool}: ∀{l:List Int} {k:Nat},(yG p l k= -1∧findI p l= -1)∨ ∃i:Nat,yG p l k=((k+i:Nat):Int)∧l[i]?=some (findI p l)
 |[],k=>.inl ⟨rfl,rfl⟩
 |x::l,k=>by
  unfold yG findI
  by_cases hx:p x=true
  ·rw[if_pos hx,if_pos hx];exact .inr ⟨0,by simp,rfl⟩
  ·rw[if_neg hx,if_neg hx]
   rcases findI_idx (p:=p) (l:=l) (k:=k+1)with h|⟨i,h1,h2⟩
   ·exact .inl h
   ·exact .inr ⟨i+1,by rw[h1];omega,by simpa using h2⟩
theorem upL_le{R:List Rch}: ∀{n:Nat} {i x:Int},x∈upL R n i→0≤x∧x<R.length
 |0,_,_,h=>by simp[upL]at h
 |n+1,i,x,h=>by
  unfold upL at h
  split at h
  ·cases h
  ·split at h
   ·rename_i y hy
    rcases List.mem_cons.1 h with rfl|h
    ·have:=(List.getElem?_eq_some_iff.1 hy).1
     omega
    ·exact upL_le h
   ·cases h
theorem path_le{d:Dis}{i x:Int}(h:x∈pathL d i):0≤x∧x<d.R.length:=upL_le (List.mem_reverse.1 h)
theorem all1_c(S:LawS)(c:Clm)(r:Int)(hw:0≤S.ow r∧S.ow r≤1000)(hf:0≤c.farm∧c.farm≤1000)(hr:0≤r∧r≤1000){q1 q2 b1 b2 b3 n1 n2 n3:Nat}{σ:List Ent}(m1:Ent.imap b1 (intM S.ow) n1∈σ)(m2:Ent.kmap b2 [false,false] (kT S.od) n2∈σ)(m3:Ent.kmap b3 [false,false] (kT S.ea) n3∈σ)
  (m4:Ent.cells q1 (lawC b1 b2 b3) 135∈σ) (m5:Ent.cells q2 (clmC c) 57∈σ):
  SCall prog 56 [.int .i64 r,.ptr q1 0,.ptr q2 0] σ (Is (.bool (!mayB S c.farm r)) σ):=by
 refine zZ func56 rfl (by simp) ?_
 have c1:=may_c S c.farm r hw hf hr m1 m2 m3
 repeat' first|(apply yQ;exact zD;rfl;rfl;refine zL ?_;exact c1)|(refine xV ?_;and_intros<;>first|exact nl|intros)|cases ‹BV _ _›|fail
 all_goals
  refine zW .nil zG zJ ?_
  rfl
def xA{α:Type}(ks:α→List Int)(l:List α):List α:=l.mergeSort fun a b=>!pF (ks b) (ks a)
theorem ltI_ntrans{l m k:List Int}(e1:l.length=m.length)(e2:m.length=k.length)(h1:pF m l=false)(h2:pF k m=false):pF k l=false:=by
 cases h3:pF k l with
 |false=>rfl
 |true=>
  cases h4:pF l m with
  |true=>rw[ltI_trans (by omega) e1 h3 h4]at h2;cases h2
  |false=>rw[ltI_eq e1 h4 h1,h2]at h3;cases h3
section
variable {α:Type} {ks:α→List Int} {n:Nat}
theorem uL(l:List α):(xA ks l).Perm l:=List.mergeSort_perm _ _
theorem sortK_le(hn: ∀x,(ks x).length=n)(l:List α):(xA ks l).Pairwise fun a b=>pF (ks b) (ks a)=false:=by
 have e: ∀x y:α,(ks x).length=(ks y).length:=fun x y=>by rw[hn,hn]
 have h:=List.pairwise_mergeSort (le:=fun a b=>!pF (ks b) (ks a)) (fun a b c h1 h2=>by
  simp only[Bool.not_eq_true']at *
  exact ltI_ntrans (e _ _) (e _ _) h1 h2) (fun a b=>by
  cases h1:pF (ks b) (ks a) with
  |false=>rfl
  |true=>
   cases h2:pF (ks a) (ks b) with
   |false=>rfl
   |true=>have:=ltI_trans (e _ _) (e _ _) h1 h2;rw[ltI_irr]at this;cases this) l
 exact h.imp fun {a b} h=>by simpa using h
theorem sortK_is(hn: ∀x,(ks x).length=n){S L:List α}(hinj: ∀a∈L,∀b∈L,ks a=ks b→a=b)(hp:S.Perm L)(hS:S.Pairwise fun a b=>ltOf (fun a b=>pV (ks a) (ks b)) b a=false):S=xA ks L:=by
 have e: ∀x y:α,(ks x).length=(ks y).length:=fun x y=>by rw[hn,hn]
 refine List.Perm.eq_of_pairwise (le:=fun a b=>pF (ks b) (ks a)=false) (fun a b ha hb h1 h2=>?_) (hS.imp fun {a b} h=>by rwa [lt_lex]at h) (sortK_le hn L) (hp.trans (uL L).symm)
 exact hinj a (hp.mem_iff.1 ha) b ((uL L).mem_iff.1 hb) (ltI_eq (e _ _) h2 h1)
theorem sortK_up(hn: ∀x,(ks x).length=n){L:List α}(hinj: ∀a∈L,∀b∈L,ks a=ks b→a=b)(hnd:L.Nodup):(xA ks L).Pairwise fun a b=>pF (ks a) (ks b)=true:=by
 have e: ∀x y:α,(ks x).length=(ks y).length:=fun x y=>by rw[hn,hn]
 have h1:=sortK_le hn L
 have h2:(xA ks L).Nodup:=(uL L).nodup_iff.2 hnd
 have h3:(xA ks L).Pairwise fun a b=>pF (ks b) (ks a)=false∧a≠b:=h1.and h2
 refine h3.imp_of_mem fun {a b} ha hb h=>?_
 cases h4:pF (ks a) (ks b) with
 |true=>rfl
 |false=>exact absurd (hinj a ((uL L).mem_iff.1 ha) b ((uL L).mem_iff.1 hb) (ltI_eq (e _ _) h4 h.1)) h.2
end
def vP(d:Dis)(a:Int):Int:=match d.F[a.toNat]? with|some y=>y.reach|none=>0
def fndOf(d:Dis)(S:LawS)(c:Clm):Fnd:=⟨c,findI (fun r=>!mayB S c.farm r) (pathL d (vP d c.farm))⟩
def hourF(d:Dis)(l:List Ded)(known h:Int):List Fnd:=(openL d l h known).map (fndOf d (lawOf d h))
def uT(d:Dis)(l:List Ded)(known frm:Int)(n:Nat):List Fnd:=(List.range n).flatMap fun i:Nat=>hourF d l known (frm+i)
theorem hoursF_succ(d:Dis)(l:List Ded)(known frm:Int)(n:Nat):uT d l known frm (n+1)=uT d l known frm n++hourF d l known (frm+n):=by
 unfold uT
 rw[List.range_succ,List.flatMap_append]
 simp
theorem openL_len(d:Dis)(l:List Ded)(h known:Int):(openL d l h known).length≤d.G.length*d.F.length:=
 Nat.le_trans (List.length_filterMap_le _ _) (holds_len _ _)
theorem hoursF_len(d:Dis)(l:List Ded)(known frm:Int): ∀n,(uT d l known frm n).length≤n*(d.G.length*d.F.length)
 |0=>by simp[uT]
 |n+1=>by
  rw[hoursF_succ,List.length_append,Nat.add_mul,Nat.one_mul]
  have h1:=hoursF_len d l known frm n
  have h2:=openL_len d l (frm+n) known
  unfold hourF
  rw[List.length_map]
  omega
theorem openH_mem{d:Dis}{h:Hol}{hour:Int}{c:Clm}(hc:openH d hour h=some c):c=⟨h.right,h.farm,hour,h.litres,h.rank⟩∧ ∃x,d.G[h.right.toNat]?=some x∧openR hour x=true:=by
 unfold openH at hc
 split at hc
 ·rename_i x hx
  split at hc
  ·rename_i ho
   cases hc
   exact⟨rfl,x,hx,ho⟩
  ·cases hc
 ·cases hc
theorem open_mem{d:Dis}{l:List Ded}{hour known:Int}{c:Clm}(hc:c∈openL d l hour known): ∃h∈kY d (effF d (vL l hour known)).1,c=⟨h.right,h.farm,hour,h.litres,h.rank⟩∧ ∃x,d.G[h.right.toNat]?=some x∧openR hour x=true:=by
 unfold openL at hc
 obtain⟨h,h1,h2⟩:=List.mem_filterMap.1 hc
 exact⟨h,h1,openH_mem h2⟩
theorem hold_eq{d:Dis}{g:BkF}{h k:Hol}(hh:h∈kY d g)(hk:k∈kY d g)(e1:h.right=k.right)(e2:h.farm=k.farm):h=k:=by
 obtain⟨r,a,_,_,_,rfl⟩:=holds_mem.1 hh
 obtain⟨s,b,_,_,_,rfl⟩:=holds_mem.1 hk
 simp only[kH]at e1 e2
 obtain rfl:r=s:=by omega
 obtain rfl:a=b:=by omega
 rfl
theorem hoursF_mem{d:Dis}{l:List Ded}{known frm:Int}{n:Nat}{f:Fnd}(hf:f∈uT d l known frm n): ∃i:Nat,i<n∧f.c.hour=frm+i∧f.c∈openL d l (frm+i) known∧f=fndOf d (lawOf d (frm+i)) f.c:=by
 unfold uT at hf
 obtain⟨i,hi,h⟩:=List.mem_flatMap.1 hf
 unfold hourF at h
 obtain⟨c,hc,rfl⟩:=List.mem_map.1 h
 obtain⟨k,_,e,_⟩:=open_mem hc
 exact⟨i,List.mem_range.1 hi,by rw[e];rfl,hc,rfl⟩
theorem clm_inj{d:Dis}{l:List Ded}{h h' known:Int}{a b:Clm}(ha:a∈openL d l h known)(hb:b∈openL d l h' known)(hk:clmK a=clmK b):a=b∧h=h':=by
 obtain⟨k1,m1,e1,_⟩:=open_mem ha
 obtain⟨k2,m2,e2,_⟩:=open_mem hb
 subst e1 e2
 simp only[clmK,List.cons.injEq,and_true]at hk
 obtain⟨rfl,_,q3,q4⟩:=hk
 rw[hold_eq m1 m2 q3 q4]
 exact⟨rfl,rfl⟩
theorem hoursF_inj(d:Dis)(l:List Ded)(known frm:Int)(n:Nat): ∀a∈uT d l known frm n,∀b∈uT d l known frm n,fndK a=fndK b→a=b:=fun a ha b hb hk=>by
 obtain⟨i,_,_,h1,h2⟩:=hoursF_mem ha
 obtain⟨j,_,_,h3,h4⟩:=hoursF_mem hb
 obtain⟨e1,e2⟩:=clm_inj h1 h3 hk
 rw[h2,h4,e1,e2]
def allS(d:Dis)(l:List Ded)(frm to known:Int):List Fnd:=xA fndK (uT d l known frm (to-frm+1).toNat)
def allE(d:Dis)(l:List Ded)(frm to known:Int):Int:=
 if wF xL d l≠0 then wF xL d l else if frm<0∨to<frm∨d.hours≤to∨known<0∨1048576<known then 1
 else if 4096<(to-frm+1)*d.G.length then 2 else 0
end Go.Proofs.YtaoaafdommlhcaaGreat

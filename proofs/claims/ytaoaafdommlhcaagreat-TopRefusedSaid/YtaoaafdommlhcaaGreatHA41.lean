/- Parts of the proof that belong together: Kg Kh Ki Kj. -/
import Derived.Test.YtaoaafdommlhcaaGreatHA07
import Derived.Test.YtaoaafdommlhcaaGreatHA10
import Derived.Test.YtaoaafdommlhcaaGreatHA40
set_option maxRecDepth 10000
set_option maxHeartbeats 16000000
set_option linter.unusedSimpArgs false
set_option linter.unusedVariables false
set_option autoImplicit false
open Go.Proofs.Tryz
namespace Go.Proofs.YtaoaafdommlhcaaGreat
open Go.WideMaps
theorem r25_zero{d:Dis}{l:List Ded}(h:tC d l=0):yZ d=0∧l.length≤512∧ ∀x∈l,x.kind=4∨DedOk d x:=by
 unfold tC at h
 by_cases h1:checkW d≠0
 ·rw[if_pos h1]at h;exact absurd h h1
 rw[if_neg h1]at h
 have hd:=checkW_zero (d:=d) (by omega)
 cases ht:tooL l with
 |true=>rw[ht,if_pos rfl]at h;cases h
 |false=>
 rw[ht,if_neg (by decide)]at h
 unfold tooL at ht
 rw[Bool.or_eq_false_iff,decide_eq_false_iff_not]at ht
 cases he:eachR d l with
 |false=>rw[he,if_neg (by decide)]at h;cases h
 |true=>
 refine⟨hd,by omega,fun x hx=>?_⟩
 obtain⟨k,hk⟩:=List.getElem?_of_mem hx
 unfold eachR at he
 have:=List.all_eq_true.1 he k (List.mem_range.2 (qZ hk))
 rw[hk]at this
 dsimp only at this
 rw[Bool.and_eq_true]at this
 have hr:=this.2
 unfold rightR at hr
 have hheld:pZ d x=true→(0≤x.right∧x.right<d.G.length)∧0≤x.frm∧x.frm<d.F.length:=fun h=>by
  unfold pZ inB at h
  simp only[Bool.and_eq_true,decide_eq_true_eq]at h
  omega
 by_cases k1:x.kind=1
 ·rw[if_pos k1]at hr
  simp only[Bool.and_eq_true,decide_eq_true_eq]at hr
  obtain⟨_,⟨⟨⟨_,a1⟩,a2⟩,a3⟩,_⟩:=hr
  obtain⟨b1,b2⟩:=hheld a1
  exact .inr ⟨.inl k1,b1,b2,fun _=>⟨a2,a3⟩,fun e=>by omega⟩
 rw[if_neg k1]at hr
 by_cases k2:x.kind=2
 ·rw[if_pos k2]at hr
  simp only[Bool.and_eq_true,decide_eq_true_eq]at hr
  obtain⟨_,⟨_,a1⟩,a2⟩:=hr
  obtain⟨b1,b2⟩:=hheld a1
  exact .inr ⟨.inr (.inl k2),b1,b2,fun e=>by omega,fun _=>a2⟩
 rw[if_neg k2]at hr
 by_cases k3:x.kind=3
 ·rw[if_pos k3]at hr
  simp only[Bool.and_eq_true,decide_eq_true_eq]at hr
  obtain⟨_,_,a1⟩:=hr
  obtain⟨b1,b2⟩:=hheld a1
  exact .inr ⟨.inr (.inr k3),b1,b2,fun e=>by omega,fun e=>by omega⟩
 rw[if_neg k3]at hr
 by_cases k4:x.kind=4
 ·exact .inl k4
 ·rw[if_neg k4]at hr
  simp at hr
def voidV(l:List Ded)(n known:Int):Bool:=l.any fun y=>decide (y.kind=4)&&decide (y.of=n)&&decide (y.known≤known)
theorem void_r(l:List Ded)(hl:l.length≤512)(x:Ded)(known:Int)(σ:List Ent):SCall prog 218 [deds l,dedV x,.int .i64 known] σ (Is (.bool (voidV l x.no known)) σ):=by
 refine zZ func218 rfl (by simp) ?_
 have hlm:(l.map dedC).length=l.length:=List.length_map _
 obtain⟨B,hB⟩: ∃B,voidV l x.no known=B:=⟨_,rfl⟩
 rw[hB]
 repeat' first|(show EX _ _ (Code.seq (Code.region 1 _ _) _) _ _;refine Stuck.out ?_)|(refine vW ?_;intros)|fail
 all_goals try refine Stuck.mk ?_
 rename Nat=>b3;revert b3
 intro b3
 refine yW ?_;intros
 refine zU (fun(k:Nat)=>(⟨[(0,deds l),(2,.int .i64 known),(4,.ptr b3 0),(7,.int .i64 k)],.cells b3 (dedC x) 35::σ,[],f218.ntmps⟩:St)) (fun k=>k≤l.length∧B=voidV (l.drop k) x.no known) (fun k=>l.length-k) 0 (⟨Nat.zero_le _,by rw[←hB];rfl⟩) (St.le_of zC yY) ?_
 intro k hI
 clear hB
 obtain⟨hI1,hI2⟩:=hI
 by_cases hk:k<l.length
 ·obtain⟨y,hy⟩:=zH hk
  have gy:=tW hy
  unfold voidV at hI2
  rw[wZ hy,List.any_cons]at hI2
  by_cases h1:y.kind=4
  ·by_cases h2:y.of=x.no
   ·by_cases h3:y.known≤known
    ·rw[decide_eq_true h1,decide_eq_true h2,decide_eq_true h3]at hI2
     refine yW ?_;intros
     refine zW .nil zG yY (zN ?_)
     rw[hI2];rfl
    ·rw[decide_eq_false h3,Bool.and_false,Bool.false_or]at hI2
     refine yW ?_;intros
     refine⟨k+1,⟨hk,hI2⟩,by omega,St.le_of zC yY⟩
   ·rw[decide_eq_false h2,Bool.and_false,Bool.false_and,Bool.false_or]at hI2
    refine yW ?_;intros
    refine⟨k+1,⟨hk,hI2⟩,by omega,St.le_of zC yY⟩
  ·rw[decide_eq_false h1,Bool.false_and,Bool.false_and,Bool.false_or]at hI2
   refine yW ?_;intros
   refine⟨k+1,⟨hk,hI2⟩,by omega,St.le_of zC yY⟩
 ·rw[List.drop_of_length_le (by omega)]at hI2
  refine yW ?_;intros
  all_goals
   refine zW .nil zG yY (zN ?_)
   rw[hI2];rfl
theorem count_r(l:List Ded)(hl:l.length≤512)(hour known:Int)(σ:List Ent):SCall prog 154 [deds l,.int .i64 hour,.int .i64 known] σ (fun r τ=> ∃C:List Ded,r=deds C∧τ=σ∧C.length≤3000000∧ ∀x∈C,x∈l∧x.kind≠4):=by
 refine zZ func154 rfl (by simp) ?_
 have hlm:(l.map dedC).length=l.length:=List.length_map _
 refine xX 35 9 ?_
 refine yW ?_;intros
 refine zU (fun(z:Nat×Value×List Ded)=>(⟨[(0,deds l),(1,.int .i64 hour),(2,.int .i64 known),(7,.slv z.2.1),(8,.int .i64 z.1)],.row z.2.1 35 9 (z.2.2.map dedC)::σ,[],f154.ntmps⟩:St)) (fun z=>z.1≤4097∧z.2.2.length≤z.1*512∧ ∀x∈z.2.2,x∈l∧x.kind≠4) (fun z=>4097-z.1) (0,nilS,[]) (⟨Nat.zero_le _,Nat.le_refl _,fun x h=>(nomatch h)⟩) (St.le_of zC yY) ?_
 intro z hI
 obtain⟨a,v,C⟩:=z
 obtain⟨hI1,hI2,hI3⟩:=hI
 dsimp only at hI1 hI2 hI3 ⊢
 have hCm:(C.map dedC).length=C.length:=List.length_map _
 by_cases ha:a≤4096∧(a:Int)≤hour
 ·refine yW ?_;intros
  refine zU (fun(w:Nat×Value×List Ded)=>(⟨[(0,deds l),(1,.int .i64 hour),(2,.int .i64 known),(7,.slv w.2.1),(8,.int .i64 a),(9,.int .i64 w.1)],.row w.2.1 35 9 (w.2.2.map dedC)::σ,[],f154.ntmps⟩:St)) (fun w=>w.1≤l.length∧w.2.2.length≤a*512+w.1∧ ∀x∈w.2.2,x∈l∧x.kind≠4) (fun w=>l.length-w.1) (0,v,C) (⟨Nat.zero_le _,hI2,hI3⟩) (St.le_of zC yY) ?_
  intro w hI
  clear hI2 hI3 hCm
  obtain⟨k,v,C⟩:=w
  obtain⟨hJ1,hJ2,hJ3⟩:=hI
  dsimp only at hJ1 hJ2 hJ3 ⊢
  have hCm:(C.map dedC).length=C.length:=List.length_map _
  by_cases hk:k<l.length
  ·obtain⟨x,hx⟩:=zH hk
   have gx:=tW hx
   have hxm:=List.mem_of_getElem? hx
   have cv:=void_r l hl x known
   generalize voidV l x.no known=vb at cv
   by_cases h1:x.at_=a
   rotate_left
   ·clear cv
    refine yW ?_;intros
    refine⟨(k+1,v,C),⟨hk,by dsimp only;omega,hJ3⟩,by dsimp only;omega,St.le_of zC yY⟩
   by_cases h2:x.kind=4
   ·clear cv
    refine yW ?_;intros
    refine⟨(k+1,v,C),⟨hk,by dsimp only;omega,hJ3⟩,by dsimp only;omega,St.le_of zC yY⟩
   by_cases h3:x.known≤known
   rotate_left
   ·clear cv
    refine yW ?_;intros
    refine⟨(k+1,v,C),⟨hk,by dsimp only;omega,hJ3⟩,by dsimp only;omega,St.le_of zC yY⟩
   cases vb with
   |true=>
    repeat' first|(apply yQ;exact zD;rfl;rfl;refine zL ?_;exact cv _)|(refine xV ?_;and_intros<;>first|exact nl|intros)|cases ‹BV _ _›|exact wG|fail
    refine⟨(k+1,v,C),⟨hk,by dsimp only;omega,hJ3⟩,by dsimp only;omega,St.le_of zC yY⟩
   |false=>
    repeat' first|(apply yQ;exact zD;rfl;rfl;refine zL ?_;exact cv _)|(refine xV ?_;and_intros<;>first|exact nl|intros)|cases ‹BV _ _›|exact wG|fail
    rename Value=>v2
    have e:(C++[x]).map dedC=C.map dedC++[dedC x]:=by simp
    refine⟨(k+1,v2,C++[x]),⟨hk,by rw[List.length_append,List.length_singleton];omega,fun y hy=>?_⟩,by dsimp only;omega,?_⟩
    ·rcases List.mem_append.1 hy with h|h
     ·exact hJ3 y h
     ·rw[List.mem_singleton]at h;subst h;exact⟨hxm,h2⟩
    ·dsimp only
     rw[e]
     exact(St.le_of zC zJ)
  ·refine yW ?_;intros
   refine⟨(a+1,v,C),⟨by omega,by dsimp only;omega,hJ3⟩,by dsimp only;omega,St.le_of zC yY⟩
 ·by_cases hb:a≤4096
  ·have hc:¬ (a:Int)≤hour:=fun h=>ha ⟨hb,h⟩
   refine yW ?_;intros
   refine zS (σ3:=.row v 35 9 (C.map dedC)::σ) .nil zG zJ ?_
   exact xS .here (.here .nil) (zY ⟨C,rfl,rfl,by omega,hI3⟩)
  ·refine yW ?_;intros
   refine zS (σ3:=.row v 35 9 (C.map dedC)::σ) .nil zG zJ ?_
   exact xS .here (.here .nil) (zY ⟨C,rfl,rfl,by omega,hI3⟩)
open Go.WideMaps
theorem sum_set: ∀{H:List Int} {i:Nat} {a:Int} (v:Int),H[i]?=some a→zF (fun x=>x) (H.set i v)=zF (fun x=>x) H+(v-a)
 |[],_,_,_,h=>by simp at h
 |x::H,0,a,v,h=>by
  simp at h
  subst h
  simp only[List.set_cons_zero,zF]
  omega
 |x::H,i+1,a,v,h=>by
  have:=sum_set (H:=H) (i:=i) (a:=a) v (by simpa using h)
  simp only[List.set_cons_succ,zF]
  omega
structure HeldOk(F:Nat)(H:List Int):Prop where
 len:H.length=F
 nn: ∀v∈H,0≤v
 tot:zF (fun x=>x) H≤1073741824
theorem HeldOk.le{F:Nat}{H:List Int}(h:HeldOk F H){i:Nat}{a:Int}(hi:H[i]?=some a):0≤a∧a≤zF (fun x=>x) H:=by
 have hm:=List.mem_of_getElem? hi
 exact⟨h.nn a hm,qH (f:=fun x:Int=>x) (fun x hx=>h.nn x hx) a hm⟩
theorem HeldOk.set{F:Nat}{H:List Int}(h:HeldOk F H){i:Nat}{a:Int}(hi:H[i]?=some a){v:Int}(hv:0≤v)(ht:zF (fun x=>x) H+(v-a)≤1073741824):HeldOk F (H.set i v):=by
 refine⟨by rw[List.length_set];exact h.len,fun x hx=>?_,by rw[sum_set v hi];exact ht⟩
 rcases List.mem_or_eq_of_mem_set hx with h1|h1
 ·exact h.nn x h1
 ·omega
theorem HeldOk.at{F:Nat}{H:List Int}(h:HeldOk F H){i:Int}(hi:0≤i∧i<F): ∃(k:Nat) (a:Int),i=k∧k<F∧H[k]?=some a:=by
 obtain⟨a,ha⟩:=zH (l:=H) (k:=i.toNat) (by have:=h.len;omega)
 exact⟨i.toNat,a,by omega,by omega,ha⟩
theorem set_int(H:List Int)(i:Nat)(v:Int):(H.map intC).set i [.int .i64 v]=(H.set i v).map intC:=by rw[List.map_set]
theorem held_zero{F:Nat}{i:Nat}(hi:i<F){v:Int}(hv:0≤v∧v≤1073741824):HeldOk F ((List.replicate F 0).set i v):=by
 have hz: ∀F:Nat,zF (fun x:Int=>x) (List.replicate F 0)=0:=fun F=>wY fun x hx=>by rw[List.mem_replicate]at hx;exact hx.2
 have h0:HeldOk F (List.replicate F 0):=⟨by simp,fun x hx=>by rw[List.mem_replicate]at hx;omega,by rw[hz];omega⟩
 exact h0.set (i:=i) (a:=0) (by rw[List.getElem?_replicate,if_pos hi]) hv.1 (by rw[hz];omega)
theorem effect_r(d:Dis)(hd:yZ d=0)(C:List Ded)(hCl:C.length≤3000000)(hC: ∀x∈C,DedOk d x)(r:Nat)(g:Rgt)(hg:d.G[r]?=some g)(hk:g.kind=1)(σ:List Ent):
  SCall prog 155 [disV d,deds C,.int .i64 r] σ (fun res τ=> ∃H E:List Int,res=.tup [ints H,ints E]∧τ=σ∧HeldOk d.F.length H):=by
 refine zZ func155 rfl (by simp) ?_
 have hvv:=(zP hd).2
 have hfe:=yC (zP hd).1
 have hFm:(d.F.map frmC).length=d.F.length:=List.length_map _
 have hCm:(C.map dedC).length=C.length:=List.length_map _
 have gg:(d.G.map rgtC)[r]?=some (rgtC g):=by rw[List.getElem?_map,hg];rfl
 have hrt:qC d g=true:=by
  unfold yD at hvv
  simp only[Bool.and_eq_true]at hvv
  exact List.all_eq_true.1 hvv.1.2 g (List.mem_of_getElem? hg)
 obtain⟨hf,hlit⟩:=right_kind hrt
 obtain⟨l1,l2⟩:=hlit hk
 obtain⟨f0,hf0,hf1⟩:=nat_of hf
 have hz: ∀n:Nat,List.replicate n [AV.int .i64 0]=(List.replicate n (0:Int)).map intC:=fun n=>by simp
 have hbeg:=held_zero hf1 (v:=g.litres) ⟨by omega,l2⟩
 refine xX 3 1 ?_
 repeat' first|(show EX _ _ (Code.seq (Code.region 2 _ _) _) _ _;refine Stuck.out ?_)|(refine vW ?_;intros)|fail
 all_goals try refine Stuck.mk ?_
 rename Nat=>b3;revert b3
 intro b3
 rename Value=>v0
 refine yS (s':=⟨[(1,deds C),(2,.int .i64 (r:Nat)),(3,.ptr b3 0),(8,.slv v0)],.row v0 3 1 (List.replicate d.F.length [.int .i64 0])::.cells b3 (disC d) 31::.row nilS 3 1 []::σ,[],f155.ntmps⟩) (St.le_of zC yY) ?_
 rw[hz]
 have hrl:f0<((List.replicate d.F.length (0:Int)).map intC).length:=by simp;exact hf1
 clear hz hrt hvv hlit
 repeat' first|(show EX _ _ (Code.seq (Code.region 3 _ _) _) _ _;refine Stuck.out ?_)|(refine vW ?_;intros)|refine zT ?_|fail
 all_goals try refine Stuck.mk ?_
 refine yS (s':=⟨[(1,deds C),(2,.int .i64 (r:Nat)),(3,.ptr b3 0),(8,.slv v0)],.row v0 3 1 (((List.replicate d.F.length (0:Int)).map intC).set f0 [.int .i64 g.litres])::.cells b3 (disC d) 31::.row nilS 3 1 []::σ,[],f155.ntmps⟩) (St.le_of zC yY) ?_
 rw[set_int]
 clear hrl gg
 refine uZ ?_;and_intros<;>first|exact nl|intros
 refine zU (fun(z:Nat×List Int×Value×List Int)=>(⟨[(1,deds C),(2,.int .i64 (r:Nat)),(3,.ptr b3 0),(8,.slv v0),(9,.slv z.2.2.1),(10,.int .i64 (z.1:Nat))],.row v0 3 1 (z.2.1.map intC)::.cells b3 (disC d) 31::.row z.2.2.1 3 1 (z.2.2.2.map intC)::σ,[],f155.ntmps⟩:St)) (fun z=>z.1≤C.length∧HeldOk d.F.length z.2.1∧z.2.2.2.length≤z.1) (fun z=>C.length-z.1) (0,(List.replicate d.F.length 0).set f0 g.litres,nilS,[]) (⟨Nat.zero_le _,hbeg,Nat.zero_le _⟩) (St.le_of zC yY) ?_
 intro z hI
 clear hbeg
 obtain⟨k,H,V,E⟩:=z
 obtain⟨hI1,hI2,hI3⟩:=hI
 dsimp only at hI1 hI2 hI3 ⊢
 have hHm:(H.map intC).length=d.F.length:=by rw[List.length_map];exact hI2.len
 have hEm:(E.map intC).length=E.length:=List.length_map _
 by_cases hk2:k<C.length
 rotate_left
 ·refine uZ ?_;and_intros<;>first|exact nl|intros
  refine zS (σ3:=.row v0 3 1 (H.map intC)::.row V 3 1 (E.map intC)::σ) .nil zG zJ ?_
  exact xS .here (.tup (.here (.same .nil)) .nil) (xS .here (.tup (.same (.here .nil)) .nil) (zY ⟨H,E,rfl,rfl,hI2⟩))
 obtain⟨x,hx⟩:=zH hk2
 have gx:=tW hx
 have hxo:=hC x (List.mem_of_getElem? hx)
 by_cases hr:x.right=r
 rotate_left
 ·refine uZ ?_;and_intros<;>first|exact nl|intros
  refine⟨(k+1,H,V,E),⟨hk2,hI2,by dsimp only;omega⟩,by dsimp only;omega,St.le_of zC yY⟩
 obtain⟨i,n,hi1,hi2,hi3⟩:=hI2.at hxo.fm
 have gi:=wU hi3
 obtain⟨hn0,hn1⟩:=hI2.le hi3
 have htot:=hI2.tot
 have hil:i<(H.map intC).length:=qZ gi
 by_cases hz:n=0
 ·subst hz
  refine uZ ?_;and_intros<;>first|exact nl|intros
  rename Value=>V2
  have e:(E++[x.no]).map intC=E.map intC++[intC x.no]:=by simp
  refine⟨(k+1,H,V2,E++[x.no]),⟨hk2,hI2,by rw[List.length_append,List.length_singleton];omega⟩,by dsimp only;omega,?_⟩
  dsimp only
  rw[e]
  exact(St.le_of zC zJ)
 have hH1:HeldOk d.F.length (H.set i 0):=hI2.set hi3 (Int.le_refl _) (by omega)
 have hs1:=sum_set 0 hi3
 have htot1:zF (fun x=>x) (H.set i 0)+n≤1073741824:=by omega
 have hn:0<n:=by omega
 have hnle:n≤1073741824:=by omega
 clear hs1
 generalize hH9:H.set i 0=H1 at hH1 htot1
 have hs9:=set_int H i 0
 rw[hH9]at hs9
 repeat' first|(show EX _ _ (Code.seq (Code.region 8 _ _) _) _ _;refine Stuck.out ?_)|(refine vW ?_;intros)|(refine yV ?_ ?_<;>(intro z;cases z with|_ h)<;>intro hp)|exact nl|fail
 all_goals try refine Stuck.mk ?_
 rename Nat=>b11;revert b11
 intro b11
 repeat' first|(show EX _ _ (Code.seq (Code.region 13 _ _) _) _ _;refine Stuck.out ?_)|(refine vW ?_;intros)|(refine yV ?_ ?_<;>(intro z;cases z with|_ h)<;>intro hp)|exact nl|fail
 all_goals try refine Stuck.mk ?_
 refine yS (s':=⟨[(1,deds C),(2,.int .i64 (r:Nat)),(3,.ptr b3 0),(8,.slv v0),(9,.slv V),(10,.int .i64 (k:Nat)),(11,.ptr b11 0),(12,.int .i64 n)],.cells b11 (dedC x) 35::.row v0 3 1 ((H.map intC).set i [.int .i64 0])::.cells b3 (disC d) 31::.row V 3 1 (E.map intC)::σ,[],f155.ntmps⟩) (St.le_of zC yY) ?_
 rw[hs9]
 clear hs9 hH9 hI2 gi hi3 hil hi1 hi2 hHm htot gx hr
 rcases hxo.kd with k1|k1|k1
 ·obtain⟨j,m,hj1,hj2,hj3⟩:=hH1.at (hxo.to k1)
  have gj:=wU hj3
  have hjl:j<(H1.map intC).length:=qZ gj
  obtain⟨hm0,hm1⟩:=hH1.le hj3
  have hH2:HeldOk d.F.length (H1.set j (m+n)):=hH1.set hj3 (by omega) (by omega)
  repeat' first|(refine xV ?_;and_intros<;>first|exact nl|intros)|refine zT ?_|fail
  refine⟨(k+1,H1.set j (m+n),V,E),⟨hk2,hH2,by dsimp only;omega⟩,by dsimp only;omega,?_⟩
  dsimp only
  rw[←set_int]
  exact(St.le_of zC zJ)
 ·obtain⟨w1,w2,w3,w4⟩:=whole_law (hxo.pw k1) hn0
  have hpm:(x.parts.map prtC).length=x.parts.length:=List.length_map _
  refine uZ ?_;and_intros<;>first|exact nl|intros
  refine zU (fun(z:Nat×List Int×Int)=>(⟨[(1,deds C),(2,.int .i64 (r:Nat)),(3,.ptr b3 0),(8,.slv v0),(9,.slv V),(10,.int .i64 (k:Nat)),(11,.ptr b11 0),(12,.int .i64 n),(13,.int .i64 z.2.2),(14,.int .i64 (z.1:Nat))],.cells b11 (dedC x) 35::.row v0 3 1 (z.2.1.map intC)::.cells b3 (disC d) 31::.row V 3 1 (E.map intC)::σ,[],f155.ntmps⟩:St)) (fun z=>z.1≤x.parts.length∧HeldOk d.F.length z.2.1∧z.2.2=n-zF (kS n) (x.parts.take z.1)∧zF (fun x=>x) z.2.1+z.2.2≤1073741824) (fun z=>x.parts.length-z.1) (0,H1,n) (⟨Nat.zero_le _,hH1,by simp[zF],htot1⟩) (St.le_of zC yY) ?_
  intro z hI
  clear hH1 htot1
  obtain⟨q,H2,left⟩:=z
  obtain⟨hJ1,hJ2,hJ3,hJ4⟩:=hI
  dsimp only at hJ1 hJ2 hJ3 hJ4 ⊢
  have hlo: ∀y∈x.parts,0≤kS n y:=fun y hy=>(w4 y hy).2.2
  have hsp:zF (kS n) (x.parts.take q)+zF (kS n) (x.parts.drop q)=zF (kS n) x.parts:=by rw[←vQ,List.take_append_drop]
  have hdn:0≤zF (kS n) (x.parts.drop q):=uQ fun y hy=>hlo y (List.mem_of_mem_drop hy)
  have htn:0≤zF (kS n) (x.parts.take q):=uQ fun y hy=>hlo y (List.mem_of_mem_take hy)
  have hl0:0≤left:=by omega
  by_cases hq:q<x.parts.length
  ·obtain⟨y,hy⟩:=zH hq
   have gy:=prt_get hy
   obtain⟨y1,y2,y3⟩:=w4 y (List.mem_of_getElem? hy)
   have ct:=times_r y.share n y2 (by omega)
   obtain⟨j,m,hj1,hj2,hj3⟩:=hJ2.at y1
   have gj:=wU hj3
   have hjl:j<(H2.map intC).length:=qZ gj
   obtain⟨hm0,hm1⟩:=hJ2.le hj3
   have hnx:left-kS n y=n-zF (kS n) (x.parts.take (q+1)):=by
    rw[List.take_add_one,hy,vQ,hJ3]
    simp only[Option.toList_some,zF]
    omega
   have hle:kS n y≤left:=by
    have h1:zF (kS n) (x.parts.drop q)=kS n y+zF (kS n) (x.parts.drop (q+1)):=by rw[wZ hy];rfl
    have h2:0≤zF (kS n) (x.parts.drop (q+1)):=uQ fun y hy=>hlo y (List.mem_of_mem_drop hy)
    omega
   have e:kS n y=(y.share.n*n).fdiv y.share.d:=rfl
   rw[←e]at ct
   clear e
   generalize kS n y=lo at ct y3 hnx hle
   have hH3:HeldOk d.F.length (H2.set j (m+lo)):=hJ2.set hj3 (by omega) (by omega)
   have hs3:=sum_set (m+lo) hj3
   clear w4 hlo hsp hdn htn hxo
   repeat' first|(apply yQ;exact zD;rfl;rfl;refine zL ?_;exact ct _)|(refine xV ?_;and_intros<;>first|exact nl|intros)|refine zT ?_|fail
   refine⟨(q+1,H2.set j (m+lo),left-lo),⟨hq,hH3,hnx,by dsimp only;omega⟩,by dsimp only;omega,?_⟩
   dsimp only
   rw[←set_int]
   exact(St.le_of zC zJ)
  ·have hql:q=x.parts.length:=by omega
   rw[hql,List.take_length]at hJ3
   have hll:left≤x.parts.length:=by omega
   clear hlo hsp hdn htn hJ3 hnle hn1
   refine uZ ?_;and_intros<;>first|exact nl|intros
   refine zU (fun(z:Nat×List Int)=>(⟨[(1,deds C),(2,.int .i64 (r:Nat)),(3,.ptr b3 0),(8,.slv v0),(9,.slv V),(10,.int .i64 (k:Nat)),(11,.ptr b11 0),(13,.int .i64 left),(18,.int .i64 (z.1:Nat))],.cells b11 (dedC x) 35::.row v0 3 1 (z.2.map intC)::.cells b3 (disC d) 31::.row V 3 1 (E.map intC)::σ,[],f155.ntmps⟩:St)) (fun z=>z.1≤left∧HeldOk d.F.length z.2∧zF (fun x=>x) z.2+(left-z.1)≤1073741824) (fun z=>left.toNat-z.1) (0,H2) (⟨by dsimp only;omega,hJ2,by dsimp only;omega⟩) (St.le_of zC yY) ?_
   intro z hI
   clear hJ2 hJ4
   obtain⟨u,H3⟩:=z
   obtain⟨hK1,hK2,hK3⟩:=hI
   dsimp only at hK1 hK2 hK3 ⊢
   by_cases hu:(u:Int)<left
   ·obtain⟨y,hy⟩:=zH (show u<x.parts.length by omega)
    have gy:=prt_get hy
    obtain⟨y1,_,_⟩:=w4 y (List.mem_of_getElem? hy)
    obtain⟨j,m,hj1,hj2,hj3⟩:=hK2.at y1
    have gj:=wU hj3
    have hjl:j<(H3.map intC).length:=qZ gj
    obtain⟨hm0,hm1⟩:=hK2.le hj3
    have hH3:HeldOk d.F.length (H3.set j (m+1)):=hK2.set hj3 (by omega) (by omega)
    have hs3:=sum_set (m+1) hj3
    clear w4 hxo
    refine uZ ?_;and_intros<;>first|exact nl|intros
    refine⟨(u+1,H3.set j (m+1)),⟨by dsimp only;omega,hH3,by dsimp only;omega⟩,by dsimp only;omega,?_⟩
    dsimp only
    rw[←set_int]
    exact(St.le_of zC zJ)
   ·clear w4 hxo
    refine uZ ?_;and_intros<;>first|exact nl|intros
    refine⟨(k+1,H3,V,E),⟨hk2,hK2,by dsimp only;omega⟩,by dsimp only;omega,St.le_of zC yY⟩
 ·refine uZ ?_;and_intros<;>first|exact nl|intros
  refine⟨(k+1,H1,V,E),⟨hk2,hH1,by dsimp only;omega⟩,by dsimp only;omega,St.le_of zC yY⟩
open Go.WideMaps
def HolIn(d:Dis)(h:Hol):Prop:=(∃(i:Nat) (g:Rgt),h.right=i∧d.G[i]?=some g∧g.kind=1)∧ ∃a:Nat,h.farm=a∧a<d.F.length
theorem at25_r(d:Dis)(l:List Ded)(hck:tC d l=0)(hour known:Int)(hh:0≤hour∧hour<d.hours)(hkn:0≤known∧known≤1048576)(σ:List Ent):
  SCall prog 101 [disV d,deds l,.int .i64 hour,.int .i64 known] σ (fun r τ=> ∃HL:List Hol,r=.tup [.dl 4 (HL.map holC),.int .i64 0]∧τ=σ∧HL.length≤d.G.length*d.F.length∧ ∀h∈HL,HolIn d h):=by
 refine zZ func101 rfl (by simp) ?_
 obtain⟨hd,hl,hok⟩:=r25_zero hck
 have hvv:=(zP hd).2
 have hfe:=yC (zP hd).1
 have hGm:(d.G.map rgtC).length=d.G.length:=List.length_map _
 have c1:=check25_r d (by omega) l (by omega)
 rw[hck]at c1
 have c2:=count_r l hl hour known
 refine xX 201 4 ?_
 repeat' first|(show EX _ _ (Code.seq (Code.region 1 _ _) _) _ _;refine Stuck.out ?_)|(refine vW ?_;intros)|fail
 all_goals try refine Stuck.mk ?_
 rename Nat=>b4;revert b4
 intro b4
 repeat' first|(refine xD (.call {callee:=.value (.func 154),args:=_,argTypes:=_}) ?_;refine zK rfl rfl rfl (zQ rfl rfl (zX (by kernel_rfl)) (c2 _)) ?_;rintro _ _ ⟨C,rfl,rfl,hC1,hC2⟩)|(refine yX ?_;intros)|(apply yQ;exact zD;rfl;rfl;refine zL ?_;exact c1 _)|(refine yV ?_ ?_<;>(intro z;cases z with|_ h)<;>intro hp)|exact nl|fail
 clear c1 c2
 have hCo: ∀x∈C,DedOk d x:=fun x hx=>by
  obtain⟨h1,h2⟩:=hC2 x hx
  rcases hok x h1 with h|h
  ·exact absurd h h2
  ·exact h
 have ce:=fun r g hg hk σ=>effect_r d hd C hC1 hCo r g hg hk σ
 clear hC2 hCo hok
 refine zU (fun(z:Nat×Value×List Hol)=>(⟨[(4,.ptr b4 0),(11,deds C),(12,.slv z.2.1),(13,.int .i64 (z.1:Nat))],.cells b4 (disC d) 31::.row z.2.1 201 4 (z.2.2.map holC)::σ,[],f101.ntmps⟩:St)) (fun z=>z.1≤d.G.length∧z.2.2.length≤z.1*d.F.length∧ ∀h∈z.2.2,HolIn d h) (fun z=>d.G.length-z.1) (0,nilS,[]) (⟨Nat.zero_le _,Nat.zero_le _,fun h hx=>(nomatch hx)⟩) (St.le_of zC yY) ?_
 intro z hI
 obtain⟨i,V,HL⟩:=z
 obtain⟨hI1,hI2,hI3⟩:=hI
 dsimp only at hI1 hI2 hI3 ⊢
 have hbig:i*d.F.length≤256*600:=Nat.mul_le_mul (by omega) (by omega)
 by_cases hi:i<d.G.length
 rotate_left
 ·obtain rfl:i=d.G.length:=by omega
  clear ce
  refine yW ?_;intros
  refine zS (σ3:=.row V 201 4 (HL.map holC)::σ) .nil zG zJ ?_
  exact xS .here (.tup (.here (.same .nil)) .nil) (zY ⟨HL,rfl,rfl,hI2,hI3⟩)
 obtain⟨g,hg⟩:=zH hi
 have gg:(d.G.map rgtC)[i]?=some (rgtC g):=by rw[List.getElem?_map,hg];rfl
 have hmul:(i+1)*d.F.length=i*d.F.length+d.F.length:=by rw[Nat.add_mul,Nat.one_mul]
 by_cases hk:g.kind=1
 rotate_left
 ·clear ce
  refine yW ?_;intros
  refine⟨(i+1,V,HL),⟨hi,by dsimp only;omega,hI3⟩,by dsimp only;omega,St.le_of zC yY⟩
 have ce:=fun σ=>ce i g hg hk σ
 repeat' first|(refine xD (.call {callee:=.value (.func 155),args:=_,argTypes:=_}) ?_;refine zK rfl rfl rfl (zQ rfl rfl (zX (by kernel_rfl)) (ce _)) ?_;rintro _ _ ⟨H,E,rfl,rfl,hH⟩)|(refine yX ?_;intros)|(refine yV ?_ ?_<;>(intro z;cases z with|_ h)<;>intro hp)|exact nl|fail
 clear ce
 have hHl:=hH.len
 have hHm:(H.map intC).length=d.F.length:=by rw[List.length_map];exact hHl
 refine zU (fun(w:Nat×Value×List Hol)=>(⟨[(4,.ptr b4 0),(11,deds C),(12,.slv w.2.1),(13,.int .i64 (i:Nat)),(14,ints H),(16,.int .i64 (w.1:Nat))],.cells b4 (disC d) 31::.row w.2.1 201 4 (w.2.2.map holC)::σ,[],f101.ntmps⟩:St)) (fun w=>w.1≤d.F.length∧w.2.2.length≤i*d.F.length+w.1∧ ∀h∈w.2.2,HolIn d h) (fun w=>d.F.length-w.1) (0,V,HL) (⟨Nat.zero_le _,hI2,hI3⟩) (St.le_of zC yY) ?_
 intro w hI
 clear hI2 hI3
 obtain⟨a,V,HL⟩:=w
 obtain⟨hJ1,hJ2,hJ3⟩:=hI
 dsimp only at hJ1 hJ2 hJ3 ⊢
 have hLm:(HL.map holC).length=HL.length:=List.length_map _
 by_cases ha:a<d.F.length
 rotate_left
 ·refine yW ?_;intros
  refine⟨(i+1,V,HL),⟨hi,by dsimp only;omega,hJ3⟩,by dsimp only;omega,St.le_of zC yY⟩
 obtain⟨n,hn⟩:=zH (show a<H.length by omega)
 have gn:=wU hn
 by_cases hpos:0<n
 rotate_left
 ·refine yW ?_;intros
  refine⟨(a+1,V,HL),⟨ha,by dsimp only;omega,hJ3⟩,by dsimp only;omega,St.le_of zC yY⟩
 refine yW ?_;intros
 refine ex_drawLK (fun e=>e=.cells b4 (disC d) 31) 16 [15] rfl (by kernel_rfl) rfl ?_
 simp only[List.take_succ_cons,List.take_zero,List.drop_succ_cons,List.drop_zero]
 repeat' first|(refine zgw ?_;(refine wl_eff rfl rfl rfl (by apply g_append;rfl;rfl;rfl;(intro v';exact qJ);exact zsr;exact zon;exact zap) ?_;rintro _ _ ⟨v'⟩;refine⟨(by first|(rintro _ (rfl|rfl) _<;>exact yP)|(rintro _ rfl _;exact yP)|exact fun _ hk _=>hk.elim),?_⟩))|(refine zB ?_;intros)|(apply zwI;exact zD;rfl;rfl;intro σ' hl;exact vF (xT rfl rfl (by decide) rfl rfl zck))|(refine xB ?_;intros)|fail
 rename Value=>V2
 have e:(HL++[(⟨i,a,n,g.rank⟩:Hol)]).map holC=HL.map holC++[holC ⟨i,a,n,g.rank⟩]:=by simp
 refine⟨(a+1,V2,HL++[⟨i,a,n,g.rank⟩]),⟨ha,by dsimp only;rw[List.length_append,List.length_singleton];omega,fun h hx=>?_⟩,by dsimp only;omega,?_⟩
 ·rcases List.mem_append.1 hx with h1|h1
  ·exact hJ3 h h1
  ·rw[List.mem_singleton]at h1;subst h1;exact⟨⟨i,g,rfl,hg,hk⟩,a,rfl,ha⟩
 ·dsimp only
  rw[e]
  exact(St.le_of zC zJ)
open Go.WideMaps
theorem open_r(d:Dis)(g:Rgt)(hg:TakeOk d g)(hour:Int)(hh:0≤hour∧hour<d.hours)(hH:d.hours≤4096)(σ:List Ent):SCall prog 102 [.agg (rgtC g),.int .i64 hour] σ (Is (.bool (openR hour g)) σ):=by
 refine zZ func102 rfl (by simp) ?_
 have h1:=hg.kd
 have h2:=hg.fr
 have h3:=hg.ev
 unfold openR
 by_cases q1:g.frm≤hour
 rotate_left
 ·rw[decide_eq_false q1]
  refine yW ?_;intros
  all_goals
   refine zW .nil zG yY (zN ?_)
   simp
 by_cases q2:hour≤g.to
 rotate_left
 ·rw[decide_eq_false q2]
  refine yW ?_;intros
  all_goals
   refine zW .nil zG yY (zN ?_)
   simp
 rw[decide_eq_true q1,decide_eq_true q2]
 have hr:=Int.emod_nonneg (hour-g.frm) (b:=g.every) (by omega)
 have hr2:=Int.emod_lt_of_pos (hour-g.frm) (b:=g.every) (by omega)
 repeat' first|(refine zB ?_;intros)|(refine xB ?_;intros)|refine zT ?_|(refine yV ?_ ?_<;>(intro z;cases z with|_ h)<;>intro hp)|exact nl|cases ‹BV _ _›|fail
 all_goals
  refine zW .nil zG yY (zN ?_)
  first|rfl|(simp;done)
def befB(a b:Clm):Bool:=if a.hour≠b.hour then decide (a.hour<b.hour)else if a.rank≠b.rank then decide (a.rank<b.rank)else if a.right≠b.right then decide (a.right<b.right)else decide (a.farm<b.farm)
theorem before_r(a b:Clm)(σ:List Ent):SCall prog 156 [clmV a,clmV b] σ (Is (.bool (befB a b)) σ):=by
 refine zZ func156 rfl (by simp) ?_
 unfold befB
 by_cases h1:a.hour≠b.hour
 ·rw[if_pos h1]
  refine yW ?_;intros
  all_goals
   refine zW .nil zG yY (zN ?_)
   rfl
 rw[if_neg h1]
 by_cases h2:a.rank≠b.rank
 ·rw[if_pos h2]
  refine yW ?_;intros
  all_goals
   refine zW .nil zG yY (zN ?_)
   rfl
 rw[if_neg h2]
 by_cases h3:a.right≠b.right
 ·rw[if_pos h3]
  refine yW ?_;intros
  all_goals
   refine zW .nil zG yY (zN ?_)
   rfl
 rw[if_neg h3]
 refine yW ?_;intros
 all_goals
  refine zW .nil zG yY (zN ?_)
  rfl
theorem put_r(l:List Clm)(x:Clm)(hl5:l.length≤1000000)(σ:List Ent):SCall prog 103 [clms l,clmV x] σ (fun r τ=> ∃k,k≤l.length∧r=clms (l.take k++x::l.drop k)∧τ=σ):=by
 refine zZ func103 rfl (by simp) ?_
 have hlm:(l.map clmC).length=l.length:=List.length_map _
 refine yW ?_;intros
 rename Nat=>b3;revert b3
 intro b3
 refine zU (fun(k:Nat)=>(⟨[(0,clms l),(3,.ptr b3 0),(5,.int .i64 (k:Nat))],.cells b3 (clmC x) 57::σ,[],f103.ntmps⟩:St)) (fun k=>k≤l.length) (fun k=>l.length-k) 0 (Nat.zero_le _) (St.le_of zC yY) ?_
 intro k hI
 have hpt:(l.take k).map clmC++[clmC x]++(l.drop k).map clmC=(l.take k++x::l.drop k).map clmC:=by simp
 have htl:((l.map clmC).take k).length≤l.length:=by rw[List.length_take];omega
 have htl2:(l.take k).length≤l.length:=by rw[List.length_take];omega
 by_cases hk:k<l.length
 ·obtain⟨c,hc⟩:=zH hk
  have gc:=pT hc
  have cb:=before_r c x
  generalize befB c x=b at cb
  cases b with
  |true=>
   refine yW ?_;intros
   refine wH (fun e=>e=.cells b3 (clmC x) 57) [] rfl rfl ?_
   repeat' first|(refine zB ?_;intros)|(apply zvI;exact zD;rfl;intro σ' hl;(exact zQ rfl rfl (zX (by kernel_rfl)) (cb _)))|(refine xB ?_;intros)|(refine yV ?_ ?_<;>(intro z;cases z with|_ h)<;>intro hp)|exact nl|fail
   refine⟨k+1,hk,by omega,St.le_of zC yY⟩
  |false=>
   refine yW ?_;intros
   refine wH (fun e=>e=.cells b3 (clmC x) 57) [] rfl rfl ?_
   repeat' first|(show EX _ _ (Code.seq (Code.region 4 _ _) _) _ _;refine Stuck.out ?_)|(refine zwOS ?_;intros)|(apply zvI;exact zD;rfl;intro σ' hl;(exact zQ rfl rfl (zX (by kernel_rfl)) (cb _)))|(refine yV ?_ ?_<;>(intro z;cases z with|_ h)<;>intro hp)|exact nl|fail
   all_goals try refine Stuck.mk ?_
   refine yS (s':=⟨[(0,clms l),(3,.ptr b3 0),(5,.int .i64 (k:Nat))],.cells b3 (clmC x) 57::σ,[],f103.ntmps⟩) (St.le_of zC yY) ?_
   clear cb
   refine yW ?_;intros
   refine ex_drawLO (fun e=>e=.cells b3 (clmC x) 57) 12 [1,2,3,5,6,8,9,10,0,4,7,11] [8,9,10,11] rfl (by kernel_rfl) rfl (by kernel_rfl) rfl ?_
   simp only[pick,List.filterMap_cons,List.filterMap_nil,List.getElem?_cons_zero,List.getElem?_cons_succ,List.take_succ_cons,List.take_zero,List.drop_succ_cons,List.drop_zero]
   repeat' first|(refine zgw ?_;(refine wl_eff rfl rfl rfl (by apply g_append;rfl;rfl;rfl;(intro v';exact qJ);exact zsr;exact zon;exact zap) ?_;rintro _ _ ⟨v'⟩;refine⟨(by first|(rintro _ (rfl|rfl) _<;>exact yP)|(rintro _ rfl _;exact yP)|exact fun _ hk _=>hk.elim),?_⟩))|(refine zB ?_;intros)|(apply zwI;exact zD;rfl;rfl;intro σ' hl;(show GOp _ _ {dst:=_,op:=.buildSlice _ 1 _,type:=_,pos:=_,after:=_,guard:=_} _ _ _;exact vF (xT rfl rfl (by decide) rfl rfl zck)))|(refine xB ?_;intros)|fail
   rename Value=>v
   refine zS (σ3:=.row v 57 5 ((l.take k).map clmC++[clmC x]++(l.drop k).map clmC)::σ) .nil zG zJ ?_
   rw[hpt]
   exact xS .here (.here .nil) (zY ⟨k,hI,rfl,rfl⟩)
 ·obtain rfl:k=l.length:=by omega
  refine yW ?_;intros
  refine wH (fun e=>e=.cells b3 (clmC x) 57) [] rfl rfl ?_
  repeat' first|(show EX _ _ (Code.seq (Code.region 4 _ _) _) _ _;refine Stuck.out ?_)|(refine vW ?_;intros)|(refine yV ?_ ?_<;>(intro z;cases z with|_ h)<;>intro hp)|exact nl|fail
  all_goals try refine Stuck.mk ?_
  refine yS (s':=⟨[(0,clms l),(3,.ptr b3 0),(5,.int .i64 l.length)],.cells b3 (clmC x) 57::σ,[],f103.ntmps⟩) (St.le_of zC yY) ?_
  refine yW ?_;intros
  refine ex_drawLO (fun e=>e=.cells b3 (clmC x) 57) 12 [1,2,3,5,6,8,9,10,0,4,7,11] [8,9,10,11] rfl (by kernel_rfl) rfl (by kernel_rfl) rfl ?_
  simp only[pick,List.filterMap_cons,List.filterMap_nil,List.getElem?_cons_zero,List.getElem?_cons_succ,List.take_succ_cons,List.take_zero,List.drop_succ_cons,List.drop_zero]
  repeat' first|(refine zgw ?_;(refine wl_eff rfl rfl rfl (by apply g_append;rfl;rfl;rfl;(intro v';exact qJ);exact zsr;exact zon;exact zap) ?_;rintro _ _ ⟨v'⟩;refine⟨(by first|(rintro _ (rfl|rfl) _<;>exact yP)|(rintro _ rfl _;exact yP)|exact fun _ hk _=>hk.elim),?_⟩))|(refine zB ?_;intros)|(apply zwI;exact zD;rfl;rfl;intro σ' hl;(show GOp _ _ {dst:=_,op:=.buildSlice _ 1 _,type:=_,pos:=_,after:=_,guard:=_} _ _ _;exact vF (xT rfl rfl (by decide) rfl rfl zck)))|(refine xB ?_;intros)|fail
  rename Value=>v
  refine zS (σ3:=.row v 57 5 ((l.take l.length).map clmC++[clmC x]++(l.drop l.length).map clmC)::σ) .nil zG zJ ?_
  rw[hpt]
  exact xS .here (.here .nil) (zY ⟨l.length,Nat.le_refl _,rfl,rfl⟩)
end Go.Proofs.YtaoaafdommlhcaaGreat

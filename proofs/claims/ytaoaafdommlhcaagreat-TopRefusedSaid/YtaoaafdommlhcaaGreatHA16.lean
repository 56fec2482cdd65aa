/- Parts of the proof that belong together: Ma Mb Cf Sn Ssw Cg. -/
import Derived.Test.YtaoaafdommlhcaaGreatHA01
import Derived.Test.YtaoaafdommlhcaaGreatHA07
import Derived.Test.YtaoaafdommlhcaaGreatHA09
import Derived.Test.YtaoaafdommlhcaaGreatHA10
import Derived.Test.YtaoaafdommlhcaaGreatHA11
import Derived.Test.YtaoaafdommlhcaaGreatHA12
import Derived.Test.YtaoaafdommlhcaaGreatHA13
import Derived.Test.YtaoaafdommlhcaaGreatHA15
import Derived.Shelf.Sort.Plain
import Derived.Sort.OwnSortedInts
import Derived.Shelf.Slices.In.SortNone
import Derived.Ground.NamesProg
import Derived.Test.YtaoaafdommlhcaaGreatProg
set_option maxRecDepth 10000
set_option maxHeartbeats 4000000
set_option linter.unusedSimpArgs false
set_option linter.unusedVariables false
set_option autoImplicit false
open Go.Proofs.Tryz
namespace Go.Proofs.YtaoaafdommlhcaaGreat
abbrev K2(a b:Int):List KL:=[.i a,.i b]
theorem K2_inj{a b c d:Int}:K2 a b=K2 c d↔a=c∧b=d:=by simp[K2]
abbrev MI:=List KL→Int
abbrev MB:=List KL→Bool
def putI(m:MI)(k:List KL)(v:Int):MI:=fun q=>if q=k then v else m q
def putB(m:MB)(k:List KL):MB:=fun q=>decide (q=k)||m q
def zF{α:Type}(f:α→Int):List α→Int
 |[]=>0
 |x::l=>f x+zF f l
theorem vQ{α:Type}(f:α→Int): ∀(l m:List α),zF f (l++m)=zF f l+zF f m
 |[],m=>by simp[zF]
 |x::l,m=>by simp only[List.cons_append,zF,vQ f l m];omega
theorem kN{α:Type}{f g:α→Int}: ∀{l:List α},(∀x∈l,f x≤g x)→zF f l≤zF g l
 |[],_=>by simp[zF]
 |x::l,h=>by
  have h1:=h x (by simp)
  have h2:=kN (l:=l) fun y hy=>h y (by simp[hy])
  simp only[zF];omega
theorem yJ{α:Type}{f g:α→Int}: ∀{l:List α},(∀x∈l,f x=g x)→zF f l=zF g l
 |[],_=>rfl
 |x::l,h=>by simp only[zF,h x (by simp),yJ (l:=l) fun y hy=>h y (by simp[hy])]
theorem wY{α:Type}{f:α→Int}{l:List α}(h: ∀x∈l,f x=0):zF f l=0:=by
 rw[yJ (g:=fun _=>0) h]
 induction l with
 |nil=>rfl
 |cons x l ih=>simp only[zF];rw[ih fun y hy=>h y (by simp[hy])];omega
theorem uQ{α:Type}{f:α→Int}{l:List α}(h: ∀x∈l,0≤f x):0≤zF f l:=by
 have:=kN (f:=fun _=>0) (g:=f) (l:=l) h
 rwa [wY (fun _ _=>rfl)]at this
theorem sumI_map{α β:Type}(f:β→Int)(g:α→β): ∀(l:List α),zF f (l.map g)=zF (fun x=>f (g x)) l
 |[]=>rfl
 |x::l=>by simp only[List.map_cons,zF,sumI_map f g l]
theorem sumI_flatMap{α β:Type}(f:β→Int)(g:α→List β): ∀(l:List α),zF f (l.flatMap g)=zF (fun x=>zF f (g x)) l
 |[]=>rfl
 |x::l=>by simp only[List.flatMap_cons,zF,vQ,sumI_flatMap f g l]
theorem sumI_add{α:Type}(f g:α→Int): ∀(l:List α),zF (fun x=>f x+g x) l=zF f l+zF g l
 |[]=>rfl
 |x::l=>by simp only[zF,sumI_add f g l];omega
theorem sumI_swap{α β:Type}(f:α→β→Int): ∀(l:List α) (m:List β),zF (fun x=>zF (f x) m) l=zF (fun y=>zF (fun x=>f x y) l) m
 |[],m=>by simp only[zF];exact(wY fun _ _=>rfl).symm
 |x::l,m=>by simp only[zF,sumI_swap f l m];rw[sumI_add]
theorem sumI_perm{α:Type}{f:α→Int}{l m:List α}(h:l.Perm m):zF f l=zF f m:=by
 induction h with
 |nil=>rfl
 |cons x _ ih=>simp only[zF,ih]
 |swap x y l=>simp only[zF];omega
 |trans _ _ ih1 ih2=>exact ih1.trans ih2
theorem qH{α:Type}{f:α→Int}: ∀{l:List α},(∀x∈l,0≤f x)→ ∀x∈l,f x≤zF f l
 |y::l,h,x,hx=>by
  have h1:=h y (by simp)
  have h2:=uQ (l:=l) fun z hz=>h z (by simp[hz])
  simp only[zF]
  rcases List.mem_cons.1 hx with rfl|hx
  ·omega
  ·have:=qH (l:=l) (fun z hz=>h z (by simp[hz])) x hx
   omega
theorem vT(n:Nat)(k:Int)(f:Nat→Int):zF (fun h:Nat=>if (h:Int)=k then f h else 0) (List.range n)=if 0≤k∧k<n then f k.toNat else 0:=by
 induction n with
 |zero=>simp[zF];omega
 |succ n ih=>
  rw[List.range_succ,vQ,ih]
  simp only[zF]
  by_cases h1:(n:Int)=k
  ·rw[if_pos h1,if_neg (by omega),if_pos (by omega)]
   rw[show k.toNat=n by omega];omega
  ·rw[if_neg h1]
   by_cases h2:0≤k∧k<n
   ·rw[if_pos h2,if_pos (by omega)];omega
   ·rw[if_neg h2,if_neg (by omega)];rfl
abbrev Pl:=Nat×Nat
def yL(n H:Nat):List Pl:=(List.range n).reverse.flatMap fun i=>(List.range H).map fun h=>(i,h)
theorem mem_pls{n H:Nat}{p:Pl}:p∈yL n H↔p.1<n∧p.2<H:=by
 obtain⟨i,h⟩:=p
 simp only[yL,List.mem_flatMap,List.mem_reverse,List.mem_range,List.mem_map,Prod.mk.injEq]
 constructor
 ·rintro⟨j,hj,k,hk,rfl,rfl⟩;exact⟨hj,hk⟩
 ·rintro⟨h1,h2⟩;exact⟨i,h1,h,h2,rfl,rfl⟩
theorem sumI_pls(f:Pl→Int)(n H:Nat):zF f (yL n H)=zF (fun i=>zF (fun h=>f (i,h)) (List.range H)) (List.range n):=by
 unfold yL
 rw[sumI_flatMap]
 rw[sumI_perm (List.reverse_perm _)]
 refine yJ fun i _=>?_
 rw[sumI_map]
theorem pls_desc(n H:Nat):(yL n H).Pairwise fun p q=>q.1≤p.1:=by
 unfold yL
 induction n with
 |zero=>simp
 |succ n ih=>
  rw[List.range_succ,List.reverse_append]
  simp only[List.reverse_singleton,List.singleton_append,List.flatMap_cons]
  refine List.pairwise_append.2 ⟨?_,ih,?_⟩
  ·rw[List.pairwise_map]
   exact List.pairwise_of_forall fun _ _=>Nat.le_refl _
  ·intro p hp q hq
   obtain⟨h,_,rfl⟩:=List.mem_map.1 hp
   have:=(mem_pls (n:=n) (H:=H) (p:=q)).1 hq
   dsimp only;omega
section
variable (ik:Rch→Int→Option Int) (R:List Rch)
abbrev atK(p:Pl):List KL:=K2 p.1 p.2
def upK(p:Pl):List KL:=match R[p.1]? with
 |some x=>K2 x.up ((p.2:Int)-x.delay)
 |none=>[]
def askV(p:Pl)(n:Int):Option Int:=match R[p.1]? with
 |some x=>ik x n
 |none=>none
structure SS where
 m:MI
 u:MB
def stp(S:SS)(p:Pl):SS:=
 if S.u (atK p)=true then ⟨S.m,putB S.u (upK R p)⟩
 else if S.m (atK p)=0 then S
 else match askV ik R p (S.m (atK p)) with
  |none=>⟨S.m,putB S.u (upK R p)⟩
  |some v=>⟨putI S.m (upK R p) (S.m (upK R p)+v),S.u⟩
def con(T:SS)(p:Pl):Int:=if T.u (atK p)=true then 0 else if T.m (atK p)=0 then 0 else (askV ik R p (T.m (atK p))).getD 0
def bad(T:SS)(p:Pl):Bool:=T.u (atK p)||(decide (T.m (atK p)≠0)&&(askV ik R p (T.m (atK p))).isNone)
variable {ik R}
theorem stp_m(S:SS)(p:Pl)(k:List KL):(stp ik R S p).m k=S.m k+if upK R p=k then con ik R S p else 0:=by
 unfold stp con
 split
 ·dsimp only;split<;>omega
 ·split
  ·split<;>omega
  ·split
   ·rename_i h;simp only[h,Option.getD_none];split<;>omega
   ·rename_i v h
    simp only[h,Option.getD_some,putI]
    by_cases hk:k=upK R p
    ·subst hk;simp
    ·rw[if_neg hk,if_neg (fun e=>hk e.symm)];omega
theorem stp_u(S:SS)(p:Pl)(k:List KL):(stp ik R S p).u k=(S.u k||(decide (upK R p=k)&&bad ik R S p)):=by
 unfold stp bad
 cases hu:S.u (atK p) with
 |true=>
  simp only[if_true,putB,Bool.true_or,Bool.and_true]
  rw[Bool.or_comm];congr 1;rw[decide_eq_decide];exact⟨fun h=>h.symm,fun h=>h.symm⟩
 |false=>
  simp only[Bool.false_eq_true,if_false,Bool.false_or]
  by_cases hm:S.m (atK p)=0
  ·simp[hm]
  ·rw[if_neg hm]
   cases ha:askV ik R p (S.m (atK p)) with
   |none=>
    simp only[putB,Option.isNone_none,hm,ne_eq,not_false_eq_true,decide_true,Bool.and_true]
    rw[Bool.or_comm];congr 1;rw[decide_eq_decide];exact⟨fun h=>h.symm,fun h=>h.symm⟩
   |some v=>simp
theorem fold_same{k:List KL}: ∀(l:List Pl) (S:SS),(∀p∈l,upK R p≠k)→(l.foldl (stp ik R) S).m k=S.m k∧(l.foldl (stp ik R) S).u k=S.u k
 |[],S,_=>⟨rfl,rfl⟩
 |p::l,S,h=>by
  obtain⟨h1,h2⟩:=fold_same l (stp ik R S p) fun q hq=>h q (by simp[hq])
  have hp:=h p (by simp)
  rw[List.foldl_cons,h1,h2,stp_m,stp_u,if_neg hp,decide_eq_false hp]
  simp
theorem con_congr{S T:SS}{p:Pl}(h1:S.m (atK p)=T.m (atK p))(h2:S.u (atK p)=T.u (atK p)):con ik R S p=con ik R T p∧bad ik R S p=bad ik R T p:=by
 unfold con bad;rw[h1,h2];exact⟨rfl,rfl⟩
theorem fold_sum: ∀(l:List Pl) (S:SS),l.Pairwise (fun p q=>upK R q≠atK p)→(∀p∈l,upK R p≠atK p)→ ∀k,
  (l.foldl (stp ik R) S).m k=S.m k+zF (fun p=>if upK R p=k then con ik R (l.foldl (stp ik R) S) p else 0) l∧
  (l.foldl (stp ik R) S).u k=(S.u k||l.any fun p=>decide (upK R p=k)&&bad ik R (l.foldl (stp ik R) S) p)
 |[],S,_,_,k=>by simp[zF]
 |p::l,S,h,hs,k=>by
  obtain⟨h1,h2⟩:=List.pairwise_cons.1 h
  obtain⟨i1,i2⟩:=fold_sum l (stp ik R S p) h2 (fun q hq=>hs q (by simp[hq])) k
  have hsame:=fold_same (ik:=ik) (R:=R) (p::l) S (k:=atK p) (fun q hq=>by
   rcases List.mem_cons.1 hq with rfl|hq
   ·exact hs _ (by simp)
   ·exact h1 q hq)
  obtain⟨c1,c2⟩:=con_congr (ik:=ik) (R:=R) hsame.1.symm hsame.2.symm
  rw[List.foldl_cons]at *
  refine⟨?_,?_⟩
  ·rw[i1,stp_m]
   simp only[zF]
   rw[c1]
   split<;>omega
  ·rw[i2,stp_u,List.any_cons,c2,Bool.or_assoc]
end
structure IkOk(ik:Rch→Int→Option Int)(W:Rch→Int→Int)(x:Rch):Prop where
 sm: ∀n v,0<n→ik x n=some v→n≤W x v∧0<v∧v≤1073741824∧x.siphon≤v∧(v≠x.siphon→W x (v-1)<n)
 least: ∀n g,0<n→n≤W x g→0≤g→g≤1073741824→x.siphon≤g→ ∃v,ik x n=some v∧v≤g
 nn: ∀n,0<n→ik x n=none→W x 1073741824<n
 zero:W x 0=0
structure Tree(R:List Rch):Prop where
 up0: ∀x:Rch,R[0]?=some x→x.up= -1
 up: ∀(i:Nat) (x:Rch),0<i→R[i]?=some x→0≤x.up∧x.up<i
 dl: ∀(i:Nat) (x:Rch),R[i]?=some x→1≤x.delay
theorem Tree.lt{R:List Rch}(h:Tree R){i:Nat}{x:Rch}(hx:R[i]?=some x):x.up<i:=by
 cases i with
 |zero=>rw[h.up0 x hx];omega
 |succ i=>exact(h.up _ x (by omega) hx).2
theorem Tree.ge{R:List Rch}(h:Tree R){i:Nat}{x:Rch}(hx:R[i]?=some x): -1≤x.up:=by
 cases i with
 |zero=>rw[h.up0 x hx];omega
 |succ i=>have:=(h.up _ x (by omega) hx).1;omega
theorem vR{α:Type}{l:List α}{k:Nat}(h:k<l.length): ∃x,l[k]?=some x:=⟨_,List.getElem?_eq_getElem h⟩
theorem lt_of_get{α:Type}{l:List α}{k:Nat}{x:α}(h:l[k]?=some x):k<l.length:=(List.getElem?_eq_some_iff.1 h).1
theorem upK_ne{R:List Rch}(h:Tree R){p q:Pl}(hp:p.1<R.length)(hle:p.1≤q.1):upK R p≠atK q:=by
 obtain⟨x,hx⟩:=vR hp
 unfold upK
 rw[hx]
 intro e
 have:=h.lt hx
 have e1:=(K2_inj.1 e).1
 omega
theorem pls_pair{R:List Rch}(h:Tree R)(H:Nat):(yL R.length H).Pairwise (fun p q=>upK R q≠atK p)∧ ∀p∈yL R.length H,upK R p≠atK p:=by
 refine⟨(pls_desc R.length H).imp_of_mem fun {p q} hp hq hle=>?_,fun p hp=>?_⟩
 ·exact upK_ne h (mem_pls.1 hq).1 hle
 ·exact upK_ne h (mem_pls.1 hp).1 (Nat.le_refl _)
def kidS(R:List Rch)(g:Nat→Int→Int)(i:Nat)(k:Int):Int:=zF (fun c:Nat=>match R[c]? with|some x=>(if x.up=(i:Int)then g c k else 0)|none=>0) (List.range R.length)
section
variable (ik:Rch→Int→Option Int) (R:List Rch) (H:Nat) (base:MI)
def lst:SS:=(yL R.length H).foldl (stp ik R) ⟨base,fun _=>false⟩
variable {ik R H base}
theorem lst_m(h:Tree R)(k:List KL):(lst ik R H base).m k=base k+zF (fun p=>if upK R p=k then con ik R (lst ik R H base) p else 0) (yL R.length H):=
 (fold_sum (ik:=ik) (R:=R) _ ⟨base,fun _=>false⟩ (pls_pair h H).1 (pls_pair h H).2 k).1
theorem lst_u(h:Tree R)(k:List KL):(lst ik R H base).u k=(yL R.length H).any fun p=>decide (upK R p=k)&&bad ik R (lst ik R H base) p:=by
 have:=(fold_sum (ik:=ik) (R:=R) _ ⟨base,fun _=>false⟩ (pls_pair h H).1 (pls_pair h H).2 k).2
 rw[Bool.false_or]at this
 exact this
theorem lst_at(h:Tree R){a b:List Pl}{p:Pl}(e:yL R.length H=a++p::b):
  (a.foldl (stp ik R) ⟨base,fun _=>false⟩).m (atK p)=(lst ik R H base).m (atK p)∧(a.foldl (stp ik R) ⟨base,fun _=>false⟩).u (atK p)=(lst ik R H base).u (atK p):=by
 have hp:=pls_pair h H
 rw[e]at hp
 obtain⟨h1,h2⟩:=hp
 have h3:=(List.pairwise_append.1 h1).2.1
 have:=fold_same (ik:=ik) (R:=R) (k:=atK p) (p::b) (a.foldl (stp ik R) ⟨base,fun _=>false⟩) (fun q hq=>by
  rcases List.mem_cons.1 hq with rfl|hq
  ·exact h2 _ (by simp)
  ·exact(List.pairwise_cons.1 h3).1 q hq)
 unfold lst
 rw[e,List.foldl_append]
 exact⟨this.1.symm,this.2.symm⟩
variable {W:Rch→Int→Int}
def IkAll(ik:Rch→Int→Option Int)(W:Rch→Int→Int)(R:List Rch):Prop:= ∀(i:Nat) (x:Rch),R[i]?=some x→IkOk ik W x
theorem askV_some{p:Pl}{x:Rch}(hx:R[p.1]?=some x)(n:Int):askV ik R p n=ik x n:=by unfold askV;rw[hx]
theorem upK_some{p:Pl}{x:Rch}(hx:R[p.1]?=some x):upK R p=K2 x.up ((p.2:Int)-x.delay):=by unfold upK;rw[hx]
theorem lst_nonneg(h:Tree R)(hk:IkAll ik W R)(hb: ∀k,0≤base k):(∀p∈yL R.length H,0≤(lst ik R H base).m (atK p))∧ ∀p∈yL R.length H,0≤con ik R (lst ik R H base) p:=by
 have key: ∀n,∀p∈yL R.length H,R.length-p.1≤n→0≤(lst ik R H base).m (atK p)∧0≤con ik R (lst ik R H base) p:=by
  intro n
  induction n with
  |zero=>intro p hp hn;have:=(mem_pls.1 hp).1;omega
  |succ n ih=>
   intro p hp hn
   have hm:0≤(lst ik R H base).m (atK p):=by
    rw[lst_m h]
    have h1:=hb (atK p)
    have h2:0≤zF (fun q=>if upK R q=atK p then con ik R (lst ik R H base) q else 0) (yL R.length H):=by
     refine uQ fun q hq=>?_
     split
     ·rename_i e
      refine(ih q hq ?_).2
      rcases Nat.lt_or_ge p.1 q.1 with hlt|hge
      ·have:=(mem_pls.1 hq).1;omega
      ·exact absurd e (upK_ne h (mem_pls.1 hq).1 hge)
     ·exact Int.le_refl _
    omega
   refine⟨hm,?_⟩
   unfold con
   split
   ·exact Int.le_refl _
   ·split
    ·exact Int.le_refl _
    ·rename_i h0
     obtain⟨x,hx⟩:=vR (mem_pls.1 hp).1
     rw[askV_some hx]
     cases hv:ik x ((lst ik R H base).m (atK p)) with
     |none=>simp
     |some v=>have:=((hk _ x hx).sm _ v (by omega) hv).2.1;simp;omega
 exact⟨fun p hp=>(key _ p hp (Nat.le_refl _)).1,fun p hp=>(key _ p hp (Nat.le_refl _)).2⟩
structure Oth(W:Rch→Int→Int)(R:List Rch)(H:Nat)(base:MI)(g dr:Nat→Int→Int):Prop where
 pos: ∀i h,0≤g i h∧g i h≤1073741824
 neg: ∀i h,h<0→g i h=0
 sip: ∀(i:Nat) (x:Rch) (h:Int),R[i]?=some x→0<g i h→x.siphon≤g i h
 wat: ∀(i:Nat) (x:Rch) (h:Nat),R[i]?=some x→h<H→dr i h≤W x (g i ((h:Int)-x.delay))
 sum: ∀(i:Nat) (h:Nat),i<R.length→h<H→base (K2 i h)+kidS R g i h≤dr i h
theorem con_le(h:Tree R)(hk:IkAll ik W R)(hb: ∀k,0≤base k){g dr:Nat→Int→Int}(ho:Oth W R H base g dr){q:Pl}{x:Rch}(hq:q∈yL R.length H)(hx:R[q.1]?=some x)(hu:(lst ik R H base).u (atK q)=false)(hm:(lst ik R H base).m (atK q)≤dr q.1 q.2):
  bad ik R (lst ik R H base) q=false∧con ik R (lst ik R H base) q≤g q.1 ((q.2:Int)-x.delay)∧((lst ik R H base).m (atK q)≠0→x.delay≤q.2∧ ∃v,ik x ((lst ik R H base).m (atK q))=some v∧con ik R (lst ik R H base) q=v∧v≤g q.1 ((q.2:Int)-x.delay)):=by
 have h0:=(lst_nonneg (base:=base) h hk hb).1 q hq
 have hw:=ho.wat q.1 x q.2 hx (mem_pls.1 hq).2
 have hg:=ho.pos q.1 ((q.2:Int)-x.delay)
 by_cases hz:(lst ik R H base).m (atK q)=0
 ·refine⟨by simp[bad,hu,hz],?_,fun e=>absurd hz e⟩
  unfold con
  rw[hu,if_neg (by decide),if_pos hz]
  exact hg.1
 ·have hpos:0<g q.1 ((q.2:Int)-x.delay):=by
   rcases Int.lt_or_le 0 (g q.1 ((q.2:Int)-x.delay))with h1|h1
   ·exact h1
   ·have e:g q.1 ((q.2:Int)-x.delay)=0:=by omega
    rw[e,(hk _ x hx).zero]at hw
    omega
  obtain⟨v,hv,hle⟩:=(hk _ x hx).least ((lst ik R H base).m (atK q)) _ (by omega) (by omega) hg.1 hg.2 (ho.sip _ x _ hx hpos)
  have hcon:con ik R (lst ik R H base) q=v:=by
   unfold con
   rw[hu,if_neg (by decide),if_neg hz,askV_some hx,hv];rfl
  refine⟨?_,by rw[hcon];exact hle,fun _=>⟨?_,v,hv,hcon,hle⟩⟩
  ·unfold bad;rw[hu,askV_some hx,hv];simp
  ·rcases Int.lt_or_le (q.2:Int) x.delay with h1|h1
   ·rw[ho.neg _ _ (by omega)]at hpos;omega
   ·exact h1
theorem sum_kids(h:Tree R)(hk:IkAll ik W R){g:Nat→Int→Int}(T:SS)(hg: ∀i h,0≤g i h){i k:Nat}
  (hc: ∀q∈yL R.length H,∀x,R[q.1]?=some x→x.up=(i:Int)→(q.2:Int)-x.delay=k→con ik R T q≤g q.1 k):
  zF (fun q=>if upK R q=K2 i k then con ik R T q else 0) (yL R.length H)≤kidS R g i k:=by
 rw[sumI_pls]
 unfold kidS
 refine kN fun c hcr=>?_
 obtain⟨x,hx⟩:=vR (List.mem_range.1 hcr)
 rw[hx]
 dsimp only
 by_cases hup:x.up=(i:Int)
 ·rw[if_pos hup]
  have e:zF (fun h':Nat=>if upK R (c,h')=K2 i k then con ik R T (c,h')else 0) (List.range H)=zF (fun h':Nat=>if (h':Int)=k+x.delay then con ik R T (c,h')else 0) (List.range H):=by
   refine yJ fun h' _=>?_
   rw[upK_some (p:=(c,h')) hx]
   by_cases hh:(h':Int)=k+x.delay
   ·rw[if_pos (K2_inj.2 ⟨hup,by dsimp only;omega⟩),if_pos hh]
   ·rw[if_neg (fun e=>by have h2:=(K2_inj.1 e).2;dsimp only at h2;omega),if_neg hh]
  rw[e,vT]
  split
  ·rename_i hr
   exact hc (c,((k:Int)+x.delay).toNat) (mem_pls.2 ⟨List.mem_range.1 hcr,by dsimp only;omega⟩) x hx hup (by dsimp only;omega)
  ·exact hg c k
 ·rw[if_neg hup]
  refine Int.le_of_eq (wY fun h' _=>?_)
  rw[upK_some (p:=(c,h')) hx,if_neg (fun e=>hup (K2_inj.1 e).1)]
theorem lst_dom(h:Tree R)(hk:IkAll ik W R)(hb: ∀k,0≤base k){g dr:Nat→Int→Int}(ho:Oth W R H base g dr):
  ∀p∈yL R.length H,(lst ik R H base).u (atK p)=false∧(lst ik R H base).m (atK p)≤dr p.1 p.2:=by
 have key: ∀n,∀p∈yL R.length H,R.length-p.1≤n→(lst ik R H base).u (atK p)=false∧(lst ik R H base).m (atK p)≤dr p.1 p.2:=by
  intro n
  induction n with
  |zero=>intro p hp hn;have:=(mem_pls.1 hp).1;omega
  |succ n ih=>
   intro p hp hn
   have hkid: ∀q∈yL R.length H,∀x,R[q.1]?=some x→x.up=(p.1:Int)→(q.2:Int)-x.delay=p.2→bad ik R (lst ik R H base) q=false∧con ik R (lst ik R H base) q≤g q.1 p.2:=by
    intro q hq x hx h1 h2
    have hlt:p.1<q.1:=by have:=h.lt hx;omega
    obtain⟨i1,i2⟩:=ih q hq (by have:=(mem_pls.1 hq).1;omega)
    obtain⟨c1,c2,_⟩:=con_le h hk hb ho hq hx i1 i2
    rw[h2]at c2
    exact⟨c1,c2⟩
   constructor
   ·rw[lst_u h,List.any_eq_false]
    intro q hq
    obtain⟨x,hx⟩:=vR (mem_pls.1 hq).1
    intro e
    rw[Bool.and_eq_true,decide_eq_true_eq,upK_some hx,K2_inj]at e
    rw[(hkid q hq x hx e.1.1 e.1.2).1]at e
    cases e.2
   ·rw[lst_m h]
    refine Int.le_trans (Int.add_le_add_left ?_ _) (ho.sum p.1 p.2 (mem_pls.1 hp).1 (mem_pls.1 hp).2)
    exact sum_kids h hk _ (fun i h=>(ho.pos i h).1) fun q hq x hx h1 h2=>(hkid q hq x hx h1 h2).2
 exact fun p hp=>key _ p hp (Nat.le_refl _)
end
theorem least_ex(p:Nat→Bool): ∀n:Nat,∃i,i≤n∧(∀k,k<i→p k=false)∧(i<n→p i=true)
 |0=>⟨0,Nat.le_refl _,fun k h=>absurd h (Nat.not_lt_zero _),fun h=>absurd h (Nat.not_lt_zero _)⟩
 |n+1=>by
  obtain⟨i,h1,h2,h3⟩:=least_ex p n
  rcases Nat.lt_or_ge i n with h|h
  ·exact⟨i,by omega,h2,fun _=>h3 h⟩
  ·obtain rfl:i=n:=by omega
   cases hp:p i with
   |true=>exact⟨i,by omega,h2,fun _=>hp⟩
   |false=>exact⟨i+1,Nat.le_refl _,fun k hk=>by
    rcases Nat.lt_or_ge k i with hk'|hk'
    ·exact h2 k hk'
    ·obtain rfl:k=i:=by omega
     exact hp,fun h=>absurd h (Nat.lt_irrefl _)⟩
noncomputable def leastN (p:Nat→Bool) (n:Nat):Nat:=Classical.choose (least_ex p n)
theorem leastN_spec(p:Nat→Bool)(n:Nat):leastN p n≤n∧(∀k,k<leastN p n→p k=false)∧(leastN p n<n→p (leastN p n)=true):=Classical.choose_spec (least_ex p n)
noncomputable def uP (x:Rch) (w:Int):Nat:=leastN (fun k=>decide (xR x k>w-1)) 1073741825
theorem needN_le(x:Rch)(w:Int):uP x w≤1073741825:=(leastN_spec _ _).1
theorem needN_lt{x:Rch}{w:Int}{k:Nat}(h:k<uP x w):xR x k<w:=by
 have:=(leastN_spec (fun k=>decide (xR x k>w-1)) 1073741825).2.1 k h
 have:=of_decide_eq_false this;omega
theorem needN_at{x:Rch}{w:Int}(h:uP x w≤1073741824):w≤xR x (uP x w):=by
 have h1:=(leastN_spec (fun k=>decide (xR x k>w-1)) 1073741825).2.2 (by unfold uP at h;omega)
 have:=of_decide_eq_true h1
 unfold uP;omega
noncomputable def needV (x:Rch) (w:Int):AV:=if uP x w≤1073741824 then .tup [.int .i64 (uP x w),.bool true,.int .i64 0]else .tup [.int .i64 0,.bool false,.int .i64 0]
theorem least_c(x:Rch)(h:RchOk x)(w:Int)(hw: -1≤w∧w≤1073741824){b:Nat}{σ:List Ent}(hm:Ent.cells b (rchC x) 108∈σ):
  SCall prog 131 [.int .i64 w,.fn (.func 132) [] [.ptr b 0]] σ (Is (.int .i64 (leastN (fun k=>decide (xR x k>w)) 1073741825)) σ):=by
 refine zZ func131 rfl (by simp) ?_
 have hs:=leastN_spec (fun k=>decide (xR x k>w)) 1073741825
 generalize leastN (fun k=>decide (xR x k>w)) 1073741825=i at hs ⊢
 have s1:=hs.1
 have s2:=hs.2.1
 have s3:=hs.2.2
 clear hs
 have h2: ∀k,i≤k→k<1073741825→decide (xR x k>w)=true:=fun k h1 h2=>by
  have h3:=of_decide_eq_true (s3 (by omega))
  have:=worstF_mono h (u:=i) (v:=k) (by omega) (by omega)
  exact decide_eq_true (by omega)
 have c1: ∀(k:Nat),k<1073741825→ ∀{b1 b2:Nat} {τ:List Ent},Ent.cells b1 [.fn (.func 132) [] [.ptr b 0]] 234∈τ→Ent.cells b2 [.int .i64 w] 3∈τ→Ent.cells b (rchC x) 108∈τ→SCall prog 201 (.int .i64 (k:Int)::[.ptr b1 0,.ptr b2 0]) τ (Is (.bool ((fun k:Nat=>decide (xR x k>w)) k)) τ):=by
  intro k hk b1 b2 τ m1 m2 m3
  exact least1_c k w 132 [.ptr b 0] (zX (by kernel_rfl)) (xR x k) m1 m2 fun σ' hl=>need1_c x h k (by omega) (hl _ m3)
 clear h s3
 have s2': ∀k,k<i→(fun k:Nat=>decide (xR x k>w)) k=false:=s2
 repeat' first|(refine zB ?_;intros)|(apply qX;exact zD;rfl;rfl;(refine zL ?_;exact search_c 1073741825 i (fun k:Nat=>decide (xR x k>w)) (by decide) s1 s2' h2 201 _ (zX (by kernel_rfl)) _ (fun k hk=>c1 k hk yP yP yP)))|(refine xB ?_;intros)|fail
 refine zW .nil zG zJ ?_
 rfl
theorem need_c(x:Rch)(h:RchOk x)(w:Int)(hw:0≤w∧w≤1073741824)(σ:List Ent):SCall prog 80 [rchV x,.int .i64 w] σ (Is (needV x w) σ):=by
 refine zZ func80 rfl (by simp) ?_
 have c1:=lvalid_c x w h
 rw[if_pos hw]at c1
 have c2:=fun(b:Nat) (τ:List Ent) (hm:Ent.cells b (rchC x) 108∈τ)=>least_c x h (w-1) (by omega) hm
 unfold needV
 have hn:=needN_le x w
 unfold uP at hn ⊢
 generalize leastN (fun k=>decide (xR x k>w-1)) 1073741825=i at c2 hn ⊢
 clear h
 by_cases hi:i≤1073741824
 ·rw[if_pos hi]
  repeat' first|(apply yQ;exact zD;rfl;rfl;refine zL ?_;first|exact c1 _|exact c2 _ _ yP)|(refine xV ?_;and_intros<;>first|exact nl|intros)|fail
  refine zW .nil zG zJ ?_
  rfl
 ·rw[if_neg hi]
  repeat' first|(apply yQ;exact zD;rfl;rfl;refine zL ?_;first|exact c1 _|exact c2 _ _ yP)|(refine xV ?_;and_intros<;>first|exact nl|intros)|fail
  refine zW .nil zG zJ ?_
  rfl
open Go.Shelf Go.Sort
def Tryz.laysSort_ren:Go.Shelf.Ren:=⟨fun|189=>69|125=>113|257=>127|128=>173|129=>174|294=>183|295=>184|296=>185|297=>186|298=>187|299=>188|216=>189|300=>190|301=>191|328=>241|329=>228|330=>229|331=>242|332=>243|215=>96|343=>276|n=>n,fun|28=>45|3=>3|46=>193|0=>0|51=>275|53=>277|4=>4|183=>269|182=>268|131=>118|5=>5|9=>9|218=>323|222=>327|228=>351|229=>352|n=>n,fun|n=>n⟩
theorem Tryz.laysSort:Go.Proofs.Lays.n189 prog Tryz.laysSort_ren:={
 mixed:=by kernel_rfl
 f125:=func113.trans (congrArg some (by kernel_rfl))
 f128:=func173.trans (congrArg some (by kernel_rfl))
 f129:=func174.trans (congrArg some (by kernel_rfl))
 f189:=func69.trans (congrArg some (by kernel_rfl))
 f215:=func96.trans (congrArg some (by kernel_rfl))
 f216:=func189.trans (congrArg some (by kernel_rfl))
 f257:=func127.trans (congrArg some (by kernel_rfl))
 f294:=func183.trans (congrArg some (by kernel_rfl))
 f295:=func184.trans (congrArg some (by kernel_rfl))
 f296:=func185.trans (congrArg some (by kernel_rfl))
 f297:=func186.trans (congrArg some (by kernel_rfl))
 f298:=func187.trans (congrArg some (by kernel_rfl))
 f299:=func188.trans (congrArg some (by kernel_rfl))
 f300:=func190.trans (congrArg some (by kernel_rfl))
 f301:=func191.trans (congrArg some (by kernel_rfl))
 f328:=func241.trans (congrArg some (by kernel_rfl))
 f329:=func228.trans (congrArg some (by kernel_rfl))
 f330:=func229.trans (congrArg some (by kernel_rfl))
 f331:=func242.trans (congrArg some (by kernel_rfl))
 f332:=func243.trans (congrArg some (by kernel_rfl))
 f343:=func276.trans (congrArg some (by kernel_rfl))
 t0:=Tryz.underlying0
 a0:=Tryz.isAgg0
 z0:=Tryz.sizeOf0
 v0:=Tryz.zeroValue0
 t3:=Tryz.underlying3
 a3:=Tryz.isAgg3
 z3:=Tryz.sizeOf3
 v3:=Tryz.zeroValue3
 t4:=Tryz.underlying4
 a4:=Tryz.isAgg4
 z4:=Tryz.sizeOf4
 v4:=Tryz.zeroValue4
 t5:=Tryz.underlying5
 a5:=Tryz.isAgg5
 z5:=Tryz.sizeOf5
 v5:=Tryz.zeroValue5
 t9:=Tryz.underlying9
 a9:=Tryz.isAgg9
 z9:=Tryz.sizeOf9
 v9:=Tryz.zeroValue9
 t28:=Tryz.underlying45
 a28:=Tryz.isAgg45
 z28:=Tryz.sizeOf45
 v28:=Tryz.zeroValue45
 t46:=Tryz.underlying193
 a46:=Tryz.isAgg193
 z46:=Tryz.sizeOf193
 v46:=Tryz.zeroValue193
 t51:=Tryz.underlying275
 a51:=Tryz.isAgg275
 z51:=Tryz.sizeOf275
 v51:=Tryz.zeroValue275
 t53:=Tryz.underlying277
 a53:=Tryz.isAgg277
 z53:=Tryz.sizeOf277
 v53:=Tryz.zeroValue277
 t131:=Tryz.underlying118
 a131:=Tryz.isAgg118
 z131:=Tryz.sizeOf118
 v131:=Tryz.zeroValue118
 t182:=Tryz.underlying268
 a182:=Tryz.isAgg268
 z182:=Tryz.sizeOf268
 v182:=Tryz.zeroValue268
 t183:=Tryz.underlying269
 a183:=Tryz.isAgg269
 z183:=Tryz.sizeOf269
 v183:=Tryz.zeroValue269
 t218:=Tryz.underlying323
 a218:=Tryz.isAgg323
 z218:=Tryz.sizeOf323
 v218:=Tryz.zeroValue323
 t222:=Tryz.underlying327
 a222:=Tryz.isAgg327
 z222:=Tryz.sizeOf327
 v222:=Tryz.zeroValue327
 t228:=Tryz.underlying351
 a228:=Tryz.isAgg351
 z228:=Tryz.sizeOf351
 v228:=Tryz.zeroValue351
 t229:=Tryz.underlying352
 a229:=Tryz.isAgg352
 z229:=Tryz.sizeOf352
 v229:=Tryz.zeroValue352}
def uH(l:List Int):List Int:=l.mergeSort fun x y=>decide (x≤y)
theorem sortI_length(l:List Int):(uH l).length=l.length:=by simp[uH]
theorem rel_ints{M:Mem}: ∀{l:List Int} {vs:List Value},VRels M (l.map fun n=>[AV.int .i64 n]).flatten vs→vs=l.map (Value.int .i64)
 |[],vs,h=>by simpa [VRels]using h
 |n::l,vs,h=>by
  simp only[List.map_cons,List.flatten_cons,List.cons_append,List.nil_append,VRels,VRel]at h
  obtain⟨v,r,rfl,rfl,h⟩:=h
  rw[rel_ints h];rfl
theorem ints_rel{M:Mem}: ∀(l:List Int),VRels M (l.map fun n=>[AV.int .i64 n]).flatten (l.map (Value.int .i64))
 |[]=>by simp[VRels]
 |n::l=>by
  simp only[List.map_cons,List.flatten_cons,List.cons_append,List.nil_append,VRels,VRel]
  exact⟨_,_,rfl,rfl,ints_rel l⟩
theorem sort_c{e:TypeId}{l:List Int}{v:Value}{σ σ':List Ent}(hu:Upd σ (.row v e 1 (l.map fun n=>[AV.int .i64 n])) (.row v e 1 ((uH l).map fun n=>[AV.int .i64 n])) σ')(hb:l.length<4611686018427387904):
  SCall prog 69 [.slv v] σ (fun r τ=>r=.tup []∧τ=σ'):=by
 refine⟨fun X M w vs hg ha=>?_⟩
 simp only[VRels,VRel]at ha
 obtain⟨u,r,hvs,⟨rfl,hsl⟩,rfl⟩:=ha
 obtain rfl:vs=#[u]:=by cases vs;simp at hvs;rw[hvs]
 obtain⟨xs,hown,hrel,hs⟩:=hg.ent _ hu.mem
 have hxs:=rel_ints hrel
 subst hxs
 simp only[List.length_map]at hown
 rcases hown.2 with⟨rfl,h0⟩|⟨g,cap,cur,rfl,hb0,hgg,hnc,hcm,hcs,htk⟩
 ·have h1:l=[]:=List.eq_nil_of_length_eq_zero h0
  subst h1
  have hs0:uH []=[]:=by simp[uH]
  rw[hs0]at hu
  refine Calls.mono (calls_of_every_depth fun D=>AnyS.slices_Sort_int_none_alone Tryz.laysSort D none 0 w) ?_
  rintro e' w' ⟨rfl,rfl⟩
  refine⟨M,σ',.tup [],_,Mem.le_refl M,?_,by simp only[VRel];exact⟨#[],rfl,by simp[VRels]⟩,rfl,rfl,rfl⟩
  exact hg.upd hu rfl rfl rfl (fun _ _ _=>rfl) (hg.ent _ hu.mem) (.inl rfl)
 ·have hH:=holds_of_blockI (ss:=l) hgg (by simpa using htk)
  refine Calls.mono (Any.slices_Sort_int Tryz.laysSort g 0 cap l w hH (Array.getElem?_eq_some_iff.1 hgg).1 hb) ?_
  rintro e' w' ⟨rfl,n,os,rfl⟩
  have hgr:=grownBy_sortedI (w:=w) (g:=g) (n:=n) (os:=os) (uH l).toArray
  have hrow:=ownsRow_sortedI (base:=0) (n:=n) (os:=os) (ts:=uH l) (sortI_length l) (Nat.zero_le g) hgg hnc hcm hcs
  refine⟨M,σ',.tup [],_,Mem.le_refl M,?_,by simp only[VRel];exact⟨#[],rfl,by simp[VRels]⟩,rfl,rfl,rfl⟩
  refine hg.upd hu hgr.os hgr.tape hgr.output (fun k hk hne=>hgr.block k hk (fun e=>hne (by simp[Ent.block,Value.ownBlock];exact(Option.some.inj e).symm))) ?_ (.inl rfl)
  refine⟨_,?_,ints_rel (uH l),by intro x hx;obtain⟨_,_,rfl⟩:=List.mem_map.1 hx;rfl⟩
  simp only[List.length_map,sortI_length]
  exact hrow
section
variable {P:Program} {ro:Option Nat} {env:Env} {σ:List Ent} {dst:Option Tmp} {ty:TypeId} {pos:String} {after:Array Edge} {guard:Option (Nat×Bool)}
theorem g_indexRaw{t e:TypeId}{x ix:Operand}{sz k n g cap:Nat}{kk:IntKind}{i:Int}(ht:pP P t=some (e,sz))(hx:xP env x=some (.slv (.slice (some ⟨g,0,none⟩) n cap)))(hi:xP env ix=some (.int kk i))(hk:i=(k:Int))(hlt:k<n):
  GOp P ro ⟨dst,.indexAddr t x ix,ty,pos,after,guard⟩ env σ (Is (.rptr (.slice (some ⟨g,0,none⟩) n cap) (k*sz)) σ):=
 zA _ (by intro c h;cases h) fun X M en w hg ho=>by
  have h1:=ho x (by simp[Op.operands]) _ hx
  have h2:=ho ix (by simp[Op.operands]) _ hi
  simp only[VRel]at h1 h2
  obtain⟨h1,_⟩:=h1
  obtain⟨hue,inf,hinf,hsz⟩:=vC ht
  have add:(⟨g,0,none⟩:Addr).add (k*sz)=⟨g,k*sz,none⟩:=by unfold Addr.add;split<;>simp_all
  refine⟨.pointer (some ⟨g,k*sz,none⟩),⟨g,n,cap,rfl,rfl⟩,?_⟩
  subst hk
  simp[execOp,h2,h1,Instr.indexAt,asIntOf,Sem.run_bind,run_underlying hue,sizeOf,typeInfo,hinf,hsz,hlt,add]
theorem ex_rowV{c:Code}{Q:Exit→St→Prop}{s:St}{v:Value}{e:TypeId}{sz:Nat}{L:List (List AV)}(hm:Ent.row v e sz L∈s.σ)(hL:L≠[])(h: ∀g cap,v=.slice (some ⟨g,0,none⟩) L.length cap→EX P ro c Q s):EX P ro c Q s:=
 ⟨fun X M a w hs=>by
  obtain⟨xs,⟨ho1,ho2⟩,_,_⟩:=hs.good.ent _ hm
  rcases ho2 with⟨rfl,h0⟩|⟨g,cap,cur,hv,_⟩
  ·exact absurd (List.eq_nil_of_length_eq_zero h0) hL
  ·exact(h g cap hv).run X M a w hs⟩
end
def upL(R:List Rch):Nat→Int→List Int
 |0,_=>[]
 |n+1,i=>if i<0 then []else match R[i.toNat]? with
  |some x=>i::upL R n x.up
  |none=>[]
theorem upL_len(R:List Rch): ∀(n:Nat) (i:Int),(upL R n i).length≤n
 |0,_=>Nat.zero_le _
 |n+1,i=>by
  unfold upL
  split
  ·simp
  ·split
   ·simp only[List.length_cons];have:=upL_len R n;rename_i x _;have:=this x.up;omega
   ·simp
theorem yA{d:Dis}(h:yD d=true){i:Nat}{x:Rch}(hx:d.R[i]?=some x):reachB i x=true:=by
 unfold yD at h
 simp only[Bool.and_eq_true]at h
 have:=allI_get h.1.1.1.1.2 hx
 simpa using this
theorem wP{d:Dis}(h:yD d=true):Tree d.R where
 up0 x hx:=by
  have:=yA h hx
  unfold reachB at this
  simp only[Bool.and_eq_true]at this
  simpa using this.1.1.1.1.1
 up i x hi hx:=by
  have:=yA h hx
  unfold reachB at this
  simp only[Bool.and_eq_true]at this
  have h2:=this.1.1.1.1.1
  rw[if_pos (by omega)]at h2
  unfold idxB at h2
  simpa using h2
 dl i x hx:=(RchOk.of (yA h hx)).dl.1
theorem up1_c(d:Dis)(hd:yD d=true)(hl:d.R.length≤64)(i0:Nat)(hi0:i0<d.R.length)(pd q lp:Nat)(σ:List Ent)(I:List Int→List Ent→Prop)(Stop:List Ent→Prop)
  (hC: ∀L τ,I L τ→Ent.cells pd (disC d) 31∈τ)
  (hy: ∀x r τ,I (x::r) τ→SRound prog lp [.int .i64 x] τ fun v σ'=>(v=.bool true∧I r σ')∨(v=.bool false∧Stop σ')) (h0:I (upL d.R 64 i0) σ):
  SCall prog 164 [.fn (.yield lp) [] [],.ptr q 0,.ptr pd 0] (.cells q [.int .i64 (i0:Int)] 3::σ) (fun _ σ'=>I [] σ'∨Stop σ'):=by
 refine zZ func164 rfl (by simp) ?_
 have hT:=wP hd
 clear hd
 refine yW ?_;intros
 refine zU (fun(z:Int×Nat×List Ent)=>(⟨[(0,.fn (.yield lp) [] []),(1,.ptr q 0),(2,.ptr pd 0)],.cells q [.int .i64 z.1] 3::z.2.2,[],f164.ntmps⟩:St)) (fun z=> -1≤z.1∧z.1<d.R.length∧z.1+1≤z.2.1∧I (upL d.R z.2.1 z.1) z.2.2) (fun z=>(z.1+1).toNat) ((i0:Int),64,σ) (⟨by dsimp only;omega,by dsimp only;omega,by dsimp only;omega,h0⟩) (St.le_of zC yY) ?_
 intro z hI
 obtain⟨i,n,τ⟩:=z
 obtain⟨hI1,hI2,hI3,hI4⟩:=hI
 dsimp only at hI1 hI2 hI3 hI4 ⊢
 clear h0
 have hm:=hC _ _ hI4
 by_cases hi:i<0
 ·have e:upL d.R n i=[]:=by cases n<;>simp[upL,hi]
  rw[e]at hI4
  clear hy hT
  refine yW ?_;intros
  refine zS (σ3:=τ) .nil zG zJ ?_
  exact zY (.inl hI4)
 ·obtain⟨k,rfl⟩: ∃k:Nat,i=k:=⟨i.toNat,by omega⟩
  obtain⟨x,hx⟩:=zH (show k<d.R.length by omega)
  obtain⟨m,rfl⟩: ∃m,n=m+1:=⟨n-1,by omega⟩
  have e:upL d.R (m+1) k=(k:Int)::upL d.R m x.up:=by
   simp only[upL,if_neg hi,Int.toNat_natCast,hx]
  rw[e]at hI4
  have hr:=SRound.front [.cells q [.int .i64 (k:Int)] 3] (hy _ _ _ hI4)
  simp only[List.cons_append,List.nil_append]at hr
  have gx:(d.R.map rchC)[k]?=some (rchC x):=by rw[List.getElem?_map,hx];rfl
  have hup:=hT.lt hx
  have hge:=hT.ge hx
  clear hy hT e hI4
  repeat' first|(refine zge ?_;(refine zK rfl rfl rfl (tX rfl rfl hr) ?_;rintro _ _ ⟨σ2,rfl,⟨rfl,hs⟩|⟨rfl,hs⟩⟩))|(refine yX ?_;intros)|(refine yV ?_ ?_<;>(intro z;cases z with|_ h)<;>intro hp)|exact nl|fail
  ·have hm2:=hC _ _ hs
   clear hr
   refine yW ?_;intros
   refine⟨(x.up,m,σ2),⟨hge,by dsimp only;omega,by dsimp only;omega,hs⟩,by dsimp only;omega,?_⟩
   exact(St.le_of zC zJ)
  ·refine zS (σ3:=σ2) .nil zG zJ ?_
   exact zY (.inr hs)
theorem up_c(d:Dis)(i:Int)(σ:List Ent):SCall prog 110 [disV d,.int .i64 i] σ (fun r τ=> ∃pd q,r=.fn (.func 164) [] [.ptr q 0,.ptr pd 0]∧τ=.cells q [.int .i64 i] 3::.cells pd (disC d) 31::σ):=by
 refine zZ func110 rfl (by simp) ?_
 refine yW ?_;intros
 rename Nat=>q;revert q;rename Nat=>pd;revert pd
 intro pd q
 refine zS (σ3:=.cells q [.int .i64 i] 3::.cells pd (disC d) 31::σ) .nil zG zJ ?_
 exact zY ⟨pd,q,rfl,rfl⟩
theorem canCheck_c(d:Dis)(r:Nat)(hd:yZ d=0)(hr:r<d.R.length)(σ:List Ent):SCall prog 108 [disV d,ints [(r:Int)]] σ (Is (.int .i64 0) σ):=by
 refine zZ func108 rfl (by simp) ?_
 have c:=check_c d
 rw[hd]at c
 clear hd
 repeat' first|(apply yQ;exact zD;rfl;rfl;refine zL ?_;exact c _)|(refine xV ?_;and_intros<;>first|exact nl|intros)|fail
 rename Nat=>b;revert b
 intro b
 have g0:([(r:Int)].map intC)[0]?=some (intC r):=rfl
 have z0:((0:Nat):Int)=((0:Nat):Int):=rfl
 refine zU (fun(k:Nat)=>(⟨[(2,.ptr b 0),(13,ints [(r:Int)]),(14,.int .i64 1),(15,.int .i64 (k:Int))],.cells b (disC d) 31::σ,[],f108.ntmps⟩:St)) (fun k=>k≤1) (fun k=>1-k) 0 (Nat.zero_le _) (St.le_of zC yY) ?_
 intro k hI
 by_cases hk:k<1
 ·obtain rfl:k=0:=by omega
  refine yW ?_;intros
  refine⟨1,Nat.le_refl _,by omega,?_⟩
  exact(St.le_of zC zJ)
 ·obtain rfl:k=1:=by omega
  refine yW ?_;intros
  refine zW .nil zG zJ ?_
  rfl
/-- What AppendSeq makes of what is yielded upwards. -/
theorem appendUp_c(d:Dis)(hd:yD d=true)(hl:d.R.length≤64)(i0:Nat)(hi0:i0<d.R.length)(pd q:Nat)(σ:List Ent):
  SCall prog 163 [.slv nilS,.fn (.func 164) [] [.ptr q 0,.ptr pd 0]] (.cells q [.int .i64 (i0:Int)] 3::.cells pd (disC d) 31::σ) (fun r τ=> ∃v:Value,r=.slv v∧τ=.row v 3 1 ((upL d.R 64 i0).map intC)::σ):=by
 refine zZ func163 rfl (by simp) ?_
 refine xX 3 1 ?_
 have hll:=upL_len d.R 64 i0
 refine yW ?_;intros
 rename_i bs
 refine pY rfl (zX (by kernel_rfl)) ?_
 intro D l0 fn
 show SCall _ _ _ (Ent.loop _ _ _ _ ?ee ?nn ?ps ?asg ?body _::_) _
 obtain⟨Lp,hL⟩: ∃L,L=Ent.loop l0 .ready none fn ?ee ?nn ?ps ?asg ?body D:=⟨_,rfl⟩
 rw[←hL]
 refine scall_permu (List.perm_append_comm_assoc [Lp,.obj D (.deferred (some [])),.cells bs [.slv nilS] 45,.row nilS 3 1 []] [.cells q [.int .i64 (i0:Int)] 3] (.cells pd (disC d) 31::σ)) ?_
 refine SCall.mono (up1_c d hd hl i0 hi0 pd q l0 _ (fun L τ=> ∃A v,A++L=upL d.R 64 i0∧τ=Lp::.obj D (.deferred (some []))::.cells bs [.slv v] 45::.row v 3 1 (A.map intC)::.cells pd (disC d) 31::σ) (fun _=>False) ?_ ?_ ⟨[],nilS,rfl,rfl⟩) ?_
 ·rintro L τ ⟨A,v,_,rfl⟩
  simp
 ·rintro x L τ ⟨A,v,hA,rfl⟩
  have hlen:A.length<64:=by have:=congrArg List.length hA;simp at this;omega
  have hA2:(A++[x])++L=upL d.R 64 i0:=by rw[←hA];simp
  have hmp:A.map intC++[[AV.int .i64 x]]=(A++[x]).map intC:=by simp
  clear hd hA hll
  rw[hL]
  refine SRound.sub ?_
  refine sround yP rfl (by decide) ?_
  refine yW ?_;intros
  subst hL
  exact⟨_,List.Sublist.cons _ (List.Sublist.refl _),.inl ⟨rfl,A++[x],_,hA2,by rw[←hmp];rfl⟩⟩
 ·rintro r τ (⟨A,v,hA,rfl⟩|hF)
  ·rw[List.append_nil]at hA
   subst hA
   clear hd hll
   rw[hL]
   refine RangeEnd.done .here ?_
   refine yW ?_;intros
   refine zS (σ3:=.row v 3 1 ((upL d.R 64 i0).map intC)::σ) zmr zG zJ ?_
   exact zY ⟨v,rfl,rfl⟩
  ·exact hF.elim
theorem collectUp_c(d:Dis)(hd:yD d=true)(hl:d.R.length≤64)(i0:Nat)(hi0:i0<d.R.length)(pd q:Nat)(σ:List Ent):
  SCall prog 109 [.fn (.func 164) [] [.ptr q 0,.ptr pd 0]] (.cells q [.int .i64 (i0:Int)] 3::.cells pd (disC d) 31::σ) (fun r τ=> ∃v:Value,r=.slv v∧τ=.row v 3 1 ((upL d.R 64 i0).map intC)::σ):=by
 refine zZ func109 rfl (by simp) ?_
 have hc:=appendUp_c d hd hl i0 hi0 pd q σ
 clear hd
 repeat' first|(refine zge ?_;(refine zK rfl rfl rfl (zQ rfl rfl (zX (by kernel_rfl)) hc) ?_;rintro _ _ ⟨v,rfl,rfl⟩))|(refine yX ?_;intros)|fail
 refine zS (σ3:=.row v 3 1 ((upL d.R 64 i0).map intC)::σ) .nil zG zJ ?_
 exact zY ⟨v,rfl,rfl⟩
end Go.Proofs.YtaoaafdommlhcaaGreat

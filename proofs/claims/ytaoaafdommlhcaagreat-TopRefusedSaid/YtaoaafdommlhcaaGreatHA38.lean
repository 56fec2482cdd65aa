/- Parts of the proof that belong together: Mg Mh Mi. -/
import Derived.Test.YtaoaafdommlhcaaGreatHA35
import Derived.Test.YtaoaafdommlhcaaGreatHA37
set_option maxRecDepth 10000
set_option linter.unusedSimpArgs false
set_option linter.unusedVariables false
set_option autoImplicit false
open Go.Proofs.Tryz
namespace Go.Proofs.YtaoaafdommlhcaaGreat
open Go.Shelf Go.Sort Go.RowKit Go.WideMaps
theorem leastL_mem{l:List Flt}(h:l≠[]):leastL l∈l:=by
 cases l with
 |nil=>exact absurd rfl h
 |cons x l=>
  unfold leastL
  rw[List.foldl_cons]
  have e:(if soonF x fZ=true then x else fZ)=x:=by simp[soonF]
  rw[e]
  rcases least_mem l x with h1|h1
  ·rw[h1];simp
  ·simp[h1]
theorem brok_kind{d:Dis}{g:BkF}{n:Int}: ∀{l:List (Nat×Nat)},∀f∈jV d g n l,(∃p∈l,∃x,d.R[p.2]?=some x∧((f=⟨1,p.1,p.2,zV g (K2 p.2 p.1),x.cap⟩∧x.cap<zV g (K2 p.2 p.1))∨(f=⟨3,p.1,p.2,qL g p.2 p.1 x.delay.toNat,x.bank⟩∧x.bank<qL g p.2 p.1 x.delay.toNat)))∨(f=⟨4,0,0,n,d.start⟩∧d.start<n)
 |[],f,h=>by
  unfold jV tFlt at h
  split at h
  ·rename_i h1
   rw[List.mem_singleton]at h
   exact .inr ⟨h,h1⟩
  ·cases h
 |(k,i)::l,f,h=>by
  unfold jV at h
  split at h
  ·cases h
  ·rename_i x hx
   rcases List.mem_append.1 h with h|h
   ·unfold gFlt at h
    split at h
    ·rename_i h1
     rw[List.mem_singleton]at h
     exact .inl ⟨(k,i),by simp,x,hx,.inl ⟨h,h1⟩⟩
    ·cases h
   ·rcases List.mem_append.1 h with h|h
    ·unfold bFlt at h
     split at h
     ·rename_i h1
      rw[List.mem_singleton]at h
      exact .inl ⟨(k,i),by simp,x,hx,.inr ⟨h,h1⟩⟩
     ·cases h
    ·rcases brok_kind f h with⟨p,hp,hx⟩|h
     ·exact .inl ⟨p,by simp[hp],hx⟩
     ·exact .inr h
theorem brok_ne{d:Dis}{S:List Ord'}{f:Flt}(h:f∈brokL d S):f≠fZ:=by
 unfold brokL at h
 rintro rfl
 rcases brok_kind fZ h with⟨p,hp,x,_,⟨h1,_⟩|⟨h1,_⟩⟩|⟨h1,_⟩
 ·exact absurd (show (0:Int)=1 from congrArg Flt.kind h1) (by decide)
 ·exact absurd (show (0:Int)=3 from congrArg Flt.kind h1) (by decide)
 ·exact absurd (show (0:Int)=4 from congrArg Flt.kind h1) (by decide)
theorem solve_late{d:Dis}(hd:yZ d=0){C:List Clm}(hC: ∀c∈C,ClmOk d c)(ha:pN d C=0)(hn:¬ ∀p∈yL d.R.length d.hours.toNat,fltO d (uK d C) p=none):
  ∃p∈yL d.R.length d.hours.toNat,∃f,fltO d (uK d C) p=some f∧yH d C=([],f,0):=by
 have hT:=wP (zP hd).2
 have hex:(yL d.R.length d.hours.toNat).any (fun p=>(fltO d (uK d C) p).isSome)=true:=by
  cases hb:(yL d.R.length d.hours.toNat).any (fun p=>(fltO d (uK d C) p).isSome) with
  |true=>rfl
  |false=>
   refine absurd (fun p hp=>?_) hn
   have:=List.any_eq_false.1 hb p hp
   cases hf:fltO d (uK d C) p with
   |none=>rfl
   |some f=>rw[hf]at this;exact absurd rfl this
 have hp:=planO_is hT hC
 rw[if_pos hex]at hp
 have hl:=lateL_is hT hC
 have hne:lateL d (tL d C)≠[]:=by
  rw[hl]
  obtain⟨p,hp,e⟩:=List.any_eq_true.1 hex
  obtain⟨f,hf⟩:=Option.isSome_iff_exists.1 e
  intro e0
  have:f∈(yL d.R.length d.hours.toNat).filterMap (fltO d (uK d C)):=List.mem_filterMap.2 ⟨p,hp,hf⟩
  rw[e0]at this
  cases this
 have hm:=leastL_mem hne
 rw[hl]at hm
 obtain⟨p,hp2,hf⟩:=List.mem_filterMap.1 hm
 refine⟨p,hp2,_,hf,?_⟩
 unfold yH
 rw[if_neg (fun h=>h ha),hp,←hl]
theorem make_on{d:Dis}(hd:yZ d=0){C:List Clm}(hC: ∀c∈C,ClmOk d c)(h:xU d C=true):pN d C=0∧(∀p∈yL d.R.length d.hours.toNat,fltO d (uK d C) p=none)∧(xG d C).length≤4096∧brokL d (xA yF (xG d C))=[]∧yH d C=(xA yF (xG d C),fZ,0):=by
 unfold xU at h
 simp only[Bool.and_eq_true,decide_eq_true_eq]at h
 obtain⟨h1,h2⟩:=h
 have ha:pN d C=0:=(solve_wide h1).1
 rcases Classical.em (∀p∈yL d.R.length d.hours.toNat,fltO d (uK d C) p=none)with hn|hn
 ·have hl:(xG d C).length≤4096:=by
   rcases Nat.lt_or_ge 4096 (xG d C).length with e|e
   ·have hp:=planO_is (wP (zP hd).2) hC
    rw[if_neg (by
     intro e
     obtain⟨p,hp,e⟩:=List.any_eq_true.1 e
     rw[hn p hp]at e
     cases e)]at hp
    unfold yH at h1
    rw[if_neg (fun h=>h ha),hp]at h1
    dsimp only at h1
    rw[if_pos (show 4096<(tL d C++(schedC d C).map ordO).length from e)]at h1
    cases h1
   ·exact e
  have hs:=solve_on hd hC ha hn hl
  refine⟨ha,hn,hl,?_⟩
  cases hb:brokL d (xA yF (xG d C)) with
  |nil=>rw[hb]at hs;exact⟨rfl,hs⟩
  |cons f F=>
   rw[hb]at hs
   rw[hs]at h2
   exact absurd h2 (brok_ne (S:=xA yF (xG d C)) (by rw[hb];simp))
 ·obtain⟨p,hp,f,hf,hs⟩:=solve_late hd hC ha hn
  rw[hs]at h2
  obtain⟨_,_,_,_,_,rfl⟩:=flt_of hf
  exact absurd (show (7:Int)=0 from congrArg Flt.kind h2) (by decide)
theorem no_unknown{d:Dis}(hT:Tree d.R){C:List Clm}(hn: ∀p∈yL d.R.length d.hours.toNat,fltO d (uK d C) p=none): ∀p∈yL d.R.length d.hours.toNat,(uK d C).u (atK p)=false:=by
 have key: ∀n,∀p∈yL d.R.length d.hours.toNat,d.R.length-p.1≤n→(uK d C).u (atK p)=false:=by
  intro n
  induction n with
  |zero=>intro p hp hn;have:=(mem_pls.1 hp).1;omega
  |succ n ih=>
   intro p hp hle
   unfold uK lstT
   rw[lst_u hT,List.any_eq_false]
   intro q hq e
   rw[Bool.and_eq_true,decide_eq_true_eq]at e
   obtain⟨e1,e2⟩:=e
   obtain⟨x,hx⟩:=vR (mem_pls.1 hq).1
   have hlt:p.1<q.1:=by
    rcases Nat.lt_or_ge p.1 q.1 with h|h
    ·exact h
    ·exact absurd e1 (upK_ne hT (mem_pls.1 hq).1 h)
   have hu:=ih q hq (by have:=(mem_pls.1 hq).1;omega)
   unfold uK lstT at hu
   unfold bad at e2
   rw[hu,Bool.false_or,Bool.and_eq_true,decide_eq_true_eq,askV_some hx]at e2
   have hf:=hn q hq
   unfold fltO uK lstT at hf
   rw[hx]at hf
   dsimp only at hf
   rw[hu,if_neg (by decide),if_neg e2.1]at hf
   cases hv:tZ x ((lst tZ d.R d.hours.toNat (zV (vV d C))).m (atK q)) with
   |none=>rw[hv]at hf;cases hf
   |some v=>rw[hv]at e2;simp at e2
 exact fun p hp=>key _ p hp (Nat.le_refl _)
theorem sched_pw{d:Dis}(hT:Tree d.R)(C:List Clm):(schedC d C).Pairwise fun a b=>pR a≠pR b:=by
 rw[←schedL_is hT]
 exact(sched_at (pls_nodup _ _)).2.1
theorem qE{d:Dis}(hd:yZ d=0){C:List Clm}(hC: ∀c∈C,ClmOk d c){q:Prc}(hq:q∈schedC d C):
  ∃(p:Pl) (x:Rch),p∈yL d.R.length d.hours.toNat∧d.R[p.1]?=some x∧q.reach=p.1∧q.hour=(p.2:Int)-x.delay∧x.delay≤(p.2:Int)∧1≤x.delay∧q.wanted=(uK d C).m (atK p)∧0<q.wanted∧q.wanted≤xR x q.litres∧(1≤q.litres∧q.litres≤1073741824)∧x.siphon≤q.litres∧(q.litres≠x.siphon→xR x (q.litres-1)<q.wanted):=by
 have hvv:=(zP hd).2
 obtain⟨p,hp,hq⟩:=List.mem_filterMap.1 hq
 obtain⟨x,v,hx,hu,hm,hv,hdd,rfl⟩:=prc_of hq
 have h0:0≤(uK d C).m (atK p):=(lst_nonneg (wP hvv) (ik_all hvv) (want_nn hC)).1 p hp
 have hok:=RchOk.of (yA hvv hx)
 obtain⟨s1,s2,s3,s4,s5⟩:=(ik_ok hok).sm _ v (by omega) hv
 have hdl:=hok.dl
 exact⟨p,x,hp,hx,rfl,rfl,hdd,by omega,rfl,by dsimp only;omega,s1,⟨by dsimp only;omega,s3⟩,s4,s5⟩
theorem planC_ords{d:Dis}(hd:yZ d=0){C:List Clm}(hC:ClmsOk d C)(ha:pN d C=0):(∀o∈xG d C,kL d o=true)∧(∀a∈xG d C,∀b∈xG d C,yF a=yF b→a=b)∧(xG d C).Nodup:=by
 have hT:=wP (zP hd).2
 have hO:=outC_ok hd hC ha
 obtain⟨_,_,hb,_⟩:=narrow_ok hO.nar
 have hpw:(xG d C).Pairwise fun a b=>yF a≠yF b:=by
  unfold xG
  refine List.pairwise_append.2 ⟨(ordsB_up hb).2.imp fun {a b} h e=>?_,?_,fun a h1 b h2 e=>?_⟩
  ·rw[e]at h
   exact absurd h (by simp[yF,pF])
  ·rw[List.pairwise_map]
   refine(sched_pw hT C).imp fun {a b} h e=>h ?_
   simp only[yF,ordO,List.cons.injEq,and_true]at e
   simp only[pR,List.cons.injEq,and_true]
   exact⟨by omega,e.1⟩
  ·obtain⟨q,_,rfl⟩:=List.mem_map.1 h2
   simp[yF,ordO,out_outlet h1]at e
 refine⟨fun o ho=>?_,pw_inj hpw,hpw.imp fun {a b} h e=>h (by rw[e])⟩
 rcases List.mem_append.1 ho with h|h
 ·exact ords_each hb o h
 ·obtain⟨q,hq,rfl⟩:=List.mem_map.1 h
  obtain⟨p,x,hp,hx,e1,e2,e3,e4,_,_,_,e5,_⟩:=qE hd hC.ok hq
  have h1:=(mem_pls.1 hp).1
  have h2:=(mem_pls.1 hp).2
  unfold kL ordO
  simp only[Bool.and_eq_true,decide_eq_true_eq,Bool.false_eq_true,if_false]
  refine⟨⟨⟨⟨⟨?_,?_⟩,?_⟩,?_⟩,?_⟩,?_⟩<;>omega
theorem plan_draw{d:Dis}(hd:yZ d=0){C:List Clm}(hC: ∀c∈C,ClmOk d c)(p:Pl):vA d (xA yF (xG d C)) p.1 p.2=(uK d C).m (atK p):=by
 have hT:=wP (zP hd).2
 unfold vA
 rw[sumI_perm (uY _)]
 unfold xG
 rw[vQ,sumI_map]
 have h1:=outC_sum hC (fun a h=>decide (K2 (vP d a) h=atK p))
 simp only[decide_eq_true_eq]at h1
 rw[←wantV]at h1
 have h2:=sched_kids hT (zV (vV d C)) p
 have e1:zF (fun o=>if atR d o=p.1∧o.hour=p.2 then o.litres else 0) (tL d C)=zF (fun o=>if K2 (vP d o.index) o.hour=atK p then o.litres else 0) (tL d C):=yJ fun o ho=>by
  unfold atR
  rw[if_pos (out_outlet ho)]
  by_cases e:vP d o.index=p.1∧o.hour=p.2
  ·rw[if_pos e,if_pos (K2_inj.2 e)]
  ·rw[if_neg e,if_neg (fun e2=>e (K2_inj.1 e2))]
 have e2:zF (fun q=>if atR d (ordO q)=p.1∧(ordO q).hour=p.2 then (ordO q).litres else 0) (schedC d C)=zF (fun q=>if K2 (upR d q) q.hour=atK p then q.litres else 0) (schedC d C):=yJ fun q hq=>by
  obtain⟨p2,x,hp,hx,e1,_⟩:=qE hd hC hq
  have e3:atR d (ordO q)=upR d q:=by
   unfold atR upR ordO
   dsimp only
   rw[if_neg (by decide),e1,Int.toNat_natCast,hx]
  rw[e3]
  unfold ordO
  dsimp only
  by_cases e:upR d q=p.1∧q.hour=p.2
  ·rw[if_pos e,if_pos (K2_inj.2 e)]
  ·rw[if_neg e,if_neg (fun e2=>e (K2_inj.1 e2))]
 rw[e1,e2,h1]
 exact h2
theorem make_acc{d:Dis}(hd:yZ d=0){C:List Clm}(hC:ClmsOk d C)(h:xU d C=true):Acc d C (xA yF (xG d C)):=by
 obtain⟨ha,hn,hl,hbr,_⟩:=make_on hd hC.ok h
 have hvv:=(zP hd).2
 have hT:=wP hvv
 obtain⟨hb0,hinj,hnd⟩:=planC_ords hd hC ha
 have hb: ∀o∈xA yF (xG d C),kL d o=true:=fun o ho=>hb0 o ((uY _).subset ho)
 have hp:(xA yF (xG d C)).Pairwise fun a b=>pF (yF a) (yF b)=true:=sortK_up (n:=3) (fun _=>rfl) hinj hnd
 have hlen:(xA yF (xG d C)).length≤4096:=by rw[(uY _).length_eq];exact hl
 have hW:(d.R.length:Int)*d.hours≤1024:=by
  unfold pN at ha
  by_cases h1:1024<(d.R.length:Int)*d.hours
  ·rw[if_pos h1]at ha;cases ha
  ·omega
 have hbk:=(brok_nil (d:=d) (fun p hp=>(plsFrom_mem.1 hp).2)).1 hbr
 have hlit:=fun {o:Ord'} (ho:o∈xA yF (xG d C))=>lit_mem hp (fun o ho=>by have:=ord_in (hb o ho);omega) ho
 have hprc: ∀{q},q∈schedC d C→ordO q∈xA yF (xG d C):=fun hq=>(uY _).symm.subset (List.mem_append.2 (.inr (List.mem_map.2 ⟨_,hq,rfl⟩)))
 have hgate: ∀o∈xA yF (xG d C),o.outlet=false→ ∃x,d.R[o.index.toNat]?=some x∧o.litres≤x.cap∧x.siphon≤o.litres:=fun o ho hg=>by
  obtain⟨q,hq,rfl⟩:=planC_gate ((uY _).subset ho) hg
  obtain⟨p,x,hpp,hx,e1,e2,e3,e4,_,_,_,e5,e6,_⟩:=qE hd hC.ok hq
  have h1:=(mem_pls.1 hpp).1
  have h2:=(mem_pls.1 hpp).2
  refine⟨x,by unfold ordO;dsimp only;rw[e1,Int.toNat_natCast];exact hx,?_,e6⟩
  have h3:=(hbk.1 (q.hour.toNat,p.1) (plsFrom_mem.2 ⟨by omega,h1⟩) x hx).1
  have h4:=hlit ho
  dsimp only at h3
  rw[gate_lit,show ((q.hour.toNat:Nat):Int)=q.hour by omega,←e1]at h3
  exact Int.le_trans h4 h3
 refine⟨?_,?_,?_,?_,?_,?_,?_⟩
 ·unfold readE
  have hck:tA d (xA yF (xG d C))=0:=by
   unfold tA
   rw[if_neg (fun h=>h hd),if_neg (by omega),if_pos (ordsB_of hb hp (fun q hq=>by cases hq))]
  rw[if_neg (by omega),if_neg (fun h=>h hck)]
 ·unfold vN
  rw[List.flatMap_eq_nil_iff]
  intro o ho
  unfold gate1
  cases hg:o.outlet with
  |true=>rfl
  |false=>
   obtain⟨x,hx,h1,h2⟩:=hgate o ho hg
   rw[hx,if_neg (by decide)]
   dsimp only
   rw[if_neg (by decide),if_neg (by omega)]
 ·unfold vN
  rw[List.flatMap_eq_nil_iff]
  intro o ho
  unfold gate1
  cases hg:o.outlet with
  |true=>rfl
  |false=>
   obtain⟨x,hx,h1,h2⟩:=hgate o ho hg
   rw[hx,if_neg (by decide)]
   dsimp only
   rw[if_pos rfl,if_neg (by omega)]
 ·unfold kX
  rw[List.flatMap_eq_nil_iff]
  rintro⟨k,r⟩ hk
  obtain⟨x,hx⟩:=vR (plsFrom_mem.1 hk).2
  have h1:=(hbk.1 (k,r) hk x hx).2
  have h2:=load_ge (f:=xJ (xA yF (xG d C))) (g:=kD (xA yF (xG d C))) (lit_neg hp hb) r k (fun j=>by rw[gate_lit];exact Int.le_refl _) x.delay.toNat
  dsimp only at hx h1
  unfold bank1
  dsimp only
  rw[hx]
  dsimp only
  rw[if_neg (by omega)]
 ·rw[tank_nil]
  intro k hk
  exact Int.le_trans (sumG_all hp (fun o ho=>by have:=ord_in (hb o ho);omega) _) hbk.2
 ·unfold waterL
  rw[List.flatMap_eq_nil_iff]
  rintro⟨k,r⟩ hk
  obtain⟨hk1,hk2⟩:=plsFrom_mem.1 hk
  dsimp only at hk1 hk2
  obtain⟨x,hx⟩:=vR hk2
  have hok:=RchOk.of (yA hvv hx)
  have hpl:(r,k)∈yL d.R.length d.hours.toNat:=mem_pls.2 ⟨hk2,hk1⟩
  unfold water1 arrF
  dsimp only
  rw[hx,plan_draw hd hC.ok (r,k)]
  dsimp only
  have h0:=(lit_small hb (K3 ((k:Int)-x.delay) r false)).1
  refine if_neg ?_
  by_cases hm:(uK d C).m (atK (r,k))=0
  ·rw[hm]
   have:=(worstF_le hok h0).1
   omega
  ·have hu:=no_unknown hT hn (r,k) hpl
   have hf:=hn (r,k) hpl
   cases hv:tZ x ((uK d C).m (atK (r,k))) with
   |none=>
    unfold fltO at hf
    rw[hx]at hf
    dsimp only at hf
    rw[hu,if_neg (by decide),if_neg hm,hv]at hf
    cases hf
   |some v=>
    have hdl:x.delay≤(k:Int):=by
     unfold fltO at hf
     rw[hx]at hf
     dsimp only at hf
     rw[hu,if_neg (by decide),if_neg hm,hv]at hf
     dsimp only at hf
     rcases Int.lt_or_le (k:Int) x.delay with e|e
     ·rw[if_pos e]at hf;cases hf
     ·exact e
    have hq:(⟨((r:Nat):Int),(k:Int)-x.delay,v,(uK d C).m (atK (r,k))⟩:Prc)∈schedC d C:=List.mem_filterMap.2 ⟨(r,k),hpl,by
     unfold prcO
     rw[hx]
     dsimp only
     rw[hu,if_neg (by decide),if_neg hm,hv]
     dsimp only
     rw[if_pos hdl]⟩
    have h1:=hlit (hprc hq)
    have h2:0≤(uK d C).m (atK (r,k)):=(lst_nonneg hT (ik_all hvv) (want_nn hC.ok)).1 _ hpl
    obtain⟨s1,s2,s3,s4,s5⟩:=(ik_ok hok).sm _ v (by omega) hv
    have h3:=worstF_mono hok (u:=v) (v:=zV (xJ (xA yF (xG d C))) (K3 ((k:Int)-x.delay) r false)) (by omega) h1
    omega
 ·unfold unmetL
  rw[List.flatMap_eq_nil_iff]
  rintro⟨k,a⟩ hk
  obtain⟨hk1,hk2⟩:=plsFrom_mem.1 hk
  dsimp only at hk1 hk2
  unfold unmet1
  dsimp only
  refine if_neg ?_
  have e:zV (clF C) (K3 k a true)=zV (qF C) (K2 a k):=by
   rw[clFV,sumCV]
   refine yJ fun c _=>?_
   by_cases e:c.hour=k∧c.farm=a
   ·rw[if_pos (K3_inj.2 ⟨e.1,e.2,rfl⟩),if_pos (K2_inj.2 ⟨e.2,e.1⟩)]
   ·rw[if_neg (fun e2=>e ⟨(K3_inj.1 e2).1,(K3_inj.1 e2).2.1⟩),if_neg (fun e2=>e ⟨(K2_inj.1 e2).2,(K2_inj.1 e2).1⟩)]
  rw[e]
  cases hs:(qF C (K2 a k)).isSome with
  |true=>
   have ho:uA (qF C) k a∈tL d C:=outs_mem.2 ⟨k,a,hk1,hk2,hs,rfl⟩
   have h1:=hlit ((uY _).symm.subset (List.mem_append.2 (.inl ho)))
   unfold oK uA at h1
   dsimp only at h1
   omega
  |false=>
   have h0:zV (qF C) (K2 a k)=0:=by
    cases hg:qF C (K2 a k) with
    |none=>unfold zV;rw[hg]
    |some y=>rw[hg]at hs;cases hs
   have:=(lit_small hb (K3 k a true)).1
   omega
theorem plan_served{d:Dis}{C:List Clm}(hC: ∀c∈C,ClmOk d c)(k:List KL):zF (fun o=>if o.outlet=true then (if K2 o.index o.hour=k then o.litres else 0)else 0) (xA yF (xG d C))=zF (fun c=>if K2 c.farm c.hour=k then c.litres else 0) C:=by
 rw[sumI_perm (uY _)]
 unfold xG
 rw[vQ,sumI_map,wY (f:=fun q=>if (ordO q).outlet=true then (if K2 (ordO q).index (ordO q).hour=k then (ordO q).litres else 0)else 0) (fun q _=>rfl),Int.add_zero]
 have h1:=outC_sum hC (fun a h=>decide (K2 a h=k))
 simp only[decide_eq_true_eq]at h1
 rw[←h1]
 refine yJ fun o ho=>?_
 rw[if_pos (out_outlet ho)]
open Go.Shelf Go.Sort Go.RowKit Go.WideMaps
theorem sum_sub{α:Type}[DecidableEq α]{F:α→Int}{B l:List α}(hs:B.Sublist l)(hn:l.Nodup)(h: ∀p∈l,p∉B→F p=0):zF F B=zF F l:=by
 induction hs with
 |slnil=>rfl
 |@cons B l x hs ih=>
  obtain⟨h1,h2⟩:=List.nodup_cons.1 hn
  rw[zF,ih h2 fun p hp hb=>h p (by simp[hp]) hb,h x (by simp) (fun e=>h1 (hs.subset e)),Int.zero_add]
 |@cons_cons B l x hs ih=>
  obtain⟨h1,h2⟩:=List.nodup_cons.1 hn
  rw[zF,zF,ih h2 fun p hp hb=>h p (by simp[hp]) (fun e=>by
   rcases List.mem_cons.1 e with rfl|e
   ·exact h1 hp
   ·exact hb e)]
theorem tB_true(S:BkF)(k q:List KL)(h:tB S q=true):tB (xN S k (.b true)) q=true:=by
 rw[tB_upd]
 split
 ·rfl
 ·exact h
theorem bel_served{d:Dis}{f:Flt}: ∀{l:List Prc} {S:BkF} {p:Prc},p∈l→(seedB d f p=true∨tB S (K2 (upR d p) p.hour)=true)→p∈belS d f l S
 |q::l,S,p,hp,h=>by
  unfold belS
  rcases List.mem_cons.1 hp with rfl|hp
  ·rw[if_pos (by rcases h with h|h<;>simp[h])]
   simp
  ·split
   ·refine List.mem_cons_of_mem _ (bel_served hp ?_)
    rcases h with h|h
    ·exact .inl h
    ·exact .inr (tB_true _ _ _ h)
   ·exact bel_served hp h
theorem bel_closed{d:Dis}{f:Flt}: ∀{l:List Prc} {S:BkF},(l.Pairwise fun a b=>upR d a≠b.reach)→(∀a∈l,upR d a≠a.reach)→ ∀p'∈belS d f l S,∀p∈l,upR d p=p'.reach→p.hour=p'.hour+dlR d p'→p∈belS d f l S
 |[],S,_,_,p',h,_,_,_,_=>by unfold belS at h;cases h
 |q::l,S,hp,hs,p',h,p,hpl,e1,e2=>by
  obtain⟨k1,k2⟩:=List.pairwise_cons.1 hp
  have hs2: ∀a∈l,upR d a≠a.reach:=fun a ha=>hs a (by simp[ha])
  unfold belS at h ⊢
  split at h
  ·rename_i hq
   rw[if_pos hq]
   rcases List.mem_cons.1 h with rfl|h
   ·rcases List.mem_cons.1 hpl with rfl|hpl
    ·exact absurd e1 (hs _ (by simp))
    ·refine List.mem_cons_of_mem _ (bel_served hpl (.inr ?_))
     rw[tB_upd,if_pos (K2_inj.2 ⟨e1,e2⟩)]
   ·rcases List.mem_cons.1 hpl with rfl|hpl
    ·exact absurd e1 (k1 p' ((pW d f l _).subset h))
    ·exact List.mem_cons_of_mem _ (bel_closed k2 hs2 p' h p hpl e1 e2)
  ·rename_i hq
   rw[if_neg hq]
   rcases List.mem_cons.1 hpl with rfl|hpl
   ·exact absurd e1 (k1 p' ((pW d f l _).subset h))
   ·exact bel_closed k2 hs2 p' h p hpl e1 e2
theorem more_sum{d:Dis}: ∀(L:List Prc) (f:BkF) (k:List KL),zV (L.foldl (kJ d) f) k=zV f k+zF (fun q=>if K2 (upR d q) q.hour=k then q.litres else 0) L
 |[],f,k=>by simp[zF]
 |q::L,f,k=>by
  rw[List.foldl_cons,more_sum L,zF]
  unfold kJ
  rw[wD]
  by_cases h:k=K2 (upR d q) q.hour
  ·rw[if_pos h,if_pos h.symm];omega
  ·rw[if_neg h,if_neg (fun e=>h e.symm)];omega
theorem sumP_fold{r lo hi:Int}: ∀(L:List Prc) (n:Int),L.foldl (fun n p=>if p.reach=r∧lo≤p.hour∧p.hour≤hi then n+p.litres else n) n=n+zF (fun p=>if p.reach=r∧lo≤p.hour∧p.hour≤hi then p.litres else 0) L
 |[],n=>by simp[zF]
 |p::L,n=>by
  rw[List.foldl_cons,sumP_fold L,zF]
  split<;>omega
theorem sumP_is(r lo hi:Int)(L:List Prc):sumP r lo hi L=zF (fun p=>if p.reach=r∧lo≤p.hour∧p.hour≤hi then p.litres else 0) L:=by
 unfold sumP
 rw[sumP_fold]
 omega
structure RefOk(d:Dis)(C:List Clm)(f:Flt)(P:List Prc):Prop where
 len:P.length≤1024
 pw:P.Pairwise fun a b=>pR a≠pR b
 ok: ∀p∈P,PrcOk d (qB d C P) p
 br: ∃(i:Nat) (x:Rch),f.index=i∧d.R[i]?=some x∧(0≤f.hour∧f.hour<d.hours)∧ ∀rs,BrokeR d x (qB d C P) ⟨rs,f.kind,f.index,f.hour,P⟩
section
variable {d:Dis} {C:List Clm} (hd:yZ d=0) (hC: ∀c∈C,ClmOk d c)
include hd hC
theorem sched_nodup:(schedC d C).Nodup:=have _:=hC;(sched_pw (wP (zP hd).2) C).imp fun {a b} h e=>h (by rw[e])
theorem bel_perm(f:Flt):(belL d f (tV d C)).Perm (belS d f (schedC d C).reverse (fun _=>none)):=by
 have _:=hC
 unfold belL
 rw[schedL_is (wP (zP hd).2)]
 exact uL _
theorem bel_sum{f:Flt}{F:Prc→Int}(h: ∀p∈schedC d C,F p≠0→p∈belS d f (schedC d C).reverse (fun _=>none)):zF F (belL d f (tV d C))=zF F (schedC d C):=by
 rw[sumI_perm (bel_perm hd hC f),sum_sub (pW d f _ _) (List.pairwise_reverse.2 ((sched_nodup hd hC).imp fun h=>h.symm)) (fun p hp hb=>by
  rcases Classical.em (F p=0)with e|e
  ·exact e
  ·exact absurd (h p (List.mem_reverse.1 hp) e) hb),sumI_perm (List.reverse_perm _)]
theorem bel_mem{f:Flt}{p:Prc}(h:p∈belL d f (tV d C)):p∈schedC d C:=List.mem_reverse.1 ((pW d f _ _).subset ((bel_perm hd hC f).subset h))
theorem sched_asc:(schedC d C).reverse.Pairwise fun a b=>upR d a≠b.reach:=by
 have hT:=wP (zP hd).2
 rw[List.pairwise_reverse]
 have hdesc:(schedC d C).Pairwise fun a b=>b.reach≤a.reach:=by
  unfold schedC
  rw[List.pairwise_filterMap]
  refine(pls_desc d.R.length d.hours.toNat).imp fun {p q} h a ha b hb=>?_
  obtain⟨_,_,_,_,_,_,_,rfl⟩:=prc_of ha
  obtain⟨_,_,_,_,_,_,_,rfl⟩:=prc_of hb
  dsimp only
  omega
 refine hdesc.imp_of_mem fun {a b} ha hb h e=>?_
 obtain⟨p,x,_,hx,e1,_⟩:=qE hd hC hb
 have h1:=hT.lt hx
 have h2:upR d b=x.up:=by unfold upR;rw[e1,Int.toNat_natCast,hx]
 omega
theorem sched_self: ∀a∈(schedC d C).reverse,upR d a≠a.reach:=fun a ha e=>by
 have hT:=wP (zP hd).2
 obtain⟨p,x,_,hx,e1,_⟩:=qE hd hC (List.mem_reverse.1 ha)
 have h1:=hT.lt hx
 have h2:upR d a=x.up:=by unfold upR;rw[e1,Int.toNat_natCast,hx]
 omega
theorem more_at{f:Flt}(p:Pl)(h: ∀q∈schedC d C,K2 (upR d q) q.hour=atK p→q∈belS d f (schedC d C).reverse (fun _=>none)):zV (qB d C (belL d f (tV d C))) (atK p)=(uK d C).m (atK p):=by
 have hT:=wP (zP hd).2
 unfold qB
 rw[more_sum,bel_sum hd hC (fun q hq hne=>h q hq (by
  rcases Classical.em (K2 (upR d q) q.hour=atK p)with e|e
  ·exact e
  ·exact absurd (if_neg e) hne))]
 exact sched_kids hT (zV (vV d C)) p
theorem ref_prc(f:Flt):(belL d f (tV d C)).Pairwise (fun a b=>pR a≠pR b)∧ ∀p∈belL d f (tV d C),PrcOk d (qB d C (belL d f (tV d C))) p:=by
 have hT:=wP (zP hd).2
 refine⟨?_,fun q hq=>?_⟩
 ·refine((bel_perm hd hC f).pairwise_iff (fun {a b} h e=>h e.symm)).2 ?_
  refine List.Pairwise.sublist (pW d f _ _) ?_
  rw[List.pairwise_reverse]
  exact(sched_pw hT C).imp fun {a b} h e=>h e.symm
 ·obtain⟨p,x,hp,hx,e1,e2,e3,e4,e5,e6,e7,e8,e9,e10⟩:=qE hd hC (bel_mem hd hC hq)
  have hdl:dlR d q=x.delay:=by unfold dlR;rw[e1,Int.toNat_natCast,hx]
  have hm:=more_at hd hC (f:=f) p (fun r hr e=>by
   obtain⟨k1,k2⟩:=K2_inj.1 e
   exact bel_closed (sched_asc hd hC) (sched_self hd hC) q ((bel_perm hd hC f).subset hq) r (List.mem_reverse.2 hr) (k1.trans e1.symm) (by rw[hdl,k2,e2];omega))
  have h2:=(mem_pls.1 hp).2
  refine⟨p.1,x,e1,hx,by omega,e8,e6,?_,e10⟩
  rw[e2,show (p.2:Int)-x.delay+x.delay=(p.2:Int) by omega,hm,e5]
end
section
variable {d:Dis} {C:List Clm} (hd:yZ d=0) (hC:ClmsOk d C) (ha:pN d C=0) (hl:(xG d C).length≤4096)
include hd hC ha hl
theorem seed_in{f:Flt}{q:Prc}(hq:q∈schedC d C)(h:seedB d f q=true):q∈belS d f (schedC d C).reverse (fun _=>none):=have _:=hd;have _:=hC;have _:=ha;have _:=hl;bel_served (List.mem_reverse.2 hq) (.inl h)
theorem gate_sum(i k:Int):zV (kD (xA yF (xG d C))) (K2 i k)≤zF (fun p:Prc=>if p.reach=i∧p.hour=k then p.litres else 0) (schedC d C):=by
 have _:=ha;have _:=hl
 have hnn: ∀p∈schedC d C,0≤(if p.reach=i∧p.hour=k then p.litres else 0):=fun p hp=>by
  obtain⟨_,_,_,_,_,_,_,_,_,_,_,h1,_⟩:=qE hd hC.ok hp
  split<;>omega
 rcases gateF_mem (xA yF (xG d C)) i k with e|⟨o,ho,h1,h2,h3,h4⟩
 ·rw[e];exact uQ hnn
 ·obtain⟨q,hq,rfl⟩:=planC_gate ((uY _).subset ho) h1
  have:=qH (f:=fun p:Prc=>if p.reach=i∧p.hour=k then p.litres else 0) hnn q hq
  rw[if_pos (show q.reach=i∧q.hour=k from⟨h2,h3⟩)]at this
  rw[h4]
  exact this
theorem load_sum(i k:Int): ∀n:Nat,qL (kD (xA yF (xG d C))) i k n≤zF (fun p:Prc=>if p.reach=i∧k-n+1≤p.hour∧p.hour≤k then p.litres else 0) (schedC d C)
 |0=>by
  unfold qL
  refine uQ fun p hp=>?_
  obtain⟨_,_,_,_,_,_,_,_,_,_,_,h1,_⟩:=qE hd hC.ok hp
  split<;>omega
 |n+1=>by
  have h1:=load_sum i k n
  have h2:=gate_sum hd hC ha hl i (k-(n:Int))
  unfold qL
  refine Int.le_trans (Int.add_le_add h1 h2) ?_
  rw[←sumI_add]
  refine kN fun p hp=>?_
  obtain⟨_,_,_,_,_,_,_,_,_,_,_,h1,_⟩:=qE hd hC.ok hp
  have en:((n+1:Nat):Int)=(n:Int)+1:=by omega
  rw[en]
  by_cases e1:p.reach=i
  ·by_cases e2:k-n+1≤p.hour∧p.hour≤k
   ·rw[if_pos ⟨e1,e2⟩,if_neg (fun e=>by have:=e.2;omega),if_pos ⟨e1,by omega,e2.2⟩]
    omega
   ·rw[if_neg (fun e=>e2 e.2)]
    by_cases e3:p.hour=k-n
    ·rw[if_pos ⟨e1,e3⟩,if_pos ⟨e1,by omega,by omega⟩];omega
    ·rw[if_neg (fun e=>e3 e.2)]
     split<;>omega
  ·rw[if_neg (fun e=>e1 e.1),if_neg (fun e=>e1 e.1),if_neg (fun e=>e1 e.1)]
   exact Int.le_refl _
theorem ref_ok(h:xU d C=false):(yH d C).2.2=0∧RefOk d C (yH d C).2.1 (belL d (yH d C).2.1 (tV d C)):=by
 have hvv:=(zP hd).2
 have hT:=wP hvv
 have hW:(d.R.length:Int)*d.hours≤1024:=by
  unfold pN at ha
  by_cases h1:1024<(d.R.length:Int)*d.hours
  ·rw[if_pos h1]at ha;cases ha
  ·omega
 have hH:=xF hvv
 have hH1:1≤d.hours:=by
  have hv:=hvv
  unfold yD tY at hv
  simp[vS]at hv
  omega
 have hlen: ∀f,(belL d f (tV d C)).length≤1024:=fun f=>by
  rw[(bel_perm hd hC.ok f).length_eq]
  refine Nat.le_trans (pW d f _ _).length_le ?_
  rw[List.length_reverse]
  exact Nat.le_trans (List.length_filterMap_le _ _) (pls_few hW)
 have hpr:=fun f=>ref_prc hd hC.ok f
 rcases Classical.em (∀p∈yL d.R.length d.hours.toNat,fltO d (uK d C) p=none)with hn|hn
 ·have hs:=solve_on hd hC.ok ha hn hl
  cases hb:brokL d (xA yF (xG d C)) with
  |nil=>
   rw[hb]at hs
   unfold xU at h
   rw[hs]at h
   simp at h
  |cons f F=>
   rw[hb]at hs
   rw[hs]
   refine⟨rfl,hlen f,(hpr f).1,(hpr f).2,?_⟩
   dsimp only
   have hm:f∈brokL d (xA yF (xG d C)):=by rw[hb];simp
   rcases brok_kind f hm with⟨⟨k,i⟩,hp,x,hx,⟨rfl,hc⟩|⟨rfl,hc⟩⟩|⟨rfl,hc⟩
   ·obtain⟨k1,k2⟩:=plsFrom_mem.1 hp
    dsimp only at k1 k2 hx hc ⊢
    refine⟨i,x,rfl,hx,by omega,fun rs=>.inl ⟨rfl,?_⟩⟩
    dsimp only
    rw[sumP_is,bel_sum hd hC.ok (fun q hq hne=>seed_in hd hC ha hl hq (by
     have e:q.reach=i∧(k:Int)≤q.hour∧q.hour≤k:=by
      rcases Classical.em (q.reach=i∧(k:Int)≤q.hour∧q.hour≤k)with e|e
      ·exact e
      ·exact absurd (if_neg e) hne
     unfold seedB
     rw[e.1,Int.toNat_natCast,hx]
     simp only[if_true,Bool.and_eq_true,decide_eq_true_eq,true_and]
     omega))]
    have:=gate_sum hd hC ha hl i k
    refine Int.lt_of_lt_of_le hc (Int.le_trans this (kN fun p hp=>?_))
    by_cases e:p.reach=i∧p.hour=k
    ·rw[if_pos e,if_pos ⟨e.1,by omega,by omega⟩];exact Int.le_refl _
    ·rw[if_neg e,if_neg (fun e2=>e ⟨e2.1,by omega⟩)];exact Int.le_refl _
   ·obtain⟨k1,k2⟩:=plsFrom_mem.1 hp
    dsimp only at k1 k2 hx hc ⊢
    have hdl:=(RchOk.of (yA hvv hx)).dl
    refine⟨i,x,rfl,hx,by omega,fun rs=>.inr (.inl ⟨rfl,?_⟩)⟩
    dsimp only
    rw[sumP_is,bel_sum hd hC.ok (fun q hq hne=>seed_in hd hC ha hl hq (by
     have e:q.reach=i∧(k:Int)-x.delay+1≤q.hour∧q.hour≤k:=by
      rcases Classical.em (q.reach=i∧(k:Int)-x.delay+1≤q.hour∧q.hour≤k)with e|e
      ·exact e
      ·exact absurd (if_neg e) hne
     unfold seedB
     rw[e.1,Int.toNat_natCast,hx]
     dsimp only
     rw[if_neg (by decide),if_pos rfl]
     simp only[Bool.and_eq_true,decide_eq_true_eq,true_and]
     omega))]
    have:=load_sum hd hC ha hl i k x.delay.toNat
    rw[show ((x.delay.toNat:Nat):Int)=x.delay by omega]at this
    exact Int.lt_of_lt_of_le hc this
   ·have hR0:0<d.R.length:=by
     have hv:=hvv
     unfold yD tY at hv
     simp only[Bool.and_eq_true,decide_eq_true_eq]at hv
     omega
    obtain⟨x,hx⟩:=vR hR0
    dsimp only
    refine⟨0,x,rfl,hx,by omega,fun rs=>.inr (.inr (.inl ⟨rfl,rfl,rfl,?_⟩))⟩
    dsimp only
    rw[sumP_is,bel_sum hd hC.ok (fun q hq hne=>seed_in hd hC ha hl hq (by
     have e:q.reach=0∧(0:Int)≤q.hour∧q.hour≤d.hours:=by
      rcases Classical.em (q.reach=0∧(0:Int)≤q.hour∧q.hour≤d.hours)with e|e
      ·exact e
      ·exact absurd (if_neg e) hne
     unfold seedB
     rw[e.1]
     simp only[Int.toNat_zero,hx]
     rw[if_neg (by decide),if_neg (by decide)]
     simp))]
    rw[allF_plan]at hc
    refine Int.lt_of_lt_of_le hc (kN fun q hq=>?_)
    obtain⟨p,x,hpp,_,_,e2,e3,e4,_⟩:=qE hd hC.ok hq
    have:=(mem_pls.1 hpp).2
    by_cases e:q.reach=0
    ·rw[if_pos e,if_pos ⟨e,by omega,by omega⟩];exact Int.le_refl _
    ·rw[if_neg e,if_neg (fun e2=>e e2.1)];exact Int.le_refl _
 ·obtain⟨p,hp,f,hf,hs⟩:=solve_late hd hC.ok ha hn
  rw[hs]
  obtain⟨x,hx,hu,hm,hv,rfl⟩:=flt_of hf
  refine⟨rfl,hlen _,(hpr _).1,(hpr _).2,?_⟩
  dsimp only
  have h1:=mem_pls.1 hp
  refine⟨p.1,x,rfl,hx,by omega,fun rs=>.inr (.inr (.inr ⟨rfl,?_⟩))⟩
  dsimp only
  have e:=more_at hd hC.ok (f:=⟨7,p.2,p.1,(uK d C).m (atK p),0⟩) p (fun q hq e=>seed_in hd hC ha hl hq (by
   obtain⟨k1,k2⟩:=K2_inj.1 e
   obtain⟨p2,y,_,hy,e1,_⟩:=qE hd hC.ok hq
   unfold upR at k1
   unfold seedB
   rw[e1,Int.toNat_natCast,hy]at k1 ⊢
   dsimp only at k1 ⊢
   rw[if_neg (by decide),if_neg (by decide),if_neg (by decide)]
   simp only[Bool.and_eq_true,decide_eq_true_eq]
   exact⟨k1,k2⟩))
  have h0:0≤(uK d C).m (atK p):=(lst_nonneg hT (ik_all hvv) (want_nn hC.ok)).1 p hp
  change (0<zV (qB d C (belL d ⟨7,p.2,p.1,(uK d C).m (atK p),0⟩ (tV d C))) (atK p)∧(p.2:Int)<x.delay)∨xR x 1073741824<zV (qB d C (belL d ⟨7,p.2,p.1,(uK d C).m (atK p),0⟩ (tV d C))) (atK p)
  rw[e]
  rcases hv with hv|hv
  ·exact .inr ((ik_ok (RchOk.of (yA hvv hx))).nn _ (by omega) hv)
  ·exact .inl ⟨by omega,hv⟩
end
open Go.Shelf Go.Sort Go.RowKit Go.WideMaps
theorem first_ok{d:Dis}{C:List Clm}(h:xU d C=false):jZ d C∈setsL (uG (C.map Clm.right))∧xU d (vZ (jZ d C) C)=false:=by
 unfold jZ
 cases hf:(setsL (uG (C.map Clm.right))).find? fun rs=>!xU d (vZ rs C) with
 |none=>
  have:=List.find?_eq_none.1 hf _ (setsL_self _)
  rw[ownC_all,h]at this
  exact absurd rfl this
 |some rs=>
  have h1:=List.find?_some hf
  have h2:=List.mem_of_find?_eq_some hf
  refine⟨h2,?_⟩
  dsimp only[Option.getD_some]at h1 ⊢
  cases hb:xU d (vZ rs C) with
  |false=>rfl
  |true=>rw[hb]at h1;cases h1
theorem ownC_sub(rs:List Int)(C:List Clm):(vZ rs C).Sublist C:=List.filter_sublist
theorem few_bound{d:Dis}(hd:yZ d=0)(hW:(d.R.length:Int)*d.hours≤1024)(hF:d.F.length≤8∨600<d.F.length)(hH:d.hours≤30∨1024<d.hours):d.hours≤30∧d.F.length≤8:=by
 have hvv:=(zP hd).2
 have hf:=(yC (zP hd).1).2.1
 have hR0:0<d.R.length:=by
  have hv:=hvv
  unfold yD tY at hv
  simp only[Bool.and_eq_true,decide_eq_true_eq]at hv
  omega
 have hH1:1≤d.hours:=by
  have hv:=hvv
  unfold yD tY at hv
  simp[vS]at hv
  omega
 have h1:1*d.hours≤(d.R.length:Int)*d.hours:=Int.mul_le_mul_of_nonneg_right (by omega) (by omega)
 omega
theorem ask_wide{d:Dis}{C:List Clm}(h:pN d C=0):(d.R.length:Int)*d.hours≤1024:=by
 unfold pN at h
 by_cases h1:1024<(d.R.length:Int)*d.hours
 ·rw[if_pos h1]at h;cases h
 ·omega
section
variable {d:Dis} {l:List Ded} {frm to known:Int} (h0:tQ d l frm to known=0)
include h0
theorem why_off(hm:xU d (kK d l frm to known)=true):pB d l frm to known=(rf0,false,0):=by
 unfold pB
 rw[if_neg (fun h=>h h0),if_pos hm]
theorem why_on(hm:xU d (kK d l frm to known)=false):pB d l frm to known=(refOf d (kK d l frm to known) (jZ d (kK d l frm to known)),true,0):=by
 unfold pB
 rw[if_neg (fun h=>h h0),if_neg (by rw[hm];decide)]
theorem own_ref(hm:xU d (kK d l frm to known)=false)(hH:d.hours≤30)(hF:d.F.length≤8)(rs:List Int)(hrs:xU d (vZ rs (kK d l frm to known))=false):
  RefOk d (vZ rs (kK d l frm to known)) (yH d (vZ rs (kK d l frm to known))).2.1 (refOf d (kK d l frm to known) rs).parcels:=by
 obtain⟨h1,h2,_⟩:=open_zero h0
 have hC:=of_ok h1
 have ha:=(solve_wide h2).1
 exact(ref_ok (ofL_dis h1) (ownC_ok hC rs) (askE_sub hC.ok (ownC_sub rs _) ha) (plan_small hH hF (ask_wide ha)) hrs).2
theorem holdsR_c(hm:xU d (kK d l frm to known)=false)(hH:d.hours≤30)(hF:d.F.length≤8)(σ:List Ent):
  SCall prog 11 [disV d,deds l,.int .i64 frm,.int .i64 to,.int .i64 known,rfV (pB d l frm to known).1] σ (Is (.tup [.bool true,.int .i64 0]) σ):=by
 rw[why_on h0 hm]
 obtain⟨k1,k2⟩:=first_ok hm
 have hR:=own_ref h0 hm hH hF _ k2
 obtain⟨i,x,e1,e2,e3,e4⟩:=hR.br
 exact holds_c d l frm to known _ σ h0 (setsL_sub k1) hR.len hR.pw hR.ok ⟨i,x,e1,e2,e3,e4 _⟩
end
def faultsL(d:Dis)(C:List Clm)(L:List Ord'):List Flt:=vN d 1 L++(vN d 2 L++(kX d (vD (xJ L)) (yK d.hours.toNat d.R.length 0)++(tankL d (vD (xJ L)) (List.range d.hours.toNat)++(waterL d (xJ L) (vA d L) (yK d.hours.toNat d.R.length 0)++unmetL (xJ L) (clF C) (yK d.hours.toNat d.F.length 0)))))
def accB(d:Dis)(C:List Clm)(L:List Ord'):Bool:=decide (readE d L=0)&&(faultsL d C L).isEmpty
theorem accB_iff{d:Dis}{C:List Clm}{L:List Ord'}:accB d C L=true↔Acc d C L:=by
 unfold accB faultsL
 rw[Bool.and_eq_true,decide_eq_true_eq,List.isEmpty_iff,List.append_eq_nil_iff,List.append_eq_nil_iff,List.append_eq_nil_iff,List.append_eq_nil_iff,List.append_eq_nil_iff]
 exact⟨fun⟨h1,h2,h3,h4,h5,h6,h7⟩=>⟨h1,h2,h3,h4,h5,h6,h7⟩,fun h=>⟨h.rd,h.g1,h.g2,h.bk,h.tk,h.wt,h.um⟩⟩
theorem none_acc{d:Dis}{C:List Clm}(hC:ClmsOk d C)(ha:pN d C=0)(hH:d.hours≤30)(hF:d.F.length≤8)(h:xU d C=false)(L:List Ord'):accB d C L=false:=by
 cases hb:accB d C L with
 |false=>rfl
 |true=>rw[acc_make hC.ok (accB_iff.1 hb) ha (plan_small hH hF (ask_wide ha))]at h;cases h
theorem plan_acc{d:Dis}(hd:yZ d=0){C:List Clm}(hC:ClmsOk d C)(h:xU d C=true):accB d C (yH d C).1=true:=by
 obtain⟨_,_,_,_,hs⟩:=make_on hd hC.ok h
 rw[hs]
 exact accB_iff.2 (make_acc hd hC h)
end Go.Proofs.YtaoaafdommlhcaaGreat

/- Parts of the proof that belong together: Hg Hh Hi. -/
import Derived.Test.YtaoaafdommlhcaaGreatHA07
import Derived.Test.YtaoaafdommlhcaaGreatHA28
set_option maxRecDepth 10000
set_option maxHeartbeats 64000000
set_option linter.unusedSimpArgs false
set_option linter.unusedVariables false
set_option autoImplicit false
open Go.Proofs.Tryz
namespace Go.Proofs.YtaoaafdommlhcaaGreat
open Go.WideMaps
theorem out_each{d:Dis}{out:List Ord'}(hO:OutOk d out): ∀o∈out,∃(a:Nat) (y:Frm),o.outlet=true∧(0≤o.hour∧o.hour<d.hours)∧o.index=a∧(d.F.map frmC)[a]?=some (frmC y)∧vP d o.index=y.reach∧(0≤y.reach∧y.reach<d.R.length)∧1≤o.litres∧o.litres≤1073741824:=fun o ho=>by
 obtain⟨hd,_,hb,_⟩:=narrow_ok hO.nar
 have hvv:=(zP hd).2
 have h1:=ords_each hb o ho
 have h2:=hO.out o ho
 unfold kL at h1
 rw[h2,if_pos rfl]at h1
 simp only[Bool.and_eq_true,decide_eq_true_eq]at h1
 obtain⟨a,e1,e2⟩:=nat_of (n:=o.index) (m:=d.F.length) (by omega)
 obtain⟨y,hy⟩:=zH e2
 have hyr:0≤y.reach∧y.reach<d.R.length:=by
  unfold yD at hvv
  simp only[Bool.and_eq_true]at hvv
  have g:=List.all_eq_true.1 hvv.1.1.2 y (List.mem_of_getElem? hy)
  unfold farmB idxB at g
  simp only[Bool.and_eq_true,decide_eq_true_eq]at g
  exact g.1.2
 refine⟨a,y,h2,by omega,e1,by rw[List.getElem?_map,hy];rfl,?_,hyr,by omega,by omega⟩
 unfold vP
 rw[e1,Int.toNat_natCast,hy]
theorem late1_c(d:Dis)(out:List Ord')(hO:OutOk d out)(b1 b2:Nat):
  Yields prog 125 [] [.ptr b2 0,.ptr b1 0] ((lateL d out).map fun f=>[fltV f]) (fun τ=>Ent.cells b2 [ords out] 36∈τ∧Ent.cells b1 (disC d) 31∈τ):=by
 intro yl σ I Stop hC hy h0
 refine zZ func125 rfl (by simp) ?_
 obtain⟨m1,m2⟩:=hC _ _ h0
 obtain⟨hd,hl,_,hW⟩:=narrow_ok hO.nar
 have hvv:=(zP hd).2
 have hF:=(yC (zP hd).1).2.1
 have hR:=(yC (zP hd).1).1
 have hH:=xF hvv
 have hoe:=out_each hO
 have hask: ∀k,∀q,0≤zV (askF d (out.take k)) q∧zV (askF d (out.take k)) q≤4398046511104:=fun k q=>by
  have:=askF_le (d:=d) (B:=0) (out:=out.take k) (f:=fun _=>none) (fun o ho=>by
   obtain⟨_,_,_,_,_,_,_,_,h1,h2⟩:=hoe o (List.mem_of_mem_take ho)
   exact⟨by omega,h2⟩) (fun q=>by simp[zV]) q
  rw[List.length_take]at this
  unfold askF
  omega
 have hint: ∀k,IntV (askF d (out.take k)):=fun k=>askF_int (fun k x h=>by cases h)
 clear hd
 repeat' first|(refine xD (.makeMap _ _) ?_;refine tD [false,false] rfl rfl rfl (vE [false,false]) ?_;intro bm)|(refine yX ?_;intros)|fail
 rename Nat=>bu;revert bu;rename Nat=>bw;revert bw
 intro bw bu
 refine zU (fun(z:Nat×Nat)=>(⟨[(0,.fn (.yield yl) [] []),(1,.ptr b2 0),(2,.ptr b1 0),(4,.mp bw),(5,.mp bu),(18,ords out),(19,.int .i64 out.length),(20,.int .i64 (z.1:Nat))],.kmap bu [false,false] (fun _=>none) 0::.kmap bw [false,false] (askF d (out.take z.1)) z.2::σ,[],Tryz.f125.ntmps⟩:St)) (fun z=>z.1≤out.length) (fun z=>out.length-z.1) (0,0) (Nat.zero_le _) (St.le_of zC yY) ?_
 intro z hI
 obtain⟨k,n⟩:=z
 dsimp only at hI ⊢
 by_cases hk:k<out.length
 ·obtain⟨o,ho⟩:=zH hk
  have go:=ord_get ho
  obtain⟨a,y,e1,⟨e2,e3⟩,e4,gy,e5,⟨e6,e7⟩,e8,e9⟩:=hoe o (List.mem_of_getElem? ho)
  have hnx:askF d (out.take (k+1))=vY (askF d (out.take k)) (K2 y.reach o.hour) o.litres:=by
   unfold askF
   rw[List.take_add_one,ho,←e5]
   simp
  have hfi:=hint k
  have hbn:=hask k (K2 y.reach o.hour)
  clear hint hask hoe hO ho hC hy h0
  obtain⟨oh,oi,ol,ob⟩:=o
  dsimp only at e1 e2 e3 e4 e5 e8 e9 hnx hbn
  subst e1 e4
  generalize askF d (out.take k)=f at hnx hfi hbn ⊢
  have hkf:KFit [false,false] (K2 y.reach oh):=tP (by omega) (by omega)
  refine yW ?_;intros
  rename Nat=>b7;revert b7
  intro b7
  refine yB (fun e=>e=.cells b7 (ordC ⟨oh,a,ol,true⟩) 95∨e=.cells b1 (disC d) 31) [11,15] 17 rfl (by kernel_rfl) rfl ?_
  simp only[List.take_succ_cons,List.take_zero,List.drop_succ_cons,List.drop_zero]
  repeat' first|(refine zgd ?_;first|(refine xH rfl rfl (zR (z:=.i 0) (k:=K2 y.reach oh) rfl wN wL rfl rfl yP rfl rfl hkf (xZ hfi _) rfl) ?_)|(refine yN rfl rfl (wS (z:=.i 0) (k:=K2 y.reach oh) rfl wN wL rfl rfl rfl rfl hkf (fun _=>qJ)) ?_;rintro _ _ ⟨es,clock,e,hE,he,hek⟩;refine⟨zks,?_⟩)|(refine xH rfl rfl (xC (z:=.i 0) (k:=K2 y.reach oh) rfl wN wL rfl rfl hE yP rfl rfl hkf (vH hfi _) rfl) ?_))|(refine xD (.entryStore _ _ _ _) ?_;refine yE rfl rfl (xQ (v:=.i _) hE he hek rfl rfl rfl rfl (qJ) (wA _ _ _ _)) ?_)|(refine yX ?_;intros)|refine vX rfl rfl rfl ?_ ?_|fail
  all_goals
   try rw[uE (show-9223372036854775808≤zV f (K2 y.reach oh)+ol∧zV f (K2 y.reach oh)+ol≤9223372036854775807 by omega)]
   exact⟨(k+1,cntK f (K2 y.reach oh) n),hk,by dsimp only;omega,by dsimp only;rw[hnx];exact(St.le_of zC zJ)⟩
 obtain rfl:k=out.length:=by omega
 have hb0:=hask out.length
 have hi0:=hint out.length
 rw[List.take_length]at hb0 hi0 ⊢
 have hTr:=wP hvv
 have hH1:1≤d.hours:=by
  have hv:=hvv
  unfold yD tY at hv
  simp[vS]at hv
  omega
 have hpf:=pls_few hW
 obtain⟨N,hN⟩: ∃N:Nat,d.hours=N:=⟨d.hours.toNat,by omega⟩
 unfold lateL at hy ⊢
 rw[hN,Int.toNat_natCast]at hy hpf ⊢
 obtain⟨F,hF2⟩: ∃F,F=lateS d (yL d.R.length N) (askF d out) (fun _=>none):=⟨_,rfl⟩
 rw[←hF2]at hy ⊢
 clear hint hask hoe hO
 generalize askF d out=f0 at hb0 hi0 hF2 ⊢
 refine yW ?_;intros
 refine zU (fun(z:Nat×Int×BkF×BkF×Nat×Nat×Nat×Nat×List Ent)=>(⟨[(0,.fn (.yield yl) [] []),(1,.ptr b2 0),(2,.ptr b1 0),(4,.mp bw),(5,.mp bu),(8,.int .i64 z.2.1)],.kmap bu [false,false] z.2.2.2.1 z.2.2.2.2.2.1::.kmap bw [false,false] z.2.2.1 z.2.2.2.2.1::z.2.2.2.2.2.2.2.2,[],Tryz.f125.ntmps⟩:St)) (fun z=>(z.1≤d.R.length∧z.2.1=(z.1:Int)-1)∧(lateS d (yL z.1 N) z.2.2.1 z.2.2.2.1=F.drop z.2.2.2.2.2.2.1∧z.2.2.2.2.2.2.1≤F.length∧I z.2.2.2.2.2.2.1 z.2.2.2.2.2.2.2.2)∧IntV z.2.2.1∧BoolV z.2.2.2.1∧(∀q,0≤zV z.2.2.1 q∧zV z.2.2.1 q≤4398046511104+z.2.2.2.2.2.2.2.1*1073741824)∧z.2.2.2.2.2.2.2.1+(yL z.1 N).length≤1024) (fun z=>z.1) (d.R.length,(d.R.length:Int)-1,f0,(fun _=>none),n,0,0,0,σ) (⟨⟨Nat.le_refl _,rfl⟩,⟨by dsimp only;rw[←hF2];rfl,Nat.zero_le _,h0⟩,hi0,(fun k x h=>by cases h),(fun q=>by have:=hb0 q;dsimp only;omega),by dsimp only;omega⟩) (St.le_of zC yY) ?_
 intro z hI
 obtain⟨m,r,f,U,n1,n2,j,c,τ⟩:=z
 obtain⟨⟨hI1,hI2⟩,⟨hI3,hI4,hI5⟩,hI6,hI7,hI8,hI9⟩:=hI
 dsimp only at hI1 hI2 hI3 hI4 hI5 hI6 hI7 hI8 hI9 ⊢
 clear m1 m2 h0 hi0 hb0 hF2
 obtain⟨m1,m2⟩:=hC _ _ hI5
 cases m with
 |zero=>
  have hj:j=F.length:=by
   have:F.drop j=[]:=hI3.symm
   have:=List.drop_eq_nil_iff.1 this
   omega
  have hr0:r<0:=by omega
  refine yW ?_;intros
  refine zS (σ3:=τ) .nil zG zJ ?_
  exact zY (.inl (by rw[List.length_map,←hj];exact hI5))
 |succ i=>
  obtain rfl:r=(i:Int):=by omega
  rw[plsUp_succ]at hI3 hI9
  rw[List.length_append,List.length_map,List.length_range]at hI9
  clear hI2
  have hRi:(i:Int)≤64:=by omega
  obtain⟨x,hx⟩:=zH (show i<d.R.length by omega)
  have gx:(d.R.map rchC)[i]?=some (rchC x):=by rw[List.getElem?_map,hx];rfl
  have hok:=RchOk.of (yA hvv hx)
  have hup:=hTr.lt hx
  have hge:=hTr.ge hx
  have hdl:=hok.dl
  clear hTr
  refine yW ?_;intros
  rename Nat=>b9;revert b9
  intro b9
  clear m1 m2
  refine zU (fun(z:Nat×BkF×BkF×Nat×Nat×Nat×Nat×List Ent)=>(⟨[(0,.fn (.yield yl) [] []),(1,.ptr b2 0),(2,.ptr b1 0),(4,.mp bw),(5,.mp bu),(8,.int .i64 (i:Int)),(9,.ptr b9 0),(56,.int .i64 d.hours),(57,.int .i64 (z.1:Nat))],.cells b9 (rchC x) 108::.kmap bu [false,false] z.2.2.1 z.2.2.2.2.1::.kmap bw [false,false] z.2.1 z.2.2.2.1::z.2.2.2.2.2.2.2,[],Tryz.f125.ntmps⟩:St)) (fun z=>z.1≤N∧(lateS d ((((List.range N).drop z.1).map fun h=>(i,h))++yL i N) z.2.1 z.2.2.1=F.drop z.2.2.2.2.2.1∧z.2.2.2.2.2.1≤F.length∧I z.2.2.2.2.2.1 z.2.2.2.2.2.2.2)∧IntV z.2.1∧BoolV z.2.2.1∧(∀q,0≤zV z.2.1 q∧zV z.2.1 q≤4398046511104+z.2.2.2.2.2.2.1*1073741824)∧z.2.2.2.2.2.2.1+((N-z.1)+(yL i N).length)≤1024) (fun z=>N-z.1) (0,f,U,n1,n2,j,c,τ) (⟨Nat.zero_le _,⟨hI3,hI4,hI5⟩,hI6,hI7,hI8,hI9⟩) (St.le_of zC yY) ?_
  intro z hI
  clear hI3 hI4 hI5 hI6 hI7 hI8 hI9
  obtain⟨u,f,U,n1,n2,j,c,τ⟩:=z
  obtain⟨hJ1,⟨hJ2,hJ3,hJ4⟩,hJ5,hJ6,hJ7,hJ8⟩:=hI
  dsimp only at hJ1 hJ2 hJ3 hJ4 hJ5 hJ6 hJ7 hJ8 ⊢
  by_cases hu:u<N
  rotate_left
  ·obtain rfl:u=N:=by omega
   rw[List.drop_of_length_le (by simp),List.map_nil,List.nil_append]at hJ2
   have hge9:¬ (u:Int)<d.hours:=by omega
   clear hy hC
   refine yW ?_;intros
   exact⟨(i,(i:Int)-1,f,U,n1,n2,j,c,τ),⟨⟨by dsimp only;omega,rfl⟩,⟨hJ2,hJ3,hJ4⟩,hJ5,hJ6,hJ7,by dsimp only;omega⟩,by dsimp only;omega,(St.le_of zC zJ)⟩
  have hlu:(u:Int)<d.hours:=by omega
  rw[qU hu,List.map_cons,List.cons_append]at hJ2
  obtain⟨Q,hQ⟩: ∃Q,Q=(((List.range N).drop (u+1)).map fun h=>(i,h))++yL i N:=⟨_,rfl⟩
  rw[←hQ,lateS]at hJ2
  dsimp only at hJ2
  rw[hx]at hJ2
  dsimp only at hJ2
  have hkf:KFit [false,false] (K2 (i:Int) (u:Int)):=tP (by omega) (by omega)
  have hkf2:KFit [false,false] (K2 x.up ((u:Int)-x.delay)):=tP (by omega) (by omega)
  have hvg:=xZ hJ5 (K2 (i:Int) (u:Int))
  have hub:=tB_getD hJ6 (K2 (i:Int) (u:Int))
  have hbw:=hJ7 (K2 (i:Int) (u:Int))
  obtain⟨w,hw⟩: ∃w,zV f (K2 (i:Int) (u:Int))=w:=⟨_,rfl⟩
  obtain⟨ub,hub2⟩: ∃b,tB U (K2 (i:Int) (u:Int))=b:=⟨_,rfl⟩
  rw[hw]at hvg hbw hJ2
  rw[hub2]at hub hJ2
  clear hw hub2 hx
  repeat' first|(show EX _ _ (Code.seq (Code.region 13 _ _) _) _ _;refine Stuck.out ?_)|(refine vW ?_;intros)|(refine yV ?_ ?_<;>(intro z;cases z with|_ h)<;>intro hp)|exact nl|fail
  all_goals try refine Stuck.mk ?_
  refine ex_joinP (fun(p:Nat×Nat)=>⟨[(0,.fn (.yield yl) [] []),(1,.ptr b2 0),(2,.ptr b1 0),(4,.mp bw),(5,.mp bu),(8,.int .i64 (i:Int)),(9,.ptr b9 0),(10,.int .i64 (u:Nat)),(11,.ptr p.1 0),(12,.ptr p.2 0),(56,.int .i64 d.hours),(57,.int .i64 (u:Nat))],.cells p.1 [.int .i64 i,.int .i64 (u:Nat)] 228::.cells p.2 [.int .i64 x.up,.int .i64 ((u:Int)-x.delay)] 228::.cells b9 (rchC x) 108::.kmap bu [false,false] U n2::.kmap bw [false,false] f n1::τ,[],Tryz.f125.ntmps⟩) ?_ ?_
  ·refine yW ?_;intros
   refine wH (fun e=>e=.cells b9 (rchC x) 108) [10,11,12,13] rfl rfl ?_
   refine uZ ?_;and_intros<;>first|exact nl|intros
   ·rename Nat=>bb;revert bb;rename Nat=>ba;revert ba
    intro ba bb
    refine⟨(ba,bb),_,.swap _ _ _,?_⟩;dsimp only;exact(St.le_of zC zJ)
   ·rename Nat=>bb;revert bb;rename Nat=>ba;revert ba
    intro ba bb
    refine⟨(bb,ba),_,.refl _,?_⟩;dsimp only;exact(St.le_of zC zJ)
  rintro⟨ba,bb⟩
  dsimp only
  cases ub with
  |true=>
   rw[if_pos rfl]at hJ2
   clear hy hC
   repeat' first|(refine xD (.lookup 226 _ _ false) ?_;refine wW rfl rfl rfl (zR (z:=.b false) (k:=K2 (i:Int) (u:Int)) rfl wN wL rfl rfl yP rfl rfl hkf hub rfl) ?_)|(refine xD (.mapUpdate _ _ _ _) ?_;refine yE rfl rfl (wT (k:=K2 x.up ((u:Int)-x.delay)) (v:=.b true) rfl wN wL rfl rfl rfl hkf2 rfl rfl qJ rfl) ?_)|(refine yX ?_;intros)|fail
   exact⟨(u+1,f,xN U (K2 x.up ((u:Int)-x.delay)) (.b true),n1,cntK U (K2 x.up ((u:Int)-x.delay)) n2,j,c,τ),⟨hu,⟨by dsimp only;rw[←hQ];exact hJ2,hJ3,hJ4⟩,hJ5,hJ6.upd _ _,hJ7,by dsimp only;omega⟩,by dsimp only;omega,(St.le_of zC zJ)⟩
  |false=>
   rw[if_neg (by decide)]at hJ2
   by_cases hw0:w=0
   ·rw[if_pos hw0]at hJ2
    subst hw0
    clear hy hC
    repeat' first|(refine xD (.lookup 226 _ _ false) ?_;refine wW rfl rfl rfl (zR (z:=.b false) (k:=K2 (i:Int) (u:Int)) rfl wN wL rfl rfl yP rfl rfl hkf hub rfl) ?_)|(refine xD (.lookup 225 _ _ false) ?_;refine wW rfl rfl rfl (zR (z:=.i 0) (k:=K2 (i:Int) (u:Int)) rfl wN wL rfl rfl yP rfl rfl hkf hvg rfl) ?_)|(refine yX ?_;intros)|(refine yV ?_ ?_<;>(intro z;cases z with|_ h)<;>intro hp)|exact nl|fail
    exact⟨(u+1,f,U,n1,n2,j,c,τ),⟨hu,⟨by dsimp only;rw[←hQ];exact hJ2,hJ3,hJ4⟩,hJ5,hJ6,hJ7,by dsimp only;omega⟩,by dsimp only;omega,(St.le_of zC zJ)⟩
   rw[if_neg hw0]at hJ2
   repeat' first|(refine xD (.lookup 226 _ _ false) ?_;refine wW rfl rfl rfl (zR (z:=.b false) (k:=K2 (i:Int) (u:Int)) rfl wN wL rfl rfl yP rfl rfl hkf hub rfl) ?_)|(refine xD (.lookup 225 _ _ false) ?_;refine wW rfl rfl rfl (zR (z:=.i 0) (k:=K2 (i:Int) (u:Int)) rfl wN wL rfl rfl yP rfl rfl hkf hvg rfl) ?_)|(show EX _ _ (Code.seq (Code.region 19 _ _) _) _ _;refine Stuck.out ?_)|(refine vW ?_;intros)|(refine yV ?_ ?_<;>(intro z;cases z with|_ h)<;>intro hp)|exact nl|cases ‹BV _ _›|fail
   all_goals try refine Stuck.mk ?_
   clear hub hvg
   refine pG (fun(p:{p:Int×Bool//(p.2=true→tZ x w=some (max p.1 x.siphon)∧0≤p.1∧p.1≤1073741824)∧(p.2=false→tZ x w=none)})=>⟨[(0,.fn (.yield yl) [] []),(1,.ptr b2 0),(2,.ptr b1 0),(4,.mp bw),(5,.mp bu),(8,.int .i64 (i:Int)),(9,.ptr b9 0),(10,.int .i64 (u:Nat)),(11,.ptr ba 0),(12,.ptr bb 0),(13,.int .i64 w),(14,.int .i64 p.1.1),(15,.bool p.1.2),(56,.int .i64 d.hours),(57,.int .i64 (u:Nat))],.cells ba [.int .i64 i,.int .i64 (u:Nat)] 228::.cells bb [.int .i64 x.up,.int .i64 ((u:Int)-x.delay)] 228::.cells b9 (rchC x) 108::.kmap bu [false,false] U n2::.kmap bw [false,false] f n1::τ,[],Tryz.f125.ntmps⟩) ?_ ?_
   ·by_cases hw1:w≤1073741824
    ·have hc:=need_c x hok w (by omega)
     have hiN:tZ x w=if uP x w≤1073741824 then some (max (uP x w:Int) x.siphon)else none:=by
      unfold tZ;rw[if_neg hw0,if_neg (by omega)]
     unfold needV at hc
     by_cases hn:uP x w≤1073741824
     ·rw[if_pos hn]at hc hiN
      repeat' first|(apply yQ;exact zD;rfl;rfl;refine zL ?_;exact hc _)|(refine xV ?_;and_intros<;>first|exact nl|intros)|fail
      exact⟨⟨((uP x w:Nat),true),fun _=>⟨hiN,by dsimp only;omega,by dsimp only;omega⟩,fun h=>by cases h⟩,_,.refl _,(St.le_of zC zJ)⟩
     ·rw[if_neg hn]at hc hiN
      repeat' first|(apply yQ;exact zD;rfl;rfl;refine zL ?_;exact hc _)|(refine xV ?_;and_intros<;>first|exact nl|intros)|fail
      exact⟨⟨(_,false),fun h=>(by cases h),fun _=>hiN⟩,_,.refl _,(St.le_of zC zJ)⟩
    ·refine yW ?_;intros
     refine⟨⟨(0,decide (w≤1073741824)),fun h=>absurd (of_decide_eq_true h) hw1,fun _=>by unfold tZ;rw[if_neg hw0,if_pos (by omega)]⟩,_,.refl _,?_⟩;dsimp only;exact(St.le_of zC zJ)
   rintro⟨⟨v,ok⟩,hv1,hv2⟩
   dsimp only at hv1 hv2 ⊢
   have hub3:=tB_getD hJ6 (K2 x.up ((u:Int)-x.delay))
   obtain⟨vb,hvb⟩: ∃b,tB U (K2 x.up ((u:Int)-x.delay))=b:=⟨_,rfl⟩
   rw[hvb]at hub3 hJ2
   by_cases hT:ok=true∧x.delay≤u
   rotate_left
   ·obtain⟨nb,hnb⟩: ∃b,b=(vb||!ok):=⟨_,rfl⟩
    have hJ9:(⟨7,u,i,w,0⟩:Flt)::lateS d Q f (xN U (K2 x.up ((u:Int)-x.delay)) (.b nb))=F.drop j:=by
     rw[←hJ2,hnb]
     cases ok with
     |false=>rw[hv2 rfl,Bool.not_false,Bool.or_true]
     |true=>
      rw[(hv1 rfl).1]
      dsimp only
      rw[if_pos (by have:¬ x.delay≤(u:Int):=fun hh=>hT ⟨rfl,hh⟩;omega),Bool.not_true,Bool.or_false]
    clear hJ2 hvb hv1 hv2
    have hjj:F[j]?=some ⟨7,u,i,w,0⟩:=by
     have:=congrArg (fun m:List Flt=>m[0]?) hJ9
     simpa using this.symm
    have hjd:lateS d Q f (xN U (K2 x.up ((u:Int)-x.delay)) (.b nb))=F.drop (j+1):=by
     have:=congrArg (fun m:List Flt=>m.drop 1) hJ9
     simpa using this
    have hjl:j<F.length:=(List.getElem?_eq_some_iff.1 hjj).1
    have hr:=hy j [fltV ⟨7,u,i,w,0⟩] τ (by rw[List.getElem?_map,hjj];rfl) hJ4
    clear hy hjj hC hJ9
    have hr2:=fun {Za Zb:List AV} {Ta Tb:TypeId} {m1 m2:Nat}=>SRound.front [.cells ba Za Ta,.cells bb Zb Tb,.cells b9 (rchC x) 108,.kmap bu [false,false] (xN U (K2 x.up ((u:Int)-x.delay)) (.b nb)) m1,.kmap bw [false,false] f m2] hr
    simp only[List.cons_append,List.nil_append]at hr2
    have hT2:ok=true→((u:Int)<x.delay):=fun hh=>by
     have:¬ x.delay≤(u:Int):=fun h3=>hT ⟨hh,h3⟩
     omega
    clear hT
    cases ok
    ·clear hT2
     refine yW ?_;intros
     refine ex_drawLK anyK 9 [] rfl (by kernel_rfl) rfl ?_
     simp only[List.take_succ_cons,List.take_zero,List.drop_succ_cons,List.drop_zero]
     cases vb
     ·obtain rfl:nb=true:=hnb
      repeat' first|(refine zB ?_;intros)|(apply zwI;exact zD;rfl;rfl;intro σ' hl;(exact zR (z:=.b false) (k:=K2 x.up ((u:Int)-x.delay)) rfl wN wL rfl rfl yP rfl rfl hkf2 hub3 rfl))|cases ‹BV _ _›|fail
      refine yE rfl rfl (wT (k:=K2 x.up ((u:Int)-x.delay)) (v:=.b true) (r:=.bool true) rfl wN wL rfl rfl rfl hkf2 rfl rfl qJ rfl) ?_
      repeat' first|(refine xD (.call {callee:=.value (.tmp _),args:=_,argTypes:=_}) ?_;refine zK rfl rfl rfl (tX rfl rfl hr2) ?_;rintro _ _ ⟨σ2,rfl,⟨rfl,hs⟩|⟨rfl,hs⟩⟩)|(refine yX ?_;intros)|(refine yV ?_ ?_<;>(intro z;cases z with|_ h)<;>intro hp)|exact nl|fail
      ·exact⟨(u+1,f,xN U (K2 x.up ((u:Int)-x.delay)) (.b true),n1,cntK U (K2 x.up ((u:Int)-x.delay)) n2,j+1,c,σ2),⟨hu,⟨by dsimp only;rw[←hQ];exact hjd,hjl,hs⟩,hJ5,hJ6.upd _ _,hJ7,by dsimp only;omega⟩,by dsimp only;omega,(St.le_of zC zJ)⟩
      ·refine zS (σ3:=σ2) .nil .nil (by repeat (first|exact List.Sublist.refl _|apply List.Sublist.cons)) ?_
       exact zY (.inr hs)
     ·obtain rfl:nb=true:=hnb
      repeat' first|(refine zB ?_;intros)|(apply zwI;exact zD;rfl;rfl;intro σ' hl;(exact zR (z:=.b false) (k:=K2 x.up ((u:Int)-x.delay)) rfl wN wL rfl rfl yP rfl rfl hkf2 hub3 rfl))|(refine xB ?_;intros)|fail
      refine yE rfl rfl (wT (k:=K2 x.up ((u:Int)-x.delay)) (v:=.b true) (r:=.bool true) rfl wN wL rfl rfl rfl hkf2 rfl rfl qJ rfl) ?_
      repeat' first|(refine xD (.call {callee:=.value (.tmp _),args:=_,argTypes:=_}) ?_;refine zK rfl rfl rfl (tX rfl rfl hr2) ?_;rintro _ _ ⟨σ2,rfl,⟨rfl,hs⟩|⟨rfl,hs⟩⟩)|(refine yX ?_;intros)|(refine yV ?_ ?_<;>(intro z;cases z with|_ h)<;>intro hp)|exact nl|fail
      ·exact⟨(u+1,f,xN U (K2 x.up ((u:Int)-x.delay)) (.b true),n1,cntK U (K2 x.up ((u:Int)-x.delay)) n2,j+1,c,σ2),⟨hu,⟨by dsimp only;rw[←hQ];exact hjd,hjl,hs⟩,hJ5,hJ6.upd _ _,hJ7,by dsimp only;omega⟩,by dsimp only;omega,(St.le_of zC zJ)⟩
      ·refine zS (σ3:=σ2) .nil .nil (by repeat (first|exact List.Sublist.refl _|apply List.Sublist.cons)) ?_
       exact zY (.inr hs)
    ·have hT3:=hT2 rfl
     clear hT2
     refine yW ?_;intros
     refine ex_drawLK anyK 9 [] rfl (by kernel_rfl) rfl ?_
     simp only[List.take_succ_cons,List.take_zero,List.drop_succ_cons,List.drop_zero]
     cases vb
     ·obtain rfl:nb=false:=hnb
      repeat' first|(refine zB ?_;intros)|(apply zwI;exact zD;rfl;rfl;intro σ' hl;(exact zR (z:=.b false) (k:=K2 x.up ((u:Int)-x.delay)) rfl wN wL rfl rfl yP rfl rfl hkf2 hub3 rfl))|cases ‹BV _ _›|fail
      refine yE rfl rfl (wT (k:=K2 x.up ((u:Int)-x.delay)) (v:=.b false) (r:=.bool false) rfl wN wL rfl rfl rfl hkf2 rfl rfl qJ rfl) ?_
      repeat' first|(refine xD (.call {callee:=.value (.tmp _),args:=_,argTypes:=_}) ?_;refine zK rfl rfl rfl (tX rfl rfl hr2) ?_;rintro _ _ ⟨σ2,rfl,⟨rfl,hs⟩|⟨rfl,hs⟩⟩)|(refine yX ?_;intros)|(refine yV ?_ ?_<;>(intro z;cases z with|_ h)<;>intro hp)|exact nl|fail
      ·exact⟨(u+1,f,xN U (K2 x.up ((u:Int)-x.delay)) (.b false),n1,cntK U (K2 x.up ((u:Int)-x.delay)) n2,j+1,c,σ2),⟨hu,⟨by dsimp only;rw[←hQ];exact hjd,hjl,hs⟩,hJ5,hJ6.upd _ _,hJ7,by dsimp only;omega⟩,by dsimp only;omega,(St.le_of zC zJ)⟩
      ·refine zS (σ3:=σ2) .nil .nil (by repeat (first|exact List.Sublist.refl _|apply List.Sublist.cons)) ?_
       exact zY (.inr hs)
     ·obtain rfl:nb=true:=hnb
      repeat' first|(refine zB ?_;intros)|(apply zwI;exact zD;rfl;rfl;intro σ' hl;(exact zR (z:=.b false) (k:=K2 x.up ((u:Int)-x.delay)) rfl wN wL rfl rfl yP rfl rfl hkf2 hub3 rfl))|(refine xB ?_;intros)|fail
      refine yE rfl rfl (wT (k:=K2 x.up ((u:Int)-x.delay)) (v:=.b true) (r:=.bool true) rfl wN wL rfl rfl rfl hkf2 rfl rfl qJ rfl) ?_
      repeat' first|(refine xD (.call {callee:=.value (.tmp _),args:=_,argTypes:=_}) ?_;refine zK rfl rfl rfl (tX rfl rfl hr2) ?_;rintro _ _ ⟨σ2,rfl,⟨rfl,hs⟩|⟨rfl,hs⟩⟩)|(refine yX ?_;intros)|(refine yV ?_ ?_<;>(intro z;cases z with|_ h)<;>intro hp)|exact nl|fail
      ·exact⟨(u+1,f,xN U (K2 x.up ((u:Int)-x.delay)) (.b true),n1,cntK U (K2 x.up ((u:Int)-x.delay)) n2,j+1,c,σ2),⟨hu,⟨by dsimp only;rw[←hQ];exact hjd,hjl,hs⟩,hJ5,hJ6.upd _ _,hJ7,by dsimp only;omega⟩,by dsimp only;omega,(St.le_of zC zJ)⟩
      ·refine zS (σ3:=σ2) .nil .nil (by repeat (first|exact List.Sublist.refl _|apply List.Sublist.cons)) ?_
       exact zY (.inr hs)
   ·obtain⟨rfl,hT⟩:=hT
    obtain⟨hv3,hv4,hv5⟩:=hv1 rfl
    rw[hv3]at hJ2
    dsimp only at hJ2
    rw[if_neg (by omega)]at hJ2
    clear hy hC hv1 hv2 hv3 hub3 hvb
    have hb2:=hJ7 (K2 x.up ((u:Int)-x.delay))
    have hs1:=hok.cp
    have hint:=hJ5.add (K2 x.up ((u:Int)-x.delay)) (max v x.siphon)
    have hbd: ∀q,0≤zV (vY f (K2 x.up ((u:Int)-x.delay)) (max v x.siphon)) q∧zV (vY f (K2 x.up ((u:Int)-x.delay)) (max v x.siphon)) q≤4398046511104+((c+1:Nat):Int)*1073741824:=fun q=>by
     have:=hJ7 q
     rw[wD]
     split<;>omega
    have hmx:0≤max v x.siphon∧max v x.siphon≤1073741824:=by omega
    refine yW ?_;intros
    refine yB (fun e=>e=.cells bb [.int .i64 x.up,.int .i64 ((u:Int)-x.delay)] 228∨e=.cells b9 (rchC x) 108) [2,8] 10 rfl (by kernel_rfl) rfl ?_
    simp only[List.take_succ_cons,List.take_zero,List.drop_succ_cons,List.drop_zero]
    repeat' first|(refine zgd ?_;first|(refine xH rfl rfl (zR (z:=.i 0) (k:=K2 x.up ((u:Int)-x.delay)) rfl wN wL rfl rfl yP rfl rfl hkf2 (xZ hJ5 _) rfl) ?_)|(refine yN rfl rfl (wS (z:=.i 0) (k:=K2 x.up ((u:Int)-x.delay)) rfl wN wL rfl rfl rfl rfl hkf2 (fun _=>qJ)) ?_;rintro _ _ ⟨es,clock,e,hE,he,hek⟩;refine⟨zks,?_⟩)|(refine xH rfl rfl (xC (z:=.i 0) (k:=K2 x.up ((u:Int)-x.delay)) rfl wN wL rfl rfl hE yP rfl rfl hkf2 (vH hJ5 _) rfl) ?_))|(refine xD (.entryStore _ _ _ _) ?_;refine yE rfl rfl (xQ (v:=.i _) hE he hek rfl rfl rfl rfl (qJ) (wA _ _ _ _)) ?_)|(refine zB ?_;intros)|(refine xB ?_;intros)|refine vX rfl rfl rfl ?_ ?_|fail
    all_goals
     try rw[uE (show-9223372036854775808≤zV f (K2 x.up ((u:Int)-x.delay))+max v x.siphon∧zV f (K2 x.up ((u:Int)-x.delay))+max v x.siphon≤9223372036854775807 by omega)]
     exact⟨(u+1,vY f (K2 x.up ((u:Int)-x.delay)) (max v x.siphon),U,cntK f (K2 x.up ((u:Int)-x.delay)) n1,n2,j,c+1,τ),⟨hu,⟨by dsimp only;rw[←hQ];exact hJ2,hJ3,hJ4⟩,hint,hJ6,hbd,by dsimp only;omega⟩,by dsimp only;omega,(St.le_of zC zJ)⟩
def uW(f:BkF)(o:Ord'):BkF:=if o.outlet=true then f else xN f (K2 o.index o.hour) (.i o.litres)
def kD(L:List Ord'):BkF:=L.foldl uW (fun _=>none)
def jS(n:Int)(o:Ord'):Int:=if o.outlet=true then n else if o.index=0 then n+o.litres else n
def allF(L:List Ord'):Int:=L.foldl jS 0
def qL(g:BkF)(i:Int)(h:Int):Nat→Int
 |0=>0
 |k+1=>qL g i h k+zV g (K2 i (h-(k:Int)))
def gFlt(x:Rch)(g:BkF)(h i:Int):List Flt:=if x.cap<zV g (K2 i h)then [⟨1,h,i,zV g (K2 i h),x.cap⟩]else []
def bFlt(x:Rch)(g:BkF)(h i:Int):List Flt:=if x.bank<qL g i h x.delay.toNat then [⟨3,h,i,qL g i h x.delay.toNat,x.bank⟩]else []
def tFlt(d:Dis)(n:Int):List Flt:=if d.start<n then [⟨4,0,0,n,d.start⟩]else []
def jV(d:Dis)(g:BkF)(n:Int):List (Nat×Nat)→List Flt
 |[]=>tFlt d n
 |(h,i)::l=>match d.R[i]? with
  |none=>[]
  |some x=>gFlt x g h i++(bFlt x g h i++jV d g n l)
def yK(N R u:Nat):List (Nat×Nat):=((List.range N).drop u).flatMap fun h=>(List.range R).map fun i=>(h,i)
def brokL(d:Dis)(L:List Ord'):List Flt:=jV d (kD L) (allF L) (yK d.hours.toNat d.R.length 0)
def OrdFit(o:Ord'):Prop:=(0≤o.litres∧o.litres≤1073741824)∧(0≤o.index∧o.index≤4096)∧0≤o.hour∧o.hour≤4096
theorem gateF_int: ∀{L:List Ord'} {f:BkF},IntV f→IntV (L.foldl uW f)
 |[],f,h=>h
 |o::L,f,h=>gateF_int (L:=L) (by
  unfold uW
  split
  ·exact h
  ·exact h.upd _ _)
theorem pJ(f:BkF)(k q:List KL)(v:Int):zV (xN f k (.i v)) q=if q=k then v else zV f q:=by
 unfold xN
 by_cases h:q=k
 ·simp[h,zV]
 ·simp[h,zV]
theorem gateF_le: ∀{L:List Ord'} {f:BkF},(∀o∈L,OrdFit o)→(∀q,0≤zV f q∧zV f q≤1073741824)→ ∀q,0≤zV (L.foldl uW f) q∧zV (L.foldl uW f) q≤1073741824
 |[],f,_,h=>h
 |o::L,f,hL,h=>gateF_le (L:=L) (fun o ho=>hL o (by simp[ho])) (fun q=>by
  have h1:=hL o (by simp)
  have h2:=h q
  unfold uW
  split
  ·exact h2
  ·rw[pJ]
   split
   ·exact h1.1
   ·exact h2)
theorem allF_le: ∀{L:List Ord'} {n:Int},(∀o∈L,OrdFit o)→n≤L.foldl jS n∧L.foldl jS n≤n+L.length*1073741824
 |[],n,_=>by simp
 |o::L,n,hL=>by
  have h1:=hL o (by simp)
  have h2:=allF_le (L:=L) (n:=jS n o) (fun o ho=>hL o (by simp[ho]))
  have h3:n≤jS n o∧jS n o≤n+1073741824:=by
   unfold jS
   obtain⟨⟨h3,h4⟩,_⟩:=h1
   split
   ·omega
   ·split<;>omega
  rw[List.foldl_cons,List.length_cons]
  constructor
  ·omega
  ·have:((L.length+1:Nat):Int)=(L.length:Int)+1:=by omega
   omega
theorem loadF_le{g:BkF}(h: ∀q,0≤zV g q∧zV g q≤1073741824)(i t:Int): ∀k:Nat,0≤qL g i t k∧qL g i t k≤k*1073741824
 |0=>by simp[qL]
 |k+1=>by
  have h1:=loadF_le h i t k
  have h2:=h (K2 i (t-(k:Int)))
  unfold qL
  omega
theorem plsFrom_end{N R u:Nat}(h:N≤u):yK N R u=[]:=by
 unfold yK
 rw[List.drop_of_length_le (by simpa using h)]
 rfl
theorem plsFrom_next{N R u:Nat}(h:u<N):yK N R u=((List.range R).map fun i=>(u,i))++yK N R (u+1):=by
 unfold yK
 rw[qU h]
 rfl
theorem broken_c(d:Dis)(out:List Ord')(σ:List Ent):SCall prog 65 [disV d,ords out] σ (fun r τ=> ∃b1 b2,r=.fn (.func 126) [] [.ptr b2 0,.ptr b1 0]∧τ=.cells b2 [ords out] 36::.cells b1 (disC d) 31::σ):=by
 refine zZ func65 rfl (by simp) ?_
 refine yW ?_;intros
 rename Nat=>b2;revert b2;rename Nat=>b1;revert b1
 intro b1 b2
 refine zS (σ3:=.cells b2 [ords out] 36::.cells b1 (disC d) 31::σ) .nil zG zJ ?_
 exact zY ⟨b1,b2,rfl,rfl⟩
open Go.WideMaps
theorem broken1_c(d:Dis)(hd:yZ d=0)(out:List Ord')(hol:out.length≤4096)(hoe: ∀o∈out,OrdFit o)(b1 b2:Nat):
  Yields prog 126 [] [.ptr b2 0,.ptr b1 0] ((brokL d out).map fun f=>[fltV f]) (fun τ=>Ent.cells b2 [ords out] 36∈τ∧Ent.cells b1 (disC d) 31∈τ):=by
 intro yl σ I Stop hC hy h0
 refine zZ func126 rfl (by simp) ?_
 obtain⟨m1,m2⟩:=hC _ _ h0
 have hvv:=(zP hd).2
 have hR:=(yC (zP hd).1).1
 have hH:=xF hvv
 have hst: -9223372036854775808≤d.start∧d.start≤9223372036854775807:=by
  have hv:=hvv
  unfold yD tY at hv
  simp[vS]at hv
  omega
 have hbd: ∀k,∀q,0≤zV (kD (out.take k)) q∧zV (kD (out.take k)) q≤1073741824:=fun k=>gateF_le (L:=out.take k) (fun o ho=>hoe o (List.mem_of_mem_take ho)) (fun q=>by simp[zV])
 have hint: ∀k,IntV (kD (out.take k)):=fun k=>gateF_int (fun k x h=>by cases h)
 have hall: ∀k,0≤allF (out.take k)∧allF (out.take k)≤4398046511104:=fun k=>by
  have h1:=allF_le (L:=out.take k) (n:=0) (fun o ho=>hoe o (List.mem_of_mem_take ho))
  rw[List.length_take]at h1
  unfold allF
  omega
 clear hd
 repeat' first|(refine xD (.makeMap _ _) ?_;refine tD [false,false] rfl rfl rfl (vE [false,false]) ?_;intro bm)|(refine yX ?_;intros)|fail
 rename Nat=>bw;revert bw
 intro bw
 refine zU (fun(z:Nat×Nat)=>(⟨[(0,.fn (.yield yl) [] []),(1,.ptr b2 0),(2,.ptr b1 0),(4,.mp bw),(5,.int .i64 (allF (out.take z.1))),(15,ords out),(16,.int .i64 out.length),(17,.int .i64 (z.1:Nat))],.kmap bw [false,false] (kD (out.take z.1)) z.2::σ,[],f126.ntmps⟩:St)) (fun z=>z.1≤out.length) (fun z=>out.length-z.1) (0,0) (Nat.zero_le _) (St.le_of zC yY) ?_
 intro z hI
 obtain⟨k,n⟩:=z
 dsimp only at hI ⊢
 by_cases hk:k<out.length
 ·obtain⟨o,ho⟩:=zH hk
  have go:=ord_get ho
  obtain⟨e1,e2,e3,e4⟩:=hoe o (List.mem_of_getElem? ho)
  have hnx:kD (out.take (k+1))=uW (kD (out.take k)) o:=by
   unfold kD
   rw[List.take_add_one,ho]
   simp
  have hna:allF (out.take (k+1))=jS (allF (out.take k)) o:=by
   unfold allF
   rw[List.take_add_one,ho]
   simp
  have hfi:=hint k
  have hal:=hall k
  have hal2:=hall (k+1)
  clear hint hbd hoe ho hC hy h0 hall
  obtain⟨oh,oi,ol,ob⟩:=o
  dsimp only[uW,jS]at e1 e2 e3 e4 hnx hna
  rw[hna]at hal2
  generalize kD (out.take k)=f at hnx hfi ⊢
  generalize allF (out.take k)=al at hna hal hal2 ⊢
  have hkf:KFit [false,false] (K2 oi oh):=tP (by omega) (by omega)
  cases ob with
  |true=>
   rw[if_pos rfl]at hnx hna
   clear hal2
   refine yW ?_;intros
   exact⟨(k+1,n),hk,by dsimp only;omega,by dsimp only;rw[hnx,hna];exact(St.le_of zC zJ)⟩
  |false=>
   rw[if_neg (by decide)]at hnx hna hal2
   by_cases ho0:oi=0
   ·rw[if_pos ho0]at hna hal2
    repeat' first|(refine xD (.mapUpdate _ _ _ _) ?_;refine yE rfl rfl (wT (k:=K2 oi oh) (v:=.i ol) rfl wN wL rfl rfl rfl hkf rfl rfl qJ rfl) ?_)|(refine yX ?_;intros)|(refine yV ?_ ?_<;>(intro z;cases z with|_ h)<;>intro hp)|exact nl|fail
    rw[uE (show-9223372036854775808≤al+ol∧al+ol≤9223372036854775807 by omega)]
    exact⟨(k+1,cntK f (K2 oi oh) n),hk,by dsimp only;omega,by dsimp only;rw[hnx,hna];exact(St.le_of zC zJ)⟩
   ·rw[if_neg ho0]at hna hal2
    repeat' first|(refine xD (.mapUpdate _ _ _ _) ?_;refine yE rfl rfl (wT (k:=K2 oi oh) (v:=.i ol) rfl wN wL rfl rfl rfl hkf rfl rfl qJ rfl) ?_)|(refine yX ?_;intros)|(refine yV ?_ ?_<;>(intro z;cases z with|_ h)<;>intro hp)|exact nl|fail
    exact⟨(k+1,cntK f (K2 oi oh) n),hk,by dsimp only;omega,by dsimp only;rw[hnx,hna];exact(St.le_of zC zJ)⟩
 obtain rfl:k=out.length:=by omega
 have hb0:=hbd out.length
 have hi0:=hint out.length
 have ha0:=hall out.length
 rw[List.take_length]at hb0 hi0 ha0 ⊢
 have hH1:1≤d.hours:=by
  have hv:=hvv
  unfold yD tY at hv
  simp[vS]at hv
  omega
 obtain⟨N,hN⟩: ∃N:Nat,d.hours=N:=⟨d.hours.toNat,by omega⟩
 unfold brokL at hy ⊢
 rw[hN,Int.toNat_natCast]at hy ⊢
 generalize kD out=g at hb0 hi0 hy ⊢
 generalize allF out=al at ha0 hy ⊢
 obtain⟨F,hF2⟩: ∃F,F=jV d g al (yK N d.R.length 0):=⟨_,rfl⟩
 rw[←hF2]at hy ⊢
 clear hint hbd hoe hall
 refine yW ?_;intros
 refine zU (fun(z:Nat×Nat×List Ent)=>(⟨[(0,.fn (.yield yl) [] []),(1,.ptr b2 0),(2,.ptr b1 0),(4,.mp bw),(5,.int .i64 al),(41,.int .i64 d.hours),(42,.int .i64 (z.1:Nat))],.kmap bw [false,false] g n::z.2.2,[],f126.ntmps⟩:St)) (fun z=>z.1≤N∧(jV d g al (yK N d.R.length z.1)=F.drop z.2.1∧z.2.1≤F.length∧I z.2.1 z.2.2)) (fun z=>N-z.1) (0,0,σ) (⟨Nat.zero_le _,by dsimp only;rw[←hF2];rfl,Nat.zero_le _,h0⟩) (St.le_of zC yY) ?_
 intro z hI
 obtain⟨u,j,τ⟩:=z
 obtain⟨hI2,hI3,hI4,hI5⟩:=hI
 dsimp only at hI2 hI3 hI4 hI5 ⊢
 clear m1 m2 h0 hF2
 obtain⟨m1,m2⟩:=hC _ _ hI5
 by_cases hu:u<N
 rotate_left
 ·obtain rfl:u=N:=by omega
  have hge9:¬ (u:Int)<d.hours:=by omega
  rw[plsFrom_end (Nat.le_refl _)]at hI3
  unfold jV tFlt at hI3
  by_cases ht:d.start<al
  ·rw[if_pos ht]at hI3
   have hjj:F[j]?=some ⟨4,0,0,al,d.start⟩:=by
    have:=congrArg (fun m:List Flt=>m[0]?) hI3
    simpa using this.symm
   have hjl:F.length=j+1:=by
    have:=congrArg List.length hI3
    simp at this
    omega
   have hr:=hy j [fltV ⟨4,0,0,al,d.start⟩] τ (by rw[List.getElem?_map,hjj];rfl) hI5
   have hr2:=SRound.front [.kmap bw [false,false] g n] hr
   simp only[List.cons_append,List.nil_append]at hr2
   clear hr hy hC
   repeat' first|(refine xD (.call {callee:=.value (.tmp _),args:=_,argTypes:=_}) ?_;refine zK rfl rfl rfl (tX rfl rfl hr2) ?_;rintro _ _ ⟨σ2,rfl,⟨rfl,hs⟩|⟨rfl,hs⟩⟩)|(refine yX ?_;intros)|(refine yV ?_ ?_<;>(intro z;cases z with|_ h)<;>intro hp)|exact nl|fail
   ·refine zS (σ3:=σ2) .nil zG zJ ?_
    exact zY (.inl (by rw[List.length_map,hjl];exact hs))
   ·refine zS (σ3:=σ2) .nil zG zJ ?_
    exact zY (.inr hs)
  ·rw[if_neg ht]at hI3
   have hj:j=F.length:=by
    have:=List.drop_eq_nil_iff.1 hI3.symm
    omega
   clear hy hC
   refine yW ?_;intros
   refine zS (σ3:=τ) .nil zG zJ ?_
   exact zY (.inl (by rw[List.length_map,←hj];exact hI5))
 have hlu:(u:Int)<d.hours:=by omega
 rw[plsFrom_next hu]at hI3
 obtain⟨Q0,hQ0⟩: ∃Q,Q=yK N d.R.length (u+1):=⟨_,rfl⟩
 rw[←hQ0]at hI3
 have hRl:(d.R.map rchC).length=d.R.length:=List.length_map _
 refine yW ?_;intros
 clear m1 m2
 refine zU (fun(z:Nat×Nat×List Ent)=>(⟨[(0,.fn (.yield yl) [] []),(1,.ptr b2 0),(2,.ptr b1 0),(4,.mp bw),(5,.int .i64 al),(8,.int .i64 (u:Nat)),(41,.int .i64 d.hours),(42,.int .i64 (u:Nat)),(46,rchs d.R),(47,.int .i64 d.R.length),(48,.int .i64 (z.1:Nat))],.kmap bw [false,false] g n::z.2.2,[],f126.ntmps⟩:St)) (fun z=>z.1≤d.R.length∧(jV d g al ((((List.range d.R.length).drop z.1).map fun i=>(u,i))++Q0)=F.drop z.2.1∧z.2.1≤F.length∧I z.2.1 z.2.2)) (fun z=>d.R.length-z.1) (0,j,τ) (⟨Nat.zero_le _,hI3,hI4,hI5⟩) (St.le_of zC yY) ?_
 intro z hI
 clear hI3 hI4 hI5
 obtain⟨i,j,τ⟩:=z
 obtain⟨hJ1,hJ2,hJ3,hJ4⟩:=hI
 dsimp only at hJ1 hJ2 hJ3 hJ4 ⊢
 by_cases hi:i<d.R.length
 rotate_left
 ·obtain rfl:i=d.R.length:=by omega
  rw[List.drop_of_length_le (by simp),List.map_nil,List.nil_append]at hJ2
  clear hy hC
  refine yW ?_;intros
  exact⟨(u+1,j,τ),⟨hu,by dsimp only;rw[←hQ0];exact hJ2,hJ3,hJ4⟩,by dsimp only;omega,(St.le_of zC zJ)⟩
 rw[qU hi,List.map_cons,List.cons_append]at hJ2
 obtain⟨Q,hQ⟩: ∃Q,Q=(((List.range d.R.length).drop (i+1)).map fun i=>(u,i))++Q0:=⟨_,rfl⟩
 obtain⟨x,hx⟩:=zH hi
 have gx:(d.R.map rchC)[i]?=some (rchC x):=by rw[List.getElem?_map,hx];rfl
 rw[←hQ,jV]at hJ2
 rw[hx]at hJ2
 dsimp only at hJ2
 have hok:=RchOk.of (yA hvv hx)
 have hdl:=hok.dl
 obtain⟨D,hD⟩: ∃D:Nat,x.delay=D:=⟨x.delay.toNat,by omega⟩
 unfold bFlt at hJ2
 rw[hD,Int.toNat_natCast]at hJ2
 have hll:=fun k=>loadF_le hb0 (i:Int) (u:Int) k
 have hkf: ∀k:Nat,k≤16→KFit [false,false] (K2 (i:Int) ((u:Int)-(k:Int))):=fun k hk=>tP (by omega) (by omega)
 have hkf0:KFit [false,false] (K2 (i:Int) (u:Int)):=tP (by omega) (by omega)
 refine yW ?_;intros
 rename Nat=>b9;revert b9
 intro b9
 refine zU (fun(z:Nat)=>(⟨[(0,.fn (.yield yl) [] []),(1,.ptr b2 0),(2,.ptr b1 0),(4,.mp bw),(5,.int .i64 al),(8,.int .i64 (u:Nat)),(9,.int .i64 (i:Nat)),(10,.ptr b9 0),(11,.int .i64 (qL g i u z)),(41,.int .i64 d.hours),(42,.int .i64 (u:Nat)),(46,rchs d.R),(47,.int .i64 d.R.length),(48,.int .i64 (i:Nat)),(54,.int .i64 x.delay),(55,.int .i64 (z:Nat))],.cells b9 (rchC x) 108::.kmap bw [false,false] g n::τ,[],f126.ntmps⟩:St)) (fun z=>z≤D) (fun z=>D-z) 0 (Nat.zero_le _) (St.le_of zC yY) ?_
 intro z hI
 by_cases hz:z<D
 ·have hlz:(z:Int)<x.delay:=by omega
  have hvg:=xZ hi0 (K2 (i:Int) ((u:Int)-(z:Int)))
  have hb1:=hb0 (K2 (i:Int) ((u:Int)-(z:Int)))
  have hl1:=hll z
  have hkz:=hkf z (by omega)
  have hn1:qL g i u (z+1)=qL g i u z+zV g (K2 i ((u:Int)-(z:Int))):=rfl
  clear hy hC hJ2 hb0 hll hkf
  repeat' first|(refine xD (.lookup _ _ _ false) ?_;refine wW rfl rfl rfl (zR (z:=.i 0) (k:=K2 (i:Int) ((u:Int)-(z:Int))) rfl wN wL rfl rfl yP rfl rfl hkz hvg rfl) ?_)|(refine yX ?_;intros)|(refine yV ?_ ?_<;>(intro z;cases z with|_ h)<;>intro hp)|exact nl|fail
  exact⟨z+1,hz,by omega,by rw[hn1];exact(St.le_of zC zJ)⟩
 obtain rfl:z=D:=by omega
 have hge9:¬ (z:Int)<x.delay:=by omega
 have hvg:=xZ hi0 (K2 (i:Int) (u:Int))
 have hl1:=hll z
 have hb1:=hb0 (K2 (i:Int) (u:Int))
 obtain⟨ld,hld⟩: ∃m,qL g i u z=m:=⟨_,rfl⟩
 unfold gFlt at hJ2
 rw[hld]at hJ2 hl1 ⊢
 clear hll hkf hD
 obtain⟨v,hv⟩: ∃v,zV g (K2 (i:Int) (u:Int))=v:=⟨_,rfl⟩
 rw[hv]at hJ2 hvg hb1
 repeat' first|(refine xD (.lookup _ _ _ false) ?_;refine wW rfl rfl rfl (zR (z:=.i 0) (k:=K2 (i:Int) (u:Int)) rfl wN wL rfl rfl yP rfl rfl hkf0 hvg rfl) ?_)|(show EX _ _ (Code.seq (Code.region 22 _ _) _) _ _;refine Stuck.out ?_)|(refine vW ?_;intros)|(refine yV ?_ ?_<;>(intro z;cases z with|_ h)<;>intro hp)|exact nl|fail
 all_goals try refine Stuck.mk ?_
 refine pG (fun(p:{p:Nat×List Ent//(if x.bank<ld then [⟨3,u,i,ld,x.bank⟩]else [])++jV d g al Q=F.drop p.1∧p.1≤F.length∧I p.1 p.2})=>⟨[(0,.fn (.yield yl) [] []),(1,.ptr b2 0),(2,.ptr b1 0),(4,.mp bw),(5,.int .i64 al),(8,.int .i64 (u:Nat)),(9,.int .i64 (i:Nat)),(10,.ptr b9 0),(11,.int .i64 ld),(41,.int .i64 d.hours),(42,.int .i64 (u:Nat)),(46,rchs d.R),(47,.int .i64 d.R.length),(48,.int .i64 (i:Nat))],.cells b9 (rchC x) 108::.kmap bw [false,false] g n::p.1.2,[],f126.ntmps⟩) ?_ ?_
 ·by_cases hg:x.cap<v
  ·rw[if_pos hg]at hJ2
   have hjj:F[j]?=some ⟨1,u,i,v,x.cap⟩:=by
    have:=congrArg (fun m:List Flt=>m[0]?) hJ2
    simpa using this.symm
   have hjd:(if x.bank<ld then [⟨3,u,i,ld,x.bank⟩]else [])++jV d g al Q=F.drop (j+1):=by
    have:=congrArg (fun m:List Flt=>m.drop 1) hJ2
    simpa using this
   have hjl:j<F.length:=(List.getElem?_eq_some_iff.1 hjj).1
   have hr:=hy j [fltV ⟨1,u,i,v,x.cap⟩] τ (by rw[List.getElem?_map,hjj];rfl) hJ4
   have hr2:=SRound.front [.cells b9 (rchC x) 108,.kmap bw [false,false] g n] hr
   simp only[List.cons_append,List.nil_append]at hr2
   clear hr hy hC hJ2 hjj
   repeat' first|(refine xD (.call {callee:=.value (.tmp _),args:=_,argTypes:=_}) ?_;refine uC rfl rfl rfl rfl (tX rfl rfl hr2) ?_;rintro _ _ ⟨σ2,rfl,⟨rfl,hs⟩|⟨rfl,hs⟩⟩)|(refine yX ?_;intros)|(refine yV ?_ ?_<;>(intro z;cases z with|_ h)<;>intro hp)|exact nl|fail
   ·exact⟨⟨(j+1,σ2),hjd,hjl,hs⟩,_,.refl _,(St.le_of zC zJ)⟩
   ·refine zS (σ3:=σ2) .nil .nil (by repeat (first|exact List.Sublist.refl _|apply List.Sublist.cons)) ?_
    exact zY (.inr hs)
  ·rw[if_neg hg,List.nil_append]at hJ2
   clear hy hC
   refine yW ?_;intros
   exact⟨⟨(j,τ),hJ2,hJ3,hJ4⟩,_,.refl _,(St.le_of zC zJ)⟩
 clear hJ2 hJ3 hJ4 hvg
 rintro⟨⟨j,τ⟩,hJ2,hJ3,hJ4⟩
 dsimp only at hJ2 hJ3 hJ4 ⊢
 by_cases hg:x.bank<ld
 ·rw[if_pos hg]at hJ2
  have hjj:F[j]?=some ⟨3,u,i,ld,x.bank⟩:=by
   have:=congrArg (fun m:List Flt=>m[0]?) hJ2
   simpa using this.symm
  have hjd:jV d g al Q=F.drop (j+1):=by
   have:=congrArg (fun m:List Flt=>m.drop 1) hJ2
   simpa using this
  have hjl:j<F.length:=(List.getElem?_eq_some_iff.1 hjj).1
  have hr:=hy j [fltV ⟨3,u,i,ld,x.bank⟩] τ (by rw[List.getElem?_map,hjj];rfl) hJ4
  have hr2:=SRound.front [.cells b9 (rchC x) 108,.kmap bw [false,false] g n] hr
  simp only[List.cons_append,List.nil_append]at hr2
  clear hr hy hC hJ2 hjj
  repeat' first|(refine xD (.call {callee:=.value (.tmp _),args:=_,argTypes:=_}) ?_;refine uC rfl rfl rfl rfl (tX rfl rfl hr2) ?_;rintro _ _ ⟨σ2,rfl,⟨rfl,hs⟩|⟨rfl,hs⟩⟩)|(refine yX ?_;intros)|(refine yV ?_ ?_<;>(intro z;cases z with|_ h)<;>intro hp)|exact nl|fail
  ·exact⟨(i+1,j+1,σ2),⟨hi,by dsimp only;rw[←hQ];exact hjd,hjl,hs⟩,by dsimp only;omega,(St.le_of zC zJ)⟩
  ·refine zS (σ3:=σ2) .nil .nil (by repeat (first|exact List.Sublist.refl _|apply List.Sublist.cons)) ?_
   exact zY (.inr hs)
 ·rw[if_neg hg,List.nil_append]at hJ2
  clear hy hC
  refine yW ?_;intros
  exact⟨(i+1,j,τ),⟨hi,by dsimp only;rw[←hQ];exact hJ2,hJ3,hJ4⟩,by dsimp only;omega,(St.le_of zC zJ)⟩
end Go.Proofs.YtaoaafdommlhcaaGreat

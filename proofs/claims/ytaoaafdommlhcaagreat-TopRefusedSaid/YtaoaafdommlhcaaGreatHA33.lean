/- Parts of the proof that belong together: Jf Jg Jh Ji. -/
import Derived.Test.YtaoaafdommlhcaaGreatHA07
import Derived.Test.YtaoaafdommlhcaaGreatHA11
import Derived.Test.YtaoaafdommlhcaaGreatHA32
set_option maxRecDepth 10000
set_option maxHeartbeats 32000000
set_option linter.unusedSimpArgs false
set_option linter.unusedVariables false
set_option autoImplicit false
open Go.Proofs.Tryz
namespace Go.Proofs.YtaoaafdommlhcaaGreat
open Go.Shelf Go.Sort Go.RowKit Go.WideMaps
theorem prc_get{l:List Prc}{k:Nat}{x:Prc}(h:l[k]?=some x):(l.map prcC)[k]?=some (prcC x):=by rw[List.getElem?_map,h];rfl
def upR(d:Dis)(p:Prc):Int:=match d.R[p.reach.toNat]? with|some x=>x.up|none=>0
def dlR(d:Dis)(p:Prc):Int:=match d.R[p.reach.toNat]? with|some x=>x.delay|none=>0
def belS(d:Dis)(f:Flt):List Prc→BkF→List Prc
 |[],_=>[]
 |p::l,S=>if (seedB d f p||tB S (K2 (upR d p) p.hour))=true then p::belS d f l (xN S (K2 p.reach (p.hour+dlR d p)) (.b true))else belS d f l S
def belL(d:Dis)(f:Flt)(L:List Prc):List Prc:=xA pR (belS d f L.reverse (fun _=>none))
theorem pW(d:Dis)(f:Flt): ∀(l:List Prc) (S:BkF),(belS d f l S).Sublist l
 |[],_=>.slnil
 |p::l,S=>by
  unfold belS
  split
  ·exact(pW d f l _).cons_cons _
  ·exact(pW d f l _).cons _
def backX(L:List Prc):List (List AV):=(List.range L.length).map fun j=>match L[L.length-1-j]? with|some p=>[.int .i64 ((L.length-1-j:Nat):Int),prcV p]|none=>[]
theorem backX_get{L:List Prc}{j:Nat}(h:j<L.length): ∃p,L[L.length-1-j]?=some p∧L.reverse[j]?=some p∧(backX L)[j]?=some [.int .i64 ((L.length-1-j:Nat):Int),prcV p]:=by
 obtain⟨p,hp⟩:=zH (l:=L) (k:=L.length-1-j) (by omega)
 refine⟨p,hp,?_,?_⟩
 ·rw[List.getElem?_reverse h,hp]
 ·unfold backX
  rw[List.getElem?_map,List.getElem?_range h]
  simp only[Option.map_some,hp]
theorem backX_len(L:List Prc):(backX L).length=L.length:=by unfold backX;simp
theorem back1_c(L:List Prc)(hL:L.length≤100000)(b:Nat):Yields prog 129 [] [.ptr b 0] (backX L) (fun τ=>Ent.cells b [prcs L] 46∈τ):=by
 intro yl σ I Stop hC hy h0
 refine zZ func129 rfl (by simp) ?_
 have m1:=hC _ _ h0
 rw[backX_len]
 have hLm:(L.map prcC).length=L.length:=List.length_map _
 refine yW ?_;intros
 refine zU (fun(z:Nat×Int×List Ent)=>(⟨[(0,.fn (.yield yl) [] []),(1,.ptr b 0),(3,.int .i64 z.2.1)],z.2.2,[],Tryz.f129.ntmps⟩:St)) (fun z=>z.1≤L.length∧z.2.1=(L.length:Int)-1-z.1∧I z.1 z.2.2) (fun z=>L.length-z.1) (0,(L.length:Int)-1,σ) (⟨Nat.zero_le _,by dsimp only;omega,h0⟩) (St.le_of zC yY) ?_
 intro z hI
 obtain⟨j,r,τ⟩:=z
 obtain⟨hI1,hI2,hI3⟩:=hI
 dsimp only at hI1 hI2 hI3 ⊢
 clear m1 h0
 have m1:=hC _ _ hI3
 by_cases hj:j<L.length
 ·obtain⟨p,hp1,_,hp2⟩:=backX_get hj
  have gp:=prc_get hp1
  obtain rfl:r=((L.length-1-j:Nat):Int):=by omega
  have hr:=hy j _ τ hp2 hI3
  clear hy hC hp2 hp1
  generalize hi:L.length-1-j=i at *
  repeat' first|(refine xD (.call {callee:=.value (.tmp _),args:=_,argTypes:=_}) ?_;refine zK rfl rfl rfl (tX rfl rfl hr) ?_;rintro _ σ2 (⟨rfl,hs⟩|⟨rfl,hs⟩))|(refine yX ?_;intros)|(refine yV ?_ ?_<;>(intro z;cases z with|_ h)<;>intro hp)|exact nl|fail
  ·exact⟨(j+1,(i:Int)-1,σ2),⟨hj,by dsimp only;omega,hs⟩,by dsimp only;omega,(St.le_of zC zJ)⟩
  ·refine zS (σ3:=σ2) .nil zG zJ ?_
   exact zY (.inr hs)
 ·obtain rfl:j=L.length:=by omega
  have hr0:r<0:=by omega
  clear hy hC
  refine yW ?_;intros
  refine zS (σ3:=τ) .nil zG zJ ?_
  exact zY (.inl hI3)
theorem back_c(L:List Prc)(σ:List Ent):SCall prog 75 [prcs L] σ (fun r τ=> ∃b,r=.fn (.func 129) [] [.ptr b 0]∧τ=.cells b [prcs L] 46::σ):=by
 refine zZ func75 rfl (by simp) ?_
 refine yW ?_;intros
 rename Nat=>b1;revert b1
 intro b1
 refine zS (σ3:=.cells b1 [prcs L] 46::σ) .nil zG zJ ?_
 exact zY ⟨b1,rfl,rfl⟩
theorem belongs_c(d:Dis)(hR:d.R.length≤64)(C:List Clm)(f:Flt)(hf:0≤f.hour∧f.hour≤4096)(L:List Prc)(hL:L.length≤1024)(hLf: ∀p∈L,PrcFit d p)(hinj: ∀a∈L,∀b∈L,pR a=pR b→a=b)(σ:List Ent):
  SCall prog 28 [scnV d C,prcs L,fltV f] σ (Is (prcs (belL d f L)) σ):=by
 refine zZ func28 rfl (by simp) ?_
 refine xX 110 4 ?_
 repeat' first|(refine xD (.makeMap _ _) ?_;refine tD [false,false] rfl rfl rfl (vE [false,false]) ?_;intro bm)|(show EX _ _ (Code.seq (Code.region 5 _ _) _) _ _;refine Stuck.out ?_)|(refine vW ?_;intros)|fail
 all_goals try refine Stuck.mk ?_
 rename Nat=>b10;revert b10;rename Nat=>b9;revert b9;rename Nat=>bs;revert bs;rename Nat=>b8;revert b8;rename Nat=>b7;revert b7;rename Nat=>b5;revert b5;rename Nat=>b3;revert b3
 intro b3 b5 b7 b8 bs b9 b10
 refine yS (s':=⟨[(1,prcs L),(3,.ptr b3 0),(5,.ptr b5 0),(7,.ptr b7 0),(8,.ptr b8 0),(9,.ptr b9 0),(10,.ptr b10 0)],.cells b10 [.slv nilS] 46::.cells b9 [.mp bs] 164::.kmap bs [false,false] (fun _=>none) 0::.cells b8 [.fn (.func 74) [] [.ptr b5 0,.ptr b7 0]] 163::.cells b7 [rchs d.R] 24::.cells b5 (fltC f) 73::.cells b3 (scnC d C) 77::.row nilS 110 4 (([]:List Prc).map prcC)::σ,[],Tryz.f28.ntmps⟩) (St.le_of zC yY) ?_
 have cb:=fun σ=>back_c L σ
 have hY:=fun b=>back1_c L (by omega) b
 have hbx:=fun j=>backX_get (L:=L) (j:=j)
 have hbl:=backX_len L
 have hbs:=(pW d f L.reverse (fun _=>none)).length_le
 rw[List.length_reverse]at hbs
 have hZi: ∀a∈belS d f L.reverse (fun _=>none),∀b∈belS d f L.reverse (fun _=>none),pR a=pR b→a=b:=fun a ha b hb=>hinj a (by simpa using(pW d f L.reverse _).subset ha) b (by simpa using(pW d f L.reverse _).subset hb)
 unfold belL
 obtain⟨Z,hZ⟩: ∃Z,Z=belS d f L.reverse (fun _=>none):=⟨_,rfl⟩
 rw[←hZ]at hZi hbs ⊢
 clear hinj
 repeat' first|(refine xD (.call {callee:=.value (.func 75),args:=_,argTypes:=_}) ?_;refine zK rfl rfl rfl (zQ rfl rfl (zX (by kernel_rfl)) (cb _)) ?_;rintro _ _ ⟨b,rfl,rfl⟩)|(refine yX ?_;intros)|fail
 rename Nat=>bL;revert bL
 intro bL
 clear cb
 have hY:=hY bL
 refine yS (s':=⟨[(3,.ptr b3 0),(5,.ptr b5 0),(7,.ptr b7 0),(8,.ptr b8 0),(9,.ptr b9 0),(10,.ptr b10 0),(19,.fn (.func 129) [] [.ptr bL 0])],.cells bL [prcs L] 46::.cells b10 [.slv nilS] 46::.cells b9 [.mp bs] 164::.kmap bs [false,false] (fun _=>none) 0::.cells b8 [.fn (.func 74) [] [.ptr b5 0,.ptr b7 0]] 163::.cells b7 [rchs d.R] 24::.cells b5 (fltC f) 73::.cells b3 (scnC d C) 77::.row nilS 110 4 (([]:List Prc).map prcC)::σ,[],Tryz.f28.ntmps⟩) (St.le_of zC yY) ?_
 refine pY rfl (zX (by kernel_rfl)) ?_
 intro D l0 fn
 show SCall _ _ _ (Ent.loop _ _ _ _ ?ee ?nn ?ps ?asg ?body _::_) _
 obtain⟨Lp,hLp⟩: ∃L,L=Ent.loop l0 .ready none fn ?ee ?nn ?ps ?asg ?body D:=⟨_,rfl⟩
 rw[←hLp]
 refine SCall.mono (hY l0 _ (fun k τ=> ∃v S n acc,(acc++belS d f (L.reverse.drop k) S=Z∧BoolV S∧acc.length≤k)∧τ=Lp::.obj D (.deferred (some []))::.cells bL [prcs L] 46::.cells b10 [.slv v] 46::.cells b9 [.mp bs] 164::.kmap bs [false,false] S n::.cells b8 [.fn (.func 74) [] [.ptr b5 0,.ptr b7 0]] 163::.cells b7 [rchs d.R] 24::.cells b5 (fltC f) 73::.cells b3 (scnC d C) 77::.row v 110 4 (acc.map prcC)::σ) (fun _=>False) ?_ ?_ ⟨nilS,_,0,[],⟨by rw[hZ];rfl,(fun k x h=>by cases h),Nat.le_refl _⟩,rfl⟩) ?_
 ·rintro k τ ⟨v,S,n,acc,_,rfl⟩
  simp
 ·rintro k x τ hx ⟨v,S,n,acc,⟨h1,h2,h3⟩,rfl⟩
  have hk:k<L.length:=by rw[←hbl];exact(List.getElem?_eq_some_iff.1 hx).1
  obtain⟨p,hp1,hp2,hp3⟩:=hbx k hk
  rw[hp3]at hx
  cases hx
  have hpf:=hLf p (List.mem_of_getElem? hp1)
  have cs:=fun {σ:List Ent} (h1:Ent.cells b5 (fltC f) 73∈σ) (h2:Ent.cells b7 [rchs d.R] 24∈σ)=>seed_c d f hf p hpf h1 h2
  rw[wZ hp2,belS]at h1
  obtain⟨i,y,e1,hy,⟨hd1,hd2⟩,⟨hu1,hu2⟩,hh1,hh2⟩:=hpf
  have hil:=qZ hy
  have gy:(d.R.map rchC)[i]?=some (rchC y):=by rw[List.getElem?_map,hy];rfl
  have hdl:dlR d p=y.delay:=by unfold dlR;rw[e1,Int.toNat_natCast,hy]
  have hup:upR d p=y.up:=by unfold upR;rw[e1,Int.toNat_natCast,hy]
  rw[hdl,hup]at h1
  have hub:=tB_getD h2 (K2 y.up p.hour)
  generalize tB S (K2 y.up p.hour)=sb at h1 hub
  generalize seedB d f p=qb at h1 cs
  have hkf:KFit [false,false] (K2 y.up p.hour):=tP (by omega) (by omega)
  have hkf2:KFit [false,false] (K2 p.reach (p.hour+y.delay)):=tP (by omega) (by omega)
  clear hbx hY hLf hZi hp1 hp2 hp3 hy hdl hup hZ hbs hbl
  have hacm:(acc.map prcC).length=acc.length:=List.length_map _
  have hmp:acc.map prcC++[prcC p]=(acc++[p]).map prcC:=by simp
  obtain⟨pr,ph,pl,pw⟩:=p
  dsimp only at e1 hh1 hh2 hkf hkf2 h1 hub
  subst e1
  generalize L.length-1-k=kk
  rw[hLp]
  refine SRound.sub ?_
  refine sround yP rfl (by decide) ?_
  refine yW ?_;intros
  refine wH anyK [] rfl rfl ?_
  cases qb
  ·cases sb
   ·rw[if_neg (by decide)]at h1
    repeat' first|(refine zB ?_;intros)|(apply zvI;exact zD;rfl;intro σ' hl;first|((exact zQ rfl rfl (zX (by kernel_rfl)) (cs yP yP)))|((exact zR (z:=.b false) (k:=K2 y.up ph) rfl yU yT rfl rfl yP rfl rfl hkf hub rfl)))|fail
    subst hLp
    exact⟨_,.cons _ (List.Sublist.refl _),.inl ⟨rfl,v,S,n,acc,⟨h1,h2,by omega⟩,rfl⟩⟩
   ·rw[if_pos (show (false||true)=true from rfl)]at h1
    repeat' first|(refine zB ?_;intros)|(apply zvI;exact zD;rfl;intro σ' hl;first|((exact zQ rfl rfl (zX (by kernel_rfl)) (cs yP yP)))|((exact zR (z:=.b false) (k:=K2 y.up ph) rfl yU yT rfl rfl yP rfl rfl hkf hub rfl)))|fail
    refine yB anyK [] 13 rfl (by kernel_rfl) rfl ?_
    simp only[List.take_succ_cons,List.take_zero,List.drop_succ_cons,List.drop_zero]
    repeat' first|(refine xD (.mapUpdate _ _ _ _) ?_;refine yE rfl rfl (wT (k:=K2 (i:Int) (ph+y.delay)) (v:=.b true) rfl yU yT rfl rfl rfl hkf2 rfl rfl qJ rfl) ?_)|(refine yX ?_;intros)|fail
    subst hLp
    rename Value=>vn
    refine⟨_,.cons _ (.cons _ (List.Sublist.refl _)),.inl ⟨rfl,vn,xN S (K2 (i:Int) (ph+y.delay)) (.b true),cntK S (K2 (i:Int) (ph+y.delay)) n,acc++[⟨i,ph,pl,pw⟩],⟨by rw[←h1];simp,h2.upd _ _,by rw[List.length_append,List.length_singleton];omega⟩,?_⟩⟩
    rw[←hmp]
    exact rfl
  ·rw[if_pos (show (true||sb)=true from rfl)]at h1
   repeat' first|(refine zB ?_;intros)|(apply zvI;exact zD;rfl;intro σ' hl;(exact zQ rfl rfl (zX (by kernel_rfl)) (cs yP yP)))|(refine xB ?_;intros)|fail
   refine yB anyK [] 13 rfl (by kernel_rfl) rfl ?_
   simp only[List.take_succ_cons,List.take_zero,List.drop_succ_cons,List.drop_zero]
   repeat' first|(refine xD (.mapUpdate _ _ _ _) ?_;refine yE rfl rfl (wT (k:=K2 (i:Int) (ph+y.delay)) (v:=.b true) rfl yU yT rfl rfl rfl hkf2 rfl rfl qJ rfl) ?_)|(refine yX ?_;intros)|fail
   subst hLp
   rename Value=>vn
   refine⟨_,.cons _ (.cons _ (List.Sublist.refl _)),.inl ⟨rfl,vn,xN S (K2 (i:Int) (ph+y.delay)) (.b true),cntK S (K2 (i:Int) (ph+y.delay)) n,acc++[⟨i,ph,pl,pw⟩],⟨by rw[←h1];simp,h2.upd _ _,by rw[List.length_append,List.length_singleton];omega⟩,?_⟩⟩
   rw[←hmp]
   exact rfl
 ·rintro r τ (⟨v,S,n,acc,⟨h1,h2,h3⟩,rfl⟩|hF)
  ·rw[hbl,List.drop_of_length_le (by simp)]at h1
   unfold belS at h1
   rw[List.append_nil]at h1
   subst h1
   rw[hLp]
   refine RangeEnd.done .here ?_
   clear hY hbx hLf hbl hZ
   repeat' first|(refine xD (.call {callee:=.value (.func 76),args:=_,argTypes:=_}) ?_;refine zK rfl rfl rfl (zQ rfl rfl (zX (by kernel_rfl)) (sortPrc_c (Nat.le_trans hbs (by omega)) (fun e=>qJ))) ?_;rintro _ _ ⟨rfl,S,hS1,hS2,rfl⟩)|(refine yX ?_;intros)|fail
   refine zS (σ3:=.row v 110 4 (S.map prcC)::σ) zmr zG zJ ?_
   rw[sortK_is (n:=2) (fun _=>rfl) hZi hS1 hS2]
   exact xS .here (.here .nil) (zY .mk)
  ·exact hF.elim
theorem clip_c(l:List Int)(σ:List Ent):SCall prog 68 [ints l] σ (Is (.dlt 1 (l.map intC)) σ):=by
 refine zZ func68 rfl (by simp) ?_
 repeat' first|(refine zB ?_;intros)|(apply qX;exact zD;rfl;rfl;(exact g_slice3 (k:=l.length) rfl rfl rfl rfl (by first|rfl|(simp;done)) (by first|rfl|(simp;done)) (by simp)))|fail
 refine zS (σ3:=σ) .nil zG zJ ?_
 rw[List.take_of_length_le (by rw[List.length_map];omega)]
 exact zY .mk
def uN:List Int→Nat→List Int→List (List Int)
 |_,0,set=>[set]
 |[],_+1,_=>[]
 |a::l,m+1,set=>uN l m (set++[a])++uN l (m+1) set
theorem subsK_none: ∀(l:List Int) (m:Nat) (set:List Int),l.length<m→uN l m set=[]
 |_,0,_,h=>by omega
 |[],m+1,_,_=>rfl
 |a::l,m+1,set,h=>by
  rw[List.length_cons]at h
  rw[uN,subsK_none l m _ (by omega),subsK_none l (m+1) _ (by omega)];rfl
theorem subsK_mem: ∀{l:List Int} {m:Nat} {set x:List Int},x∈uN l m set→ ∃y,x=set++y∧y.Sublist l
 |[],0,set,x,hx=>by simp[uN]at hx;exact⟨[],by simp[hx],.slnil⟩
 |_::_,0,set,x,hx=>by simp[uN]at hx;exact⟨[],by simp[hx],List.nil_sublist _⟩
 |[],m+1,_,x,hx=>by simp[uN]at hx
 |a::l,m+1,set,x,hx=>by
  rw[uN,List.mem_append]at hx
  rcases hx with hx|hx
  ·obtain⟨y,rfl,hy⟩:=subsK_mem hx
   exact⟨a::y,by simp,hy.cons_cons _⟩
  ·obtain⟨y,rfl,hy⟩:=subsK_mem hx
   exact⟨y,rfl,hy.cons _⟩
theorem subsK_all: ∀(l set:List Int),uN l l.length set=[set++l]
 |[],set=>by simp[uN]
 |a::l,set=>by
  rw[List.length_cons,uN,subsK_all l,subsK_none l (l.length+1) _ (by omega)]
  simp
theorem choose_c(yl b3 b4:Nat)(Stop:List Ent→Prop)(hS: ∀σ,Stop σ→Ent.cells b3 [.fn (.yield yl) [] []] 157∈σ∧Ent.cells b4 [.fn (.func 67) [] [.ptr b3 0,.ptr b4 0]] 158∈σ):
  ∀(m:Nat) (left set:List Int) (I:Nat→List Ent→Prop) (σ:List Ent),set.length+left.length≤1000→m≤1000→
  (∀k σ,I k σ→Ent.cells b3 [.fn (.yield yl) [] []] 157∈σ∧Ent.cells b4 [.fn (.func 67) [] [.ptr b3 0,.ptr b4 0]] 158∈σ)→
  (∀k x σ,(uN left m set)[k]?=some x→I k σ→SRound prog yl [ints x] σ fun r σ'=>(r=.bool true∧I (k+1) σ')∨(r=.bool false∧Stop σ'))→I 0 σ→
  SCall prog 67 [ints set,ints left,.int .i64 m,.ptr b3 0,.ptr b4 0] σ fun r σ'=>(r=.bool true∧I (uN left m set).length σ')∨(r=.bool false∧Stop σ'):=by
 intro m
 induction m with
 |zero=>
  intro left set I σ hl hm hC hy h0
  refine zZ func67 rfl (by simp) ?_
  obtain⟨m1,m2⟩:=hC _ _ h0
  have hr:=hy 0 set σ (by cases left<;>rfl) h0
  have hln:(uN left 0 set).length=1:=by cases left<;>rfl
  rw[hln]
  clear hy hC hln
  repeat' first|(refine xD (.call {callee:=.value (.tmp _),args:=_,argTypes:=_}) ?_;refine zK rfl rfl rfl (tX rfl rfl hr) ?_;rintro _ σ2 (⟨rfl,hs⟩|⟨rfl,hs⟩))|(refine yX ?_;intros)|(refine yV ?_ ?_<;>(intro z;cases z with|_ h)<;>intro hp)|exact nl|fail
  ·refine zS (σ3:=σ2) .nil zG zJ ?_
   exact zY (.inl ⟨rfl,hs⟩)
  ·refine zS (σ3:=σ2) .nil zG zJ ?_
   exact zY (.inr ⟨rfl,hs⟩)
 |succ m ih=>
  intro left set I σ hl hm hC hy h0
  refine zZ func67 rfl (by simp) ?_
  obtain⟨m1,m2⟩:=hC _ _ h0
  have hlm:(left.map intC).length=left.length:=List.length_map _
  have hsm:(set.map intC).length=set.length:=List.length_map _
  obtain⟨X,hX⟩: ∃X,X=uN left (m+1) set:=⟨_,rfl⟩
  rw[←hX]at hy ⊢
  refine yW ?_;intros
  refine zU (fun(z:Nat×Nat×List Ent)=>(⟨[(0,ints set),(1,ints left),(2,.int .i64 ((m+1:Nat):Int)),(3,.ptr b3 0),(4,.ptr b4 0),(16,.int .i64 left.length),(17,.int .i64 (z.1:Nat))],z.2.2,[],f67.ntmps⟩:St)) (fun z=>z.1≤left.length∧X.drop z.2.1=uN (left.drop z.1) (m+1) set∧z.2.1≤X.length∧I z.2.1 z.2.2) (fun z=>left.length-z.1) (0,0,σ) (⟨Nat.zero_le _,by rw[hX];rfl,Nat.zero_le _,h0⟩) (St.le_of zC yY) ?_
  intro z hI
  obtain⟨i,j,τ⟩:=z
  obtain⟨hI1,hI2,hI3,hI4⟩:=hI
  dsimp only at hI1 hI2 hI3 hI4 ⊢
  clear m1 m2 h0 hX
  obtain⟨m1,m2⟩:=hC _ _ hI4
  by_cases hi:i<left.length
  ·by_cases hsh:left.length-i<m+1
   ·have hj:j=X.length:=by
     rw[subsK_none _ _ _ (by rw[List.length_drop];exact hsh)]at hI2
     have:=List.drop_eq_nil_iff.1 hI2
     omega
    clear ih hy hC
    have hlt9:(left.length:Int)-i<((m+1:Nat):Int):=by omega
    refine yW ?_;intros
    refine zS (σ3:=τ) .nil zG zJ ?_
    exact zY (.inl ⟨rfl,hj▸hI4⟩)
   ·obtain⟨a,ha⟩:=zH hi
    have ga:=wU ha
    rw[wZ ha,uN]at hI2
    have hXl:X.length=j+(uN (left.drop (i+1)) m (set++[a])).length+(uN (left.drop (i+1)) (m+1) set).length:=by
     have:=congrArg List.length hI2
     rw[List.length_drop,List.length_append]at this
     omega
    have hget: ∀k x,(uN (left.drop (i+1)) m (set++[a]))[k]?=some x→X[j+k]?=some x:=fun k x hx=>by
     have hk:=qZ hx
     have:=congrArg (fun l:List (List Int)=>l[k]?) hI2
     rw[List.getElem?_drop,List.getElem?_append_left hk]at this
     rw[this,hx]
    have hnx:X.drop (j+(uN (left.drop (i+1)) m (set++[a])).length)=uN (left.drop (i+1)) (m+1) set:=by
     rw[←List.drop_drop,hI2,List.drop_left]
    have cr:=ih (left.drop (i+1)) (set++[a]) (fun k=>I (j+k)) τ (by rw[List.length_append,List.length_singleton,List.length_drop];omega) (by omega) (fun k σ h=>hC _ _ h) (fun k x σ hx h=>hy (j+k) x σ (hget k x hx) h) hI4
    generalize (uN (left.drop (i+1)) m (set++[a])).length=n at hXl hnx cr
    have cc:=fun σ=>clip_c set σ
    have hmp:set.map intC++[intC a]=(set++[a]).map intC:=by simp
    have hm9:((m+1:Nat):Int)-1=m:=by omega
    have cr2:SCall prog 67 [.dl 1 (set.map intC++[intC a]),.dl 1 ((left.drop (i+1)).map intC),.int .i64 (((m+1:Nat):Int)-1),.ptr b3 0,.ptr b4 0] τ (fun r σ'=>(r=.bool true∧I (j+n) σ')∨(r=.bool false∧Stop σ')):=by
     rw[hmp,hm9]
     exact cr
    clear ih hy hget ha hI2 cr hC
    have hlt9:¬ (left.length:Int)-i<((m+1:Nat):Int):=by omega
    refine yW ?_;intros
    refine yB (fun e=>e=Ent.cells b4 [.fn (.func 67) [] [.ptr b3 0,.ptr b4 0]] 158) [] 15 rfl (by kernel_rfl) rfl ?_
    simp only[List.take_succ_cons,List.take_zero,List.drop_succ_cons,List.drop_zero]
    repeat' first|(refine zB ?_;intros)|(apply zvI;exact zD;rfl;intro σ' hl;first|((exact zQ rfl rfl (zX (by kernel_rfl)) (cc _)))|((exact vF (xT rfl rfl (by decide) rfl rfl zck)))|((refine g_appendTS rfl rfl rfl (.s .d) (by refine app_ok ?_ (by kernel_rfl);simp;omega))))|fail
    repeat' first|(refine xD (.call {callee:=.value (.tmp _),args:=_,argTypes:=_}) ?_;refine zK rfl rfl rfl (zQ rfl rfl (zX (by kernel_rfl)) cr2) ?_;rintro _ σ2 (⟨rfl,hs⟩|⟨rfl,hs⟩))|(refine yX ?_;intros)|(refine yV ?_ ?_<;>(intro z;cases z with|_ h)<;>intro hp)|exact nl|fail
    ·exact⟨(i+1,j+n,σ2),⟨hi,hnx,by dsimp only;omega,hs⟩,by dsimp only;omega,(St.le_of zC zJ)⟩
    ·refine zS (σ3:=σ2) .nil zG zJ ?_
     exact zY (.inr ⟨rfl,hs⟩)
  ·obtain rfl:i=left.length:=by omega
   rw[List.drop_length]at hI2
   have hj:j=X.length:=by
    have:=List.drop_eq_nil_iff.1 hI2
    omega
   clear ih hy hC
   refine yW ?_;intros
   refine zS (σ3:=τ) .nil zG zJ ?_
   exact zY (.inl ⟨rfl,hj▸hI4⟩)
def setsL(l:List Int):List (List Int):=(List.range (l.length+1)).flatMap fun n=>uN l n []
abbrev chF(b3 b4:Nat):AV:=.fn (.func 67) [] [.ptr b3 0,.ptr b4 0]
theorem sets1_c(l:List Int)(hl:l.length≤500)(b:Nat):Yields prog 66 [] [.ptr b 0] ((setsL l).map fun x=>[ints x]) (fun τ=>Ent.cells b [ints l] 45∈τ):=by
 intro yl σ I Stop hC hy h0
 refine zZ func66 rfl (by simp) ?_
 have m1:=hC _ _ h0
 obtain⟨X,hX⟩: ∃X,X=setsL l:=⟨_,rfl⟩
 rw[←hX]at hy ⊢
 refine yW ?_;intros
 rename Nat=>b4;revert b4;rename Nat=>b3;revert b3
 intro b3 b4
 refine zU (fun(z:Nat×Nat×List Ent)=>(⟨[(1,.ptr b 0),(2,.ptr b3 0),(3,.ptr b4 0),(8,.int .i64 (l.length+1)),(9,.int .i64 (z.1:Nat))],.cells b4 [chF b3 b4] 158::.cells b3 [.fn (.yield yl) [] []] 157::z.2.2,[],f66.ntmps⟩:St)) (fun z=>z.1≤l.length+1∧X.drop z.2.1=((List.range (l.length+1)).drop z.1).flatMap (fun n=>uN l n [])∧z.2.1≤X.length∧I z.2.1 z.2.2) (fun z=>l.length+1-z.1) (0,0,σ) (⟨Nat.zero_le _,by rw[hX];rfl,Nat.zero_le _,h0⟩) (St.le_of zC yY) ?_
 intro z hI
 obtain⟨n,j,τ⟩:=z
 obtain⟨hI1,hI2,hI3,hI4⟩:=hI
 dsimp only at hI1 hI2 hI3 hI4 ⊢
 clear m1 h0 hX
 have m1:=hC _ _ hI4
 by_cases hn:n<l.length+1
 ·rw[qU hn,List.flatMap_cons]at hI2
  obtain⟨Q,hQ⟩: ∃Q,Q=((List.range (l.length+1)).drop (n+1)).flatMap (fun n=>uN l n []):=⟨_,rfl⟩
  rw[←hQ]at hI2
  have hget: ∀k x,(uN l n [])[k]?=some x→X[j+k]?=some x:=fun k x hx=>by
   have hk:=qZ hx
   have:=congrArg (fun l:List (List Int)=>l[k]?) hI2
   rw[List.getElem?_drop,List.getElem?_append_left hk]at this
   rw[this,hx]
  have hXl:X.length=j+(uN l n []).length+Q.length:=by
   have:=congrArg List.length hI2
   rw[List.length_drop,List.length_append]at this
   omega
  have hnx:X.drop (j+(uN l n []).length)=Q:=by rw[←List.drop_drop,hI2,List.drop_left]
  have cr:=choose_c yl b3 b4 (fun σ=> ∃τ0,σ=.cells b4 [chF b3 b4] 158::.cells b3 [.fn (.yield yl) [] []] 157::τ0∧Stop τ0) (by rintro σ ⟨τ0,rfl,_⟩;simp) n l [] (fun k σ=> ∃τ0,σ=.cells b4 [chF b3 b4] 158::.cells b3 [.fn (.yield yl) [] []] 157::τ0∧I (j+k) τ0) (.cells b4 [chF b3 b4] 158::.cells b3 [.fn (.yield yl) [] []] 157::τ) (by simp;omega) (by omega) (by rintro k σ ⟨τ0,rfl,_⟩;simp) (by
   rintro k x σ hx ⟨τ0,rfl,h⟩
   have hr:=SRound.front [.cells b4 [chF b3 b4] 158,.cells b3 [.fn (.yield yl) [] []] 157] (hy (j+k) [ints x] τ0 (by rw[List.getElem?_map,hget k x hx];rfl) h)
   refine hr.mono ?_
   rintro r σ' ⟨σ1,rfl,⟨rfl,h1⟩|⟨rfl,h1⟩⟩
   ·exact .inl ⟨rfl,σ1,rfl,h1⟩
   ·exact .inr ⟨rfl,σ1,rfl,h1⟩) ⟨τ,rfl,hI4⟩
  generalize (uN l n []).length=q at hXl hnx cr
  have cr2:SCall prog 67 [.slv nilS,ints l,.int .i64 (n:Nat),.ptr b3 0,.ptr b4 0] _ _:=scall_nil 1 (.here (Cv.refl _)) cr
  clear cr hy hC hget hI2
  repeat' first|(refine xD (.call {callee:=.value (.tmp _),args:=_,argTypes:=_}) ?_;refine zK rfl rfl rfl (zQ rfl rfl (zX (by kernel_rfl)) cr2) ?_;rintro _ _ (⟨rfl,σ2,rfl,hs⟩|⟨rfl,σ2,rfl,hs⟩))|(refine yX ?_;intros)|(refine yV ?_ ?_<;>(intro z;cases z with|_ h)<;>intro hp)|exact nl|fail
  ·exact⟨(n+1,j+q,σ2),⟨hn,by dsimp only;rw[hnx,hQ],by dsimp only;omega,hs⟩,by dsimp only;omega,(St.le_of zC zJ)⟩
  ·refine zS (σ3:=σ2) .nil zG zJ ?_
   exact zY (.inr hs)
 ·obtain rfl:n=l.length+1:=by omega
  rw[show (List.range (l.length+1)).drop (l.length+1)=[] by simp,List.flatMap_nil]at hI2
  have hj:j=X.length:=by
   have:=List.drop_eq_nil_iff.1 hI2
   omega
  clear hy hC
  have hlt9:¬ ((l.length+1:Nat):Int)<(l.length:Int)+1:=by omega
  refine yW ?_;intros
  refine zS (σ3:=τ) .nil zG zJ ?_
  exact zY (.inl (by rw[List.length_map,←hj];exact hI4))
theorem sets_c(l:List Int)(σ:List Ent):SCall prog 23 [ints l] σ (fun r τ=> ∃b,r=.fn (.func 66) [] [.ptr b 0]∧τ=.cells b [ints l] 45::σ):=by
 refine zZ func23 rfl (by simp) ?_
 refine yW ?_;intros
 rename Nat=>b1;revert b1
 intro b1
 refine zS (σ3:=.cells b1 [ints l] 45::σ) .nil zG zJ ?_
 exact zY ⟨b1,rfl,rfl⟩
theorem cloneI_c(l:List Int)(hl:l.length≤10000)(σ:List Ent):SCall prog 26 [ints l] σ (fun r τ=> ∃v,r=.slv v∧τ=.row v 3 1 (l.map intC)::σ):=by
 refine zZ func26 rfl (by simp) ?_
 have h1: ∀y∈l.map intC,y.all AV.one=true:=by
  intro y hy
  obtain⟨_,_,rfl⟩:=List.mem_map.1 hy
  rfl
 by_cases h0:l=[]
 ·subst h0
  refine xX 3 1 ?_
  repeat' first|(refine xD (.binOp _ _ _ _ _) ?_;refine zK rfl rfl rfl (g_eqlNilE rfl rfl) ?_;rintro _ _ ⟨b⟩)|(refine yX ?_;intros)|(refine yV ?_ ?_<;>(intro z;cases z with|_ h)<;>intro hp)|fail
  ·refine zS (σ3:=.row nilS 3 1 (List.map intC [])::σ) .nil zG zJ ?_
   exact zY ⟨nilS,rfl,rfl⟩
  ·rename_i v3
   refine zS (σ3:=.row v3 3 1 (List.map intC [])::σ) .nil zG zJ ?_
   exact zY ⟨v3,rfl,rfl⟩
 ·have hlen:0<(l.map intC).length:=by rw[List.length_map];exact List.length_pos_iff.2 h0
  repeat' first|(refine zB ?_;intros)|(apply qX;exact zD;rfl;rfl;(apply g_eqlNil;rfl;rfl;exact hlen))|(refine xB ?_;intros)|fail
  rename_i v3
  refine zS (σ3:=.row v3 3 1 (l.map intC)::σ) .nil zG zJ ?_
  exact zY ⟨v3,rfl,rfl⟩
open Go.Shelf Go.Sort Go.RowKit Go.WideMaps
theorem ownC_ok{d:Dis}{C:List Clm}(h:ClmsOk d C)(rs:List Int):ClmsOk d (vZ rs C):=by
 have hs:(vZ rs C).Sublist C:=List.filter_sublist
 exact⟨Nat.le_trans hs.length_le h.len,fun c hc=>h.ok c (hs.subset hc),h.up.sublist hs⟩
def PrcAt(d:Dis)(p:Pl)(q:Prc):Prop:= ∃x,d.R[p.1]?=some x∧q.reach=p.1∧q.hour=(p.2:Int)-x.delay∧x.delay≤(p.2:Int)
theorem sched_at{d:Dis}: ∀{l:List Pl} {m U:BkF},l.Nodup→(∀q∈uX d l m U,∃p∈l,PrcAt d p q)∧((uX d l m U).Pairwise fun a b=>pR a≠pR b)∧(uX d l m U).length≤l.length
 |[],m,U,_=>by
  unfold uX
  exact⟨fun q hq=>(nomatch hq),.nil,Nat.le_refl _⟩
 |p::l,m,U,hn=>by
  obtain⟨hp,hn2⟩:=List.nodup_cons.1 hn
  have hrec: ∀m U,(∀q∈uX d l m U,∃p'∈p::l,PrcAt d p' q)∧((uX d l m U).Pairwise fun a b=>pR a≠pR b)∧(uX d l m U).length≤(p::l).length:=fun m U=>by
   obtain⟨h1,h2,h3⟩:=sched_at (l:=l) (m:=m) (U:=U) hn2
   refine⟨fun q hq=>?_,h2,by rw[List.length_cons];omega⟩
   obtain⟨p',hp',hk⟩:=h1 q hq
   exact⟨p',by simp[hp'],hk⟩
  unfold uX
  split
  ·exact⟨fun q hq=>(nomatch hq),.nil,Nat.zero_le _⟩
  ·rename_i x hx
   split
   ·exact hrec _ _
   ·split
    ·exact hrec _ _
    ·split
     ·exact hrec _ _
     ·rename_i v hv
      split
      ·rename_i hd
       obtain⟨h1,h2,h3⟩:=sched_at (l:=l) (m:=vY m (K2 x.up ((p.2:Int)-x.delay)) v) (U:=U) hn2
       rw[List.singleton_append]
       refine⟨fun q hq=>?_,List.pairwise_cons.2 ⟨fun q hq e=>?_,h2⟩,by rw[List.length_cons,List.length_cons];omega⟩
       ·rcases List.mem_cons.1 hq with rfl|hq
        ·exact⟨p,by simp,x,hx,rfl,rfl,hd⟩
        ·obtain⟨p',hp',hk⟩:=h1 q hq
         exact⟨p',by simp[hp'],hk⟩
       ·obtain⟨p',hp',y,hy,k1,k2,_⟩:=h1 q hq
        simp only[pR,List.cons.injEq,and_true]at e
        obtain⟨e1,e2⟩:=e
        rw[k1]at e1
        rw[k2]at e2
        have e3:p.1=p'.1:=by omega
        rw[←e3,hx]at hy
        cases hy
        have e4:p.2=p'.2:=by omega
        exact hp (by rw[show p=p' from Prod.ext e3 e4];exact hp')
      ·rw[List.nil_append]
       exact hrec _ _
theorem sched_len{d:Dis}(hW:(d.R.length:Int)*d.hours≤1024)(C:List Clm):(tV d C).length≤1024:=
 Nat.le_trans (sched_at (pls_nodup _ _)).2.2 (pls_few hW)
theorem sched_fit{d:Dis}(hd:yZ d=0)(C:List Clm): ∀q∈tV d C,PrcFit d q:=fun q hq=>by
 obtain⟨p,hp,x,hx,h1,h2,h3⟩:=(sched_at (pls_nodup _ _)).1 q hq
 have hvv:=(zP hd).2
 have hok:=RchOk.of (yA hvv hx)
 have hTr:=wP hvv
 have hup:=hTr.lt hx
 have hge:=hTr.ge hx
 have hdl:=hok.dl
 have hR:=(yC (zP hd).1).1
 have hH:=xF hvv
 have hp1:=(mem_pls.1 hp).1
 have hp2:=(mem_pls.1 hp).2
 exact⟨p.1,x,h1,hx,hdl,⟨hge,by omega⟩,by omega,by omega⟩
theorem pw_inj{α β:Type}{g:α→β}: ∀{l:List α},(l.Pairwise fun a b=>g a≠g b)→ ∀a∈l,∀b∈l,g a=g b→a=b
 |[],_,a,ha,_,_,_=>(nomatch ha)
 |x::l,h,a,ha,b,hb,e=>by
  obtain⟨h1,h2⟩:=List.pairwise_cons.1 h
  rcases List.mem_cons.1 ha with e1|ha<;>rcases List.mem_cons.1 hb with e2|hb
  ·rw[e1,e2]
  ·exact absurd (e1▸e) (h1 b hb)
  ·exact absurd (e2▸e).symm (h1 a ha)
  ·exact pw_inj h2 a ha b hb e
theorem sched_inj(d:Dis)(C:List Clm): ∀a∈tV d C,∀b∈tV d C,pR a=pR b→a=b:=pw_inj (sched_at (pls_nodup _ _)).2.1
def FltIn(d:Dis)(f:Flt):Prop:=0≤f.hour∧f.hour≤4096
theorem late_in{d:Dis}(hd:yZ d=0): ∀{l:List Pl} {m U:BkF},(∀p∈l,p.2<d.hours.toNat)→ ∀f∈lateS d l m U,FltIn d f
 |[],m,U,_,f,hf=>by unfold lateS at hf;cases hf
 |p::l,m,U,hp,f,hf=>by
  have hp2: ∀q∈l,q.2<d.hours.toNat:=fun q hq=>hp q (by simp[hq])
  have hpp:=hp p (by simp)
  have hH:=xF (zP hd).2
  have hme: ∀n:Int,FltIn d ⟨7,p.2,p.1,n,0⟩:=fun n=>by unfold FltIn;dsimp only;omega
  unfold lateS at hf
  split at hf
  ·cases hf
  ·split at hf
   ·exact late_in hd hp2 f hf
   ·split at hf
    ·exact late_in hd hp2 f hf
    ·split at hf
     ·rcases List.mem_cons.1 hf with rfl|hf
      ·exact hme _
      ·exact late_in hd hp2 f hf
     ·split at hf
      ·rcases List.mem_cons.1 hf with rfl|hf
       ·exact hme _
       ·exact late_in hd hp2 f hf
      ·exact late_in hd hp2 f hf
theorem least_mem: ∀(l:List Flt) (f:Flt),l.foldl (fun f x=>if soonF x f=true then x else f) f=f∨l.foldl (fun f x=>if soonF x f=true then x else f) f∈l
 |[],f=>.inl rfl
 |x::l,f=>by
  rw[List.foldl_cons]
  rcases least_mem l (if soonF x f=true then x else f)with h|h
  ·rw[h]
   split
   ·exact .inr (by simp)
   ·exact .inl rfl
  ·exact .inr (by simp[h])
theorem brok_in{d:Dis}(hd:yZ d=0){g:BkF}{n:Int}: ∀{l:List (Nat×Nat)},(∀p∈l,p.1<d.hours.toNat)→ ∀f∈jV d g n l,FltIn d f
 |[],_,f,hf=>by
  unfold jV tFlt at hf
  split at hf
  ·rw[List.mem_singleton]at hf;subst hf;exact⟨Int.le_refl _,show (0:Int)≤4096 by decide⟩
  ·cases hf
 |(h,i)::l,hp,f,hf=>by
  have hp2: ∀q∈l,q.1<d.hours.toNat:=fun q hq=>hp q (by simp[hq])
  have hpp:=hp (h,i) (by simp)
  have hH:=xF (zP hd).2
  unfold jV at hf
  split at hf
  ·cases hf
  ·rcases List.mem_append.1 hf with hf|hf
   ·unfold gFlt at hf
    split at hf
    ·rw[List.mem_singleton]at hf;subst hf;unfold FltIn;dsimp only at hpp ⊢;omega
    ·cases hf
   ·rcases List.mem_append.1 hf with hf|hf
    ·unfold bFlt at hf
     split at hf
     ·rw[List.mem_singleton]at hf;subst hf;unfold FltIn;dsimp only at hpp ⊢;omega
     ·cases hf
    ·exact brok_in hd hp2 f hf
theorem mem_plsFrom{N R u:Nat}{p:Nat×Nat}(h:p∈yK N R u):p.1<N∧p.2<R:=by
 unfold yK at h
 simp only[List.mem_flatMap,List.mem_map,List.mem_range]at h
 obtain⟨a,ha,b,hb,rfl⟩:=h
 exact⟨List.mem_range.1 (List.mem_of_mem_drop ha),hb⟩
theorem solve_in{d:Dis}(hd:yZ d=0)(C:List Clm):FltIn d (yH d C).2.1:=by
 have h0:FltIn d fZ:=⟨Int.le_refl _,by decide⟩
 unfold yH
 split
 ·exact h0
 ·split
  ·unfold leastL
   rcases least_mem (lateL d (tL d C)) fZ with h|h
   ·dsimp only;rw[h];exact h0
   ·exact late_in hd (fun p hp=>(mem_pls.1 hp).2) _ h
  ·split
   ·exact h0
   ·split
    ·exact h0
    ·rename_i f F hB
     exact brok_in hd (g:=kD _) (n:=allF _) (l:=yK d.hours.toNat d.R.length 0) (fun p hp=>(mem_plsFrom hp).1) f (by unfold brokL at hB;rw[hB];simp)
theorem setsL_self(l:List Int):l∈setsL l:=by
 unfold setsL
 rw[List.mem_flatMap]
 exact⟨l.length,by simp,by rw[subsK_all];simp⟩
theorem setsL_sub{l x:List Int}(h:x∈setsL l):x.Sublist l:=by
 unfold setsL at h
 rw[List.mem_flatMap]at h
 obtain⟨n,_,h⟩:=h
 obtain⟨y,rfl,hy⟩:=subsK_mem h
 simpa using hy
theorem ownC_all(C:List Clm):vZ (uG (C.map Clm.right)) C=C:=by
 unfold vZ
 rw[List.filter_eq_self]
 intro c hc
 rw[List.contains_iff_mem]
 exact setOf_mem.2 (List.mem_map.2 ⟨c,hc,rfl⟩)
structure Rf where
 rights:List Int
 kind:Int
 reach:Int
 hour:Int
 parcels:List Prc
abbrev rfC(r:Rf):List AV:=[ints r.rights,.int .i64 r.kind,.int .i64 r.reach,.int .i64 r.hour,prcs r.parcels]
abbrev rfV(r:Rf):AV:=.agg (rfC r)
def rf0:Rf:=⟨[],0,0,0,[]⟩
noncomputable def refOf (d:Dis) (C:List Clm) (rs:List Int):Rf:=⟨rs,(yH d (vZ rs C)).2.1.kind,(yH d (vZ rs C)).2.1.index,(yH d (vZ rs C)).2.1.hour,belL d (yH d (vZ rs C)).2.1 (tV d (vZ rs C))⟩
noncomputable def jZ (d:Dis) (C:List Clm):List Int:=((setsL (uG (C.map Clm.right))).find? fun rs=>!xU d (vZ rs C)).getD []
noncomputable def pB (d:Dis) (l:List Ded) (frm to known:Int):Rf×Bool×Int:=
 if tQ d l frm to known≠0 then (rf0,false,tQ d l frm to known)
 else if xU d (kK d l frm to known)=true then (rf0,false,0)
 else (refOf d (kK d l frm to known) (jZ d (kK d l frm to known)),true,0)
end Go.Proofs.YtaoaafdommlhcaaGreat

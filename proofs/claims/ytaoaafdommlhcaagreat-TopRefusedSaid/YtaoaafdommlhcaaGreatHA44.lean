/- Parts of the proof that belong together: Ij Pb Pc Pd Pa. -/
import Derived.Test.YtaoaafdommlhcaaGreatHA07
import Derived.Test.YtaoaafdommlhcaaGreatHA10
import Derived.Test.YtaoaafdommlhcaaGreatHA34
import Derived.Test.YtaoaafdommlhcaaGreatHA35
import Derived.Test.YtaoaafdommlhcaaGreatHA38
import Derived.Test.YtaoaafdommlhcaaGreatHA42
import Derived.Test.YtaoaafdommlhcaaGreatHA43
set_option maxRecDepth 10000
set_option maxHeartbeats 32000000
set_option linter.unusedSimpArgs false
set_option linter.unusedVariables false
set_option autoImplicit false
open Go.Proofs.Tryz
namespace Go.Proofs.YtaoaafdommlhcaaGreat
open Go.Shelf Go.Sort Go.RowKit Go.WideMaps
abbrev flts(l:List Flt):AV:=.dl 5 (l.map fltC)
theorem faults_bad(d:Dis)(hd:yZ d=0)(C:List Clm)(hC:ClmsOk d C)(L:List Ord')(h:readE d L≠0)(σ:List Ent):
  SCall prog 30 [disV d,clms C,ords L] σ (Is (.tup [flts [],.int .i64 (readE d L)]) σ):=by
 refine zZ func30 rfl (by simp) ?_
 have c0:=fun σ=>clmCheck_c d hd C hC σ
 have c1:=fun σ=>read_bad d hd L h σ
 generalize readE d L=e at c1 h ⊢
 repeat' first|(apply yQ;exact zD;rfl;rfl;refine zL ?_;first|exact c0 _|exact c1 _)|(refine xV ?_;and_intros<;>first|exact nl|intros)|fail
 all_goals
  refine zS (σ3:=σ) .nil zG zJ ?_
  exact xK (sz:=5) (.tup (.here (.same .nil)) .nil) (zY .mk)
theorem tank_len(d:Dis)(sF:Nat→Nat→Int): ∀l:List Nat,(tankL d sF l).length≤1
 |[]=>by simp[tankL]
 |h::l=>by
  unfold tankL
  split
  ·simp
  ·exact tank_len d sF l
def prefF(d:Dis)(C:List Clm)(L:List Ord'):Nat→List Flt
 |0=>[]
 |1=>vN d 1 L
 |2=>vN d 1 L++vN d 2 L
 |3=>vN d 1 L++vN d 2 L++kX d (vD (xJ L)) (yK d.hours.toNat d.R.length 0)
 |4=>vN d 1 L++vN d 2 L++kX d (vD (xJ L)) (yK d.hours.toNat d.R.length 0)++tankL d (vD (xJ L)) (List.range d.hours.toNat)
 |5=>vN d 1 L++vN d 2 L++kX d (vD (xJ L)) (yK d.hours.toNat d.R.length 0)++tankL d (vD (xJ L)) (List.range d.hours.toNat)++waterL d (xJ L) (vA d L) (yK d.hours.toNat d.R.length 0)
 |_+6=>vN d 1 L++vN d 2 L++kX d (vD (xJ L)) (yK d.hours.toNat d.R.length 0)++tankL d (vD (xJ L)) (List.range d.hours.toNat)++waterL d (xJ L) (vA d L) (yK d.hours.toNat d.R.length 0)++unmetL (xJ L) (clF C) (yK d.hours.toNat d.F.length 0)
theorem pref_all(d:Dis)(C:List Clm)(L:List Ord'):prefF d C L 6=faultsL d C L:=by
 unfold prefF faultsL
 simp only[List.append_assoc]
theorem pref_len(d:Dis)(C:List Clm)(L:List Ord')(hL:L.length≤4096)(hW:(yK d.hours.toNat d.R.length 0).length≤4096)(k:Nat)(hk:k≤5):(prefF d C L k).length≤100000:=by
 have h1:=gatesL_len d 1 L
 have h2:=gatesL_len d 2 L
 have h3:(kX d (vD (xJ L)) (yK d.hours.toNat d.R.length 0)).length≤_:=flat_len (bank1_len d _) _
 have h4:=tank_len d (vD (xJ L)) (List.range d.hours.toNat)
 have h5:(waterL d (xJ L) (vA d L) (yK d.hours.toNat d.R.length 0)).length≤_:=flat_len (water1_len d _ _) _
 rcases (by omega:k=0∨k=1∨k=2∨k=3∨k=4∨k=5)with rfl|rfl|rfl|rfl|rfl|rfl<;>simp only[prefF,List.length_append,List.length_nil]<;>omega
theorem faults_ok(d:Dis)(hd:yZ d=0)(C:List Clm)(hC:ClmsOk d C)(L:List Ord')(hrd:readE d L=0)(σ:List Ent):
  SCall prog 30 [disV d,clms C,ords L] σ (fun r τ=> ∃bm n,r=.tup [flts (faultsL d C L),.int .i64 0]∧τ=.kmap bm [false,false,true] (xJ L) n::σ):=by
 refine zZ func30 rfl (by simp) ?_
 have c0:=fun σ=>clmCheck_c d hd C hC σ
 have c1:=fun σ=>read_ok d hd L hrd σ
 refine xX 73 5 ?_
 repeat' first|(refine xD (.call {callee:=.value (.func 82),args:=_,argTypes:=_}) ?_;refine zK rfl rfl rfl (zQ rfl rfl (zX (by kernel_rfl)) (c1 _)) ?_;rintro _ _ ⟨bm,n,S,D,hS,hD,rfl,rfl⟩)|(show EX _ _ (Code.seq (Code.region 7 _ _) _) _ _;refine Stuck.out ?_)|(refine vW ?_;intros)|(apply yQ;exact zD;rfl;rfl;refine zL ?_;exact c0 _)|(refine yV ?_ ?_<;>(intro z;cases z with|_ h)<;>intro hp)|exact nl|fail
 all_goals try refine Stuck.mk ?_
 rename Nat=>b8;revert b8;rename Nat=>n;revert n;rename Nat=>bm;revert bm;rename Nat=>b6;revert b6;rename Nat=>b3;revert b3
 intro b3 b6 bm n b8
 clear c0 c1
 obtain⟨hW1,hl,_,hb,hp9⟩:=read_zero hrd
 have hvv:=(zP hd).2
 have hH1:1≤d.hours:=by
  have hv:=hvv
  unfold yD tY at hv
  simp[vS]at hv
  omega
 have hR0:0<d.R.length:=by
  have hv:=hvv
  unfold yD tY at hv
  simp only[Bool.and_eq_true,decide_eq_true_eq]at hv
  omega
 have hW:(yK d.hours.toNat d.R.length 0).length≤4096:=by
  rw[plsFrom_len]
  have e:((d.hours.toNat *d.R.length:Nat):Int)=(d.R.length:Int)*d.hours:=by
   rw[Int.natCast_mul,show ((d.hours.toNat:Nat):Int)=d.hours by omega,Int.mul_comm]
  omega
 have hlx: ∀o∈L,o.outlet=false→0≤o.index∧o.index<d.R.length:=fun o ho hg=>by
  have:=ord_in (hb o ho)
  exact⟨this.2.1,this.2.2.2.1 hg⟩
 have hfi:IntV (xJ L):=litF_int (L:=L) (fun k x hx=>by cases hx)
 have hfb:=lit_small hb
 have hpl:=fun k hk=>pref_len d C L hl hW k hk
 have hres:=pref_all d C L
 rw[←hres]
 refine yS (s':=⟨[(1,clms C),(6,.ptr b6 0),(7,.int .i64 0),(8,.ptr b8 0)],.cells b8 (tblC d L bm S D) 178::.kmap bm [false,false,true] (xJ L) n::.cells b6 [.slv nilS] 90::.row nilS 73 5 []::σ,[],f30.ntmps⟩) (St.le_of zC yY) ?_
 refine pD (List.perm_append_comm_assoc [_,_] [_,_] σ) ?_
 simp only[List.cons_append,List.nil_append]
 clear hp9 hb hres hvv
 refine yW ?_;intros
 refine yB (fun e=>e=.cells b8 (tblC d L bm S D) 178) [1,3,12] 16 rfl (by kernel_rfl) rfl ?_
 simp only[List.take_succ_cons,List.take_zero,List.drop_succ_cons,List.drop_zero]
 repeat' first|(refine zgp (.call {callee:=.value (.func 84),args:=_,argTypes:=_}) ?_;refine yN rfl rfl (zQ rfl rfl (zX (by kernel_rfl)) (gates_c d L bm S D _ _)) ?_;rintro _ _ ⟨p2,p3,rfl,rfl⟩;refine⟨zks,?_⟩)|(refine zgp (.call {callee:=.value (.func 88),args:=_,argTypes:=_}) ?_;refine yN rfl rfl (zQ rfl rfl (zX (by kernel_rfl)) (unmet_c d L bm S D C _)) ?_;rintro _ _ ⟨q2,q3,rfl,rfl⟩;refine⟨zks,?_⟩)|(refine zwOS ?_;intros)|(apply zvI;exact zD;rfl;intro σ' hl;exact vF (xT rfl rfl (by decide) rfl rfl zck))|fail
 refine pD (List.perm_append_comm_assoc [_,_,_,_,_,_] [_,_] _) ?_
 simp only[List.cons_append,List.nil_append]
 rename Nat=>q3;revert q3;rename Nat=>q2;revert q2;rename Nat=>p3;revert p3;rename Nat=>p2;revert p2;rename Nat=>g3;revert g3;rename Nat=>g2;revert g2
 intro g2 g3 p2 p3 q2 q3
 obtain⟨FN,hFN⟩: ∃FN:List (List AV),FN=[[.fn (.func 134) [] [.ptr g2 0,.ptr g3 0]],[.fn (.func 134) [] [.ptr p2 0,.ptr p3 0]],[.fn (.func 85) [tblV d L bm S D] []],[.fn (.func 86) [tblV d L bm S D] []],[.fn (.func 87) [tblV d L bm S D] []],[.fn (.func 137) [] [.ptr q3 0,.ptr q2 0]]]:=⟨_,rfl⟩
 refine yS (s':=⟨[(6,.ptr b6 0),(7,.int .i64 0),(9,colF b6),(41,.dl 1 FN),(42,.int .i64 6),(43,.int .i64 0)],_,[],f30.ntmps⟩) (by rw[hFN];exact(St.le_of zC zJ)) ?_
 have hF0:FN[0]?=some [.fn (.func 134) [] [.ptr g2 0,.ptr g3 0]]:=by rw[hFN];rfl
 have hF1:FN[1]?=some [.fn (.func 134) [] [.ptr p2 0,.ptr p3 0]]:=by rw[hFN];rfl
 have hF2:FN[2]?=some [.fn (.func 85) [tblV d L bm S D] []]:=by rw[hFN];rfl
 have hF3:FN[3]?=some [.fn (.func 86) [tblV d L bm S D] []]:=by rw[hFN];rfl
 have hF4:FN[4]?=some [.fn (.func 87) [tblV d L bm S D] []]:=by rw[hFN];rfl
 have hF5:FN[5]?=some [.fn (.func 137) [] [.ptr q3 0,.ptr q2 0]]:=by rw[hFN];rfl
 clear hFN
 obtain⟨ρ,hρ⟩: ∃ρ:List Ent,ρ=.cells q3 [clms C] 39::.cells q2 (tblC d L bm S D) 178::.cells p3 [.int .i64 2] 3::.cells p2 (tblC d L bm S D) 178::.cells g3 [.int .i64 1] 3::.cells g2 (tblC d L bm S D) 178::.cells b8 (tblC d L bm S D) 178::.kmap bm [false,false,true] (xJ L) n::σ:=⟨_,rfl⟩
 have m1:Ent.kmap bm [false,false,true] (xJ L) n∈ρ:=by rw[hρ];exact yP
 have m2:Ent.cells g2 (tblC d L bm S D) 178∈ρ:=by rw[hρ];exact yP
 have m3:Ent.cells g3 [.int .i64 1] 3∈ρ:=by rw[hρ];exact yP
 have m4:Ent.cells p2 (tblC d L bm S D) 178∈ρ:=by rw[hρ];exact yP
 have m5:Ent.cells p3 [.int .i64 2] 3∈ρ:=by rw[hρ];exact yP
 have m6:Ent.cells q2 (tblC d L bm S D) 178∈ρ:=by rw[hρ];exact yP
 have m7:Ent.cells q3 [clms C] 39∈ρ:=by rw[hρ];exact yP
 rw[←hρ]
 refine zU (fun(z:Nat×Value×List Flt)=>(⟨[(6,.ptr b6 0),(7,.int .i64 0),(9,colF b6),(41,.dl 1 FN),(42,.int .i64 6),(43,.int .i64 (z.1:Nat))],.cells b6 [.slv z.2.1] 90::.row z.2.1 73 5 (z.2.2.map fltC)::ρ,[],f30.ntmps⟩:St)) (fun z=>z.1≤6∧z.2.2=prefF d C L z.1) (fun z=>6-z.1) (0,nilS,[]) (⟨Nat.zero_le _,rfl⟩) (St.le_of zC yY) ?_
 intro z hI
 obtain⟨k,v,A⟩:=z
 obtain⟨hI1,hI2⟩:=hI
 dsimp only at hI1 hI2 ⊢
 by_cases hk:k<6
 ·have hA:A.length≤100000:=by rw[hI2];exact hpl k (by omega)
  clear hpl
  rcases (by omega:k=0∨k=1∨k=2∨k=3∨k=4∨k=5)with rfl|rfl|rfl|rfl|rfl|rfl
  ·have cc:=gates1_c d L hl hlx bm S D 1 b6 g2 g3 v A hA ρ m2 m3
   have hn:A++vN d 1 L=prefF d C L (0+1):=by rw[hI2];rfl
   repeat' first|(refine xD (.call {callee:=.value (.tmp _),args:=_,argTypes:=_}) ?_;refine zK rfl rfl rfl (zQ rfl rfl (zX (by kernel_rfl)) cc) ?_;rintro _ _ ⟨v',rfl⟩)|(refine yX ?_;intros)|(refine yV ?_ ?_<;>(intro z;cases z with|_ h)<;>intro hp)|exact nl|fail
   exact⟨(0+1,v',_),⟨by omega,hn⟩,by dsimp only;omega,(St.le_of zC zJ)⟩
  ·have cc:=gates1_c d L hl hlx bm S D 2 b6 p2 p3 v A hA ρ m4 m5
   have hn:A++vN d 2 L=prefF d C L (1+1):=by rw[hI2];rfl
   repeat' first|(refine xD (.call {callee:=.value (.tmp _),args:=_,argTypes:=_}) ?_;refine zK rfl rfl rfl (zQ rfl rfl (zX (by kernel_rfl)) cc) ?_;rintro _ _ ⟨v',rfl⟩)|(refine yX ?_;intros)|(refine yV ?_ ?_<;>(intro z;cases z with|_ h)<;>intro hp)|exact nl|fail
   exact⟨(1+1,v',_),⟨by omega,hn⟩,by dsimp only;omega,(St.le_of zC zJ)⟩
  ·have cc:=banks_c d hd hW L bm S D _ hS b6 v A hA ρ
   have hn:A++kX d (vD (xJ L)) (yK d.hours.toNat d.R.length 0)=prefF d C L (2+1):=by rw[hI2];rfl
   repeat' first|(refine xD (.call {callee:=.value (.tmp _),args:=_,argTypes:=_}) ?_;refine zK rfl rfl rfl (zQ rfl rfl (zX (by kernel_rfl)) cc) ?_;rintro _ _ ⟨v',rfl⟩)|(refine yX ?_;intros)|(refine yV ?_ ?_<;>(intro z;cases z with|_ h)<;>intro hp)|exact nl|fail
   exact⟨(2+1,v',_),⟨by omega,hn⟩,by dsimp only;omega,(St.le_of zC zJ)⟩
  ·have cc:=tank_c d hd hR0 L bm S D _ hS b6 v A hA ρ
   have hn:A++tankL d (vD (xJ L)) (List.range d.hours.toNat)=prefF d C L (3+1):=by rw[hI2];rfl
   repeat' first|(refine xD (.call {callee:=.value (.tmp _),args:=_,argTypes:=_}) ?_;refine zK rfl rfl rfl (zQ rfl rfl (zX (by kernel_rfl)) cc) ?_;rintro _ _ ⟨v',rfl⟩)|(refine yX ?_;intros)|(refine yV ?_ ?_<;>(intro z;cases z with|_ h)<;>intro hp)|exact nl|fail
   exact⟨(3+1,v',_),⟨by omega,hn⟩,by dsimp only;omega,(St.le_of zC zJ)⟩
  ·have cc:=water_c d hd hW L bm S D _ hD (xJ L) hfi hfb n b6 v A hA ρ m1
   have hn:A++waterL d (xJ L) (vA d L) (yK d.hours.toNat d.R.length 0)=prefF d C L (4+1):=by rw[hI2];rfl
   repeat' first|(refine xD (.call {callee:=.value (.tmp _),args:=_,argTypes:=_}) ?_;refine zK rfl rfl rfl (zQ rfl rfl (zX (by kernel_rfl)) cc) ?_;rintro _ _ ⟨v',rfl⟩)|(refine yX ?_;intros)|(refine yV ?_ ?_<;>(intro z;cases z with|_ h)<;>intro hp)|exact nl|fail
   exact⟨(4+1,v',_),⟨by omega,hn⟩,by dsimp only;omega,(St.le_of zC zJ)⟩
  ·have cc:=unmet1_c d hd L bm S D C hC (xJ L) hfi n b6 q2 q3 v A hA ρ m1 m6 m7
   have hn:A++unmetL (xJ L) (clF C) (yK d.hours.toNat d.F.length 0)=prefF d C L (5+1):=by rw[hI2];rfl
   repeat' first|(refine xD (.call {callee:=.value (.tmp _),args:=_,argTypes:=_}) ?_;refine zK rfl rfl rfl (zQ rfl rfl (zX (by kernel_rfl)) cc) ?_;rintro _ _ ⟨v',rfl⟩)|(refine yX ?_;intros)|(refine yV ?_ ?_<;>(intro z;cases z with|_ h)<;>intro hp)|exact nl|fail
   exact⟨(5+1,v',_),⟨by omega,hn⟩,by dsimp only;omega,(St.le_of zC zJ)⟩
 ·obtain rfl:k=6:=by omega
  subst hI2
  subst hρ
  clear hpl
  generalize prefF d C L 6=A
  refine yW ?_;intros
  refine zS (σ3:=.row v 73 5 (A.map fltC)::.kmap bm [false,false,true] (xJ L) n::σ) .nil zG zJ ?_
  exact xS .here (.tup (.here (.same .nil)) .nil) (zY ⟨bm,n,rfl,rfl⟩)
theorem accepts_c(d:Dis)(hd:yZ d=0)(C:List Clm)(hC:ClmsOk d C)(L:List Ord')(σ:List Ent):
  SCall prog 9 [disV d,clms C,ords L] σ (Is (.tup [.bool (accB d C L),.int .i64 (readE d L)]) σ):=by
 refine zZ func9 rfl (by simp) ?_
 unfold accB
 by_cases h:readE d L=0
 ·have c1:=fun σ=>faults_ok d hd C hC L h σ
  rw[h]at *
  generalize faultsL d C L=F at c1 ⊢
  cases F with
  |nil=>
   repeat' first|(refine xD (.call {callee:=.value (.func 30),args:=_,argTypes:=_}) ?_;refine zK rfl rfl rfl (zQ rfl rfl (zX (by kernel_rfl)) (c1 _)) ?_;rintro _ _ ⟨bm,n,rfl,rfl⟩)|(refine yX ?_;intros)|(refine yV ?_ ?_<;>(intro z;cases z with|_ h)<;>intro hp)|exact nl|cases ‹BV _ _›|fail
   all_goals
    refine zS (σ3:=σ) .nil zG zJ ?_
    exact zY .mk
  |cons f F=>
   repeat' first|(refine xD (.call {callee:=.value (.func 30),args:=_,argTypes:=_}) ?_;refine zK rfl rfl rfl (zQ rfl rfl (zX (by kernel_rfl)) (c1 _)) ?_;rintro _ _ ⟨bm,n,rfl,rfl⟩)|(refine yX ?_;intros)|(refine yV ?_ ?_<;>(intro z;cases z with|_ h)<;>intro hp)|exact nl|cases ‹BV _ _›|fail
   all_goals
    refine zS (σ3:=σ) .nil zG zJ ?_
    exact zY .mk
 ·have c1:=fun σ=>faults_bad d hd C hC L h σ
  rw[decide_eq_false h]
  generalize readE d L=e at c1 h ⊢
  repeat' first|(apply yQ;exact zD;rfl;rfl;refine zL ?_;exact c1 _)|(refine xV ?_;and_intros<;>first|exact nl|intros)|fail
  all_goals
   refine zS (σ3:=σ) .nil zG zJ ?_
   exact zY .mk
open Go.Shelf Go.Sort Go.RowKit Go.WideMaps
abbrev nm0:ByteArray:={data:=#[]}
def r29:Rch:=⟨nm0,-1,1,10,50,0,0,0,⟨0,1⟩,⟨0,1⟩⟩
def f29:Frm:=⟨nm0,0,0,-1⟩
def g29(i:Int):Rgt:=⟨nm0,1,i,0,0,6,1,3,1,1⟩
def qY:Dis:=⟨nm0,4,99,99,[r29],[f29,f29],[],[g29 0,g29 1],[],[]⟩
def l29:List Ded:=[⟨1,3,1,1,0,[],0,0,7⟩]
def c29(i h:Int):Clm:=⟨i,i,h,6,0⟩
def C6:List Clm:=[c29 0 1,c29 1 1,c29 0 2,c29 1 2,c29 0 3,c29 1 3]
def C7:List Clm:=[c29 0 1,c29 0 2,c29 0 3]
theorem d29_ok:yZ qY=0:=by kernel_rfl
theorem hours6:uT qY l29 6 1 3=C6.map fun c=>⟨c,-1⟩:=by kernel_rfl
theorem hours7:uT qY l29 7 1 3=C7.map fun c=>⟨c,-1⟩:=by kernel_rfl
theorem set6:uG (C6.map Clm.right)=[0,1]:=by
 have h:uH (C6.map Clm.right)=[0,0,0,1,1,1]:=by
  refine List.Perm.eq_of_pairwise (fun a b _ _ h1 h2=>by omega) (sortI_le _) (by decide) ((sortI_perm' _).trans (by decide))
 unfold uG
 rw[h]
 rfl
theorem allS6:allS qY l29 1 3 6=C6.map fun c=>⟨c,-1⟩:=by
 have h:=hoursF_inj qY l29 6 1 3
 rw[hours6]at h
 have e:allS qY l29 1 3 6=xA fndK (uT qY l29 6 1 3):=rfl
 rw[e,hours6]
 exact(sortK_is (n:=4) (fun _=>rfl) h (.refl _) (of_decide_eq_true (by kernel_rfl))).symm
theorem allS7:allS qY l29 1 3 7=C7.map fun c=>⟨c,-1⟩:=by
 have h:=hoursF_inj qY l29 7 1 3
 rw[hours7]at h
 have e:allS qY l29 1 3 7=xA fndK (uT qY l29 7 1 3):=rfl
 rw[e,hours7]
 exact(sortK_is (n:=4) (fun _=>rfl) h (.refl _) (of_decide_eq_true (by kernel_rfl))).symm
theorem ofL6:kK qY l29 1 3 6=C6:=by
 unfold kK
 rw[allS6]
 rfl
theorem ofL7:kK qY l29 1 3 7=C7:=by
 unfold kK
 rw[allS7]
 rfl
theorem allE6:allE qY l29 1 3 6=0:=by kernel_rfl
theorem allE7:allE qY l29 1 3 7=0:=by kernel_rfl
theorem ofE6:ofE qY l29 1 3 6=0:=by
 unfold ofE
 rw[allE6,ofL6]
 rfl
theorem ofE7:ofE qY l29 1 3 7=0:=by
 unfold ofE
 rw[allE7,ofL7]
 rfl
theorem ask6:pN qY C6=0:=by kernel_rfl
theorem ask7:pN qY C7=0:=by kernel_rfl
def o29(i:Int):List Ord':=[⟨0,0,6,false⟩,⟨1,0,6,false⟩,⟨1,i,6,true⟩,⟨2,0,6,false⟩,⟨2,i,6,true⟩,⟨3,i,6,true⟩]
theorem acc0:accB qY (vZ [0] C6) (o29 0)=true:=by kernel_rfl
theorem acc1:accB qY (vZ [1] C6) (o29 1)=true:=by kernel_rfl
theorem accn:accB qY (vZ [] C6) []=true:=by kernel_rfl
theorem acc7:accB qY C7 (o29 0)=true:=by kernel_rfl
theorem outs7:(tL qY C7).length=3:=by kernel_rfl
theorem small29:(qY).hours≤30∧(qY).F.length≤8∧((qY).R.length:Int)*(qY).hours≤1024:=by decide
theorem clms6:ClmsOk qY C6:=by have:=of_ok ofE6;rwa [ofL6]at this
theorem clms7:ClmsOk qY C7:=by have:=of_ok ofE7;rwa [ofL7]at this
theorem make_of{C:List Clm}(hC:ClmsOk qY C)(ha:pN qY C=0){L:List Ord'}(h:accB qY C L=true):xU qY C=true:=
 acc_make hC.ok (accB_iff.1 h) ha (plan_small small29.1 small29.2.1 small29.2.2)
theorem ask_own(rs:List Int):pN qY (vZ rs C6)=0:=askE_sub clms6.ok (ownC_sub rs C6) ask6
theorem make0:xU qY (vZ [0] C6)=true:=make_of (ownC_ok clms6 _) (ask_own _) acc0
theorem make1:xU qY (vZ [1] C6)=true:=make_of (ownC_ok clms6 _) (ask_own _) acc1
theorem maken:xU qY (vZ [] C6)=true:=make_of (ownC_ok clms6 _) (ask_own _) accn
theorem make7:xU qY C7=true:=make_of clms7 ask7 acc7
theorem make6:xU qY C6=false:=by
 cases hm:xU qY C6 with
 |false=>rfl
 |true=>
  have ha:=make_acc d29_ok clms6 hm
  obtain⟨_,_,_,hb,hp⟩:=read_zero ha.rd
  have ho:=acc_oth clms6.ok ha
  have h1:=ho.sum 0 1 (by decide) (by decide)
  have h2:=ho.wat 0 r29 1 rfl (by decide)
  have h0:=ho.pos 0 (((1:Nat):Int)-r29.delay)
  have hok:RchOk r29:=RchOk.of (yA (zP d29_ok).2 (i:=0) rfl)
  have h3:=(worstF_le hok h0.1).2
  have hw:zV (vV qY C6) (K2 ((0:Nat):Int) ((1:Nat):Int))=12:=by kernel_rfl
  have hk:0≤kidS (qY).R (fun i k=>zV (xJ (xA yF (xG qY C6))) (K3 k i false)) 0 ((1:Nat):Int):=by
   unfold kidS
   refine uQ fun c hc=>?_
   split
   ·split
    ·exact(lit_small hb _).1
    ·exact Int.le_refl _
   ·exact Int.le_refl _
  have hcap:zV (xJ (xA yF (xG qY C6))) (K3 (((1:Nat):Int)-r29.delay) ((0:Nat):Int) false)≤10:=by
   have hbr:=(brok_nil (d:=qY) (fun p hp=>(plsFrom_mem.1 hp).2)).1 (make_on d29_ok clms6.ok hm).2.2.2.1
   have:=(hbr.1 (0,0) (plsFrom_mem.2 (by decide)) r29 rfl).1
   rw[gate_lit]at this
   exact this
  rw[hw]at h1
  have h4:((1:Nat):Int).toNat=1:=rfl
  rw[h4]at h1 h2
  omega
theorem open6:tQ qY l29 1 3 6=0:=by
 have h:=(ref_ok d29_ok clms6 ask6 (plan_small small29.1 small29.2.1 small29.2.2) make6).1
 unfold tQ
 rw[ofE6,ofL6,h,set6]
 decide
theorem why6:pB qY l29 1 3 6=(refOf qY C6 (jZ qY C6),true,0):=by
 have:=why_on open6 (by rw[ofL6];exact make6)
 rwa [ofL6]at this
theorem first6:(jZ qY C6).length=2:=by
 have e:jZ qY C6=[0,1]:=by
  unfold jZ
  rw[set6]
  have hs:setsL [0,1]=[[],[0],[1],[0,1]]:=by kernel_rfl
  have hall:vZ [0,1] C6=C6:=by kernel_rfl
  rw[hs,List.find?_cons_of_neg (by rw[maken];decide),List.find?_cons_of_neg (by rw[make0];decide),List.find?_cons_of_neg (by rw[make1];decide),List.find?_cons_of_pos (by rw[hall,make6];rfl)]
  rfl
 rw[e];rfl
theorem prc_ex{d:Dis}{T:SS}{p:Pl}{x:Rch}(hx:d.R[p.1]?=some x)(hu:T.u (atK p)=false)(hm:T.m (atK p)≠0)(hf:fltO d T p=none): ∃q,prcO d T p=some q:=by
 unfold fltO at hf
 unfold prcO
 rw[hx]at hf ⊢
 dsimp only at hf ⊢
 rw[hu,if_neg Bool.false_ne_true,if_neg hm]at hf ⊢
 cases hv:tZ x (T.m (atK p)) with
 |none=>rw[hv]at hf;cases hf
 |some v=>
  rw[hv]at hf
  dsimp only at hf ⊢
  by_cases hd:(p.2:Int)<x.delay
  ·rw[if_pos hd]at hf;cases hf
  ·rw[if_pos (by omega)];exact⟨_,rfl⟩
theorem solve7:(yH qY C7).2.2=0∧(yH qY C7).1.length=6:=by
 obtain⟨_,hn,_,_,hs⟩:=make_on d29_ok clms7.ok make7
 have hT:Tree (qY).R:=wP (zP d29_ok).2
 rw[hs]
 refine⟨rfl,?_⟩
 dsimp only
 rw[(uY _).length_eq]
 unfold xG
 rw[List.length_append,outs7,List.length_map]
 have hu:=no_unknown hT hn
 have hm: ∀p:Pl,(uK qY C7).m (atK p)=zV (vV qY C7) (atK p):=fun p=>by
  have h:=lst_m (ik:=tZ) (R:=(qY).R) (H:=(qY).hours.toNat) (base:=zV (vV qY C7)) hT (atK p)
  rw[wY (fun q hq=>if_neg (fun e=>by
   obtain⟨h1,_⟩:=mem_pls.1 hq
   have h2:q.1=0:=by have:(qY).R.length=1:=rfl;omega
   have h3:(qY).R[q.1]?=some r29:=by rw[h2];rfl
   rw[upK_some h3]at e
   have:=(K2_inj.1 e).1
   have h4:r29.up= -1:=rfl
   omega)),Int.add_zero]at h
  exact h
 have hp:yL (qY).R.length (qY).hours.toNat=[(0,0),(0,1),(0,2),(0,3)]:=by kernel_rfl
 unfold schedC
 have hmem: ∀p:Pl,p∈[(0,0),(0,1),(0,2),(0,3)]→p∈yL (qY).R.length (qY).hours.toNat:=fun p h=>by rw[hp];exact h
 have e0:prcO qY (uK qY C7) (0,0)=none:=by
  unfold prcO
  rw[show (qY).R[((0,0):Pl).1]?=some r29 from rfl]
  dsimp only
  rw[hu (0,0) (hmem _ (by simp)),if_neg Bool.false_ne_true,hm,if_pos (show zV (vV qY C7) (atK (0,0))=0 by kernel_rfl)]
 obtain⟨q1,e1⟩:=prc_ex (d:=qY) (T:=uK qY C7) (p:=(0,1)) (x:=r29) rfl (hu _ (hmem _ (by simp))) (by rw[hm,show zV (vV qY C7) (atK (0,1))=6 by kernel_rfl];decide) (hn _ (hmem _ (by simp)))
 obtain⟨q2,e2⟩:=prc_ex (d:=qY) (T:=uK qY C7) (p:=(0,2)) (x:=r29) rfl (hu _ (hmem _ (by simp))) (by rw[hm,show zV (vV qY C7) (atK (0,2))=6 by kernel_rfl];decide) (hn _ (hmem _ (by simp)))
 obtain⟨q3,e3⟩:=prc_ex (d:=qY) (T:=uK qY C7) (p:=(0,3)) (x:=r29) rfl (hu _ (hmem _ (by simp))) (by rw[hm,show zV (vV qY C7) (atK (0,3))=6 by kernel_rfl];decide) (hn _ (hmem _ (by simp)))
 rw[hp,List.filterMap_cons,e0,List.filterMap_cons,e1,List.filterMap_cons,e2,List.filterMap_cons,e3]
 rfl
open Go.Shelf Go.Sort Go.RowKit Go.WideMaps
abbrev nilA:AV:=.slv nilS
theorem ditch_c(σ:List Ent):SCall prog 15 [] σ (Is (disV qY) σ):=by
 refine zZ func15 rfl (by simp) ?_
 refine xX 127 10 ?_
 refine xX 125 4 ?_
 repeat' first|(show EX _ _ (Code.seq (Code.region 3 _ _) _) _ _;refine Stuck.out ?_)|(refine zwOS ?_;intros)|(apply qX;exact zD;rfl;rfl;exact zlt)|(refine xB ?_;intros)|fail
 all_goals try refine Stuck.mk ?_
 rename Nat=>b2;revert b2;rename Nat=>b1;revert b1;rename Nat=>b0;revert b0
 intro b0 b1 b2
 refine yS (s':=⟨[(0,.ptr b0 0),(2,.ptr b2 0)],.cells b2 [.str nm0,.int .i64 4,.int .i64 99,.int .i64 99,rchs [r29],nilA,nilA,nilA,nilA,nilA] 31::.cells b0 [.str nm0,.int .i64 0,.int .i64 0,.int .i64 0,nilA,nilA,nilA,nilA,nilA,nilA] 31::.row nilS 125 4 []::.row nilS 127 10 []::σ,[],Tryz.f15.ntmps⟩) (St.le_of zC yY) ?_
 refine yW ?_;intros
 refine zU (fun(z:Nat×Value×Value)=>(⟨[(0,.ptr b0 0),(2,.ptr b2 0),(12,.int .i64 (z.1:Nat))],.cells b2 [.str nm0,.int .i64 4,.int .i64 99,.int .i64 99,rchs [r29],.slv z.2.1,nilA,.slv z.2.2,nilA,nilA] 31::.cells b0 [.str nm0,.int .i64 0,.int .i64 0,.int .i64 0,nilA,nilA,nilA,nilA,nilA,nilA] 31::.row z.2.1 125 4 ((List.replicate z.1 f29).map frmC)::.row z.2.2 127 10 (((List.range z.1).map fun i:Nat=>g29 i).map rgtC)::σ,[],Tryz.f15.ntmps⟩:St)) (fun z=>z.1≤2) (fun z=>2-z.1) (0,nilS,nilS) (Nat.zero_le _) (St.le_of zC yY) ?_
 intro z hI
 obtain⟨k,v1,v2⟩:=z
 dsimp only at hI ⊢
 by_cases hk:k<2
 ·have e1:(List.replicate (k+1) f29).map frmC=(List.replicate k f29).map frmC++[frmC f29]:=by rw[List.replicate_succ'];simp
  have e2:((List.range (k+1)).map fun i:Nat=>g29 i).map rgtC=((List.range k).map fun i:Nat=>g29 i).map rgtC++[rgtC (g29 k)]:=by rw[List.range_succ];simp
  have l1:((List.replicate k f29).map frmC).length=k:=by simp
  have l2:(((List.range k).map fun i:Nat=>g29 i).map rgtC).length=k:=by simp
  generalize (List.replicate k f29).map frmC=A at e1 l1 ⊢
  generalize ((List.range k).map fun i:Nat=>g29 i).map rgtC=B at e2 l2 ⊢
  refine yW ?_;intros
  rename_i w0 w1 w2 w3
  refine⟨(k+1,w1,w3),by dsimp only;omega,by dsimp only;omega,?_⟩
  dsimp only
  rw[e1,e2]
  exact(St.le_of zC zJ)
 ·obtain rfl:k=2:=by omega
  refine yW ?_;intros
  refine zS (σ3:=.row v1 125 4 ((List.replicate 2 f29).map frmC)::.row v2 127 10 (((List.range 2).map fun i:Nat=>g29 i).map rgtC)::σ) .nil zG zJ ?_
  refine xS .here (.agg (.same (.same (.same (.same (.same (.here (.same (.same (.same (.same (.nil))))))))))) .nil) ?_
  refine xS .here (.agg (.same (.same (.same (.same (.same (.same (.same (.here (.same (.same (.nil))))))))))) .nil) ?_
  refine xK (sz:=2) (.agg (.same (.same (.same (.same (.same (.same (.here (.same (.same (.same (.nil))))))))))) .nil) ?_
  refine xK (sz:=4) (.agg (.same (.same (.same (.same (.same (.same (.same (.same (.here (.same (.nil))))))))))) .nil) ?_
  refine xK (sz:=4) (.agg (.same (.same (.same (.same (.same (.same (.same (.same (.same (.here .nil)))))))))) .nil) ?_
  exact zY .mk
open Go.Shelf Go.Sort Go.RowKit Go.WideMaps
theorem awake_c(σ:List Ent):SCall prog 4 [] σ (Is (.bool true) σ):=by
 refine zZ func4 rfl (by simp) ?_
 have hmk:xU qY (kK qY l29 1 3 6)=false:=by rw[ofL6];exact make6
 have cw:=fun σ=>why_c qY l29 1 3 6 σ
 have ch:=fun σ=>holdsR_c open6 hmk small29.1 small29.2.1 σ
 rw[why6]at cw ch
 have hf:=first6
 have ce:=fun σ=>of_c qY l29 1 3 7 σ
 rw[ofE7,ofL7,if_pos rfl]at ce
 have cm:=fun σ=>make_c qY d29_ok C7 clms7 σ
 rw[make7,solve7.1]at cm
 have h6:=solve7.2
 have hp:=plan_acc d29_ok clms7 make7
 have ca:=fun σ=>accepts_c qY d29_ok C7 clms7 (yH qY C7).1 σ
 rw[hp,(accB_iff.1 hp).rd]at ca
 generalize hL:(yH qY C7).1=L at *
 have hr:(refOf qY C6 (jZ qY C6)).rights.length=2:=hf
 generalize refOf qY C6 (jZ qY C6)=r at *
 have hc:C7.length=3:=rfl
 generalize C7=C at *
 refine xX 307 3 ?_
 repeat' first|(show EX _ _ (Code.seq (Code.region 2 _ _) _) _ _;refine Stuck.out ?_)|(refine vW ?_;intros)|(apply yQ;exact zD;rfl;rfl;refine zL ?_;exact ditch_c _)|fail
 all_goals try refine Stuck.mk ?_
 rename Nat=>b0;revert b0
 intro b0
 refine yS (s':=⟨[(1,.ptr b0 0)],.cells b0 (disC qY) 31::.row nilS 307 3 []::σ,[],f4.ntmps⟩) (St.le_of zC yY) ?_
 repeat' first|(refine xD (.buildSlice _ _ _) ?_;refine exl_shutC (env':=[(16,dedV ⟨1,3,1,1,0,[],0,0,7⟩),(1,.ptr b0 0)]) (σ':=.cells b0 (disC qY) 31::σ) (.there .here) (ShutEnts.refl _) (by repeat (first|exact .nil|refine .cons rfl (.same .nil) ?_|refine .cons rfl (.agg (.same (.same (.same (.same (.same (.here (.same (.same (.same .nil))))))))) .nil) ?_)) ?_)|(show EX _ _ (Code.seq (Code.region 3 _ _) _) _ _;refine Stuck.out ?_)|(refine vW ?_;intros)|fail
 all_goals try refine Stuck.mk ?_
 rename Value=>v
 refine yS (s':=⟨[(2,.slv v),(1,.ptr b0 0)],.row v 35 9 (l29.map dedC)::.cells b0 (disC qY) 31::σ,[],f4.ntmps⟩) (St.le_of zC yY) ?_
 refine ex_seal (env':=[(2,deds l29),(1,.ptr b0 0)]) .here (by repeat (first|exact .nil|refine .same rfl ?_|refine .here rfl ?_)) ?_
 repeat' first|(show EX _ _ (Code.seq (Code.region 4 _ _) _) _ _;refine Stuck.out ?_)|(refine vW ?_;intros)|(apply yQ;exact zD;rfl;rfl;refine zL ?_;exact cw _)|fail
 all_goals try refine Stuck.mk ?_
 rename Nat=>b3;revert b3
 intro b3
 refine yS (s':=⟨[(5,.int .i64 0),(4,.bool true),(3,.ptr b3 0),(2,deds l29),(1,.ptr b0 0)],.cells b3 (rfC r) 48::.cells b0 (disC qY) 31::σ,[],f4.ntmps⟩) (St.le_of zC yY) ?_
 repeat' first|(show EX _ _ (Code.seq (Code.region 7 _ _) _) _ _;refine Stuck.out ?_)|(refine vW ?_;intros)|(apply yQ;exact zD;rfl;rfl;refine zL ?_;first|exact ch _|exact ce _|exact cm _)|fail
 all_goals try refine Stuck.mk ?_
 refine yS (s':=⟨[(12,.int .i64 0),(11,.bool true),(10,ords L),(9,.int .i64 0),(8,clms C),(7,.int .i64 0),(6,.bool true),(5,.int .i64 0),(4,.bool true),(3,.ptr b3 0),(1,.ptr b0 0)],.cells b3 (rfC r) 48::.cells b0 (disC qY) 31::σ,[],f4.ntmps⟩) (St.le_of zC yY) ?_
 repeat' first|(show EX _ _ (Code.seq (Code.region 8 _ _) _) _ _;refine Stuck.out ?_)|(refine vW ?_;intros)|(apply yQ;exact zD;rfl;rfl;refine zL ?_;exact ca _)|fail
 all_goals try refine Stuck.mk ?_
 refine yS (s':=⟨[(14,.int .i64 0),(13,.bool true),(12,.int .i64 0),(11,.bool true),(10,ords L),(9,.int .i64 0),(8,clms C),(7,.int .i64 0),(6,.bool true),(5,.int .i64 0),(4,.bool true),(3,.ptr b3 0)],.cells b3 (rfC r) 48::σ,[],f4.ntmps⟩) (St.le_of zC yY) ?_
 refine yW ?_;intros
 all_goals
  rw[h6]
  refine zS (σ3:=σ) .nil zG zJ ?_
  exact zY .mk
open Go.Shelf Go.Sort Go.RowKit Go.WideMaps
def srvStep(f:BkF)(o:Ord'):BkF:=if o.outlet=true then vY f (K2 o.index o.hour) o.litres else f
def srvF(L:List Ord'):BkF:=L.foldl srvStep (fun _=>none)
def srcStep(f:BkF)(c:Clm):BkF:=vY f (K2 c.farm c.hour) (-c.litres)
def srcF(C:List Clm)(f:BkF):BkF:=C.foldl srcStep f
theorem srv_val(q:List KL): ∀(L:List Ord') (f:BkF),zV (L.foldl srvStep f) q=zV f q+zF (fun o=>if o.outlet=true then (if K2 o.index o.hour=q then o.litres else 0)else 0) L
 |[],f=>by simp[zF]
 |o::L,f=>by
  rw[List.foldl_cons,srv_val q L,zF]
  unfold srvStep
  split
  ·rw[wD]
   by_cases h:q=K2 o.index o.hour
   ·rw[if_pos h,if_pos h.symm];omega
   ·rw[if_neg h,if_neg (fun e=>h e.symm)];omega
  ·omega
theorem src_val(q:List KL): ∀(C:List Clm) (f:BkF),zV (C.foldl srcStep f) q=zV f q-zF (fun c=>if K2 c.farm c.hour=q then c.litres else 0) C
 |[],f=>by simp[zF]
 |c::C,f=>by
  rw[List.foldl_cons,src_val q C,zF]
  unfold srcStep
  rw[wD]
  by_cases h:q=K2 c.farm c.hour
  ·rw[if_pos h,if_pos h.symm];omega
  ·rw[if_neg h,if_neg (fun e=>h e.symm)];omega
theorem srv_int: ∀{L:List Ord'} {f:BkF},IntV f→IntV (L.foldl srvStep f)
 |[],_,h=>h
 |o::L,f,h=>srv_int (L:=L) (by
  unfold srvStep
  split
  ·exact h.add _ _
  ·exact h)
theorem src_int: ∀{C:List Clm} {f:BkF},IntV f→IntV (C.foldl srcStep f)
 |[],_,h=>h
 |_::C,f,h=>src_int (C:=C) (h.add _ _)
theorem sum_le_len{α:Type}{f:α→Int}: ∀{l:List α},(∀x∈l,0≤f x∧f x≤1073741824)→0≤zF f l∧zF f l≤l.length*1073741824
 |[],_=>by simp[zF]
 |x::l,h=>by
  have h1:=h x (by simp)
  have h2:=sum_le_len (l:=l) fun y hy=>h y (by simp[hy])
  simp only[zF,List.length_cons]
  omega
theorem served_c(C:List Clm)(L:List Ord')(hCl:C.length≤4096)(hLl:L.length≤4096)
  (hLo: ∀o∈L,(0≤o.litres∧o.litres≤1073741824)∧(0≤o.index∧o.index≤4096)∧0≤o.hour∧o.hour≤4096)
  (hCo: ∀c∈C,(0≤c.litres∧c.litres≤1073741824)∧(0≤c.farm∧c.farm≤4096)∧0≤c.hour∧c.hour≤4096)
  (hs: ∀q,zF (fun o=>if o.outlet=true then (if K2 o.index o.hour=q then o.litres else 0)else 0) L=zF (fun c=>if K2 c.farm c.hour=q then c.litres else 0) C) (σ:List Ent):
  SCall prog 10 [clms C,ords L] σ (Is (.bool true) σ):=by
 refine zZ func10 rfl (by simp) ?_
 have hz0:IntV (fun _=>none):=fun k x h=>by cases h
 have hLb: ∀k q,0≤zV (srvF (L.take k)) q∧zV (srvF (L.take k)) q≤4398046511104:=fun k q=>by
  unfold srvF
  rw[srv_val]
  have:=sum_le_len (f:=fun o:Ord'=>if o.outlet=true then (if K2 o.index o.hour=q then o.litres else 0)else 0) (l:=L.take k) (fun o ho=>by
   have:=hLo o (List.mem_of_mem_take ho)
   split
   ·split<;>omega
   ·omega)
  rw[List.length_take]at this
  have e:zV (fun _=>none) q=0:=rfl
  omega
 have hLi: ∀k,IntV (srvF (L.take k)):=fun k=>srv_int hz0
 have hLm:(L.map ordC).length=L.length:=List.length_map _
 have hCm:(C.map clmC).length=C.length:=List.length_map _
 repeat' first|(refine xD (.makeMap _ _) ?_;refine tD [false,false] rfl rfl rfl (vE [false,false]) ?_;intro bm)|(refine yX ?_;intros)|refine zTn ?_|(refine yV ?_ ?_<;>(intro z;cases z with|_ h)<;>intro hp)|exact nl|cases ‹BV _ _›|exact wG|fail
 refine zU (fun(z:Nat×Nat)=>(⟨[(0,clms C),(5,.mp bm),(13,ords L),(14,.int .i64 L.length),(15,.int .i64 (z.1:Nat))],.kmap bm [false,false] (srvF (L.take z.1)) z.2::σ,[],f10.ntmps⟩:St)) (fun z=>z.1≤L.length) (fun z=>L.length-z.1) (0,0) (Nat.zero_le _) (St.le_of zC yY) ?_
 intro z hI
 obtain⟨k,n⟩:=z
 dsimp only at hI ⊢
 by_cases hk:k<L.length
 ·obtain⟨o,ho⟩:=zH hk
  have go:=ord_get ho
  obtain⟨h1,h2,h3⟩:=hLo o (List.mem_of_getElem? ho)
  have hnx:srvF (L.take (k+1))=srvStep (srvF (L.take k)) o:=by
   unfold srvF
   rw[List.take_add_one,ho]
   simp
  have hfi:=hLi k
  have hbn:=hLb k (K2 o.index o.hour)
  clear hLb hLi hLo hCo hs
  generalize srvF (L.take k)=f at hnx hfi hbn ⊢
  unfold srvStep at hnx
  have hkf:KFit [false,false] (K2 o.index o.hour):=tP (by omega) (by omega)
  cases hb:o.outlet with
  |true=>
   rw[hb,if_pos rfl]at hnx
   obtain⟨oh,oi,ol,ob⟩:=o
   dsimp only at hb hnx hbn h1 h2 h3 hkf
   subst hb
   replace go:(L.map ordC)[k]?=some [.int .i64 oh,.int .i64 oi,.int .i64 ol,.bool true]:=go
   repeat' first|(show EX _ _ (Code.seq (Code.region 5 _ _) _) _ _;refine Stuck.out ?_)|(refine vW ?_;intros)|refine zTn ?_|(refine yV ?_ ?_<;>(intro z;cases z with|_ h)<;>intro hp)|exact nl|cases ‹BV _ _›|exact wG|fail
   all_goals try refine Stuck.mk ?_
   rename Nat=>b7;revert b7
   intro b7
   refine uZ ?_;and_intros<;>first|exact nl|intros
   refine yB (fun e=>e=.cells b7 [.int .i64 oh,.int .i64 oi,.int .i64 ol,.bool true] 95) [6,10] 12 rfl (by kernel_rfl) rfl ?_
   simp only[List.take_succ_cons,List.take_zero,List.drop_succ_cons,List.drop_zero]
   repeat' first|(refine zgd ?_;first|(refine xH rfl rfl (zR (z:=.i 0) (k:=K2 oi oh) rfl pL pK rfl rfl yP rfl rfl hkf (xZ hfi _) rfl) ?_)|(refine yN rfl rfl (wS (z:=.i 0) (k:=K2 oi oh) rfl pL pK rfl rfl rfl rfl hkf (fun _=>qJ)) ?_;rintro _ _ ⟨es,clock,e,hE,he,hek⟩;refine⟨zks,?_⟩)|(refine xH rfl rfl (xC (z:=.i 0) (k:=K2 oi oh) rfl pL pK rfl rfl hE yP rfl rfl hkf (vH hfi _) rfl) ?_))|(refine xD (.entryStore _ _ _ _) ?_;refine yE rfl rfl (xQ (v:=.i _) hE he hek rfl rfl rfl rfl (qJ) (wA _ _ _ _)) ?_)|(refine yX ?_;intros)|refine zT ?_|refine vX rfl rfl rfl ?_ ?_|refine drf_three rfl rfl rfl rfl ?_ ?_ ?_|(refine yV ?_ ?_<;>(intro z;cases z with|_ h)<;>intro hp)|exact nl|cases ‹BV _ _›|exact wG|fail
   all_goals
    try rw[uE (show-9223372036854775808≤zV f (K2 oi oh)+ol∧zV f (K2 oi oh)+ol≤9223372036854775807 by omega)]
    exact⟨(k+1,cntK f (K2 oi oh) n),hk,by dsimp only;omega,by dsimp only;rw[hnx];exact(St.le_of zC zJ)⟩
  |false=>
   rw[hb,if_neg Bool.false_ne_true]at hnx
   obtain⟨oh,oi,ol,ob⟩:=o
   dsimp only at hb
   subst hb
   replace go:(L.map ordC)[k]?=some [.int .i64 oh,.int .i64 oi,.int .i64 ol,.bool false]:=go
   refine uZ ?_;and_intros<;>first|exact nl|intros
   exact⟨(k+1,n),hk,by dsimp only;omega,by dsimp only;rw[hnx];exact(St.le_of zC zJ)⟩
 ·obtain rfl:k=L.length:=by omega
  have hGi: ∀k,IntV (srcF (C.take k) (srvF L)):=fun k=>src_int (by have:=hLi L.length;rw[List.take_length]at this;exact this)
  have hGb: ∀k q,-4398046511104≤zV (srcF (C.take k) (srvF L)) q∧zV (srcF (C.take k) (srvF L)) q≤4398046511104:=fun k q=>by
   unfold srcF
   rw[src_val]
   have h1:=hLb L.length q
   rw[List.take_length]at h1
   have:=sum_le_len (f:=fun c:Clm=>if K2 c.farm c.hour=q then c.litres else 0) (l:=C.take k) (fun c hc=>by
    have:=hCo c (List.mem_of_mem_take hc)
    split<;>omega)
   rw[List.length_take]at this
   omega
  have hend: ∀q,zV (srcF C (srvF L)) q=0:=fun q=>by
   unfold srcF srvF
   rw[src_val,srv_val,hs q]
   have e:zV (fun _=>none) q=0:=rfl
   omega
  rw[List.take_length]
  clear hLb hLi hLo hs hk hI
  generalize srvF L=F0 at hGi hGb hend ⊢
  refine uZ ?_;and_intros<;>first|exact nl|intros
  refine zU (fun(z:Nat×Nat)=>(⟨[(5,.mp bm),(34,clms C),(35,.int .i64 C.length),(36,.int .i64 (z.1:Nat))],.kmap bm [false,false] (srcF (C.take z.1) F0) z.2::σ,[],f10.ntmps⟩:St)) (fun z=>z.1≤C.length) (fun z=>C.length-z.1) (0,n) (Nat.zero_le _) (St.le_of zC yY) ?_
  intro z hI
  clear n
  obtain⟨k,n⟩:=z
  dsimp only at hI ⊢
  by_cases hk:k<C.length
  ·obtain⟨c,hc⟩:=zH hk
   have gc:=pT hc
   obtain⟨h1,h2,h3⟩:=hCo c (List.mem_of_getElem? hc)
   have hnx:srcF (C.take (k+1)) F0=vY (srcF (C.take k) F0) (K2 c.farm c.hour) (-c.litres):=by
    unfold srcF
    rw[List.take_add_one,hc]
    simp[srcStep]
   have hfi:=hGi k
   have hbn:=hGb k (K2 c.farm c.hour)
   clear hGi hGb hCo hend
   generalize srcF (C.take k) F0=f at hnx hfi hbn ⊢
   have hkf:KFit [false,false] (K2 c.farm c.hour):=tP (by omega) (by omega)
   have hnx2:vY f (K2 c.farm c.hour) (-c.litres)=xN f (K2 c.farm c.hour) (.i (zV f (K2 c.farm c.hour)-c.litres)):=rfl
   rw[hnx2]at hnx
   refine uZ ?_;and_intros<;>first|exact nl|intros
   rename Nat=>b9;revert b9
   intro b9
   refine yB (fun e=>e=.cells b9 (clmC c) 57) [6,10] 12 rfl (by kernel_rfl) rfl ?_
   simp only[List.take_succ_cons,List.take_zero,List.drop_succ_cons,List.drop_zero]
   repeat' first|(refine zgd ?_;first|(refine xH rfl rfl (zR (z:=.i 0) (k:=K2 c.farm c.hour) rfl pL pK rfl rfl yP rfl rfl hkf (xZ hfi _) rfl) ?_)|(refine yN rfl rfl (wS (z:=.i 0) (k:=K2 c.farm c.hour) rfl pL pK rfl rfl rfl rfl hkf (fun _=>qJ)) ?_;rintro _ _ ⟨es,clock,e,hE,he,hek⟩;refine⟨zks,?_⟩)|(refine xH rfl rfl (xC (z:=.i 0) (k:=K2 c.farm c.hour) rfl pL pK rfl rfl hE yP rfl rfl hkf (vH hfi _) rfl) ?_))|(refine xD (.entryStore _ _ _ _) ?_;refine yE rfl rfl (xQ (v:=.i _) hE he hek rfl rfl rfl rfl (qJ) (wA _ _ _ _)) ?_)|(refine yX ?_;intros)|refine zT ?_|refine vX rfl rfl rfl ?_ ?_|refine drf_three rfl rfl rfl rfl ?_ ?_ ?_|(refine yV ?_ ?_<;>(intro z;cases z with|_ h)<;>intro hp)|exact nl|cases ‹BV _ _›|exact wG|fail
   all_goals
    try rw[uE (show-9223372036854775808≤zV f (K2 c.farm c.hour)-c.litres∧zV f (K2 c.farm c.hour)-c.litres≤9223372036854775807 by omega)]
    exact⟨(k+1,cntK f (K2 c.farm c.hour) n),hk,by dsimp only;omega,by dsimp only;rw[hnx];exact(St.le_of zC zJ)⟩
  ·obtain rfl:k=C.length:=by omega
   have hgi:=hGi C.length
   rw[List.take_length]at hgi ⊢
   clear hGi hGb hCo
   generalize srcF C F0=g at hgi hend ⊢
   repeat' first|(refine xD (.range _ _) ?_;refine zK rfl rfl rfl (g_rangeKm rfl rfl (fun e=>qJ)) ?_;rintro _ _ ⟨r,es,clock,hE⟩)|(refine yX ?_;intros)|refine zTn ?_|(refine yV ?_ ?_<;>(intro z;cases z with|_ h)<;>intro hp)|exact nl|cases ‹BV _ _›|exact wG|fail
   refine zU (fun(z:Array Nat)=>(⟨[(54,.ptr r 0)],.obj r (.mapIter (some bm) clock z clock)::.obj bm (.map es clock)::σ,[],f10.ntmps⟩:St)) (fun z=>True) (fun z=>(leftOf es z).size) #[] (trivial) (St.le_of zC yY) ?_
   intro z hI
   have hky: ∀k x,g k=some x→x=.i 0:=fun k x hx=>by
    obtain⟨m,rfl⟩:=hgi k x hx
    have h9:=hend k
    unfold zV at h9
    rw[hx]at h9
    dsimp only at h9
    rw[h9]
   repeat' first|(refine xD (.next _ _) ?_;refine zK rfl rfl rfl (g_nextKm hE rfl yP (by intro s;exact Upd.here)) ?_;rintro _ _ (hdn|⟨e,k,y,he,hkk,hv,h0,hn,hpp,hm⟩);rotate_left;obtain rfl:=hky k y h0)|(refine xD (.entry _) ?_;apply wW;rfl;rfl;rfl;exact g_entryKm hE he hkk hv rfl yP yP)|(refine yX ?_;intros)|refine zTn ?_|(refine yV ?_ ?_<;>(intro z;cases z with|_ h)<;>intro hp)|exact nl|cases ‹BV _ _›|exact wG|fail
   ·exact⟨_,trivial,hm,(St.le_of zC zJ)⟩
   ·refine zW .nil zG yY (zN ?_)
    rfl
end Go.Proofs.YtaoaafdommlhcaaGreat

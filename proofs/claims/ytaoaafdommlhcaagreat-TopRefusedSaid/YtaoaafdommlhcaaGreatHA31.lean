/- Parts of the proof that belong together: Ja Jb Jc. -/
import Derived.Test.YtaoaafdommlhcaaGreatHA07
import Derived.Test.YtaoaafdommlhcaaGreatHA20
import Derived.Test.YtaoaafdommlhcaaGreatHA26
import Derived.Test.YtaoaafdommlhcaaGreatHA30
set_option maxRecDepth 10000
set_option maxHeartbeats 16000000
set_option linter.unusedSimpArgs false
set_option linter.unusedVariables false
set_option autoImplicit false
open Go.Proofs.Tryz
namespace Go.Proofs.YtaoaafdommlhcaaGreat
theorem clm_one(l:List Clm): ∀y∈l.map clmC,y.all AV.one=true:=by
 intro y hy
 obtain⟨_,_,rfl⟩:=List.mem_map.1 hy
 rfl
abbrev scnC(d:Dis)(C:List Clm):List AV:=[.str d.nm,.int .i64 d.hours,.int .i64 d.cap,.int .i64 d.start,rchs d.R,frms d.F,crps d.C,rgts d.G,dtys d.D,wlls d.W,clms C]
abbrev scnV(d:Dis)(C:List Clm):AV:=.agg (scnC d C)
theorem cloneC_c(l:List Clm)(hl:l.length≤10000)(σ:List Ent):SCall prog 72 [clms l] σ (fun r τ=> ∃v,r=.slv v∧τ=.row v 57 5 (l.map clmC)::σ):=by
 refine zZ func72 rfl (by simp) ?_
 have h1:=clm_one l
 by_cases h0:l=[]
 ·subst h0
  refine xX 57 5 ?_
  repeat' first|(refine xD (.binOp _ _ _ _ _) ?_;refine zK rfl rfl rfl (g_eqlNilE rfl rfl) ?_;rintro _ _ ⟨b⟩)|(refine yX ?_;intros)|(refine yV ?_ ?_<;>(intro z;cases z with|_ h)<;>intro hp)|fail
  ·refine zS (σ3:=.row nilS 57 5 (List.map clmC [])::σ) .nil zG zJ ?_
   exact zY ⟨nilS,rfl,rfl⟩
  ·rename_i v3
   refine zS (σ3:=.row v3 57 5 (List.map clmC [])::σ) .nil zG zJ ?_
   exact zY ⟨v3,rfl,rfl⟩
 ·have hlen:0<(l.map clmC).length:=by rw[List.length_map];exact List.length_pos_iff.2 h0
  repeat' first|(refine zB ?_;intros)|(apply qX;exact zD;rfl;rfl;(apply g_eqlNil;rfl;rfl;exact hlen))|(refine xB ?_;intros)|fail
  rename_i v3
  refine zS (σ3:=.row v3 57 5 (l.map clmC)::σ) .nil zG zJ ?_
  exact zY ⟨v3,rfl,rfl⟩
def idxI(x:Int):List Int→Nat→Int
 |[],_=> -1
 |a::l,k=>if x=a then (k:Int)else idxI x l (k+1)
theorem idxI_has(x:Int): ∀(l:List Int) (k:Nat),decide (0≤idxI x l k)=l.contains x
 |[],k=>by simp[idxI]
 |a::l,k=>by
  unfold idxI
  by_cases h:x=a
  ·subst h;simp
  ·rw[if_neg h,idxI_has x l (k+1)];simp[h]
theorem indexI_c(l:List Int)(hl:l.length≤4000000)(x:Int)(σ:List Ent):SCall prog 89 [ints l,.int .i64 x] σ (Is (.int .i64 (idxI x l 0)) σ):=by
 refine zZ func89 rfl (by simp) ?_
 refine yW ?_;intros
 refine zU (fun(k:Nat)=>(⟨[(0,ints l),(1,.int .i64 x),(7,.int .i64 l.length),(8,.int .i64 k)],σ,[],f89.ntmps⟩:St)) (fun k=>k≤l.length∧idxI x l 0=idxI x (l.drop k) k) (fun k=>l.length-k) 0 (⟨by omega,rfl⟩) (St.le_of zC yY) ?_
 intro k hI
 obtain⟨hI1,hI2⟩:=hI
 by_cases hk:k<l.length
 ·obtain⟨a,ha⟩:=zH hk
  have gx:=wU ha
  rw[wZ ha,idxI]at hI2
  clear ha
  by_cases h0:x=a
  ·rw[if_pos h0]at hI2
   rw[hI2]
   clear hI2
   refine yW ?_;intros
   refine zW .nil zG zJ ?_
   rfl
  ·rw[if_neg h0]at hI2
   refine yW ?_;intros
   exact⟨k+1,⟨hk,hI2⟩,by omega,(St.le_of zC zJ)⟩
 ·rw[List.drop_of_length_le (by omega)]at hI2
  rw[hI2]
  clear hI2
  refine yW ?_;intros
  refine zW .nil zG zJ ?_
  rfl
theorem containsI_c(l:List Int)(hl:l.length≤4000000)(x:Int)(σ:List Ent):SCall prog 31 [ints l,.int .i64 x] σ (Is (.bool (l.contains x)) σ):=by
 refine zZ func31 rfl (by simp) ?_
 rw[←idxI_has x l 0]
 have ci:=fun σ=>indexI_c l hl x σ
 repeat' first|(apply yQ;exact zD;rfl;rfl;refine zL ?_;exact ci _)|(refine xV ?_;and_intros<;>first|exact nl|intros)|cases ‹BV _ _›|fail
 refine zW .nil zG zJ ?_
 rfl
theorem idxRowC_c(l:List Clm)(hl:l.length≤100000)(g:FuncId)(cap:List AV)(p:Clm→Bool)(v:Value)(σ:List Ent)(he:Enters prog g)(hf: ∀c∈l,∀τ,(∀e∈σ,e∈τ)→SCall prog g ([clmV c]++cap) τ (Is (.bool (p c)) τ)):
  SCall prog 128 [.slv v,.fn (.func g) [] cap] (.row v 57 5 (l.map clmC)::σ) (Is (.int .i64 (yG p l 0)) (.row v 57 5 (l.map clmC)::σ)):=by
 refine zZ func128 rfl (by simp) ?_
 have hlm:(l.map clmC).length=l.length:=List.length_map _
 refine yW ?_;intros
 refine zU (fun(k:Nat)=>(⟨[(0,.slv v),(1,.fn (.func g) [] cap),(7,.int .i64 l.length),(8,.int .i64 k)],.row v 57 5 (l.map clmC)::σ,[],Tryz.f128.ntmps⟩:St)) (fun k=>k≤l.length∧yG p l 0=yG p (l.drop k) k) (fun k=>l.length-k) 0 (⟨Nat.zero_le _,rfl⟩) (St.le_of zC yY) ?_
 intro k hI
 obtain⟨hI1,hI2⟩:=hI
 by_cases hk:k<l.length
 ·obtain⟨c,hc⟩:=zH hk
  have hgc:=pT hc
  have hd:=pU p hc
  have cf:=hf c (List.mem_of_getElem? hc) (.row v 57 5 (l.map clmC)::σ) (fun e h=>.tail _ h)
  have hkl:k<(l.map clmC).length:=by rw[hlm];exact hk
  generalize p c=b at cf hd
  clear hf hc
  cases b with
  |true=>
   rw[if_pos rfl]at hd
   rw[hI2,hd]
   clear hI2 hd
   repeat' first|(refine zB ?_;intros)|(apply qX;exact zD;rfl;rfl;(exact zQ rfl rfl he cf))|(refine yV ?_ ?_<;>(intro z;cases z with|_ h)<;>intro hp)|exact nl|fail
   refine zW .nil zG zJ ?_
   rfl
  |false=>
   rw[if_neg (by decide)]at hd
   repeat' first|(refine zB ?_;intros)|(apply qX;exact zD;rfl;rfl;(exact zQ rfl rfl he cf))|(refine xB ?_;intros)|(refine yV ?_ ?_<;>(intro z;cases z with|_ h)<;>intro hp)|exact nl|fail
   exact⟨k+1,⟨hk,by rw[hI2,hd]⟩,by omega,(St.le_of zC zJ)⟩
 ·rw[hI2,List.drop_of_length_le (by omega)]
  refine yW ?_;intros
  refine zW .nil zG zJ ?_
  rfl
theorem deleteC_c(l:List Clm)(hl:l.length≤100000)(g:FuncId)(cap:List AV)(p:Clm→Bool)(v:Value)(σ:List Ent)(he:Enters prog g)(hf: ∀c∈l,∀τ,(∀e∈σ,e∈τ)→SCall prog g ([clmV c]++cap) τ (Is (.bool (p c)) τ)):
  SCall prog 71 [.slv v,.fn (.func g) [] cap] (.row v 57 5 (l.map clmC)::σ) (fun r τ=> ∃v',r=.slv v'∧τ=.row v' 57 5 ((l.filter fun c=>!p c).map clmC)::σ):=by
 refine zZ func71 rfl (by simp) ?_
 have ci:=idxRowC_c l hl g cap p v σ he hf
 by_cases hn:yG p l 0= -1
 ·have hfl:=idx_none hn
  rw[hn]at ci
  rw[hfl]
  repeat' first|(apply yQ;exact zD;rfl;rfl;refine zL ?_;exact ci)|(refine xV ?_;and_intros<;>first|exact nl|intros)|fail
  refine zS (σ3:=.row v 57 5 (l.map clmC)::σ) .nil zG zJ ?_
  exact zY ⟨v,rfl,rfl⟩
 obtain⟨i0,c0,e0,hc0,hp0,hfl0⟩:=idx_some hn
 rw[Nat.zero_add]at e0
 rw[e0]at ci
 have hlt0:=qZ hc0
 have hne:¬ ((i0:Nat):Int)= -1:=by omega
 clear hn e0
 repeat' first|(apply yQ;exact zD;rfl;rfl;refine zL ?_;exact ci)|(refine xV ?_;and_intros<;>first|exact nl|intros)|fail
 have hs0:l.take i0++[c0]++l.drop (i0+1)=l:=by rw[List.append_assoc,List.singleton_append,←wZ hc0,List.take_append_drop]
 have hf0:(l.take (i0+1)).filter (fun c=>!p c)=l.take i0:=by
  rw[List.take_add_one,List.filter_append,hfl0,hc0];simp[hp0]
 refine zU (fun(z:(Int×Int)×Nat×List Clm×List Clm×List Clm)=>(⟨[(0,.slv v),(1,.fn (.func g) [] cap),(5,.int .i64 z.1.1),(6,.int .i64 z.1.2)],.row v 57 5 (z.2.2.2.2.map clmC)::σ,[],f71.ntmps⟩:St)) (fun z=>z.1.1=(z.2.2.1.length:Nat)∧z.1.2=(z.2.1:Nat)∧z.2.1≤l.length∧z.2.2.1++z.2.2.2.1++l.drop z.2.1=z.2.2.2.2∧z.2.2.1.length+z.2.2.2.1.length=z.2.1∧0<z.2.2.2.1.length∧(l.take z.2.1).filter (fun c=>!p c)=z.2.2.1) (fun z=>l.length-z.2.1) (((i0:Int),(i0:Int)+1),i0+1,l.take i0,[c0],l) (⟨by dsimp only;rw[List.length_take,Nat.min_eq_left (by omega)],by dsimp only;omega,hlt0,hs0,by dsimp only;rw[List.length_take,Nat.min_eq_left (by omega)];rfl,Nat.zero_lt_one,hf0⟩) (St.le_of zC yY) ?_
 intro z hI
 obtain⟨⟨i,j⟩,k,A,B,K⟩:=z
 obtain⟨hI1,hI2,hI3,hI4,hI5,hI6,hI7⟩:=hI
 dsimp only at hI1 hI2 hI3 hI4 hI5 hI6 hI7 ⊢
 subst hI1 hI2
 clear ci hc0 hp0 hfl0 hlt0 hs0 hf0 hne
 have hKl:K.length=l.length:=by rw[←hI4];simp;omega
 have hKm:(K.map clmC).length=K.length:=List.length_map _
 by_cases hk:k<l.length
 ·obtain⟨c,hc⟩:=zH hk
  have hKc:K[k]?=some c:=by
   rw[←hI4,List.getElem?_append_right (by simp;omega)]
   simp only[List.length_append,hI5,Nat.sub_self]
   rw[wZ hc];rfl
  have hgc:=pT hKc
  have cf:=fun τ (h: ∀e∈σ,e∈τ)=>hf c (List.mem_of_getElem? hc) τ h
  have hft:(l.take (k+1)).filter (fun c=>!p c)=A++if p c then []else [c]:=by
   rw[List.take_add_one,List.filter_append,hI7,hc]
   cases hp:p c<;>simp[hp]
  have hdr:=wZ hc
  rw[hdr]at hI4
  have hmk: ∀{b:Nat} {T:TypeId} {Z:List AV},∀e∈σ,e∈(.cells b Z T::.row v 57 5 (K.map clmC)::σ:List Ent):=fun e h=>.tail _ (.tail _ h)
  generalize p c=b at cf hft
  clear hf hc hdr
  cases b with
  |true=>
   rw[if_pos rfl,List.append_nil]at hft
   repeat' first|(refine zB ?_;intros)|(apply qX;exact zD;rfl;rfl;(exact zQ rfl rfl he (cf _ hmk)))|(refine xB ?_;intros)|(refine yV ?_ ?_<;>(intro z;cases z with|_ h)<;>intro hp)|exact nl|fail
   refine⟨(((A.length:Nat),(k:Int)+1),k+1,A,B++[c],K),⟨rfl,by dsimp only;omega,hk,by dsimp only;rw[←hI4];simp,by simp only[List.length_append,List.length_singleton];omega,by simp only[List.length_append,List.length_singleton];omega,hft⟩,by dsimp only;omega,?_⟩
   dsimp only
   exact(St.le_of zC zJ)
  |false=>
   rw[if_neg (by decide)]at hft
   obtain⟨b1,B1,rfl⟩: ∃b1 B1,B=b1::B1:=by
    cases B with
    |nil=>simp at hI6
    |cons b1 B1=>exact⟨b1,B1,rfl⟩
   have hI8:(A++[c]).length+(B1++[c]).length=k+1:=by
    simp only[List.length_cons]at hI5
    simp only[List.length_append,List.length_singleton]
    omega
   have hset:(K.map clmC).set A.length (clmC c)=(((A++[c])++(B1++[c])++l.drop (k+1)).map clmC):=by
    rw[←hI4];simp[List.map_set]
   have hAl:A.length<K.length:=by rw[hKl];simp only[List.length_cons]at hI5;omega
   repeat' first|(refine zge ?_;(apply yE;rfl;rfl;focus (apply vB;rfl;rfl;rfl;rfl;rfl;rfl;rotate_left;exact qJ;(first|assumption|omega|(simp only[List.length_map];omega)|(simp only[List.length_set,List.length_map];omega)))))|(refine zB ?_;intros)|(apply qX;exact zD;rfl;rfl;(exact zQ rfl rfl he (cf _ hmk)))|(refine xB ?_;intros)|(refine yV ?_ ?_<;>(intro z;cases z with|_ h)<;>intro hp)|exact nl|fail
   refine⟨(((A.length:Int)+1,(k:Int)+1),k+1,A++[c],B1++[c],(A++[c])++(B1++[c])++l.drop (k+1)),⟨by dsimp only;simp,by dsimp only;omega,hk,rfl,by dsimp only;exact hI8,by dsimp only;simp,hft⟩,by dsimp only;omega,?_⟩
   dsimp only
   rw[←hset]
   exact(St.le_of zC zJ)
 ·obtain rfl:k=l.length:=by omega
  rw[List.take_length]at hI7
  rw[List.drop_length,List.append_nil]at hI4
  rw[hI7]
  have hAl:A.length≤K.length:=by rw[←hI4];simp
  have hKA: ∀Z:List (List AV),(((K.map clmC).take A.length++Z).take A.length)=A.map clmC:=fun Z=>by
   have h1:((K.map clmC).take A.length).length=A.length:=by rw[List.length_take,hKm];omega
   rw[List.take_left' h1,←hI4,List.map_append,List.take_left' (List.length_map _)]
  clear hf hI7
  refine yW ?_;intros
  refine yE rfl rfl (g_clear rfl rfl rfl Upd.here (by omega) rfl rfl) ?_
  repeat' first|(refine zge ?_;(refine zK rfl rfl rfl (g_cutRow (k:=A.length) rfl rfl (fun v'=>Upd.here) rfl rfl (by rw[List.length_append,List.length_take,List.length_replicate,hKm];omega)) ?_;rintro _ _ ⟨v'⟩))|(refine yX ?_;intros)|fail
  rw[hKA]
  refine zS (σ3:=.row v' 57 5 (A.map clmC)::σ) .nil zG zJ ?_
  exact zY ⟨v',rfl,rfl⟩
def vZ(rs:List Int)(C:List Clm):List Clm:=C.filter fun c=>rs.contains c.right
theorem of1_c(rs:List Int)(hrs:rs.length≤4000000)(c:Clm){b:Nat}{σ:List Ent}(hm:Ent.cells b [ints rs] 45∈σ):SCall prog 73 [clmV c,.ptr b 0] σ (Is (.bool (!rs.contains c.right)) σ):=by
 refine zZ func73 rfl (by simp) ?_
 have ci:=fun x σ=>containsI_c rs hrs x σ
 repeat' first|(apply yQ;exact zD;rfl;rfl;refine zL ?_;exact ci _ _)|(refine xV ?_;and_intros<;>first|exact nl|intros)|cases ‹BV _ _›|fail
 refine zW .nil zG zJ ?_
 rfl
theorem ofS_c(d:Dis)(C:List Clm)(hC:C.length≤10000)(rs:List Int)(hrs:rs.length≤4000000)(σ:List Ent):SCall prog 25 [scnV d C,ints rs] σ (Is (scnV d (vZ rs C)) σ):=by
 refine zZ func25 rfl (by simp) ?_
 have cc:=fun σ=>cloneC_c C hC σ
 have e:C.filter (fun c=>!(!rs.contains c.right))=vZ rs C:=by unfold vZ;simp
 have cd:=fun v b σ (hm:Ent.cells b [ints rs] 45∈σ)=>deleteC_c C (by omega) 73 [.ptr b 0] (fun c=>!rs.contains c.right) v σ (zX (by kernel_rfl)) (fun c _ τ hτ=>of1_c rs hrs c (hτ _ hm))
 rw[e]at cd
 clear e
 repeat' first|(refine xD (.call {callee:=.value (.func 72),args:=_,argTypes:=_}) ?_;refine zK rfl rfl rfl (zQ rfl rfl (zX (by kernel_rfl)) (cc _)) ?_;rintro _ _ ⟨v,rfl,rfl⟩)|(refine xD (.call {callee:=.value (.func 71),args:=_,argTypes:=_}) ?_;refine zK rfl rfl rfl (zQ rfl rfl (zX (by kernel_rfl)) (cd _ _ _ yP)) ?_;rintro _ _ ⟨v',rfl,rfl⟩)|(refine yX ?_;intros)|fail
 rename_i v'
 refine zS (σ3:=.row v' 57 5 ((vZ rs C).map clmC)::σ) .nil zG zJ ?_
 exact xS .here (.agg (.same (.same (.same (.same (.same (.same (.same (.same (.same (.same (.here .nil))))))))))) .nil) (zY .mk)
theorem rights_c(d:Dis)(C:List Clm)(hC:C.length≤10000)(σ:List Ent):SCall prog 24 [scnV d C] σ (Is (ints (uG (C.map Clm.right))) σ):=by
 refine zZ func24 rfl (by simp) ?_
 have hlm:(C.map clmC).length=C.length:=List.length_map _
 refine xX 3 1 ?_
 refine yW ?_;intros
 rename Nat=>b1;revert b1
 intro b1
 refine zU (fun(z:Nat×Value)=>(⟨[(1,.ptr b1 0),(2,.slv z.2),(6,clms C),(7,.int .i64 C.length),(8,.int .i64 (z.1:Nat))],.cells b1 (scnC d C) 77::.row z.2 3 1 (((C.take z.1).map Clm.right).map fun n=>[AV.int .i64 n])::σ,[],Tryz.f24.ntmps⟩:St)) (fun z=>z.1≤C.length) (fun z=>C.length-z.1) (0,nilS) (Nat.zero_le _) (St.le_of zC yY) ?_
 intro z hI
 obtain⟨k,v⟩:=z
 dsimp only at hI ⊢
 by_cases hk:k<C.length
 ·obtain⟨c,hc⟩:=zH hk
  have gc:=pT hc
  have hnx:(C.take (k+1)).map Clm.right=(C.take k).map Clm.right++[c.right]:=by rw[List.take_add_one,hc];simp
  have hl1:((C.take k).map Clm.right).length≤10000:=by rw[List.length_map,List.length_take];omega
  have hl2:(((C.take k).map Clm.right).map fun n=>[AV.int .i64 n]).length=((C.take k).map Clm.right).length:=List.length_map _
  clear hc
  have hmp:(((C.take k).map Clm.right).map fun n=>[AV.int .i64 n])++[[AV.int .i64 c.right]]=((C.take (k+1)).map Clm.right).map fun n=>[AV.int .i64 n]:=by rw[hnx];simp
  generalize ((C.take k).map Clm.right).map (fun n=>[AV.int .i64 n])=A at hl2 hmp ⊢
  refine yW ?_;intros
  all_goals
   exact⟨(k+1,_),hk,by dsimp only;omega,by dsimp only;rw[←hmp];exact(St.le_of zC zJ)⟩
 ·obtain rfl:k=C.length:=by omega
  rw[List.take_length]
  have hl1:(C.map Clm.right).length≤10000:=by rw[List.length_map];omega
  generalize C.map Clm.right=l at hl1 ⊢
  have hl3:(uH l).length≤10000:=by rw[(sortI_perm' l).length_eq];exact hl1
  repeat' first|(refine xD (.call {callee:=.value (.func 69),args:=_,argTypes:=_}) ?_;refine zK rfl rfl rfl (zQ rfl rfl (zX (by kernel_rfl)) (sort_c qJ (by omega))) ?_;rintro _ _ ⟨rfl,rfl⟩)|(refine xD (.call {callee:=.value (.func 70),args:=_,argTypes:=_}) ?_;refine zK rfl rfl rfl (zQ rfl rfl (zX (by kernel_rfl)) (compact_c (fun _=>qJ) (by omega))) ?_;rintro _ _ ⟨v1⟩)|(refine yX ?_;intros)|(refine yV ?_ ?_<;>(intro z;cases z with|_ h)<;>intro hp)|exact nl|fail
  refine zS (σ3:=.row v1 3 1 ((uG l).map fun n=>[AV.int .i64 n])::σ) .nil zG zJ ?_
  exact xS .here (.here .nil) (zY .mk)
noncomputable def tQ (d:Dis) (l:List Ded) (frm to known:Int):Int:=
 if ofE d l frm to known≠0 then ofE d l frm to known
 else if (yH d (kK d l frm to known)).2.2≠0 then (yH d (kK d l frm to known)).2.2
 else if 10<(uG ((kK d l frm to known).map Clm.right)).length then 2 else 0
abbrev z0C:List AV:=[cA (.string {data:=#[]}),cA (.int .i64 0),cA (.int .i64 0),cA (.int .i64 0),cA (.slice none 0 0),cA (.slice none 0 0),cA (.slice none 0 0),cA (.slice none 0 0),cA (.slice none 0 0),cA (.slice none 0 0),cA (.slice none 0 0)]
theorem ofL_dis{d:Dis}{l:List Ded}{frm to known:Int}(h:ofE d l frm to known=0):yZ d=0:=by
 have h1:=(ofE_zero h).1
 unfold allE at h1
 by_cases h0:wF xL d l=0
 ·exact(kU h0).1
 ·rw[if_pos h0]at h1;exact absurd h1 h0
theorem openS_c(d:Dis)(l:List Ded)(frm to known:Int)(σ:List Ent):
  SCall prog 22 [disV d,deds l,.int .i64 frm,.int .i64 to,.int .i64 known] σ (Is (.tup [if tQ d l frm to known=0 then scnV d (kK d l frm to known)else .agg z0C,.int .i64 (tQ d l frm to known)]) σ):=by
 refine zZ func22 rfl (by simp) ?_
 have co:=fun σ=>of_c d l frm to known σ
 by_cases h0:ofE d l frm to known≠0
 ·have e:tQ d l frm to known=ofE d l frm to known:=by unfold tQ;rw[if_pos h0]
  rw[e,if_neg h0]
  rw[if_neg h0]at co
  clear e
  generalize ofE d l frm to known=e at h0 co ⊢
  repeat' first|(apply yQ;exact zD;rfl;rfl;refine zL ?_;exact co _)|(refine xV ?_;and_intros<;>first|exact nl|intros)|fail
  all_goals
   refine zS (σ3:=σ) .nil zG zJ ?_
   exact zY .mk
 have h0':ofE d l frm to known=0:=by omega
 rw[if_pos h0',h0']at co
 have hd:=ofL_dis h0'
 have hC:=of_ok h0'
 have hCl:=hC.len
 have ce:tQ d l frm to known=if (yH d (kK d l frm to known)).2.2≠0 then (yH d (kK d l frm to known)).2.2 else if 10<(uG ((kK d l frm to known).map Clm.right)).length then 2 else 0:=by unfold tQ;rw[if_neg h0]
 rw[ce]
 clear ce h0 h0'
 generalize kK d l frm to known=C at co hC hCl ⊢
 have cl:=fun σ=>limit_c d hd C hC σ
 have cr:=fun σ=>rights_c d C (by omega) σ
 have hsl:=setOf_len (C.map Clm.right)
 rw[List.length_map]at hsl
 clear hd hC
 generalize (yH d C).2.1=f at cl ⊢
 generalize (yH d C).2.2=e at cl ⊢
 generalize uG (C.map Clm.right)=rs at cr hsl ⊢
 by_cases h1:e≠0
 ·rw[if_pos h1,if_neg h1]
  clear cr
  repeat' first|(apply yQ;exact zD;rfl;rfl;refine zL ?_;first|exact co _|exact cl _)|(refine xV ?_;and_intros<;>first|exact nl|intros)|fail
  all_goals
   refine zS (σ3:=σ) .nil zG zJ ?_
   exact zY .mk
 rw[if_neg h1]
 obtain rfl:e=0:=by omega
 by_cases h2:10<rs.length
 ·rw[if_pos h2,if_neg (by decide)]
  repeat' first|(show EX _ _ (Code.seq (Code.region 8 _ _) _) _ _;refine Stuck.out ?_)|(refine vW ?_;intros)|(apply yQ;exact zD;rfl;rfl;refine zL ?_;first|exact co _|exact cl _)|(refine yV ?_ ?_<;>(intro z;cases z with|_ h)<;>intro hp)|exact nl|fail
  all_goals try refine Stuck.mk ?_
  rename Nat=>b10;revert b10;rename Nat=>b5;revert b5
  intro b5 b10
  refine yS (s':=⟨[(5,.ptr b5 0),(10,.ptr b10 0),(11,.int .i64 0)],.cells b10 (scnC d C) 77::.cells b5 (disC d) 31::σ,[],Tryz.f22.ntmps⟩) (St.le_of zC yY) ?_
  clear co cl
  repeat' first|(apply yQ;exact zD;rfl;rfl;refine zL ?_;exact cr _)|(refine xV ?_;and_intros<;>first|exact nl|intros)|fail
  all_goals
   refine zS (σ3:=σ) .nil zG zJ ?_
   exact zY .mk
 ·rw[if_neg h2,if_pos rfl]
  repeat' first|(show EX _ _ (Code.seq (Code.region 8 _ _) _) _ _;refine Stuck.out ?_)|(refine vW ?_;intros)|(apply yQ;exact zD;rfl;rfl;refine zL ?_;first|exact co _|exact cl _)|(refine yV ?_ ?_<;>(intro z;cases z with|_ h)<;>intro hp)|exact nl|fail
  all_goals try refine Stuck.mk ?_
  rename Nat=>b10;revert b10;rename Nat=>b5;revert b5
  intro b5 b10
  refine yS (s':=⟨[(5,.ptr b5 0),(10,.ptr b10 0),(11,.int .i64 0)],.cells b10 (scnC d C) 77::.cells b5 (disC d) 31::σ,[],Tryz.f22.ntmps⟩) (St.le_of zC yY) ?_
  clear co cl
  repeat' first|(apply yQ;exact zD;rfl;rfl;refine zL ?_;exact cr _)|(refine xV ?_;and_intros<;>first|exact nl|intros)|fail
  all_goals
   refine zS (σ3:=σ) .nil zG zJ ?_
   exact zY .mk
open Go.WideMaps
theorem yU:KeyLaw prog 113:=deep_law_laid (by kernel_rfl) (m:=3) (by omega) (of_decide_eq_true (by kernel_rfl)) (by kernel_rfl) (by kernel_rfl)
theorem yT:kmKey prog 113 [false,false]=true:=by kernel_rfl
def kP(d:Dis)(f:BkF)(c:Clm):BkF:=vY f (K2 (vP d c.farm) c.hour) c.litres
def vV(d:Dis)(C:List Clm):BkF:=C.foldl (kP d) (fun _=>none)
theorem wantF_int{d:Dis}: ∀{C:List Clm} {f:BkF},IntV f→IntV (C.foldl (kP d) f)
 |[],_,h=>h
 |_::C,f,h=>wantF_int (d:=d) (C:=C) (h.add _ _)
theorem wantF_le{d:Dis}{B:Int}: ∀{C:List Clm} {f:BkF},(∀c∈C,1≤c.litres∧c.litres≤1073741824)→(∀q,0≤zV f q∧zV f q≤B)→ ∀q,0≤zV (C.foldl (kP d) f) q∧zV (C.foldl (kP d) f) q≤B+C.length*1073741824
 |[],f,_,h,q=>by simpa using h q
 |c::C,f,ho,h,q=>by
  obtain⟨h1,h2⟩:=ho c (by simp)
  have:=wantF_le (d:=d) (B:=B+1073741824) (C:=C) (f:=kP d f c) (fun x hx=>ho x (by simp[hx])) (fun q=>by
   unfold kP
   rw[wD]
   have:=h q
   split<;>omega) q
  simp only[List.foldl_cons,List.length_cons]
  omega
theorem farm_at{d:Dis}(hvv:yD d=true){a:Nat}(ha:a<d.F.length): ∃y:Frm,(d.F.map frmC)[a]?=some (frmC y)∧vP d a=y.reach∧0≤y.reach∧y.reach<d.R.length:=by
 obtain⟨y,hy⟩:=zH ha
 have hyr:0≤y.reach∧y.reach<d.R.length:=by
  unfold yD at hvv
  simp only[Bool.and_eq_true]at hvv
  have g:=List.all_eq_true.1 hvv.1.1.2 y (List.mem_of_getElem? hy)
  unfold farmB idxB at g
  simp only[Bool.and_eq_true,decide_eq_true_eq]at g
  exact g.1.2
 refine⟨y,by rw[List.getElem?_map,hy];rfl,?_,hyr⟩
 unfold vP
 rw[Int.toNat_natCast,hy]
theorem wanted_c(d:Dis)(hd:yZ d=0)(C:List Clm)(hCl:C.length≤4096)(hCo: ∀c∈C,ClmOk d c)(σ:List Ent):SCall prog 79 [scnV d C] σ (fun r τ=> ∃b n,r=.mp b∧τ=.kmap b [false,false] (vV d C) n::σ):=by
 refine zZ func79 rfl (by simp) ?_
 have hvv:=(zP hd).2
 have hF:=(yC (zP hd).1).2.1
 have hR:=(yC (zP hd).1).1
 have hH:=xF hvv
 have hint: ∀k,IntV (vV d (C.take k)):=fun k=>wantF_int (fun k x h=>by cases h)
 have hbd: ∀k q,0≤zV (vV d (C.take k)) q∧zV (vV d (C.take k)) q≤4398046511104:=fun k q=>by
  have:=wantF_le (d:=d) (B:=0) (C:=C.take k) (f:=fun _=>none) (fun c hc=>(hCo c (List.mem_of_mem_take hc)).lt) (fun q=>by simp[zV]) q
  rw[List.length_take]at this
  unfold vV
  omega
 clear hd
 have hlm:(C.map clmC).length=C.length:=List.length_map _
 repeat' first|(refine xD (.makeMap _ _) ?_;refine tD [false,false] rfl rfl rfl (vE [false,false]) ?_;intro bm)|(refine yX ?_;intros)|fail
 rename Nat=>bw;revert bw;rename Nat=>b1;revert b1
 intro b1 bw
 refine zU (fun(z:Nat×Nat)=>(⟨[(1,.ptr b1 0),(3,.mp bw),(8,clms C),(9,.int .i64 C.length),(10,.int .i64 (z.1:Nat))],.kmap bw [false,false] (vV d (C.take z.1)) z.2::.cells b1 (scnC d C) 77::σ,[],f79.ntmps⟩:St)) (fun z=>z.1≤C.length) (fun z=>C.length-z.1) (0,0) (Nat.zero_le _) (St.le_of zC yY) ?_
 intro z hI
 obtain⟨k,n⟩:=z
 dsimp only at hI ⊢
 by_cases hk:k<C.length
 ·obtain⟨c,hc⟩:=zH hk
  have gc:=pT hc
  obtain⟨_,⟨a,ea,hal⟩,hhr,hlt⟩:=hCo c (List.mem_of_getElem? hc)
  obtain⟨y,gy,ey,hy1,hy2⟩:=farm_at hvv hal
  have hnx:vV d (C.take (k+1))=vY (vV d (C.take k)) (K2 y.reach c.hour) c.litres:=by
   unfold vV
   rw[List.take_add_one,hc,←ey]
   simp[kP,ea]
  have hfi:=hint k
  have hbn:=hbd k (K2 y.reach c.hour)
  clear hint hbd hCo hc
  obtain⟨cr,ca,ch,cl,ck⟩:=c
  dsimp only at ea hhr hlt hnx hbn
  subst ea
  generalize vV d (C.take k)=f at hnx hfi hbn ⊢
  have hkf:KFit [false,false] (K2 y.reach ch):=tP (by omega) (by omega)
  refine yW ?_;intros
  rename Nat=>b5;revert b5
  intro b5
  refine yB (fun e=>e=.cells b5 (clmC ⟨cr,a,ch,cl,ck⟩) 57∨e=.cells b1 (scnC d C) 77) [12,16] 18 rfl (by kernel_rfl) rfl ?_
  simp only[List.take_succ_cons,List.take_zero,List.drop_succ_cons,List.drop_zero]
  repeat' first|(refine zgd ?_;first|(refine xH rfl rfl (zR (z:=.i 0) (k:=K2 y.reach ch) rfl yU yT rfl rfl yP rfl rfl hkf (xZ hfi _) rfl) ?_)|(refine yN rfl rfl (wS (z:=.i 0) (k:=K2 y.reach ch) rfl yU yT rfl rfl rfl rfl hkf (fun _=>qJ)) ?_;rintro _ _ ⟨es,clock,e,hE,he,hek⟩;refine⟨zks,?_⟩)|(refine xH rfl rfl (xC (z:=.i 0) (k:=K2 y.reach ch) rfl yU yT rfl rfl hE yP rfl rfl hkf (vH hfi _) rfl) ?_))|(refine xD (.entryStore _ _ _ _) ?_;refine yE rfl rfl (xQ (v:=.i _) hE he hek rfl rfl rfl rfl (qJ) (wA _ _ _ _)) ?_)|(refine yX ?_;intros)|refine vX rfl rfl rfl ?_ ?_|fail
  all_goals
   try rw[uE (show-9223372036854775808≤zV f (K2 y.reach ch)+cl∧zV f (K2 y.reach ch)+cl≤9223372036854775807 by omega)]
   exact⟨(k+1,cntK f (K2 y.reach ch) n),hk,by dsimp only;omega,by dsimp only;rw[hnx];exact(St.le_of zC zJ)⟩
 ·obtain rfl:k=C.length:=by omega
  rw[List.take_length]
  clear hint hbd hCo
  refine yW ?_;intros
  refine zS (σ3:=.kmap bw [false,false] (vV d C) n::σ) .nil zG zJ ?_
  exact zY ⟨bw,n,rfl,rfl⟩
end Go.Proofs.YtaoaafdommlhcaaGreat

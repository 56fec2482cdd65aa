/- Parts of the proof that belong together: Dn Sin Do Dp Sat Dq. -/
import Derived.Test.YtaoaafdommlhcaaGreatHA07
import Derived.Test.YtaoaafdommlhcaaGreatHA08
import Derived.Test.YtaoaafdommlhcaaGreatHA10
import Derived.Test.YtaoaafdommlhcaaGreatHA21
set_option maxRecDepth 10000
set_option maxHeartbeats 16000000
set_option linter.unusedSimpArgs false
set_option linter.unusedVariables false
set_option autoImplicit false
open Go.Proofs.Tryz
namespace Go.Proofs.YtaoaafdommlhcaaGreat
structure DedOk(d:Dis)(x:Ded):Prop where
 kd:x.kind=1∨x.kind=2∨x.kind=3
 rg:0≤x.right∧x.right<d.G.length
 fm:0≤x.frm∧x.frm<d.F.length
 to:x.kind=1→0≤x.to∧x.to<d.F.length
 pw:x.kind=2→kQ xL d x.parts=true
def totR(f:BkF)(r:Int)(F:Nat):Int:=zF (fun a:Nat=>zV f (K2 r a)) (List.range F)
structure BkOk(d:Dis)(f:BkF):Prop where
 iv:IntV f
 key: ∀k x,f k=some x→ ∃r a:Nat,k=K2 r a∧r<d.G.length∧a<d.F.length
 nn: ∀q,0≤zV f q
 tot: ∀r:Int,totR f r d.F.length≤1073741824
theorem BkOk.le{d:Dis}{f:BkF}(h:BkOk d f)(q:List KL):0≤zV f q∧zV f q≤1073741824:=by
 refine⟨h.nn q,?_⟩
 cases hf:f q with
 |none=>unfold zV;rw[hf];decide
 |some x=>
  obtain⟨r,a,rfl,_,ha⟩:=h.key q x hf
  have:=qH (f:=fun a:Nat=>zV f (K2 r a)) (l:=List.range d.F.length) (fun _ _=>h.nn _) a (List.mem_range.2 ha)
  have h2:=h.tot r
  unfold totR at h2
  omega
theorem tot_chg{f g:BkF}{r a v:Int}{F:Nat}(ha:0≤a∧a<F)(h: ∀q,zV g q=zV f q+if q=K2 r a then v else 0)(r':Int):totR g r' F=totR f r' F+if r'=r then v else 0:=by
 unfold totR
 have e: ∀x∈List.range F,zV g (K2 r' x)=zV f (K2 r' x)+if (x:Int)=a then (if r'=r then v else 0)else 0:=fun x _=>by
  rw[h]
  congr 1
  by_cases h1:K2 r' (x:Int)=K2 r a
  ·rw[if_pos h1,if_pos (K2_inj.1 h1).2,if_pos (K2_inj.1 h1).1]
  ·rw[if_neg h1]
   by_cases h2:(x:Int)=a
   ·rw[if_pos h2,if_neg (fun h3=>h1 (K2_inj.2 ⟨h3,h2⟩))]
   ·rw[if_neg h2]
 rw[yJ e,sumI_add,vT,if_pos ha]
theorem tot_add(f:BkF){r a:Int}(v:Int){F:Nat}(ha:0≤a∧a<F)(r':Int):totR (vY f (K2 r a) v) r' F=totR f r' F+if r'=r then v else 0:=tot_chg ha (fun q=>wD f _ q v) r'
theorem tot_del(f:BkF){r a:Int}{F:Nat}(ha:0≤a∧a<F)(r':Int):totR (delK f (K2 r a)) r' F=totR f r' F+if r'=r then-zV f (K2 r a)else 0:=tot_chg ha (fun q=>by
 rw[valK_del]
 by_cases h:q=K2 r a
 ·subst h;simp;omega
 ·rw[if_neg h,if_neg h];omega) r'
theorem tot_adds{r:Int}{v:Prt→Int}{F:Nat}: ∀{l:List Prt} (f:BkF),(∀p∈l,0≤p.farm∧p.farm<F)→ ∀r':Int,totR (vU r v l f) r' F=totR f r' F+if r'=r then zF v l else 0
 |[],f,_,r'=>by simp[vU,zF]
 |p::l,f,hl,r'=>by
  have ih:=tot_adds (r:=r) (v:=v) (l:=l) (vY f (K2 r p.farm) (v p)) (fun y hy=>hl y (by simp[hy])) r'
  have e:vU r v (p::l) f=vU r v l (vY f (K2 r p.farm) (v p)):=rfl
  rw[e,ih,tot_add f (v p) (hl p (by simp))]
  simp only[zF]
  split<;>omega
theorem addK_some{f:BkF}{k q:List KL}{v:Int}{x:KL}(h:vY f k v q=some x):q=k∨f q=some x:=by
 unfold vY xN at h
 split at h
 ·rename_i e;exact .inl e
 ·exact .inr h
theorem addsK_some{r:Int}{v:Prt→Int}: ∀{l:List Prt} {f:BkF} {q:List KL} {x:KL},vU r v l f q=some x→(∃p∈l,q=K2 r p.farm)∨ ∃y,f q=some y
 |[],f,q,x,h=>.inr ⟨x,h⟩
 |p::l,f,q,x,h=>by
  have e:vU r v (p::l) f=vU r v l (vY f (K2 r p.farm) (v p)):=rfl
  rw[e]at h
  rcases addsK_some h with⟨y,hy,rfl⟩|⟨y,hy⟩
  ·exact .inl ⟨y,by simp[hy],rfl⟩
  ·rcases addK_some hy with rfl|hy
   ·exact .inl ⟨p,by simp,rfl⟩
   ·exact .inr ⟨y,hy⟩
theorem delK_some{f:BkF}{k q:List KL}{x:KL}(h:delK f k q=some x):f q=some x:=by
 unfold delK at h
 split at h
 ·cases h
 ·exact h
theorem nat_of{n:Int}{m:Nat}(h:0≤n∧n<m): ∃k:Nat,n=k∧k<m:=⟨n.toNat,by omega,by omega⟩
theorem BkOk.del{d:Dis}{f:BkF}(h:BkOk d f){r a:Int}(ha:0≤a∧a<d.F.length):BkOk d (delK f (K2 r a)) where
 iv:=h.iv.del _
 key k x hx:=h.key k x (delK_some hx)
 nn q:=by rw[valK_del];split;exact Int.le_refl _;exact h.nn q
 tot r':=by
  rw[tot_del f ha]
  have:=h.tot r'
  have:=h.nn (K2 r a)
  split<;>omega
def doesF(x:Ded)(n:Int)(f:BkF):BkF:=if x.kind=1 then vY f (K2 x.right x.to) n else if x.kind=2 then splitF x n f else f
theorem does_ok{d:Dis}{x:Ded}(hx:DedOk d x){f:BkF}(h:BkOk d f){n:Int}(hn:0≤n)(ht:totR f x.right d.F.length+n≤1073741824):BkOk d (doesF x n f):=by
 obtain⟨r,hr,hrl⟩:=nat_of hx.rg
 unfold doesF
 by_cases k1:x.kind=1
 ·rw[if_pos k1]
  have hto:=hx.to k1
  obtain⟨a,ha,hal⟩:=nat_of hto
  refine⟨h.iv.add _ _,fun k y hy=>?_,fun q=>?_,fun r'=>?_⟩
  ·rcases addK_some hy with rfl|hy
   ·exact⟨r,a,by rw[hr,ha],hrl,hal⟩
   ·exact h.key k y hy
  ·rw[wD];have:=h.nn q;split<;>omega
  ·rw[tot_add f n hto]
   have:=h.tot r'
   split
   ·rename_i e;subst e;exact ht
   ·omega
 rw[if_neg k1]
 by_cases k2:x.kind=2
 ·rw[if_pos k2]
  obtain⟨w1,w2,w3,w4⟩:=whole_law (hx.pw k2) hn
  have hj:((n-zF (kS n) x.parts).toNat:Int)=n-zF (kS n) x.parts:=by omega
  have hfm: ∀p∈x.parts,0≤p.farm∧p.farm<d.F.length:=fun p hp=>(w4 p hp).1
  have hfm2: ∀p∈x.parts.take (n-zF (kS n) x.parts).toNat,0≤p.farm∧p.farm<d.F.length:=fun p hp=>hfm p (List.mem_of_mem_take hp)
  have hones: ∀l:List Prt,zF (fun _=>(1:Int)) l=l.length:=fun l=>by
   induction l with
   |nil=>rfl
   |cons a l ih=>simp only[zF,ih,List.length_cons];omega
  unfold splitF
  have hnn1: ∀q,0≤zV (vU x.right (kS n) x.parts f) q:=fun q=>by
   have: ∀{l:List Prt} {v:Prt→Int} {g:BkF},(∀q,0≤zV g q)→(∀p∈l,0≤v p)→ ∀q,0≤zV (vU x.right v l g) q:=by
    intro l
    induction l with
    |nil=>intro v g hg _ q;exact hg q
    |cons p l ih=>
     intro v g hg hv q
     refine ih (g:=vY g (K2 x.right p.farm) (v p)) (fun q=>?_) (fun y hy=>hv y (by simp[hy])) q
     rw[wD];have:=hg q;have:=hv p (by simp);split<;>omega
   exact this h.nn (fun p hp=>(w4 p hp).2.2) q
  have hnn2: ∀q,0≤zV (vU x.right (fun _=>1) (x.parts.take (n-zF (kS n) x.parts).toNat) (vU x.right (kS n) x.parts f)) q:=fun q=>by
   have: ∀{l:List Prt} {g:BkF},(∀q,0≤zV g q)→ ∀q,0≤zV (vU x.right (fun _=>1) l g) q:=by
    intro l
    induction l with
    |nil=>intro g hg q;exact hg q
    |cons p l ih=>
     intro g hg q
     refine ih (g:=vY g (K2 x.right p.farm) 1) (fun q=>?_) q
     rw[wD];have:=hg q;split<;>omega
   exact this hnn1 q
  refine⟨addsK_int (addsK_int h.iv),fun k y hy=>?_,hnn2,fun r'=>?_⟩
  ·rcases addsK_some hy with⟨p,hp,rfl⟩|⟨z,hz⟩
   ·obtain⟨a,ha,hal⟩:=nat_of (hfm2 p hp)
    exact⟨r,a,by rw[hr,ha],hrl,hal⟩
   ·rcases addsK_some hz with⟨p,hp,rfl⟩|⟨z,hz⟩
    ·obtain⟨a,ha,hal⟩:=nat_of (hfm p hp)
     exact⟨r,a,by rw[hr,ha],hrl,hal⟩
    ·exact h.key k z hz
  ·rw[tot_adds _ hfm2,tot_adds _ hfm,hones,List.length_take,Nat.min_eq_left (by omega),hj]
   have:=h.tot r'
   split
   ·rename_i e;subst e;omega
   ·omega
 ·rw[if_neg k2];exact h
def effS(S:BkF×List Int)(x:Ded):BkF×List Int:=
 if zV S.1 (K2 x.right x.frm)=0 then (S.1,S.2++[x.no])else (doesF x (zV S.1 (K2 x.right x.frm)) (delK S.1 (K2 x.right x.frm)),S.2)
theorem effS_tot{d:Dis}{x:Ded}(hx:DedOk d x){f:BkF}(h:BkOk d f):totR (delK f (K2 x.right x.frm)) x.right d.F.length+zV f (K2 x.right x.frm)≤1073741824:=by
 rw[tot_del f hx.fm,if_pos rfl]
 have:=h.tot x.right
 omega
theorem effS_ok{d:Dis}{x:Ded}(hx:DedOk d x){S:BkF×List Int}(h:BkOk d S.1):BkOk d (effS S x).1:=by
 unfold effS
 split
 ·exact h
 ·exact does_ok hx (h.del hx.fm) (h.nn _) (effS_tot hx h)
theorem effS_len(S:BkF×List Int)(x:Ded):(effS S x).2.length≤S.2.length+1:=by
 unfold effS
 split<;>simp
theorem eff_ok{d:Dis}: ∀{l:List Ded} {S:BkF×List Int},(∀x∈l,DedOk d x)→BkOk d S.1→BkOk d (l.foldl effS S).1
 |[],_,_,h=>h
 |x::l,S,hl,h=>eff_ok (l:=l) (fun y hy=>hl y (by simp[hy])) (effS_ok (hl x (by simp)) h)
section
variable {P:Program} {ro:Option Nat} {env:Env} {σ σ':List Ent} {dst:Option Tmp} {ty:TypeId} {pos:String} {after:Array Edge} {guard:Option (Nat×Bool)}
theorem g_insert{t et:TypeId}{x ix y:Operand}{b n:Nat}{f f':Int→Option AV}{k:Int}{v:AV}(ht:mapOf P t=some et)(hx:xP env x=some (.mp b))(hi:xP env ix=some (.int .i64 k))(hy:xP env y=some v)(hu:Upd σ (.imap b f n) (.imap b f' (if (f k).isSome then n else n+1)) σ')(hf:updA f k v=f'):
  GOp P ro ⟨dst,.insert t x ix y,ty,pos,after,guard⟩ env σ (Is (.raw undef) σ'):=
 wJ (by intro c h;cases h) fun X M a w hg ho=>by
  have h1:=ho x (by simp[Op.operands]) _ hx
  have h2:=ho ix (by simp[Op.operands]) _ hi
  have h3:=ho y (by simp[Op.operands]) _ hy
  simp only[VRel]at h1 h2
  obtain⟨kt,e1,e2⟩:=mapOf_spec ht
  obtain⟨g,hg1,hg2⟩:=hg.ent _ hu.mem
  obtain⟨w',hr,hm',hgr,hsz,_⟩:=hg1.update (P:=P) e1 e2 k (a.eval y)
  refine⟨M,undef,w',.raw undef,σ',Mem.le_refl M,?_,by simp[VRel],.mk,.inr ⟨?_,rfl⟩⟩
  ·refine hg.upd hu hgr.os hgr.tape hgr.output (fun q hq hne=>hgr.block q hq (fun e=>hne e.symm)) ⟨upd g k (a.eval y),?_,fun q=>?_⟩ (.inl rfl)
   ·have hk:=hg2 k
    have e:(g k).isSome=(f k).isSome:=by cases hf:f k<;>cases hgk:g k<;>simp only[hf,hgk]at hk<;>rfl
    rw[e]at hm'
    exact hm'
   ·rw[←hf]
    unfold updA upd
    by_cases hq:q=k
    ·simp only[if_pos hq];exact h3
    ·simp only[if_neg hq];exact hg2 q
  ·simp[execOp,h1,h2,Sem.run_bind,hr]
end
def kindM:Int→Option AV:=updA (updA (updA (fun _=>none) 1 (.fn (.func 259) [] [])) 2 (.fn (.func 260) [] [])) 3 (.fn (.func 261) [] [])
theorem kinds_c(σ:List Ent):SCall prog 220 [] σ (fun r τ=> ∃b n,r=.mp b∧τ=.imap b kindM n::σ):=by
 refine zZ func220 rfl (by simp) ?_
 repeat' first|(refine zge ?_;(apply yE;rfl;rfl;(apply g_insert;rfl;rfl;rfl;rfl;exact Upd.here;rfl)))|(refine yX ?_;intros)|fail
 rename_i b
 refine zS (σ3:=.imap b kindM _::σ) .nil zG zJ ?_
 exact zY ⟨b,_,rfl,rfl⟩
def begF:Nat→List Rgt→BkF→BkF
 |_,[],f=>f
 |i,x::l,f=>begF (i+1) l (if x.kind=1 then xN f (K2 i x.farm) (.i x.litres)else f)
def effF(d:Dis)(C:List Ded):BkF×List Int:=C.foldl effS (begF 0 d.G (fun _=>none),[])
theorem right_kind{d:Dis}{x:Rgt}(h:qC d x=true):(0≤x.farm∧x.farm<d.F.length)∧(x.kind=1→1≤x.litres∧x.litres≤1073741824):=by
 unfold qC at h
 simp only[Bool.and_eq_true]at h
 obtain⟨⟨⟨h1,_⟩,_⟩,h4⟩:=h
 unfold idxB at h1
 simp only[Bool.and_eq_true,decide_eq_true_eq]at h1
 refine⟨h1,fun hk=>?_⟩
 rw[if_pos hk]at h4
 simp only[Bool.and_eq_true]at h4
 have:=h4.1.2
 simp[vS]at this
 omega
theorem beg_ok{d:Dis}: ∀{l:List Rgt} {i:Nat} {f:BkF},(∀x∈l,qC d x=true)→i+l.length=d.G.length→BkOk d f→(∀k x,f k=some x→ ∃r a:Nat,k=K2 r a∧r<i)→BkOk d (begF i l f)
 |[],_,_,_,_,h,_=>h
 |x::l,i,f,hl,hi,h,hk=>by
  obtain⟨hf,hlit⟩:=right_kind (hl x (by simp))
  simp only[List.length_cons]at hi
  unfold begF
  refine beg_ok (fun y hy=>hl y (by simp[hy])) (by omega) ?_ ?_
  ·split
   ·rename_i h1
    obtain⟨l1,l2⟩:=hlit h1
    obtain⟨a,ha,hal⟩:=nat_of hf
    have hno: ∀a:Int,zV f (K2 i a)=0:=fun a=>by
     unfold zV
     cases hc:f (K2 i a) with
     |none=>rfl
     |some y=>
      obtain⟨r,b,e,hr⟩:=hk _ _ hc
      have:=(K2_inj.1 e).1
      omega
    have hval: ∀q,zV (xN f (K2 i x.farm) (.i x.litres)) q=zV f q+if q=K2 i x.farm then x.litres else 0:=fun q=>by
     by_cases hq:q=K2 i x.farm
     ·subst hq;rw[hno,if_pos rfl];simp[zV,xN]
     ·rw[if_neg hq];simp[zV,xN,hq]
    refine⟨h.iv.upd _ _,fun k y hy=>?_,fun q=>?_,fun r'=>?_⟩
    ·unfold xN at hy
     split at hy
     ·rename_i e;exact⟨i,a,by rw[e,ha],by omega,hal⟩
     ·exact h.key k y hy
    ·rw[hval];have:=h.nn q;split<;>omega
    ·rw[tot_chg hf hval]
     have h2:=h.tot r'
     split
     ·rename_i e
      have h3:totR f r' d.F.length=0:=wY fun b _=>by rw[e];exact hno b
      omega
     ·omega
   ·exact h
  ·intro k y hy
   split at hy
   ·unfold xN at hy
    split at hy
    ·rename_i e
     obtain⟨a,ha,_⟩:=nat_of hf
     exact⟨i,a,by rw[e,ha],by omega⟩
    ·obtain⟨r,a,e,hr⟩:=hk k y hy;exact⟨r,a,e,by omega⟩
   ·obtain⟨r,a,e,hr⟩:=hk k y hy;exact⟨r,a,e,by omega⟩
theorem beg_all{d:Dis}(hd:yD d=true):BkOk d (begF 0 d.G (fun _=>none)):=by
 refine beg_ok (fun x hx=>?_) (by omega) ⟨fun k x h=>(by cases h),fun k x h=>(by cases h),fun q=>Int.le_refl _,fun r=>?_⟩ (fun k x h=>(by cases h))
 ·unfold yD at hd
  simp only[Bool.and_eq_true]at hd
  exact List.all_eq_true.1 hd.1.2 x hx
 ·unfold totR
  have:zF (fun a:Nat=>zV (fun _=>none) (K2 r a)) (List.range d.F.length)=0:=wY fun _ _=>rfl
  omega
theorem SCall.inplace{P:Program}{f:FuncId}{args:List AV}{σ:List Ent}{e:Ent}{F:Ent→List Ent}{Q:AV→Ent→Prop}(hu: ∀e',Upd σ e e' (F e'))(h: ∀τ,SCall P f args (e::τ) (fun r τ'=> ∃e',Q r e'∧τ'=e'::τ)):
  SCall P f args σ (fun r τ'=> ∃e',Q r e'∧τ'=F e'):=by
 obtain⟨a0,c0,h1,_⟩:=(hu e).split
 have hp:σ.Perm (e::(a0++c0)):=by rw[h1];exact List.perm_middle
 refine⟨fun X M w vs hg ha=>?_⟩
 refine((h (a0++c0)).run X M w vs (hg.perm hp) ha).mono ?_
 rintro en w' ⟨M',σ',r,v,k1,k2,k3,k4,e',k5,rfl⟩
 obtain⟨a,c,h2,h3⟩:=(hu e').split
 have hp2:(a0++c0).Perm (a++c):=by
  have h4:σ.Perm (e::(a++c)):=by rw[h2];exact List.perm_middle
  exact(hp.symm.trans h4).cons_inv
 refine⟨M',F e',r,v,k1,k2.perm ?_,k3,k4,e',k5,rfl⟩
 rw[h3]
 exact(hp2.cons e').trans List.perm_middle.symm
theorem rgt_get{l:List Rgt}{k:Nat}{x:Rgt}(h:l[k]?=some x):(l.map rgtC)[k]?=some (rgtC x):=by rw[List.getElem?_map,h];rfl
theorem kind_does{d:Dis}{y:Ded}(hy:DedOk d y)(hF:d.F.length≤600)(hG:d.G.length≤256){g:BkF}(hg:BkOk d g){n:Int}(hn:0≤n∧n≤1073741824): ∃gk,(∀z,(kindM y.kind).getD z=.fn (.func gk) [] [])∧Enters prog gk∧
  ∀(bm m:Nat) τ,SCall prog gk [.mp bm,dedV y,.int .i64 n] (.kmap bm [false,false] g m::τ) (fun r τ'=> ∃e',(r=.tup []∧ ∃m',e'=.kmap bm [false,false] (doesF y n g) m')∧τ'=e'::τ):=by
 obtain⟨r1,r2⟩:=hy.rg
 unfold doesF
 by_cases k1:y.kind=1
 ·obtain⟨t1,t2⟩:=hy.to k1
  rw[if_pos k1]
  have hb:=hg.le (K2 y.right y.to)
  refine⟨259,fun z=>by rw[k1];rfl,zX (by kernel_rfl),fun bm m τ=>?_⟩
  refine(pass_c y n g hg.iv (by omega) (by omega) (by omega) bm m τ).mono ?_
  rintro r τ' ⟨h1,m',h2⟩
  exact⟨_,⟨h1,m',rfl⟩,h2⟩
 rw[if_neg k1]
 by_cases k2:y.kind=2
 ·rw[if_pos k2]
  obtain⟨w1,w2,w3,w4⟩:=whole_law (hy.pw k2) hn.1
  have hlo: ∀p∈y.parts,kS n p≤n:=fun p hp=>by
   have:=qH (f:=kS n) (fun x hx=>(w4 x hx).2.2) p hp;omega
  refine⟨260,fun z=>by rw[k2];rfl,zX (by kernel_rfl),fun bm m τ=>?_⟩
  refine(split_c y n g hg.iv (by omega) hn w3 (fun p hp=>?_) (by omega) (fun q=>by have:=hg.le q;omega) bm m τ).mono ?_
  ·obtain⟨a1,a2,a3⟩:=w4 p hp
   have:=hlo p hp
   exact⟨by omega,a2,a3,by omega⟩
  ·rintro r τ' ⟨h1,m',h2⟩
   exact⟨_,⟨h1,m',rfl⟩,h2⟩
 rw[if_neg k2]
 have k3:y.kind=3:=by rcases hy.kd with h|h|h;exact absurd h k1;exact absurd h k2;exact h
 refine⟨261,fun z=>by rw[k3];rfl,zX (by kernel_rfl),fun bm m τ=>?_⟩
 refine(lapse_c y n _ _).mono ?_
 rintro r τ' ⟨⟩
 exact⟨_,⟨rfl,m,rfl⟩,rfl⟩
theorem effect_c(d:Dis)(hd:yZ d=0)(C:List Ded)(hC: ∀x∈C,DedOk d x)(hCl:C.length≤512)(b0:Nat)(σ:List Ent):
  SCall prog 159 [disV d,.fn (.func 263) [] [.ptr b0 0]] (.cells b0 [deds C] 32::σ) (fun r τ=> ∃bm m v,r=.tup [.mp bm,.slv v]∧τ=.kmap bm [false,false] (effF d C).1 m::σ):=by
 refine zZ func159 rfl (by simp) ?_
 obtain⟨hfe,hv⟩:=zP hd
 have hG:=(yC hfe).2.2.2.1
 have hF:=(yC hfe).2.1
 have hb0:=beg_all hv
 obtain⟨f0,hf0⟩: ∃f0,begF 0 d.G (fun _=>none)=f0:=⟨_,rfl⟩
 have hef:effF d C=C.foldl effS (f0,[]):=by unfold effF;rw[hf0]
 rw[hef]
 rw[hf0]at hb0
 have hrt: ∀(k:Nat) x,d.G[k]?=some x→0≤x.farm∧x.farm<d.F.length:=fun k x hx=>by
  unfold yD at hv
  simp only[Bool.and_eq_true]at hv
  exact(right_kind (List.all_eq_true.1 hv.1.2 x (List.mem_of_getElem? hx))).1
 clear hef hfe hv hd
 refine xX 3 1 ?_
 repeat' first|(refine zge ?_;(refine tD [false,false] rfl rfl rfl (vE [false,false]) ?_;intro bm))|(refine yX ?_;intros)|fail
 rename Nat=>bm;revert bm;rename Nat=>be;revert be;rename Nat=>bb;revert bb;rename Nat=>bd;revert bd
 intro bd bb be bm
 refine jY (t:=14) rfl (by first|exact(List.length_map _).symm|rfl) (fun hlen=>?_)
 refine zU (fun(z:Nat×BkF×Nat)=>(⟨[(1,.fn (.func 263) [] [.ptr b0 0]),(4,.ptr bb 0),(5,.ptr be 0),(14,rgts d.G),(15,.int .i64 d.G.length),(16,.int .i64 (z.1:Nat))],.kmap bm [false,false] z.2.1 z.2.2::.cells be [.slv nilS] 45::.cells bb [.mp bm] 256::.cells bd (disC d) 31::.row nilS 3 1 []::.cells b0 [deds C] 32::σ,[],f159.ntmps⟩:St)) (fun z=>z.1≤d.G.length∧begF z.1 (d.G.drop z.1) z.2.1=f0) (fun z=>d.G.length-z.1) (0,fun _=>none,0) (⟨Nat.zero_le _,hf0⟩) (St.le_of zC yY) ?_
 intro z hI
 obtain⟨k,f,m⟩:=z
 obtain⟨hI1,hI2⟩:=hI
 dsimp only at hI1 hI2 ⊢
 clear hf0
 by_cases hk:k<d.G.length
 ·obtain⟨x,hx⟩:=zH hk
  have gx:=rgt_get hx
  have hfx:=hrt k x hx
  rw[wZ hx]at hI2
  unfold begF at hI2
  have hkf:KFit [false,false] (K2 k x.farm):=tP (by omega) (by omega)
  clear hb0 hrt hx
  by_cases h1:x.kind=1
  ·rw[if_pos h1]at hI2
   repeat' first|(refine xD (.mapUpdate _ _ _ _) ?_;refine yE rfl rfl (wT (k:=K2 k x.farm) (v:=.i x.litres) rfl tK tJ rfl rfl rfl hkf rfl rfl (Upd.there Upd.here) rfl) ?_)|(refine yX ?_;intros)|(refine yV ?_ ?_<;>(intro z;cases z with|_ h)<;>intro hp)|exact nl|fail
   exact⟨(k+1,_,_),⟨hk,hI2⟩,by dsimp only;omega,(St.le_of zC zJ)⟩
  ·rw[if_neg h1]at hI2
   refine uZ ?_;and_intros<;>first|exact nl|intros
   exact⟨(k+1,f,m),⟨hk,hI2⟩,by dsimp only;omega,(St.le_of zC zJ)⟩
 obtain rfl:k=d.G.length:=by omega
 rw[List.drop_length]at hI2
 simp only[begF]at hI2
 subst hI2
 clear hrt
 repeat' first|(refine zge ?_;(refine zK rfl rfl rfl (zQ rfl rfl (zX (by kernel_rfl)) (kinds_c _)) ?_;rintro _ _ ⟨bK,nK,rfl,rfl⟩))|(refine yX ?_;intros)|(refine yV ?_ ?_<;>(intro z;cases z with|_ h)<;>intro hp)|exact nl|fail
 rename Nat=>bk;revert bk
 intro bk
 obtain⟨σ0,hσ0⟩: ∃σ0,σ0=Ent.cells bk [.mp bK] 315::.imap bK kindM nK::[]:=⟨_,rfl⟩
 refine yS (s':=⟨[(4,.ptr bb 0),(5,.ptr be 0),(8,.ptr bk 0),(33,.fn (.func 263) [] [.ptr b0 0])],.cells bk [.mp bK] 315::.imap bK kindM nK::.kmap bm [false,false] f m::.cells be [.slv nilS] 45::.cells bb [.mp bm] 256::.row nilS 3 1 []::.cells b0 [deds C] 32::σ,[],f159.ntmps⟩) (St.le_of zC yY) ?_
 clear hσ0 σ0
 refine pY rfl (zX (by kernel_rfl)) ?_
 intro D l0 fn
 show SCall _ _ _ (Ent.loop _ _ _ _ ?ee ?nn ?ps ?asg ?body _::_) _
 obtain⟨Lp,hL⟩: ∃L,L=Ent.loop l0 .ready none fn ?ee ?nn ?ps ?asg ?body D:=⟨_,rfl⟩
 rw[←hL]
 refine SCall.mono (values1_c C b0 l0 _ (fun k τ=> ∃m v,τ=Lp::.obj D (.deferred (some []))::.cells bk [.mp bK] 315::.imap bK kindM nK::.kmap bm [false,false] ((C.take k).foldl effS (f,[])).1 m::.cells be [.slv v] 45::.cells bb [.mp bm] 256::.row v 3 1 (((C.take k).foldl effS (f,[])).2.map intC)::.cells b0 [deds C] 32::σ) (fun _=>False) ?_ ?_ ⟨m,nilS,rfl⟩) ?_
 ·rintro k τ ⟨m,v,rfl⟩
  simp
 ·rintro k x τ hx ⟨m1,v,rfl⟩
  obtain⟨y,hy,rfl⟩: ∃y,C[k]?=some y∧x=[dedV y]:=by
   rw[List.getElem?_map]at hx
   cases hc:C[k]? with
   |none=>rw[hc]at hx;cases hx
   |some y=>rw[hc]at hx;cases hx;exact⟨y,rfl,rfl⟩
  have hyo:=hC y (List.mem_of_getElem? hy)
  have hnx:(C.take (k+1)).foldl effS (f,[])=effS ((C.take k).foldl effS (f,[])) y:=by
   rw[List.take_add_one,hy];simp
  have hSo:BkOk d ((C.take k).foldl effS (f,[])).1:=eff_ok (fun x hx=>hC x (List.mem_of_mem_take hx)) hb0
  have hSl:((C.take k).foldl effS (f,[])).2.length≤512:=by
   have h1: ∀(l:List Ded) (S:BkF×List Int),(l.foldl effS S).2.length≤S.2.length+l.length:=by
    intro l
    induction l with
    |nil=>intro S;simp
    |cons a l ih=>intro S;have:=ih (effS S a);have:=effS_len S a;simp only[List.foldl_cons,List.length_cons];omega
   have h2:=h1 (C.take k) (f,[])
   rw[List.length_take]at h2
   simp only[List.length_nil]at h2
   omega
  rw[hnx]
  generalize (C.take k).foldl effS (f,[])=S at hSo hSl ⊢
  obtain⟨g,E⟩:=S
  dsimp only at hSo hSl ⊢
  clear hnx hx hy hb0 hC hCl
  obtain⟨⟨r1,r2⟩,⟨m3,m4⟩⟩:=And.intro hyo.rg hyo.fm
  have hkf:KFit [false,false] (K2 y.right y.frm):=tP (by omega) (by omega)
  have hvg:=xZ hSo.iv (K2 y.right y.frm)
  have hef:effS (g,E) y=if zV g (K2 y.right y.frm)=0 then (g,E++[y.no])else (doesF y (zV g (K2 y.right y.frm)) (delK g (K2 y.right y.frm)),E):=rfl
  rw[hef]
  clear hef
  have hnb:=hSo.le (K2 y.right y.frm)
  have hdo:=hSo.del (r:=y.right) hyo.fm
  have htot:=effS_tot hyo hSo
  obtain⟨n,hn⟩: ∃n,zV g (K2 y.right y.frm)=n:=⟨_,rfl⟩
  rw[hn]at hvg hnb htot ⊢
  rw[hL]
  by_cases h0:n=0
  ·rw[if_pos h0]
   have hmp:E.map intC++[[AV.int .i64 y.no]]=(E++[y.no]).map intC:=by simp
   have hEm:(E.map intC).length=E.length:=List.length_map _
   clear htot hdo hyo hSo hn
   refine SRound.sub ?_
   refine sround yP rfl (by decide) ?_
   repeat' first|(refine xD (.lookup _ _ _ false) ?_;refine wW rfl rfl rfl (zR (z:=.i 0) (k:=K2 y.right y.frm) rfl tK tJ rfl rfl yP rfl rfl hkf hvg rfl) ?_)|(refine yX ?_;intros)|(refine yV ?_ ?_<;>(intro z;cases z with|_ h)<;>intro hp)|exact nl|fail
   subst hL
   exact⟨_,.cons _ (.cons _ (.cons _ (List.Sublist.refl _))),.inl ⟨rfl,m1,_,by rw[←hmp];rfl⟩⟩
  ·rw[if_neg h0]
   dsimp only
   obtain⟨gk,hk1,hk2,hk3⟩:=kind_does hyo hF hG hdo hnb
   obtain⟨g2,hg2⟩: ∃g2,delK g (K2 y.right y.frm)=g2:=⟨_,rfl⟩
   rw[hg2]at hk3 ⊢
   generalize doesF y n g2=g3 at hk3 ⊢
   clear htot hdo hyo hSo hn hnb hSl
   refine SRound.sub ?_
   refine sround yP rfl (by decide) ?_
   repeat' first|(refine xD (.lookup _ _ _ false) ?_;first|(refine wW rfl rfl rfl (zR (z:=.i 0) (k:=K2 y.right y.frm) rfl tK tJ rfl rfl yP rfl rfl hkf hvg rfl) ?_)|(refine wW rfl rfl rfl (g_lookup rfl rfl yP rfl rfl (hk1 _)) ?_))|(refine xD (.call {callee:=.builtin _,args:=_,argTypes:=_}) ?_;refine yE rfl rfl (g_deleteKm (k:=K2 y.right y.frm) rfl rfl tK tJ rfl rfl rfl hkf qJ hg2) ?_)|(refine xD (.call {callee:=.value (.tmp _),args:=_,argTypes:=_}) ?_;refine zK rfl rfl rfl (zQ rfl rfl hk2 (SCall.inplace (fun e'=>qJ) (hk3 bm _))) ?_;rintro _ _ ⟨_,⟨rfl,m',rfl⟩,rfl⟩)|(refine yX ?_;intros)|(refine yV ?_ ?_<;>(intro z;cases z with|_ h)<;>intro hp)|exact nl|fail
   subst hL
   exact⟨_,.cons _ (.cons _ (List.Sublist.refl _)),.inl ⟨rfl,m',v,rfl⟩⟩
 ·rintro r τ (⟨m1,v,rfl⟩|hF)
  ·have hSl:(C.foldl effS (f,[])).2.length≤512:=by
    have h1: ∀(l:List Ded) (S:BkF×List Int),(l.foldl effS S).2.length≤S.2.length+l.length:=by
     intro l
     induction l with
     |nil=>intro S;simp
     |cons a l ih=>intro S;have:=ih (effS S a);have:=effS_len S a;simp only[List.foldl_cons,List.length_cons];omega
    have h2:=h1 C (f,[])
    simp only[List.length_nil]at h2
    omega
   rw[List.length_map,List.take_length]
   generalize C.foldl effS (f,[])=S at hSl ⊢
   obtain⟨g,E⟩:=S
   dsimp only at hSl ⊢
   clear hb0 hC hCl
   rw[hL]
   refine RangeEnd.done .here ?_
   repeat' first|(refine xD (.call {callee:=.value (.func 69),args:=_,argTypes:=_}) ?_;refine zK rfl rfl rfl (zQ rfl rfl (zX (by kernel_rfl)) (sort_c qJ (by omega))) ?_;rintro _ _ ⟨rfl,rfl⟩)|(refine yX ?_;intros)|fail
   refine yB (fun e=>e=.cells be [.slv v] 45∨e=.cells bb [.mp bm] 256) [2] 3 rfl (by kernel_rfl) rfl ?_
   simp only[List.take_succ_cons,List.take_zero,List.drop_succ_cons,List.drop_zero]
   refine uZ ?_;and_intros<;>first|exact nl|intros
   refine zS (σ3:=.kmap bm [false,false] g m1::σ) zmr zG zJ ?_
   exact zY ⟨bm,m1,v,rfl,rfl⟩
  ·exact hF.elim
end Go.Proofs.YtaoaafdommlhcaaGreat

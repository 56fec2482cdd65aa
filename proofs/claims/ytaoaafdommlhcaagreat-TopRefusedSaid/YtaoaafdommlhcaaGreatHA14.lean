/- Parts of the proof that belong together: Spn Sdf Sdp. -/
import Derived.Test.YtaoaafdommlhcaaGreatHA08
import Derived.Test.YtaoaafdommlhcaaGreatHA10
import Derived.Test.YtaoaafdommlhcaaGreatHA12
import Derived.RecoverIn
set_option maxRecDepth 10000
set_option linter.unusedSimpArgs false
set_option linter.unusedVariables false
set_option autoImplicit false
open Go.Proofs.Tryz
namespace Go.Proofs.YtaoaafdommlhcaaGreat
structure PCall(P:Program)(ch:List PanicEntry)(N:Prop)(f:FuncId)(args:List AV)(σ:List Ent)(Q:AV→List Ent→Prop):Prop where
 run: ∀X M w (vs:Array Value),Good X M σ w→VRels M args vs.toList→Calls P f vs w fun e w'=>(∃M' σ' r v,M.le M'∧Good X M' σ' w'∧VRel M' r v∧e=.returned v∧Q r σ')∨(e=.panicked ch∧N∧ ∃M',M.le M'∧Good X M' [] w')
structure GOpP(P:Program)(ro:Option Nat)(ch:List PanicEntry)(N:Prop)(o:Oper)(env:Env)(σ:List Ent)(R:AV→List Ent→Prop):Prop where
 run: ∀X M a w,Good X M σ w→OpRel M env a o→ ∀(K:Act→World→Prop) (Qx:Exit→Act→World→Prop),
  (∀M' u w' v σ',M.le M'→Good X M' σ' w'→VRel M' v u→R v σ'→K (a.put o.dst u) w')→(N→ ∀M' w',M.le M'→Good X M' [] w'→Qx (.panic ch) a w')→o.wpIn (tN ro) 0 P a w K Qx
section
variable {P:Program} {ro:Option Nat} {ch:List PanicEntry} {N:Prop} {Q:Exit→St→Prop} {ops:Array Oper} {rest l:List Oper} {o:Oper} {env:Env} {σ σ':List Ent} {mk:List Nat} {n:Nat} {R:AV→List Ent→Prop}
variable {dst:Option Tmp} {ty:TypeId} {pos:String} {after:Array Edge} {guard:Option (Nat×Bool)}
theorem SCall.p{f:FuncId}{args:List AV}{σ:List Ent}{Q:AV→List Ent→Prop}(h:SCall P f args σ Q):PCall P ch N f args σ Q:=
 ⟨fun X M w vs hg ha=>(h.run X M w vs hg ha).mono fun _ _ hx=>.inl hx⟩
theorem PCall.mono{f:FuncId}{args:List AV}{σ:List Ent}{Q Q':AV→List Ent→Prop}(h:PCall P ch N f args σ Q)(hq: ∀r τ,Q r τ→Q' r τ):PCall P ch N f args σ Q':=
 ⟨fun X M w vs hg ha=>(h.run X M w vs hg ha).mono fun e w' hx=>by
  rcases hx with⟨M',σ',r,v,h1,h2,h3,h4,h5⟩|hx
  ·exact .inl ⟨M',σ',r,v,h1,h2,h3,h4,hq _ _ h5⟩
  ·exact .inr hx⟩
theorem PCall.imp{N':Prop}{f:FuncId}{args:List AV}{σ:List Ent}{Q:AV→List Ent→Prop}(h:PCall P ch N f args σ Q)(hn:N→N'):PCall P ch N' f args σ Q:=
 ⟨fun X M w vs hg ha=>(h.run X M w vs hg ha).mono fun e w' hx=>by
  rcases hx with hx|⟨h1,h2,h3⟩
  ·exact .inl hx
  ·exact .inr ⟨h1,hn h2,h3⟩⟩
theorem PCall.perm{f:FuncId}{args:List AV}{σ σ1:List Ent}{Q:AV→List Ent→Prop}(hp:σ1.Perm σ)(h:PCall P ch N f args σ Q):PCall P ch N f args σ1 Q:=
 ⟨fun X M w vs hg ha=>h.run X M w vs (hg.perm hp) ha⟩
/-- More is owned than is handed tU; it is kept if nothing panics. -/
theorem PCall.more{f:FuncId}{args:List AV}{σ:List Ent}{Q:AV→List Ent→Prop}(h:PCall P ch N f args σ Q)(τ:List Ent):PCall P ch N f args (σ++τ) (fun r σ'=> ∃σ1,Q r σ1∧σ'=σ1++τ):=by
 refine⟨fun X M w vs hg ha=>?_⟩
 obtain⟨X',h1,h2⟩:=hg.framed
 refine(h.run X' M w vs h1 ha).mono fun e w' hx=>?_
 rcases hx with⟨M',σ',r,v,k1,k2,k3,k4,k5⟩|⟨k1,kn,M',k2,k3⟩
 ·exact .inl ⟨M',σ'++τ,r,v,k1,h2 _ _ _ k1 k2,k3,k4,σ',k5,rfl⟩
 ·exact .inr ⟨k1,kn,M',k2,(h2 _ _ _ k2 k3).sub (List.nil_sublist _)⟩
/-- What is said of one entry's change, wherever it stands. -/
theorem PCall.at{f:FuncId}{args:List AV}{σ:List Ent}{e:Ent}{Q:AV→Ent→Prop}(h:PCall P ch N f args [e] (fun r τ=> ∃e',Q r e'∧τ=[e'])){F:Ent→List Ent}(hu: ∀e',Upd σ e e' (F e')):PCall P ch N f args σ (fun r τ=> ∃e',Q r e'∧τ=F e'):=by
 obtain⟨a,c,h1,h2⟩:=(hu e).split
 have hp:σ.Perm ([e]++(a++c)):=by rw[h1];exact List.perm_middle
 refine⟨fun X M w vs hg ha=>?_⟩
 refine((h.more (a++c)).run X M w vs (hg.perm hp) ha).mono fun e0 w' hx=>?_
 rcases hx with⟨M',σ',r,v,k1,k2,k3,k4,σ1,⟨e',k5,rfl⟩,rfl⟩|hx
 ·refine .inl ⟨M',F e',r,v,k1,k2.perm ?_,k3,k4,e',k5,rfl⟩
  obtain⟨a',c',m1,m2⟩:=(hu e').split
  have h5:(e::(a++c)).Perm (e::(a'++c')):=by
   have:(a++e::c).Perm (a'++e::c'):=by rw[←h1,←m1]
   exact List.perm_middle.symm.trans (this.trans List.perm_middle)
  rw[m2]
  exact((h5.cons_inv).cons e').trans List.perm_middle.symm
 ·exact .inr hx
theorem vK{f:Operand}{args:Array Operand}{ats:Array TypeId}{g:FuncId}{first cap l:List AV}{Q:AV→List Ent→Prop}(hf:xP env f=some (.fn (.func g) first cap))(hl:evAs env args.toList=some l)(he:Enters P g)(h:PCall P ch N g (first++l++cap) σ Q):
  GOpP P ro ch N ⟨dst,.call {callee:=.value f,args:=args,argTypes:=ats},ty,pos,after,guard⟩ env σ Q:=by
 refine⟨fun X M a w hg ho K Qx hK hP=>?_⟩
 have h1:=ho f (by simp[Op.operands,Call.operands]) _ hf
 simp only[VRel]at h1
 obtain⟨vs,ws,hv,k1,k2⟩:=h1
 have k3:=evAs_rel (a:=a) (M:=M) (fun x hx v hv=>ho x (by simp only[Op.operands,Call.operands,Array.mem_append];exact .inr (by simpa using hx)) v hv) hl
 refine⟨fun f _=>tT f ro,?_⟩
 rw[Oper.semAt_eq _ _ _ (by intro c h;cases h)]
 have hrun:(execOp a.eval ⟨dst,.call {callee:=.value f,args:=args,argTypes:=ats},ty,pos,after,guard⟩).run P w=.ok (.enter g (vs++args.map a.eval++ws)) w:=by
  simp only[execOp,resolve,Sem.run_bind,hv,Deferred.ofValue,Sem.run_pure,Result.andThen_ok,invoke]
  exact he _ _
 rw[hrun]
 refine⟨fun hd=>(by cases hd),callsIn_fence ((h.run X M w _ hg (by simpa using(k1.append k3).append k2)).mono ?_)⟩
 rintro e w' (⟨M',σ',r,v,hm,hg',hv',rfl,hq⟩|⟨rfl,hN,M',hm,hg'⟩)
 ·exact hK M' v w' r σ' hm hg' hv' hq
 ·exact hP hN M' w' hm hg'
/-- One operation that may panic. -/
theorem exl_pcore{R:AV→List Ent→Prop}(hw: ∀a:Act,a.tmps.size=n→(∀M,EnvRel M env a.tmps→Region.wanted o (yielded ops a.tmps)=true))(hd:uF o.dst n=true)(hg:GOpP P ro ch N o env σ R)(hp:N→Q (.panic ch) ⟨env,[],mk,n⟩)
  (h: ∀v σ',R v σ'→EXL P ro ops rest Q ⟨put o.dst v env,σ',mk,n⟩):EXL P ro ops (o::rest) Q ⟨env,σ,mk,n⟩:=by
 refine⟨fun X M a w hs=>?_⟩
 unfold wpListIn
 rw[if_pos (hw a hs.size M hs.env)]
 refine hg.run X M a w hs.good (hs.env.op o) _ _ ?_ ?_
 ·intro M' u w' v σ' hm hgd hv hR
  exact wR (fun _ _ _ hp=>qT hm (fun _ _ h=>h) hp) _ _ _ ((h v σ' hR).run X M' _ w' (hs.put hm hgd hd hv))
 ·intro hN M' w' hm hg'
  exact⟨M',⟨env,[],mk,n⟩,hm,⟨hg',hs.size,hs.defs,hs.env.mono hm⟩,hp hN⟩
theorem pS{R:AV→List Ent→Prop}{d:Nat}(hgd:o.guard=none)(hd:o.dst=some d)(hn:Nat.blt d n=true)(hg:GOpP P ro ch N o env σ R)(hp:N→Q (.panic ch) ⟨env,[],mk,n⟩)
  (h: ∀v σ',R v σ'→EXL P ro ops rest Q ⟨(d,v)::env,σ',mk,n⟩):EXL P ro ops (o::rest) Q ⟨env,σ,mk,n⟩:=
 exl_pcore (fun a _ _ _=>by simp[Region.wanted,hgd]) (dst_ok hd hn) hg hp (fun v σ' hr=>by rw[hd];exact h v σ' hr)
def retP(P:Program)(fn:Func)(ch:List PanicEntry)(N:Prop)(Q:AV→List Ent→Prop):Exit→St→Prop
 |.panic c,s=>c=ch∧s.marks=[]∧N
 |.ret,s=>RetOK P fn Q s
 |.normal,s=>RetOK P fn Q s
 |_,_=>False
theorem pcall_of{f:FuncId}{fn:Func}{c:Code}{args:List AV}{Q:AV→List Ent→Prop}(hf:P.funcs[f]?=some fn)(hb:fn.body=some c)(hn:args.length≤fn.ntmps)
  (h:EX P none c (retP P fn ch N Q) ⟨jU 0 args,σ,[],fn.ntmps⟩):PCall P ch N f args σ Q:=by
 refine⟨fun X0 M w vs hg0 ha=>?_⟩
 obtain⟨X,hX⟩: ∃X:Fx,X={X0 with dt:=[]}:=⟨_,rfl⟩
 have hg:Good X M σ w:=hX▸hg0.dt []
 have back: ∀{M σ w},Good X M σ w→Good X0 M σ w:=fun h=>(hX▸h:Good {X0 with dt:=[]} _ _ _).undt
 have hl:=ha.length
 simp only[Array.length_toList]at hl
 refine callsIn_wide (n:=0).1 (callsIn_of_wp_marks hf hb trivial ?_)
 have hs:Sim X M ⟨jU 0 args,σ,[],fn.ntmps⟩ {tmps:=vs++Array.replicate (fn.ntmps-vs.size) undef,defers:=[]} w:=by
  refine⟨hg,by simp;omega,by rw[hX];rfl,fun t v hv=>?_⟩
  obtain⟨_,h2⟩:=argsEnv_get _ _ _ _ hv
  obtain⟨u,h3,h4⟩:=ha.get h2
  refine⟨u,?_,h4⟩
  simp only[Nat.sub_zero,Array.getElem?_toList]at h3
  have hlt:t<vs.size:=by rcases Nat.lt_or_ge t vs.size with h|h;exact h;rw[Array.getElem?_eq_none h]at h3;cases h3
  rw[Array.getElem?_append_left hlt];exact h3
 refine Go.wpIn_mono (h.run X M _ w hs) ?_
 rintro e a' w' ⟨M',s',hm,hs',hq⟩
 have fin:RetOK P fn Q s'→LeavesInM Fence.wide 0 P fn a'.tmps (fun e w'=>(∃M' σ' r v,M.le M'∧Good X0 M' σ' w'∧VRel M' r v∧e=.returned v∧Q r σ')∨(e=.panicked ch∧N∧ ∃M',M.le M'∧Good X0 M' [] w')) a'.defers .returning w':=by
  rintro⟨rs,σ1,h1,h2,h3⟩
  rw[hs'.defs,show X.dt=[] by rw[hX],List.append_nil]
  refine leaves_marks h1 hs'.good (fun w2 hg2=>?_)
  obtain⟨u,hu,hv⟩:=results_run h2 hg2 hs'.env
  obtain⟨M2,σ2,r2,k1,k2,k3,k4⟩:=h3 X M' w2 u hg2 hv
  exact⟨u,hu,.inl ⟨M2,σ2,r2,u,Mem.le_trans hm k1,back k2,k3,rfl,k4⟩⟩
 cases e with
 |ret=>exact fin hq
 |normal=>exact fin hq
 |exit id=>exact hq.elim
 |goto l=>exact hq.elim
 |panic c=>
  obtain⟨rfl,hmk,hN⟩:=hq
  show LeavesInM Fence.wide 0 P fn a'.tmps _ a'.defers (.panicking c) w'
  rw[hs'.defs,show X.dt=[] by rw[hX],hmk]
  exact .inr ⟨rfl,hN,M',hm,back (hs'.good.sub (List.nil_sublist _))⟩
 |outgrown=>exact hq.elim
end
section
variable (P:Program) (ro:Option Nat) (ch:List PanicEntry) (N:Prop) (le:List Ent→List Ent→Prop) (ops:Array Oper)
def GOpFP(o:Oper)(e:EnvF)(σ:List Ent)(R:AV→List Ent→Prop):Prop:=
 ∀X M a w,Good X M σ w→(∀x∈o.op.operands,∀v,evF e x=some v→VRel M v (a.eval x))→ ∀(K:Act→World→Prop) (Qx:Exit→Act→World→Prop),
  (∀M' u w' v σ',M.le M'→Good X M' σ' w'→VRel M' v u→R v σ'→K (a.put o.dst u) w')→(N→ ∀M' w',M.le M'→Good X M' [] w'→Qx (.panic ch) a w')→o.wpIn (tN ro) 0 P a w K Qx
end
section
variable {P:Program} {ro:Option Nat} {ch:List PanicEntry} {N:Prop} {le:List Ent→List Ent→Prop} {ops:Array Oper}
theorem GOpFP.congr{o:Oper}{e e':EnvF}{σ:List Ent}{R:AV→List Ent→Prop}(h:GOpFP P ro ch N o e σ R)(he: ∀x∈o.op.operands,evF e' x=evF e x):GOpFP P ro ch N o e' σ R:=
 fun X M a w hg ho K Qx hK hP=>h X M a w hg (fun x hx v hv=>ho x hx v (by rw[he x hx];exact hv)) K Qx hK hP
variable {kp:Ent→Prop} {F:Env→List Ent→Prop} {f:Nat} {L:Array Bool} {env:Env} {σ:List Ent} {o o2 o3:Oper} {i j k:Nat} {ef:List Nat}
variable {K:Env→List Ent→Prop}
end
section
variable {P:Program} {ro:Option Nat} {ch:List PanicEntry} {N:Prop} {env:Env} {σ:List Ent}
variable {dst:Option Tmp} {ty:TypeId} {pos:String} {after:Array Edge} {guard:Option (Nat×Bool)}
def concB(P:Program)(t:TypeId):Bool:=match P.underlying t with
 |some (.interface _)=>false
 |some _=>true
 |none=>false
theorem g_iface{t:TypeId}{x:Operand}{k:IntKind}{a:Int}(ht:concB P t=true)(hx:xP env x=some (.int k a)):GOp P ro ⟨dst,.makeInterface t x,ty,pos,after,guard⟩ env σ (Is (.raw (.iface t (.int k a))) σ):=
 zA _ (by intro c h;cases h) fun X M e w hg ho=>by
  have h1:=ho x (by simp[Op.operands]) _ hx
  simp only[VRel]at h1
  refine⟨.iface t (.int k a),by simp[VRel],?_⟩
  unfold concB at ht
  split at ht
  ·cases ht
  ·rename_i d hd hne
   simp only[execOp,h1,Instr.makeInterface,Sem.run_bind,run_underlying hne]
   cases d<;>first|exact(hd _ rfl).elim|rfl
  ·cases ht
theorem gp_panic{x:Operand}{t:TypeId}{v:Value}(hx:xP env x=some (.raw (.iface t v)))(hc:ch=[{v:=.iface t v,recovered:=false}])(hN:N)(R:AV→List Ent→Prop):GOpP P ro ch N ⟨dst,.panic x,ty,pos,after,guard⟩ env σ R:=
 ⟨fun X M a w hg ho K Qx hK hP=>by
  have h1:=ho x (by simp[Op.operands]) _ hx
  simp only[VRel]at h1
  refine⟨fun f _=>tT f ro,?_⟩
  rw[Oper.semAt_eq _ _ _ (by intro c h;cases h)]
  have hrun:(execOp a.eval (⟨dst,.panic x,ty,pos,after,guard⟩:Oper)).run P w=.halt (.panic (.iface t v)) w:=by
   simp only[execOp,h1,Sem.run_bind,Instr.panic,goPanic]
   rfl
  rw[hrun]
  subst hc
  exact hP hN M w (Mem.le_refl M) (hg.sub (List.nil_sublist _))⟩
end
section
variable {P:Program}
def endsA(P:Program)(fn:Func)(X:Fx)(M:Mem)(Q:AV→List Ent→Prop):Exit→Act→World→Prop:=
 bodyPostM (tN none) 0 P fn (fun e w'=> ∃M' σ' r v,M.le M'∧Good X M' σ' w'∧VRel M' r v∧e=.returned v∧Q r σ')
structure EXD(P:Program)(fn:Func)(c:Code)(Q:AV→List Ent→Prop)(s:St):Prop where
 run: ∀X M0 M a w,X.dt=[]→M0.le M→Sim X M s a w→c.wpIn (tN none) 0 P (endsA P fn X M0 Q) a w
structure EXDL(P:Program)(fn:Func)(ops:Array Oper)(l:List Oper)(y:Code)(Q:AV→List Ent→Prop)(s:St):Prop where
 run: ∀X M0 M a w,X.dt=[]→M0.le M→Sim X M s a w→wpListIn (tN none) 0 P ops (Exit.then (fun a w=>y.wpIn (tN none) 0 P (endsA P fn X M0 Q) a w) (endsA P fn X M0 Q)) l a w
def onlyA(p:St→Prop):Exit→St→Prop
 |.normal,s=>p s
 |_,_=>False
theorem exd_seq{fn:Func}{x y:Code}{Q:AV→List Ent→Prop}{s:St}(h:EX P none x (onlyA (EXD P fn y Q)) s):EXD P fn (.seq x y) Q s:=by
 refine⟨fun X M0 M a w hX hm0 hs=>wpIn_seq (Go.wpIn_mono (h.run X M a w hs) ?_)⟩
 rintro e a' w' ⟨M',s',hm,hs',hq⟩
 cases e with
 |normal=>exact hq.run X M0 M' a' w' hX (Mem.le_trans hm0 hm) hs'
 |exit id=>exact hq.elim
 |goto l=>exact hq.elim
 |ret=>exact hq.elim
 |panic ch=>exact hq.elim
 |outgrown=>exact hq.elim
theorem exd_region{fn:Func}{id:Nat}{l:List Oper}{y:Code}{Q:AV→List Ent→Prop}{s:St}(h:EXDL P fn l.toArray l y Q s):EXD P fn (.seq (.region id l.toArray false) y) Q s:=
 ⟨fun X M0 M a w hX hm0 hs=>wpIn_seq (wpIn_region_lit (h.run X M0 M a w hX hm0 hs))⟩
theorem exdl_op{fn:Func}{ops:Array Oper}{o:Oper}{rest:List Oper}{y:Code}{Q:AV→List Ent→Prop}{R:AV→List Ent→Prop}{s:St}(hgd:o.guard=none)(hd:uF o.dst s.n=true)(hg:GOp P none o s.env s.σ R)
  (h: ∀v σ',R v σ'→EXDL P fn ops rest y Q {s with env:=put o.dst v s.env,σ:=σ'}):EXDL P fn ops (o::rest) y Q s:=by
 refine⟨fun X M0 M a w hX hm0 hs=>?_⟩
 unfold wpListIn
 rw[if_pos (by simp[Region.wanted,hgd])]
 refine hg.run X M a w hs.good (hs.env.op o) _ _ ?_
 intro M' u w' v σ' hm hgd hv hR
 exact(h v σ' hR).run X M0 M' _ w' hX (Mem.le_trans hm0 hm) (hs.put hm hgd hd hv)
theorem leaves_marks_tl{X:Fx}{M:Mem}{fn:Func}{tmps:Array Value}{R:Ending→World→Prop}{tl:List Deferred}{ds:List Nat}{σ σ1:List Ent}(h:Marks ds σ σ1): ∀{w:World},Good X M σ w→(∀w',Good X M σ1 w'→LeavesInM (tN none) 0 P fn tmps R tl .returning w')→
  LeavesInM (tN none) 0 P fn tmps R (marksD ds++tl) .returning w:=by
 induction h with
 |nil=>intro w hg hr;exact hr w hg
 |@cons D ds σ σ1 σ2 hrem _ ih=>
  intro w hg hr
  obtain⟨a,c,rfl,rfl⟩:=hrem.split
  have hD:w.heap[D]?=some (.deferred (some [])):=hg.ent (.obj D (.deferred (some []))) (by simp)
  refine⟨by simp,.inl ⟨D,w.putObj D (.deferred none),rfl,run_takeDeferred hD,ih ?_ hr⟩⟩
  exact hg.rem hrem rfl rfl rfl (fun k hk=>World.putObj_heap_other (fun e=>hk (by simp[Ent.block,e])))
def Idle(P:Program)(f:FuncId)(k:Nat):Prop:= ∀(ws:Array Value) (w:World),ws.size=k→CallsDIn (tN none) 0 P f ws .returning w fun e u' w'=>(∃v,e=.returned v)∧u'=.returning∧w'=w
theorem scall_ofD{f:FuncId}{fn:Func}{c:Code}{args:List AV}{σ:List Ent}{Q:AV→List Ent→Prop}(hf:P.funcs[f]?=some fn)(hb:fn.body=some c)(hn:args.length≤fn.ntmps)
  (h:EXD P fn c Q ⟨jU 0 args,σ,[],fn.ntmps⟩):SCall P f args σ Q:=by
 refine⟨fun X0 M w vs hg0 ha=>?_⟩
 obtain⟨X,hX⟩: ∃X:Fx,X={X0 with dt:=[]}:=⟨_,rfl⟩
 have hg:Good X M σ w:=hX▸hg0.dt []
 have back: ∀{M σ w},Good X M σ w→Good X0 M σ w:=fun h=>(hX▸h:Good {X0 with dt:=[]} _ _ _).undt
 have hl:=ha.length
 simp only[Array.length_toList]at hl
 refine callsIn_wide (n:=0).1 ((callsIn_of_wp_marks (R:=fun e w'=> ∃M' σ' r v,M.le M'∧Good X M' σ' w'∧VRel M' r v∧e=.returned v∧Q r σ') hf hb trivial ?_).mono ?_)
 ·have hs:Sim X M ⟨jU 0 args,σ,[],fn.ntmps⟩ {tmps:=vs++Array.replicate (fn.ntmps-vs.size) undef,defers:=[]} w:=by
   refine⟨hg,by simp;omega,by rw[hX];rfl,fun t v hv=>?_⟩
   obtain⟨_,h2⟩:=argsEnv_get _ _ _ _ hv
   obtain⟨u,h3,h4⟩:=ha.get h2
   refine⟨u,?_,h4⟩
   simp only[Nat.sub_zero,Array.getElem?_toList]at h3
   have hlt:t<vs.size:=by rcases Nat.lt_or_ge t vs.size with h|h;exact h;rw[Array.getElem?_eq_none h]at h3;cases h3
   rw[Array.getElem?_append_left hlt];exact h3
  exact h.run X M M _ w (by rw[hX]) (Mem.le_refl M) hs
 ·rintro e w' ⟨M',σ',r,v,h1,h2,h3⟩
  exact⟨M',σ',r,v,h1,back h2,h3⟩
end
structure PCallF(P:Program)(ch:List PanicEntry)(N:Prop)(f:FuncId)(args:List AV)(σ:List Ent)(Q:AV→List Ent→Prop)(τ:List Ent):Prop where
 run: ∀X M w (vs:Array Value),Good X M σ w→VRels M args vs.toList→Calls P f vs w fun e w'=>(∃M' σ' r v,M.le M'∧Good X M' σ' w'∧VRel M' r v∧e=.returned v∧Q r σ')∨(e=.panicked ch∧N∧ ∃M',M.le M'∧Good X M' τ w')
section
variable {P:Program} {ch:List PanicEntry} {N:Prop}
theorem PCall.framed{f:FuncId}{args:List AV}{σ1 σ:List Ent}{Q:AV→List Ent→Prop}(h:PCall P ch N f args σ1 Q)(τ:List Ent)(hp:σ.Perm (σ1++τ)):PCallF P ch N f args σ (fun r σ'=> ∃σ2,Q r σ2∧σ'=σ2++τ) τ:=by
 refine⟨fun X M w vs hg ha=>?_⟩
 obtain⟨X',h1,h2⟩:=(hg.perm hp).framed
 refine(h.run X' M w vs h1 ha).mono fun e w' hx=>?_
 rcases hx with⟨M',σ',r,v,k1,k2,k3,k4,k5⟩|⟨k1,kn,M',k2,k3⟩
 ·exact .inl ⟨M',σ'++τ,r,v,k1,h2 _ _ _ k1 k2,k3,k4,σ',k5,rfl⟩
 ·exact .inr ⟨k1,kn,M',k2,h2 _ _ _ k2 k3⟩
section
variable {ro:Option Nat} {Q:Exit→St→Prop} {ops:Array Oper} {rest:List Oper} {env:Env} {σ τ:List Ent} {mk:List Nat} {n:Nat} {d:Nat} {ty:TypeId} {pos:String} {after:Array Edge}
theorem exl_pf{f:Operand}{args:Array Operand}{ats:Array TypeId}{g:FuncId}{first cap l:List AV}{R:AV→List Ent→Prop}(hn:Nat.blt d n=true)(hf:xP env f=some (.fn (.func g) first cap))(hl:evAs env args.toList=some l)(he:Enters P g)(h:PCallF P ch N g (first++l++cap) σ R τ)(hp:N→Q (.panic ch) ⟨env,τ,mk,n⟩)
  (hk: ∀v σ',R v σ'→EXL P ro ops rest Q ⟨(d,v)::env,σ',mk,n⟩):EXL P ro ops (⟨some d,.call {callee:=.value f,args:=args,argTypes:=ats},ty,pos,after,none⟩::rest) Q ⟨env,σ,mk,n⟩:=by
 refine⟨fun X M a w hs=>?_⟩
 unfold wpListIn
 rw[if_pos (by simp[Region.wanted])]
 have ho:=hs.env.op (⟨some d,.call {callee:=.value f,args:=args,argTypes:=ats},ty,pos,after,none⟩:Oper)
 have h1:=ho f (by simp[Op.operands,Call.operands]) _ hf
 simp only[VRel]at h1
 obtain⟨vs,ws,hv,k1,k2⟩:=h1
 have k3:=evAs_rel (a:=a) (M:=M) (fun x hx v hv=>ho x (by simp only[Op.operands,Call.operands,Array.mem_append];exact .inr (by simpa using hx)) v hv) hl
 refine⟨fun f _=>tT f ro,?_⟩
 rw[Oper.semAt_eq _ _ _ (by intro c h;cases h)]
 have hrun:(execOp a.eval (⟨some d,.call {callee:=.value f,args:=args,argTypes:=ats},ty,pos,after,none⟩:Oper)).run P w=.ok (.enter g (vs++args.map a.eval++ws)) w:=by
  simp only[execOp,resolve,Sem.run_bind,hv,Deferred.ofValue,Sem.run_pure,Result.andThen_ok,invoke]
  exact he _ _
 rw[hrun]
 refine⟨fun hd=>(by cases hd),callsIn_fence ((h.run X M w _ hs.good (by simpa using(k1.append k3).append k2)).mono ?_)⟩
 rintro e w' (⟨M',σ',r,v,hm,hg',hv',rfl,hq⟩|⟨rfl,hN,M',hm,hg'⟩)
 ·exact wR (fun _ _ _ hp=>qT hm (fun _ _ h=>h) hp) _ _ _ ((hk r σ' hq).run X M' _ w' (hs.put hm hg' (dst_ok (o:=⟨some d,.call {callee:=.value f,args:=args,argTypes:=ats},ty,pos,after,none⟩) rfl hn) hv'))
 ·exact⟨M',⟨env,τ,mk,n⟩,hm,⟨hg',hs.size,hs.defs,hs.env.mono hm⟩,hp hN⟩
end
def Saves(P:Program)(ch:List PanicEntry)(f:FuncId)(cap:List AV)(σ:List Ent)(R:List Ent→Prop):Prop:=
 ∀X M w (ws:Array Value),Good X M σ w→VRels M cap ws.toList→CallsDIn (tN none) 0 P f ws (.panicking ch) w fun e u' w'=>(∃v,e=.returned v)∧settle u'=.returning∧ ∃M' σ',M.le M'∧Good X M' σ' w'∧R σ'
def retR(P:Program)(fn:Func)(ch:List PanicEntry)(f:FuncId)(cap:List AV)(Q:AV→List Ent→Prop):Exit→St→Prop
 |.panic c,s=>c=ch∧s.marks=[]∧ ∃σr R,σr.Sublist s.σ∧Saves P ch f cap σr R∧ ∀σ',R σ'→ ∃vs,Res P s.env σ' fn.results.toList vs∧Fin σ' (oneA vs) Q
 |.ret,s=>RetOK P fn Q s
 |.normal,s=>RetOK P fn Q s
 |_,_=>False
theorem exdl_deferP{fn:Func}{ops:Array Oper}{ty:TypeId}{pos:String}{after:Array Edge}{t:Tmp}{y:Code}{Q:AV→List Ent→Prop}{env:Env}{σ:List Ent}{n:Nat}{f:FuncId}{cap:List AV}
  (ht:lk env t=some (.fn (.func f) [] cap)) (he:Enters P f) (hi:Idle P f cap.length)
  (h:EX P none y (retR P fn ch f cap Q) ⟨env,σ,[],n⟩):EXDL P fn ops [⟨none,.defer {callee:=.value (.tmp t),args:=#[],argTypes:=#[]},ty,pos,after,none⟩] y Q ⟨env,σ,[],n⟩:=by
 refine⟨fun X M0 M a w hX hm0 hs=>?_⟩
 unfold wpListIn
 rw[if_pos (by simp[Region.wanted])]
 obtain⟨u,hu1,hu2⟩:=hs.env t _ ht
 simp only[VRel]at hu2
 obtain⟨vs,ws,rfl,k1,k2⟩:=hu2
 have hvs:vs=#[]:=by
  have hk:=k1.length
  exact Array.eq_empty_of_size_eq_zero (by simpa using hk)
 subst hvs
 have hws:ws.size=cap.length:=by have hk:=k2.length;simpa using hk
 have hrun:(execOp a.eval (⟨none,.defer {callee:=.value (.tmp t),args:=#[],argTypes:=#[]},ty,pos,after,none⟩:Oper)).run P w=.ok (.defer {target:=.fn (.func f) ws,args:=#[]}) w:=by
  simp[execOp,resolve,Act.eval,Array.getD_eq_getD_getElem?,hu1,go_sem]
 refine⟨fun f _=>tT f none,?_⟩
 rw[show Oper.semAt (tN none).round a.eval (⟨none,.defer {callee:=.value (.tmp t),args:=#[],argTypes:=#[]},ty,pos,after,none⟩:Oper)=execOp a.eval (⟨none,.defer {callee:=.value (.tmp t),args:=#[],argTypes:=#[]},ty,pos,after,none⟩:Oper) from rfl,hrun]
 obtain⟨X1,hX1⟩: ∃X1:Fx,X1={X with dt:=[{target:=.fn (.func f) ws,args:=#[]}]}:=⟨_,rfl⟩
 have hg1: ∀{M σ w},Good X M σ w→Good X1 M σ w:=fun h=>hX1▸h.dt _
 have back: ∀{M σ w},Good X1 M σ w→Good X M σ w:=fun h=>(hX1▸h:Good {X with dt:=[{target:=.fn (.func f) ws,args:=#[]}]} _ _ _).undt
 have hdt:X1.dt=[{target:=.fn (.func f) ws,args:=#[]}]:=by rw[hX1]
 have hs1:Sim X1 M ⟨env,σ,[],n⟩ {a with defers:={target:=.fn (.func f) ws,args:=#[]}::a.defers} w:=⟨hg1 hs.good,hs.size,by rw[hdt];show _::a.defers=_;rw[hs.defs,hX];rfl,hs.env⟩
 show y.wpIn (tN none) 0 P (endsA P fn X M0 Q) {a with defers:={target:=.fn (.func f) ws,args:=#[]}::a.defers} w
 refine Go.wpIn_mono (h.run X1 M _ w hs1) ?_
 rintro e a' w' ⟨M',s',hm,hs',hq⟩
 have fin:RetOK P fn Q s'→LeavesInM (tN none) 0 P fn a'.tmps (fun e w'=> ∃M' σ' r v,M0.le M'∧Good X M' σ' w'∧VRel M' r v∧e=.returned v∧Q r σ') a'.defers .returning w':=by
  rintro⟨rs,σ1,h1,h2,h3⟩
  rw[hs'.defs,hdt]
  refine leaves_marks_tl h1 hs'.good (fun w2 hg2=>?_)
  refine⟨by simp,.inr ⟨(fun h=>by cases h),.func f,ws,f,#[]++ws,rfl,he _ _,fun _ _=>trivial,(hi _ _ (by simpa using hws)).mono ?_⟩⟩
  rintro e u' w3 ⟨⟨v,rfl⟩,rfl,rfl⟩
  obtain⟨u,hu,hv⟩:=results_run h2 hg2 hs'.env
  obtain⟨M2,σ2,r2,k1,k2,k3,k4⟩:=h3 X1 M' w3 u hg2 hv
  exact⟨u,hu,M2,σ2,r2,u,Mem.le_trans hm0 (Mem.le_trans hm k1),back k2,k3,rfl,k4⟩
 cases e with
 |ret=>exact fin hq
 |normal=>exact fin hq
 |exit id=>exact hq.elim
 |goto l=>exact hq.elim
 |panic c=>
  obtain⟨rfl,hmk,σr,R,hsub,hsv,hres⟩:=hq
  show LeavesInM (tN none) 0 P fn a'.tmps (fun e w'=> ∃M' σ' r v,M0.le M'∧Good X M' σ' w'∧VRel M' r v∧e=.returned v∧Q r σ') a'.defers (.panicking c) w'
  rw[hs'.defs,hdt,hmk]
  refine⟨by simp,.inr ⟨(fun h=>by cases h),.func f,ws,f,#[]++ws,rfl,he _ _,fun _ _=>trivial,(hsv X1 M' w' (#[]++ws) (hs'.good.sub hsub) (by simpa using k2.mono hm)).mono ?_⟩⟩
  rintro e u' w3 ⟨⟨v,rfl⟩,hst,M2,σ2,hm2,hg2,hR⟩
  show LeavesInM (tN none) 0 P fn a'.tmps _ [] (settle u') w3
  rw[hst]
  obtain⟨vs,h2,h3⟩:=hres σ2 hR
  obtain⟨u,hu,hv⟩:=results_run h2 hg2 (hs'.env.mono hm2)
  obtain⟨M3,σ3,r3,j1,j2,j3,j4⟩:=h3 X1 M2 w3 u hg2 hv
  exact⟨u,hu,M3,σ3,r3,u,Mem.le_trans hm0 (Mem.le_trans hm (Mem.le_trans hm2 j1)),back j2,j3,rfl,j4⟩
 |outgrown=>exact hq.elim
end
end Go.Proofs.YtaoaafdommlhcaaGreat

/- Parts of the proof that belong together: Sce Sal Saf Skm. -/
import Derived.Test.YtaoaafdommlhcaaGreatHA01
import Derived.Test.YtaoaafdommlhcaaGreatHA10
import Derived.Test.YtaoaafdommlhcaaGreatHA11
import Derived.Lib.AppendZerosOnto
set_option maxRecDepth 10000
set_option maxHeartbeats 2000000
set_option linter.unusedSimpArgs false
set_option linter.unusedVariables false
set_option autoImplicit false
open Go.Proofs.Tryz
namespace Go.Proofs.YtaoaafdommlhcaaGreat
section
variable {P:Program} {ro:Option Nat} {env:Env} {σ:List Ent} {dst:Option Tmp} {ty:TypeId} {pos:String} {after:Array Edge} {guard:Option (Nat×Bool)}
theorem g_appendOverZ{t ti e:TypeId}{sz bytes k n:Nat}{s x:Operand}{v:Value}{kx ik:IntKind}{j:Int}{z:List AV}{L:List (List AV)}(ht:appOf P t=some (e,sz,bytes))(hti:P.underlying ti=some (.int ik))(hz:zeroA P e=some z)(hs:xP env s=some (.raw (pA sz v 0 k)))(hx:xP env x=some (.int kx j))(hj:j=(n:Int))(h0:0<n)(hm:Ent.row v e sz L∈σ)(hk:k≤L.length)
  (hc:capS v<k+n) (hb:(k+n)*bytes≤140737488355328) (h0k:L≠[]):
  GOp P ro ⟨dst,.call {callee:=.builtin .append,args:=#[s,x],argTypes:=#[t,ti]},ty,pos,after,guard⟩ env σ (Rowed e sz (L.take k++List.replicate n z) σ):=
 wJ (by intro c h;cases h) fun X M a w hg ho=>by
  have h1:=ho s (by simp[Op.operands,Call.operands]) _ hs
  have h2:=ho x (by simp[Op.operands,Call.operands]) _ hx
  simp only[VRel]at h1 h2
  obtain⟨hue,inf,z',hinf,hz',hsz,hby,hzl,hs0,hb0⟩:=qP ht
  obtain⟨i',zv,hi',hzv,rfl⟩:=pC hz
  rw[hinf]at hi';cases hi'
  rw[hz']at hzv;cases hzv
  subst hj
  obtain⟨xs,hown,hr,hsl⟩:=hg.ent _ hm
  have hl:=hown.1
  rcases hown.2 with⟨rfl,hn0⟩|⟨g,cap,cur,rfl,hbg,hgg,hnc,hcmx,hcs,htk⟩
  ·exact absurd (List.eq_nil_of_length_eq_zero hn0) h0k
  ·simp only[capS]at hc
   have h63:k+n≤maxLen:=by
    have:=Nat.le_mul_of_pos_right (k+n) hb0
    unfold maxLen;omega
   have hsm:k+n≤9223372036854775807:=by unfold maxLen at h63;omega
   have hd1:pA sz (.slice (some ⟨g,0,none⟩) L.length cap) 0 k=.slice (some ⟨g,0,none⟩) k cap:=by
    simp[pA,Addr.add]
   rw[hd1]at h1
   have hcell: ∀(j:Nat) (u:Value),xs[j]?=some u→w.cell? ((⟨g,0,none⟩:Addr).add j)=some u:=hown.cells (g:=g) rfl
   have hks:k*sz≤L.length*sz:=Nat.mul_le_mul_right _ hk
   have hol:(xs.take (k*sz)).length=k*sz:=by rw[List.length_take];omega
   have hold:=run_firstCells_some (P:=P) w.drew inf.size k ⟨g,0,none⟩ k cap (xs.take (k*sz)) (by rw[hsz];exact hol) (fun j u hj=>by
    have:=hcell j u (by
     rw[List.getElem?_take]at hj
     split at hj
     ·exact hj
     ·cases hj)
    simpa using this)
   have hnb:n*inf.bytes≤140737488355328:=by
    rw[hby]
    exact Nat.le_trans (Nat.mul_le_mul_right _ (by omega)) hb
   have hr2:=Go.Lib.run_append_grow_zeros (P:=P) w t ti ty e inf z' kx ik hue hti hinf hz' (some ⟨g,0,none⟩) k cap (xs.take (k*sz)) hold n h0 (by omega) (by omega) (by omega) (by omega) (growslice_fits (by omega) (by rw[hby];exact hb))
   have hge:=grownCap_ge w (k+n) cap e
   have hcm:grownCap w (k+n) cap e≤maxLen:=grownCap_le_maxLen w (k+n) cap e h63
   have hzL:(z'.cells.toList.map cA).length=sz:=by simp[hzl]
   have hlk:(L.take k++List.replicate n (z'.cells.toList.map cA)).length=k+n:=by rw[List.length_append,List.length_take,List.length_replicate];omega
   have hzc: ∀q,(Builtin.zeroCells z'.cells q).size=q*sz:=fun q=>by simp[Builtin.zeroCells,hzl]
   have hon:((xs.take (k*sz)).toArray++Builtin.zeroCells z'.cells n).size=(k+n)*sz:=by
    rw[Array.size_append,List.size_toArray,hol,hzc,Nat.add_mul]
   have hgd:=alloc_row hg.drew ((xs.take (k*sz)).toArray++Builtin.zeroCells z'.cells n++Builtin.zeroCells z'.cells (grownCap w (k+n) cap e-(k+n))) e sz (l:=L.take k++List.replicate n (z'.cells.toList.map cA)) (cap:=grownCap w (k+n) cap e) (by rw[hlk];exact hge) hcm (by rw[Array.size_append,hon,hzc,←Nat.add_mul];congr 1;omega) (fun y hy=>by
    rcases List.mem_append.1 hy with hy|hy
    ·exact hsl y (List.mem_of_mem_take hy)
    ·rw[(List.mem_replicate.1 hy).2,hzL]) (by
    rw[hlk,Array.toList_append,List.take_left' (by rw[Array.length_toList];exact hon),List.flatten_append,uD k hsl]
    have h3:=zeros_rel M (z:=z') (n:=n*z'.cells.size) (fun _=>by omega)
    have e1:kR (z'.cells.toList.map cA) (n*z'.cells.size)=(List.replicate n (z'.cells.toList.map cA)).flatten:=by
     apply List.ext_getElem?
     intro k
     by_cases hk:k<n*sz
     ·rw[uJ _ _ _ (by rw[hzL];exact hk)]
      simp only[kR,hzl,List.getElem?_map,List.getElem?_range hk,Option.map_some,hzL]
      have hlt:k%sz<(z'.cells.toList.map cA).length:=by rw[hzL];exact Nat.mod_lt _ hs0
      have e2: ∃q,(z'.cells.toList.map cA)[k%sz]?=some q:=⟨_,List.getElem?_eq_getElem hlt⟩
      rw[List.getElem?_map]at e2
      obtain⟨q,e2⟩:=e2
      rw[e2];rfl
     ·rw[List.getElem?_eq_none (by simp[kR,hzl];omega),List.getElem?_eq_none (by simp[hzl];omega)]
    rw[e1]at h3
    have:=(hr.take (k*sz)).append h3
    rw[Array.toList_append]
    exact this)
   rw[hlk]at hgd
   refine⟨M,.slice (some ⟨w.heap.size,0,none⟩) (k+n) (grownCap w (k+n) cap e),_,.slv _,_,Mem.le_refl M,hgd,by simp[VRel,Value.isSl],.mk _,.inl ?_⟩
   simp only[execOp,resolve,invoke,builtin,Sem.run_bind,Sem.run_pure,Result.andThen_ok,List.map_toArray,List.map_cons,List.map_nil,h1,h2,hr2]
   rfl
theorem run_equalIn_nilN{t e:TypeId}(ht:P.underlying t=some (.slice e))(d:Nat)(n c:Nat)(w:World):(Op.equalIn (d+1) t (.slice none n c) (.slice none 0 0)).run P w=.ok true w:=by
 simp only[Op.equalIn,Sem.run_bind,run_underlying ht,Result.andThen_ok,Sem.run_pure]
 rfl
theorem run_eql_nilN{t e:TypeId}(ht:P.underlying t=some (.slice e))(n c:Nat)(w:World):(binOp .eql t (.slice none n c) (.slice none 0 0)).run P w=.ok (.bool true) w:=by
 have h:=run_equalIn_nilN (P:=P) ht 9999 n c w
 simp only[binOp]
 simp only[Op.equal,Op.maxDepth,Sem.run_bind,Sem.run_map,h]
 rfl
inductive ZRow(L:List (List AV))(k n:Nat)(e:TypeId)(sz:Nat)(σ:List Ent):AV→List Ent→Prop
 |mk (v:Value) (Z:List (List AV)) (h:Z.length=n):ZRow L k n e sz σ (.slv v) (.row v e sz (L.take k++Z)::σ)
theorem gop_mono{o:Oper}{R R':AV→List Ent→Prop}(h:GOp P ro o env σ R)(hr: ∀v σ',R v σ'→R' v σ'):GOp P ro o env σ R':=
 ⟨fun X M a w hg ho K Qx hK=>h.run X M a w hg ho K Qx fun M' u w' v σ' hm hgd hv hq=>hK M' u w' v σ' hm hgd hv (hr v σ' hq)⟩
theorem g_appendOverE{t ti e:TypeId}{sz bytes k n:Nat}{s x:Operand}{v:Value}{kx ik:IntKind}{j:Int}{z:List AV}{L:List (List AV)}(ht:appOf P t=some (e,sz,bytes))(hti:P.underlying ti=some (.int ik))(hz:zeroA P e=some z)(hs:xP env s=some (.raw (pA sz v 0 k)))(hx:xP env x=some (.int kx j))(hj:j=(n:Int))(h0:0<n)(hm:Ent.row v e sz L∈σ)(hk:k≤L.length)
  (hc:capS v<k+n) (hb:(k+n)*bytes≤140737488355328) (h0k:L≠[]):
  GOp P ro ⟨dst,.call {callee:=.builtin .append,args:=#[s,x],argTypes:=#[t,ti]},ty,pos,after,guard⟩ env σ (ZRow L k n e sz σ):=
 gop_mono (g_appendOverZ ht hti hz hs hx hj h0 hm hk hc hb h0k) (by rintro _ _ ⟨u⟩;exact .mk u _ (List.length_replicate))
inductive SomeB(σ:List Ent):AV→List Ent→Prop
 |mk (b:Bool):SomeB σ (.bool b) σ
theorem g_eqlNilE{x:Operand}{t e yt:TypeId}{sz:Nat}{L:List (List AV)}(ht:P.underlying t=some (.slice e))(hx:xP env x=some (.dl sz L)):
  GOp P ro ⟨dst,.binOp .eql t x (.const nilS) yt,ty,pos,after,guard⟩ env σ (SomeB σ):=
 wJ (by intro c h;cases h) fun X M a w hg ho=>by
  have h1:=ho x (by simp[Op.operands]) _ hx
  simp only[VRel]at h1
  obtain⟨ad,cap,hv,_,_,_,h2⟩:=h1
  have e:a.eval (.const nilS)=nilS:=rfl
  cases ad with
  |some ad=>
   refine⟨M,.bool false,w,.bool false,σ,Mem.le_refl M,hg,by simp[VRel],.mk _,.inl ?_⟩
   simp only[execOp,e,hv,Sem.run_bind,run_eql_nil ht]
   rfl
  |none=>
   refine⟨M,.bool true,w,.bool true,σ,Mem.le_refl M,hg,by simp[VRel],.mk _,.inl ?_⟩
   simp only[execOp,e,hv,Sem.run_bind,run_eql_nilN ht]
   rfl
end
section
variable {P:Program} {ro:Option Nat} {Q:Exit→St→Prop} {ops:Array Oper}
variable {f:Nat} {L:Array Bool} {s:St} {o o2 o3:Oper} {i j k:Nat}
def rdyGo(L:List Bool):List Oper→Nat→List Nat
 |[],_=>[]
 |o::r,i=>if (!L.getD i true&&(o.after.toList.all fun e=>!Region.binds .any e||L.getD e.on false))=true then i::rdyGo L r (i+1)else rdyGo L r (i+1)
theorem getD_list{L:Array Bool}{i:Nat}{b:Bool}:L.getD i b=L.toList.getD i b:=by
 rw[Array.getD_eq_getD_getElem?,List.getD_eq_getElem?_getD,Array.getElem?_toList]
theorem rdyGo_spec{L:Array Bool}{ops:Array Oper}: ∀(r:List Oper) (k:Nat),(∀j,r[j]?=ops[k+j]?)→rdyGo L.toList r k=(List.range' k r.length).filter fun i=>!L.getD i true&&((ops[i]?).map (·.after.all fun e=>!Region.binds .any e||L.getD e.on false)).getD false
 |[],k,_=>rfl
 |o::r,k,h=>by
  have h0:ops[k]?=some o:=by simpa using(h 0).symm
  have ih:=rdyGo_spec (L:=L) r (k+1) fun j=>by have:=h (j+1);simpa [Nat.add_assoc,Nat.add_comm 1 j]using this
  rw[rdyGo,ih,List.length_cons,List.range'_succ,List.filter_cons,h0,Option.map_some,Option.getD_some,getD_list,Array.all_toList]
  simp only[getD_list]
theorem rdy_eq{ops:Array Oper}{L:Array Bool}:Region.ready .any ops L=rdyGo L.toList ops.toList 0:=by
 rw[rdyGo_spec (ops:=ops) _ 0 (fun j=>by simp),Region.ready,List.range_eq_range']
 simp
end
section
variable {P:Program} {ro:Option Nat} {kp:Ent→Prop} {ops:Array Oper} {F:Env→List Ent→Prop} {f:Nat} {L:Array Bool} {env:Env} {σ:List Ent} {o o2 o3:Oper} {i j k:Nat}
theorem anyF_sound{le:List Ent→List Ent→Prop}{nn:Nat}{ds:List Deferred}{Qr:Exit→Act→World→Prop}{Q:EnvF→List Ent→Prop}{X:Fx}(hrf: ∀a,le a a)(hd: ∀o∈ops.toList,uF o.dst nn=true){M0:Mem}(hQ: ∀M e σ a w,M0.le M→SimF X M e σ nn ds a w→Q e σ→Qr .normal a w):
  ∀f L (M:Mem) e σ a w,M0.le M→SimF X M e σ nn ds a w→anyF P ro le ops Q f L e σ→wpAnyIn (tN ro) 0 P .any ops Qr f L a w
 |0,L,M,e,σ,a,w,hm,hs,h=>⟨h.1,hQ M e σ a w hm hs h.2⟩
 |f+1,L,M,e,σ,a,w,hm,hs,h=>by
  refine⟨fun h0=>hQ M e σ a w hm hs (h.1 h0),fun i hi=>?_⟩
  have h2:=h.2 i hi
  obtain⟨_,o,ho,_⟩:=mem_ready.1 hi
  have hol:o∈ops.toList:=by
   have:ops.toList[i]?=some o:=by simpa using ho
   exact List.mem_of_getElem? this
  unfold stepF at h2
  simp only[ho]at h2
  unfold wpOpIn
  simp only[ho]
  rcases h2 with⟨h3,h4⟩|⟨h3,⟨v,hq,hk⟩|⟨R,hR,hk⟩⟩
  ·have hw:=hs.wanted h3
   simp only[hw,Bool.false_eq_true,if_false]
   exact⟨fun f _=>tT f ro,anyF_sound hrf hd hQ f _ M _ σ _ w hm (hs.put (Mem.le_refl M) hs.good (hd o hol) (by simp[VRel])) h4⟩
  ·have hw:=hs.wanted h3
   simp only[hw,if_true]
   refine hq σ (hrf σ) X M a w hs.good (fun x _ v hv=>hs.eval hv) _ _ ?_
   rintro M2 u w' v' σ' hm2 hg2 hv2 ⟨⟩
   exact anyF_sound hrf hd hQ f _ M2 _ _ _ w' (Mem.le_trans hm hm2) (hs.put hm2 hg2 (hd o hol) hv2) hk
  ·have hw:=hs.wanted h3
   simp only[hw,if_true]
   refine hR X M a w hs.good (fun x _ v hv=>hs.eval hv) _ _ ?_
   intro M2 u w' v σ' hm2 hg2 hv2 hr2
   exact anyF_sound hrf hd hQ f _ M2 _ σ' _ w' (Mem.le_trans hm hm2) (hs.put hm2 hg2 (hd o hol) hv2) (hk v σ' hr2).2
structure DRF(P:Program)(ro:Option Nat)(kp:Ent→Prop)(ef:List Nat)(ops:Array Oper)(F:Env→List Ent→Prop)(f:Nat)(L:Array Bool)(env:Env)(σ:List Ent):Prop where
 run:anyF P ro (AddsK kp) ops (fun e σ=> ∃env,lk env=e∧F env σ) f L (lk env) σ
structure DRS(P:Program)(ro:Option Nat)(kp:Ent→Prop)(o:Oper)(env:Env)(σ:List Ent)(K:Env→List Ent→Prop):Prop where
 run:o.guard=none∧ ∃R,GOp P ro o env σ R∧ ∀v σ',R v σ'→AddsK kp σ σ'∧K (put o.dst v env) σ'
structure DRV(P:Program)(ro:Option Nat)(kp:Ent→Prop)(ops:Array Oper)(o:Oper)(env:Env)(σ:List Ent)(K:Env→List Ent→Prop):Prop where
 run: ∃v,Yld P ro (AddsK kp) ops o v (lk env) σ∧K (put o.dst v env) σ
theorem wH{id:Nat}{l:List Oper}{mk:List Nat}{n:Nat}{Q:Exit→St→Prop}(kp:Ent→Prop)(ef:List Nat)(hm:P.follows .mixedOrders=true)(hd:(l.all fun o=>uF o.dst n)=true)
  (h:DRF P ro kp ef l.toArray (fun env σ=>Q .normal ⟨env,σ,mk,n⟩) l.length (Array.replicate l.length false) env σ):EX P ro (.region id l.toArray true) Q ⟨env,σ,mk,n⟩:=by
 refine⟨fun X M a w hs=>?_⟩
 refine wpIn_region_any hm ?_
 rw[List.size_toArray]
 refine anyF_sound (le:=AddsK kp) AddsK.refl (nn:=n) (ds:=marksD mk++X.dt) (X:=X) (M0:=M) (fun o ho=>List.all_eq_true.1 hd o ho) ?_ _ _ M (lk env) σ a _ (Mem.le_refl M) ⟨hs.good.drew,hs.size,hs.defs,hs.env⟩ h.run
 rintro M1 e σ a1 w1 hm1 hs1 ⟨env,rfl,hx⟩
 exact⟨M1,⟨env,σ,mk,n⟩,hm1,⟨hs1.good,hs1.size,hs1.defs,hs1.env⟩,hx⟩
theorem yB{id:Nat}{l:List Oper}{mk:List Nat}{n:Nat}{Q:Exit→St→Prop}(kp:Ent→Prop)(ef:List Nat)(m:Nat)(hm:P.follows .mixedOrders=true)(hB:vG [] l m=true)(hd:(l.all fun o=>uF o.dst n)=true)
  (h:DRF P ro kp ef (l.take m).toArray (fun env σ=>EXL P ro l.toArray (l.drop m) Q ⟨env,σ,mk,n⟩) m (Array.replicate m false) env σ):EX P ro (.region id l.toArray true) Q ⟨env,σ,mk,n⟩:=
 ex_drawAF kp m hm hB hd ⟨h.run⟩
theorem ex_joinP{x y:Code}{Q:Exit→St→Prop}{s:St}{α:Type}(f:α→St)(h1:EX P ro x (thenA (fun s=> ∃a σ',s.σ.Perm σ'∧St.le ⟨s.env,σ',s.marks,s.n⟩ (f a)) Q) s)(h2: ∀a,EX P ro y Q (f a)):EX P ro (.seq x y) Q s:=
 ex_seq (ex_mono h1 fun e s h=>by
  cases e with
  |normal=>obtain⟨a,σ',hp,ha⟩:=h;exact pD hp (yS ha (h2 a))
  |exit id=>exact h
  |goto l=>exact h
  |ret=>exact h
  |panic ch=>exact h
  |outgrown=>exact h)
theorem pG{x y:Code}{Q:Exit→St→Prop}{s:St}{α:Type}(f:α→St)(h1:EX P ro x (thenA (fun s=> ∃a σ',s.σ.Perm σ'∧St.le ⟨s.env,σ',s.marks,s.n⟩ (f a)) Q) s)(h2: ∀a,EX P ro y Q (f a)):EX P ro x (thenA (EX P ro y Q) Q) s:=
 ex_mono h1 fun e s h=>by
  cases e with
  |normal=>obtain⟨a,σ',hp,ha⟩:=h;exact pD hp (yS ha (h2 a))
  |exit id=>exact h
  |goto l=>exact h
  |ret=>exact h
  |panic ch=>exact h
  |outgrown=>exact h
def nextV(ef:List Nat):List Nat→Option Nat
 |[]=>none
 |i::r=>if ef.contains i then nextV ef r else some i
theorem nextV_mem{ef:List Nat}: ∀{l:List Nat} {i:Nat},nextV ef l=some i→i∈l
 |[],_,h=>by cases h
 |a::r,i,h=>by
  unfold nextV at h
  split at h
  ·exact List.mem_cons_of_mem _ (nextV_mem h)
  ·cases h;exact List.mem_cons_self
theorem drf_val{ef:List Nat}(hn:nextV ef (rdyGo L.toList ops.toList 0)=some i)(ho:ops[i]?=some o)(hf:Region.free .any ops L i=true)(h:DRV P ro kp ops o env σ fun env σ=>DRF P ro kp ef ops F f (L.setIfInBounds i true) env σ):DRF P ro kp ef ops F (f+1) L env σ:=by
 obtain⟨v,hy,hk⟩:=h.run
 refine⟨anyF_first (AddsK.refl) (fun _ _ _=>AddsK.trans) ho f L _ _ (Region.free_spec ho hf) (by rw[rdy_eq];exact nextV_mem hn) hy ?_⟩
 rw[putF_lk];exact hk.run
theorem step_of{ef:List Nat}(hs:DRS P ro kp o env σ fun env σ=>DRF P ro kp ef ops F f (L.setIfInBounds i true) env σ)(ho:ops[i]?=some o):stepF P ro (AddsK kp) ops i (anyF P ro (AddsK kp) ops (fun e σ=> ∃env,lk env=e∧F env σ) f (L.setIfInBounds i true)) (lk env) σ:=by
 obtain⟨hg,R,hR,hk⟩:=hs.run
 unfold stepF
 simp only[ho]
 exact .inr ⟨gF_none hg,.inr ⟨R,gopF_iff hR,fun v σ' hr=>⟨(hk v σ' hr).1,by rw[putF_lk];exact(hk v σ' hr).2.run⟩⟩⟩
theorem drf_nil{ef:List Nat}(hr:rdyGo L.toList ops.toList 0=[])(h:F env σ):DRF P ro kp ef ops F f L env σ:=by
 rw[←rdy_eq]at hr
 refine⟨?_⟩
 cases f with
 |zero=>exact⟨hr,_,rfl,h⟩
 |succ f=>exact⟨fun _=>⟨_,rfl,h⟩,fun i hi=>by rw[hr]at hi;cases hi⟩
theorem drf_one{ef:List Nat}(hr:rdyGo L.toList ops.toList 0=[i])(ho:ops[i]?=some o)(h:DRS P ro kp o env σ fun env σ=>DRF P ro kp ef ops F f (L.setIfInBounds i true) env σ):DRF P ro kp ef ops F (f+1) L env σ:=by
 rw[←rdy_eq]at hr
 refine⟨fun h0=>(by rw[hr]at h0;cases h0),fun x hx=>?_⟩
 rw[hr,List.mem_singleton]at hx
 subst hx
 exact step_of h ho
theorem vX{ef:List Nat}(hr:rdyGo L.toList ops.toList 0=[i,j])(ho:ops[i]?=some o)(ho2:ops[j]?=some o2)(h:DRS P ro kp o env σ fun env σ=>DRF P ro kp ef ops F f (L.setIfInBounds i true) env σ)(h2:DRS P ro kp o2 env σ fun env σ=>DRF P ro kp ef ops F f (L.setIfInBounds j true) env σ):DRF P ro kp ef ops F (f+1) L env σ:=by
 rw[←rdy_eq]at hr
 refine⟨fun h0=>(by rw[hr]at h0;cases h0),fun x hx=>?_⟩
 rw[hr]at hx
 simp only[List.mem_cons,List.not_mem_nil,or_false]at hx
 rcases hx with rfl|rfl
 ·exact step_of h ho
 ·exact step_of h2 ho2
theorem drf_three{ef:List Nat}(hr:rdyGo L.toList ops.toList 0=[i,j,k])(ho:ops[i]?=some o)(ho2:ops[j]?=some o2)(ho3:ops[k]?=some o3)(h:DRS P ro kp o env σ fun env σ=>DRF P ro kp ef ops F f (L.setIfInBounds i true) env σ)(h2:DRS P ro kp o2 env σ fun env σ=>DRF P ro kp ef ops F f (L.setIfInBounds j true) env σ)(h3:DRS P ro kp o3 env σ fun env σ=>DRF P ro kp ef ops F f (L.setIfInBounds k true) env σ):DRF P ro kp ef ops F (f+1) L env σ:=by
 rw[←rdy_eq]at hr
 refine⟨fun h0=>(by rw[hr]at h0;cases h0),fun x hx=>?_⟩
 rw[hr]at hx
 simp only[List.mem_cons,List.not_mem_nil,or_false]at hx
 rcases hx with rfl|rfl|rfl
 ·exact step_of h ho
 ·exact step_of h2 ho2
 ·exact step_of h3 ho3
variable {K:Env→List Ent→Prop}
theorem drv_core{v:AV}{d:Nat}(hd:o.dst=some d)(hy:Yld P ro (AddsK kp) ops o v (lk env) σ)(h:K ((d,v)::env) σ):DRV P ro kp ops o env σ K:=⟨v,hy,by rw[put_some hd];exact h⟩
theorem drv_is{v:AV}{d:Nat}(hgd:o.guard=none)(hd:o.dst=some d)(hg: ∀σ',AddsK kp σ σ'→GOp P ro o env σ' (Is v σ'))(h:K ((d,v)::env) σ):DRV P ro kp ops o env σ K:=
 drv_core hd (.inl ⟨gF_none hgd,fun σ' hl=>gopF_iff (hg σ' hl)⟩) h
theorem drv_isW{v:AV}{b want:Bool}{d:Nat}(hgd:wK ops o env=some (.bool b,want))(hb:b=want)(hd:o.dst=some d)(hg: ∀σ',AddsK kp σ σ'→GOp P ro o env σ' (Is v σ'))(h:K ((d,v)::env) σ):DRV P ro kp ops o env σ K:=
 drv_core hd (.inl ⟨by rw[gF_guardA hgd,hb];simp,fun σ' hl=>gopF_iff (hg σ' hl)⟩) h
theorem drv_skip{b want:Bool}{d:Nat}(hgd:wK ops o env=some (.bool b,want))(hb:b=!want)(hd:o.dst=some d)(h:K ((d,.raw undef)::env) σ):DRV P ro kp ops o env σ K:=
 drv_core hd (.inr ⟨by rw[gF_guardA hgd,hb];cases want<;>rfl,rfl⟩) h
theorem drv_skip_raw{want:Bool}{d:Nat}(hgd:wK ops o env=some (.raw undef,want))(hd:o.dst=some d)(h:K ((d,.raw undef)::env) σ):DRV P ro kp ops o env σ K:=drv_core hd (.inr ⟨gF_raw hgd,rfl⟩) h
theorem drv_case{b want:Bool}(_:wK ops o env=some (.bool b,want))(ht:b=true→DRV P ro kp ops o env σ K)(hf:b=false→DRV P ro kp ops o env σ K):DRV P ro kp ops o env σ K:=by
 cases b
 ·exact hf rfl
 ·exact ht rfl
theorem drv_lit{b want:Bool}(_:wK ops o env=some (.bool b,want))(_:b=want)(h:DRV P ro kp ops o env σ K):DRV P ro kp ops o env σ K:=h
theorem zvI{v:AV}{d:Nat}(hgd:GdOK ops o env)(hd:o.dst=some d)(hg: ∀σ',AddsK kp σ σ'→GOp P ro o env σ' (Is v σ'))(h:K ((d,v)::env) σ):DRV P ro kp ops o env σ K:=by
 rcases hgd with h0|⟨b,w,h1,h2⟩
 ·exact drv_is h0 hd hg h
 ·exact drv_isW h1 h2 hd hg h
theorem zvB{e:Bool}{d:Nat}(hgd:GdOK ops o env)(hd:o.dst=some d)(hg: ∀σ',AddsK kp σ σ'→GOp P ro o env σ' (Is (.bool e) σ'))(h: ∀b,BV e b→K ((d,.bool b)::env) σ):DRV P ro kp ops o env σ K:=zvI hgd hd hg (h e (.mk e))
theorem drv_caseB{e b want:Bool}(hgd:wK ops o env=some (.bool b,want))(g:BV e b)(ht:KnT e b g→DRV P ro kp ops o env σ K)(hf:KnF e b g→DRV P ro kp ops o env σ K):DRV P ro kp ops o env σ K:=drv_case hgd (fun h=>ht (knT h)) (fun h=>hf (knF h))
theorem drv_caseN{b want:Bool}(hgd:wK ops o env=some (.bool b,want))(ht:KnN (b=true)→DRV P ro kp ops o env σ K)(hf:KnN (b=false)→DRV P ro kp ops o env σ K):DRV P ro kp ops o env σ K:=drv_case hgd (fun h=>ht ⟨h⟩) (fun h=>hf ⟨h⟩)
theorem zgd(h:DRS P ro kp o env σ K):DRS P ro kp o env σ K:=h
theorem zgp{d:Option Tmp}{t:TypeId}{p:String}{a:Array Edge}{g:Option (Nat×Bool)}(O:Op)(h:DRS P ro kp ⟨d,O,t,p,a,g⟩ env σ K):DRS P ro kp ⟨d,O,t,p,a,g⟩ env σ K:=h
theorem yN{R:AV→List Ent→Prop}{d:Nat}(hgd:o.guard=none)(hd:o.dst=some d)(hg:GOp P ro o env σ R)(h: ∀v σ',R v σ'→AddsK kp σ σ'∧K ((d,v)::env) σ'):DRS P ro kp o env σ K:=
 ⟨hgd,R,hg,fun v σ' hr=>⟨(h v σ' hr).1,by rw[put_some hd];exact(h v σ' hr).2⟩⟩
theorem drs_do{v:AV}{σ':List Ent}(hgd:o.guard=none)(hd:o.dst=none)(hg:GOp P ro o env σ (Is v σ'))(ha:AddsK kp σ σ')(h:K env σ'):DRS P ro kp o env σ K:=
 ⟨hgd,_,hg,fun u τ hr=>by cases hr;exact⟨ha,by rw[hd];exact h⟩⟩
theorem xH{v:AV}{d:Nat}(hgd:o.guard=none)(hd:o.dst=some d)(hg:GOp P ro o env σ (Is v σ))(h:K ((d,v)::env) σ):DRS P ro kp o env σ K:=
 yN hgd hd hg (by rintro _ _ ⟨⟩;exact⟨AddsK.refl _,h⟩)
theorem drs_box{l:List AV}{t:TypeId}{d:Nat}(hgd:o.guard=none)(hd:o.dst=some d)(hg:GOp P ro o env σ (Boxed l t σ))(h: ∀b,K ((d,.ptr b 0)::env) (.cells b l t::σ)):DRS P ro kp o env σ K:=
 yN hgd hd hg (by rintro _ _ ⟨b⟩;exact⟨AddsK.cons _ _,h b⟩)
theorem drs_row{l:List (List AV)}{t:TypeId}{sz d:Nat}(hgd:o.guard=none)(hd:o.dst=some d)(hg:GOp P ro o env σ (Rowed t sz l σ))(h: ∀v,K ((d,.slv v)::env) (.row v t sz l::σ)):DRS P ro kp o env σ K:=
 yN hgd hd hg (by rintro _ _ ⟨b⟩;exact⟨AddsK.cons _ _,h b⟩)
end
end Go.Proofs.YtaoaafdommlhcaaGreat
namespace Go.Proofs.YtaoaafdommlhcaaGreat
open Go.WideMaps Go.MapKept Go.RowKit
def KL.av:KL→AV
 |.i n=>.int .i64 n
 |.b v=>.bool v
theorem kl_val{M:Mem}: ∀{k:List KL} {vs:List Value},VRels M (k.map KL.av) vs→vs=k.map KL.val
 |[],vs,h=>by simpa [VRels]using h
 |.i n::k,vs,h=>by
  simp only[List.map_cons,VRels,KL.av,VRel]at h
  obtain⟨v,r,rfl,rfl,h⟩:=h
  rw[kl_val h];rfl
 |.b n::k,vs,h=>by
  simp only[List.map_cons,VRels,KL.av,VRel]at h
  obtain⟨v,r,rfl,rfl,h⟩:=h
  rw[kl_val h];rfl
theorem kl_key{M:Mem}{k:List KL}{v:Value}(h:VRel M (.agg (k.map KL.av)) v):v=keyL k:=by
 simp only[VRel]at h
 obtain⟨vs,rfl,h⟩:=h
 unfold keyL
 rw[←kl_val h]
theorem kl_rels(M:Mem): ∀(k:List KL),VRels M (k.map KL.av) (k.map KL.val)
 |[]=>by simp[VRels]
 |.i n::k=>by simp only[List.map_cons,VRels,KL.av,KL.val];exact⟨_,_,rfl,by simp[VRel],kl_rels M k⟩
 |.b n::k=>by simp only[List.map_cons,VRels,KL.av,KL.val];exact⟨_,_,rfl,by simp[VRel],kl_rels M k⟩
theorem kl_rel{M:Mem}{x:KL}{v:Value}(h:VRel M x.av v):v=x.val:=by cases x<;>simpa [KL.av,KL.val,VRel]using h
theorem kl_av(M:Mem)(x:KL):VRel M x.av x.val:=by cases x<;>simp[KL.av,KL.val,VRel]
def kmOf(P:Program)(t:TypeId):Option (TypeId×TypeId):=match P.underlying t with
 |some (.map kt et)=>some (kt,et)
 |_=>none
theorem tF{P:Program}{t kt et:TypeId}(h:kmOf P t=some (kt,et)):P.underlying t=some (.map kt et):=by
 unfold kmOf at h
 split at h
 ·rename_i h1;cases h;exact h1
 ·cases h
def kT(m:List KL→Bool):List KL→Option KL:=fun k=>if m k then some (.b true)else none
theorem boolK_getD(m:List KL→Bool)(k:List KL):(kT m k).getD (.b false)=.b (m k):=by
 unfold kT;cases m k<;>rfl
theorem boolK_upd(m:List KL→Bool)(k:List KL):xN (kT m) k (.b true)=kT (fun q=>decide (q=k)||m q):=by
 funext q
 unfold xN kT
 by_cases h:q=k
 ·simp[h]
 ·simp[h]
abbrev cntK(f:List KL→Option KL)(k:List KL)(n:Nat):Nat:=if (f k).isSome then n else n+1
section
variable {P:Program} {ro:Option Nat} {env:Env} {σ σ':List Ent} {o:Oper} {dst:Option Tmp} {ty:TypeId} {pos:String} {after:Array Edge} {guard:Option (Nat×Bool)}
inductive MappedK(sh:List Bool)(σ:List Ent):AV→List Ent→Prop
 |mk (b:Nat):MappedK sh σ (.mp b) (.kmap b sh (fun _=>none) 0::σ)
theorem vE(sh:List Bool){t:TypeId}:GOp P ro ⟨dst,.makeMap t none,ty,pos,after,guard⟩ env σ (MappedK sh σ):=
 wJ (by intro c h;cases h) fun X M a w hg ho=>by
  refine⟨M,.map (some w.heap.size),w.alloc (.map #[] 0),.mp w.heap.size,.kmap w.heap.size sh (fun _=>none) 0::σ,Mem.le_refl M,?_,by simp[VRel],.mk _,.inl ?_⟩
  ·exact hg.alloc _ (.kmap w.heap.size sh (fun _=>none) 0) rfl ⟨_,_,Go.heap_alloc_new w _,MK.empty sh⟩
  ·simp[execOp,Instr.makeMap,newObj,Sem.run_bind,Sem.run]
theorem mk_find{kt:TypeId}(K:KeyLaw P kt){sh:List Bool}(hk:kmKey P kt sh=true){es:Array MapEntry}{clock n:Nat}{f:List KL→Option KL}(h:MK es clock sh f n){k:List KL}(hf:KFit sh k)(w:World):
  ∃l,keyOf P kt (keyL k)=some l∧(((Instr.findKey kt (keyL k) es.toList).run P w=.ok none w∧f k=none)∨
   ∃j e x,(Instr.findKey kt (keyL k) es.toList).run P w=.ok (some (j,e.val)) w∧es[j]?=some e∧e.key=keyL k∧f k=some x∧e.val=x.val):=by
 obtain⟨l,hl⟩:=km_key hk hf
 refine⟨l,hl,?_⟩
 rcases K.find w hl es.toList (fun e he=>by
  obtain⟨q,y,h1,h2,_,_⟩:=h.ks e he
  rw[h1];exact km_key hk h2) with⟨h1,h2⟩|⟨j,e,h1,h2,h3⟩
 ·refine .inl ⟨h1,?_⟩
  cases hc:f k with
  |none=>rfl
  |some x=>obtain⟨e,he,hek⟩:=h.al k x hc;exact absurd hek (h2 e he)
 ·obtain⟨q,y,g1,g2,g3,g4⟩:=h.ks e (List.mem_of_getElem? h2)
  obtain rfl:=keyL_inj (g1.symm.trans h3)
  exact .inr ⟨j,e,y,h1,by simpa using h2,h3,g3,g4⟩
theorem zR{t kt et:TypeId}{x ix:Operand}{b n:Nat}{sh:List Bool}{f:List KL→Option KL}{k:List KL}{l:List AV}{z v:KL}{r:AV}(ht:kmOf P t=some (kt,et))(K:KeyLaw P kt)(hk:kmKey P kt sh=true)(hz:zeroV P et=some z.av)(hx:xP env x=some (.mp b))(hm:Ent.kmap b sh f n∈σ)(hi:xP env ix=some (.agg l))(hl:l=k.map KL.av)(hkf:KFit sh k)(hv:(f k).getD z=v)(hr:v.av=r):
  GOp P ro ⟨dst,.lookup t x ix false,ty,pos,after,guard⟩ env σ (Is r σ):=
 zA _ (by intro c h;cases h) fun X M a w hg ho=>by
  subst hl hv hr
  have h1:=ho x (by simp[Op.operands]) _ hx
  have h2:=kl_key (ho ix (by simp[Op.operands]) _ hi)
  simp only[VRel]at h1
  obtain⟨zv,hz1,hz2⟩:=zeroV_spec hz
  have hz2:=kl_rel (hz2 M)
  subst hz2
  obtain⟨es,clock,hb,hE⟩:=hg.ent _ hm
  obtain⟨kl,hkl,hc⟩:=mk_find K hk hE hkf w
  refine⟨((f k).getD z).val,kl_av M _,?_⟩
  rcases hc with⟨hf,hno⟩|⟨j,e,y,hf,hj,he,hy,hev⟩
  ·simp[execOp,h1,h2,Sem.run_bind,Instr.lookup,run_underlying (tF ht),MapKept.run_getObj_map hb,K.check w _ hkl,hf,hz1,Result.andThen,hno]
  ·simp[execOp,h1,h2,Sem.run_bind,Instr.lookup,run_underlying (tF ht),MapKept.run_getObj_map hb,K.check w _ hkl,hf,Result.andThen,hy,hev]
theorem wT{t kt et:TypeId}{x ix y:Operand}{b n:Nat}{sh:List Bool}{f f':List KL→Option KL}{k:List KL}{l:List AV}{v:KL}{r:AV}(ht:kmOf P t=some (kt,et))(K:KeyLaw P kt)(hk:kmKey P kt sh=true)(hx:xP env x=some (.mp b))(hi:xP env ix=some (.agg l))(hl:l=k.map KL.av)(hkf:KFit sh k)(hy:xP env y=some r)(hr:r=v.av)(hu:Upd σ (.kmap b sh f n) (.kmap b sh f' (cntK f k n)) σ')(hf:xN f k v=f'):
  GOp P ro ⟨dst,.mapUpdate t x ix y,ty,pos,after,guard⟩ env σ (Is (.raw undef) σ'):=
 wJ (by intro c h;cases h) fun X M a w hg ho=>by
  subst hl hf hr
  have h1:=ho x (by simp[Op.operands]) _ hx
  have h2:=kl_key (ho ix (by simp[Op.operands]) _ hi)
  have h3:=kl_rel (ho y (by simp[Op.operands]) _ hy)
  simp only[VRel]at h1
  obtain⟨es,clock,hb,hE⟩:=hg.ent _ hu.mem
  obtain⟨kl,hkl,hc⟩:=mk_find K hk hE hkf w
  have hfin: ∀es' clock',MK es' clock' sh (xN f k v) (cntK f k n)→(Instr.mapUpdate t (.map (some b)) (keyL k) v.val).run P w=.ok () {w with heap:=w.heap.setIfInBounds b (.map es' clock')}→
    ∃M' u w' r σ1,M.le M'∧Good X M' σ1 w'∧VRel M' r u∧Is (.raw undef) σ' r σ1∧((execOp a.eval ⟨dst,.mapUpdate t x ix y,ty,pos,after,guard⟩).run P w=.ok (.value u) w'∨((execOp a.eval ⟨dst,.mapUpdate t x ix y,ty,pos,after,guard⟩).run P w=.ok .skip w'∧u=undef)):=by
   intro es' clock' hE' hrun
   refine⟨M,undef,{w with heap:=w.heap.setIfInBounds b (.map es' clock')},.raw undef,σ',Mem.le_refl M,?_,by simp[VRel],.mk,.inr ⟨?_,rfl⟩⟩
   ·exact hg.upd hu rfl rfl rfl (fun q hq hne=>(heap_set hb).2 q (fun e=>hne (by rw[e];rfl))) ⟨_,_,(heap_set hb).1,hE'⟩ (.inl rfl)
   ·simp[execOp,h1,h2,h3,Sem.run_bind,hrun]
  rcases hc with⟨hf,hno⟩|⟨j,e,y,hf,hj,he,hy,hev⟩
  ·refine hfin (es.push {key:=keyL k,val:=v.val,born:=clock}) (clock+1) ?_ ?_
   ·have:cntK f k n=n+1:=by unfold cntK;rw[hno];rfl
    rw[this];exact hE.push hkf v hno
   ·simp[Instr.mapUpdate,Sem.run_bind,run_underlying (tF ht),MapKept.run_getObj_map hb,K.check w _ hkl,hf,MapKept.run_setObj_map _ hb,Result.andThen]
  ·refine hfin (es.modify j fun e=>{e with key:=keyL k,val:=v.val}) clock ?_ ?_
   ·have:cntK f k n=n:=by unfold cntK;rw[hy];rfl
    rw[this];exact hE.store v hj he
   ·simp[Instr.mapUpdate,Sem.run_bind,run_underlying (tF ht),MapKept.run_getObj_map hb,K.check w _ hkl,hf,hj,he,K.stays w hkl,MapKept.run_setObj_map _ hb,Result.andThen]
theorem g_deleteKm{t kt et:TypeId}{x ix:Operand}{b n:Nat}{sh:List Bool}{f f':List KL→Option KL}{k:List KL}{l:List AV}{ats:Array TypeId}(hats:ats=#[t,kt])(ht:kmOf P t=some (kt,et))(K:KeyLaw P kt)(hk:kmKey P kt sh=true)(hx:xP env x=some (.mp b))(hi:xP env ix=some (.agg l))(hl:l=k.map KL.av)(hkf:KFit sh k)(hu:Upd σ (.kmap b sh f n) (.kmap b sh f' (if (f k).isSome then n-1 else n)) σ')(hf:delK f k=f'):
  GOp P ro ⟨dst,.call {callee:=.builtin .delete,args:=#[x,ix],argTypes:=ats},ty,pos,after,guard⟩ env σ (Is (.tup []) σ'):=
 wJ (by intro c h;cases h) fun X M a w hg ho=>by
  subst hl hf hats
  have h1:=ho x (by simp[Op.operands,Call.operands]) _ hx
  have h2:=kl_key (ho ix (by simp[Op.operands,Call.operands]) _ hi)
  simp only[VRel]at h1
  obtain⟨es,clock,hb,hE⟩:=hg.ent _ hu.mem
  obtain⟨kl,hkl,hc⟩:=mk_find K hk hE hkf w
  have hfin: ∀es',MK es' clock sh (delK f k) (if (f k).isSome then n-1 else n)→(Builtin.delete_ #[t,kt] ty #[.map (some b),keyL k]).run P w=.ok (.tuple #[]) {w with heap:=w.heap.setIfInBounds b (.map es' clock)}→
    ∃M' u w' r σ1,M.le M'∧Good X M' σ1 w'∧VRel M' r u∧Is (.tup []) σ' r σ1∧((execOp a.eval ⟨dst,.call {callee:=.builtin .delete,args:=#[x,ix],argTypes:=#[t,kt]},ty,pos,after,guard⟩).run P w=.ok (.value u) w'∨((execOp a.eval ⟨dst,.call {callee:=.builtin .delete,args:=#[x,ix],argTypes:=#[t,kt]},ty,pos,after,guard⟩).run P w=.ok .skip w'∧u=undef)):=by
   intro es' hE' hrun
   refine⟨M,.tuple #[],{w with heap:=w.heap.setIfInBounds b (.map es' clock)},.tup [],σ',Mem.le_refl M,?_,by simp[VRel,VRels],.mk,.inl ?_⟩
   ·exact hg.upd hu rfl rfl rfl (fun q hq hne=>(heap_set hb).2 q (fun e=>hne (by rw[e];rfl))) ⟨_,_,(heap_set hb).1,hE'⟩ (.inl rfl)
   ·simp[execOp,resolve,invoke,builtin,h1,h2,Sem.run_bind,hrun]
  rcases hc with⟨hf,hno⟩|⟨j,e,y,hf,hj,he,hy,hev⟩
  ·refine hfin es ?_ ?_
   ·have hd:delK f k=f:=by funext q;unfold delK;split<;>simp_all
    rw[hno,hd];exact hE
   ·simp[Builtin.delete_,run_underlying (tF ht),MapKept.run_getObj_map hb,K.check w _ hkl,hf,MapKept.run_setObj_map _ hb,Result.andThen]
  ·refine hfin (es.eraseIdxIfInBounds j) ?_ ?_
   ·rw[hy];exact hE.erase hj he
   ·simp[Builtin.delete_,run_underlying (tF ht),MapKept.run_getObj_map hb,K.check w _ hkl,hf,MapKept.run_setObj_map _ hb,Result.andThen]
def HitK(es:Array MapEntry)(seen:Array Nat)(k:List KL):Prop:= ∃e∈es.toList,e.key=keyL k∧seen.contains e.born=true
theorem HitK.none(es:Array MapEntry)(q:List KL):¬ HitK es #[] q:=by rintro⟨e,_,_,h⟩;simp at h
theorem HitK.keep{es:Array MapEntry}{seen:Array Nat}{b:Nat}{q:List KL}(h:HitK es seen q):HitK es (seen.push b) q:=by
 obtain⟨e,h1,h2,h3⟩:=h
 exact⟨e,h1,h2,by rw[contains_push,h3];rfl⟩
theorem HitK.self{es:Array MapEntry}{seen:Array Nat}{e:MapEntry}{k:List KL}(he:e∈es.toList)(hk:e.key=keyL k):HitK es (seen.push e.born) k:=
 ⟨e,he,hk,by rw[contains_push];simp⟩
theorem MK.pushed{es:Array MapEntry}{clock n:Nat}{sh:List Bool}{f:List KL→Option KL}(h:MK es clock sh f n){e:MapEntry}(he:e∈es.toList){k:List KL}(hk:e.key=keyL k){seen:Array Nat}{q:List KL}(hq:HitK es (seen.push e.born) q):HitK es seen q∨q=k:=by
 obtain⟨g,hg,hgk,hs⟩:=hq
 rw[contains_push,Bool.or_eq_true,beq_iff_eq]at hs
 rcases hs with hs|hs
 ·exact .inl ⟨g,hg,hgk,hs⟩
 ·obtain rfl:=h.same hg he (.inr hs)
  exact .inr (keyL_inj (hgk.symm.trans hk))
theorem MK.fresh{es:Array MapEntry}{clock n:Nat}{sh:List Bool}{f:List KL→Option KL}(h:MK es clock sh f n){e:MapEntry}(he:e∈es.toList){k:List KL}(hk:e.key=keyL k){seen:Array Nat}(hs:seen.contains e.born=false):¬ HitK es seen k:=by
 rintro⟨g,hg,hgk,hs2⟩
 obtain rfl:=h.same hg he (.inl (by rw[hgk,hk]))
 rw[hs]at hs2;cases hs2
inductive RangedK(b:Nat)(sh:List Bool)(f:List KL→Option KL)(n:Nat)(σ1:Ent→List Ent):AV→List Ent→Prop
 |mk (r:Nat) (es:Array MapEntry) (clock:Nat) (h:MK es clock sh f n):RangedK b sh f n σ1 (.ptr r 0) (.obj r (.mapIter (some b) clock #[] clock)::σ1 (.obj b (.map es clock)))
theorem g_rangeKm{t kt et:TypeId}{x:Operand}{b n:Nat}{sh:List Bool}{f:List KL→Option KL}{σ1:Ent→List Ent}(ht:kmOf P t=some (kt,et))(hx:xP env x=some (.mp b))(hu: ∀e,Upd σ (.kmap b sh f n) e (σ1 e)):
  GOp P ro ⟨dst,.range t x,ty,pos,after,guard⟩ env σ (RangedK b sh f n σ1):=
 wJ (by intro c h;cases h) fun X M a w hg ho=>by
  have h1:=ho x (by simp[Op.operands]) _ hx
  simp only[VRel]at h1
  obtain⟨es,clock,hb,hE⟩:=hg.ent _ (hu (.obj b (.map #[] 0))).mem
  have hg3:Good X M (σ1 (.obj b (.map es clock))) w:=hg.upd (hu _) rfl rfl rfl (fun _ _ _=>rfl) hb (.inl rfl)
  refine⟨M,.pointer (some ⟨w.heap.size,0,none⟩),w.alloc (.mapIter (some b) clock #[] clock),.ptr w.heap.size 0,_,Mem.le_refl M,hg3.alloc _ (.obj w.heap.size (.mapIter (some b) clock #[] clock)) rfl (Go.heap_alloc_new w _),by simp[VRel],.mk _ es clock hE,.inl ?_⟩
  have:=run_range_map (P:=P) w t kt et b es clock (tF ht) hb
  simp[execOp,h1,Sem.run_bind,this]
inductive NextedK(b r:Nat)(f:List KL→Option KL)(es:Array MapEntry)(clock:Nat)(seen:Array Nat)(σ:List Ent)(σ1:Array Nat→List Ent):AV→List Ent→Prop
 |done (h: ∀q x,f q=some x→HitK es seen q):NextedK b r f es clock seen σ σ1 (.tup [.bool false]) σ
 |step (e:MapEntry) (k:List KL) (x:KL) (he:e∈es.toList) (hk:e.key=keyL k) (hv:e.val=x.val) (h0:f k=some x) (hn:¬ HitK es seen k) (hp: ∀q,HitK es (seen.push e.born) q→HitK es seen q∨q=k) (hm:(leftOf es (seen.push e.born)).size<(leftOf es seen).size):
   NextedK b r f es clock seen σ σ1 (.tup [.bool true,.agg (k.map KL.av),x.av]) (σ1 (seen.push e.born))
theorem g_nextKm{x:Operand}{b r n clock:Nat}{sh:List Bool}{f:List KL→Option KL}{es:Array MapEntry}{seen:Array Nat}{σ1:Array Nat→List Ent}(hE:MK es clock sh f n)(hx:xP env x=some (.ptr r 0))(hm:Ent.obj b (.map es clock)∈σ)(hu: ∀s,Upd σ (.obj r (.mapIter (some b) clock seen clock)) (.obj r (.mapIter (some b) clock s clock)) (σ1 s)):
  GOp P ro ⟨dst,.next x false,ty,pos,after,guard⟩ env σ (NextedK b r f es clock seen σ σ1):=
 wJ (by intro c h;cases h) fun X M a w hg ho=>by
  have h1:=ho x (by simp[Op.operands]) _ hx
  simp only[VRel]at h1
  have hb:w.heap[b]?=some (.map es clock):=hg.ent _ hm
  have hr:w.heap[r]?=some (.mapIter (some b) clock seen clock):=hg.ent _ (hu seen).mem
  rcases run_next_at (P:=P) w ty r b clock clock seen es clock hr hb hE.st.1 (Nat.le_refl _) with⟨h0,hrun⟩|⟨e,he,w1,hw1,hrun⟩
  ·refine⟨M,.tuple #[.bool false],w,.tup [.bool false],σ,Mem.le_refl M,hg,?_,.done fun q y hq=>?_,.inl ?_⟩
   ·simp only[VRel,VRels];exact⟨_,rfl,_,_,rfl,rfl,rfl⟩
   ·obtain⟨e,he,hk⟩:=hE.al q y hq
    refine⟨e,he,hk,?_⟩
    cases hs:seen.contains e.born with
    |true=>rfl
    |false=>
     have hmem:e∈leftOf es seen:=Array.mem_filter.2 ⟨Array.mem_toList_iff.1 he,by rw[hs];rfl⟩
     rw[Array.eq_empty_of_size_eq_zero h0]at hmem
     simp at hmem
   ·simp[execOp,h1,Sem.run_bind,hrun]
  ·obtain⟨hel,hes⟩:=mem_left he
   obtain⟨k,y,hk,hkf,h0,hv⟩:=hE.ks e hel
   have hg1:Good X M σ w1:=by rcases hw1 with rfl|rfl;exact hg;exact hg.drew
   have hr1:w1.heap[r]?=some (.mapIter (some b) clock seen clock):=hg1.ent _ (hu seen).mem
   have hset:=Go.MapKept.heap_set (o':=Obj.mapIter (some b) clock (seen.push e.born) clock) hr1
   refine⟨M,.tuple #[.bool true,e.key,e.val],Go.ChangeMaps.setBlock w1 r (.mapIter (some b) clock (seen.push e.born) clock),.tup [.bool true,.agg (k.map KL.av),y.av],_,Mem.le_refl M,?_,?_,.step e k y hel hk hv h0 (hE.fresh hel hk hes) (fun q hq=>hE.pushed hel hk hq) (left_shrinks es seen e he),.inl ?_⟩
   ·refine hg1.upd (hu _) rfl rfl rfl (fun i hi hne=>hset.2 i fun e=>hne (by rw[e];rfl)) hset.1 (.inl rfl)
   ·rw[hk,hv]
    simp only[VRel,VRels]
    exact⟨_,rfl,_,_,rfl,rfl,_,_,rfl,⟨_,rfl,by simpa using kl_rels M k⟩,_,_,rfl,kl_av M y,rfl⟩
   ·simp[execOp,h1,Sem.run_bind,hrun]
theorem g_entryKm{x:Operand}{b r n clock:Nat}{sh:List Bool}{f:List KL→Option KL}{es:Array MapEntry}{seen:Array Nat}{e:MapEntry}{k:List KL}{y:KL}(hE:MK es clock sh f n)(he:e∈es.toList)(hk:e.key=keyL k)(hv:e.val=y.val)(hx:xP env x=some (.ptr r 0))(hm:Ent.obj b (.map es clock)∈σ)(hr:Ent.obj r (.mapIter (some b) clock (seen.push e.born) clock)∈σ):
  GOp P ro ⟨dst,.entry x,ty,pos,after,guard⟩ env σ (Is (.tup [.agg (k.map KL.av),y.av]) σ):=
 zA _ (by intro c h;cases h) fun X M a w hg ho=>by
  have h1:=ho x (by simp[Op.operands]) _ hx
  simp only[VRel]at h1
  have hrun:=run_entry_at (P:=P) w r b clock seen es clock e (hg.ent _ hr) (hg.ent _ hm) he hE.st.2.1
  refine⟨.tuple #[e.key,e.val],?_,by simp[execOp,h1,Sem.run_bind,hrun]⟩
  rw[hk,hv]
  simp only[VRel,VRels]
  exact⟨_,rfl,_,_,rfl,⟨_,rfl,by simpa using kl_rels M k⟩,_,_,rfl,kl_av M y,rfl⟩
end
section
variable {P:Program} {ro:Option Nat} {Q:Exit→St→Prop} {ops:Array Oper} {rest:List Oper} {o:Oper} {env:Env} {σ:List Ent} {mk:List Nat} {n:Nat}
theorem tD{d:Nat}(sh:List Bool)(hgd:o.guard=none)(hd:o.dst=some d)(hn:Nat.blt d n=true)(hg:GOp P ro o env σ (MappedK sh σ))(h: ∀b,EXL P ro ops rest Q ⟨(d,.mp b)::env,.kmap b sh (fun _=>none) 0::σ,mk,n⟩):EXL P ro ops (o::rest) Q ⟨env,σ,mk,n⟩:=
 kV (s:=⟨env,σ,mk,n⟩) hgd (dst_ok hd hn) hg (by rintro _ _ ⟨b⟩;rw[hd];exact h b)
end
end Go.Proofs.YtaoaafdommlhcaaGreat

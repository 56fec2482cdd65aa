/- Parts of the proof that belong together: Si Sj Sk. -/
import Derived.Test.YtaoaafdommlhcaaGreatHA06
import Derived.Test.YtaoaafdommlhcaaGreatHA07
set_option maxRecDepth 10000
set_option linter.unusedSimpArgs false
set_option linter.unusedVariables false
set_option autoImplicit false
open Go.Proofs.Tryz
namespace Go.Proofs.YtaoaafdommlhcaaGreat
theorem wB{α:Type}{f:α→List AV}{l:List α}{k:Nat}{c:α}(h:l[k]?=some c):(l.map f)[k]?=some (f c):=by rw[List.getElem?_map,h];rfl
def entersB(P:Program)(g:FuncId):Bool:=match P.funcs[g]? with
 |some fn=>fn.name != "runtime.NumGoroutine" &&fn.body.isSome
 |none=>false
theorem zX{P:Program}{g:FuncId}(h:entersB P g=true):Enters P g:=by
 unfold entersB at h
 split at h
 ·rename_i fn hf
  simp only[Bool.and_eq_true]at h
  cases hb:fn.body with
  |none=>rw[hb]at h;simp at h
  |some c=>exact enters_of hf (by simpa [bne]using h.1) hb
 ·cases h
section
variable {P:Program} {ro:Option Nat} {Q:Exit→St→Prop} {s:St} {ops:Array Oper} {rest l:List Oper} {o:Oper} {env:Env} {σ:List Ent} {mk:List Nat} {n:Nat}
theorem exl_nilT{y:Code}(h:EX P ro y Q s):EXL P ro ops [] (thenA (EX P ro y Q) Q) s:=exl_nil h
theorem dst_ok{d:Nat}(hd:o.dst=some d)(hn:Nat.blt d n=true):uF o.dst n=true:=by rw[hd];simpa [uF]using hn
theorem wW{v:AV}{d:Nat}{σ1:List Ent}(hgd:o.guard=none)(hd:o.dst=some d)(hn:Nat.blt d n=true)(hg:GOp P ro o env σ (Is v σ1))(h:EXL P ro ops rest Q ⟨(d,v)::env,σ1,mk,n⟩):EXL P ro ops (o::rest) Q ⟨env,σ,mk,n⟩:=
 kV (s:=⟨env,σ,mk,n⟩) hgd (dst_ok hd hn) hg (by rintro _ _ ⟨⟩;rw[hd];exact h)
inductive BV:Bool→Bool→Prop
 |mk (b:Bool):BV b b
theorem BV.eq{a b:Bool}(h:BV a b):a=b:=by cases h;rfl
theorem yE{v:AV}{σ':List Ent}(hgd:o.guard=none)(hd:o.dst=none)(hg:GOp P ro o env σ (Is v σ'))(h:EXL P ro ops rest Q ⟨env,σ',mk,n⟩):EXL P ro ops (o::rest) Q ⟨env,σ,mk,n⟩:=
 kV (s:=⟨env,σ,mk,n⟩) hgd (by rw[hd];rfl) hg (by rintro _ _ ⟨⟩;rw[hd];exact h)
theorem uS{v:AV}{b want:Bool}{d:Nat}{σ1:List Ent}(hgd:wK ops o env=some (.bool b,want))(hb:b=want)(hd:o.dst=some d)(hn:Nat.blt d n=true)(hg:GOp P ro o env σ (Is v σ1))(h:EXL P ro ops rest Q ⟨(d,v)::env,σ1,mk,n⟩):EXL P ro ops (o::rest) Q ⟨env,σ,mk,n⟩:=
 exl_want (s:=⟨env,σ,mk,n⟩) hgd hb (dst_ok hd hn) hg (by rintro _ _ ⟨⟩;rw[hd];exact h)
theorem exl_skipL{b want:Bool}{d:Nat}(hgd:wK ops o env=some (.bool b,want))(hb:b=!want)(hd:o.dst=some d)(hn:Nat.blt d n=true)(h:EXL P ro ops rest Q ⟨(d,.raw undef)::env,σ,mk,n⟩):EXL P ro ops (o::rest) Q ⟨env,σ,mk,n⟩:=
 exl_skip (s:=⟨env,σ,mk,n⟩) hgd hb (dst_ok hd hn) (by rw[hd];exact h)
theorem exl_skipR{want:Bool}{d:Nat}(hgd:wK ops o env=some (.raw undef,want))(hd:o.dst=some d)(hn:Nat.blt d n=true)(h:EXL P ro ops rest Q ⟨(d,.raw undef)::env,σ,mk,n⟩):EXL P ro ops (o::rest) Q ⟨env,σ,mk,n⟩:=
 exl_skip_raw (s:=⟨env,σ,mk,n⟩) hgd (dst_ok hd hn) (by rw[hd];exact h)
theorem exl_caseL{b want:Bool}(hgd:wK ops o env=some (.bool b,want))(ht:b=true→EXL P ro ops (o::rest) Q ⟨env,σ,mk,n⟩)(hf:b=false→EXL P ro ops (o::rest) Q ⟨env,σ,mk,n⟩):EXL P ro ops (o::rest) Q ⟨env,σ,mk,n⟩:=
 exl_case (s:=⟨env,σ,mk,n⟩) hgd ht hf
theorem exl_lit{b want:Bool}(_:wK ops o env=some (.bool b,want))(_:b=want)(h:EXL P ro ops (o::rest) Q ⟨env,σ,mk,n⟩):EXL P ro ops (o::rest) Q ⟨env,σ,mk,n⟩:=h
theorem exl_box{L:List AV}{t:TypeId}{d:Nat}(hgd:o.guard=none)(hd:o.dst=some d)(hn:Nat.blt d n=true)(hg:GOp P ro o env σ (Boxed L t σ))(h: ∀b,EXL P ro ops rest Q ⟨(d,.ptr b 0)::env,.cells b L t::σ,mk,n⟩):EXL P ro ops (o::rest) Q ⟨env,σ,mk,n⟩:=
 kV (s:=⟨env,σ,mk,n⟩) hgd (dst_ok hd hn) hg (by rintro _ _ ⟨b⟩;rw[hd];exact h b)
theorem exl_row{L:List (List AV)}{t:TypeId}{sz d:Nat}(hgd:o.guard=none)(hd:o.dst=some d)(hn:Nat.blt d n=true)(hg:GOp P ro o env σ (Rowed t sz L σ))(h: ∀v,EXL P ro ops rest Q ⟨(d,.slv v)::env,.row v t sz L::σ,mk,n⟩):EXL P ro ops (o::rest) Q ⟨env,σ,mk,n⟩:=
 kV (s:=⟨env,σ,mk,n⟩) hgd (dst_ok hd hn) hg (by rintro _ _ ⟨b⟩;rw[hd];exact h b)
theorem exl_grew{F:Value→List Ent}{d:Nat}(hgd:o.guard=none)(hd:o.dst=some d)(hn:Nat.blt d n=true)(hg:GOp P ro o env σ (Grew F))(h: ∀v,EXL P ro ops rest Q ⟨(d,.slv v)::env,F v,mk,n⟩):EXL P ro ops (o::rest) Q ⟨env,σ,mk,n⟩:=
 kV (s:=⟨env,σ,mk,n⟩) hgd (dst_ok hd hn) hg (by rintro _ _ ⟨v⟩;rw[hd];exact h v)
theorem zK{R:AV→List Ent→Prop}{d:Nat}(hgd:o.guard=none)(hd:o.dst=some d)(hn:Nat.blt d n=true)(hg:GOp P ro o env σ R)(h: ∀v σ',R v σ'→EXL P ro ops rest Q ⟨(d,v)::env,σ',mk,n⟩):EXL P ro ops (o::rest) Q ⟨env,σ,mk,n⟩:=
 kV (s:=⟨env,σ,mk,n⟩) hgd (dst_ok hd hn) hg (by intro v σ' hr;rw[hd];exact h v σ' hr)
structure WL(P:Program)(ro:Option Nat)(kp:Ent→Prop)(ef:List Nat)(ops:Array Oper)(F:Env→List Ent→Prop)(k:Nat)(l:List Oper)(env:Env)(σ:List Ent):Prop where
 run:WQ P ro (AddsK kp) ef ops (fun e σ=> ∃env,lk env=e∧F env σ) k l (lk env) σ
theorem gopF_iff{R:AV→List Ent→Prop}(h:GOp P ro o env σ R):GOpF P ro o (lk env) σ R:=
 fun X M a w hg ho K Qx hK=>h.run X M a w hg (fun x hx v hv=>ho x hx v (by rw[evF_lk];exact hv)) K Qx hK
theorem gF_guardA{b want:Bool}(h:wK ops o env=some (.bool b,want)):gF ops o (lk env)=some (b==want):=by
 obtain⟨j,d,h1,h2,h3⟩:=guardA_spec (b:=b) h
 unfold gF;rw[h1];simp only[h2,Option.bind_some,h3]
theorem gF_raw{want:Bool}(h:wK ops o env=some (.raw undef,want)):gF ops o (lk env)=some false:=by
 obtain⟨j,d,h1,h2,h3⟩:=guardA_spec (b:=want) h
 unfold gF;rw[h1];simp only[h2,Option.bind_some,h3];rfl
theorem gF_none(h:o.guard=none):gF ops o (lk env)=some true:=by unfold gF;rw[h]
variable {kp:Ent→Prop} {ef:List Nat} {F:Env→List Ent→Prop} {k:Nat}
theorem wl_nil(h:F env σ):WL P ro kp ef ops F k [] env σ:=⟨env,rfl,h⟩
theorem put_some{d:Nat}(hd:o.dst=some d)(v:AV):put o.dst v env=(d,v)::env:=by rw[hd];rfl
theorem wl_core{v:AV}{d:Nat}(hk:ef.contains k=false)(hd:o.dst=some d)(hy:Yld P ro (AddsK kp) ops o v (lk env) σ)(h:WL P ro kp ef ops F (k+1) rest ((d,v)::env) σ):WL P ro kp ef ops F k (o::rest) env σ:=
 ⟨.inr ⟨hk,v,hy,by rw[putF_lk,put_some hd];exact h.run⟩⟩
theorem wl_is{v:AV}{d:Nat}(hgd:o.guard=none)(hk:ef.contains k=false)(hd:o.dst=some d)(hg: ∀σ',AddsK kp σ σ'→GOp P ro o env σ' (Is v σ'))(h:WL P ro kp ef ops F (k+1) rest ((d,v)::env) σ):WL P ro kp ef ops F k (o::rest) env σ:=
 wl_core hk hd (.inl ⟨gF_none hgd,fun σ' hl=>gopF_iff (hg σ' hl)⟩) h
theorem wl_isW{v:AV}{b want:Bool}{d:Nat}(hgd:wK ops o env=some (.bool b,want))(hb:b=want)(hk:ef.contains k=false)(hd:o.dst=some d)(hg: ∀σ',AddsK kp σ σ'→GOp P ro o env σ' (Is v σ'))(h:WL P ro kp ef ops F (k+1) rest ((d,v)::env) σ):WL P ro kp ef ops F k (o::rest) env σ:=
 wl_core hk hd (.inl ⟨by rw[gF_guardA hgd,hb];simp,fun σ' hl=>gopF_iff (hg σ' hl)⟩) h
theorem wl_skip{b want:Bool}{d:Nat}(hgd:wK ops o env=some (.bool b,want))(hb:b=!want)(hk:ef.contains k=false)(hd:o.dst=some d)(h:WL P ro kp ef ops F (k+1) rest ((d,.raw undef)::env) σ):WL P ro kp ef ops F k (o::rest) env σ:=
 wl_core hk hd (.inr ⟨by rw[gF_guardA hgd,hb];cases want<;>rfl,rfl⟩) h
theorem wl_skip_raw{want:Bool}{d:Nat}(hgd:wK ops o env=some (.raw undef,want))(hk:ef.contains k=false)(hd:o.dst=some d)(h:WL P ro kp ef ops F (k+1) rest ((d,.raw undef)::env) σ):WL P ro kp ef ops F k (o::rest) env σ:=
 wl_core hk hd (.inr ⟨gF_raw hgd,rfl⟩) h
theorem wl_case{b want:Bool}(_:wK ops o env=some (.bool b,want))(ht:b=true→WL P ro kp ef ops F k (o::rest) env σ)(hf:b=false→WL P ro kp ef ops F k (o::rest) env σ):WL P ro kp ef ops F k (o::rest) env σ:=by
 cases b
 ·exact hf rfl
 ·exact ht rfl
theorem wl_lit{b want:Bool}(_:wK ops o env=some (.bool b,want))(_:b=want)(h:WL P ro kp ef ops F k (o::rest) env σ):WL P ro kp ef ops F k (o::rest) env σ:=h
theorem wl_eff{R:AV→List Ent→Prop}{d:Nat}(hgd:o.guard=none)(hk:ef.contains k=true)(hd:o.dst=some d)(hg:GOp P ro o env σ R)(h: ∀v σ',R v σ'→AddsK kp σ σ'∧WL P ro kp ef ops F (k+1) rest ((d,v)::env) σ'):WL P ro kp ef ops F k (o::rest) env σ:=
 ⟨.inl ⟨hk,gF_none hgd,R,gopF_iff hg,fun v σ' hr=>⟨(h v σ' hr).1,by rw[putF_lk,put_some hd];exact(h v σ' hr).2.run⟩⟩⟩
theorem wl_box{L:List AV}{t:TypeId}{d:Nat}(hgd:o.guard=none)(hk:ef.contains k=true)(hd:o.dst=some d)(hg:GOp P ro o env σ (Boxed L t σ))(h: ∀b,WL P ro kp ef ops F (k+1) rest ((d,.ptr b 0)::env) (.cells b L t::σ)):WL P ro kp ef ops F k (o::rest) env σ:=
 wl_eff hgd hk hd hg (by rintro _ _ ⟨b⟩;exact⟨AddsK.cons _ _,h b⟩)
theorem wl_row{L:List (List AV)}{t:TypeId}{sz d:Nat}(hgd:o.guard=none)(hk:ef.contains k=true)(hd:o.dst=some d)(hg:GOp P ro o env σ (Rowed t sz L σ))(h: ∀v,WL P ro kp ef ops F (k+1) rest ((d,.slv v)::env) (.row v t sz L::σ)):WL P ro kp ef ops F k (o::rest) env σ:=
 wl_eff hgd hk hd hg (by rintro _ _ ⟨b⟩;exact⟨AddsK.cons _ _,h b⟩)
def GdOK(ops:Array Oper)(o:Oper)(env:Env):Prop:=o.guard=none∨ ∃b want,wK ops o env=some (.bool b,want)∧b=want
theorem gd0(h:o.guard=none):GdOK ops o env:=.inl h
theorem gdW{b want:Bool}(h:wK ops o env=some (.bool b,want))(hb:b=want):GdOK ops o env:=.inr ⟨b,want,h,hb⟩
structure NmA(v:AV)(K:AV→Prop):Prop where
 out:K v
theorem nm_b{e:Bool}{K:AV→Prop}(h: ∀b,BV e b→K (.bool b)):NmA (.bool e) K:=⟨h e (.mk e)⟩
theorem nm_v{v:AV}{K:AV→Prop}(h:K v):NmA v K:=⟨h⟩
theorem qX{v:AV}{d:Nat}{σ1:List Ent}(hgd:GdOK ops o env)(hd:o.dst=some d)(hn:Nat.blt d n=true)(hg:GOp P ro o env σ (Is v σ1))(h:EXL P ro ops rest Q ⟨(d,v)::env,σ1,mk,n⟩):EXL P ro ops (o::rest) Q ⟨env,σ,mk,n⟩:=by
 rcases hgd with h0|⟨b,w,h1,h2⟩
 ·exact wW h0 hd hn hg h
 ·exact uS h1 h2 hd hn hg h
theorem yQ{v:AV}{d:Nat}{σ1:List Ent}(hgd:GdOK ops o env)(hd:o.dst=some d)(hn:Nat.blt d n=true)(hg:GOp P ro o env σ (Is v σ1))(h:NmA v fun v=>EXL P ro ops rest Q ⟨(d,v)::env,σ1,mk,n⟩):EXL P ro ops (o::rest) Q ⟨env,σ,mk,n⟩:=qX hgd hd hn hg h.out
theorem zwI{v:AV}{d:Nat}(hgd:GdOK ops o env)(hk:ef.contains k=false)(hd:o.dst=some d)(hg: ∀σ',AddsK kp σ σ'→GOp P ro o env σ' (Is v σ'))(h:WL P ro kp ef ops F (k+1) rest ((d,v)::env) σ):WL P ro kp ef ops F k (o::rest) env σ:=by
 rcases hgd with h0|⟨b,w,h1,h2⟩
 ·exact wl_is h0 hk hd hg h
 ·exact wl_isW h1 h2 hk hd hg h
theorem zwX{v:AV}{d:Nat}(hgd:GdOK ops o env)(hk:ef.contains k=false)(hd:o.dst=some d)(hg: ∀σ',AddsK kp σ σ'→GOp P ro o env σ' (Is v σ'))(h:NmA v fun v=>WL P ro kp ef ops F (k+1) rest ((d,v)::env) σ):WL P ro kp ef ops F k (o::rest) env σ:=zwI hgd hk hd hg h.out
theorem zxB{e:Bool}{d:Nat}{σ1:List Ent}(hgd:GdOK ops o env)(hd:o.dst=some d)(hn:Nat.blt d n=true)(hg:GOp P ro o env σ (Is (.bool e) σ1))(h: ∀b,BV e b→EXL P ro ops rest Q ⟨(d,.bool b)::env,σ1,mk,n⟩):EXL P ro ops (o::rest) Q ⟨env,σ,mk,n⟩:=qX hgd hd hn hg (h e (.mk e))
theorem zwB{e:Bool}{d:Nat}(hgd:GdOK ops o env)(hk:ef.contains k=false)(hd:o.dst=some d)(hg: ∀σ',AddsK kp σ σ'→GOp P ro o env σ' (Is (.bool e) σ'))(h: ∀b,BV e b→WL P ro kp ef ops F (k+1) rest ((d,.bool b)::env) σ):WL P ro kp ef ops F k (o::rest) env σ:=zwI hgd hk hd hg (h e (.mk e))
theorem BV.of{e b:Bool}(h:e=b):BV e b:=by subst h;exact .mk _
inductive KnT(e:Bool):(b:Bool)→BV e b→Prop
 |mk (h:e=true):KnT e true (BV.of h)
inductive KnF(e:Bool):(b:Bool)→BV e b→Prop
 |mk (h:e=false):KnF e false (BV.of h)
theorem KnT.eq{e b:Bool}{g:BV e b}:KnT e b g→e=true|⟨h⟩=>h
theorem KnF.eq{e b:Bool}{g:BV e b}:KnF e b g→e=false|⟨h⟩=>h
theorem knT{e b:Bool}{g:BV e b}(h:b=true):KnT e b g:=by subst h;exact⟨g.eq⟩
theorem knF{e b:Bool}{g:BV e b}(h:b=false):KnF e b g:=by subst h;exact⟨g.eq⟩
theorem exl_caseB{e b want:Bool}(hgd:wK ops o env=some (.bool b,want))(g:BV e b)(ht:KnT e b g→EXL P ro ops (o::rest) Q ⟨env,σ,mk,n⟩)(hf:KnF e b g→EXL P ro ops (o::rest) Q ⟨env,σ,mk,n⟩):EXL P ro ops (o::rest) Q ⟨env,σ,mk,n⟩:=exl_caseL hgd (fun h=>ht (knT h)) (fun h=>hf (knF h))
theorem exl_caseN{b want:Bool}(hgd:wK ops o env=some (.bool b,want))(ht:KnN (b=true)→EXL P ro ops (o::rest) Q ⟨env,σ,mk,n⟩)(hf:KnN (b=false)→EXL P ro ops (o::rest) Q ⟨env,σ,mk,n⟩):EXL P ro ops (o::rest) Q ⟨env,σ,mk,n⟩:=exl_caseL hgd (fun h=>ht ⟨h⟩) (fun h=>hf ⟨h⟩)
theorem wl_caseB{e b want:Bool}(hgd:wK ops o env=some (.bool b,want))(g:BV e b)(ht:KnT e b g→WL P ro kp ef ops F k (o::rest) env σ)(hf:KnF e b g→WL P ro kp ef ops F k (o::rest) env σ):WL P ro kp ef ops F k (o::rest) env σ:=wl_case hgd (fun h=>ht (knT h)) (fun h=>hf (knF h))
theorem wl_caseN{b want:Bool}(hgd:wK ops o env=some (.bool b,want))(ht:KnN (b=true)→WL P ro kp ef ops F k (o::rest) env σ)(hf:KnN (b=false)→WL P ro kp ef ops F k (o::rest) env σ):WL P ro kp ef ops F k (o::rest) env σ:=wl_case hgd (fun h=>ht ⟨h⟩) (fun h=>hf ⟨h⟩)
theorem ex_condB{x y:Code}{p:Operand}{e b:Bool}(hc:xP s.env p=some (.bool b))(g:BV e b)(ht:KnT e b g→EX P ro x Q s)(hf:KnF e b g→EX P ro y Q s):EX P ro (.cond p x y) Q s:=ex_cond hc (fun h=>ht (knT h)) (fun h=>hf (knF h))
theorem ex_condN{x y:Code}{p:Operand}{b:Bool}(hc:xP s.env p=some (.bool b))(ht:KnN (b=true)→EX P ro x Q s)(hf:KnN (b=false)→EX P ro y Q s):EX P ro (.cond p x y) Q s:=ex_cond hc (fun h=>ht ⟨h⟩) (fun h=>hf ⟨h⟩)
theorem zge{l:List Oper}(h:EXL P ro ops l Q s):EXL P ro ops l Q s:=h
theorem zgw{l:List Oper}(h:WL P ro kp ef ops F k l env σ):WL P ro kp ef ops F k l env σ:=h
theorem xD{rest:List Oper}{d:Option Tmp}{t:TypeId}{p:String}{a:Array Edge}{g:Option (Nat×Bool)}(O:Op)(h:EXL P ro ops (⟨d,O,t,p,a,g⟩::rest) Q s):EXL P ro ops (⟨d,O,t,p,a,g⟩::rest) Q s:=h
theorem zL{dst:Option Tmp}{ty:TypeId}{pos:String}{after:Array Edge}{guard:Option (Nat×Bool)}{f:Operand}{args:Array Operand}{ats:Array TypeId}{g:FuncId}{first cap l:List AV}{R:AV→List Ent→Prop}(h:SCall P g (first++l++cap) σ R)(hf:xP env f=some (.fn (.func g) first cap):=by rfl)(hl:evAs env args.toList=some l:=by rfl)(he:entersB P g=true:=by kernel_rfl):GOp P ro ⟨dst,.call {callee:=.value f,args:=args,argTypes:=ats},ty,pos,after,guard⟩ env σ R:=zQ hf hl (zX he) h
theorem ex_drawLK(kp:Ent→Prop){id:Nat}(m:Nat)(ef:List Nat)(hm:P.follows .mixedOrders=true)(hB:vG ef l m=true)(hd:(l.all fun o=>uF o.dst n)=true)
  (h:WL P ro kp ef (l.take m).toArray (fun env σ=>EXL P ro l.toArray (l.drop m) Q ⟨env,σ,mk,n⟩) 0 (l.take m) env σ):EX P ro (.region id l.toArray true) Q ⟨env,σ,mk,n⟩:=
 ex_drawK kp (s:=⟨env,σ,mk,n⟩) m ef hm hB hd h.run
def lastStore(l:List Oper):Bool:=match l.getLast? with
 |some o=>match o.op with|.store .. =>true|_=>false
 |none=>false
theorem ex_drawT{id:Nat}(_:lastStore l=true)(hm:P.follows .mixedOrders=true)(hB:vG [] l (l.length-1)=true)(hd:(l.all fun o=>uF o.dst n)=true)
  (h:WL P ro anyK [] (l.take (l.length-1)).toArray (fun env σ=>EXL P ro l.toArray (l.drop (l.length-1)) Q ⟨env,σ,mk,n⟩) 0 (l.take (l.length-1)) env σ):EX P ro (.region id l.toArray true) Q ⟨env,σ,mk,n⟩:=
 ex_drawLK anyK _ [] hm hB hd h
def pureOps(l:List Oper):Bool:=l.all fun o=>match o.op with
 |.store .. |.buildSlice .. |.box .. |.alloc .. |.makeSlice .. |.makeMap .. |.mapUpdate .. |.entryStore .. |.slice .. =>false
 |.call c=>match c.callee with
  |.builtin b=>match b with|.append|.copy|.delete|.clear=>false|_=>true
  |_=>false
 |_=>true
def pureCalls(l:List Oper):Bool:=l.all fun o=>match o.op with
 |.store .. |.buildSlice .. |.box .. |.alloc .. |.makeSlice .. |.makeMap .. |.mapUpdate .. |.entryStore .. =>false
 |.call c=>match c.callee with
  |.builtin b=>match b with|.append|.copy|.delete|.clear=>false|_=>true
  |_=>true
 |_=>true
theorem ex_drawC{id:Nat}(_:pureCalls l=true)(hm:P.follows .mixedOrders=true)(hB:vG [] l l.length=true)(hd:(l.all fun o=>uF o.dst n)=true)
  (h:EX P ro (.region id l.toArray true) Q ⟨env,σ,mk,n⟩):EX P ro (.region id l.toArray true) Q ⟨env,σ,mk,n⟩:=h
theorem ex_drawP{id:Nat}(_:pureOps l=true)(hm:P.follows .mixedOrders=true)(hB:vG [] l l.length=true)(hd:(l.all fun o=>uF o.dst n)=true)
  (h:EX P ro (.region id l.toArray true) Q ⟨env,σ,mk,n⟩):EX P ro (.region id l.toArray true) Q ⟨env,σ,mk,n⟩:=h
theorem ex_drawQ{id:Nat}(hm:P.follows .mixedOrders=true)(hB:vG [] l l.length=true)(hd:(l.all fun o=>uF o.dst n)=true)
  (h:WL P ro anyK [] l.toArray (fun env σ=>Q .normal ⟨env,σ,mk,n⟩) 0 l env σ):EX P ro (.region id l.toArray true) Q ⟨env,σ,mk,n⟩:=by
 refine ex_drawLK anyK l.length [] hm hB hd ?_
 rw[List.take_length,List.drop_length]
 have mono: ∀(F F':Env→List Ent→Prop),(∀env σ,F env σ→F' env σ)→ ∀(m:List Oper) (k:Nat) (e:EnvF) (σ:List Ent),WQ P ro (AddsK anyK) [] l.toArray (fun e σ=> ∃env,lk env=e∧F env σ) k m e σ→WQ P ro (AddsK anyK) [] l.toArray (fun e σ=> ∃env,lk env=e∧F' env σ) k m e σ:=by
  intro F F' hF m
  induction m with
  |nil=>rintro k e σ ⟨env,h1,h2⟩;exact⟨env,h1,hF _ _ h2⟩
  |cons o m ih=>
   rintro k e σ (⟨h1,h2,R,h3,h4⟩|⟨h1,v,h2,h3⟩)
   ·exact .inl ⟨h1,h2,R,h3,fun v σ' hr=>⟨(h4 v σ' hr).1,ih _ _ _ (h4 v σ' hr).2⟩⟩
   ·exact .inr ⟨h1,v,h2,ih _ _ _ h3⟩
 exact⟨mono _ _ (fun env σ h=>exl_nil h) _ _ _ _ h.run⟩
theorem zW{fn:Func}{vs:List AV}{v:AV}{σ1 σ2:List Ent}(hm:Marks mk σ1 σ2)(hr:Res P env σ2 fn.results.toList vs)(hs:σ.Sublist σ2)(e:oneA vs=v):RetOK P fn (Is v σ) ⟨env,σ1,mk,n⟩:=
 ⟨vs,σ2,hm,hr,fin_drop hs (zY (by rw[e];exact .mk))⟩
theorem zN{a b:Bool}(h:a=b):oneA [.bool a]=.bool b:=by rw[h];rfl
theorem int_eq{k:IntKind}{a b:Int}(h:a=b):oneA [.int k a]=.int k b:=by rw[h];rfl
end
def updA(f:Int→Option AV)(k:Int)(v:AV):Int→Option AV:=fun q=>if q=k then some v else f q
def boolM(S:Int→Bool):Int→Option AV:=fun q=>if S q then some (.bool true)else none
theorem boolM_getD(S:Int→Bool)(q:Int):(boolM S q).getD (.bool false)=.bool (S q):=by unfold boolM;cases S q<;>rfl
theorem boolM_upd(S:Int→Bool)(k:Int):updA (boolM S) k (.bool true)=boolM (fun q=>S q||q==k):=by
 funext q
 unfold updA boolM
 by_cases h:q=k
 ·subst h;simp
 ·have:(q==k)=false:=by simpa using h
  simp[h,this]
theorem boolM_list(l:List Int)(k:Int):updA (boolM l.contains) k (.bool true)=boolM (l++[k]).contains:=by
 rw[boolM_upd];congr 1;funext q;simp only[List.contains_append,List.contains_cons,List.contains_nil,Bool.or_false]
def intM(K:Int→Int):Int→Option AV:=fun q=>if K q=0 then none else some (.int .i64 (K q))
theorem intM_getD(K:Int→Int)(q:Int):(intM K q).getD (.int .i64 0)=.int .i64 (K q):=by
 unfold intM;split
 ·rename_i h;rw[h];rfl
 ·rfl
theorem intM_upd(K:Int→Int)(k v:Int)(hv:v≠0):updA (intM K) k (.int .i64 v)=intM (fun q=>if q=k then v else K q):=by
 funext q
 unfold updA intM
 by_cases h:q=k
 ·simp[h,hv]
 ·simp[h]
section
variable {P:Program} {ro:Option Nat} {env:Env} {σ σ':List Ent} {o:Oper} {dst:Option Tmp} {ty:TypeId} {pos:String} {after:Array Edge} {guard:Option (Nat×Bool)}
inductive Mapped(σ:List Ent):AV→List Ent→Prop
 |mk (b:Nat):Mapped σ (.mp b) (.imap b (fun _=>none) 0::σ)
theorem g_makeMap{t:TypeId}:GOp P ro ⟨dst,.makeMap t none,ty,pos,after,guard⟩ env σ (Mapped σ):=
 wJ (by intro c h;cases h) fun X M a w hg ho=>by
  refine⟨M,.map (some w.heap.size),w.alloc (.map #[] 0),.mp w.heap.size,.imap w.heap.size (fun _=>none) 0::σ,Mem.le_refl M,?_,by simp[VRel],.mk _,.inl ?_⟩
  ·exact hg.alloc _ _ rfl ⟨_,MapN.made w,fun k=>trivial⟩
  ·simp[execOp,Instr.makeMap,newObj,Sem.run_bind,Sem.run]
def mapOf(P:Program)(t:TypeId):Option TypeId:=match P.underlying t with
 |some (.map kt et)=>match P.underlying kt with
  |some (.int .i64)=>some et
  |_=>none
 |_=>none
theorem mapOf_spec{t et:TypeId}(h:mapOf P t=some et): ∃kt,P.underlying t=some (.map kt et)∧P.underlying kt=some (.int .i64):=by
 unfold mapOf at h
 split at h
 ·rename_i kt et' h1
  split at h
  ·rename_i h2;cases h;exact⟨kt,h1,h2⟩
  ·cases h
 ·cases h
def zeroV(P:Program)(t:TypeId):Option AV:=match (P.info? t).bind (·.zero) with
 |some (.agg cs)=>some (.agg (cs.toList.map cA))
 |some v=>some (cA v)
 |none=>none
theorem zeroV_spec{t:TypeId}{z:AV}(h:zeroV P t=some z): ∃v,(∀w,(zeroValue t).run P w=.ok v w)∧ ∀M,VRel M z v:=by
 unfold zeroV at h
 cases hi:P.info? t with
 |none=>rw[hi]at h;cases h
 |some i=>
  rw[hi]at h
  simp only[Option.bind_some]at h
  cases hz:i.zero with
  |none=>rw[hz]at h;cases h
  |some v=>
   rw[hz]at h
   refine⟨v,fun w=>by simp[zeroValue,typeInfo,hi,hz,Sem.run_bind],fun M=>?_⟩
   split at h
   ·rename_i cs hcs;cases hcs;cases h;simp only[VRel];exact⟨cs,rfl,cAs_rel M _⟩
   ·rename_i hcs;cases hcs;cases h;exact cA_rel M _
   ·rename_i hcs;cases hcs
theorem g_lookup{t et:TypeId}{x ix:Operand}{b n:Nat}{f:Int→Option AV}{k:Int}{z v:AV}(ht:mapOf P t=some et)(hx:xP env x=some (.mp b))(hm:Ent.imap b f n∈σ)(hi:xP env ix=some (.int .i64 k))(hz:zeroV P et=some z)(hv:(f k).getD z=v):
  GOp P ro ⟨dst,.lookup t x ix false,ty,pos,after,guard⟩ env σ (Is v σ):=
 zA v (by intro c h;cases h) fun X M a w hg ho=>by
  have h1:=ho x (by simp[Op.operands]) _ hx
  have h2:=ho ix (by simp[Op.operands]) _ hi
  simp only[VRel]at h1 h2
  obtain⟨kt,e1,e2⟩:=mapOf_spec ht
  obtain⟨zv,hz1,hz2⟩:=zeroV_spec hz
  obtain⟨g,hg1,hg2⟩:=hg.ent _ hm
  have hr:=hg1.lookup (P:=P) e1 e2 hz1 k
  refine⟨(g k).getD zv,?_,by simp[execOp,h1,h2,Sem.run_bind,hr]⟩
  have:=hg2 k
  rw[←hv]
  cases hf:f k<;>cases hgk:g k<;>simp only[hf,hgk]at this
  ·exact hz2 M
  ·exact this
theorem g_lookupOk{t et:TypeId}{x ix:Operand}{b n:Nat}{f:Int→Option AV}{k:Int}{z v:AV}{ok:Bool}(ht:mapOf P t=some et)(hx:xP env x=some (.mp b))(hm:Ent.imap b f n∈σ)(hi:xP env ix=some (.int .i64 k))(hz:zeroV P et=some z)(hv:(f k).getD z=v)(hok:(f k).isSome=ok):
  GOp P ro ⟨dst,.lookup t x ix true,ty,pos,after,guard⟩ env σ (Is (.tup [v,.bool ok]) σ):=
 zA _ (by intro c h;cases h) fun X M a w hg ho=>by
  have h1:=ho x (by simp[Op.operands]) _ hx
  have h2:=ho ix (by simp[Op.operands]) _ hi
  simp only[VRel]at h1 h2
  obtain⟨kt,e1,e2⟩:=mapOf_spec ht
  obtain⟨zv,hz1,hz2⟩:=zeroV_spec hz
  obtain⟨g,hg1,hg2⟩:=hg.ent _ hm
  have hr:=hg1.lookup_ok (P:=P) e1 e2 hz1 k
  refine⟨.tuple #[(g k).getD zv,.bool (g k).isSome],?_,by simp[execOp,h1,h2,Sem.run_bind,hr]⟩
  have:=hg2 k
  simp only[VRel]
  refine⟨_,rfl,?_⟩
  have e3:VRel M v ((g k).getD zv)∧(g k).isSome=ok:=by
   rw[←hv,←hok]
   cases hf:f k<;>cases hgk:g k<;>simp only[hf,hgk]at this
   ·exact⟨hz2 M,rfl⟩
   ·exact⟨this,rfl⟩
  simp only[VRels]
  exact⟨_,_,rfl,e3.1,_,_,rfl,by rw[e3.2];simp[VRel],rfl⟩
theorem g_mapUpdate{t et:TypeId}{x ix y:Operand}{b n:Nat}{f f':Int→Option AV}{k:Int}{v:AV}(ht:mapOf P t=some et)(hx:xP env x=some (.mp b))(hi:xP env ix=some (.int .i64 k))(hy:xP env y=some v)(hu:Upd σ (.imap b f n) (.imap b f' (if (f k).isSome then n else n+1)) σ')(hf:updA f k v=f'):
  GOp P ro ⟨dst,.mapUpdate t x ix y,ty,pos,after,guard⟩ env σ (Is (.raw undef) σ'):=
 wJ (by intro c h;cases h) fun X M a w hg ho=>by
  have h1:=ho x (by simp[Op.operands]) _ hx
  have h2:=ho ix (by simp[Op.operands]) _ hi
  have h3:=ho y (by simp[Op.operands]) _ hy
  simp only[VRel]at h1 h2
  obtain⟨kt,e1,e2⟩:=mapOf_spec ht
  obtain⟨g,hg1,hg2⟩:=hg.ent _ hu.mem
  obtain⟨w',hr,hm',hgr,hsz,_⟩:=hg1.update (P:=P) e1 e2 k (a.eval y)
  refine⟨M,undef,w',.raw undef,σ',Mem.le_refl M,?_,by simp[VRel],.mk,.inr ⟨?_,rfl⟩⟩
  ·refine hg.upd hu hgr.os hgr.tape hgr.output (fun q hq hne=>hgr.block q hq (fun e=>hne e.symm)) ⟨upd g k (a.eval y),?_,fun q=>?_⟩ (.inl rfl)
   ·have hk:=hg2 k
    have e:(g k).isSome=(f k).isSome:=by cases hf:f k<;>cases hgk:g k<;>simp only[hf,hgk]at hk<;>rfl
    rw[e]at hm'
    exact hm'
   ·rw[←hf]
    unfold updA upd
    by_cases hq:q=k
    ·simp only[if_pos hq];exact h3
    ·simp only[if_neg hq];exact hg2 q
  ·simp[execOp,h1,h2,Sem.run_bind,hr]
theorem g_lenMap{x:Operand}{t et:TypeId}{b n:Nat}{f:Int→Option AV}(ht:mapOf P t=some et)(hx:xP env x=some (.mp b))(hm:Ent.imap b f n∈σ):
  GOp P ro ⟨dst,.call {callee:=.builtin .len,args:=#[x],argTypes:=#[t]},ty,pos,after,guard⟩ env σ (Is (.int .i64 (n:Int)) σ):=
 zA _ (by intro c h;cases h) fun X M en w hg ho=>by
  have h1:=ho x (by simp[Op.operands,Call.operands]) _ hx
  simp only[VRel]at h1
  obtain⟨kt,e1,e2⟩:=mapOf_spec ht
  obtain⟨g,hg1,_⟩:=hg.ent _ hm
  obtain⟨es,clock,hb,hs⟩:=hg1.len
  refine⟨.int .i64 n,by simp[VRel],?_⟩
  simp[execOp,resolve,invoke,builtin,Builtin.len_,Sem.run_bind,run_underlying e1,h1,goInt,MapKept.run_getObj_map hb,hs]
end
section
variable {P:Program} {ro:Option Nat} {Q:Exit→St→Prop} {ops:Array Oper} {rest:List Oper} {o:Oper} {env:Env} {σ:List Ent} {mk:List Nat} {n:Nat}
theorem exl_map{d:Nat}(hgd:o.guard=none)(hd:o.dst=some d)(hn:Nat.blt d n=true)(hg:GOp P ro o env σ (Mapped σ))(h: ∀b,EXL P ro ops rest Q ⟨(d,.mp b)::env,.imap b (fun _=>none) 0::σ,mk,n⟩):EXL P ro ops (o::rest) Q ⟨env,σ,mk,n⟩:=
 kV (s:=⟨env,σ,mk,n⟩) hgd (dst_ok hd hn) hg (by rintro _ _ ⟨b⟩;rw[hd];exact h b)
end
structure SRound(P:Program)(l:Nat)(args:List AV)(σ:List Ent)(Q:AV→List Ent→Prop):Prop where
 run: ∀X M w (vs:Array Value),Good X M σ w→VRels M args vs.toList→ ∃f tmps asg body,(Instr.yield l vs).run P w=.ok (.round l f tmps asg body) w∧
  RoundIn Fence.wide 0 P l f tmps asg body w fun e w'=> ∃M' σ' r v,M.le M'∧Good X M' σ' w'∧VRel M' r v∧e=.returned v∧Q r σ'
theorem SRound.mono{P:Program}{l:Nat}{args:List AV}{σ:List Ent}{Q Q':AV→List Ent→Prop}(h:SRound P l args σ Q)(hq: ∀r σ',Q r σ'→Q' r σ'):SRound P l args σ Q':=
 ⟨fun X M w vs hg ha=>by
  obtain⟨f,tmps,asg,body,h1,h2⟩:=h.run X M w vs hg ha
  exact⟨f,tmps,asg,body,h1,h2.mono fun _ _ ⟨M',σ',r,v,k1,k2,k3,k4,k5⟩=>⟨M',σ',r,v,k1,k2,k3,k4,hq _ _ k5⟩⟩⟩
theorem SRound.sub{P:Program}{l:Nat}{args:List AV}{σ:List Ent}{Q:AV→List Ent→Prop}(h:SRound P l args σ (fun r σ'=> ∃σ2,σ2.Sublist σ'∧Q r σ2)):SRound P l args σ Q:=
 ⟨fun X M w vs hg ha=>by
  obtain⟨f,tmps,asg,body,h1,h2⟩:=h.run X M w vs hg ha
  exact⟨f,tmps,asg,body,h1,h2.mono fun _ _ ⟨M',σ',r,v,k1,k2,k3,k4,σ2,hs,hq⟩=>⟨M',σ2,r,v,k1,k2.sub hs,k3,k4,hq⟩⟩⟩
theorem Upd.front{e e':Ent}{σ σ':List Ent}(h:Upd σ e e' σ'): ∀front:List Ent,Upd (front++σ) e e' (front++σ')
 |[]=>h
 |_::r=>.there (Upd.front h r)
section
variable {P:Program} {ro:Option Nat} {env:Env} {σ σ':List Ent} {o:Oper} {dst:Option Tmp} {ty:TypeId} {pos:String} {after:Array Edge} {guard:Option (Nat×Bool)}
theorem tX{f:Operand}{args:Array Operand}{ats:Array TypeId}{l:Nat}{asl:List AV}{Q:AV→List Ent→Prop}(hf:xP env f=some (.fn (.yield l) [] []))(hl:evAs env args.toList=some asl)(h:SRound P l asl σ Q):
  GOp P ro ⟨dst,.call {callee:=.value f,args:=args,argTypes:=ats},ty,pos,after,guard⟩ env σ Q:=by
 refine⟨fun X M a w hg ho K Qx hK=>?_⟩
 have h1:=ho f (by simp[Op.operands,Call.operands]) _ hf
 simp only[VRel,VRels]at h1
 obtain⟨vs,ws,hv,k1,k2⟩:=h1
 have e1:vs=#[]:=by apply Array.ext';simpa using k1
 have e2:ws=#[]:=by apply Array.ext';simpa using k2
 subst e1 e2
 have k3:=evAs_rel (a:=a) (M:=M) (fun x hx v hv=>ho x (by simp only[Op.operands,Call.operands,Array.mem_append];exact .inr (by simpa using hx)) v hv) hl
 obtain⟨fn,tmps,asg,body,hy,hr⟩:=h.run X M w (args.map a.eval) hg (by simpa using k3)
 refine⟨fun f _=>tT f ro,?_⟩
 rw[Oper.semAt_eq _ _ _ (by intro c h;cases h)]
 have hrun:(execOp a.eval ⟨dst,.call {callee:=.value f,args:=args,argTypes:=ats},ty,pos,after,guard⟩).run P w=.ok (.round l fn tmps asg body) w:=by
  simp only[execOp,resolve,Sem.run_bind,hv,Deferred.ofValue,Sem.run_pure,Result.andThen_ok,invoke]
  simpa using hy
 rw[hrun]
 have hr2:RoundIn (tN ro) 0 P l fn tmps asg body w _:=hr
 refine⟨fun hd=>(by cases hd),RoundIn.mono hr2 ?_⟩
 rintro e w' ⟨M',σ',r,v,hm,hg',hv',rfl,hq⟩
 exact hK M' v w' r σ' hm hg' hv' hq
def putAll:List Tmp→List AV→Env→Env
 |p::ps,v::vs,env=>putAll ps vs ((p,v)::env)
 |_,_,env=>env
def jumpOf:Exit→Option (Option Code)
 |.normal=>some none
 |.ret=>some (some .ret)
 |.exit id=>some (some (.exit id))
 |.goto l=>some (some (.goto l))
 |_=>none
def rndA(l:Nat)(fn:FuncId)(env:Env)(n:Nat)(ps:Array Tmp)(asg body:Code)(D:Nat)(Q:AV→List Ent→Prop):Exit→St→Prop:=fun e s=>
 ∃j σ',jumpOf e=some j∧Upd s.σ (.loop l .busy none fn env n ps asg body D) (.loop l (if j.isNone then .ready else .done) j fn env n ps asg body D) σ'∧Q (.bool j.isNone) σ'
theorem putAll_rel{M:Mem}: ∀(ps:List Tmp) (vs:List AV) (us:List Value) (env:Env) (tmps:Array Value),EnvRel M env tmps→VRels M vs us→(∀p∈ps,p<tmps.size)→us.length=ps.length→EnvRel M (putAll ps vs env) ((ps.zip us).foldl (fun t (p:Tmp×Value)=>t.setIfInBounds p.1 p.2) tmps)
 |[],vs,us,env,tmps,h,_,_,_=>by simpa [putAll]using h
 |p::ps,[],us,env,tmps,h,hv,_,hl=>by simp only[VRels]at hv;subst hv;simp at hl
 |p::ps,v::vs,us,env,tmps,h,hv,hp,hl=>by
  simp only[VRels]at hv
  obtain⟨u,us',rfl,k1,k2⟩:=hv
  simp only[putAll,List.zip_cons_cons,List.foldl_cons]
  refine putAll_rel ps vs us' _ _ ?_ k2 (fun q hq=>by simpa using hp q (by simp[hq])) (by simpa using hl)
  intro t x hx
  by_cases e:p=t
  ·subst e
   rw[uU]at hx
   cases hx
   exact⟨u,by rw[Array.getElem?_setIfInBounds_self_of_lt (hp p (by simp))],k1⟩
  ·rw[qR e]at hx
   obtain⟨u',h1,h2⟩:=h t x hx
   exact⟨u',by rw[Array.getElem?_setIfInBounds_ne e];exact h1,h2⟩
theorem upd_loop{X:Fx}{M:Mem}{w:World}{l fn n D:Nat}{st st':LoopState}{pe pe':Option Code}{env:Env}{ps:Array Tmp}{asg body:Code}{tmps:Array Value}(hg:Good X M σ w)(hu:Upd σ (.loop l st pe fn env n ps asg body D) (.loop l st' pe' fn env n ps asg body D) σ')
  (h1:tmps.size=n) (h2:EnvRel M env tmps) (h3:w.heap[l]?=some (.loop {state:=st,pending:=pe,fn:=fn,tmps:=tmps,params:=ps,assign:=asg,body:=body,defers:=D})):
  Good X M σ' (w.putObj l (.loop {state:=st',pending:=pe',fn:=fn,tmps:=tmps,params:=ps,assign:=asg,body:=body,defers:=D})):=
 hg.upd hu rfl rfl rfl (fun k _ hne=>World.putObj_heap_other (fun e=>hne (by simp[Ent.block,e]))) ⟨tmps,h1,h2,World.putObj_heap_same (Array.getElem?_eq_some_iff.1 h3).1⟩ (.inl rfl)
theorem sround{l fn n D:Nat}{ps:Array Tmp}{asg body:Code}{args:List AV}{Q:AV→List Ent→Prop}(hm:Ent.loop l .ready none fn env n ps asg body D∈σ)(hps:ps.size=args.length)(hpn: ∀p∈ps.toList,p<n)
  (h:EX P (some l) asg (thenA (fun s=> ∃σ',Upd s.σ (.loop l .ready none fn env n ps asg body D) (.loop l .busy none fn env n ps asg body D) σ'∧EX P (some l) body (rndA l fn env n ps asg body D Q) ⟨s.env,σ',s.marks,s.n⟩) (fun _ _=>False)) ⟨putAll ps.toList args env,σ,[],n⟩):
  SRound P l args σ Q:=by
 refine⟨fun X0 M w vs hg0 ha=>?_⟩
 obtain⟨X,hX⟩: ∃X:Fx,X={X0 with dt:=[]}:=⟨_,rfl⟩
 have hg:Good X M σ w:=hX▸hg0.dt []
 have back: ∀{M σ w},Good X M σ w→Good X0 M σ w:=fun h=>(hX▸h:Good {X0 with dt:=[]} _ _ _).undt
 obtain⟨tmps,h1,h2,h3⟩:=hg.ent _ hm
 have hl:=ha.length
 simp only[Array.length_toList]at hl
 have hy:=run_yield (P:=P) (args:=vs) h3 (by simp only;omega)
 refine⟨fn,_,asg,body,hy,roundIn_of_wpIn trivial ?_⟩
 have hfold:(ps.zip vs).foldl (fun t (x:Tmp×Value)=>t.setIfInBounds x.1 x.2) tmps=(ps.toList.zip vs.toList).foldl (fun t (x:Tmp×Value)=>t.setIfInBounds x.1 x.2) tmps:=by
  rw[←Array.foldl_toList,Array.toList_zip]
 have hsz: ∀(z:List (Tmp×Value)) (t:Array Value),(z.foldl (fun t (x:Tmp×Value)=>t.setIfInBounds x.1 x.2) t).size=t.size:=by
  intro z
  induction z with
  |nil=>intro t;rfl
  |cons x z ih=>intro t;simp only[List.foldl_cons];rw[ih];simp
 have hs:Sim X M ⟨putAll ps.toList args env,σ,[],n⟩ {tmps:=(ps.zip vs).foldl (fun t (x:Tmp×Value)=>t.setIfInBounds x.1 x.2) tmps,defers:=[]} w:=by
  refine⟨hg,?_,by rw[hX];rfl,?_⟩
  ·simp only[hfold,hsz,h1]
  ·simp only[hfold]
   exact putAll_rel ps.toList args vs.toList env tmps h2 ha (fun p hp=>by rw[h1];exact hpn p hp) (by simp;omega)
 refine Go.wpIn_mono (h.run X M _ w hs) ?_
 rintro e a1 w1 ⟨M1,s1,hm1,hs1,hq⟩
 cases e with
 |normal=>
  obtain⟨σb,hub,hbody⟩:=hq
  obtain⟨tmps1,t1,t2,t3⟩:=hs1.good.ent _ hub.mem
  have hbr:=run_beginRound (P:=P) t3 rfl
  refine⟨_,hbr,?_⟩
  have hgb:=upd_loop hs1.good hub t1 t2 t3
  refine Go.wpIn_mono (hbody.run X M1 a1 _ ⟨hgb,hs1.size,hs1.defs,hs1.env⟩) ?_
  rintro e2 a2 w2 ⟨M2,s2,hm2,hs2,j,σ2,hj,hu2,hq2⟩
  obtain⟨tmps2,r1,r2,r3⟩:=hs2.good.ent _ hu2.mem
  have her:=run_endRound (P:=P) j r3
  have hg2:=upd_loop hs2.good hu2 r1 r2 r3
  have fin: ∃v w',(Instr.endRound l j).run P w2=.ok v w'∧ ∃M' σ' r v',M.le M'∧Good X0 M' σ' w'∧VRel M' r v'∧Ending.returned v=.returned v'∧Q r σ':=
   ⟨_,_,her,M2,σ2,.bool j.isNone,_,Mem.le_trans hm1 hm2,back hg2,by simp[VRel],rfl,hq2⟩
  cases e2 with
  |normal=>simp only[jumpOf,Option.some.injEq]at hj;subst hj;exact fin
  |ret=>simp only[jumpOf,Option.some.injEq]at hj;subst hj;exact fin
  |exit id=>simp only[jumpOf,Option.some.injEq]at hj;subst hj;exact fin
  |goto t=>simp only[jumpOf,Option.some.injEq]at hj;subst hj;exact fin
  |panic ch=>cases hj
  |outgrown=>cases hj
 |exit id=>exact hq.elim
 |goto l=>exact hq.elim
 |ret=>exact hq.elim
 |panic ch=>exact hq.elim
 |outgrown=>exact hq.elim
end
inductive RangeEnd(P:Program)(ro:Option Nat)(l fn:Nat)(env:Env)(n:Nat)(ps:Array Tmp)(asg body:Code)(D:Nat)(Q:Exit→St→Prop)(mk:List Nat):AV→List Ent→Prop
 |done {r:AV} {σ σ':List Ent} (hr:Rem σ (.loop l .ready none fn env n ps asg body D) σ') (h:Q .normal ⟨env,σ',mk,n⟩):RangeEnd P ro l fn env n ps asg body D Q mk r σ
 |jump {r:AV} {σ σ':List Ent} {c:Code} (hr:Rem σ (.loop l .done (some c) fn env n ps asg body D) σ') (h:EX P ro c Q ⟨env,σ',mk,n⟩):RangeEnd P ro l fn env n ps asg body D Q mk r σ
section
variable {P:Program} {Q:Exit→St→Prop} {env:Env} {σ:List Ent} {mk:List Nat} {n:Nat}
theorem range_end{ro:Option Nat}{X:Fx}{M M2:Mem}{l fn D:Nat}{ps:Array Tmp}{asg body:Code}{σ2:List Ent}{r:AV}{a:Act}{w2:World}{ds:List Deferred}{rv:Value}(hm:M.le M2)(hg2:Good X M2 σ2 w2)(hsz:a.tmps.size=n)(henv:EnvRel M env a.tmps)(hds:ds=marksD mk++X.dt)
  (hq:RangeEnd P ro l fn env n ps asg body D Q mk r σ2):rangePost (tN ro) 0 P l (postA X M Q) {a with defers:=ds} (.returned rv) w2:=by
 cases hq with
 |done hr h=>
  obtain⟨x,y,rfl,rfl⟩:=hr.split
  obtain⟨tmps,t1,t2,t3⟩:=hg2.ent (.loop l .ready none fn env n ps asg body D) (by simp)
  have hel:=run_endLoop (P:=P) t3 (by simp)
  refine⟨_,_,hel,M2,_,hm,⟨hg2.rem hr rfl rfl rfl (fun k hk=>World.putObj_heap_other (fun e=>hk (by simp[Ent.block,e]))),hsz,hds,henv.mono hm⟩,h⟩
 |@jump _ c hr h=>
  obtain⟨x,y,rfl,rfl⟩:=hr.split
  obtain⟨tmps,t1,t2,t3⟩:=hg2.ent (.loop l .done (some c) fn env n ps asg body D) (by simp)
  have hel:=run_endLoop (P:=P) t3 (by simp)
  refine⟨_,_,hel,?_⟩
  exact Go.wpIn_mono (h.run X M2 _ _ ⟨hg2.rem hr rfl rfl rfl (fun k hk=>World.putObj_heap_other (fun e=>hk (by simp[Ent.block,e]))),hsz,hds,henv.mono hm⟩) fun _ _ _ hp=>qT hm (fun _ _ h=>h) hp
theorem pY{g:Operand}{ps:Array Tmp}{asg body:Code}{f:FuncId}{first cap:List AV}(hg:xP env g=some (.fn (.func f) first cap))(he:Enters P f)
  (h: ∀D l fn,SCall P f (first++[.fn (.yield l) [] []]++cap) (.loop l .ready none fn env n ps asg body D::.obj D (.deferred (some []))::σ) (RangeEnd P none l fn env n ps asg body D Q (D::mk))):
  EX P none (.rangeFunc g ps asg body) Q ⟨env,σ,mk,n⟩:=by
 refine⟨fun X M a w hs=>wpIn_rangeFunc ?_⟩
 intro fn _
 have hgv:=hs.env.eval hg
 simp only[VRel]at hgv
 obtain⟨vs,ws,hv,k1,k2⟩:=hgv
 have hg1:Good X M (.obj w.heap.size (.deferred (some []))::σ) (w.alloc (.deferred (some []))):=hs.good.alloc _ _ rfl (World.alloc_heap_new w _)
 have hg2:=hg1.alloc (.loop {state:=.ready,pending:=none,fn:=fn,tmps:=a.tmps,params:=ps,assign:=asg,body:=body,defers:=w.heap.size}) (.loop (w.alloc (.deferred (some []))).heap.size .ready none fn env n ps asg body w.heap.size) rfl ⟨a.tmps,hs.size,hs.env,World.alloc_heap_new _ _⟩
 have hsz1:(w.alloc (.deferred (some []))).heap.size=w.heap.size+1:=World.size_alloc ..
 rw[hsz1]at hg2
 obtain⟨W,hW⟩: ∃W,W=(w.alloc (.deferred (some []))).alloc (.loop {state:=.ready,pending:=none,fn:=fn,tmps:=a.tmps,params:=ps,assign:=asg,body:=body,defers:=w.heap.size}):=⟨_,rfl⟩
 rw[←hW]at hg2
 refine⟨w.heap.size+1,[{target:=.collected w.heap.size,args:=#[]}],W,{target:=.fn (.func f) ws,args:=vs++#[.func (.yield (w.heap.size+1)) #[] #[]]},W,f,vs++#[.func (.yield (w.heap.size+1)) #[] #[]]++ws,W,by rw[hW];exact run_enterLoop_outer _ _ _ _ _,?_,fun _ _=>trivial,?_,fun hd=>(by cases hd),?_⟩
 ·simp only[resolve,hv]
  simp[go_sem]
 ·simp only[invoke]
  exact he _ _
 ·refine callsIn_fence (ro:=none) (((h w.heap.size (w.heap.size+1) fn).run X M _ _ hg2 ?_).mono ?_)
  ·have hy:VRels M [AV.fn (.yield (w.heap.size+1)) [] []] [Value.func (.yield (w.heap.size+1)) #[] #[]]:=by simp[VRels,VRel]
   simpa using(k1.append hy).append k2
  ·rintro e w2 ⟨M2,σ2,r,v,hm,hgd,hrel,rfl,hq⟩
   exact range_end (ro:=none) hm hgd hs.size hs.env (by rw[hs.defs];rfl) hq
end
section
variable {P:Program} {ro:Option Nat} {Q:Exit→St→Prop} {ops:Array Oper} {rest:List Oper} {o:Oper} {env:Env} {σ:List Ent} {mk:List Nat} {n:Nat}
theorem uC{R:AV→List Ent→Prop}{b want:Bool}{d:Nat}(hgd:wK ops o env=some (.bool b,want))(hb:b=want)(hd:o.dst=some d)(hn:Nat.blt d n=true)(hg:GOp P ro o env σ R)(h: ∀v σ',R v σ'→EXL P ro ops rest Q ⟨(d,v)::env,σ',mk,n⟩):EXL P ro ops (o::rest) Q ⟨env,σ,mk,n⟩:=
 exl_want (s:=⟨env,σ,mk,n⟩) hgd hb (dst_ok hd hn) hg (by intro v σ' hr;rw[hd];exact h v σ' hr)
theorem zS{fn:Func}{vs:List AV}{σ1 σ2 σ3:List Ent}{R:AV→List Ent→Prop}(hm:Marks mk σ1 σ2)(hr:Res P env σ2 fn.results.toList vs)(hs:σ3.Sublist σ2)(h:Fin σ3 (oneA vs) R):RetOK P fn R ⟨env,σ1,mk,n⟩:=
 ⟨vs,σ2,hm,hr,fin_drop hs h⟩
end
def Yields(P:Program)(f:FuncId)(first cap:List AV)(xs:List (List AV))(C:List Ent→Prop):Prop:=
 ∀(l:Nat) (σ:List Ent) (I:Nat→List Ent→Prop) (Stop:List Ent→Prop),(∀k σ,I k σ→C σ)→
  (∀k x σ,xs[k]?=some x→I k σ→SRound P l x σ fun r σ'=>(r=.bool true∧I (k+1) σ')∨(r=.bool false∧Stop σ'))→I 0 σ→
  SCall P f (first++[.fn (.yield l) [] []]++cap) σ fun _ σ'=>I xs.length σ'∨Stop σ'
end Go.Proofs.YtaoaafdommlhcaaGreat

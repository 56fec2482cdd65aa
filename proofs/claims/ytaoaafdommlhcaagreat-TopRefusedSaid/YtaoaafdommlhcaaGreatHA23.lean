/- Parts of the proof that belong together: Sdr Ssf. -/
import Derived.Test.YtaoaafdommlhcaaGreatHA10
import Derived.Test.YtaoaafdommlhcaaGreatHA22
import Derived.Lone
import Derived.StepT
import Derived.Calls
import Derived.Shelf.SlSortCmp.WholeK
import Derived.Shelf.SlSortCmp.NoneTotal
set_option maxRecDepth 10000
set_option maxHeartbeats 8000000
set_option linter.unusedSimpArgs false
set_option linter.unusedVariables false
set_option autoImplicit false
namespace Go
def Result.w{α:Type}:Result α→World
 |.ok _ w=>w
 |.halt _ w=>w
theorem ask_drawn{α:Type}: ∀(k:Ask α) (w:World),w.drawn≤(w.ask k).2.drawn
 |.done a,w=>Nat.le_refl _
 |.ask what range k,w=>by
  unfold World.ask
  simp only[]
  split
  ·exact ask_drawn _ w
  ·exact Nat.le_trans (Nat.le_succ _) (ask_drawn _ {w with drawn:=w.drawn+1})
theorem sys_drawn(w:World)(c:Sys):w.drawn≤(w.sys c).2.drawn:=by
 unfold World.sys
 have:=ask_drawn (Kernel.perform c w.os) w
 split
 ·exact Nat.le_refl _
 ·rename_i r os w' h
  rw[h]at this
  exact this
theorem far_drawn{w w':World}{p:Program}{a:Addr}{v:Value}{b:Bool}{c:List Addr}(h:w.farStore p a v b=.ok (w',c)):w'.drawn=w.drawn:=by
 unfold World.farStore at h
 split at h
 ·split at h
  ·rename_i r hr
   cases h
   unfold World.viewStore at hr
   simp only[bind,Except.bind,pure,Except.pure,throw,throwThe,MonadExceptOf.throw]at hr
   repeat' first
    |(cases hr;done)
    |(cases hr;rfl)
    |split at hr
  ·cases h
 ·cases h
theorem run_drawn{α:Type}(p:Program): ∀(m:Sem α) (w:World),w.drawn≤(m.run p w).w.drawn:=by
 intro m
 induction m with
 |pure a=>intro w;exact Nat.le_refl _
 |load m a k ih=>
  intro w;simp only[Sem.run]
  split
  ·exact ih _ w
  ·split
   ·exact ih _ w
   ·exact Nat.le_refl _
 |store m a v k ih=>
  intro w
  cases v<;>simp only[Sem.run]<;>first
   |exact Nat.le_refl _
   |(
     split
     ·split
      ·exact Nat.le_refl _
      ·exact ih (w.setCell a _)
     ·split
      ·rename_i w' c hc
       rw[←far_drawn hc]
       exact ih w'
      ·exact Nat.le_refl _)
 |new o k ih=>intro w;exact ih w.heap.size {w with heap:=w.heap.push o}
 |shape r k ih=>intro w;exact ih _ _
 |freeze a n k ih=>
  intro w;simp only[Sem.run]
  have h1:(w.freeze a n).drawn=w.drawn:=by unfold World.freeze;repeat' first|rfl|split
  rw[←h1];exact ih (w.freeze a n)
 |frozen a k ih=>intro w;exact ih _ _
 |getObj r k ih=>
  intro w;simp only[Sem.run]
  split<;>first|exact Nat.le_refl _|exact ih _ _
 |setObj r o k ih=>
  intro w;simp only[Sem.run]
  split<;>first|exact Nat.le_refl _|exact ih {w with heap:=w.heap.setIfInBounds r o}
 |choose q k ih=>
  intro w;simp only[Sem.run]
  split
  ·exact ih _ _
  ·exact Nat.le_trans (Nat.le_succ _) (ih _ {w with drawn:=w.drawn+1})
 |sys c k ih=>intro w;exact Nat.le_trans (sys_drawn w c) (ih _ _)
 |program k ih=>intro w;exact ih _ _
 |mark m k ih=>intro w;exact ih _
 |halt h=>intro w;exact Nat.le_refl _
def GStep.w:GStep→World
 |.go _ w _=>w
 |.comm _ _ _ _ w _=>w
 |.spawn _ _ w _=>w
 |.count _ w _=>w
 |.timer _ _ w _=>w
 |.alone _ _ w _=>w
 |.newcoro _ _ _ w _=>w
 |.coroswitch _ _ _ w _=>w
 |.collect _ w _=>w
 |.watch _ w _=>w
 |.ended _ w _=>w
theorem after_w(es:Array Event)(s:GStep):(GStep.after es s).w=s.w:=by cases s<;>rfl
theorem jX(p:Program)(main:Bool)(fr:Frame)(callers:List Frame)(dying:Option Dying)(v:Value)(w:World):(doReturn p main fr callers dying v w).w=w:=by
 unfold doReturn
 repeat' first
  |rfl
  |split
theorem endPrinting_drawn(p:Program)(fr:Frame)(v:Value)(w:World):(endPrinting p fr v w).w=w:=by
 unfold endPrinting
 simp only[]
 repeat' first
  |rfl
  |split
theorem xW{α:Type}{p:Program}{m:Sem α}{w w':World}{a:α}(h:m.run p w=.ok a w'):w.drawn≤w'.drawn:=by have:=run_drawn p m w;rw[h]at this;exact this
theorem qD{α:Type}{p:Program}{m:Sem α}{w w':World}{a:Halt}(h:m.run p w=.halt a w'):w.drawn≤w'.drawn:=by have:=run_drawn p m w;rw[h]at this;exact this
theorem endFatal_drawn(p:Program)(fr:Frame)(callers:List Frame)(dying:Option Dying)(m:String)(w:World):w.drawn≤(endFatal p fr callers dying m w).w.drawn:=by
 unfold endFatal
 simp only[]
 split
 ·rename_i h;exact xW h
 ·rename_i h;exact qD h
 ·rename_i h;exact qD h
theorem endWith_drawn(w:World)(fd:Nat)(text:ByteArray)(o:Outcome):w.drawn≤(endWith w fd text o).w.drawn:=by
 unfold endWith
 simp only[]
 have:=sys_drawn w (.write fd text)
 split<;>(rename_i h;rw[h]at this;try split)<;>exact this
theorem runT_drawn{α:Type}(p:Program)(m:Sem α)(w:World)(es:Array Event):w.drawn≤(m.runT p w es).1.w.drawn:=by rw[Sem.runT_fst];exact run_drawn p m w
theorem runT_eq{α:Type}{p:Program}{m:Sem α}{w:World}{es es':Array Event}{r:Result α}(h:m.runT p w es=(r,es')):w.drawn≤r.w.drawn:=by have:=runT_drawn p m w es;rw[h]at this;exact this
theorem writeOn_drawn(p:Program)(fr:Frame)(d:Dying)(f:Fatal)(w:World):w.drawn≤(writeOn p fr d f w).w.drawn:=by
 unfold writeOn
 simp only[]
 split
 ·exact Nat.le_refl _
 ·split
  all_goals
   rename_i h
   exact runT_eq h
theorem die_drawn(p:Program)(fr:Frame)(d:Dying)(w:World):w.drawn≤(die p fr d w).w.drawn:=by
 unfold die
 simp only[]
 split
 ·exact writeOn_drawn _ _ _ _ _
 ·split
  ·split
   ·exact Nat.le_refl _
   ·exact endWith_drawn _ _ _ _
  ·split
   ·exact Nat.le_refl _
   ·split
    ·rename_i h;exact xW h
    ·rename_i h;exact qD h
   ·rw[after_w]
    have h2:=runT_drawn p (invoke (.fn (.method ‹String›) #[]) #[.iface ‹TypeId› ‹Value›]) w #[]
    split
    all_goals
     rename_i h
     first
      |(rw[endPrinting_drawn];exact qD ((Sem.runT_fst _ _ _ _).symm.trans h))
      |exact xW ((Sem.runT_fst _ _ _ _).symm.trans h)
      |exact qD ((Sem.runT_fst _ _ _ _).symm.trans h)
      |exact Nat.le_refl _
   ·exact Nat.le_refl _
theorem run_ok2{α:Type}{p:Program}{m:Sem α}{w w':World}{es:Array Event}{a:α}(h:(m.runT p w es).1=.ok a w'):w.drawn≤w'.drawn:=xW ((Sem.runT_fst _ _ _ _).symm.trans h)
theorem run_halt2{α:Type}{p:Program}{m:Sem α}{w w':World}{es:Array Event}{a:Halt}(h:(m.runT p w es).1=.halt a w'):w.drawn≤w'.drawn:=qD ((Sem.runT_fst _ _ _ _).symm.trans h)
theorem callDeferred_drawn(p:Program)(fr:Frame)(callers:List Frame)(dying:Option Dying)(d:Deferred)(w:World):w.drawn≤(callDeferred p fr callers dying d w).w.drawn:=by
 unfold callDeferred
 simp only[]
 have h0:=runT_drawn p (invoke d.target d.args) w #[]
 generalize (Sem.runT p (invoke d.target d.args) w #[])=R at h0 ⊢
 obtain⟨r,es⟩:=R
 dsimp only at h0 ⊢
 repeat' (first|exact Nat.le_refl _|rw[after_w]|split)
 all_goals first
  |exact h0
  |exact Nat.le_trans h0 (endFatal_drawn _ _ _ _ _ _)
theorem unwind_drawn(p:Program)(main:Bool)(fr:Frame)(callers:List Frame)(dying:Option Dying)(w:World):w.drawn≤(unwind p main fr callers dying w).w.drawn:=by
 unfold unwind
 simp only[]
 split
 ·rw[after_w]
  split
  ·rename_i h;exact run_ok2 h
  ·rename_i h;exact run_halt2 h
 ·exact callDeferred_drawn _ _ _ _ _ _
 ·split
  ·exact Nat.le_refl _
  ·split
   ·exact Nat.le_refl _
   ·split
    ·exact Nat.le_refl _
    ·split
     ·split
      ·exact Nat.le_refl _
      ·split
       ·rename_i h;exact xW h
       ·rename_i h;exact qD h
       ·rename_i h;exact qD h
     ·split
      ·rw[endPrinting_drawn];exact Nat.le_refl _
      ·exact Nat.le_refl _
  ·split
   ·rw[jX];exact Nat.le_refl _
   ·rw[after_w]
    split
    ·rename_i h;rw[jX];exact run_ok2 h
    ·rename_i h;exact run_halt2 h
    ·rename_i h;exact run_halt2 h
theorem early_drawn(p:Program)(fr:Frame)(callers:List Frame)(dying:Option Dying)(g:Nat)(w:World):w.drawn≤(early p fr callers dying g w).w.drawn:=by
 have key: ∀(w:World) (s:String),(match w.heap[g]? with
  |some (.pending c elem)=>GStep.go {frame:=fr,callers,status:=.running,dying} {w with heap:=w.heap.setIfInBounds g (.cells c elem)}
  |_=>.ended (.stuck s (fr.pos p)) w).w.drawn=w.drawn:=fun w s=>by split<;>rfl
 unfold early
 simp only[]
 repeat' first
  |exact Nat.le_refl _
  |exact Nat.le_of_eq (key _ _).symm
  |(rename_i h;exact Nat.le_trans (xW h) (Nat.le_of_eq (key _ _).symm))
  |(rename_i h;exact xW h)
  |(rename_i h;exact qD h)
  |split
theorem apply_drawn(p:Program)(listen:Bool)(fr:Frame)(callers:List Frame)(dying:Option Dying)(s:Sem Next)(w:World):w.drawn≤(stepG.apply p listen fr callers dying s w).w.drawn:=by
 unfold stepG.apply
 simp only[]
 rw[after_w]
 have key: ∀(r:Result Next) (es:Array Event),(if listen=true then s.runT p w #[]else (s.run p w,#[]))=(r,es)→w.drawn≤r.w.drawn:=fun r es h=>by
  split at h
  ·exact runT_eq h
  ·cases h;exact run_drawn _ _ _
 generalize hR:(if listen=true then s.runT p w #[]else (s.run p w,#[]))=R
 obtain⟨r,es⟩:=R
 have h0:=key r es hR
 clear key hR
 dsimp only
 revert h0
 cases r with
 |ok nx w'=>
  intro h0
  cases nx<;>(try simp only[])<;>first
   |exact h0
   |(repeat' first|exact h0|split)
 |halt hl w'=>
  intro h0
  cases hl<;>(try simp only[])<;>first
   |exact h0
   |exact Nat.le_trans h0 (endFatal_drawn _ _ _ _ _ _)
   |(rename_i u;cases u<;>(try simp only[])<;>first|exact h0|exact Nat.le_trans h0 (early_drawn _ _ _ _ _ _))
theorem oper_drawn(p:Program)(listen:Bool)(fr:Frame)(callers:List Frame)(dying:Option Dying)(w:World):w.drawn≤(stepG.oper p listen fr callers dying w).w.drawn:=by
 unfold stepG.oper
 split
 ·exact Nat.le_refl _
 ·split<;>exact apply_drawn _ _ _ _ _ _ _
theorem exec_drawn(p:Program)(main listen:Bool)(fr:Frame)(callers:List Frame)(dying:Option Dying)(w:World):w.drawn≤(stepG.exec p main listen fr callers dying w).w.drawn:=by
 have hleave: ∀jump:Option Code,w.drawn≤(match fr.roundOf with
   |none=>if jump matches none|some .ret then GStep.go {frame:={fr with mode:=.returning},callers,status:=.running,dying} w else .ended (.stuck "exit, goto: no such block or label" (fr.pos p)) w
   |some l=>
    GStep.after (seen p fr.fn ((Instr.endRound l jump).runT p w #[]).2)<|match ((Instr.endRound l jump).runT p w #[]).1 with
    |.ok v w=>doReturn p main fr callers dying v w
    |.halt _ w=>.ended (.stuck "range tU a function: no such loop" (fr.pos p)) w).w.drawn:=fun jump=>by
  split
  ·repeat' first|exact Nat.le_refl _|split
  ·rw[after_w]
   split
   ·rw[jX];exact run_ok2 (by assumption)
   ·exact run_halt2 (by assumption)
 unfold stepG.exec
 simp only[]
 split
 all_goals first
  |exact Nat.le_refl _
  |exact hleave _
  |exact apply_drawn _ _ _ _ _ _ _
  |skip
 all_goals
  repeat' first
   |exact Nat.le_refl _
   |exact hleave _
   |exact apply_drawn _ _ _ _ _ _ _
   |exact oper_drawn _ _ _ _ _ _
   |rw[after_w]
   |exact run_ok2 (by assumption)
   |(rw[jX];exact run_ok2 (by assumption))
   |exact run_halt2 (by assumption)
   |exact xW (by assumption)
   |exact qD (by assumption)
   |exact Nat.le_trans (run_ok2 (by assumption)) (apply_drawn _ _ _ _ _ _ _)
   |(unfold Option.elim)
   |split
theorem stepG_drawn(p:Program)(main:Bool)(g:Goroutine)(w:World)(listen:Bool):w.drawn≤(stepG p main g w listen).w.drawn:=by
 unfold stepG
 obtain⟨fr,callers,st,dying,off⟩:=g
 simp only[]
 split
 ·exact die_drawn _ _ _ _
 ·exact exec_drawn _ _ _ _ _ _ _
 ·exact unwind_drawn _ _ _ _ _ _
theorem waitingAt_drawn{rest:Rest}{cases:Array CommCase}{w w':World}(h:waitingAt rest cases w=some w'):w'.drawn=w.drawn:=by
 unfold waitingAt at h
 repeat' first
  |(cases h;done)
  |(cases h;rfl)
  |split at h
theorem communicate_drawn(p:Program)(rest:Rest)(gs:Array Goroutine)(i:Nat)(g:Goroutine)(cases:Array CommCase)(blocking:Bool)
  (shape:CommShape) (w:World) (m':Machine) (h:(communicate p rest gs i g cases blocking shape w).1=.next m'):w.drawn≤m'.world.drawn:=by
 unfold communicate at h
 simp only[]at h
 repeat' first
  |(simp at h;done)
  |(simp only[Stepped.next.injEq]at h;subst h;(try dsimp only);first|exact Nat.le_refl _|exact Nat.le_of_eq (waitingAt_drawn (by assumption)).symm|exact xW (by assumption)|exact Nat.le_trans (xW (by assumption)) (qD (by assumption))|exact Nat.le_trans (xW (by assumption)) (xW (by assumption));done)
  |split at h
theorem look_drawn(p:Program)(gs:Array Goroutine)(rest:Rest)(w:World)(m':Machine)
  (h:look p gs rest w=.next m'):w.drawn≤m'.world.drawn:=by
 unfold look at h
 simp only[]at h
 repeat' first
  |(simp at h;done)
  |(simp only[Stepped.next.injEq]at h;subst h;(try dsimp only);exact xW (by assumption))
  |split at h
theorem drain_drawn(w:World)(c:Nat):(drain w c).2.drawn=w.drawn:=by
 unfold drain
 split<;>rfl
theorem retime_drawn(m:Machine)(k:Nat)(t:Timer)(when period:Nat):(retime m k t when period).2.world.drawn=m.world.drawn:=by
 unfold retime
 simp only[]
 split
 ·exact drain_drawn _ _
 ·rfl
theorem timerOp_drawn(m:Machine)(op:TimerOp)(v:Value)(m':Machine)(h:timerOp m op=.ok (v,m')):m'.world.drawn=m.world.drawn:=by
 have hop: ∀var m2,timerOp.opened m var=some m2→m2.world.drawn=m.world.drawn:=fun var m2 h=>by
  unfold timerOp.opened at h
  repeat' first
   |(cases h;done)
   |(cases h;rfl)
   |split at h
 have hnm: ∀var (m0:Machine) (f:Nat→Timer→Value×Machine),(∀k t,(f k t).2.world.drawn=m0.world.drawn)→ ∀v m',timerOp.named m var f=.ok (v,m')→m'.world.drawn=m0.world.drawn:=fun var m0 f hf v m' h=>by
  unfold timerOp.named at h
  split at h
  ·rename_i k _
   have h2:=hf k (m.rest.timers.getD k default)
   rw[Except.ok.inj h]at h2
   exact h2
  ·cases h
 unfold timerOp at h
 repeat' first
  |(cases h;done)
  |(cases h;rfl)
  |exact hnm _ m _ (fun k t=>retime_drawn _ _ _ _ _) _ _ h
  |exact(hnm _ _ _ (fun k t=>retime_drawn _ _ _ _ _) _ _ h).trans (hop _ _ (by assumption))
  |split at h
theorem throw_eq{fr:Frame}{s:String}{w w':World}{g:Goroutine}{es:Array Event}(h:endThrow fr s w=.go g w' es):w.drawn=w'.drawn:=congrArg World.drawn (congrArg GStep.w h)
theorem runTm_drawn(p:Program)(m m':Machine)(i:Nat)(b:Bool)(h:(runT p m i b).1=.next m'):m.world.drawn≤m'.world.drawn:=by
 simp only[runT]at h
 revert h
 generalize m.gs.swapAt! _ _=gg
 have hs:=stepG_drawn p (i==0) gg.1 m.world b
 generalize stepG p _ gg.1 m.world b=s at hs
 intro h
 cases s<;>simp only[]at h
 all_goals
  simp only[GStep.w]at hs
  refine Nat.le_trans hs ?_
  first
   |(simp at h;done)
   |exact communicate_drawn _ _ _ _ _ _ _ _ _ _ h
   |exact look_drawn _ _ _ _ _ h
   |(simp only[Stepped.next.injEq]at h;subst h;exact Nat.le_refl _)
   |(repeat' first
    |(simp at h;done)
    |(simp only[Stepped.next.injEq]at h;subst h;(try dsimp only);first|exact Nat.le_refl _|exact Nat.le_of_eq (timerOp_drawn _ _ _ _ (by assumption)).symm|exact Nat.le_of_eq (throw_eq (by assumption));done)
    |split at h)
theorem serve_drawn(p:Program)(m m':Machine)(k:Nat)(h:serve p m k=.next m'):m.world.drawn≤m'.world.drawn:=by
 unfold serve at h
 simp only[]at h
 repeat' first
  |(simp at h;done)
  |(simp only[Stepped.next.injEq]at h;subst h;exact Nat.le_refl _)
  |split at h
theorem run_adv{α:Type}{p:Program}{s:Sem α}{m:Machine}{t:Nat}{w':World}{a:α}(h:s.run p (m.advanceTo t).world=.ok a w'):m.world.drawn≤w'.drawn:=by
 have h2:=xW h
 simpa [Machine.advanceTo]using h2
theorem askOn_drawn(p:Program)(m m':Machine)(ops:Array MemOp)(h:askOn p m=.machine (.next m') ops):m.world.drawn≤m'.world.drawn:=by
 unfold askOn at h
 simp only[]at h
 repeat' first
  |(simp at h;done)
  |(simp only[Move.machine.injEq]at h;exact Nat.le_trans (xW (by assumption)) (serve_drawn _ _ _ _ h.1))
  |(simp only[Move.machine.injEq,Stepped.next.injEq]at h;obtain⟨rfl,_⟩:=h;simp only[Machine.advanceTo];first|exact(xW (by assumption))|exact(Nat.le_trans (xW (by assumption)) (xW (by assumption)))|exact(Nat.le_trans (xW (by assumption)) (Nat.le_trans (xW (by assumption)) (xW (by assumption))))|exact(Nat.le_trans (xW (by assumption)) (Nat.le_trans (xW (by assumption)) (Nat.le_trans (xW (by assumption)) (xW (by assumption)))));done)
  |split at h
theorem askOn_go_drawn(p:Program)(m m':Machine)(i:Nat)(h:askOn p m=.goroutine m' i):m.world.drawn≤m'.world.drawn:=by
 unfold askOn at h
 simp only[]at h
 repeat' first
  |(simp at h;done)
  |(simp only[Move.goroutine.injEq]at h;obtain⟨hm,hi⟩:=h;rw[←hm];first|(have h9:=run_adv (p:=p) (by assumption);dsimp only at h9;first|exact Nat.le_trans (xW (by assumption)) h9|exact Nat.le_trans (xW (by assumption)) (Nat.le_trans (xW (by assumption)) h9)|exact Nat.le_trans (xW (by assumption)) (Nat.le_trans h9 (xW (by assumption)))|exact Nat.le_trans (xW (by assumption)) (Nat.le_trans (xW (by assumption)) (Nat.le_trans h9 (xW (by assumption)))))|exact(xW (by assumption))|exact(Nat.le_trans (xW (by assumption)) (xW (by assumption)))|exact(Nat.le_trans (xW (by assumption)) (Nat.le_trans (xW (by assumption)) (xW (by assumption))))|exact(Nat.le_trans (xW (by assumption)) (Nat.le_trans (xW (by assumption)) (Nat.le_trans (xW (by assumption)) (xW (by assumption)))));done)
  |split at h
theorem ask_step_drawn(p:Program)(m:Machine):(∀m' i,ask p m=.goroutine m' i→m.world.drawn≤m'.world.drawn)∧ ∀m' ops,ask p m=.machine (.next m') ops→m.world.drawn≤m'.world.drawn:=by
 have key: ∀m2:Machine,m.world.drawn≤m2.world.drawn→(∀m' i,askOn p m2=.goroutine m' i→m.world.drawn≤m'.world.drawn)∧ ∀m' ops,askOn p m2=.machine (.next m') ops→m.world.drawn≤m'.world.drawn:=fun m2 h=>
  ⟨fun m' i h2=>Nat.le_trans h (askOn_go_drawn p m2 m' i h2),fun m' ops h2=>Nat.le_trans h (askOn_drawn p m2 m' ops h2)⟩
 unfold ask
 split
 ·split
  ·exact⟨fun _ _ h=>(by cases h),fun _ _ h=>(by cases h)⟩
  ·rename_i w hr
   split
   ·rename_i m2 hl
    exact key m2 (Nat.le_trans (xW hr) (look_drawn _ _ _ _ _ hl))
   ·rename_i e he
    refine⟨fun _ _ h=>(by cases h),fun m' ops h=>?_⟩
    simp only[Move.machine.injEq]at h
    exact absurd h.1 (he m')
  ·rename_i hr
   exact key _ (by first|exact xW (by assumption)|exact Nat.le_trans (xW (by assumption)) (Nat.le_refl _))
 ·exact key m (Nat.le_refl _)
theorem move_drawn(p:Program)(m:Machine):(∀m' i,move p m=.goroutine m' i→m.world.drawn≤m'.world.drawn)∧ ∀m' ops,move p m=.machine (.next m') ops→m.world.drawn≤m'.world.drawn:=by
 unfold move
 repeat' first
  |exact ask_step_drawn p _
  |exact⟨fun _ _ h=>(by cases h<;>exact Nat.le_refl _),fun _ _ h=>(by cases h)⟩
  |split
theorem step_drawn{p:Program}{m m':Machine}(h:step p m=.next m'):m.world.drawn≤m'.world.drawn:=by
 obtain⟨h1,h2⟩:=move_drawn p m
 unfold step stepT at h
 split at h
 ·rename_i m1 i hm
  exact Nat.le_trans (h1 m1 i hm) (runTm_drawn p m1 m' i _ h)
 ·rename_i s ops hm
  dsimp only at h
  subst h
  exact h2 m' ops hm
theorem steps_drawn{p:Program}{m m':Machine}(h:Steps p m m'):m.world.drawn≤m'.world.drawn:=by
 obtain⟨n,hn⟩:=h
 induction n generalizing m with
 |zero=>simp only[runN]at hn;cases hn;exact Nat.le_refl _
 |succ n ih=>
  simp only[runN]at hn
  split at hn
  ·rename_i m1 h1;exact Nat.le_trans (step_drawn h1) (ih hn)
  ·rename_i e he;exact(he m' hn).elim
theorem Calls.drew{p:Program}{f:FuncId}{args:Array Value}{w:World}{R:Ending→World→Prop}(h:Calls p f args w R):Calls p f args w fun e w'=>R e w'∧(e=.outgrown∨w.drawn≤w'.drawn):=fun cs=>by
 obtain⟨e,w',fr,h1,h2,h3,h4⟩:=h cs
 refine⟨e,w',fr,⟨h1,?_⟩,h2,h3,h4⟩
 cases e with
 |outgrown=>exact .inl rfl
 |returned v=>exact .inr (steps_drawn h2)
 |panicked c=>exact .inr (steps_drawn h2)
end Go
open Go.Proofs.Tryz
namespace Go.Proofs.YtaoaafdommlhcaaGreat
open Go.Shelf Go.Sort Go.RowKit
theorem flat_lenK{α:Type}{enc:α→List Value}{k:Nat}(hk: ∀x,(enc x).length=k): ∀d:List α,(d.flatMap enc).length=d.length*k
 |[]=>by simp
 |x::d=>by
  rw[List.flatMap_cons,List.length_append,flat_lenK hk d,List.length_cons,hk,Nat.add_mul]
  omega
section
variable {P:Program} {ρ:Ren} {α:Type} [Inhabited α]
/-- A comparator's contract makes it fit for the sort. -/
theorem lays_of{g:FuncId}{cb:List AV}{cbv:Array Value}{enc:α→List Value}{av:α→List AV}{k:Nat}{cf:α→α→Int}{X:Fx}{M:Mem}{e:Ent}{σ:List Ent}{w:World}{blk:Nat}{size:Nat}
  (hg:Good X M (e::σ) w) (he:e.block=some blk) (hrel: ∀(M:Mem) x vs,vs=enc x→VRels M (av x) vs) (hcb:VRels M cb cbv.toList)
  (hcmp: ∀x y,SCall P g (.agg (av x)::.agg (av y)::cb) [] (Is (.int .i64 (cf x y)) [])):CmpLays P g cbv enc k cf blk 0 size w:=by
 intro m os dk _ x y
 have hW: ∀b,b<w.heap.size→b≠blk→(sortWorldK enc k w blk 0 m dk os).heap[b]?=w.heap[b]?:=by
  intro b hb hne
  unfold sortWorldK
  rw[Sort.heap_grow_old _ _ (by simpa [putRowK,putRow,mapBlock,Sort.ahead]using hb)]
  simp[putRowK,putRow,mapBlock,Sort.ahead,Array.getElem?_modify,Ne.symm hne]
 generalize sortWorldK enc k w blk 0 m dk os=W at hW ⊢
 have hM:M blk=none:=(hg.own e (.head _) blk he).1
 have hg':Good {w0:=W,fr:=fun b=>if (M b).isSome then none else W.heap[b]?} M [] W:=by
  refine⟨rfl,rfl,rfl,fun b o hb=>?_,fun b o hb=>?_,fun b o hb=>?_,fun _ h=>(nomatch h),fun _ h=>(nomatch h),.nil⟩
  ·have h1:=hg.mem b o hb
   have hlt:=(Array.getElem?_eq_some_iff.1 h1).1
   rw[hW b hlt (fun h=>by subst h;rw[hM]at hb;cases hb)]
   exact h1
  ·dsimp only at hb
   split at hb
   ·cases hb
   ·exact hb
  ·dsimp only
   rw[hb]
   rfl
 have ha:VRels M (AV.agg (av x)::AV.agg (av y)::cb) (#[Value.agg (enc x).toArray,Value.agg (enc y).toArray]++cbv).toList:=by
  simp only[Array.toList_append,List.cons_append,List.nil_append,VRels,VRel]
  refine⟨_,_,rfl,⟨_,rfl,hrel M x _ rfl⟩,_,_,rfl,⟨_,rfl,hrel M y _ rfl⟩,hcb⟩
 refine((hcmp x y).run _ M W _ hg' ha).drew.mono ?_
 rintro en w' ⟨⟨M',σ',r,v,h1,h2,h3,rfl,rfl,rfl⟩,h6⟩
 have hd:W.drawn≤w'.drawn:=by
  rcases h6 with h|h
  ·cases h
  ·exact h
 simp only[VRel]at h3
 subst h3
 refine⟨rfl,w'.drawn-W.drawn,w'.heap.extract W.heap.size w'.heap.size,?_⟩
 have hb: ∀(b:Nat) (o:Obj),W.heap[b]?=some o→w'.heap[b]?=some o:=by
  intro b o hb
  cases hm:M b with
  |none=>exact h2.frm b o (by dsimp only;rw[hm];simpa using hb)
  |some o'=>
   have k1:=hg'.mem b o' hm
   rw[hb]at k1
   cases k1
   exact h2.mem b o (h1 b o hm)
 have hs:W.heap.size≤w'.heap.size:=by
  rcases Nat.lt_or_ge w'.heap.size W.heap.size with hlt|hge
  ·have k1:=hb w'.heap.size _ (Array.getElem?_eq_getElem hlt)
   have k2:=(Array.getElem?_eq_some_iff.1 k1).1
   omega
  ·exact hge
 have hh:w'.heap=W.heap++w'.heap.extract W.heap.size w'.heap.size:=by
  apply Array.ext_getElem?
  intro i
  rw[Array.getElem?_append]
  split
  ·rename_i hi
   exact(hb i _ (Array.getElem?_eq_getElem hi)).trans (Array.getElem?_eq_getElem hi).symm
  ·rename_i hi
   simp only[Array.getElem?_extract]
   split
   ·congr 1;omega
   ·exact Array.getElem?_eq_none (by omega)
 have a1:=h2.os
 have a2:=h2.tape
 have a3:=h2.output
 obtain⟨hp,tp,dr,os,out⟩:=w'
 dsimp only at a1 a2 a3 hd hs hh ⊢
 subst a1 a2 a3
 rw[←show W.drawn+(dr-W.drawn)=dr by omega]
 unfold grow World.drewN
 dsimp only
 rw[←hh,show W.drawn+(dr-W.drawn)-W.drawn=dr-W.drawn by omega]
theorem flat_listK{enc:α→List Value}{k:Nat}(k0:0<k)(hk: ∀x,(enc x).length=k)(d:List α):(flatK enc k d.toArray).toList=d.flatMap enc:=by
 have hlen:=flat_lenK hk d
 apply List.ext_getElem
 ·simp[hlen]
 ·intro t h1 h2
  have ht:t<d.length*k:=by rw[←hlen];exact h2
  have hget: ∀(d:List α) (q r:Nat) (hq:q<d.length),r<k→(d.flatMap enc)[q*k+r]?=(enc d[q])[r]?:=by
   intro d
   induction d with
   |nil=>intro q r hq;simp at hq
   |cons x d ih=>
    intro q r hq hr
    rw[List.flatMap_cons]
    cases q with
    |zero=>rw[List.getElem?_append_left (by rw[hk];omega)];simp
    |succ q=>
     rw[List.getElem?_append_right (by rw[hk,Nat.add_mul];omega),show (q+1)*k+r-(enc x).length=q*k+r by rw[hk,Nat.add_mul];omega,ih q r (by simpa using hq) hr]
     simp
  have hq:t/k<d.length:=Nat.div_lt_of_lt_mul (by rwa [Nat.mul_comm])
  have hr:t%k<k:=Nat.mod_lt _ k0
  have h3:=hget d (t/k) (t%k) hq hr
  rw[show t/k*k+t%k=t by rw[Nat.mul_comm];exact Nat.div_add_mod t k,List.getElem?_eq_getElem h2]at h3
  have h4:(flatK enc k d.toArray).toList[t]=(enc d[t/k])[t%k]!:=by
   simp[flatK,hq]
  rw[h4]
  have h5:(enc d[t/k])[t%k]?=some ((enc d[t/k])[t%k]!):=by
   rw[List.getElem!_eq_getElem?_getD]
   cases h6:(enc d[t/k])[t%k]? with
   |none=>rw[h6]at h3;cases h3
   |some z=>rfl
  rw[h5]at h3
  exact(Option.some.inj h3).symm
theorem holds_blockK{enc:α→List Value}{k:Nat}(k0:0<k)(hk: ∀x,(enc x).length=k){w:World}{g:Nat}{cur:Array Value}{e:TypeId}{d:List α}(hb:w.heap[g]?=some (.cells cur e (0,0)))(ht:cur.toList.take (d.length*k)=d.flatMap enc):HoldsK enc k w g 0 d.toArray:=by
 intro j hj
 have hj':j<d.length*k:=by simpa using hj
 refine⟨?_,by simp[World.frozen?,hb]⟩
 have h1:(cur.toList.take (d.length*k))[j]?=(d.flatMap enc)[j]?:=by rw[ht]
 rw[List.getElem?_take_of_lt hj',←flat_listK k0 hk]at h1
 have h2:(flatK enc k d.toArray)[j]?=some ((flatK enc k d.toArray)[j]!):=by
  rw[getElem!_pos _ j hj];exact Array.getElem?_eq_getElem hj
 simp only[World.cell?,hb,Nat.zero_add]
 rw[Array.getElem?_toList]at h1
 simpa [h2]using h1
theorem take_putN'(cur:Array Value)(F:Array Value)(h:F.size≤cur.size):(putCells id 0 F cur).toList.take F.size=F.toList:=by
 apply List.ext_getElem?
 intro j
 by_cases hj:j<F.size
 ·rw[List.getElem?_take_of_lt hj]
  simp only[putCells,Array.getElem?_toList]
  have hc:j<cur.size:=by omega
  simp[hj,hc]
 ·rw[List.getElem?_eq_none (by simp;omega),List.getElem?_eq_none (by simp;omega)]
theorem heap_K{w:World}{g n:Nat}{e:TypeId}{os:Array Obj}{cur:Array Value}(F:Array Value)(hb:w.heap[g]?=some (.cells cur e (0,0))):(grow (putRow id (Sort.ahead w n) g 0 F) os).heap[g]?=some (.cells (putCells id 0 F cur) e (0,0)):=by
 have hlt:=(Array.getElem?_eq_some_iff.1 hb).1
 rw[Sort.heap_grow_old _ _ (by simpa [putRow,mapBlock,Sort.ahead]using hlt)]
 simp[putRow,mapBlock,Sort.ahead,Array.getElem?_modify,hb,onCells]
theorem grownBy_K{w:World}{g n:Nat}{os:Array Obj}(F:Array Value):w.grownBy (grow (putRow id (Sort.ahead w n) g 0 F) os) (some g):=by
 refine⟨rfl,rfl,rfl,by simp[grow,putRow,mapBlock,Sort.ahead],fun k hk hne=>?_⟩
 rw[Sort.heap_grow_old _ _ (by simpa [putRow,mapBlock,Sort.ahead]using hk)]
 have:g≠k:=fun e=>hne (by rw[e])
 simp[putRow,mapBlock,Sort.ahead,Array.getElem?_modify,this]
/-- slices.SortFunc on an owned row of structs whose cells are plain. -/
theorem sortK_c(L:SlLaysF0.n6 P ρ){k:Nat}(k0:0<k)(aE: ∀w,(isAgg (ρ.t 24)).run P w=.ok true w)(zE: ∀w,(Go.sizeOf (ρ.t 24)).run P w=.ok k w){enc:α→List Value}{av:α→List AV}(hk: ∀x,(enc x).length=k)(h1: ∀x,∀v∈enc x,v.oneCell'=true)
  (hrel: ∀(M:Mem) x vs,vs=enc x→VRels M (av x) vs) (hlis: ∀(M:Mem) (l:List α) vs,VRels M (l.map av).flatten vs↔vs=l.flatMap enc) (hav: ∀x,(av x).length=k) {cf:α→α→Int} (hO:SWO (ltOf cf)) {g:FuncId} (eg: ∀args w,(callFunc g args).run P w=.ok (.enter g args) w)
  {cb:List AV} (hcmp: ∀x y,SCall P g (.agg (av x)::.agg (av y)::cb) [] (Is (.int .i64 (cf x y)) [])) {T:TypeId} {l:List α} {v:Value} {σ:List Ent} (hb:l.length<4611686018427387904):
  SCall P (ρ.f 6) [.slv v,.fn (.func g) [] cb] (.row v T k (l.map av)::σ) (fun r τ=>r=.tup []∧ ∃S:List α,S.Perm l∧S.Pairwise (fun a b=>ltOf cf b a=false)∧τ=.row v T k (S.map av)::σ):=by
 by_cases hL0:l=[]
 ·subst hL0
  refine⟨fun X M w vs hg ha=>?_⟩
  simp only[VRels,VRel]at ha
  obtain⟨u,r,hvs,⟨rfl,hsl⟩,u2,r2,rfl,⟨ws1,ws2,rfl,hw1,hw2⟩,rfl⟩:=ha
  obtain rfl:vs=#[u,.func (.func g) ws1 ws2]:=by cases vs;simp at hvs;rw[hvs]
  obtain⟨xs,hown,hrl,hs⟩:=hg.ent _ (List.Mem.head _)
  have hu: ∃p cap,u=.slice p 0 cap:=by
   rcases hown.2 with⟨rfl,h0⟩|⟨g,cap,cur,rfl,_⟩
   ·exact⟨none,0,rfl⟩
   ·exact⟨_,cap,rfl⟩
  obtain⟨p,cap,rfl⟩:=hu
  have hcon:=AnyF.slices_SortFunc_none L p cap (.func (.func g) ws1 ws2) w
  refine Calls.mono hcon ?_
  rintro e' w' ⟨rfl,rfl⟩
  exact⟨M,_,.tup [],_,Mem.le_refl M,hg,by simp only[VRel];exact⟨#[],rfl,by simp[VRels]⟩,rfl,rfl,[],List.Perm.refl _,.nil,rfl⟩
 refine⟨fun X M w vs hg ha=>?_⟩
 simp only[VRels,VRel]at ha
 obtain⟨u,r,hvs,⟨rfl,hsl⟩,u2,r2,rfl,⟨ws1,ws2,rfl,hw1,hw2⟩,rfl⟩:=ha
 obtain rfl:ws1=#[]:=by cases ws1;simp at hw1;rw[hw1]
 obtain rfl:vs=#[u,.func (.func g) #[] ws2]:=by cases vs;simp at hvs;rw[hvs]
 obtain⟨xs,hown,hrl,hs⟩:=hg.ent _ (List.Mem.head _)
 obtain rfl:=(hlis M l xs).1 hrl
 simp only[List.length_map]at hown
 rcases hown.2 with⟨rfl,h0⟩|⟨b,cap,cur,rfl,hb0,hgg,hnc,hcm,hcs,htk⟩
 ·exact absurd (List.eq_nil_of_length_eq_zero h0) hL0
 ·have hH:=holds_blockK (d:=l) k0 hk hgg htk
  have hlay:CmpLays P g ws2 enc k cf b 0 l.toArray.size w:=lays_of hg (by simp[Ent.block,Value.ownBlock]) hrel hw2 hcmp
  have hcon:=AnyQ.slices_SortFunc L k aE zE enc hk h1 cf hO g ws2 b 0 cap l.toArray w eg hlay hH (Array.getElem?_eq_some_iff.1 hgg).1 (by simpa using hb)
  rw[show l.toArray.size=l.length by simp]at hcon
  refine Calls.mono hcon ?_
  rintro e' w' ⟨rfl,d',n,os,hp,hsd,rfl⟩
  have hsz:d'.size=l.length:=by have:=hp.1;simp at this;exact this
  have hperm:d'.toList.Perm l:=by
   have h3:=hp.2.2
   rw[←hsz]at h3
   have e4:(d'.extract 0 d'.size).toList=d'.toList:=by simp
   have e5:((l.toArray).extract 0 d'.size).toList=l:=by
    rw[show d'.size=l.toArray.size by rw[hsz];simp]
    simp[List.take_of_length_le]
   rwa [e4,e5]at h3
  have hd':d'=d'.toList.toArray:=by simp
  have hS:d'.toList.Pairwise (fun a b:α=>ltOf cf b a=false):=by
   rw[List.pairwise_iff_getElem]
   intro i j hi hj hij
   simp only[Array.length_toList]at hi hj
   have h3:=hsd i j (Nat.zero_le _) hij (by omega)
   rw[getElem!_pos d' i hi,getElem!_pos d' j hj]at h3
   simpa using h3
  have hfl:(flatK enc k d').toList=d'.toList.flatMap enc:=by
   have:=flat_listK k0 hk d'.toList
   rwa [←hd']at this
  have hfs:(flatK enc k d').size=l.length*k:=by simp[hsz]
  have hgr:=grownBy_K (w:=w) (g:=b) (n:=n) (os:=os) (flatK enc k d')
  refine⟨M,.row (.slice (some ⟨b,0,none⟩) l.length cap) T k (d'.toList.map av)::σ,.tup [],_,Mem.le_refl M,?_,by simp only[VRel];exact⟨#[],rfl,by simp[VRels]⟩,rfl,rfl,d'.toList,hperm,hS,rfl⟩
  refine hg.upd .here hgr.os hgr.tape hgr.output (fun k hk hne=>hgr.block k hk (fun e=>hne (by simp[Ent.block,Value.ownBlock];exact(Option.some.inj e).symm))) ?_ (.inl rfl)
  refine⟨d'.toList.flatMap enc,?_,(hlis M d'.toList _).2 rfl,by intro x hx;obtain⟨_,_,rfl⟩:=List.mem_map.1 hx;exact hav _⟩
  rw[List.length_map,show d'.toList.length=l.length by simpa using hsz]
  refine⟨by rw[←hfl,Array.length_toList,hfs],.inr ⟨b,cap,_,rfl,hb0,heap_K _ hgg,hnc,hcm,by simp[putCells,hcs],?_⟩⟩
  rw[←hfs,take_putN' _ _ (by rw[hfs,hcs];exact Nat.mul_le_mul_right _ hnc),hfl]
/-- .. where the row lies deeper. -/
theorem sortK_in(L:SlLaysF0.n6 P ρ){k:Nat}(k0:0<k)(aE: ∀w,(isAgg (ρ.t 24)).run P w=.ok true w)(zE: ∀w,(Go.sizeOf (ρ.t 24)).run P w=.ok k w){enc:α→List Value}{av:α→List AV}(hk: ∀x,(enc x).length=k)(h1: ∀x,∀v∈enc x,v.oneCell'=true)
  (hrel: ∀(M:Mem) x vs,vs=enc x→VRels M (av x) vs) (hlis: ∀(M:Mem) (l:List α) vs,VRels M (l.map av).flatten vs↔vs=l.flatMap enc) (hav: ∀x,(av x).length=k) {cf:α→α→Int} (hO:SWO (ltOf cf)) {g:FuncId} (eg: ∀args w,(callFunc g args).run P w=.ok (.enter g args) w)
  {cb:List AV} (hcmp: ∀x y,SCall P g (.agg (av x)::.agg (av y)::cb) [] (Is (.int .i64 (cf x y)) [])) {T:TypeId} {l:List α} {v:Value} {σ:List Ent} {F:Ent→List Ent} (hb:l.length<4611686018427387904) (hu: ∀e',Upd σ (.row v T k (l.map av)) e' (F e')):
  SCall P (ρ.f 6) [.slv v,.fn (.func g) [] cb] σ (fun r τ=>r=.tup []∧ ∃S:List α,S.Perm l∧S.Pairwise (fun a b=>ltOf cf b a=false)∧τ=F (.row v T k (S.map av))):=by
 refine SCall.mono (SCall.inplace (Q:=fun r e'=>r=.tup []∧ ∃S:List α,S.Perm l∧S.Pairwise (fun a b=>ltOf cf b a=false)∧e'=.row v T k (S.map av)) hu fun τ=>(sortK_c L k0 aE zE hk h1 hrel hlis hav hO eg hcmp hb).mono ?_) ?_
 ·rintro r τ' ⟨e1,S,e2,e3,e4⟩
  exact⟨_,⟨e1,S,e2,e3,rfl⟩,e4⟩
 ·rintro r τ' ⟨e',⟨e1,S,e2,e3,rfl⟩,e4⟩
  exact⟨e1,S,e2,e3,e4⟩
end
end Go.Proofs.YtaoaafdommlhcaaGreat

/-
  The choice at a word leans on what stands beside it;the law LemmaBeside.
-/
import Derived.Test.YtehoglapajkabaaGreatTM30
import Derived.Test.YtehoglapajkabaaGreatTM20
import Derived.Calls
set_option linter.all false
namespace Go.Proofs.YtehoglapajkabaaGreat
open Go Go.RowKit
set_option maxRecDepth 20000
set_option maxHeartbeats 1000000
theorem zhk{x:LexD}{ws vs:List ByteArray}{k j:Nat}{l:List FormD}(hL:∀c,zbq x ws ((k:Int) - 1) c=zbq x vs ((j:Int) - 1) c) (hR:∀c,zbq x ws ((k:Int)+1) c=zbq x vs ((j:Int)+1) c):∀ps:List PrefD,zeP x ws k l ps=zeP x vs j l ps
  | []=>rfl
  | p :: ps=>by rw[zeP,zeP,hL,hR,zhk hL hR ps]
theorem zkK{x:LexD}{ws vs:List ByteArray}{k j:Nat}(h0:ls ws k=ls vs j) (hL:∀c,zbq x ws ((k:Int) - 1) c=zbq x vs ((j:Int) - 1) c) (hR:∀c,zbq x ws ((k:Int)+1) c=zbq x vs ((j:Int)+1) c):choT x ws k=choT x vs j:=by
  unfold choT zfV;rw[h0,zhk hL hR]
theorem zd2{x:LexD}{ws vs:List ByteArray}{k j:Int}(h:(0≤k∧k<ws.length)↔(0≤j∧j<vs.length)) (he:0≤k→k<ws.length→ls ws k.toNat=ls vs j.toNat) (c:ByteArray):zbq x ws k c=zbq x vs j c:=by
  unfold zbq
  congr 1
  by_cases hk:0≤k∧k<ws.length
  · have hj:=h.1 hk
    rw[he hk.1 hk.2,decide_eq_true hk.1,decide_eq_true hk.2,decide_eq_true hj.1,decide_eq_true hj.2]
  · have hj:=fun g=>hk (h.2 g)
    have e1:(decide (0≤k) && decide (k<(ws.length:Int)))=false:=by rw[←Bool.decide_and];exact decide_eq_false hk
    have e2:(decide (0≤j) && decide (j<(vs.length:Int)))=false:=by rw[←Bool.decide_and];exact decide_eq_false hj
    rw[e1,e2,Bool.false_and,Bool.false_and]
theorem zik{x:LexD}{ws:List ByteArray}{k:Nat}{l:List FormD}{f:FormD}:∀ {ps:List PrefD},zeP x ws k l ps=some f→f∈l
  | [],h=>by cases h
  | p :: ps,h=>by
    rw[zeP] at h
    split at h
    · exact(List.mem_filter.1 (List.mem_of_mem_head? h)).1
    · exact zik h
theorem choT_mem{x:LexD}{ws:List ByteArray}{k:Nat}(h:(choT x ws k).2=true):(choT x ws k).1∈allX x (ls ws k):=by
  unfold choT at *
  cases hc:zfV x ws k with
  | none=>rw[hc] at h;cases h
  | some f=>
    show f∈_
    unfold zfV at hc
    split at hc
    · exact List.mem_of_mem_head? hc
    · exact zik hc
theorem zsg{a b:List ByteArray}{i:Nat}(h:i<a.length):ls (a++b) i=ls a i:=by
  unfold ls;rw[List.getD_eq_getElem?_getD,List.getD_eq_getElem?_getD,List.getElem?_append_left h]
theorem ls_app2{a b:List ByteArray}{i:Nat}:ls (a++b) (a.length+i)=ls b i:=by
  unfold ls;rw[List.getD_eq_getElem?_getD,List.getD_eq_getElem?_getD,List.getElem?_append_right (by omega)];congr 2;omega
def chE (x:LexD) (ws:List ByteArray) (k:Nat):FormD×Int:=if (choT x ws k).2 then ((choT x ws k).1,0) else (noF,14)
theorem zpi{x:LexD}{ws:List ByteArray}{k:Nat}(he:errX x ws=0) (hk:k<ws.length):zbI x ws (k:Int)=chE x ws k:=by
  unfold zbI chE
  rw[if_neg (by omega),if_neg (by omega),Int.toNat_natCast]
theorem zm2{a b:List ByteArray}(h1:a.all zbp=true) (h2:b.all zbp=true):(a++b).all zbp=true:=by rw[List.all_append,h1,h2];rfl
theorem ziy{ws:List ByteArray}(h:ws.all zbp=true):∀w,w∈ws→w.size≤9223372036854775807:=fun w hw=>up47 (zhX h w hw)
end Go.Proofs.YtehoglapajkabaaGreat
namespace Go.Proofs.YtehoglapajkabaaGreat
open Go
def Result.wd{α:Type}:Result α→World
  | .ok _ w=>w
  | .halt _ w=>w
theorem zhe{α:Type}:∀(a:Ask α) (w:World),w.drawn≤(w.ask a).2.drawn
  | .done a,w=>Nat.le_refl _
  | .ask what range k,w=>by
    unfold World.ask
    dsimp only
    split
    · exact zhe (k 0) w
    · exact Nat.le_trans (Nat.le_succ _) (zhe (k _) { w with drawn:=w.drawn+1 })
theorem zg9 (w:World) (c:Sys):w.drawn≤(w.sys c).2.drawn:=by
  unfold World.sys
  have h:=zhe (Kernel.perform c w.os) w
  split
  · exact Nat.le_refl _
  · rename_i r os w1 e
    rw[e] at h;exact h
theorem zga (w:World) (a:Addr) (n:Nat):(w.freeze a n).drawn=w.drawn:=by unfold World.freeze;split<;>rfl
theorem zg8{p:Program}{w:World}{at_:Addr}{u:TypeId}{k:Addr}{v:Value}{atomic:Bool}{w':World}{l:List Addr}(h:w.viewStore p at_ u k v atomic=.ok (w',l)):w'.drawn=w.drawn:=by
  unfold World.viewStore at h
  simp only[bind,Except.bind,pure,Except.pure,throw,throwThe,MonadExceptOf.throw] at h
  repeat' split at h
  all_goals first|(cases h;done)|(cases h;rfl)|skip
theorem zeN{p:Program}{w:World}{a:Addr}{v:Value}{atomic:Bool}{w':World}{l:List Addr}(h:w.farStore p a v atomic=.ok (w',l)):w'.drawn=w.drawn:=by
  unfold World.farStore at h
  split at h
  · split at h
    · rename_i r e
      cases h;exact zg8 e
    · cases h
  · cases h
theorem zhb{α:Type}(p:Program):∀(s:Sem α) (w:World),w.drawn≤(Result.wd (s.run p w)).drawn:=by
  intro s
  induction s with
  | pure a=>intro w;exact Nat.le_refl _
  | load m a k ih=>
    intro w;unfold Sem.run;split
    · exact ih _ _
    · split
      · exact ih _ _
      · exact Nat.le_refl _
  | store m a v k ih=>
    intro w
    cases v<;>simp only[Sem.run]<;>first
      | exact Nat.le_refl _
      | (split
         · split
           · exact Nat.le_refl _
           · exact ih (w.setCell a _)
         · split
           · rename_i w1 l e
             rw[←zeN e];exact ih _
           · exact Nat.le_refl _)
  | new o k ih=>intro w;exact ih _ { w with heap:=w.heap.push o }
  | shape r k ih=>intro w;exact ih _ _
  | freeze a n k ih=>intro w;have:=ih (w.freeze a n);rw[zga] at this;exact this
  | frozen a k ih=>intro w;exact ih _ _
  | getObj r k ih=>
    intro w;unfold Sem.run;split
    · exact Nat.le_refl _
    · exact ih _ _
    · exact Nat.le_refl _
  | setObj r o k ih=>
    intro w;unfold Sem.run;split
    · exact Nat.le_refl _
    · exact ih { w with heap:=w.heap.setIfInBounds r o }
    · exact Nat.le_refl _
  | choose q k ih=>
    intro w;unfold Sem.run;split
    · exact ih _ _
    · exact Nat.le_trans (Nat.le_succ _) (ih _ { w with drawn:=w.drawn+1 })
  | sys c k ih=>intro w;exact Nat.le_trans (zg9 w c) (ih _ _)
  | program k ih=>intro w;exact ih _ _
  | mark m k ih=>intro w;exact ih _
  | halt h=>intro w;exact Nat.le_refl _
theorem zdN{α:Type}(p:Program):∀(s:Sem α) (w:World) (es:Array Event),w.drawn≤(Result.wd (s.runT p w es).1).drawn:=by
  intro s
  induction s with
  | pure a=>intro w es;exact Nat.le_refl _
  | load m a k ih=>
    intro w es;unfold Sem.runT;split
    · exact ih _ _ _
    · split
      · exact ih _ _ _
      · exact Nat.le_refl _
  | store m a v k ih=>
    intro w es
    cases v<;>simp only[Sem.runT]<;>first
      | exact Nat.le_refl _
      | (split
         · split
           · exact Nat.le_refl _
           · exact ih (w.setCell a _) _
         · split
           · rename_i w1 l e
             rw[←zeN e];exact ih _ _
           · exact Nat.le_refl _)
  | new o k ih=>intro w es;exact ih _ { w with heap:=w.heap.push o } _
  | shape r k ih=>intro w es;exact ih _ _ _
  | freeze a n k ih=>intro w es;have:=ih (w.freeze a n) es;rw[zga] at this;exact this
  | frozen a k ih=>intro w es;exact ih _ _ _
  | getObj r k ih=>
    intro w es;unfold Sem.runT;split
    · exact Nat.le_refl _
    · exact ih _ _ _
    · exact Nat.le_refl _
  | setObj r o k ih=>
    intro w es;unfold Sem.runT;split
    · exact Nat.le_refl _
    · exact ih { w with heap:=w.heap.setIfInBounds r o } _
    · exact Nat.le_refl _
  | choose q k ih=>
    intro w es;unfold Sem.runT;split
    · exact ih _ _ _
    · exact Nat.le_trans (Nat.le_succ _) (ih _ { w with drawn:=w.drawn+1 } _)
  | sys c k ih=>intro w es;exact Nat.le_trans (zg9 w c) (ih _ _ _)
  | program k ih=>intro w es;exact ih _ _ _
  | mark m k ih=>intro w es;exact ih _ _
  | halt h=>intro w es;exact Nat.le_refl _
theorem zck{α:Type}{p:Program}{s:Sem α}{w w':World}{a:α}(h:s.run p w=.ok a w'):w.drawn≤w'.drawn:=by
  have:=zhb p s w;rw[h] at this;exact this
theorem zbu{α:Type}{p:Program}{s:Sem α}{w w':World}{a:Halt}(h:s.run p w=.halt a w'):w.drawn≤w'.drawn:=by
  have:=zhb p s w;rw[h] at this;exact this
theorem runT_ok{α:Type}{p:Program}{s:Sem α}{w w':World}{es es':Array Event}{a:α}(h:s.runT p w es=(.ok a w',es')):w.drawn≤w'.drawn:=by
  have:=zdN p s w es;rw[h] at this;exact this
theorem zrS{α:Type}{p:Program}{s:Sem α}{w w':World}{es es':Array Event}{a:Halt}(h:s.runT p w es=(.halt a w',es')):w.drawn≤w'.drawn:=by
  have:=zdN p s w es;rw[h] at this;exact this
theorem zcD{α:Type}{p:Program}{s:Sem α}{w w':World}{es:Array Event}{a:α}(h:(s.runT p w es).1=.ok a w'):w.drawn≤w'.drawn:=by
  have:=zdN p s w es;rw[h] at this;exact this
theorem zbG{α:Type}{p:Program}{s:Sem α}{w w':World}{es:Array Event}{a:Halt}(h:(s.runT p w es).1=.halt a w'):w.drawn≤w'.drawn:=by
  have:=zdN p s w es;rw[h] at this;exact this
def GStep.wd:GStep→World
  | .go _ w _ | .spawn _ _ w _ | .count _ w _ | .timer _ _ w _ | .alone _ _ w _ | .newcoro _ _ _ w _ | .coroswitch _ _ _ w _ | .collect _ w _ | .watch _ w _ | .ended _ w _=>w
  | .comm _ _ _ _ w _=>w
theorem zdf (es:Array Event) (s:GStep):GStep.wd (GStep.after es s)=GStep.wd s:=by cases s<;>rfl
theorem zhx (fr:Frame) (m:String) (w:World):w.drawn≤(GStep.wd (endThrow fr m w)).drawn:=Nat.le_refl _
theorem zdO (p:Program) (fr:Frame) (v:Value) (w:World):w.drawn≤(GStep.wd (endPrinting p fr v w)).drawn:=by
  unfold endPrinting;dsimp only;split<;>exact Nat.le_refl _
theorem zfz (w:World) (fd:Nat) (t:ByteArray) (o:Outcome):w.drawn≤(GStep.wd (endWith w fd t o)).drawn:=by
  have h:=zg9 w (.write fd t)
  unfold endWith;dsimp only
  split<;>rename_i e<;>rw[e] at h
  · split<;>exact h
  · exact h
  · exact h
theorem zeO (p:Program) (fr:Frame) (callers:List Frame) (dying:Option Dying) (m:String) (w:World):w.drawn≤(GStep.wd (endFatal p fr callers dying m w)).drawn:=by
  unfold endFatal;dsimp only
  split<;>rename_i e
  · exact zck e
  · exact zbu e
  · exact zbu e
theorem zi9 (p:Program) (fr:Frame) (d:Dying) (f:Fatal) (w:World):w.drawn≤(GStep.wd (writeOn p fr d f w)).drawn:=by
  unfold writeOn;dsimp only
  split
  · exact Nat.le_refl _
  · split<;>rename_i e<;>first|exact runT_ok e|exact zrS e
theorem zsV (p:Program) (fr:Frame) (d:Dying) (w:World):w.drawn≤(GStep.wd (die p fr d w)).drawn:=by
  unfold die
  split
  · exact zi9 _ _ _ _ _
  · split
    · split
      · exact Nat.le_refl _
      · exact zfz _ _ _ _
    · dsimp only
      split
      · exact Nat.le_refl _
      · split<;>rename_i e
        · exact zck e
        · exact zbu e
      · rw[zdf]
        split<;>rename_i e
        · exact zcD e
        · exact zcD e
        · exact zbG e
        · exact Nat.le_trans (zbG e) (zdO _ _ _ _)
        · exact Nat.le_refl _
      · exact Nat.le_refl _
theorem zcH (p:Program) (main:Bool) (fr:Frame) (callers:List Frame) (dying:Option Dying) (v:Value) (w:World):w.drawn≤(GStep.wd (doReturn p main fr callers dying v w)).drawn:=by
  unfold doReturn
  repeat' (first|exact Nat.le_refl _|split|fail)
theorem zfA (p:Program) (fr:Frame) (callers:List Frame) (dying:Option Dying) (d:Deferred) (w:World):w.drawn≤(GStep.wd (callDeferred p fr callers dying d w)).drawn:=by
  have key:∀(c:Prop) [Decidable c] (x y:GStep),w.drawn≤(GStep.wd x).drawn→w.drawn≤(GStep.wd y).drawn→w.drawn≤(GStep.wd (if c then x else y)).drawn:=fun c _ x y h1 h2=>by split;exact h1;exact h2
  unfold callDeferred
  refine key _ _ _ (Nat.le_refl _) ?_
  dsimp only
  rw[zdf]
  split<;>rename_i e<;>first
    | exact zcD e
    | exact zbG e
    | exact Nat.le_trans (zbG e) (zeO _ _ _ _ _ _)
    | (split<;>exact zcD e)
theorem zkC (p:Program) (main:Bool) (fr:Frame) (callers:List Frame) (dying:Option Dying) (w:World):w.drawn≤(GStep.wd (unwind p main fr callers dying w)).drawn:=by
  unfold unwind
  split
  · dsimp only;rw[zdf]
    split<;>rename_i e
    · exact zcD e
    · exact zbG e
  · exact zfA _ _ _ _ _ _
  · split
    · exact Nat.le_refl _
    · split
      · exact Nat.le_refl _
      · split
        · exact Nat.le_refl _
        · split
          · split
            · exact Nat.le_refl _
            · split<;>rename_i e<;>first|exact zck e|exact zbu e
          · split
            · exact zdO _ _ _ _
            · exact Nat.le_refl _
    · split
      · exact zcH _ _ _ _ _ _ _
      · dsimp only;rw[zdf]
        split<;>rename_i e
        · exact Nat.le_trans (zcD e) (zcH _ _ _ _ _ _ _)
        · exact zbG e
        · exact zbG e
theorem zhd (p:Program) (fr:Frame) (callers:List Frame) (dying:Option Dying) (g:Nat) (w:World):w.drawn≤(GStep.wd (early p fr callers dying g w)).drawn:=by
  unfold early;dsimp only
  repeat' (first|exact Nat.le_refl _|split|fail)
  all_goals first|(rename Sem.run _ _ _=Result.ok _ _=>e;have h9:=zck e;exact h9)|(rename Sem.run _ _ _=Result.halt _ _=>e;have h9:=zbu e;exact h9)
theorem zd0 (p:Program) (main:Bool) (listen:Bool) (fr:Frame) (callers:List Frame) (dying:Option Dying) (s:Sem Next) (w:World):w.drawn≤(GStep.wd (stepG.apply p listen fr callers dying s w)).drawn:=by
  unfold stepG.apply
  dsimp only
  have hr:w.drawn≤(Result.wd (if listen=true then s.runT p w #[] else (s.run p w,#[])).1).drawn:=by
    split
    · exact zdN p s w #[]
    · exact zhb p s w
  rw[zdf]
  generalize (if listen=true then s.runT p w #[] else (s.run p w,#[])).1=r at hr
  have key:∀w1:World,w.drawn≤w1.drawn→∀g:GStep,w1.drawn≤(GStep.wd g).drawn→w.drawn≤(GStep.wd g).drawn:=fun w1 h1 g h2=>Nat.le_trans h1 h2
  cases r with
  | ok a w1=>
    refine key w1 hr _ ?_
    cases a<;>(try dsimp only)<;>repeat' (first|exact Nat.le_refl _|exact zhx _ _ _|split)
  | halt h w1=>
    refine key w1 hr _ ?_
    cases h with
    | unsupported u=>cases u<;>(try dsimp only)<;>repeat' (first|exact Nat.le_refl _|exact zhd _ _ _ _ _ _|split)
    | _=>(try dsimp only)<;>repeat' (first|exact Nat.le_refl _|exact zeO _ _ _ _ _ _|exact zhd _ _ _ _ _ _|split)
theorem zpf (p:Program) (main:Bool) (listen:Bool) (fr:Frame) (callers:List Frame) (dying:Option Dying) (w:World):w.drawn≤(GStep.wd (stepG.oper p listen fr callers dying w)).drawn:=by
  unfold stepG.oper
  split
  · exact Nat.le_refl _
  · split<;>exact zd0 p main listen _ _ _ _ _
theorem zme{α:Type}{w:World}(o:Option α) {x:GStep}{f:α→GStep}(h1:w.drawn≤(GStep.wd x).drawn) (h2:∀a,w.drawn≤(GStep.wd (f a)).drawn):w.drawn≤(GStep.wd (o.elim x f)).drawn:=by
  cases o
  · exact h1
  · exact h2 _
theorem zph (p:Program) (main:Bool) (listen:Bool) (fr:Frame) (callers:List Frame) (dying:Option Dying) (w:World):w.drawn≤(GStep.wd (stepG.exec p main listen fr callers dying w)).drawn:=by
  have hl:∀jump:Option Code,w.drawn≤(GStep.wd (match fr.roundOf with
      | none => if jump matches none | some .ret then GStep.go { frame := { fr with mode := .returning }, callers, status := .running, dying } w else GStep.ended (.stuck "exit, goto: no such block or label" (fr.pos p)) w
      | some l=>
        GStep.after (seen p fr.fn ((Instr.endRound l jump).runT p w #[]).2) <| match ((Instr.endRound l jump).runT p w #[]).1 with
        | .ok v w=>doReturn p main fr callers dying v w
        | .halt _ w => .ended (.stuck "range over a function: no such loop" (fr.pos p)) w)).drawn := fun jump => by
    split
    · split<;>exact Nat.le_refl _
    · rw[zdf]
      split<;>rename_i e
      · exact Nat.le_trans (zcD e) (zcH _ _ _ _ _ _ _)
      · exact zbG e
  unfold stepG.exec
  dsimp only
  split
  · exact hl none
  · exact hl (some .ret)
  all_goals first
    | exact Nat.le_refl _
    | exact zd0 p main listen _ _ _ _ _
    | exact zme _ (hl _) fun _=>Nat.le_refl _
    | exact zme _ (Nat.le_refl _) fun _=>zd0 p main listen _ _ _ _ _
    | (split<;>first|exact Nat.le_refl _|exact zpf p main listen _ _ _ _)
    | (split<;>(first|exact Nat.le_refl _|(split<;>rename_i e<;>first|exact zck e|exact zbu e)))
    | (rw[zdf];split<;>rename_i e<;>first|exact zcD e|exact zbG e|exact Nat.le_trans (zcD e) (zd0 p main listen _ _ _ _ _))
    | (refine zme _ ?_ fun _=>Nat.le_refl _
       split
       · split<;>exact Nat.le_refl _
       · rw[zdf]
         split<;>rename_i e
         · exact Nat.le_trans (zcD e) (zcH _ _ _ _ _ _ _)
         · exact zbG e)
theorem zmg (p:Program) (main:Bool) (g:Goroutine) (w:World) (listen:Bool):w.drawn≤(GStep.wd (stepG p main g w listen)).drawn:=by
  unfold stepG
  dsimp only
  split
  · exact zsV _ _ _ _
  · exact zph _ _ _ _ _ _ _
  · exact zkC _ _ _ _ _ _
def Stepped.wd:Stepped→World
  | .next m=>m.world
  | .ended _ w=>w
theorem zg7{rest:Rest}{cases:Array CommCase}{w w':World}(h:waitingAt rest cases w=some w'):w'.drawn=w.drawn:=by
  unfold waitingAt at h
  split at h
  · split at h
    · cases h;rfl
    · cases h
  · cases h;rfl
theorem zfU (p:Program) (rest:Rest) (gs:Array Goroutine) (i:Nat) (g:Goroutine) (cases:Array CommCase) (blocking:Bool) (shape:CommShape) (w:World):w.drawn≤(Stepped.wd (communicate p rest gs i g cases blocking shape w).1).drawn:=by
  unfold communicate
  dsimp only
  split
  · exact Nat.le_refl _
  · split
    · split
      · split
        · rename_i e;exact Nat.le_of_eq (zg7 e).symm
        · exact Nat.le_refl _
      · exact Nat.le_refl _
    · split
      · rename_i e;exact zbu e
      · rename_i e
        refine Nat.le_trans (zck e) ?_
        repeat' (first|exact Nat.le_refl _|split|fail)
        all_goals first|(rename Sem.run _ _ _=Result.ok _ _=>e2;have h9:=zck e2;exact h9)|(rename Sem.run _ _ _=Result.halt _ _=>e2;have h9:=zbu e2;exact h9)
theorem zig (p:Program) (gs:Array Goroutine) (rest:Rest) (w:World):w.drawn≤(Stepped.wd (look p gs rest w)).drawn:=by
  unfold look
  dsimp only
  split
  · split
    · exact Nat.le_refl _
    · split
      · exact Nat.le_refl _
      · split<;>rename_i e<;>first
          | (have h9:=zck e;exact h9)
          | exact zbu e
  · exact Nat.le_refl _
theorem zmi (w:World) (c:Nat):(drain w c).2.drawn=w.drawn:=by unfold drain;split<;>rfl
theorem zf9 (m:Machine) (k:Nat) (t:Timer) (a b:Nat):(retime m k t a b).2.world.drawn=m.world.drawn:=by
  unfold retime
  dsimp only
  split
  · exact zmi _ _
  · rfl
theorem zkD{m m':Machine}{a:Addr}(h:timerOp.opened m a=some m'):m'.world.drawn=m.world.drawn:=by
  unfold timerOp.opened at h
  split at h
  · split at h
    · cases h;rfl
    · cases h
  · cases h;rfl
theorem zhc{m m':Machine}{a:Addr}{f:Nat→Timer→Value×Machine}{v:Value}{n:Nat}(hf:∀k t,(f k t).2.world.drawn=n) (h:timerOp.named m a f=.ok (v,m')):m'.world.drawn=n:=by
  unfold timerOp.named at h
  split at h
  · rename_i k e
    have:=hf k (m.rest.timers.getD k default)
    injection h with h
    rw[h] at this;exact this
  · cases h
theorem zja{m m':Machine}{op:TimerOp}{v:Value}(h:timerOp m op=.ok (v,m')):m'.world.drawn=m.world.drawn:=by
  unfold timerOp at h
  split at h
  · split at h
    · cases h;rfl
    · split at h
      · split at h
        · cases h
        · cases h;rfl
      · cases h
  · exact zhc (fun k t=>zf9 _ _ _ _ _) h
  · split at h
    · rename_i e
      rw[←zkD e]
      exact zhc (fun k t=>zf9 _ _ _ _ _) h
    · cases h
  · cases h;rfl
theorem zmh (p:Program) (m:Machine) (k:Nat):m.world.drawn≤(Stepped.wd (serve p m k)).drawn:=by
  unfold serve
  split
  · exact Nat.le_refl _
  · exact Nat.le_refl _
  · dsimp only
    split<;>exact Nat.le_refl _
theorem zhw (p:Program) (m:Machine) (i:Nat) (listen:Bool):m.world.drawn≤(Stepped.wd (runT p m i listen).1).drawn:=by
  unfold runT
  dsimp only
  have h:=zmg p (i == 0) (m.gs.swapAt! i { (default:Goroutine) with status:=.finished }).1 m.world listen
  generalize stepG p (i == 0) (m.gs.swapAt! i { (default:Goroutine) with status:=.finished }).1 m.world listen=s at h
  refine Nat.le_trans h ?_
  clear h
  cases s with
  | ended o w es=>exact Nat.le_refl _
  | comm g cs b sh w es=>exact zfU _ _ _ _ _ _ _ _ _
  | go g w es=>exact Nat.le_refl _
  | spawn g c w es=>exact Nat.le_refl _
  | count g w es=>dsimp only;split<;>exact Nat.le_refl _
  | timer g op w es=>
    dsimp only
    split
    · rename_i e;exact Nat.le_of_eq (zja e).symm
    · split<;>first|exact Nat.le_refl _|(rename_i e;cases e;exact Nat.le_refl _)
    · exact Nat.le_refl _
    · exact Nat.le_refl _
  | alone g on w es=>exact Nat.le_refl _
  | newcoro g c d w es=>exact Nat.le_refl _
  | coroswitch g c x w es=>
    dsimp only
    split
    · exact Nat.le_refl _
    · split<;>first|exact Nat.le_refl _|(rename_i e;cases e;exact Nat.le_refl _)
    · exact Nat.le_refl _
  | collect g w es=>exact zig _ _ _ _
  | watch g w es=>exact Nat.le_refl _
def Move.wd:Move→World
  | .goroutine m _=>m.world
  | .machine s _=>Stepped.wd s
theorem zi8 (w:World) (fd:Nat) (t:ByteArray) (o:Outcome):∃o' w' es,endWith w fd t o=.ended o' w' es:=by
  unfold endWith;dsimp only
  split
  · split<;>exact⟨_,_,_,rfl⟩
  · exact⟨_,_,_,rfl⟩
  · exact⟨_,_,_,rfl⟩
theorem ze2 (p:Program) (m:Machine):m.world.drawn≤(Move.wd (askOn p m)).drawn:=by
  unfold askOn
  dsimp only
  split
  · rename_i e;exact zbu e
  · rename_i k1 w1 e
    refine Nat.le_trans (zck e) ?_
    split
    · exact zmh p { m with world:=w1 } _
    · split
      · split
        · exact Nat.le_refl _
        · split
          · exact Nat.le_refl _
          · split
            · rename_i o w2 es e2
              have h9 := zfz w1 2 (bytes ("fatal error: " ++ (if (m.gs.any fun g => g.status == .blocked || g.status == .parked) = true then "all goroutines are asleep - deadlock!" else "no goroutines (main called runtime.Goexit) - deadlock!") ++ "\n")) (.fatal (if (m.gs.any fun g => g.status == .blocked || g.status == .parked) = true then "all goroutines are asleep - deadlock!" else "no goroutines (main called runtime.Goexit) - deadlock!"))
              rw[e2] at h9;exact h9
            · rename_i e2
              obtain ⟨o', w', es, h⟩ := zi8 w1 2 (bytes ("fatal error: " ++ (if (m.gs.any fun g => g.status == .blocked || g.status == .parked) = true then "all goroutines are asleep - deadlock!" else "no goroutines (main called runtime.Goexit) - deadlock!") ++ "\n")) (.fatal (if (m.gs.any fun g => g.status == .blocked || g.status == .parked) = true then "all goroutines are asleep - deadlock!" else "no goroutines (main called runtime.Goexit) - deadlock!"))
              exact absurd h (e2 _ _ _)
      · split
        · split
          · rename_i e3;have h9:=zbu e3;exact h9
          · rename_i e3
            have h8:=zck e3
            refine Nat.le_trans h8 ?_
            split
            · exact Nat.le_refl _
            · split<;>rename_i e4
              · exact zbu e4
              · have h9:=zck e4;exact h9
        · split
          · rename_i e2;exact zbu e2
          · rename_i e2
            refine Nat.le_trans (zck e2) ?_
            split
            · rename_i e3;have h9:=zbu e3;exact h9
            · rename_i e3
              have h8:=zck e3
              refine Nat.le_trans h8 ?_
              split
              · exact Nat.le_refl _
              · split<;>rename_i e4
                · exact zbu e4
                · have h9:=zck e4;exact h9
          · rename_i e2;have h9:=zck e2;exact h9
          · rename_i e2
            refine Nat.le_trans (zck e2) ?_
            split
            · rename_i e3;have h9:=zbu e3;exact h9
            · rename_i e3
              have h8:=zck e3
              refine Nat.le_trans h8 ?_
              split
              · exact Nat.le_refl _
              · split<;>rename_i e4
                · exact zbu e4
                · have h9:=zck e4;exact h9
theorem zfy (p:Program) (m:Machine):m.world.drawn≤(Move.wd (ask p m)).drawn:=by
  unfold ask
  split
  · split
    · rename_i e;exact zbu e
    · rename_i w1 e
      refine Nat.le_trans (zck e) ?_
      have h:=zig p m.gs m.rest w1
      split
      · rename_i m2 e2
        rw[e2] at h
        exact Nat.le_trans h (ze2 p m2)
      · exact h
    · rename_i k w1 x e
      exact Nat.le_trans (zck e) (ze2 p { m with world:=w1 })
  · exact ze2 p m
theorem zpg (p:Program) (m:Machine):m.world.drawn≤(Move.wd (move p m)).drawn:=by
  unfold move
  split
  · split<;>exact Nat.le_refl _
  · split
    · split
      · exact Nat.le_refl _
      · exact zfy p { m with rest:={ m.rest with slice:=none } }
    · exact zfy p m
theorem zpe{p:Program}{m m':Machine}(h:step p m=.next m'):m.world.drawn≤m'.world.drawn:=by
  unfold step stepT at h
  have hm:=zpg p m
  split at h
  · rename_i m1 i e
    rw[e] at hm
    have h2:=zhw p m1 i true
    rw[h] at h2
    exact Nat.le_trans hm h2
  · rename_i s ops e
    rw[e] at hm
    have h3:s=.next m':=h
    rw[h3] at hm
    exact hm
theorem zha{p:Program}:∀ {n:Nat}{m m':Machine},runN p n m=.next m'→m.world.drawn≤m'.world.drawn
  | 0,m,m',h=>by cases h;exact Nat.le_refl _
  | n + 1,m,m',h=>by
    unfold runN at h
    split at h
    · rename_i m1 e
      exact Nat.le_trans (zpe e) (zha h)
    · rename_i x hx
      exact absurd h (hx m')
theorem Calls.drawn{P:Program}{f:FuncId}{args:Array Value}{w:World}{R:Ending→World→Prop}(h:Calls P f args w R) (hr:∀e w',R e w'→∃v,e=.returned v):Calls P f args w fun e w'=>R e w'∧w.drawn≤w'.drawn:=fun cs=>by
  obtain⟨e,w',fr,r,hc,rest⟩:=h cs
  obtain⟨v,hv⟩:=hr _ _ r
  subst hv
  have hs:Steps P _ _:=hc
  obtain⟨n,hn⟩:=hs
  exact⟨.returned v,w',fr,⟨r,zha hn⟩,hc,rest⟩
end Go.Proofs.YtehoglapajkabaaGreat

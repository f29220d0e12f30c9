/- Code in the rounds of a loop over a function; functions that such a loop ranges over (they call yield); the loop's statement. Nothing of any one program stands here. -/
import Derived.Test.YtbdfhfceffkhgaaGreatDoorShOps
import Derived.OrdersIn
import Derived.RangeFuncRecord
namespace Go.Sh
variable {ds:List Deferred}
abbrev wideR (r:Option Nat):Fence:={ fn:=fun _=>True,depth:=none,alive:=false,round:=r }
theorem wideR_calls {r:Option Nat} {k:Nat} {P:Program} {f:FuncId} {args:Array Value} {w:World} {R:Ending→World→Prop} (h:Calls P f args w R):CallsIn (wideR r) k P f args w R:=
 (callsIn_wide (n:=k)).2 h
theorem wideR_rows {r:Option Nat} {k:Nat} {P:Program} {row:String} {args:Array Value} {w:World} {R:PQ} (h:Rows P row args w R):RowsIn (wideR r) k P row args w R:=fun c cs _=>
 let ⟨v,w',hr,hs⟩:=h c cs; ⟨v,w',hr,(stepsIn_wide (P:=P)).2 hs⟩
theorem wideR_round {r:Option Nat} {k j:Nat} {P:Program} {l:Nat} {f:FuncId} {tmps:Array Value} {assign body:Code} {w:World} {R:Ending→World→Prop} (h:RoundIn Fence.wide k P l f tmps assign body w R):RoundIn (wideR r) j P l f tmps assign body w R:=
 ⟨trivial,fun c cs _=>h.2 c cs (room_wide _)⟩
def opVR (P:Program) (Z:PZ) (r:Result Next) (k:PQ):Prop:=
 match r with
 | .ok (.round l f tmps assign body) w=>RoundIn Fence.wide 0 P l f tmps assign body w fun e w'=>match e with
  | .returned v=>k v w'
  | .panicked ch=>Z ch w'
  | .outgrown=>False
 | r=>opV P Z r k
structure runY (P:Program) (Z:PZ) (s:Sem Next) (w:World) (k:PQ):Prop where
 out:opVR P Z (s.run P w) k
theorem opVR_of {P:Program} {Z:PZ} {r:Result Next} {k:PQ} (h:opV P Z r k):opVR P Z r k:=by
 unfold opVR
 split
 ·exact h.elim
 ·exact h
abbrev opY (P:Program) (n:Nat) (Z:PZ) (cal:List Nat) (ρ:Env) (o:Oper) (w:World) (k:PQ):Prop:=
 match o.op with
 | .call ⟨.value f,args,_⟩=>match f with
  | .func f=>bif memN f cal then CallV P Z f (argsV (ev n ρ) args) w k else runX P Z (callFunc f (argsV (ev n ρ) args)) w k
  | f=>runY P Z (callVal (ev n ρ f) (argsV (ev n ρ) args)) w k
 | _=>opE P n Z cal ρ o w k
theorem opY_sound {P:Program} {n:Nat} {Z:PZ} {cal:List Nat} (hcal:∀f,memN f cal=true→Enters P f) {ρ:Env} {o:Oper} {w:World} {k:PQ}
  (h:opY P n Z cal ρ o w k):opVR P Z ((execOp (ev n ρ) o).run P w) k∧∀c,o.op ≠ .defer c:=by
 have old:opE P n Z cal ρ o w k→(∀c,o.op ≠ .defer c)→opVR P Z ((execOp (ev n ρ) o).run P w) k∧∀c,o.op ≠ .defer c:=fun h hd=>⟨opVR_of (opE_sound hcal h),hd⟩
 obtain ⟨dst,op,type,pos,after,guard⟩:=o
 cases op
 case call c=>
  obtain ⟨callee,args,argTypes⟩:=c
  cases callee
  case value f=>
   cases f
   case func f=>exact old h (by simp)
   all_goals
    refine ⟨?_,by simp⟩
    simp only [execOp,resolve,← listmap_arr]
    exact runY.out (s:=callVal _ _) h
  all_goals exact old h (by simp)
 case defer c=>exact h.elim
 all_goals exact old h (by simp)
theorem opVR_uponIn {P:Program} {Z:PZ} {r:Option Nat} {res:Result Next} {k:PQ} {o:Oper} {a:Act} {next:Act→World→Prop} {Q:Exit→Act→World→Prop}
  (h:opVR P Z res k) (hk:∀v w,k v w→next (a.put o.dst v) w) (hz:∀ch w,Z ch w→Q (.panic ch) a w):o.uponIn (wideR r) 0 P a next Q res:=by
 unfold opVR at h
 split at h
 ·refine ⟨(fun h=>by cases h),RoundIn.mono (wideR_round h) fun e w' he=>?_⟩
  cases e with
  | returned v=>exact hk _ _ he
  | panicked ch=>exact hz _ _ he
  | outgrown=>exact he.elim
 ·unfold opV at h
  split at h <;> simp only [Oper.uponIn]
  ·exact hk _ _ h
  ·exact hk _ _ h
  ·refine ⟨(fun h=>by cases h),CallsIn.mono (wideR_calls h) fun e w' he=>?_⟩
   cases e with
   | returned v=>exact hk _ _ he
   | panicked ch=>exact hz _ _ he
   | outgrown=>exact he.elim
  ·exact ⟨(fun h=>by cases h),RowsIn.mono (wideR_rows h) fun v w' he=>hk _ _ he⟩
  ·exact hz _ _ h
  ·exact h.elim
abbrev vcYs (P:Program) (n:Nat) (Z:PZ) (cal:List Nat) (os:List Oper) (Q:Env→World→Prop):List Oper→Env→World→Prop
 | [],ρ,w=>Q ρ w
 | o::rest,ρ,w=>guardE n os ρ o (fun k=>opY P n Z cal ρ o w k) (fun v w'=>vcYs P n Z cal os Q rest (putD ρ o.dst v) w') w
section
variable {P:Program} {n:Nat} {Z:PZ} {cal:List Nat}
theorem vcYs_sound {r:Option Nat} (hcal:∀f,memN f cal=true→Enters P f) {ops:Array Oper} {Q:Exit→Act→World→Prop} {K:Env→World→Prop} {ρ0:Env}
  (hQ:∀a ρ w,Rel ds n a ρ→Agree (dsts ops.toList) ρ0 ρ→K ρ w→Q .normal a w) (hZ:∀ch a ρ w,Rel ds n a ρ→Agree (dsts ops.toList) ρ0 ρ→Z ch w→Q (.panic ch) a w) :
  ∀(l:List Oper) (pre:List Oper) (ρ:Env) (w:World) (a:Act),ops.toList=pre++l→vcYs P n Z cal ops.toList K l ρ w→Rel ds n a ρ→Agree (dsts ops.toList) ρ0 ρ→wpOpsIn (wideR r) 0 P ops Q (List.range' pre.length l.length) a w:=by
 intro l
 induction l with
 | nil=>intro pre ρ w a _ h hr hag; exact hQ a ρ w hr hag h
 | cons o rest ih=>
  intro pre ρ w a hl h hr hag
  simp only [vcYs] at h
  have ho:ops[pre.length]? = some o:=by rw [← Array.getElem?_toList,hl]; simp
  have hl2:ops.toList=(pre++[o])++rest:=by rw [hl]; simp
  have ih2:=fun ρ w a h hr hag=>ih (pre++[o]) ρ w a hl2 h hr hag
  simp only [List.length_append,List.length_cons,List.length_nil] at ih2
  rw [List.length_cons,List.range'_succ]
  simp only [wpOpsIn,ho]
  rcases guardE_spec hr h with ⟨hw,hA⟩ | ⟨hw,hB⟩
  ·rw [if_pos hw]
   unfold Oper.wpIn
   obtain ⟨h1,h2⟩:=opY_sound hcal hA
   rw [Oper.semAt_eq _ _ _ h2,hr.eval]
   exact ⟨fun _ _=>trivial,opVR_uponIn h1 (fun v w' hk=>ih2 _ w' _ hk (hr.put o.dst v) (hag.trans (agree_putD ho ρ v))) (fun ch w' hz=>hZ ch a ρ w' hr hag hz)⟩
  ·rw [hw]
   exact ⟨fun _ _=>trivial,ih2 _ w _ hB (hr.put o.dst undef) (hag.trans (agree_putD ho ρ undef))⟩
end
abbrev noDef:List Oper→Bool
 | []=>true
 | o::os=>match o.op with
  | .defer _=>false
  | _=>noDef os
theorem noDef_spec:∀{os:List Oper},noDef os=true→∀o,o ∈ os→∀c,o.op ≠ .defer c
 | [],_,o,ho,_=>by cases ho
 | x::os,h,o,ho,c=>by
  intro e
  unfold noDef at h
  rcases List.mem_cons.1 ho with rfl | ho
  ·rw [e] at h; cases h
  ·split at h
   ·cases h
   ·exact noDef_spec h o ho c e
section
variable {r:Option Nat} {P:Program} {ops:Array Oper} {Q:Exit→Act→World→Prop}
def wpAnyY (r:Option Nat) (P:Program) (ops:Array Oper) (Q:Exit→Act→World→Prop):Nat→Array Bool→Gd→Act→World→Prop
 | 0,listed,G,a,w=>gAll P G w∧Region.ready .any ops listed=[]∧Q .normal a w
 | fuel+1,listed,G,a,w=>gAll P G w∧(Region.ready .any ops listed=[]→Q .normal a w) ∧
  ∀i ∈ Region.ready .any ops listed,wpOpIn (wideR r) 0 P ops Q i (wpAnyY r P ops Q fuel (listed.setIfInBounds i true) (dropG ops i G)) a w
theorem wpAnyY.all:∀{fuel:Nat} {listed:Array Bool} {G:Gd} {a:Act} {w:World},wpAnyY r P ops Q fuel listed G a w→gAll P G w
 | 0,_,_,_,_,h=>h.1
 | _+1,_,_,_,_,h=>h.1
theorem wpAnyY.any:∀{fuel:Nat} {listed:Array Bool} {G:Gd} {a:Act} {w:World},wpAnyY r P ops Q fuel listed G a w→wpAnyIn (wideR r) 0 P .any ops Q fuel listed a w
 | 0,_,_,_,_,h=>h.2
 | _+1,_,_,_,_,h=>⟨h.2.1,fun i hi=>wpOpIn_mono (fun _ _ hh=>wpAnyY.any hh) (h.2.2 i hi)⟩
theorem wpAnyY.weaken:∀{fuel:Nat} {listed:Array Bool} {G G':Gd} {a:Act} {w:World},(∀g,g ∈ G'→g ∈ G)→wpAnyY r P ops Q fuel listed G a w→wpAnyY r P ops Q fuel listed G' a w
 | 0,_,_,_,_,_,hs,h=>⟨fun g hg=>h.1 g (hs g hg),h.2⟩
 | _+1,_,_,_,_,_,hs,h=>⟨fun g hg=>h.1 g (hs g hg),h.2.1,fun i hi=>wpOpIn_mono (fun _ _ hh=>wpAnyY.weaken (dropG_sub hs) hh) (h.2.2 i hi)⟩
theorem wpOpY_put {j:Nat} {oi oj:Oper} {v:Value} (hj:ops[j]? = some oj) (hap:oi.apart ops oj=true)
  (hsi:∀cs b,oi.op ≠ .select cs b) (hsj:∀cs b,oj.op ≠ .select cs b) (hdj:∀c,oj.op ≠ .defer c)
  (hQ:∀c a w,Q (.panic c) (a.put oi.dst v) w→Q (.panic c) a w) {K:Act→World→Prop} {a:Act} {w:World}
  (h:wpOpIn (wideR r) 0 P ops Q j K (a.put oi.dst v) w):wpOpIn (wideR r) 0 P ops Q j (fun a' w'=>SameOp ops oi a a'∧K (a'.put oi.dst v) w') a w:=by
 obtain ⟨h1,h2,h3⟩:=Oper.apart_spec hap
 have keep:∀(b:Act),SameOp ops oi a b→∀u,SameOp ops oi a (b.put oj.dst u):=fun b hy u=>
  ⟨(execOp_put oi hsi b oj.dst u h3).trans hy.1,(wanted_put oi b oj.dst u h3).trans hy.2⟩
 have k0:SameOp ops oi a a:=⟨rfl,rfl⟩
 have keepD:∀d,SameOp ops oi a { a with defers:=d::a.defers }:=fun d=>⟨rfl,rfl⟩
 unfold wpOpIn at *
 simp only [hj] at *
 rw [wanted_put oj a oi.dst v h1] at h
 split
 ·rename_i hw
  simp only [hw,if_true] at h
  unfold Oper.wpIn at *
  rw [Oper.semAt_eq _ _ _ hdj] at h ⊢
  refine ⟨fun _ _=>trivial,?_⟩
  have h:=h.2
  rw [execOp_put oj hsj a oi.dst v h1] at h
  generalize (execOp a.eval oj).run P w=r at *
  cases r with
  | ok n w'=>
   cases n <;> simp only [Oper.uponIn] at h ⊢
   case value u=>exact ⟨keep a k0 u,by rw [← Act.put_comm a v u h2]; exact h⟩
   case skip=>exact ⟨keep a k0 _,by rw [← Act.put_comm a v undef h2]; exact h⟩
   case defer d=>
    refine ⟨keep _ (keepD d) _,?_⟩
    rw [← Act.put_comm _ v undef h2,← Act.put_defers]
    exact h
   case enter f args=>
    refine ⟨h.1,CallsIn.mono h.2 fun e w'' he=>?_⟩
    cases e with
    | returned u=>exact ⟨keep a k0 u,by rw [← Act.put_comm a v u h2]; exact he⟩
    | panicked c=>exact hQ _ _ _ he
    | outgrown=>exact he
   case row row args=>exact ⟨h.1,RowsIn.mono h.2 fun u w'' he=>⟨keep a k0 u,by rw [← Act.put_comm a v u h2]; exact he⟩⟩
   case round l f tmps assign body=>
    refine ⟨h.1,RoundIn.mono h.2 fun e w'' he=>?_⟩
    cases e with
    | returned u=>exact ⟨keep a k0 u,by rw [← Act.put_comm a v u h2]; exact he⟩
    | panicked c=>exact hQ _ _ _ he
    | outgrown=>exact he
  | halt x w'=>
   cases x <;> simp only [Oper.uponIn] at h ⊢
   case panic u=>exact hQ _ _ _ h
 ·rename_i hw
  simp only [hw] at h
  exact ⟨fun _ _=>trivial,keep a k0 _,by rw [← Act.put_comm a v undef h2]; exact h.2⟩
theorem wpAnyY_first {C:World→Prop} {i:Nat} {oi:Oper} {v:Value} {Gi:Gd} (hi:ops[i]? = some oi) (hsel:∀(j:Nat) (o:Oper) cs b,ops[j]? = some o→o.op ≠ .select cs b) (hdf:∀(j:Nat) (o:Oper) c,ops[j]? = some o→o.op ≠ .defer c)
  (hQ:∀c a w,Q (.panic c) (a.put oi.dst v) w→Q (.panic c) a w) (hGi:∀g,g ∈ Gi→g.1=i) (hC:∀w,gAll P Gi w→C w) :
  ∀(fuel:Nat) (listed:Array Bool) (G:Gd) (a:Act) (w:World),
   (∀j oj,ops[j]? = some oj→j ≠ i→listed.getD j true=false→(∀e ∈ oj.after,Region.binds .any e=true→e.on ≠ i)→oi.apart ops oj=true) →
   i ∈ Region.ready .any ops listed →
   ((Region.wanted oi (yielded ops a.tmps)=true∧∀w,C w→(execOp a.eval oi).run P w=.ok (.value v) w)∨(Region.wanted oi (yielded ops a.tmps)=false∧v=undef)) →
   C w→gAll P G w→wpAnyY r P ops Q fuel (listed.setIfInBounds i true) (Gi++G) (a.put oi.dst v) w→wpAnyY r P ops Q (fuel+1) listed G a w:=by
 intro fuel
 have self:∀{K:Act→World→Prop} {a:Act} {w:World},((Region.wanted oi (yielded ops a.tmps)=true∧∀w,C w→(execOp a.eval oi).run P w=.ok (.value v) w)∨(Region.wanted oi (yielded ops a.tmps)=false∧v=undef))→C w→K (a.put oi.dst v) w→wpOpIn (wideR r) 0 P ops Q i K a w:=by
  intro K a w hy hc hk
  unfold wpOpIn
  simp only [hi]
  rcases hy with ⟨hw,hv⟩ | ⟨hw,rfl⟩
  ·simp only [hw,if_true,Oper.wpIn,Oper.semAt_eq _ _ _ (fun c=>hdf i oi c hi),hv w hc,Oper.uponIn]; exact ⟨fun _ _=>trivial,hk⟩
  ·simp only [hw,Bool.false_eq_true,if_false]; exact ⟨fun _ _=>trivial,hk⟩
 induction fuel with
 | zero=>
  intro listed G a w _ hr hy hc hG H
  refine ⟨hG,fun h=>(by rw [h] at hr; cases hr),fun j hj=>?_⟩
  by_cases hji:j=i
  ·subst hji
   exact self hy hc (H.weaken fun g hg=>List.mem_append_right _ (mem_dropG hg))
  ·have:=ready_mono hj hji
   rw [H.2.1] at this
   cases this
 | succ fuel ih=>
  intro listed G a w hfree hr hy hc hG H
  refine ⟨hG,fun h=>(by rw [h] at hr; cases hr),fun j hj=>?_⟩
  by_cases hji:j=i
  ·subst hji
   exact self hy hc (H.weaken fun g hg=>List.mem_append_right _ (mem_dropG hg))
  ·have h1:=H.2.2 j (ready_mono hj hji)
   obtain ⟨hjun,oj,hoj,hall⟩:=mem_ready.1 hj
   have hnot:∀e ∈ oj.after,Region.binds .any e=true→e.on ≠ i:=fun e he hb heq=>by
    have h1:=hall e he hb
    have h0:=(mem_ready.1 hr).1
    rw [heq] at h1
    rcases Nat.lt_or_ge i listed.size with h' | h'
    ·simp [h'] at h0 h1; rw [h0] at h1; cases h1
    ·simp [Array.getElem?_eq_none h'] at h1
   rw [dropG_append,dropG_keep (waits_spec hoj hnot) hGi] at h1
   have h2:=wpOpY_put hoj (hfree j oj hoj hji hjun hnot) (fun cs b=>hsel i oi cs b hi) (fun cs b=>hsel j oj cs b hoj) (fun c=>hdf j oj c hoj) hQ h1
   have hfree':∀k ok,ops[k]? = some ok→k ≠ i→(listed.setIfInBounds j true).getD k true=false →
     (∀e ∈ ok.after,Region.binds .any e=true→e.on ≠ i)→oi.apart ops ok=true:=fun k ok hk hki hun hno=>by
    refine hfree k ok hk hki ?_ hno
    by_cases hjk:j=k
    ·subst hjk; exact hjun
    ·rw [getD_set_ne true hjk] at hun; exact hun
   refine wpOpIn_mono (fun a' w' h3=>?_) h2
   have hall':=h3.2.all
   refine ih (listed.setIfInBounds j true) (dropG ops j G) a' w' hfree' (ready_mono hr (Ne.symm hji)) ?_ (hC w' fun g hg=>hall' g (List.mem_append_left _ hg)) (fun g hg=>hall' g (List.mem_append_right _ hg)) ?_
   ·unfold SameOp at h3
    rw [h3.1.1,h3.1.2]; exact hy
   ·rw [Array.setIfInBounds_comm _ _ hji]
    exact h3.2
end
abbrev vcDY (P:Program) (n:Nat) (Z:PZ) (cal:List Nat) (os:List Oper) (Q:Env→World→Prop):Plan→List Nat→Gd→Env→World→Prop
 | .fin,done,_,ρ,w=>bif onlyReady done [] os 0 then Q ρ w else False
 | .take i rd p,done,G,ρ,w=>match opAt os i with
  | none=>False
  | some o=>bif (bif readyO done i o then freeO os done i (looksO os o) o.dst os 0 else false) then
    bif rd then match valSem (ev n ρ) o with
     | some s=>guardP n os ρ o
      (fun k=>rD P s w k)
      (fun v=>vcDY P n Z cal os Q p (i::done) ((i,gSemE n os ρ o (nx s),v)::G) (putD ρ o.dst v) w)
     | none=>False
    else guardP n os ρ o
      (fun k=>match o.op with
       | .move x=>k (ev n ρ x)
       | .assign x=>k (ev n ρ x)
       | .nilCheck x=>PureV P (nilChk (ev n ρ x)) k
       | _=>match valSem (ev n ρ) o with
        | some s=>pU P s k
        | none=>False)
      (fun v=>vcDY P n Z cal os Q p (i::done) G (putD ρ o.dst v) w)
   else False
 | .one j p,done,G,ρ,w=>match opAt os j with
  | none=>False
  | some o=>bif (bif readyO done j o then onlyReady done [j] os 0 else false) then
    guardE n os ρ o (fun k=>opY P n Z cal ρ o w k) (fun v w'=>gAnd P w' (dropO o G) (vcDY P n Z cal os Q p (j::done) (dropO o G) (putD ρ o.dst v) w')) w
   else False
 | .two j p k q,done,G,ρ,w=>match opAt os j with
  | none=>False
  | some o=>match opAt os k with
   | none=>False
   | some u=>bif (bif readyO done j o then onlyReady done [j,k] os 0 else false) then
     guardE n os ρ o (fun k=>opY P n Z cal ρ o w k) (fun v w'=>gAnd P w' (dropO o G) (vcDY P n Z cal os Q p (j::done) (dropO o G) (putD ρ o.dst v) w')) w ∧
     guardE n os ρ u (fun k=>opY P n Z cal ρ u w k) (fun v w'=>gAnd P w' (dropO u G) (vcDY P n Z cal os Q q (k::done) (dropO u G) (putD ρ u.dst v) w')) w
    else False
section
variable {r:Option Nat} {P:Program} {n:Nat} {Z:PZ} {cal:List Nat} {ops:Array Oper} {K:Env→World→Prop} {Q:Exit→Act→World→Prop} {ρ0:Env}
theorem wpAnyY_stop {fuel:Nat} {listed:Array Bool} {G:Gd} {a:Act} {w:World} (h0:Region.ready .any ops listed=[]) (hG:gAll P G w) (hq:Q .normal a w):wpAnyY r P ops Q fuel listed G a w:=by
 cases fuel with
 | zero=>exact ⟨hG,h0,hq⟩
 | succ fuel=>exact ⟨hG,fun _=>hq,fun i hi=>by rw [h0] at hi; cases hi⟩
theorem vcDY_sound (hcal:∀f,memN f cal=true→Enters P f) (hs:noSel ops.toList=true) (hnd:noDef ops.toList=true)
  (hQ:∀a ρ w,Rel ds n a ρ→Agree (dsts ops.toList) ρ0 ρ→K ρ w→Q .normal a w) (hZ:∀ch a ρ w,Rel ds n a ρ→Agree (dsts ops.toList) ρ0 ρ→Z ch w→Q (.panic ch) a w) (hQp:∀ch (i:Nat) (o:Oper) v a w,ops[i]? = some o→Q (.panic ch) (a.put o.dst v) w→Q (.panic ch) a w) :
  ∀(p:Plan) (fuel:Nat) (done:List Nat) (G:Gd) (ρ:Env) (w:World) (a:Act) (listed:Array Bool),p.size≤fuel→vcDY P n Z cal ops.toList K p done G ρ w→LR ops done listed→okDone ops done→Rel ds n a ρ→Agree (dsts ops.toList) ρ0 ρ→gAll P G w →
   wpAnyY r P ops Q fuel listed G a w:=by
 have hsel:∀(j:Nat) (o:Oper) cs b,ops[j]? = some o→o.op ≠ .select cs b:=fun j o cs b ho=>
  noSel_spec hs o (Array.mem_toList_iff.2 (Array.mem_of_getElem? ho)) cs b
 have hdf:∀(j:Nat) (o:Oper) c,ops[j]? = some o→o.op ≠ .defer c:=fun j o c ho=>
  noDef_spec hnd o (Array.mem_toList_iff.2 (Array.mem_of_getElem? ho)) c
 have only:∀{done l:List Nat} {listed:Array Bool},LR ops done listed→okDone ops done→onlyReady done l ops.toList 0=true→∀i,i ∈ Region.ready .any ops listed→i ∈ l:=by
  intro done l listed h1 h2 h3 i hi
  obtain ⟨o,ho⟩:=ready_lt hi
  have:=onlyReady_spec h3 i o (by rw [Array.getElem?_toList]; exact ho) (by rw [Nat.zero_add]; exact (mem_readyO h1 h2 ho).1 hi)
  rwa [Nat.zero_add] at this
 -- one operation that must be next
 have next:∀{done:List Nat} {G:Gd} {ρ:Env} {w:World} {a:Act} {listed:Array Bool} {fuel j:Nat} {o:Oper} {p:Plan},
   (∀(done:List Nat) (G:Gd) (ρ:Env) (w:World) (a:Act) (listed:Array Bool),vcDY P n Z cal ops.toList K p done G ρ w→LR ops done listed→okDone ops done→Rel ds n a ρ→Agree (dsts ops.toList) ρ0 ρ→gAll P G w→wpAnyY r P ops Q fuel listed G a w) →
   ops[j]? = some o→LR ops done listed→okDone ops done→Rel ds n a ρ→Agree (dsts ops.toList) ρ0 ρ →
   guardE n ops.toList ρ o (fun k=>opY P n Z cal ρ o w k) (fun v w'=>gAnd P w' (dropO o G) (vcDY P n Z cal ops.toList K p (j::done) (dropO o G) (putD ρ o.dst v) w')) w →
   wpOpIn (wideR r) 0 P ops Q j (wpAnyY r P ops Q fuel (listed.setIfInBounds j true) (dropG ops j G)) a w:=by
  intro done G ρ w a listed fuel j o p ih ho hl hd hr hag h1
  have hilt:j < ops.size:=(Array.getElem?_eq_some_iff.1 ho).1
  have hd':okDone ops (j::done):=fun k hk=>(List.mem_cons.1 hk).elim (fun e=>e ▸ hilt) (hd k)
  rw [dropO_eq ho] at h1
  unfold wpOpIn
  simp only [ho]
  rcases guardE_spec hr h1 with ⟨hw,hA⟩ | ⟨hw,hB⟩
  ·rw [if_pos hw]
   unfold Oper.wpIn
   obtain ⟨ha,hb⟩:=opY_sound hcal hA
   rw [Oper.semAt_eq _ _ _ hb,hr.eval]
   refine ⟨fun _ _=>trivial,opVR_uponIn ha (fun v w' hk=>?_) (fun ch w' hz=>hZ ch a ρ w' hr hag hz)⟩
   obtain ⟨hg,hk⟩:=gAnd_spec hk
   exact ih _ _ _ w' _ _ hk (hl.put j) hd' (hr.put o.dst v) (hag.trans (agree_putD ho ρ v)) hg
  ·rw [hw]
   obtain ⟨hg,hk⟩:=gAnd_spec hB
   exact ⟨fun _ _=>trivial,ih _ _ _ w _ _ hk (hl.put j) hd' (hr.put o.dst undef) (hag.trans (agree_putD ho ρ undef)) hg⟩
 intro p
 induction p with
 | fin=>
  intro fuel done G ρ w a listed _ h hl hd hr hag hG
  unfold vcDY at h
  cases hc:onlyReady done [] ops.toList 0 with
  | false=>rw [hc] at h; exact h.elim
  | true=>
   rw [hc] at h
   exact wpAnyY_stop (List.eq_nil_iff_forall_not_mem.2 fun i hi=>by cases only hl hd hc i hi) hG (hQ a ρ w hr hag h)
 | take i rd p ih=>
  intro fuel done G ρ w a listed hf h hl hd hr hag hG
  simp only [Plan.size] at hf
  obtain ⟨fuel,rfl⟩:∃m,fuel=m+1:=⟨fuel - 1,by omega⟩
  unfold vcDY at h
  rw [opAt_eq] at h
  split at h
  ·exact h.elim
  ·rename_i o ho
   have hilt:i < ops.size:=(Array.getElem?_eq_some_iff.1 ho).1
   have hd':okDone ops (i::done):=fun k hk=>(List.mem_cons.1 hk).elim (fun e=>e ▸ hilt) (hd k)
   cases hrd0:readyO done i o with
   | false=>rw [hrd0] at h; exact h.elim
   | true=>
   have hrd:=(mem_readyO hl hd ho).2 hrd0
   rw [hrd0] at h
   simp only [cond_true] at h
   cases hfr:freeO ops.toList done i (looksO ops.toList o) o.dst ops.toList 0 with
   | false=>rw [hfr] at h; exact h.elim
   | true=>
    rw [hfr] at h
    simp only [cond_true] at h
    have hfree:∀j oj,ops[j]? = some oj→j ≠ i→listed.getD j true=false→(∀e ∈ oj.after,Region.binds .any e=true→e.on ≠ i)→o.apart ops oj=true:=by
     intro j oj hj hne hun hno
     have hjlt:j < ops.size:=(Array.getElem?_eq_some_iff.1 hj).1
     have hnd:memN j done=false:=by rw [← hl.get j hjlt]; exact hun
     exact apartO_spec (freeO_spec hfr j oj (by rw [Array.getElem?_toList]; exact hj) (by rw [Nat.zero_add]; exact hne) (by rw [Nat.zero_add]; exact hnd) (by rw [waitsO_spec hj]; exact waits_spec hj hno))
    have ih':=fun done G ρ w a listed=>ih fuel done G ρ w a listed (by omega)
    cases rd with
    | false=>
     simp only [cond_false] at h
     rcases guardP_spec hr h with ⟨hw,hA⟩ | ⟨hw,hB⟩
     ·have key:∃v,(∀w,(execOp (ev n ρ) o).run P w=.ok (.value v) w)∧vcDY P n Z cal ops.toList K p (i::done) G (putD ρ o.dst v) w:=by
       split at hA
       ·rename_i x hx; exact ⟨_,fun w=>by simp only [execOp,hx]; rfl,hA⟩
       ·rename_i x hx; exact ⟨_,fun w=>by simp only [execOp,hx]; rfl,hA⟩
       ·rename_i x hx
        obtain ⟨v,hv,hA⟩:=hA.out
        refine ⟨v,fun w=>?_,hA⟩
        have:=hv w
        simp only [nilChk,execOp] at this
        simp only [execOp,hx]
        exact this
       ·split at hA
        ·rename_i s hs
         obtain ⟨v,hv,hA⟩:=hA.out; exact ⟨v,fun w=>by rw [valSem_spec hs]; exact hv w,hA⟩
        ·exact hA.elim
      obtain ⟨v,hv,hA⟩:=key
      refine wpAnyY_first (C:=fun _=>True) (Gi:=[]) (v:=v) ho hsel hdf (fun c a w hq=>hQp _ _ _ _ _ _ ho hq) (fun g hg=>by cases hg) (fun _ _=>trivial) fuel listed G a w hfree hrd (.inl ⟨hw,fun w _=>by rw [hr.eval]; exact hv w⟩) trivial hG ?_
      exact ih' _ _ _ w _ _ hA (hl.put i) hd' (hr.put o.dst _) (hag.trans (agree_putD ho ρ _)) hG
     ·refine wpAnyY_first (C:=fun _=>True) (Gi:=[]) (v:=undef) ho hsel hdf (fun c a w hq=>hQp _ _ _ _ _ _ ho hq) (fun g hg=>by cases hg) (fun _ _=>trivial) fuel listed G a w hfree hrd (.inr ⟨hw,rfl⟩) trivial hG ?_
      exact ih' _ _ _ w _ _ hB (hl.put i) hd' (hr.put o.dst undef) (hag.trans (agree_putD ho ρ undef)) hG
    | true=>
     simp only [cond_true] at h
     split at h
     case h_2=>exact h.elim
     rename_i s hs
     rcases guardP_spec hr h with ⟨hw,hA⟩ | ⟨hw,hB⟩
     ·obtain ⟨v,hv,hA⟩:=hA.out
      have hv':(gSemE n ops.toList ρ o (nx s)).run P w=.ok (.value v) w:=by rw [gSem_yes hr hw]; exact hv
      refine wpAnyY_first (C:=fun w=>(gSemE n ops.toList ρ o (nx s)).run P w=.ok (.value v) w) (Gi:=[(i,gSemE n ops.toList ρ o (nx s),v)]) (v:=v) ho hsel hdf (fun c a w hq=>hQp _ _ _ _ _ _ ho hq) (fun g hg=>by simp at hg; subst hg; rfl)
       (fun w hg=>hg _ List.mem_cons_self) fuel listed G a w hfree hrd (.inl ⟨hw,fun w hc=>by rw [hr.eval,valSem_spec hs]; rw [gSem_yes hr hw] at hc; exact hc⟩) hv' hG ?_
      refine ih' _ _ _ w _ _ hA (hl.put i) hd' (hr.put o.dst _) (hag.trans (agree_putD ho ρ _)) fun g hg=>?_
      exact (List.mem_cons.1 hg).elim (fun e=>e ▸ hv') (hG g)
     ·have hv':(gSemE n ops.toList ρ o (nx s)).run P w=.ok (.value undef) w:=by rw [gSem_no hr hw]; rfl
      refine wpAnyY_first (C:=fun w=>(gSemE n ops.toList ρ o (nx s)).run P w=.ok (.value undef) w) (Gi:=[(i,gSemE n ops.toList ρ o (nx s),undef)]) (v:=undef) ho hsel hdf (fun c a w hq=>hQp _ _ _ _ _ _ ho hq) (fun g hg=>by simp at hg; subst hg; rfl)
       (fun w hg=>hg _ List.mem_cons_self) fuel listed G a w hfree hrd (.inr ⟨hw,rfl⟩) hv' hG ?_
      refine ih' _ _ _ w _ _ hB (hl.put i) hd' (hr.put o.dst undef) (hag.trans (agree_putD ho ρ undef)) fun g hg=>?_
      exact (List.mem_cons.1 hg).elim (fun e=>e ▸ hv') (hG g)
 | one j p ih=>
  intro fuel done G ρ w a listed hf h hl hd hr hag hG
  simp only [Plan.size] at hf
  obtain ⟨fuel,rfl⟩:∃m,fuel=m+1:=⟨fuel - 1,by omega⟩
  unfold vcDY at h
  rw [opAt_eq] at h
  split at h
  ·exact h.elim
  ·rename_i o ho
   have hilt:j < ops.size:=(Array.getElem?_eq_some_iff.1 ho).1
   cases hrd:readyO done j o with
   | false=>rw [hrd] at h; exact h.elim
   | true=>
   cases hc:onlyReady done [j] ops.toList 0 with
   | false=>rw [hrd,hc] at h; exact h.elim
   | true=>
    rw [hrd,hc] at h
    simp only [cond_true] at h
    have hop:=next (p:=p) (fun done G ρ w a listed=>ih fuel done G ρ w a listed (by omega)) ho hl hd hr hag h
    refine ⟨hG,fun h0=>?_,fun i hi=>?_⟩
    ·have:=(mem_readyO hl hd ho).2 hrd; rw [h0] at this; cases this
    ·have:=only hl hd hc i hi
     simp at this
     subst this
     exact hop
 | two j p k q ihp ihq=>
  intro fuel done G ρ w a listed hf h hl hd hr hag hG
  simp only [Plan.size] at hf
  obtain ⟨fuel,rfl⟩:∃m,fuel=m+1:=⟨fuel - 1,by omega⟩
  unfold vcDY at h
  rw [opAt_eq,opAt_eq] at h
  split at h
  ·exact h.elim
  ·rename_i o ho
   split at h
   ·exact h.elim
   ·rename_i u hu
    cases hrd:readyO done j o with
    | false=>rw [hrd] at h; exact h.elim
    | true=>
    cases hc:onlyReady done [j,k] ops.toList 0 with
    | false=>rw [hrd,hc] at h; exact h.elim
    | true=>
     rw [hrd,hc] at h
     simp only [cond_true] at h
     have hop:=next (p:=p) (fun done G ρ w a listed=>ihp fuel done G ρ w a listed (by omega)) ho hl hd hr hag h.1
     have hoq:=next (p:=q) (fun done G ρ w a listed=>ihq fuel done G ρ w a listed (by omega)) hu hl hd hr hag h.2
     refine ⟨hG,fun h0=>?_,fun i hi=>?_⟩
     ·have:=(mem_readyO hl hd ho).2 hrd; rw [h0] at this; cases this
     ·have:=only hl hd hc i hi
      simp at this
      rcases this with rfl | rfl
      ·exact hop
      ·exact hoq
end
abbrev drawY (p:Plan) (P:Program) (n:Nat) (Z:PZ) (cal:List Nat) (ops:Array Oper) (Q:Env→World→Prop) (ρ:Env) (w:World):Prop:=
 bif (bif Nat.ble p.size ops.toList.length then noSel ops.toList else false) then Drawn w fun w'=>vcDY P n Z cal ops.toList Q p [] [] ρ w' else False
theorem drawY_in {r:Option Nat} (p:Plan) (P:Program) (n:Nat) (Z:PZ) (cal:List Nat) (id:Nat) (ops:Array Oper) (K:Env→World→Prop) (ρ:Env) (w:World) (a:Act) (Q:Exit→Act→World→Prop)
  (hm:P.follows .mixedOrders=true) (hcal:∀f,memN f cal=true→Enters P f) (hdf:noDef ops.toList=true) (h:drawY p P n Z cal ops K ρ w) (hr:Rel ds n a ρ) (hQ:∀a' ρ' w',Rel ds n a' ρ'→Agree (dsts ops.toList) ρ ρ'→K ρ' w'→Q .normal a' w')
  (hZ:∀ch a' w',Kept ds n (dsts ops.toList) ρ a'→Z ch w'→Q (.panic ch) a' w'):(Code.region id ops true).wpIn (wideR r) 0 P Q a w:=by
 unfold drawY at h
 cases hp:Nat.ble p.size ops.toList.length with
 | false=>rw [hp] at h; exact h.elim
 | true=>
 cases hs:noSel ops.toList with
 | false=>rw [hp,hs] at h; exact h.elim
 | true=>
  rw [hp,hs] at h
  have h1:=h.out { w with drawn:=w.drawn+1 } ⟨rfl,rfl,rfl,rfl⟩
  let Q':Exit→Act→World→Prop:=fun e a w=>match e with
   | .normal=>Q .normal a w
   | .panic ch=>Kept ds n (dsts ops.toList) ρ a∧Z ch w
   | _=>False
  have h2:=vcDY_sound (r:=r) (Q:=Q') (ρ0:=ρ) hcal hs hdf (fun a' ρ' w' hr' hag hk=>hQ a' ρ' w' hr' hag hk) (fun ch a' ρ' w' hr' hag hz=>⟨hr'.kept hag,hz⟩)
   (fun ch i o v a' w' ho hq=>⟨hq.1.unput fun t ht=>memN_of_mem (mem_dsts (Array.mem_toList_iff.2 (Array.mem_of_getElem? ho)) ht),hq.2⟩) p ops.size [] [] ρ { w with drawn:=w.drawn+1 } a (Array.replicate ops.size false) (by simpa using Nat.le_of_ble_eq_true hp) h1
   ⟨by simp,fun i hi=>by simp [hi,memN]⟩ (fun i hi=>by cases hi) hr (Agree.refl _ _) (fun g hg=>by cases hg)
  refine wpIn_mono (wpIn_region_any hm h2.any) fun e a' w' hq=>?_
  cases e with
  | normal=>exact hq
  | panic ch=>exact hZ ch a' w' hq.1 hq.2
  | _=>exact hq.elim
abbrev vcR (P:Program) (n:Nat) (Z:PZ) (cal:List Nat):An→Code→(Exit→Env→World→Prop)→Env→World→Prop
 | .leaf,c,Q,ρ,w=>match c with
  | .skip=>Q .normal ρ w
  | .label _=>Q .normal ρ w
  | .exit id=>Q (.exit id) ρ w
  | .ret=>Q .ret ρ w
  | .region _ ops draw=>bif draw then False else vcYs P n Z cal ops.toList (fun ρ w=>Q .normal ρ w) ops.toList ρ w
  | _=>False
 | .dr p,c,Q,ρ,w=>match c with
  | .region _ ops draw=>bif (bif draw then noDef ops.toList else false) then drawY p P n Z cal ops (fun ρ w=>Q .normal ρ w) ρ w else False
  | _=>False
 | .sq a b,c,Q,ρ,w=>match c with
  | .seq x y=>vcR P n Z cal a x (thenE (fun ρ' w'=>vcR P n Z cal b y Q ρ' w') Q) ρ w
  | _=>False
 | .sj L a b,c,Q,ρ,w=>match c with
  | .seq x y=>
    ∀j:Cur L.length,(allN L.length fun ys=>∀w',(∀junk:Env,vcR P n Z cal b y Q (putMany L ys (mix (writes x) ρ junk)) w')→app _ j ys w') →
     vcR P n Z cal a x (thenE (fun ρ' w'=>app _ j (L.map ρ') w') Q) ρ w
  | _=>False
 | .cn a b,c,Q,ρ,w=>match c with
  | .cond t x y=>cV (ev n ρ t) (vcR P n Z cal a x Q ρ w) (vcR P n Z cal b y Q ρ w)
  | _=>False
 | .bl a,c,Q,ρ,w=>match c with
  | .block id x=>vcR P n Z cal a x (inBlockE id Q) ρ w
  | _=>False
 | .lp L a,c,Q,ρ,w=>match c with
  | .loop x=>
    ∃J:Nat→Cur L.length,(∃m,app _ (J m) (L.map ρ) w)∧∀m,allN L.length fun ys=>∀w',app _ (J m) ys w'→∀junk:Env,
     vcR P n Z cal a x (thenE (fun ρ'' w''=>∃m',m' < m∧app _ (J m') (L.map ρ'') w'') Q) (putMany L ys (mix (writes x) ρ junk)) w'
  | _=>False
section
variable {P:Program} {n:Nat} {Z:PZ} {cal:List Nat}
theorem wpIn_loop_ix {F:Fence} {k:Nat} {Q:Exit→Act→World→Prop} {c:Code} (I:Nat→Act→World→Prop) (round:∀m a w,I m a w→c.wpIn F k P (Exit.then (fun a' w'=>∃m',m' < m∧I m' a' w') Q) a w)
  {m:Nat} {a:Act} {w:World} (h:I m a w):(Code.loop c).wpIn F k P Q a w:=by
 intro b k cs hro hb hr
 have key:∀m a w,I m a w→∃e a' w',Q e a' w'∧ArrivesIn (Machine.fenced P F) P (lone (b.atR a (.code c::.inLoop c::k)) cs w) b k cs e a' w':=by
  intro m
  induction m using Nat.strongRecOn with
  | _ m ih=>
   intro a w hI
   obtain ⟨e,a₁,w₁,hq,harr⟩:=round m a w hI b (.inLoop c::k) cs hro hb hr
   cases e with
   | normal=>
    obtain ⟨m',hlt,hI₁⟩:=hq
    obtain ⟨e₂,a₂,w₂,hq₂,harr₂⟩:=ih m' hlt a₁ w₁ hI₁
    exact ⟨e₂,a₂,w₂,hq₂,.of_steps (StepsIn.trans harr (.one (fenced_calm hb hr rfl) stepR_inLoop)) harr₂⟩
   | exit id=>exact ⟨_,a₁,w₁,hq,.pass (x:=.inLoop c) rfl (fun _ _=>.inl (by simp)) harr⟩
   | goto l=>exact ⟨_,a₁,w₁,hq,.pass (x:=.inLoop c) rfl (fun _ _=>.inl (by simp)) harr⟩
   | ret=>exact ⟨_,a₁,w₁,hq,.pass (x:=.inLoop c) rfl (fun _ _=>.inl (by simp)) harr⟩
   | panic ch=>exact ⟨_,a₁,w₁,hq,.pass (x:=.inLoop c) rfl (fun _ _=>.inl (by simp)) harr⟩
   | outgrown=>exact ⟨_,a₁,w₁,hq,.pass (x:=.inLoop c) rfl (fun _ _=>.inl (by simp)) harr⟩
 obtain ⟨e,a',w',hq,harr⟩:=key m a w h
 exact ⟨e,a',w',hq,.of_steps (.one (fenced_calm hb hr rfl) stepR_loop) harr⟩
theorem vcR_sound {r:Option Nat} (hm:P.follows .mixedOrders=true) (hcal:∀f,memN f cal=true→Enters P f):∀(an:An) (c:Code) (Q:Exit→Env→World→Prop) (ρ:Env) (w:World) (a:Act),
  vcR P n Z cal an c Q ρ w→Rel ds n a ρ→c.wpIn (wideR r) 0 P (Full ds n fun e ρ' w'=>Agree (writes c) ρ ρ'∧zq Z Q e ρ' w') a w:=by
 intro an
 induction an with
 | leaf=>
  intro c Q ρ w a h hr
  cases c with
  | skip=>exact wpIn_skip ⟨ρ,hr,Agree.refl _ _,h⟩
  | label l=>exact wpIn_label ⟨ρ,hr,Agree.refl _ _,h⟩
  | exit id=>exact wpIn_exit ⟨ρ,hr,Agree.refl _ _,h⟩
  | ret=>exact wpIn_ret ⟨ρ,hr,Agree.refl _ _,h⟩
  | region id ops draw=>
   cases draw with
   | true=>exact h.elim
   | false=>
    have h1:=vcYs_sound (r:=r) hcal (Q:=Full ds n fun e ρ' w'=>Agree (dsts ops.toList) ρ ρ'∧zq Z Q e ρ' w') (K:=fun ρ w=>Q .normal ρ w) (ρ0:=ρ) (fun a' ρ' w' hr' hag hk=>⟨ρ',hr',hag,hk⟩) (fun ch a' ρ' w' hr' hag hz=>⟨ρ',hr',hag,hz⟩) ops.toList [] ρ w a rfl h hr (Agree.refl _ _)
    refine wpIn_region ?_
    show wpOpsIn (wideR r) 0 P ops (Full ds n fun e ρ' w'=>Agree (dsts ops.toList) ρ ρ'∧zq Z Q e ρ' w') _ a w
    rw [List.range_eq_range']
    simpa using h1
  | _=>exact h.elim
 | dr p=>
  intro c Q ρ w a h hr
  cases c with
  | region id ops draw=>
   cases draw with
   | false=>exact h.elim
   | true=>
    cases hdf:noDef ops.toList with
    | false=>rw [vcR,hdf] at h; exact h.elim
    | true=>
     rw [vcR,hdf] at h
     exact drawY_in p P n Z cal id ops _ ρ w a _ hm hcal hdf h hr (fun a' ρ' w' hr' hag hk=>⟨ρ',hr',hag,hk⟩) (fun ch a' w' hk hz=>let ⟨ρ',hr',hag⟩:=hk.rel; ⟨ρ',hr',hag,hz⟩)
  | _=>exact h.elim
 | sq an1 an2 ihx ihy=>
  intro c Q ρ w a h hr
  cases c with
  | seq x y=>
   refine wpIn_seq (wpIn_mono (ihx x _ ρ w a h hr) fun e a' w' hf=>?_)
   cases e with
   | normal=>
    obtain ⟨ρ',hr',hag,hk⟩:=hf
    exact wpIn_mono (ihy y _ ρ' w' a' hk hr') (Full.mono fun e ρ'' w'' ⟨h1,h2⟩=>⟨hag.left.trans h1.right,h2⟩)
   | outgrown=>exact hf
   | _=>obtain ⟨ρ',hr',hag,hk⟩:=hf; exact ⟨ρ',hr',hag.left,hk⟩
  | _=>exact h.elim
 | sj L an1 an2 ihx ihy=>
  intro c Q ρ w a h hr
  cases c with
  | seq x y=>
   unfold vcR at h
   have h1:=h (lam L.length fun ys w'=>∀junk:Env,vcR P n Z cal an2 y Q (putMany L ys (mix (writes x) ρ junk)) w')
    (allN_all _ _ fun ys hl w' hj=>(app_lam _ _ _ _ hl).2 hj)
   refine wpIn_seq (wpIn_mono (ihx x _ ρ w a h1 hr) fun e a' w' hf=>?_)
   cases e with
   | normal=>
    obtain ⟨ρ',hr',hag,hk⟩:=hf
    have hk2:=(app_lam _ _ _ _ (by simp)).1 hk ρ'
    rw [putMany_id hag] at hk2
    exact wpIn_mono (ihy y _ ρ' w' a' hk2 hr') (Full.mono fun e ρ'' w'' ⟨h1,h2⟩=>⟨hag.left.trans h1.right,h2⟩)
   | outgrown=>exact hf
   | _=>obtain ⟨ρ',hr',hag,hk⟩:=hf; exact ⟨ρ',hr',hag.left,hk⟩
  | _=>exact h.elim
 | cn an1 an2 ihx ihy=>
  intro c Q ρ w a h hr
  cases c with
  | cond t x y=>
   unfold vcR at h
   have h:=h.out
   split at h
   ·rename_i b hb
    refine wpIn_cond_split (t:=b) (by rw [hr.eval]; exact hb) (fun ht=>?_) (fun ht=>?_)
    ·exact wpIn_mono (ihx x _ ρ w a (h.1 ht) hr) (Full.mono fun e ρ'' w'' ⟨h1,h2⟩=>⟨h1.left,h2⟩)
    ·exact wpIn_mono (ihy y _ ρ w a (h.2 ht) hr) (Full.mono fun e ρ'' w'' ⟨h1,h2⟩=>⟨h1.right,h2⟩)
   ·exact h.elim
  | _=>exact h.elim
 | bl an ih=>
  intro c Q ρ w a h hr
  cases c with
  | block id x=>
   refine wpIn_block (wpIn_mono (ih x _ ρ w a h hr) fun e a' w' hf=>?_)
   cases e with
   | exit i=>
    obtain ⟨ρ',hr',hag,hk⟩:=hf
    simp only [zq,inBlockE] at hk
    by_cases e:i=id
    ·subst e
     rw [Nat.beq_refl] at hk
     simp only [Exit.inBlock,if_true]
     exact ⟨ρ',hr',hag,hk⟩
    ·rw [beq_false_of_ne e] at hk
     simp only [Exit.inBlock,e,if_false]
     exact ⟨ρ',hr',hag,hk⟩
   | outgrown=>exact hf
   | _=>exact hf
  | _=>exact h.elim
 | lp L an ih=>
  intro c Q ρ w a h hr
  cases c with
  | loop x=>
   unfold vcR at h
   obtain ⟨J,⟨m,h0⟩,hstep⟩:=h
   refine wpIn_loop_ix (I:=fun m a w=>∃ρ',Rel ds n a ρ'∧Agree (writes x) ρ ρ'∧app _ (J m) (L.map ρ') w) (fun m' a' w' hI=>?_) ⟨ρ,hr,Agree.refl _ _,h0⟩
   obtain ⟨ρ',hr',hag,hJ⟩:=hI
   have h1:=allN_at _ _ (L.map ρ') (hstep m') (by simp) w' hJ ρ'
   rw [putMany_id hag] at h1
   refine wpIn_mono (ih x _ ρ' w' a' h1 hr') fun e a'' w'' hf=>?_
   cases e with
   | normal=>
    obtain ⟨ρ'',hr'',hag'',m'',hlt,hJ''⟩:=hf
    exact ⟨m'',hlt,ρ'',hr'',hag.trans hag'',hJ''⟩
   | outgrown=>exact hf
   | _=>obtain ⟨ρ'',hr'',hag'',hk⟩:=hf; exact ⟨ρ'',hr'',hag.trans hag'',hk⟩
  | _=>exact h.elim
end

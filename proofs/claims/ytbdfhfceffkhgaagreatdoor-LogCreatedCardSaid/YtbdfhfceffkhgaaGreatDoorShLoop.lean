import Derived.Test.YtbdfhfceffkhgaaGreatDoorShOps
import Derived.OrdersIn
import Derived.RangeFuncRecord
/- Code in the rounds of a loop over a function; functions that such a loop ranges over (they call yield); the loop's statement. Nothing of any one program stands here. -/
namespace Go.Sh
variable {ds:List Deferred}
abbrev wideR (r:Option Nat):Fence:={ fn:=fun _=>True,depth:=none,alive:=false,round:=r }
theorem wideR_calls {r:Option Nat} {k:Nat} {P:Program} {f:FuncId} {args:Array Value} {w:World} {R:Ending→World→Prop} (h:Calls P f args w R):CallsIn (wideR r) k P f args w R:=
 (callsIn_wide (n:=k)).2 h
theorem wideR_rows {r:Option Nat} {k:Nat} {P:Program} {row:String} {args:Array Value} {w:World} {R:PQ} (h:Rows P row args w R):RowsIn (wideR r) k P row args w R:=fun c cs _=>
 let ⟨v,w',hr,hs⟩:=h c cs; ⟨v,w',hr,(stepsIn_wide (P:=P)).2 hs⟩
theorem wideR_round {r:Option Nat} {k j:Nat} {P:Program} {l:Nat} {f:FuncId} {tmps:Array Value} {assign body:Code} {w:World} {R:Ending→World→Prop} (h:RoundIn Fence.wide k P l f tmps assign body w R):RoundIn (wideR r) j P l f tmps assign body w R:=
 ⟨trivial,fun c cs _=>h.2 c cs (room_wide _)⟩
def opVR (P:Program) (Z:PZ) (r:Result Next) (k:PQ):Prop:=
 match r with
 | .ok (.round l f tmps assign body) w=>RoundIn Fence.wide 0 P l f tmps assign body w fun e w'=>match e with
  | .returned v=>k v w'
  | .panicked ch=>Z ch w'
  | .outgrown=>False
 | r=>opV P Z r k
structure runY (P:Program) (Z:PZ) (s:Sem Next) (w:World) (k:PQ):Prop where
 out:opVR P Z (s.run P w) k
theorem opVR_of {P:Program} {Z:PZ} {r:Result Next} {k:PQ} (h:opV P Z r k):opVR P Z r k:=by
 unfold opVR
 split
 ·exact h.elim
 ·exact h
abbrev opY (P:Program) (n:Nat) (Z:PZ) (cal:List Nat) (ρ:Env) (o:Oper) (w:World) (k:PQ):Prop:=
 match o.op with
 | .call ⟨.value f,args,_⟩=>match f with
  | .func f=>bif memN f cal then CallV P Z f (argsV (ev n ρ) args) w k else runX P Z (callFunc f (argsV (ev n ρ) args)) w k
  | f=>runY P Z (callVal (ev n ρ f) (argsV (ev n ρ) args)) w k
 | _=>opE P n Z cal ρ o w k
theorem opY_sound {P:Program} {n:Nat} {Z:PZ} {cal:List Nat} (hcal:∀f,memN f cal=true→Enters P f) {ρ:Env} {o:Oper} {w:World} {k:PQ}
  (h:opY P n Z cal ρ o w k):opVR P Z ((execOp (ev n ρ) o).run P w) k∧∀c,o.op ≠ .defer c:=by
 have old:opE P n Z cal ρ o w k→(∀c,o.op ≠ .defer c)→opVR P Z ((execOp (ev n ρ) o).run P w) k∧∀c,o.op ≠ .defer c:=fun h hd=>⟨opVR_of (opE_sound hcal h),hd⟩
 obtain ⟨dst,op,type,pos,after,guard⟩:=o
 cases op
 case call c=>
  obtain ⟨callee,args,argTypes⟩:=c
  cases callee
  case value f=>
   cases f
   case func f=>exact old h (by simp)
   all_goals
    refine ⟨?_,by simp⟩
    simp only [execOp,resolve,← listmap_arr]
    exact runY.out (s:=callVal _ _) h
  all_goals exact old h (by simp)
 case defer c=>exact h.elim
 all_goals exact old h (by simp)
theorem opVR_uponIn {P:Program} {Z:PZ} {r:Option Nat} {res:Result Next} {k:PQ} {o:Oper} {a:Act} {next:Act→World→Prop} {Q:Exit→Act→World→Prop}
  (h:opVR P Z res k) (hk:∀v w,k v w→next (a.put o.dst v) w) (hz:∀ch w,Z ch w→Q (.panic ch) a w):o.uponIn (wideR r) 0 P a next Q res:=by
 unfold opVR at h
 split at h
 ·refine ⟨(fun h=>by cases h),RoundIn.mono (wideR_round h) fun e w' he=>?_⟩
  cases e with
  | returned v=>exact hk _ _ he
  | panicked ch=>exact hz _ _ he
  | outgrown=>exact he.elim
 ·unfold opV at h
  split at h <;> simp only [Oper.uponIn]
  ·exact hk _ _ h
  ·exact hk _ _ h
  ·refine ⟨(fun h=>by cases h),CallsIn.mono (wideR_calls h) fun e w' he=>?_⟩
   cases e with
   | returned v=>exact hk _ _ he
   | panicked ch=>exact hz _ _ he
   | outgrown=>exact he.elim
  ·exact ⟨(fun h=>by cases h),RowsIn.mono (wideR_rows h) fun v w' he=>hk _ _ he⟩
  ·exact hz _ _ h
  ·exact h.elim
abbrev vcYs (P:Program) (n:Nat) (Z:PZ) (cal:List Nat) (os:List Oper) (Q:Env→World→Prop):List Oper→Env→World→Prop
 | [],ρ,w=>Q ρ w
 | o::rest,ρ,w=>guardE n os ρ o (fun k=>opY P n Z cal ρ o w k) (fun v w'=>vcYs P n Z cal os Q rest (putD ρ o.dst v) w') w
section
variable {P:Program} {n:Nat} {Z:PZ} {cal:List Nat}
theorem vcYs_sound {r:Option Nat} (hcal:∀f,memN f cal=true→Enters P f) {ops:Array Oper} {Q:Exit→Act→World→Prop} {K:Env→World→Prop} {ρ0:Env}
  (hQ:∀a ρ w,Rel ds n a ρ→Agree (dsts ops.toList) ρ0 ρ→K ρ w→Q .normal a w) (hZ:∀ch a ρ w,Rel ds n a ρ→Agree (dsts ops.toList) ρ0 ρ→Z ch w→Q (.panic ch) a w) :
  ∀(l:List Oper) (pre:List Oper) (ρ:Env) (w:World) (a:Act),ops.toList=pre++l→vcYs P n Z cal ops.toList K l ρ w→Rel ds n a ρ→Agree (dsts ops.toList) ρ0 ρ→wpOpsIn (wideR r) 0 P ops Q (List.range' pre.length l.length) a w:=by
 intro l
 induction l with
 | nil=>intro pre ρ w a _ h hr hag; exact hQ a ρ w hr hag h
 | cons o rest ih=>
  intro pre ρ w a hl h hr hag
  simp only [vcYs] at h
  have ho:ops[pre.length]? = some o:=by rw [← Array.getElem?_toList,hl]; simp
  have hl2:ops.toList=(pre++[o])++rest:=by rw [hl]; simp
  have ih2:=fun ρ w a h hr hag=>ih (pre++[o]) ρ w a hl2 h hr hag
  simp only [List.length_append,List.length_cons,List.length_nil] at ih2
  rw [List.length_cons,List.range'_succ]
  simp only [wpOpsIn,ho]
  rcases guardE_spec hr h with ⟨hw,hA⟩ | ⟨hw,hB⟩
  ·rw [if_pos hw]
   unfold Oper.wpIn
   obtain ⟨h1,h2⟩:=opY_sound hcal hA
   rw [Oper.semAt_eq _ _ _ h2,hr.eval]
   exact ⟨fun _ _=>trivial,opVR_uponIn h1 (fun v w' hk=>ih2 _ w' _ hk (hr.put o.dst v) (hag.trans (agree_putD ho ρ v))) (fun ch w' hz=>hZ ch a ρ w' hr hag hz)⟩
  ·rw [hw]
   exact ⟨fun _ _=>trivial,ih2 _ w _ hB (hr.put o.dst undef) (hag.trans (agree_putD ho ρ undef))⟩
end
abbrev noDef:List Oper→Bool
 | []=>true
 | o::os=>match o.op with
  | .defer _=>false
  | _=>noDef os
theorem noDef_spec:∀{os:List Oper},noDef os=true→∀o,o ∈ os→∀c,o.op ≠ .defer c
 | [],_,o,ho,_=>by cases ho
 | x::os,h,o,ho,c=>by
  intro e
  unfold noDef at h
  rcases List.mem_cons.1 ho with rfl | ho
  ·rw [e] at h; cases h
  ·split at h
   ·cases h
   ·exact noDef_spec h o ho c e
section
variable {r:Option Nat} {P:Program} {ops:Array Oper} {Q:Exit→Act→World→Prop}
def wpAnyY (r:Option Nat) (P:Program) (ops:Array Oper) (Q:Exit→Act→World→Prop):Nat→Array Bool→Gd→Act→World→Prop
 | 0,listed,G,a,w=>gAll P G w∧Region.ready .any ops listed=[]∧Q .normal a w
 | fuel+1,listed,G,a,w=>gAll P G w∧(Region.ready .any ops listed=[]→Q .normal a w) ∧
  ∀i ∈ Region.ready .any ops listed,wpOpIn (wideR r) 0 P ops Q i (wpAnyY r P ops Q fuel (listed.setIfInBounds i true) (dropG ops i G)) a w
theorem wpAnyY.all:∀{fuel:Nat} {listed:Array Bool} {G:Gd} {a:Act} {w:World},wpAnyY r P ops Q fuel listed G a w→gAll P G w
 | 0,_,_,_,_,h=>h.1
 | _+1,_,_,_,_,h=>h.1
theorem wpAnyY.any:∀{fuel:Nat} {listed:Array Bool} {G:Gd} {a:Act} {w:World},wpAnyY r P ops Q fuel listed G a w→wpAnyIn (wideR r) 0 P .any ops Q fuel listed a w
 | 0,_,_,_,_,h=>h.2
 | _+1,_,_,_,_,h=>⟨h.2.1,fun i hi=>wpOpIn_mono (fun _ _ hh=>wpAnyY.any hh) (h.2.2 i hi)⟩
theorem wpAnyY.weaken:∀{fuel:Nat} {listed:Array Bool} {G G':Gd} {a:Act} {w:World},(∀g,g ∈ G'→g ∈ G)→wpAnyY r P ops Q fuel listed G a w→wpAnyY r P ops Q fuel listed G' a w
 | 0,_,_,_,_,_,hs,h=>⟨fun g hg=>h.1 g (hs g hg),h.2⟩
 | _+1,_,_,_,_,_,hs,h=>⟨fun g hg=>h.1 g (hs g hg),h.2.1,fun i hi=>wpOpIn_mono (fun _ _ hh=>wpAnyY.weaken (dropG_sub hs) hh) (h.2.2 i hi)⟩
theorem wpOpY_put {j:Nat} {oi oj:Oper} {v:Value} (hj:ops[j]? = some oj) (hap:oi.apart ops oj=true)
  (hsi:∀cs b,oi.op ≠ .select cs b) (hsj:∀cs b,oj.op ≠ .select cs b) (hdj:∀c,oj.op ≠ .defer c)
  (hQ:∀c a w,Q (.panic c) (a.put oi.dst v) w→Q (.panic c) a w) {K:Act→World→Prop} {a:Act} {w:World}
  (h:wpOpIn (wideR r) 0 P ops Q j K (a.put oi.dst v) w):wpOpIn (wideR r) 0 P ops Q j (fun a' w'=>SameOp ops oi a a'∧K (a'.put oi.dst v) w') a w:=by
 obtain ⟨h1,h2,h3⟩:=Oper.apart_spec hap
 have keep:∀(b:Act),SameOp ops oi a b→∀u,SameOp ops oi a (b.put oj.dst u):=fun b hy u=>
  ⟨(execOp_put oi hsi b oj.dst u h3).trans hy.1,(wanted_put oi b oj.dst u h3).trans hy.2⟩
 have k0:SameOp ops oi a a:=⟨rfl,rfl⟩
 have keepD:∀d,SameOp ops oi a { a with defers:=d::a.defers }:=fun d=>⟨rfl,rfl⟩
 unfold wpOpIn at *
 simp only [hj] at *
 rw [wanted_put oj a oi.dst v h1] at h
 split
 ·rename_i hw
  simp only [hw,if_true] at h
  unfold Oper.wpIn at *
  rw [Oper.semAt_eq _ _ _ hdj] at h ⊢
  refine ⟨fun _ _=>trivial,?_⟩
  have h:=h.2
  rw [execOp_put oj hsj a oi.dst v h1] at h
  generalize (execOp a.eval oj).run P w=r at *
  cases r with
  | ok n w'=>
   cases n <;> simp only [Oper.uponIn] at h ⊢
   case value u=>exact ⟨keep a k0 u,by rw [← Act.put_comm a v u h2]; exact h⟩
   case skip=>exact ⟨keep a k0 _,by rw [← Act.put_comm a v undef h2]; exact h⟩
   case defer d=>
    refine ⟨keep _ (keepD d) _,?_⟩
    rw [← Act.put_comm _ v undef h2,← Act.put_defers]
    exact h
   case enter f args=>
    refine ⟨h.1,CallsIn.mono h.2 fun e w'' he=>?_⟩
    cases e with
    | returned u=>exact ⟨keep a k0 u,by rw [← Act.put_comm a v u h2]; exact he⟩
    | panicked c=>exact hQ _ _ _ he
    | outgrown=>exact he
   case row row args=>exact ⟨h.1,RowsIn.mono h.2 fun u w'' he=>⟨keep a k0 u,by rw [← Act.put_comm a v u h2]; exact he⟩⟩
   case round l f tmps assign body=>
    refine ⟨h.1,RoundIn.mono h.2 fun e w'' he=>?_⟩
    cases e with
    | returned u=>exact ⟨keep a k0 u,by rw [← Act.put_comm a v u h2]; exact he⟩
    | panicked c=>exact hQ _ _ _ he
    | outgrown=>exact he
  | halt x w'=>
   cases x <;> simp only [Oper.uponIn] at h ⊢
   case panic u=>exact hQ _ _ _ h
 ·rename_i hw
  simp only [hw] at h
  exact ⟨fun _ _=>trivial,keep a k0 _,by rw [← Act.put_comm a v undef h2]; exact h.2⟩
theorem wpAnyY_first {C:World→Prop} {i:Nat} {oi:Oper} {v:Value} {Gi:Gd} (hi:ops[i]? = some oi) (hsel:∀(j:Nat) (o:Oper) cs b,ops[j]? = some o→o.op ≠ .select cs b) (hdf:∀(j:Nat) (o:Oper) c,ops[j]? = some o→o.op ≠ .defer c)
  (hQ:∀c a w,Q (.panic c) (a.put oi.dst v) w→Q (.panic c) a w) (hGi:∀g,g ∈ Gi→g.1=i) (hC:∀w,gAll P Gi w→C w) :
  ∀(fuel:Nat) (listed:Array Bool) (G:Gd) (a:Act) (w:World),
   (∀j oj,ops[j]? = some oj→j ≠ i→listed.getD j true=false→(∀e ∈ oj.after,Region.binds .any e=true→e.on ≠ i)→oi.apart ops oj=true) →
   i ∈ Region.ready .any ops listed →
   ((Region.wanted oi (yielded ops a.tmps)=true∧∀w,C w→(execOp a.eval oi).run P w=.ok (.value v) w)∨(Region.wanted oi (yielded ops a.tmps)=false∧v=undef)) →
   C w→gAll P G w→wpAnyY r P ops Q fuel (listed.setIfInBounds i true) (Gi++G) (a.put oi.dst v) w→wpAnyY r P ops Q (fuel+1) listed G a w:=by
 intro fuel
 have self:∀{K:Act→World→Prop} {a:Act} {w:World},((Region.wanted oi (yielded ops a.tmps)=true∧∀w,C w→(execOp a.eval oi).run P w=.ok (.value v) w)∨(Region.wanted oi (yielded ops a.tmps)=false∧v=undef))→C w→K (a.put oi.dst v) w→wpOpIn (wideR r) 0 P ops Q i K a w:=by
  intro K a w hy hc hk
  unfold wpOpIn
  simp only [hi]
  rcases hy with ⟨hw,hv⟩ | ⟨hw,rfl⟩
  ·simp only [hw,if_true,Oper.wpIn,Oper.semAt_eq _ _ _ (fun c=>hdf i oi c hi),hv w hc,Oper.uponIn]; exact ⟨fun _ _=>trivial,hk⟩
  ·simp only [hw,Bool.false_eq_true,if_false]; exact ⟨fun _ _=>trivial,hk⟩
 induction fuel with
 | zero=>
  intro listed G a w _ hr hy hc hG H
  refine ⟨hG,fun h=>(by rw [h] at hr; cases hr),fun j hj=>?_⟩
  by_cases hji:j=i
  ·subst hji
   exact self hy hc (H.weaken fun g hg=>List.mem_append_right _ (mem_dropG hg))
  ·have:=ready_mono hj hji
   rw [H.2.1] at this
   cases this
 | succ fuel ih=>
  intro listed G a w hfree hr hy hc hG H
  refine ⟨hG,fun h=>(by rw [h] at hr; cases hr),fun j hj=>?_⟩
  by_cases hji:j=i
  ·subst hji
   exact self hy hc (H.weaken fun g hg=>List.mem_append_right _ (mem_dropG hg))
  ·have h1:=H.2.2 j (ready_mono hj hji)
   obtain ⟨hjun,oj,hoj,hall⟩:=mem_ready.1 hj
   have hnot:∀e ∈ oj.after,Region.binds .any e=true→e.on ≠ i:=fun e he hb heq=>by
    have h1:=hall e he hb
    have h0:=(mem_ready.1 hr).1
    rw [heq] at h1
    rcases Nat.lt_or_ge i listed.size with h' | h'
    ·simp [h'] at h0 h1; rw [h0] at h1; cases h1
    ·simp [Array.getElem?_eq_none h'] at h1
   rw [dropG_append,dropG_keep (waits_spec hoj hnot) hGi] at h1
   have h2:=wpOpY_put hoj (hfree j oj hoj hji hjun hnot) (fun cs b=>hsel i oi cs b hi) (fun cs b=>hsel j oj cs b hoj) (fun c=>hdf j oj c hoj) hQ h1
   have hfree':∀k ok,ops[k]? = some ok→k ≠ i→(listed.setIfInBounds j true).getD k true=false →
     (∀e ∈ ok.after,Region.binds .any e=true→e.on ≠ i)→oi.apart ops ok=true:=fun k ok hk hki hun hno=>by
    refine hfree k ok hk hki ?_ hno
    by_cases hjk:j=k
    ·subst hjk; exact hjun
    ·rw [getD_set_ne true hjk] at hun; exact hun
   refine wpOpIn_mono (fun a' w' h3=>?_) h2
   have hall':=h3.2.all
   refine ih (listed.setIfInBounds j true) (dropG ops j G) a' w' hfree' (ready_mono hr (Ne.symm hji)) ?_ (hC w' fun g hg=>hall' g (List.mem_append_left _ hg)) (fun g hg=>hall' g (List.mem_append_right _ hg)) ?_
   ·unfold SameOp at h3
    rw [h3.1.1,h3.1.2]; exact hy
   ·rw [Array.setIfInBounds_comm _ _ hji]
    exact h3.2
end
abbrev vcDY (P:Program) (n:Nat) (Z:PZ) (cal:List Nat) (os:List Oper) (Q:Env→World→Prop):Plan→List Nat→Gd→Env→World→Prop
 | .fin,done,_,ρ,w=>bif onlyReady done [] os 0 then Q ρ w else False
 | .take i rd p,done,G,ρ,w=>match opAt os i with
  | none=>False
  | some o=>bif (bif readyO done i o then freeO os done i (looksO os o) o.dst os 0 else false) then
    bif rd then match valSem (ev n ρ) o with
     | some s=>guardP n os ρ o
      (fun k=>rD P s w k)
      (fun v=>vcDY P n Z cal os Q p (i::done) ((i,gSemE n os ρ o (nx s),v)::G) (putD ρ o.dst v) w)
     | none=>False
    else guardP n os ρ o
      (fun k=>match o.op with
       | .move x=>k (ev n ρ x)
       | .assign x=>k (ev n ρ x)
       | .nilCheck x=>PureV P (nilChk (ev n ρ x)) k
       | _=>match valSem (ev n ρ) o with
        | some s=>pU P s k
        | none=>False)
      (fun v=>vcDY P n Z cal os Q p (i::done) G (putD ρ o.dst v) w)
   else False
 | .one j p,done,G,ρ,w=>match opAt os j with
  | none=>False
  | some o=>bif (bif readyO done j o then onlyReady done [j] os 0 else false) then
    guardE n os ρ o (fun k=>opY P n Z cal ρ o w k) (fun v w'=>gAnd P w' (dropO o G) (vcDY P n Z cal os Q p (j::done) (dropO o G) (putD ρ o.dst v) w')) w
   else False
 | .two j p k q,done,G,ρ,w=>match opAt os j with
  | none=>False
  | some o=>match opAt os k with
   | none=>False
   | some u=>bif (bif readyO done j o then onlyReady done [j,k] os 0 else false) then
     guardE n os ρ o (fun k=>opY P n Z cal ρ o w k) (fun v w'=>gAnd P w' (dropO o G) (vcDY P n Z cal os Q p (j::done) (dropO o G) (putD ρ o.dst v) w')) w ∧
     guardE n os ρ u (fun k=>opY P n Z cal ρ u w k) (fun v w'=>gAnd P w' (dropO u G) (vcDY P n Z cal os Q q (k::done) (dropO u G) (putD ρ u.dst v) w')) w
    else False
section
variable {r:Option Nat} {P:Program} {n:Nat} {Z:PZ} {cal:List Nat} {ops:Array Oper} {K:Env→World→Prop} {Q:Exit→Act→World→Prop} {ρ0:Env}
theorem wpAnyY_stop {fuel:Nat} {listed:Array Bool} {G:Gd} {a:Act} {w:World} (h0:Region.ready .any ops listed=[]) (hG:gAll P G w) (hq:Q .normal a w):wpAnyY r P ops Q fuel listed G a w:=by
 cases fuel with
 | zero=>exact ⟨hG,h0,hq⟩
 | succ fuel=>exact ⟨hG,fun _=>hq,fun i hi=>by rw [h0] at hi; cases hi⟩
theorem vcDY_sound (hcal:∀f,memN f cal=true→Enters P f) (hs:noSel ops.toList=true) (hnd:noDef ops.toList=true)
  (hQ:∀a ρ w,Rel ds n a ρ→Agree (dsts ops.toList) ρ0 ρ→K ρ w→Q .normal a w) (hZ:∀ch a ρ w,Rel ds n a ρ→Agree (dsts ops.toList) ρ0 ρ→Z ch w→Q (.panic ch) a w) (hQp:∀ch (i:Nat) (o:Oper) v a w,ops[i]? = some o→Q (.panic ch) (a.put o.dst v) w→Q (.panic ch) a w) :
  ∀(p:Plan) (fuel:Nat) (done:List Nat) (G:Gd) (ρ:Env) (w:World) (a:Act) (listed:Array Bool),p.size≤fuel→vcDY P n Z cal ops.toList K p done G ρ w→LR ops done listed→okDone ops done→Rel ds n a ρ→Agree (dsts ops.toList) ρ0 ρ→gAll P G w →
   wpAnyY r P ops Q fuel listed G a w:=by
 have hsel:∀(j:Nat) (o:Oper) cs b,ops[j]? = some o→o.op ≠ .select cs b:=fun j o cs b ho=>
  noSel_spec hs o (Array.mem_toList_iff.2 (Array.mem_of_getElem? ho)) cs b
 have hdf:∀(j:Nat) (o:Oper) c,ops[j]? = some o→o.op ≠ .defer c:=fun j o c ho=>
  noDef_spec hnd o (Array.mem_toList_iff.2 (Array.mem_of_getElem? ho)) c
 have only:∀{done l:List Nat} {listed:Array Bool},LR ops done listed→okDone ops done→onlyReady done l ops.toList 0=true→∀i,i ∈ Region.ready .any ops listed→i ∈ l:=by
  intro done l listed h1 h2 h3 i hi
  obtain ⟨o,ho⟩:=ready_lt hi
  have:=onlyReady_spec h3 i o (by rw [Array.getElem?_toList]; exact ho) (by rw [Nat.zero_add]; exact (mem_readyO h1 h2 ho).1 hi)
  rwa [Nat.zero_add] at this
 -- one operation that must be next
 have next:∀{done:List Nat} {G:Gd} {ρ:Env} {w:World} {a:Act} {listed:Array Bool} {fuel j:Nat} {o:Oper} {p:Plan},
   (∀(done:List Nat) (G:Gd) (ρ:Env) (w:World) (a:Act) (listed:Array Bool),vcDY P n Z cal ops.toList K p done G ρ w→LR ops done listed→okDone ops done→Rel ds n a ρ→Agree (dsts ops.toList) ρ0 ρ→gAll P G w→wpAnyY r P ops Q fuel listed G a w) →
   ops[j]? = some o→LR ops done listed→okDone ops done→Rel ds n a ρ→Agree (dsts ops.toList) ρ0 ρ →
   guardE n ops.toList ρ o (fun k=>opY P n Z cal ρ o w k) (fun v w'=>gAnd P w' (dropO o G) (vcDY P n Z cal ops.toList K p (j::done) (dropO o G) (putD ρ o.dst v) w')) w →
   wpOpIn (wideR r) 0 P ops Q j (wpAnyY r P ops Q fuel (listed.setIfInBounds j true) (dropG ops j G)) a w:=by
  intro done G ρ w a listed fuel j o p ih ho hl hd hr hag h1
  have hilt:j < ops.size:=(Array.getElem?_eq_some_iff.1 ho).1
  have hd':okDone ops (j::done):=fun k hk=>(List.mem_cons.1 hk).elim (fun e=>e ▸ hilt) (hd k)
  rw [dropO_eq ho] at h1
  unfold wpOpIn
  simp only [ho]
  rcases guardE_spec hr h1 with ⟨hw,hA⟩ | ⟨hw,hB⟩
  ·rw [if_pos hw]
   unfold Oper.wpIn
   obtain ⟨ha,hb⟩:=opY_sound hcal hA
   rw [Oper.semAt_eq _ _ _ hb,hr.eval]
   refine ⟨fun _ _=>trivial,opVR_uponIn ha (fun v w' hk=>?_) (fun ch w' hz=>hZ ch a ρ w' hr hag hz)⟩
   obtain ⟨hg,hk⟩:=gAnd_spec hk
   exact ih _ _ _ w' _ _ hk (hl.put j) hd' (hr.put o.dst v) (hag.trans (agree_putD ho ρ v)) hg
  ·rw [hw]
   obtain ⟨hg,hk⟩:=gAnd_spec hB
   exact ⟨fun _ _=>trivial,ih _ _ _ w _ _ hk (hl.put j) hd' (hr.put o.dst undef) (hag.trans (agree_putD ho ρ undef)) hg⟩
 intro p
 induction p with
 | fin=>
  intro fuel done G ρ w a listed _ h hl hd hr hag hG
  unfold vcDY at h
  cases hc:onlyReady done [] ops.toList 0 with
  | false=>rw [hc] at h; exact h.elim
  | true=>
   rw [hc] at h
   exact wpAnyY_stop (List.eq_nil_iff_forall_not_mem.2 fun i hi=>by cases only hl hd hc i hi) hG (hQ a ρ w hr hag h)
 | take i rd p ih=>
  intro fuel done G ρ w a listed hf h hl hd hr hag hG
  simp only [Plan.size] at hf
  obtain ⟨fuel,rfl⟩:∃m,fuel=m+1:=⟨fuel - 1,by omega⟩
  unfold vcDY at h
  rw [opAt_eq] at h
  split at h
  ·exact h.elim
  ·rename_i o ho
   have hilt:i < ops.size:=(Array.getElem?_eq_some_iff.1 ho).1
   have hd':okDone ops (i::done):=fun k hk=>(List.mem_cons.1 hk).elim (fun e=>e ▸ hilt) (hd k)
   cases hrd0:readyO done i o with
   | false=>rw [hrd0] at h; exact h.elim
   | true=>
   have hrd:=(mem_readyO hl hd ho).2 hrd0
   rw [hrd0] at h
   simp only [cond_true] at h
   cases hfr:freeO ops.toList done i (looksO ops.toList o) o.dst ops.toList 0 with
   | false=>rw [hfr] at h; exact h.elim
   | true=>
    rw [hfr] at h
    simp only [cond_true] at h
    have hfree:∀j oj,ops[j]? = some oj→j ≠ i→listed.getD j true=false→(∀e ∈ oj.after,Region.binds .any e=true→e.on ≠ i)→o.apart ops oj=true:=by
     intro j oj hj hne hun hno
     have hjlt:j < ops.size:=(Array.getElem?_eq_some_iff.1 hj).1
     have hnd:memN j done=false:=by rw [← hl.get j hjlt]; exact hun
     exact apartO_spec (freeO_spec hfr j oj (by rw [Array.getElem?_toList]; exact hj) (by rw [Nat.zero_add]; exact hne) (by rw [Nat.zero_add]; exact hnd) (by rw [waitsO_spec hj]; exact waits_spec hj hno))
    have ih':=fun done G ρ w a listed=>ih fuel done G ρ w a listed (by omega)
    cases rd with
    | false=>
     simp only [cond_false] at h
     rcases guardP_spec hr h with ⟨hw,hA⟩ | ⟨hw,hB⟩
     ·have key:∃v,(∀w,(execOp (ev n ρ) o).run P w=.ok (.value v) w)∧vcDY P n Z cal ops.toList K p (i::done) G (putD ρ o.dst v) w:=by
       split at hA
       ·rename_i x hx; exact ⟨_,fun w=>by simp only [execOp,hx]; rfl,hA⟩
       ·rename_i x hx; exact ⟨_,fun w=>by simp only [execOp,hx]; rfl,hA⟩
       ·rename_i x hx
        obtain ⟨v,hv,hA⟩:=hA.out
        refine ⟨v,fun w=>?_,hA⟩
        have:=hv w
        simp only [nilChk,execOp] at this
        simp only [execOp,hx]
        exact this
       ·split at hA
        ·rename_i s hs
         obtain ⟨v,hv,hA⟩:=hA.out; exact ⟨v,fun w=>by rw [valSem_spec hs]; exact hv w,hA⟩
        ·exact hA.elim
      obtain ⟨v,hv,hA⟩:=key
      refine wpAnyY_first (C:=fun _=>True) (Gi:=[]) (v:=v) ho hsel hdf (fun c a w hq=>hQp _ _ _ _ _ _ ho hq) (fun g hg=>by cases hg) (fun _ _=>trivial) fuel listed G a w hfree hrd (.inl ⟨hw,fun w _=>by rw [hr.eval]; exact hv w⟩) trivial hG ?_
      exact ih' _ _ _ w _ _ hA (hl.put i) hd' (hr.put o.dst _) (hag.trans (agree_putD ho ρ _)) hG
     ·refine wpAnyY_first (C:=fun _=>True) (Gi:=[]) (v:=undef) ho hsel hdf (fun c a w hq=>hQp _ _ _ _ _ _ ho hq) (fun g hg=>by cases hg) (fun _ _=>trivial) fuel listed G a w hfree hrd (.inr ⟨hw,rfl⟩) trivial hG ?_
      exact ih' _ _ _ w _ _ hB (hl.put i) hd' (hr.put o.dst undef) (hag.trans (agree_putD ho ρ undef)) hG
    | true=>
     simp only [cond_true] at h
     split at h
     case h_2=>exact h.elim
     rename_i s hs
     rcases guardP_spec hr h with ⟨hw,hA⟩ | ⟨hw,hB⟩
     ·obtain ⟨v,hv,hA⟩:=hA.out
      have hv':(gSemE n ops.toList ρ o (nx s)).run P w=.ok (.value v) w:=by rw [gSem_yes hr hw]; exact hv
      refine wpAnyY_first (C:=fun w=>(gSemE n ops.toList ρ o (nx s)).run P w=.ok (.value v) w) (Gi:=[(i,gSemE n ops.toList ρ o (nx s),v)]) (v:=v) ho hsel hdf (fun c a w hq=>hQp _ _ _ _ _ _ ho hq) (fun g hg=>by simp at hg; subst hg; rfl)
       (fun w hg=>hg _ List.mem_cons_self) fuel listed G a w hfree hrd (.inl ⟨hw,fun w hc=>by rw [hr.eval,valSem_spec hs]; rw [gSem_yes hr hw] at hc; exact hc⟩) hv' hG ?_
      refine ih' _ _ _ w _ _ hA (hl.put i) hd' (hr.put o.dst _) (hag.trans (agree_putD ho ρ _)) fun g hg=>?_
      exact (List.mem_cons.1 hg).elim (fun e=>e ▸ hv') (hG g)
     ·have hv':(gSemE n ops.toList ρ o (nx s)).run P w=.ok (.value undef) w:=by rw [gSem_no hr hw]; rfl
      refine wpAnyY_first (C:=fun w=>(gSemE n ops.toList ρ o (nx s)).run P w=.ok (.value undef) w) (Gi:=[(i,gSemE n ops.toList ρ o (nx s),undef)]) (v:=undef) ho hsel hdf (fun c a w hq=>hQp _ _ _ _ _ _ ho hq) (fun g hg=>by simp at hg; subst hg; rfl)
       (fun w hg=>hg _ List.mem_cons_self) fuel listed G a w hfree hrd (.inr ⟨hw,rfl⟩) hv' hG ?_
      refine ih' _ _ _ w _ _ hB (hl.put i) hd' (hr.put o.dst undef) (hag.trans (agree_putD ho ρ undef)) fun g hg=>?_
      exact (List.mem_cons.1 hg).elim (fun e=>e ▸ hv') (hG g)
 | one j p ih=>
  intro fuel done G ρ w a listed hf h hl hd hr hag hG
  simp only [Plan.size] at hf
  obtain ⟨fuel,rfl⟩:∃m,fuel=m+1:=⟨fuel - 1,by omega⟩
  unfold vcDY at h
  rw [opAt_eq] at h
  split at h
  ·exact h.elim
  ·rename_i o ho
   have hilt:j < ops.size:=(Array.getElem?_eq_some_iff.1 ho).1
   cases hrd:readyO done j o with
   | false=>rw [hrd] at h; exact h.elim
   | true=>
   cases hc:onlyReady done [j] ops.toList 0 with
   | false=>rw [hrd,hc] at h; exact h.elim
   | true=>
    rw [hrd,hc] at h
    simp only [cond_true] at h
    have hop:=next (p:=p) (fun done G ρ w a listed=>ih fuel done G ρ w a listed (by omega)) ho hl hd hr hag h
    refine ⟨hG,fun h0=>?_,fun i hi=>?_⟩
    ·have:=(mem_readyO hl hd ho).2 hrd; rw [h0] at this; cases this
    ·have:=only hl hd hc i hi
     simp at this
     subst this
     exact hop
 | two j p k q ihp ihq=>
  intro fuel done G ρ w a listed hf h hl hd hr hag hG
  simp only [Plan.size] at hf
  obtain ⟨fuel,rfl⟩:∃m,fuel=m+1:=⟨fuel - 1,by omega⟩
  unfold vcDY at h
  rw [opAt_eq,opAt_eq] at h
  split at h
  ·exact h.elim
  ·rename_i o ho
   split at h
   ·exact h.elim
   ·rename_i u hu
    cases hrd:readyO done j o with
    | false=>rw [hrd] at h; exact h.elim
    | true=>
    cases hc:onlyReady done [j,k] ops.toList 0 with
    | false=>rw [hrd,hc] at h; exact h.elim
    | true=>
     rw [hrd,hc] at h
     simp only [cond_true] at h
     have hop:=next (p:=p) (fun done G ρ w a listed=>ihp fuel done G ρ w a listed (by omega)) ho hl hd hr hag h.1
     have hoq:=next (p:=q) (fun done G ρ w a listed=>ihq fuel done G ρ w a listed (by omega)) hu hl hd hr hag h.2
     refine ⟨hG,fun h0=>?_,fun i hi=>?_⟩
     ·have:=(mem_readyO hl hd ho).2 hrd; rw [h0] at this; cases this
     ·have:=only hl hd hc i hi
      simp at this
      rcases this with rfl | rfl
      ·exact hop
      ·exact hoq
end
abbrev drawY (p:Plan) (P:Program) (n:Nat) (Z:PZ) (cal:List Nat) (ops:Array Oper) (Q:Env→World→Prop) (ρ:Env) (w:World):Prop:=
 bif (bif Nat.ble p.size ops.toList.length then noSel ops.toList else false) then Drawn w fun w'=>vcDY P n Z cal ops.toList Q p [] [] ρ w' else False
theorem drawY_in {r:Option Nat} (p:Plan) (P:Program) (n:Nat) (Z:PZ) (cal:List Nat) (id:Nat) (ops:Array Oper) (K:Env→World→Prop) (ρ:Env) (w:World) (a:Act) (Q:Exit→Act→World→Prop)
  (hm:P.follows .mixedOrders=true) (hcal:∀f,memN f cal=true→Enters P f) (hdf:noDef ops.toList=true) (h:drawY p P n Z cal ops K ρ w) (hr:Rel ds n a ρ) (hQ:∀a' ρ' w',Rel ds n a' ρ'→Agree (dsts ops.toList) ρ ρ'→K ρ' w'→Q .normal a' w')
  (hZ:∀ch a' w',Kept ds n (dsts ops.toList) ρ a'→Z ch w'→Q (.panic ch) a' w'):(Code.region id ops true).wpIn (wideR r) 0 P Q a w:=by
 unfold drawY at h
 cases hp:Nat.ble p.size ops.toList.length with
 | false=>rw [hp] at h; exact h.elim
 | true=>
 cases hs:noSel ops.toList with
 | false=>rw [hp,hs] at h; exact h.elim
 | true=>
  rw [hp,hs] at h
  have h1:=h.out { w with drawn:=w.drawn+1 } ⟨rfl,rfl,rfl,rfl⟩
  let Q':Exit→Act→World→Prop:=fun e a w=>match e with
   | .normal=>Q .normal a w
   | .panic ch=>Kept ds n (dsts ops.toList) ρ a∧Z ch w
   | _=>False
  have h2:=vcDY_sound (r:=r) (Q:=Q') (ρ0:=ρ) hcal hs hdf (fun a' ρ' w' hr' hag hk=>hQ a' ρ' w' hr' hag hk) (fun ch a' ρ' w' hr' hag hz=>⟨hr'.kept hag,hz⟩)
   (fun ch i o v a' w' ho hq=>⟨hq.1.unput fun t ht=>memN_of_mem (mem_dsts (Array.mem_toList_iff.2 (Array.mem_of_getElem? ho)) ht),hq.2⟩) p ops.size [] [] ρ { w with drawn:=w.drawn+1 } a (Array.replicate ops.size false) (by simpa using Nat.le_of_ble_eq_true hp) h1
   ⟨by simp,fun i hi=>by simp [hi,memN]⟩ (fun i hi=>by cases hi) hr (Agree.refl _ _) (fun g hg=>by cases hg)
  refine wpIn_mono (wpIn_region_any hm h2.any) fun e a' w' hq=>?_
  cases e with
  | normal=>exact hq
  | panic ch=>exact hZ ch a' w' hq.1 hq.2
  | _=>exact hq.elim
abbrev vcR (P:Program) (n:Nat) (Z:PZ) (cal:List Nat):An→Code→(Exit→Env→World→Prop)→Env→World→Prop
 | .leaf,c,Q,ρ,w=>match c with
  | .skip=>Q .normal ρ w
  | .label _=>Q .normal ρ w
  | .exit id=>Q (.exit id) ρ w
  | .ret=>Q .ret ρ w
  | .region _ ops draw=>bif draw then False else vcYs P n Z cal ops.toList (fun ρ w=>Q .normal ρ w) ops.toList ρ w
  | _=>False
 | .dr p,c,Q,ρ,w=>match c with
  | .region _ ops draw=>bif (bif draw then noDef ops.toList else false) then drawY p P n Z cal ops (fun ρ w=>Q .normal ρ w) ρ w else False
  | _=>False
 | .sq a b,c,Q,ρ,w=>match c with
  | .seq x y=>vcR P n Z cal a x (thenE (fun ρ' w'=>vcR P n Z cal b y Q ρ' w') Q) ρ w
  | _=>False
 | .sj L a b,c,Q,ρ,w=>match c with
  | .seq x y=>
    ∀j:Cur L.length,(allN L.length fun ys=>∀w',(∀junk:Env,vcR P n Z cal b y Q (putMany L ys (mix (writes x) ρ junk)) w')→app _ j ys w') →
     vcR P n Z cal a x (thenE (fun ρ' w'=>app _ j (L.map ρ') w') Q) ρ w
  | _=>False
 | .cn a b,c,Q,ρ,w=>match c with
  | .cond t x y=>cV (ev n ρ t) (vcR P n Z cal a x Q ρ w) (vcR P n Z cal b y Q ρ w)
  | _=>False
 | .bl a,c,Q,ρ,w=>match c with
  | .block id x=>vcR P n Z cal a x (inBlockE id Q) ρ w
  | _=>False
 | .lp L a,c,Q,ρ,w=>match c with
  | .loop x=>
    ∃J:Nat→Cur L.length,(∃m,app _ (J m) (L.map ρ) w)∧∀m,allN L.length fun ys=>∀w',app _ (J m) ys w'→∀junk:Env,
     vcR P n Z cal a x (thenE (fun ρ'' w''=>∃m',m' < m∧app _ (J m') (L.map ρ'') w'') Q) (putMany L ys (mix (writes x) ρ junk)) w'
  | _=>False
section
variable {P:Program} {n:Nat} {Z:PZ} {cal:List Nat}
theorem wpIn_loop_ix {F:Fence} {k:Nat} {Q:Exit→Act→World→Prop} {c:Code} (I:Nat→Act→World→Prop) (round:∀m a w,I m a w→c.wpIn F k P (Exit.then (fun a' w'=>∃m',m' < m∧I m' a' w') Q) a w)
  {m:Nat} {a:Act} {w:World} (h:I m a w):(Code.loop c).wpIn F k P Q a w:=by
 intro b k cs hro hb hr
 have key:∀m a w,I m a w→∃e a' w',Q e a' w'∧ArrivesIn (Machine.fenced P F) P (lone (b.atR a (.code c::.inLoop c::k)) cs w) b k cs e a' w':=by
  intro m
  induction m using Nat.strongRecOn with
  | _ m ih=>
   intro a w hI
   obtain ⟨e,a₁,w₁,hq,harr⟩:=round m a w hI b (.inLoop c::k) cs hro hb hr
   cases e with
   | normal=>
    obtain ⟨m',hlt,hI₁⟩:=hq
    obtain ⟨e₂,a₂,w₂,hq₂,harr₂⟩:=ih m' hlt a₁ w₁ hI₁
    exact ⟨e₂,a₂,w₂,hq₂,.of_steps (StepsIn.trans harr (.one (fenced_calm hb hr rfl) stepR_inLoop)) harr₂⟩
   | exit id=>exact ⟨_,a₁,w₁,hq,.pass (x:=.inLoop c) rfl (fun _ _=>.inl (by simp)) harr⟩
   | goto l=>exact ⟨_,a₁,w₁,hq,.pass (x:=.inLoop c) rfl (fun _ _=>.inl (by simp)) harr⟩
   | ret=>exact ⟨_,a₁,w₁,hq,.pass (x:=.inLoop c) rfl (fun _ _=>.inl (by simp)) harr⟩
   | panic ch=>exact ⟨_,a₁,w₁,hq,.pass (x:=.inLoop c) rfl (fun _ _=>.inl (by simp)) harr⟩
   | outgrown=>exact ⟨_,a₁,w₁,hq,.pass (x:=.inLoop c) rfl (fun _ _=>.inl (by simp)) harr⟩
 obtain ⟨e,a',w',hq,harr⟩:=key m a w h
 exact ⟨e,a',w',hq,.of_steps (.one (fenced_calm hb hr rfl) stepR_loop) harr⟩
theorem vcR_sound {r:Option Nat} (hm:P.follows .mixedOrders=true) (hcal:∀f,memN f cal=true→Enters P f):∀(an:An) (c:Code) (Q:Exit→Env→World→Prop) (ρ:Env) (w:World) (a:Act),
  vcR P n Z cal an c Q ρ w→Rel ds n a ρ→c.wpIn (wideR r) 0 P (Full ds n fun e ρ' w'=>Agree (writes c) ρ ρ'∧zq Z Q e ρ' w') a w:=by
 intro an
 induction an with
 | leaf=>
  intro c Q ρ w a h hr
  cases c with
  | skip=>exact wpIn_skip ⟨ρ,hr,Agree.refl _ _,h⟩
  | label l=>exact wpIn_label ⟨ρ,hr,Agree.refl _ _,h⟩
  | exit id=>exact wpIn_exit ⟨ρ,hr,Agree.refl _ _,h⟩
  | ret=>exact wpIn_ret ⟨ρ,hr,Agree.refl _ _,h⟩
  | region id ops draw=>
   cases draw with
   | true=>exact h.elim
   | false=>
    have h1:=vcYs_sound (r:=r) hcal (Q:=Full ds n fun e ρ' w'=>Agree (dsts ops.toList) ρ ρ'∧zq Z Q e ρ' w') (K:=fun ρ w=>Q .normal ρ w) (ρ0:=ρ) (fun a' ρ' w' hr' hag hk=>⟨ρ',hr',hag,hk⟩) (fun ch a' ρ' w' hr' hag hz=>⟨ρ',hr',hag,hz⟩) ops.toList [] ρ w a rfl h hr (Agree.refl _ _)
    refine wpIn_region ?_
    show wpOpsIn (wideR r) 0 P ops (Full ds n fun e ρ' w'=>Agree (dsts ops.toList) ρ ρ'∧zq Z Q e ρ' w') _ a w
    rw [List.range_eq_range']
    simpa using h1
  | _=>exact h.elim
 | dr p=>
  intro c Q ρ w a h hr
  cases c with
  | region id ops draw=>
   cases draw with
   | false=>exact h.elim
   | true=>
    cases hdf:noDef ops.toList with
    | false=>rw [vcR,hdf] at h; exact h.elim
    | true=>
     rw [vcR,hdf] at h
     exact drawY_in p P n Z cal id ops _ ρ w a _ hm hcal hdf h hr (fun a' ρ' w' hr' hag hk=>⟨ρ',hr',hag,hk⟩) (fun ch a' w' hk hz=>let ⟨ρ',hr',hag⟩:=hk.rel; ⟨ρ',hr',hag,hz⟩)
  | _=>exact h.elim
 | sq an1 an2 ihx ihy=>
  intro c Q ρ w a h hr
  cases c with
  | seq x y=>
   refine wpIn_seq (wpIn_mono (ihx x _ ρ w a h hr) fun e a' w' hf=>?_)
   cases e with
   | normal=>
    obtain ⟨ρ',hr',hag,hk⟩:=hf
    exact wpIn_mono (ihy y _ ρ' w' a' hk hr') (Full.mono fun e ρ'' w'' ⟨h1,h2⟩=>⟨hag.left.trans h1.right,h2⟩)
   | outgrown=>exact hf
   | _=>obtain ⟨ρ',hr',hag,hk⟩:=hf; exact ⟨ρ',hr',hag.left,hk⟩
  | _=>exact h.elim
 | sj L an1 an2 ihx ihy=>
  intro c Q ρ w a h hr
  cases c with
  | seq x y=>
   unfold vcR at h
   have h1:=h (lam L.length fun ys w'=>∀junk:Env,vcR P n Z cal an2 y Q (putMany L ys (mix (writes x) ρ junk)) w')
    (allN_all _ _ fun ys hl w' hj=>(app_lam _ _ _ _ hl).2 hj)
   refine wpIn_seq (wpIn_mono (ihx x _ ρ w a h1 hr) fun e a' w' hf=>?_)
   cases e with
   | normal=>
    obtain ⟨ρ',hr',hag,hk⟩:=hf
    have hk2:=(app_lam _ _ _ _ (by simp)).1 hk ρ'
    rw [putMany_id hag] at hk2
    exact wpIn_mono (ihy y _ ρ' w' a' hk2 hr') (Full.mono fun e ρ'' w'' ⟨h1,h2⟩=>⟨hag.left.trans h1.right,h2⟩)
   | outgrown=>exact hf
   | _=>obtain ⟨ρ',hr',hag,hk⟩:=hf; exact ⟨ρ',hr',hag.left,hk⟩
  | _=>exact h.elim
 | cn an1 an2 ihx ihy=>
  intro c Q ρ w a h hr
  cases c with
  | cond t x y=>
   unfold vcR at h
   have h:=h.out
   split at h
   ·rename_i b hb
    refine wpIn_cond_split (t:=b) (by rw [hr.eval]; exact hb) (fun ht=>?_) (fun ht=>?_)
    ·exact wpIn_mono (ihx x _ ρ w a (h.1 ht) hr) (Full.mono fun e ρ'' w'' ⟨h1,h2⟩=>⟨h1.left,h2⟩)
    ·exact wpIn_mono (ihy y _ ρ w a (h.2 ht) hr) (Full.mono fun e ρ'' w'' ⟨h1,h2⟩=>⟨h1.right,h2⟩)
   ·exact h.elim
  | _=>exact h.elim
 | bl an ih=>
  intro c Q ρ w a h hr
  cases c with
  | block id x=>
   refine wpIn_block (wpIn_mono (ih x _ ρ w a h hr) fun e a' w' hf=>?_)
   cases e with
   | exit i=>
    obtain ⟨ρ',hr',hag,hk⟩:=hf
    simp only [zq,inBlockE] at hk
    by_cases e:i=id
    ·subst e
     rw [Nat.beq_refl] at hk
     simp only [Exit.inBlock,if_true]
     exact ⟨ρ',hr',hag,hk⟩
    ·rw [beq_false_of_ne e] at hk
     simp only [Exit.inBlock,e,if_false]
     exact ⟨ρ',hr',hag,hk⟩
   | outgrown=>exact hf
   | _=>exact hf
  | _=>exact h.elim
 | lp L an ih=>
  intro c Q ρ w a h hr
  cases c with
  | loop x=>
   unfold vcR at h
   obtain ⟨J,⟨m,h0⟩,hstep⟩:=h
   refine wpIn_loop_ix (I:=fun m a w=>∃ρ',Rel ds n a ρ'∧Agree (writes x) ρ ρ'∧app _ (J m) (L.map ρ') w) (fun m' a' w' hI=>?_) ⟨ρ,hr,Agree.refl _ _,h0⟩
   obtain ⟨ρ',hr',hag,hJ⟩:=hI
   have h1:=allN_at _ _ (L.map ρ') (hstep m') (by simp) w' hJ ρ'
   rw [putMany_id hag] at h1
   refine wpIn_mono (ih x _ ρ' w' a' h1 hr') fun e a'' w'' hf=>?_
   cases e with
   | normal=>
    obtain ⟨ρ'',hr'',hag'',m'',hlt,hJ''⟩:=hf
    exact ⟨m'',hlt,ρ'',hr'',hag.trans hag'',hJ''⟩
   | outgrown=>exact hf
   | _=>obtain ⟨ρ'',hr'',hag'',hk⟩:=hf; exact ⟨ρ'',hr'',hag.trans hag'',hk⟩
  | _=>exact h.elim
end
end Go.Sh

/- Rounds of a loop over a function: the record in memory, yield, one round. Nothing of any one program stands here. -/
namespace Go.Sh
def obP (b:Nat) (x:Obj):HProp:=fun h=>h b=some x
section
variable {o w w':World} {As R:List HProp} {b:Nat} {x y:Obj}
theorem obP_on {h:Hp} {S:Nat→Prop} (hb:obP b x (h.on S)):obP b x h∧S b:=by
 unfold obP at *
 by_cases hs:S b
 ·rw [Hp.on_yes _ hs] at hb; exact ⟨hb,hs⟩
 ·rw [Hp.on_no _ hs] at hb; cases hb
theorem St.obj (h:St o w As) (hm:obP b x ∈ As):w.heap[b]? = some x:=by
 obtain ⟨S,hS⟩:=satH_mem hm h.sat
 exact (obP_on hS).1
theorem St.alloc_obj (h:St o w R) (x:Obj):St o (w.alloc x) (obP w.heap.size x::R):=by
 refine ⟨h.os,h.tape,h.output,Nat.le_trans h.size (show w.heap.size≤(w.heap.push _).size by simp),fun b=>b=w.heap.size,?_,?_⟩
 ·unfold obP
  rw [Hp.on_yes (S:=fun b=>b=w.heap.size) _ rfl,hp_alloc,if_pos rfl]
 ·have:(hp (w.alloc x)).on (fun b=>¬ b=w.heap.size)=hp w:=by
   funext b
   by_cases hb:b=w.heap.size
   ·rw [Hp.on_no _ (not_not_intro hb)]
    subst hb
    simp [hp]
   ·rw [Hp.on_yes _ hb,hp_alloc,if_neg hb]
  rw [this]; exact h.sat
theorem St.put_obj (h:St o w (obP b x::R)) (y:Obj):St o (w.putObj b y) (obP b y::R):=by
 have hb:=h.obj List.mem_cons_self
 have hlt:b < w.heap.size:=(Array.getElem?_eq_some_iff.1 hb).1
 obtain ⟨h1,h2,h3,h4,S,hA,hR⟩:=h
 have hS:S b:=(obP_on hA).2
 refine ⟨h1,h2,h3,by simpa using h4,S,?_,?_⟩
 ·unfold obP
  rw [Hp.on_yes _ hS]
  exact World.putObj_heap_same hlt
 ·have:(hp (w.putObj b y)).on (fun b=>¬ S b)=(hp w).on fun b=>¬ S b:=by
   funext k
   by_cases hk:S k
   ·rw [Hp.on_no _ (not_not_intro hk),Hp.on_no _ (not_not_intro hk)]
   ·rw [Hp.on_yes _ hk,Hp.on_yes _ hk]
    exact World.putObj_heap_other fun e=>hk (e ▸ hS)
  rw [this]; exact hR
end
abbrev yieldV (P:Program) (l:Nat) (args:List Value) (w:World) (k:PQ):Prop:=runY P (fun _ _=>False) (callVal (.func (.yield l) #[] #[]) args.toArray) w k
section
variable {P:Program} {n:Nat} {Z:PZ} {cal:List Nat} {o w w':World} {As R:List HProp}
theorem runY.mono {s:Sem Next} {k k':PQ} (h:runY P (fun _ _=>False) s w k) (hk:∀v w,k v w→k' v w):runY P Z s w k':=by
 refine ⟨?_⟩
 have h:=h.out
 unfold opVR at h ⊢
 split at h
 ·exact RoundIn.mono h fun e w' he=>by
   cases e with
   | returned v=>exact hk _ _ he
   | panicked ch=>exact he.elim
   | outgrown=>exact he.elim
 ·unfold opV at h ⊢
  split at h
  ·exact hk _ _ h
  ·exact hk _ _ h
  ·exact Calls.mono h fun e w' he=>by
    cases e with
    | returned v=>exact hk _ _ he
    | panicked ch=>exact he.elim
    | outgrown=>exact he.elim
  ·exact Rows.mono h fun v w' he=>hk _ _ he
  ·exact h.elim
  ·exact h.elim
abbrev putPs:List Nat→List Value→Env→Env
 | t::ts,v::vs,ρ=>putPs ts vs (upd ρ t v)
 | _,_,ρ=>ρ
theorem putPs_rel:∀(ps:List Nat) (vs:List Value) {tmps:Array Value} {ρ:Env},Rel [] n { tmps:=tmps,defers:=[] } ρ→Rel [] n { tmps:=(ps.zip vs).foldl (fun t (p:Nat × Value)=>t.setIfInBounds p.1 p.2) tmps,defers:=[] } (putPs ps vs ρ)
 | [],_,_,_,h=>h
 | _::_,[],_,_,h=>h
 | t::ts,v::vs,tmps,ρ,h=>by
  have h1:=h.put (some t) v
  exact putPs_rel ts vs (tmps:=tmps.setIfInBounds t v) h1
theorem foldl_zip (ps:Array Nat) (args:List Value) (tmps:Array Value):(ps.zip args.toArray).foldl (fun tmps (t,a)=>tmps.setIfInBounds t a) tmps=(ps.toList.zip args).foldl (fun t (p:Nat × Value)=>t.setIfInBounds p.1 p.2) tmps:=by
 rw [← Array.foldl_toList]
 simp
abbrev roundQ (l:Nat) (rc:LoopState→Option Code→Loop) (k:PQ):Exit→Env→World→Prop
 | .normal,_,w=>w.heap[l]? = some (.loop (rc .busy none))∧k (.bool true) (w.putObj l (.loop (rc .ready none)))
 | .ret,_,w=>w.heap[l]? = some (.loop (rc .busy none))∧k (.bool false) (w.putObj l (.loop (rc .done (some .ret))))
 | .exit id,_,w=>w.heap[l]? = some (.loop (rc .busy none))∧k (.bool false) (w.putObj l (.loop (rc .done (some (.exit id)))))
 | .goto t,_,w=>w.heap[l]? = some (.loop (rc .busy none))∧k (.bool false) (w.putObj l (.loop (rc .done (some (.goto t)))))
 | _,_,_=>False
abbrev roundV (P:Program) (n:Nat) (cal:List Nat) (an1 an2:An) (assign body:Code) (l:Nat) (rc:LoopState→Option Code→Loop) (k:PQ) (ρ:Env) (w:World):Prop:=
 vcR P n (fun _ _=>False) cal an1 assign (thenE (fun ρ' w'=>w'.heap[l]? = some (.loop (rc .ready none))∧vcR P n (fun _ _=>False) cal an2 body (roundQ l rc k) ρ' (w'.putObj l (.loop (rc .busy none)))) fun _ _ _=>False) ρ w
abbrev recOf (fn:FuncId) (tmps:Array Value) (ps:Array Nat) (assign body:Code) (D:Nat):LoopState→Option Code→Loop:=fun st pe=>{ state:=st,pending:=pe,fn,tmps,params:=ps,assign,body,defers:=D }
theorem roundV_sound {an1 an2:An} {fn:FuncId} {tmps:Array Value} {ps:Array Nat} {assign body:Code} {D l:Nat} {args:List Value} {k:PQ} {ρ:Env} (hm:P.follows .mixedOrders=true) (hcal:∀f,memN f cal=true→Enters P f)
  (hr:Rel [] n { tmps:=tmps,defers:=[] } ρ) (hl:w.heap[l]? = some (.loop (recOf fn tmps ps assign body D .ready none))) (hs:args.length=ps.size)
  (h:roundV P n cal an1 an2 assign body l (recOf fn tmps ps assign body D) k (putPs ps.toList args ρ) w):yieldV P l args w k:=by
 refine ⟨?_⟩
 have hrun:(callVal (.func (.yield l) #[] #[]) args.toArray).run P w=.ok (.round l fn ((ps.toList.zip args).foldl (fun t (p:Nat × Value)=>t.setIfInBounds p.1 p.2) tmps) assign body) w:=by
  have hy:=run_yield (P:=P) (args:=args.toArray) hl (by simpa using hs)
  rw [← foldl_zip]
  simp only [callVal,Deferred.ofValue,Sem.run_bind,Sem.run_pure,Result.andThen,invoke,Array.empty_append]
  exact hy
 rw [hrun]
 refine roundIn_of_wpIn trivial (wpIn_mono (vcR_sound (r:=some l) hm hcal an1 assign _ _ _ _ h (putPs_rel _ _ hr)) fun e a w1 hq=>?_)
 cases e with
 | normal=>
  obtain ⟨ρ1,hr1,_,hl1,hb⟩:=hq
  refine ⟨_,run_beginRound hl1 rfl,wpIn_mono (vcR_sound (r:=some l) hm hcal an2 body _ _ _ _ hb hr1) fun e a w2 hq=>?_⟩
  cases e with
  | normal=>obtain ⟨ρ2,_,_,hl2,hk⟩:=hq; exact ⟨_,_,run_endRound none hl2,hk⟩
  | ret=>obtain ⟨ρ2,_,_,hl2,hk⟩:=hq; exact ⟨_,_,run_endRound (some .ret) hl2,hk⟩
  | exit id=>obtain ⟨ρ2,_,_,hl2,hk⟩:=hq; exact ⟨_,_,run_endRound (some (.exit id)) hl2,hk⟩
  | goto t=>obtain ⟨ρ2,_,_,hl2,hk⟩:=hq; exact ⟨_,_,run_endRound (some (.goto t)) hl2,hk⟩
  | panic ch=>obtain ⟨_,_,_,hk⟩:=hq; exact hk.elim
  | outgrown=>exact hq.elim
 | ret=>obtain ⟨_,_,_,hk⟩:=hq; exact hk.elim
 | exit id=>obtain ⟨_,_,_,hk⟩:=hq; exact hk.elim
 | goto t=>obtain ⟨_,_,_,hk⟩:=hq; exact hk.elim
 | panic ch=>obtain ⟨_,_,_,hk⟩:=hq; exact hk.elim
 | outgrown=>exact hq.elim
end
end Go.Sh

/- The statement of a loop over a function with two variables; functions that hold one; functions that call yield. Nothing of any one program stands here. -/
namespace Go.Sh
abbrev noZ:PZ:=fun _ _=>False
abbrev marks (ms:List Nat):List Deferred:=ms.map fun D=>{ target:=.collected D,args:=#[] }
structure rangeV (P:Program) (g:Value) (w:World) (round:Nat→(LoopState→Option Code→Loop)→Value→Value→World→(PQ)→Prop) (Kn Kr:Nat→World→Prop) (Kx:Nat→Nat→World→Prop):Prop where
 out:∃(gf:Nat) (first lb:List Value),g=.func (.func gf) first.toArray lb.toArray∧Enters P gf∧∀rc:LoopState→Option Code→Loop,
  (∀(y z:Value) (w':World) (k:PQ),w'.heap[w.heap.size+1]? = some (.loop (rc .ready none))→round (w.heap.size+1) rc y z w' k→yieldV P (w.heap.size+1) [y,z] w' k) →
  CallV P noZ gf (first++[Value.func (.yield (w.heap.size+1)) #[] #[]]++lb).toArray ((w.alloc (.deferred (some []))).alloc (.loop (rc .ready none))) fun _ w3=>
   (w3.heap[w.heap.size+1]? = some (.loop (rc .ready none))∧Kn w.heap.size (w3.putObj (w.heap.size+1) (.loop (rc .exhausted none)))) ∨
   (w3.heap[w.heap.size+1]? = some (.loop (rc .done (some .ret)))∧Kr w.heap.size (w3.putObj (w.heap.size+1) (.loop (rc .exhausted (some .ret))))) ∨
   (∃i,w3.heap[w.heap.size+1]? = some (.loop (rc .done (some (.exit i))))∧Kx i w.heap.size (w3.putObj (w.heap.size+1) (.loop (rc .exhausted (some (.exit i))))))
structure leaveD (D:Nat) (w:World) (k:World→Prop):Prop where
 out:w.heap[D]? = some (.deferred (some []))∧k (w.putObj D (.deferred none))
abbrev leaveMs:List Nat→World→(World→Prop)→Prop
 | [],w,k=>k w
 | D::ms,w,k=>leaveD D w fun w=>leaveMs ms w k
inductive AnG where
 | o (a:An)
 | sq (a b:AnG)
 | bl (a:AnG)
 | sc (a:AnG)
 | rf (a b:An)
abbrev nextG (next:Env→List Nat→World→Prop) (Q:Exit→Env→List Nat→World→Prop):Exit→Env→List Nat→World→Prop
 | .normal,ρ,ms,w=>next ρ ms w
 | e,ρ,ms,w=>Q e ρ ms w
abbrev blockG (id:Nat) (Q:Exit→Env→List Nat→World→Prop):Exit→Env→List Nat→World→Prop
 | .exit i,ρ,ms,w=>bif Nat.beq i id then Q .normal ρ ms w else Q (.exit i) ρ ms w
 | e,ρ,ms,w=>Q e ρ ms w
abbrev scopeG (Q:Exit→Env→List Nat→World→Prop):Exit→Env→List Nat→World→Prop
 | .goto _,_,_,_=>False
 | e,ρ,ms,w=>Q e ρ ms w
abbrev vcG (P:Program) (n:Nat) (cal:List Nat):AnG→Code→(Exit→Env→List Nat→World→Prop)→Env→List Nat→World→Prop
 | .o a,c,Q,ρ,ms,w=>vcR P n noZ cal a c (fun e ρ' w'=>Q e ρ' ms w') ρ w
 | .sq a b,c,Q,ρ,ms,w=>match c with
  | .seq x y=>vcG P n cal a x (nextG (fun ρ' ms' w'=>vcG P n cal b y Q ρ' ms' w') Q) ρ ms w
  | _=>False
 | .bl a,c,Q,ρ,ms,w=>match c with
  | .block id x=>vcG P n cal a x (blockG id Q) ρ ms w
  | _=>False
 | .sc a,c,Q,ρ,ms,w=>match c with
  | .scope x=>vcG P n cal a x (scopeG Q) ρ ms w
  | _=>False
 | .rf a1 a2,c,Q,ρ,ms,w=>match c with
  | .rangeFunc g ps assign body=>match ps.toList with
   | [p,q]=>rangeV P (ev n ρ g) w (fun l rc y z w' k=>roundV P n cal a1 a2 assign body l rc k (putPs [p,q] [y,z] ρ) w') (fun D w'=>Q .normal ρ (D::ms) w') (fun D w'=>Q .ret ρ (D::ms) w') (fun i D w'=>Q (.exit i) ρ (D::ms) w')
   | _=>False
  | _=>False
def FullG (n:Nat) (Q:Exit→Env→List Nat→World→Prop):Exit→Act→World→Prop
 | .outgrown,_,_=>False
 | .panic _,_,_=>False
 | e,a,w=>∃ρ ms,Rel (marks ms) n a ρ∧Q e ρ ms w
theorem Rel.defers_of {ds ds':List Deferred} {n:Nat} {a:Act} {ρ:Env} (h:Rel ds n a ρ):Rel ds' n { a with defers:=ds' } ρ:=⟨rfl,h.size,h.get⟩
section
variable {P:Program} {n:Nat} {cal:List Nat}
theorem FullG.mono {Q Q':Exit→Env→List Nat→World→Prop} (h:∀e ρ ms w,Q e ρ ms w→Q' e ρ ms w):∀e a w,FullG n Q e a w→FullG n Q' e a w:=by
 intro e a w hf
 cases e with
 | outgrown=>exact hf
 | panic ch=>exact hf
 | _=>obtain ⟨ρ,ms,hr,hq⟩:=hf; exact ⟨ρ,ms,hr,h _ _ _ _ hq⟩
theorem stepR_scope {b:Frame} {a:Act} {k:List Item} {cs:List Frame} {w:World} {c:Code}:step P (lone (b.atR a (.code (.scope c)::k)) cs w)=.next (lone (b.atR a (.code c::.inScope c::k)) cs w):=step_lone_go (by simp [stepG,stepG.exec,Frame.atR])
theorem stepR_inScope {b:Frame} {a:Act} {k:List Item} {cs:List Frame} {w:World} {c:Code}:step P (lone (b.atR a (.inScope c::k)) cs w)=.next (lone (b.atR a k) cs w):=step_lone_go (by simp [stepG,stepG.exec,Frame.atR])
theorem wpIn_scope {F:Fence} {k:Nat} {c:Code} {Q:Exit→Act→World→Prop} {a:Act} {w:World} (h:c.wpIn F k P Q a w) (hg:∀l a w,¬ Q (.goto l) a w):(Code.scope c).wpIn F k P Q a w:=by
 intro b k cs hro hb hr
 have h0:(lone (b.atR a (.code (.scope c)::k)) cs w).fenced P F:=fenced_calm hb hr rfl
 obtain ⟨e,a₁,w₁,hq,harr⟩:=h b (.inScope c::k) cs hro hb hr
 cases e with
 | normal=>exact ⟨.normal,a₁,w₁,hq,.head h0 stepR_scope (StepsIn.trans harr (.one (fenced_calm hb hr rfl) stepR_inScope))⟩
 | exit id=>
  have hx:exitTo id (.inScope c::k)=exitTo id k:=by simp [exitTo]
  exact ⟨.exit id,a₁,w₁,hq,fun k' hk=>.head h0 stepR_scope (harr.1 k' (by rw [hx]; exact hk)),
   fun hr' hk=>let ⟨k₁,h1,h2⟩:=harr.2 hr' (by rw [hx]; exact hk); ⟨k₁,h1,.head h0 stepR_scope h2⟩⟩
 | goto l=>exact absurd hq (hg _ _ _)
 | ret=>exact ⟨_,a₁,w₁,hq,.of_steps (.one h0 stepR_scope) harr⟩
 | panic ch=>exact ⟨_,a₁,w₁,hq,.of_steps (.one h0 stepR_scope) harr⟩
 | outgrown=>exact ⟨_,a₁,w₁,hq,.of_steps (.one h0 stepR_scope) harr⟩
theorem vcG_sound (hm:P.follows .mixedOrders=true) (hcal:∀f,memN f cal=true→Enters P f):∀(an:AnG) (c:Code) (Q:Exit→Env→List Nat→World→Prop) (ρ:Env) (ms:List Nat) (w:World) (a:Act),
  vcG P n cal an c Q ρ ms w→Rel (marks ms) n a ρ→c.wpIn (wideR none) 0 P (FullG n Q) a w:=by
 intro an
 induction an with
 | o an=>
  intro c Q ρ ms w a h hr
  refine wpIn_mono (vcR_sound (r:=none) hm hcal an c _ ρ w a h hr) fun e a' w' hf=>?_
  cases e with
  | outgrown=>exact hf
  | panic ch=>obtain ⟨_,_,_,hk⟩:=hf; exact hk.elim
  | _=>obtain ⟨ρ',hr',_,hk⟩:=hf; exact ⟨ρ',ms,hr',hk⟩
 | sq an1 an2 ih1 ih2=>
  intro c Q ρ ms w a h hr
  cases c with
  | seq x y=>
   refine wpIn_seq (wpIn_mono (ih1 x _ ρ ms w a h hr) fun e a' w' hf=>?_)
   cases e with
   | normal=>obtain ⟨ρ',ms',hr',hk⟩:=hf; exact ih2 y _ ρ' ms' w' a' hk hr'
   | outgrown=>exact hf
   | panic ch=>exact hf
   | _=>exact hf
  | _=>exact h.elim
 | bl an ih=>
  intro c Q ρ ms w a h hr
  cases c with
  | block id x=>
   refine wpIn_block (wpIn_mono (ih x _ ρ ms w a h hr) fun e a' w' hf=>?_)
   cases e with
   | exit i=>
    obtain ⟨ρ',ms',hr',hk⟩:=hf
    simp only [blockG] at hk
    by_cases e:i=id
    ·subst e
     rw [Nat.beq_refl] at hk
     simp only [Exit.inBlock,if_true]
     exact ⟨ρ',ms',hr',hk⟩
    ·rw [beq_false_of_ne e] at hk
     simp only [Exit.inBlock,e,if_false]
     exact ⟨ρ',ms',hr',hk⟩
   | outgrown=>exact hf
   | panic ch=>exact hf
   | _=>exact hf
  | _=>exact h.elim
 | sc an ih=>
  intro c Q ρ ms w a h hr
  cases c with
  | scope x=>
   refine wpIn_mono (wpIn_scope (ih x _ ρ ms w a h hr) fun l a w hq=>by obtain ⟨_,_,_,hk⟩:=hq; exact hk) fun e a' w' hf=>?_
   cases e with
   | outgrown=>exact hf
   | panic ch=>exact hf
   | goto l=>obtain ⟨_,_,_,hk⟩:=hf; exact hk.elim
   | _=>exact hf
  | _=>exact h.elim
 | rf an1 an2=>
  intro c Q ρ ms w a h hr
  cases c with
  | rangeFunc g ps assign body=>
   have h:match ps.toList with
    | [p,q]=>rangeV P (ev n ρ g) w (fun l rc y z w' k=>roundV P n cal an1 an2 assign body l rc k (putPs [p,q] [y,z] ρ) w') (fun D w'=>Q .normal ρ (D::ms) w') (fun D w'=>Q .ret ρ (D::ms) w') (fun i D w'=>Q (.exit i) ρ (D::ms) w')
    | _=>False:=h
   split at h
   case h_2=>exact h.elim
   rename_i p q hps
   obtain ⟨gf,first,lb,hg,hen,hc⟩:=h.out
   refine wpIn_rangeFunc fun fn _=>?_
   have hsz:ps.size=2:=by rw [← Array.length_toList,hps]; rfl
   have hr0:Rel [] n { tmps:=a.tmps,defers:=[] } ρ:=hr.defers_of (ds':=[])
   have hcall:=hc (recOf fn a.tmps ps assign body w.heap.size) fun y z w' k hl hrd=>roundV_sound hm hcal hr0 hl (by rw [hsz]; rfl) (by rw [hps]; exact hrd)
   refine ⟨w.heap.size+1,[{ target:=.collected w.heap.size,args:=#[] }],_,{ target:=.fn (.func gf) lb.toArray,args:=first.toArray++#[Value.func (.yield (w.heap.size+1)) #[] #[]] },(w.alloc (.deferred (some []))).alloc (.loop (recOf fn a.tmps ps assign body w.heap.size .ready none)),gf,
    (first++[Value.func (.yield (w.heap.size+1)) #[] #[]]++lb).toArray,_,run_enterLoop_outer _ _ _ _ _,?_,fun _ _=>trivial,?_,(fun h=>by cases h),wideR_calls (Calls.mono hcall.out fun e w3 he=>?_)⟩
   ·have hg':a.eval g=.func (.func gf) first.toArray lb.toArray:=by rw [hr.eval]; exact hg
    simp only [resolve,hg',Deferred.ofValue,Sem.run_pure]
    have e:Array.map a.eval #[Operand.const (Value.func (.yield (w.heap.size+1)) #[] #[])]=#[Value.func (.yield (w.heap.size+1)) #[] #[]]:=by simp [Act.eval]
    rw [e]
   ·have:=hen (first++[Value.func (.yield (w.heap.size+1)) #[] #[]]++lb).toArray ((w.alloc (.deferred (some []))).alloc (.loop (recOf fn a.tmps ps assign body w.heap.size .ready none)))
    simp only [invoke]
    rw [show first.toArray++#[Value.func (.yield (w.heap.size+1)) #[] #[]]++lb.toArray=(first++[Value.func (.yield (w.heap.size+1)) #[] #[]]++lb).toArray by simp]
    exact this
   ·cases e with
    | returned v=>
     have hrm:∀a',a'={ a with defers:=[{ target:=.collected w.heap.size,args:=#[] }]++a.defers }→Rel (marks (w.heap.size::ms)) n a' ρ:=fun a' ha=>by
      subst ha
      have:=hr.defers_of (ds':=marks (w.heap.size::ms))
      simpa [hr.defers] using this
     rcases he with ⟨hl,hk⟩ | ⟨hl,hk⟩ | ⟨i,hl,hk⟩
     ·exact ⟨_,_,run_endLoop hl (by simp),ρ,_,hrm _ rfl,hk⟩
     ·exact ⟨_,_,run_endLoop hl (by simp),wpIn_ret ⟨ρ,_,hrm _ rfl,hk⟩⟩
     ·exact ⟨_,_,run_endLoop hl (by simp),wpIn_exit ⟨ρ,_,hrm _ rfl,hk⟩⟩
    | panicked ch=>exact he.elim
    | outgrown=>exact he.elim
  | _=>exact h.elim
abbrev fnQG (P:Program) (n:Nat) (rs:Array ResultVar) (Q:PQ):Exit→Env→List Nat→World→Prop
 | .normal,ρ,ms,w=>leaveMs ms w fun w=>vcRes P (evT n ρ) w rs.toList fun vs=>Q (packRes vs) w
 | .ret,ρ,ms,w=>leaveMs ms w fun w=>vcRes P (evT n ρ) w rs.toList fun vs=>Q (packRes vs) w
 | _,_,_,_=>False
theorem leaveMs_sound {fn:Func} {tmps:Array Value} {R:Ending→World→Prop} {k:World→Prop} (hk:∀w,k w→∃v,(results fn tmps).run P w=.ok v w∧R (.returned v) w):∀(ms:List Nat) (w:World),leaveMs ms w k→LeavesInM (wideR none) 0 P fn tmps R (marks ms) .returning w
 | [],w,h=>hk w h
 | D::ms,w,h=>by
  obtain ⟨hd,h⟩:=h.out
  exact ⟨by simp,.inl ⟨D,_,rfl,run_takeDeferred hd,leaveMs_sound hk ms _ h⟩⟩
theorem rel_argsY {n:Nat} {args:List Value} (hn:args.length≤n):Rel [] n { tmps:=args.toArray++Array.replicate (n - args.toArray.size) undef,defers:=[] } (argEnv args):=by
 refine ⟨rfl,by simp; omega,fun t ht=>?_⟩
 have key:∀(l:List Value) (t:Nat),(l[t]?).getD undef=argEnv l t:=by
  intro l
  induction l with
  | nil=>intro t; simp [argEnv]
  | cons v l ih=>
   intro t
   cases t with
   | zero=>rfl
   | succ t=>simpa [argEnv] using ih t
 rw [← key]
 by_cases h1:t < args.length
 ·simp [Array.getElem?_append,h1]
 ·have h2:args.length≤t:=by omega
  simp only [List.size_toArray,Array.getElem?_append,h1,if_false,Array.getElem?_replicate,Array.getD_eq_getD_getElem?,List.getElem?_eq_none h2,Option.getD_none]
  split <;> rfl
theorem clG {Z:PZ} (hm:P.follows .mixedOrders=true) (hcal:∀g,memN g cal=true→Enters P g) {f:FuncId} {fn:Func} (hf:P.funcs[f]? = some fn) (an:AnG) (args:List Value) (ho:okFn fn args.length=true)
  {w:World} {Q:PQ} {S:Prop} (hs:vcG P fn.ntmps cal an (codeOf fn) (fnQG P fn.ntmps fn.results Q) (argEnv args) [] w=S) (h:S):CallV P Z f args.toArray w Q:=by
 cases hb:fn.body with
 | none=>rw [okFn,hb] at ho; cases ho
 | some c=>
  rw [okFn,hb] at ho
  have hc:codeOf fn=c:=by rw [codeOf,hb]
  rw [hc] at hs
  refine ⟨(callsIn_wide (n:=0)).1 (callsIn_of_wp_marks (F:=wideR none) (R:=fun e w'=>match e with | .returned v=>Q v w' | .panicked ch=>Z ch w' | .outgrown=>False) hf hb trivial (wpIn_mono (vcG_sound hm hcal an c _ _ [] w _ (hs.mpr h) (rel_argsY (Nat.le_of_ble_eq_true ho))) fun e a w' hq=>?_))⟩
  have out:∀(ρ:Env) (ms:List Nat) (a:Act) (w:World),Rel (marks ms) fn.ntmps a ρ→(leaveMs ms w fun w=>vcRes P (evT fn.ntmps ρ) w fn.results.toList fun vs=>Q (packRes vs) w)→LeavesInM (wideR none) 0 P fn a.tmps (fun e w'=>match e with | .returned v=>Q v w' | .panicked ch=>Z ch w' | .outgrown=>False) a.defers .returning w:=fun ρ ms a w hr hl=>by
   rw [hr.defers]
   refine leaveMs_sound (fun w hk=>?_) ms w hl
   obtain ⟨vs,h1,h2⟩:=results_run (fn:=fn) (tmps:=a.tmps) (fun t=>hr.evT t) hk
   exact ⟨_,h1,h2⟩
  cases e with
  | normal=>obtain ⟨ρ,ms,hr,hk⟩:=hq; exact out ρ ms a w' hr hk
  | ret=>obtain ⟨ρ,ms,hr,hk⟩:=hq; exact out ρ ms a w' hr hk
  | exit i=>obtain ⟨_,_,_,hk⟩:=hq; exact hk.elim
  | goto l=>obtain ⟨_,_,_,hk⟩:=hq; exact hk.elim
  | panic ch=>exact hq.elim
  | outgrown=>exact hq.elim
theorem clY {Z:PZ} (hm:P.follows .mixedOrders=true) (hcal:∀g,memN g cal=true→Enters P g) {f:FuncId} {fn:Func} (hf:P.funcs[f]? = some fn) (an:An) (args:List Value) (ho:okFn fn args.length=true)
  {w:World} {Q:PQ} {S:Prop} (hs:vcR P fn.ntmps Z cal an (codeOf fn) (fnQ P fn.ntmps fn.results Q) (argEnv args) w=S) (h:S):CallV P Z f args.toArray w Q:=by
 cases hb:fn.body with
 | none=>rw [okFn,hb] at ho; cases ho
 | some c=>
  rw [okFn,hb] at ho
  have hc:codeOf fn=c:=by rw [codeOf,hb]
  rw [hc] at hs
  refine ⟨calls_of_wp hf hb (wpIn_wide.1 (wpIn_mono (vcR_sound (ds:=[]) (r:=none) hm hcal an c _ _ w _ (hs.mpr h) (rel_argsY (Nat.le_of_ble_eq_true ho))) fun e a w' hq=>?_))⟩
  cases e with
  | normal=>
   obtain ⟨ρ,hr,_,hk⟩:=hq
   obtain ⟨vs,h1,h2⟩:=results_run (fn:=fn) (tmps:=a.tmps) (fun t=>hr.evT t) hk
   exact ⟨hr.defers,_,h1,h2⟩
  | ret=>
   obtain ⟨ρ,hr,_,hk⟩:=hq
   obtain ⟨vs,h1,h2⟩:=results_run (fn:=fn) (tmps:=a.tmps) (fun t=>hr.evT t) hk
   exact ⟨hr.defers,_,h1,h2⟩
  | panic ch=>obtain ⟨ρ,hr,_,hk⟩:=hq; exact ⟨hr.defers,hk⟩
  | exit id=>obtain ⟨ρ,hr,_,hk⟩:=hq; exact hk.elim
  | goto l=>obtain ⟨ρ,hr,_,hk⟩:=hq; exact hk.elim
  | outgrown=>exact hq.elim
end

/- The statement of a loop over a function with two variables; functions that hold one; functions that call yield. Nothing of any one program stands here. -/
import Derived.Test.YtbdfhfceffkhgaaGreatDoorShRound
namespace Go.Sh
abbrev noZ:PZ:=fun _ _=>False
abbrev marks (ms:List Nat):List Deferred:=ms.map fun D=>{ target:=.collected D,args:=#[] }
structure rangeV (P:Program) (g:Value) (w:World) (round:Nat→(LoopState→Option Code→Loop)→Value→Value→World→(PQ)→Prop) (Kn Kr:Nat→World→Prop) (Kx:Nat→Nat→World→Prop):Prop where
 out:∃(gf:Nat) (first lb:List Value),g=.func (.func gf) first.toArray lb.toArray∧Enters P gf∧∀rc:LoopState→Option Code→Loop,
  (∀(y z:Value) (w':World) (k:PQ),w'.heap[w.heap.size+1]? = some (.loop (rc .ready none))→round (w.heap.size+1) rc y z w' k→yieldV P (w.heap.size+1) [y,z] w' k) →
  CallV P noZ gf (first++[Value.func (.yield (w.heap.size+1)) #[] #[]]++lb).toArray ((w.alloc (.deferred (some []))).alloc (.loop (rc .ready none))) fun _ w3=>
   (w3.heap[w.heap.size+1]? = some (.loop (rc .ready none))∧Kn w.heap.size (w3.putObj (w.heap.size+1) (.loop (rc .exhausted none)))) ∨
   (w3.heap[w.heap.size+1]? = some (.loop (rc .done (some .ret)))∧Kr w.heap.size (w3.putObj (w.heap.size+1) (.loop (rc .exhausted (some .ret))))) ∨
   (∃i,w3.heap[w.heap.size+1]? = some (.loop (rc .done (some (.exit i))))∧Kx i w.heap.size (w3.putObj (w.heap.size+1) (.loop (rc .exhausted (some (.exit i))))))
structure leaveD (D:Nat) (w:World) (k:World→Prop):Prop where
 out:w.heap[D]? = some (.deferred (some []))∧k (w.putObj D (.deferred none))
abbrev leaveMs:List Nat→World→(World→Prop)→Prop
 | [],w,k=>k w
 | D::ms,w,k=>leaveD D w fun w=>leaveMs ms w k
inductive AnG where
 | o (a:An)
 | sq (a b:AnG)
 | bl (a:AnG)
 | sc (a:AnG)
 | rf (a b:An)
abbrev nextG (next:Env→List Nat→World→Prop) (Q:Exit→Env→List Nat→World→Prop):Exit→Env→List Nat→World→Prop
 | .normal,ρ,ms,w=>next ρ ms w
 | e,ρ,ms,w=>Q e ρ ms w
abbrev blockG (id:Nat) (Q:Exit→Env→List Nat→World→Prop):Exit→Env→List Nat→World→Prop
 | .exit i,ρ,ms,w=>bif Nat.beq i id then Q .normal ρ ms w else Q (.exit i) ρ ms w
 | e,ρ,ms,w=>Q e ρ ms w
abbrev scopeG (Q:Exit→Env→List Nat→World→Prop):Exit→Env→List Nat→World→Prop
 | .goto _,_,_,_=>False
 | e,ρ,ms,w=>Q e ρ ms w
abbrev vcG (P:Program) (n:Nat) (cal:List Nat):AnG→Code→(Exit→Env→List Nat→World→Prop)→Env→List Nat→World→Prop
 | .o a,c,Q,ρ,ms,w=>vcR P n noZ cal a c (fun e ρ' w'=>Q e ρ' ms w') ρ w
 | .sq a b,c,Q,ρ,ms,w=>match c with
  | .seq x y=>vcG P n cal a x (nextG (fun ρ' ms' w'=>vcG P n cal b y Q ρ' ms' w') Q) ρ ms w
  | _=>False
 | .bl a,c,Q,ρ,ms,w=>match c with
  | .block id x=>vcG P n cal a x (blockG id Q) ρ ms w
  | _=>False
 | .sc a,c,Q,ρ,ms,w=>match c with
  | .scope x=>vcG P n cal a x (scopeG Q) ρ ms w
  | _=>False
 | .rf a1 a2,c,Q,ρ,ms,w=>match c with
  | .rangeFunc g ps assign body=>match ps.toList with
   | [p,q]=>rangeV P (ev n ρ g) w (fun l rc y z w' k=>roundV P n cal a1 a2 assign body l rc k (putPs [p,q] [y,z] ρ) w') (fun D w'=>Q .normal ρ (D::ms) w') (fun D w'=>Q .ret ρ (D::ms) w') (fun i D w'=>Q (.exit i) ρ (D::ms) w')
   | _=>False
  | _=>False
def FullG (n:Nat) (Q:Exit→Env→List Nat→World→Prop):Exit→Act→World→Prop
 | .outgrown,_,_=>False
 | .panic _,_,_=>False
 | e,a,w=>∃ρ ms,Rel (marks ms) n a ρ∧Q e ρ ms w
theorem Rel.defers_of {ds ds':List Deferred} {n:Nat} {a:Act} {ρ:Env} (h:Rel ds n a ρ):Rel ds' n { a with defers:=ds' } ρ:=⟨rfl,h.size,h.get⟩
section
variable {P:Program} {n:Nat} {cal:List Nat}
theorem FullG.mono {Q Q':Exit→Env→List Nat→World→Prop} (h:∀e ρ ms w,Q e ρ ms w→Q' e ρ ms w):∀e a w,FullG n Q e a w→FullG n Q' e a w:=by
 intro e a w hf
 cases e with
 | outgrown=>exact hf
 | panic ch=>exact hf
 | _=>obtain ⟨ρ,ms,hr,hq⟩:=hf; exact ⟨ρ,ms,hr,h _ _ _ _ hq⟩
theorem stepR_scope {b:Frame} {a:Act} {k:List Item} {cs:List Frame} {w:World} {c:Code}:step P (lone (b.atR a (.code (.scope c)::k)) cs w)=.next (lone (b.atR a (.code c::.inScope c::k)) cs w):=step_lone_go (by simp [stepG,stepG.exec,Frame.atR])
theorem stepR_inScope {b:Frame} {a:Act} {k:List Item} {cs:List Frame} {w:World} {c:Code}:step P (lone (b.atR a (.inScope c::k)) cs w)=.next (lone (b.atR a k) cs w):=step_lone_go (by simp [stepG,stepG.exec,Frame.atR])
theorem wpIn_scope {F:Fence} {k:Nat} {c:Code} {Q:Exit→Act→World→Prop} {a:Act} {w:World} (h:c.wpIn F k P Q a w) (hg:∀l a w,¬ Q (.goto l) a w):(Code.scope c).wpIn F k P Q a w:=by
 intro b k cs hro hb hr
 have h0:(lone (b.atR a (.code (.scope c)::k)) cs w).fenced P F:=fenced_calm hb hr rfl
 obtain ⟨e,a₁,w₁,hq,harr⟩:=h b (.inScope c::k) cs hro hb hr
 cases e with
 | normal=>exact ⟨.normal,a₁,w₁,hq,.head h0 stepR_scope (StepsIn.trans harr (.one (fenced_calm hb hr rfl) stepR_inScope))⟩
 | exit id=>
  have hx:exitTo id (.inScope c::k)=exitTo id k:=by simp [exitTo]
  exact ⟨.exit id,a₁,w₁,hq,fun k' hk=>.head h0 stepR_scope (harr.1 k' (by rw [hx]; exact hk)),
   fun hr' hk=>let ⟨k₁,h1,h2⟩:=harr.2 hr' (by rw [hx]; exact hk); ⟨k₁,h1,.head h0 stepR_scope h2⟩⟩
 | goto l=>exact absurd hq (hg _ _ _)
 | ret=>exact ⟨_,a₁,w₁,hq,.of_steps (.one h0 stepR_scope) harr⟩
 | panic ch=>exact ⟨_,a₁,w₁,hq,.of_steps (.one h0 stepR_scope) harr⟩
 | outgrown=>exact ⟨_,a₁,w₁,hq,.of_steps (.one h0 stepR_scope) harr⟩
theorem vcG_sound (hm:P.follows .mixedOrders=true) (hcal:∀f,memN f cal=true→Enters P f):∀(an:AnG) (c:Code) (Q:Exit→Env→List Nat→World→Prop) (ρ:Env) (ms:List Nat) (w:World) (a:Act),
  vcG P n cal an c Q ρ ms w→Rel (marks ms) n a ρ→c.wpIn (wideR none) 0 P (FullG n Q) a w:=by
 intro an
 induction an with
 | o an=>
  intro c Q ρ ms w a h hr
  refine wpIn_mono (vcR_sound (r:=none) hm hcal an c _ ρ w a h hr) fun e a' w' hf=>?_
  cases e with
  | outgrown=>exact hf
  | panic ch=>obtain ⟨_,_,_,hk⟩:=hf; exact hk.elim
  | _=>obtain ⟨ρ',hr',_,hk⟩:=hf; exact ⟨ρ',ms,hr',hk⟩
 | sq an1 an2 ih1 ih2=>
  intro c Q ρ ms w a h hr
  cases c with
  | seq x y=>
   refine wpIn_seq (wpIn_mono (ih1 x _ ρ ms w a h hr) fun e a' w' hf=>?_)
   cases e with
   | normal=>obtain ⟨ρ',ms',hr',hk⟩:=hf; exact ih2 y _ ρ' ms' w' a' hk hr'
   | outgrown=>exact hf
   | panic ch=>exact hf
   | _=>exact hf
  | _=>exact h.elim
 | bl an ih=>
  intro c Q ρ ms w a h hr
  cases c with
  | block id x=>
   refine wpIn_block (wpIn_mono (ih x _ ρ ms w a h hr) fun e a' w' hf=>?_)
   cases e with
   | exit i=>
    obtain ⟨ρ',ms',hr',hk⟩:=hf
    simp only [blockG] at hk
    by_cases e:i=id
    ·subst e
     rw [Nat.beq_refl] at hk
     simp only [Exit.inBlock,if_true]
     exact ⟨ρ',ms',hr',hk⟩
    ·rw [beq_false_of_ne e] at hk
     simp only [Exit.inBlock,e,if_false]
     exact ⟨ρ',ms',hr',hk⟩
   | outgrown=>exact hf
   | panic ch=>exact hf
   | _=>exact hf
  | _=>exact h.elim
 | sc an ih=>
  intro c Q ρ ms w a h hr
  cases c with
  | scope x=>
   refine wpIn_mono (wpIn_scope (ih x _ ρ ms w a h hr) fun l a w hq=>by obtain ⟨_,_,_,hk⟩:=hq; exact hk) fun e a' w' hf=>?_
   cases e with
   | outgrown=>exact hf
   | panic ch=>exact hf
   | goto l=>obtain ⟨_,_,_,hk⟩:=hf; exact hk.elim
   | _=>exact hf
  | _=>exact h.elim
 | rf an1 an2=>
  intro c Q ρ ms w a h hr
  cases c with
  | rangeFunc g ps assign body=>
   have h:match ps.toList with
    | [p,q]=>rangeV P (ev n ρ g) w (fun l rc y z w' k=>roundV P n cal an1 an2 assign body l rc k (putPs [p,q] [y,z] ρ) w') (fun D w'=>Q .normal ρ (D::ms) w') (fun D w'=>Q .ret ρ (D::ms) w') (fun i D w'=>Q (.exit i) ρ (D::ms) w')
    | _=>False:=h
   split at h
   case h_2=>exact h.elim
   rename_i p q hps
   obtain ⟨gf,first,lb,hg,hen,hc⟩:=h.out
   refine wpIn_rangeFunc fun fn _=>?_
   have hsz:ps.size=2:=by rw [← Array.length_toList,hps]; rfl
   have hr0:Rel [] n { tmps:=a.tmps,defers:=[] } ρ:=hr.defers_of (ds':=[])
   have hcall:=hc (recOf fn a.tmps ps assign body w.heap.size) fun y z w' k hl hrd=>roundV_sound hm hcal hr0 hl (by rw [hsz]; rfl) (by rw [hps]; exact hrd)
   refine ⟨w.heap.size+1,[{ target:=.collected w.heap.size,args:=#[] }],_,{ target:=.fn (.func gf) lb.toArray,args:=first.toArray++#[Value.func (.yield (w.heap.size+1)) #[] #[]] },(w.alloc (.deferred (some []))).alloc (.loop (recOf fn a.tmps ps assign body w.heap.size .ready none)),gf,
    (first++[Value.func (.yield (w.heap.size+1)) #[] #[]]++lb).toArray,_,run_enterLoop_outer _ _ _ _ _,?_,fun _ _=>trivial,?_,(fun h=>by cases h),wideR_calls (Calls.mono hcall.out fun e w3 he=>?_)⟩
   ·have hg':a.eval g=.func (.func gf) first.toArray lb.toArray:=by rw [hr.eval]; exact hg
    simp only [resolve,hg',Deferred.ofValue,Sem.run_pure]
    have e:Array.map a.eval #[Operand.const (Value.func (.yield (w.heap.size+1)) #[] #[])]=#[Value.func (.yield (w.heap.size+1)) #[] #[]]:=by simp [Act.eval]
    rw [e]
   ·have:=hen (first++[Value.func (.yield (w.heap.size+1)) #[] #[]]++lb).toArray ((w.alloc (.deferred (some []))).alloc (.loop (recOf fn a.tmps ps assign body w.heap.size .ready none)))
    simp only [invoke]
    rw [show first.toArray++#[Value.func (.yield (w.heap.size+1)) #[] #[]]++lb.toArray=(first++[Value.func (.yield (w.heap.size+1)) #[] #[]]++lb).toArray by simp]
    exact this
   ·cases e with
    | returned v=>
     have hrm:∀a',a'={ a with defers:=[{ target:=.collected w.heap.size,args:=#[] }]++a.defers }→Rel (marks (w.heap.size::ms)) n a' ρ:=fun a' ha=>by
      subst ha
      have:=hr.defers_of (ds':=marks (w.heap.size::ms))
      simpa [hr.defers] using this
     rcases he with ⟨hl,hk⟩ | ⟨hl,hk⟩ | ⟨i,hl,hk⟩
     ·exact ⟨_,_,run_endLoop hl (by simp),ρ,_,hrm _ rfl,hk⟩
     ·exact ⟨_,_,run_endLoop hl (by simp),wpIn_ret ⟨ρ,_,hrm _ rfl,hk⟩⟩
     ·exact ⟨_,_,run_endLoop hl (by simp),wpIn_exit ⟨ρ,_,hrm _ rfl,hk⟩⟩
    | panicked ch=>exact he.elim
    | outgrown=>exact he.elim
  | _=>exact h.elim
abbrev fnQG (P:Program) (n:Nat) (rs:Array ResultVar) (Q:PQ):Exit→Env→List Nat→World→Prop
 | .normal,ρ,ms,w=>leaveMs ms w fun w=>vcRes P (evT n ρ) w rs.toList fun vs=>Q (packRes vs) w
 | .ret,ρ,ms,w=>leaveMs ms w fun w=>vcRes P (evT n ρ) w rs.toList fun vs=>Q (packRes vs) w
 | _,_,_,_=>False
theorem leaveMs_sound {fn:Func} {tmps:Array Value} {R:Ending→World→Prop} {k:World→Prop} (hk:∀w,k w→∃v,(results fn tmps).run P w=.ok v w∧R (.returned v) w):∀(ms:List Nat) (w:World),leaveMs ms w k→LeavesInM (wideR none) 0 P fn tmps R (marks ms) .returning w
 | [],w,h=>hk w h
 | D::ms,w,h=>by
  obtain ⟨hd,h⟩:=h.out
  exact ⟨by simp,.inl ⟨D,_,rfl,run_takeDeferred hd,leaveMs_sound hk ms _ h⟩⟩
theorem rel_argsY {n:Nat} {args:List Value} (hn:args.length≤n):Rel [] n { tmps:=args.toArray++Array.replicate (n - args.toArray.size) undef,defers:=[] } (argEnv args):=by
 refine ⟨rfl,by simp; omega,fun t ht=>?_⟩
 have key:∀(l:List Value) (t:Nat),(l[t]?).getD undef=argEnv l t:=by
  intro l
  induction l with
  | nil=>intro t; simp [argEnv]
  | cons v l ih=>
   intro t
   cases t with
   | zero=>rfl
   | succ t=>simpa [argEnv] using ih t
 rw [← key]
 by_cases h1:t < args.length
 ·simp [Array.getElem?_append,h1]
 ·have h2:args.length≤t:=by omega
  simp only [List.size_toArray,Array.getElem?_append,h1,if_false,Array.getElem?_replicate,Array.getD_eq_getD_getElem?,List.getElem?_eq_none h2,Option.getD_none]
  split <;> rfl
theorem clG {Z:PZ} (hm:P.follows .mixedOrders=true) (hcal:∀g,memN g cal=true→Enters P g) {f:FuncId} {fn:Func} (hf:P.funcs[f]? = some fn) (an:AnG) (args:List Value) (ho:okFn fn args.length=true)
  {w:World} {Q:PQ} {S:Prop} (hs:vcG P fn.ntmps cal an (codeOf fn) (fnQG P fn.ntmps fn.results Q) (argEnv args) [] w=S) (h:S):CallV P Z f args.toArray w Q:=by
 cases hb:fn.body with
 | none=>rw [okFn,hb] at ho; cases ho
 | some c=>
  rw [okFn,hb] at ho
  have hc:codeOf fn=c:=by rw [codeOf,hb]
  rw [hc] at hs
  refine ⟨(callsIn_wide (n:=0)).1 (callsIn_of_wp_marks (F:=wideR none) (R:=fun e w'=>match e with | .returned v=>Q v w' | .panicked ch=>Z ch w' | .outgrown=>False) hf hb trivial (wpIn_mono (vcG_sound hm hcal an c _ _ [] w _ (hs.mpr h) (rel_argsY (Nat.le_of_ble_eq_true ho))) fun e a w' hq=>?_))⟩
  have out:∀(ρ:Env) (ms:List Nat) (a:Act) (w:World),Rel (marks ms) fn.ntmps a ρ→(leaveMs ms w fun w=>vcRes P (evT fn.ntmps ρ) w fn.results.toList fun vs=>Q (packRes vs) w)→LeavesInM (wideR none) 0 P fn a.tmps (fun e w'=>match e with | .returned v=>Q v w' | .panicked ch=>Z ch w' | .outgrown=>False) a.defers .returning w:=fun ρ ms a w hr hl=>by
   rw [hr.defers]
   refine leaveMs_sound (fun w hk=>?_) ms w hl
   obtain ⟨vs,h1,h2⟩:=results_run (fn:=fn) (tmps:=a.tmps) (fun t=>hr.evT t) hk
   exact ⟨_,h1,h2⟩
  cases e with
  | normal=>obtain ⟨ρ,ms,hr,hk⟩:=hq; exact out ρ ms a w' hr hk
  | ret=>obtain ⟨ρ,ms,hr,hk⟩:=hq; exact out ρ ms a w' hr hk
  | exit i=>obtain ⟨_,_,_,hk⟩:=hq; exact hk.elim
  | goto l=>obtain ⟨_,_,_,hk⟩:=hq; exact hk.elim
  | panic ch=>exact hq.elim
  | outgrown=>exact hq.elim
theorem clY {Z:PZ} (hm:P.follows .mixedOrders=true) (hcal:∀g,memN g cal=true→Enters P g) {f:FuncId} {fn:Func} (hf:P.funcs[f]? = some fn) (an:An) (args:List Value) (ho:okFn fn args.length=true)
  {w:World} {Q:PQ} {S:Prop} (hs:vcR P fn.ntmps Z cal an (codeOf fn) (fnQ P fn.ntmps fn.results Q) (argEnv args) w=S) (h:S):CallV P Z f args.toArray w Q:=by
 cases hb:fn.body with
 | none=>rw [okFn,hb] at ho; cases ho
 | some c=>
  rw [okFn,hb] at ho
  have hc:codeOf fn=c:=by rw [codeOf,hb]
  rw [hc] at hs
  refine ⟨calls_of_wp hf hb (wpIn_wide.1 (wpIn_mono (vcR_sound (ds:=[]) (r:=none) hm hcal an c _ _ w _ (hs.mpr h) (rel_argsY (Nat.le_of_ble_eq_true ho))) fun e a w' hq=>?_))⟩
  cases e with
  | normal=>
   obtain ⟨ρ,hr,_,hk⟩:=hq
   obtain ⟨vs,h1,h2⟩:=results_run (fn:=fn) (tmps:=a.tmps) (fun t=>hr.evT t) hk
   exact ⟨hr.defers,_,h1,h2⟩
  | ret=>
   obtain ⟨ρ,hr,_,hk⟩:=hq
   obtain ⟨vs,h1,h2⟩:=results_run (fn:=fn) (tmps:=a.tmps) (fun t=>hr.evT t) hk
   exact ⟨hr.defers,_,h1,h2⟩
  | panic ch=>obtain ⟨ρ,hr,_,hk⟩:=hq; exact ⟨hr.defers,hk⟩
  | exit id=>obtain ⟨ρ,hr,_,hk⟩:=hq; exact hk.elim
  | goto l=>obtain ⟨ρ,hr,_,hk⟩:=hq; exact hk.elim
  | outgrown=>exact hq.elim
end

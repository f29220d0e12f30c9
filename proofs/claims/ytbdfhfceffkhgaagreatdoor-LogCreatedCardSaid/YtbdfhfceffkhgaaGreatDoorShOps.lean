import Derived.Test.YtbdfhfceffkhgaaGreatDoorShVc
import Derived.Below
import Derived.Laws.IdiomCopy
import Derived.ChangeKeysEq
import Derived.IntWalk
/- A region that draws its order: what is asked of its operations in the order of the text so that every order comes to the same. Nothing of any one program stands here. -/
namespace Go.Sh
variable {ds:List Deferred}
abbrev Gd:=List (Nat × Sem Next × Value)
def waits (ops:Array Oper) (j i:Nat):Bool:=
  match ops[j]? with
  | some o=>o.after.toList.any fun e=>bif Region.binds .any e then Nat.beq e.on i else false
  | none=>false
def dropG (ops:Array Oper) (j:Nat):Gd→Gd
  | []=>[]
  | g::G=>bif waits ops j g.1 then dropG ops j G else g::dropG ops j G
def gAll (P:Program) (G:Gd) (w:World):Prop:=∀g,g ∈ G→g.2.1.run P w=.ok (.value g.2.2) w
structure Still (P:Program) (s:Sem Next) (v:Value) (w:World) (A:Prop):Prop where
  now:s.run P w=.ok (.value v) w
  out:A
abbrev gAnd (P:Program) (w:World):Gd→Prop→Prop
  | [],A=>A
  | g::G,A=>Still P g.2.1 g.2.2 w (gAnd P w G A)
theorem gAnd_spec {P:Program} {w:World} {G:Gd} {A:Prop} (h:gAnd P w G A):gAll P G w∧A:=by
  induction G with
  | nil=>exact ⟨fun g hg=>by simp at hg,h⟩
  | cons g G ih=>
    obtain ⟨h1,h2⟩:=h
    obtain ⟨h3,h4⟩:=ih h2
    exact ⟨fun x hx=>(List.mem_cons.1 hx).elim (fun e=>e ▸ h1) (h3 x),h4⟩
theorem mem_dropG {ops:Array Oper} {j:Nat} {G:Gd} {g:Nat × Sem Next × Value} (h:g ∈ dropG ops j G):g ∈ G:=by
  induction G with
  | nil=>exact h
  | cons x G ih=>
    simp only [dropG] at h
    cases hw:waits ops j x.1 with
    | true=>rw [hw] at h; exact List.mem_cons_of_mem _ (ih h)
    | false=>
      rw [hw] at h
      rcases List.mem_cons.1 h with rfl | h
      · exact List.mem_cons_self
      · exact List.mem_cons_of_mem _ (ih h)
theorem dropG_append (ops:Array Oper) (j:Nat) (G H:Gd):dropG ops j (G++H)=dropG ops j G++dropG ops j H:=by
  induction G with
  | nil=>rfl
  | cons x G ih=>
    simp only [List.cons_append,dropG]
    cases waits ops j x.1
    · simp [ih]
    · simpa using ih
theorem dropG_keep {ops:Array Oper} {i j:Nat} {G:Gd} (hw:waits ops j i=false) (hG:∀g,g ∈ G→g.1=i):dropG ops j G=G:=by
  induction G with
  | nil=>rfl
  | cons x G ih=>
    simp only [dropG,hG x List.mem_cons_self,hw]
    rw [ih fun g hg=>hG g (List.mem_cons_of_mem _ hg)]
    rfl
section
variable {P:Program} {ops:Array Oper} {Q:Exit→Act→World→Prop}
def wpAnyG (P:Program) (ops:Array Oper) (Q:Exit→Act→World→Prop):Nat→Array Bool→Gd→Act→World→Prop
  | 0,listed,G,a,w=>gAll P G w∧Region.ready .any ops listed=[]∧Q .normal a w
  | fuel+1,listed,G,a,w=>gAll P G w∧(Region.ready .any ops listed=[]→Q .normal a w) ∧
    ∀i ∈ Region.ready .any ops listed,wpOp P ops Q i (wpAnyG P ops Q fuel (listed.setIfInBounds i true) (dropG ops i G)) a w
theorem wpAnyG.all:∀{fuel:Nat} {listed:Array Bool} {G:Gd} {a:Act} {w:World},wpAnyG P ops Q fuel listed G a w→gAll P G w
  | 0,_,_,_,_,h=>h.1
  | _+1,_,_,_,_,h=>h.1
theorem wpAnyG.any:∀{fuel:Nat} {listed:Array Bool} {G:Gd} {a:Act} {w:World},wpAnyG P ops Q fuel listed G a w→wpAny P .any ops Q fuel listed a w
  | 0,_,_,_,_,h=>h.2
  | _+1,_,_,_,_,h=>⟨h.2.1,fun i hi=>wpOp_mono (fun _ _ hh=>wpAnyG.any hh) (h.2.2 i hi)⟩
theorem dropG_sub {ops:Array Oper} {j:Nat}:∀{G G':Gd},(∀g,g ∈ G'→g ∈ G)→∀g,g ∈ dropG ops j G'→g ∈ dropG ops j G:=by
  have key:∀(G:Gd) (g:Nat × Sem Next × Value),g ∈ dropG ops j G ↔ g ∈ G∧waits ops j g.1=false:=by
    intro G
    induction G with
    | nil=>intro g; simp [dropG]
    | cons x G ih=>
      intro g
      simp only [dropG]
      cases hw:waits ops j x.1 with
      | true=>
        simp only [cond_true,ih,List.mem_cons]
        constructor
        · rintro ⟨h1,h2⟩; exact ⟨.inr h1,h2⟩
        · rintro ⟨rfl | h1,h2⟩
          · rw [hw] at h2; cases h2
          · exact ⟨h1,h2⟩
      | false=>
        simp only [cond_false,List.mem_cons,ih]
        constructor
        · rintro (rfl | ⟨h1,h2⟩)
          · exact ⟨.inl rfl,hw⟩
          · exact ⟨.inr h1,h2⟩
        · rintro ⟨rfl | h1,h2⟩
          · exact .inl rfl
          · exact .inr ⟨h1,h2⟩
  intro G G' h g hg
  rw [key] at hg ⊢
  exact ⟨h g hg.1,hg.2⟩
theorem wpAnyG.weaken:∀{fuel:Nat} {listed:Array Bool} {G G':Gd} {a:Act} {w:World},(∀g,g ∈ G'→g ∈ G)→wpAnyG P ops Q fuel listed G a w→wpAnyG P ops Q fuel listed G' a w
  | 0,_,_,_,_,_,hs,h=>⟨fun g hg=>h.1 g (hs g hg),h.2⟩
  | _+1,_,_,_,_,_,hs,h=>⟨fun g hg=>h.1 g (hs g hg),h.2.1,fun i hi=>wpOp_mono (fun _ _ hh=>wpAnyG.weaken (dropG_sub hs) hh) (h.2.2 i hi)⟩
def SameOp (ops:Array Oper) (o:Oper) (a a':Act):Prop:=execOp a'.eval o=execOp a.eval o∧Region.wanted o (yielded ops a'.tmps)=Region.wanted o (yielded ops a.tmps)
theorem wpOp_put' {j:Nat} {oi oj:Oper} {v:Value} (hj:ops[j]? = some oj) (hap:oi.apart ops oj=true)
    (hsi:∀cs b,oi.op ≠ .select cs b) (hsj:∀cs b,oj.op ≠ .select cs b)
    (hQ:∀c a w,Q (.panic c) (a.put oi.dst v) w→Q (.panic c) a w) {K:Act→World→Prop} {a:Act} {w:World}
    (h:wpOp P ops Q j K (a.put oi.dst v) w):wpOp P ops Q j (fun a' w'=>SameOp ops oi a a'∧K (a'.put oi.dst v) w') a w:=by
  obtain ⟨h1,h2,h3⟩:=Oper.apart_spec hap
  have keep:∀(b:Act),SameOp ops oi a b→∀u,SameOp ops oi a (b.put oj.dst u):=fun b hy u=>
    ⟨(execOp_put oi hsi b oj.dst u h3).trans hy.1,(wanted_put oi b oj.dst u h3).trans hy.2⟩
  have k0:SameOp ops oi a a:=⟨rfl,rfl⟩
  have keepD:∀d,SameOp ops oi a { a with defers:=d::a.defers }:=fun d=>⟨rfl,rfl⟩
  unfold wpOp at *
  simp only [hj] at *
  rw [wanted_put oj a oi.dst v h1] at h
  split
  · rename_i hw
    simp only [hw,if_true] at h
    rcases h with h | ⟨hasks,hlets⟩
    case inr=>exact .inr ⟨by unfold Oper.asks at *; rw [execOp_put oj hsj a oi.dst v h1] at hasks; exact hasks,hlets⟩
    refine .inl ?_
    unfold Oper.wp at *
    rw [execOp_put oj hsj a oi.dst v h1] at h
    generalize (execOp a.eval oj).run P w=r at *
    cases r with
    | ok n w'=>
      cases n <;> simp only [Oper.upon] at h ⊢
      case value u=>exact ⟨keep a k0 u,by rw [← Act.put_comm a v u h2]; exact h⟩
      case skip=>exact ⟨keep a k0 _,by rw [← Act.put_comm a v undef h2]; exact h⟩
      case defer d=>
        refine ⟨keep _ (keepD d) _,?_⟩
        rw [← Act.put_comm _ v undef h2,← Act.put_defers]
        exact h
      case enter f args=>
        refine Calls.mono h fun e w'' he=>?_
        cases e with
        | returned u=>exact ⟨keep a k0 u,by rw [← Act.put_comm a v u h2]; exact he⟩
        | panicked c=>exact hQ _ _ _ he
        | outgrown=>exact he
      case row row args=>exact Rows.mono h fun u w'' he=>⟨keep a k0 u,by rw [← Act.put_comm a v u h2]; exact he⟩
    | halt x w'=>
      cases x <;> simp only [Oper.upon] at h ⊢
      case panic u=>exact hQ _ _ _ h
  · rename_i hw
    simp only [hw] at h
    exact ⟨keep a k0 _,by rw [← Act.put_comm a v undef h2]; exact h⟩
theorem waits_spec {i j:Nat} {oj:Oper} (hj:ops[j]? = some oj) (h:∀e ∈ oj.after,Region.binds .any e=true→e.on ≠ i):waits ops j i=false:=by
  unfold waits
  rw [hj]
  simp only
  rw [List.any_eq_false]
  intro e he
  cases hb:Region.binds .any e with
  | false=>simp
  | true=>
    have:=h e (by simpa using he) hb
    rw [beq_false_of_ne this]; simp
theorem wpAnyG_first {C:World→Prop} {i:Nat} {oi:Oper} {v:Value} {Gi:Gd} (hi:ops[i]? = some oi) (hsel:∀(j:Nat) (o:Oper) cs b,ops[j]? = some o→o.op ≠ .select cs b)
    (hQ:∀c a w,Q (.panic c) (a.put oi.dst v) w→Q (.panic c) a w) (hGi:∀g,g ∈ Gi→g.1=i) (hC:∀w,gAll P Gi w→C w) :
    ∀(fuel:Nat) (listed:Array Bool) (G:Gd) (a:Act) (w:World),
      (∀j oj,ops[j]? = some oj→j ≠ i→listed.getD j true=false→(∀e ∈ oj.after,Region.binds .any e=true→e.on ≠ i)→oi.apart ops oj=true) →
      i ∈ Region.ready .any ops listed →
      ((Region.wanted oi (yielded ops a.tmps)=true∧∀w,C w→(execOp a.eval oi).run P w=.ok (.value v) w)∨(Region.wanted oi (yielded ops a.tmps)=false∧v=undef)) →
      C w→gAll P G w→wpAnyG P ops Q fuel (listed.setIfInBounds i true) (Gi++G) (a.put oi.dst v) w→wpAnyG P ops Q (fuel+1) listed G a w:=by
  intro fuel
  have self:∀{K:Act→World→Prop} {a:Act} {w:World},((Region.wanted oi (yielded ops a.tmps)=true∧∀w,C w→(execOp a.eval oi).run P w=.ok (.value v) w)∨(Region.wanted oi (yielded ops a.tmps)=false∧v=undef))→C w→K (a.put oi.dst v) w→wpOp P ops Q i K a w:=by
    intro K a w hy hc hk
    unfold wpOp
    simp only [hi]
    rcases hy with ⟨hw,hv⟩ | ⟨hw,rfl⟩
    · simp only [hw,if_true,Oper.wp,hv w hc,Oper.upon]; exact .inl hk
    · simp only [hw,Bool.false_eq_true,if_false]; exact hk
  induction fuel with
  | zero=>
    intro listed G a w _ hr hy hc hG H
    refine ⟨hG,fun h=>(by rw [h] at hr; cases hr),fun j hj=>?_⟩
    by_cases hji:j=i
    · subst hji
      exact self hy hc (H.weaken fun g hg=>List.mem_append_right _ (mem_dropG hg))
    · have:=ready_mono hj hji
      rw [H.2.1] at this
      cases this
  | succ fuel ih=>
    intro listed G a w hfree hr hy hc hG H
    refine ⟨hG,fun h=>(by rw [h] at hr; cases hr),fun j hj=>?_⟩
    by_cases hji:j=i
    · subst hji
      exact self hy hc (H.weaken fun g hg=>List.mem_append_right _ (mem_dropG hg))
    · have h1:=H.2.2 j (ready_mono hj hji)
      obtain ⟨hjun,oj,hoj,hall⟩:=mem_ready.1 hj
      have hnot:∀e ∈ oj.after,Region.binds .any e=true→e.on ≠ i:=fun e he hb heq=>by
        have h1:=hall e he hb
        have h0:=(mem_ready.1 hr).1
        rw [heq] at h1
        rcases Nat.lt_or_ge i listed.size with h' | h'
        · simp [h'] at h0 h1; rw [h0] at h1; cases h1
        · simp [Array.getElem?_eq_none h'] at h1
      rw [dropG_append,dropG_keep (waits_spec hoj hnot) hGi] at h1
      have h2:=wpOp_put' hoj (hfree j oj hoj hji hjun hnot) (fun cs b=>hsel i oi cs b hi) (fun cs b=>hsel j oj cs b hoj) hQ h1
      have hfree':∀k ok,ops[k]? = some ok→k ≠ i→(listed.setIfInBounds j true).getD k true=false →
          (∀e ∈ ok.after,Region.binds .any e=true→e.on ≠ i)→oi.apart ops ok=true:=fun k ok hk hki hun hno=>by
        refine hfree k ok hk hki ?_ hno
        by_cases hjk:j=k
        · subst hjk; exact hjun
        · rw [getD_set_ne true hjk] at hun; exact hun
      refine wpOp_mono (fun a' w' h3=>?_) h2
      have hall':=h3.2.all
      refine ih (listed.setIfInBounds j true) (dropG ops j G) a' w' hfree' (ready_mono hr (Ne.symm hji)) ?_ (hC w' fun g hg=>hall' g (List.mem_append_left _ hg)) (fun g hg=>hall' g (List.mem_append_right _ hg)) ?_
      · unfold SameOp at h3
        rw [h3.1.1,h3.1.2]; exact hy
      · rw [Array.setIfInBounds_comm _ _ hji]
        exact h3.2
end

abbrev opAt:List Oper→Nat→Option Oper
  | [],_=>none
  | o::_,0=>some o
  | _::os,j+1=>opAt os j
theorem opAt_list:∀(os:List Oper) (j:Nat),opAt os j=os[j]?
  | [],j=>by simp [opAt]
  | o::os,0=>by simp [opAt]
  | o::os,j+1=>by simp [opAt,opAt_list os j]
theorem opAt_eq (ops:Array Oper) (j:Nat):opAt ops.toList j=ops[j]? := by rw [opAt_list,Array.getElem?_toList]
abbrev allE (f:Edge→Bool):List Edge→Bool
  | []=>true
  | e::es=>bif f e then allE f es else false
abbrev anyE (f:Edge→Bool):List Edge→Bool
  | []=>false
  | e::es=>bif f e then true else anyE f es
theorem allE_spec {f:Edge→Bool}:∀{es:List Edge},allE f es=true ↔ ∀e,e ∈ es→f e=true
  | []=>by simp [allE]
  | e::es=>by
    simp only [allE,List.mem_cons,forall_eq_or_imp]
    cases f e with
    | true=>simpa using allE_spec (es:=es)
    | false=>simp
theorem anyE_false {f:Edge→Bool}:∀{es:List Edge},anyE f es=false ↔ ∀e,e ∈ es→f e=false
  | []=>by simp [anyE]
  | e::es=>by
    simp only [anyE,List.mem_cons,forall_eq_or_imp]
    cases f e with
    | true=>simp
    | false=>simpa using anyE_false (es:=es)
abbrev waitsO (o:Oper) (i:Nat):Bool:=anyE (fun e=>bif Region.binds .any e then Nat.beq e.on i else false) o.after.toList
abbrev readyO (done:List Nat) (i:Nat) (o:Oper):Bool:=bif memN i done then false else allE (fun e=>bif Region.binds .any e then memN e.on done else true) o.after.toList
abbrev onlyReady (done l:List Nat):List Oper→Nat→Bool
  | [],_=>true
  | o::os,k=>bif (bif memN k l then true else !readyO done k o) then onlyReady done l os (k+1) else false
abbrev looksO (os:List Oper) (o:Oper):List Nat:=
  (match o.guard with
   | some (g,_)=>(match dstAt os g with | some t=>[t] | none=>[])
   | none=>[])++o.op.operands.toList.filterMap fun | .tmp t=>some t | _=>none
abbrev apartO (os:List Oper) (lx:List Nat) (dx:Option Tmp) (y:Oper):Bool:=
  bif (match dx with
   | some d=>bif memN d (looksO os y) then false else (match y.dst with | some e=>!Nat.beq e d | none=>true)
   | none=>true) then (match y.dst with
   | some d=>!memN d lx
   | none=>true) else false
abbrev freeO (os0:List Oper) (done:List Nat) (i:Nat) (lx:List Nat) (dx:Option Tmp):List Oper→Nat→Bool
  | [],_=>true
  | o::os,k=>bif (bif Nat.beq k i then true else bif memN k done then true else bif waitsO o i then true else apartO os0 lx dx o) then freeO os0 done i lx dx os (k+1) else false
theorem memN_iff {t:Nat} {xs:List Nat}:memN t xs=true ↔ t ∈ xs:=by
  induction xs with
  | nil=>simp [memN]
  | cons x xs ih=>
    simp only [memN,List.mem_cons]
    by_cases h:t=x
    · subst h; simp [Nat.beq_refl]
    · rw [beq_false_of_ne h]; simp [h,ih]
theorem memN_false {t:Nat} {xs:List Nat}:memN t xs=false ↔ t ∉ xs:=by
  rw [← memN_iff]; cases memN t xs <;> simp
theorem waitsO_spec {ops:Array Oper} {i j:Nat} {o:Oper} (ho:ops[j]? = some o):waitsO o i=waits ops j i:=by
  unfold waits waitsO
  rw [ho]
  simp only
  cases h:anyE (fun e=>bif Region.binds .any e then Nat.beq e.on i else false) o.after.toList with
  | false=>
    rw [anyE_false] at h
    exact (List.any_eq_false.2 fun e he=>by rw [h e he]; simp).symm
  | true=>
    refine (List.any_eq_true.2 ?_).symm
    cases hh:o.after.toList.any fun e=>bif Region.binds .any e then Nat.beq e.on i else false with
    | true=>exact List.any_eq_true.1 hh
    | false=>
      rw [List.any_eq_false] at hh
      have:anyE (fun e=>bif Region.binds .any e then Nat.beq e.on i else false) o.after.toList=false:=anyE_false.2 fun e he=>Bool.eq_false_iff.2 (hh e he)
      rw [this] at h; cases h
theorem looks_mem {ops:Array Oper} {o:Oper} {d:Nat}:d ∈ o.looksAt ops ↔ d ∈ looksO ops.toList o:=by
  unfold Oper.looksAt looksO
  rw [List.mem_append,List.mem_append,or_comm]
  refine or_congr ?_ Iff.rfl
  cases o.guard with
  | none=>exact Iff.rfl
  | some g=>
    obtain ⟨g,b⟩:=g
    simp only [dstAt_eq]
    cases (ops[g]?).bind (·.dst) <;> simp
theorem apartO_spec {ops:Array Oper} {x y:Oper} (h:apartO ops.toList (looksO ops.toList x) x.dst y=true):x.apart ops y=true:=by
  unfold apartO at h
  unfold Oper.apart
  rw [Bool.and_eq_true]
  have h1:(match x.dst with
   | some d=>bif memN d (looksO ops.toList y) then false else (match y.dst with | some e=>!Nat.beq e d | none=>true)
   | none=>true)=true:=by
    cases hh:(match x.dst with
     | some d=>bif memN d (looksO ops.toList y) then false else (match y.dst with | some e=>!Nat.beq e d | none=>true)
     | none=>true) with
    | true=>rfl
    | false=>rw [hh] at h; cases h
  rw [h1] at h
  refine ⟨?_,?_⟩
  · cases hx:x.dst with
    | none=>rfl
    | some d=>
      simp only [hx] at h1
      cases hm:memN d (looksO ops.toList y) with
      | true=>rw [hm] at h1; cases h1
      | false=>
        rw [hm] at h1
        have hn:d ∉ y.looksAt ops:=fun hh=>memN_false.1 hm (looks_mem.1 hh)
        simp only [Bool.and_eq_true,Bool.not_eq_true',bne_iff_ne,ne_eq]
        refine ⟨by simpa using hn,fun e=>?_⟩
        simp only [e,cond_false] at h1
        rw [Nat.beq_refl] at h1; cases h1
  · cases hy:y.dst with
    | none=>rfl
    | some d=>
      simp only [hy,cond_true] at h
      have hm:memN d (looksO ops.toList x)=false:=by cases hh:memN d (looksO ops.toList x) <;> simp [hh] at h ⊢
      have hn:d ∉ x.looksAt ops:=fun hh=>memN_false.1 hm (looks_mem.1 hh)
      simpa using hn
theorem freeO_spec {os0:List Oper} {done:List Nat} {i:Nat} {lx:List Nat} {dx:Option Tmp}:∀{os:List Oper} {k:Nat},freeO os0 done i lx dx os k=true→∀(j:Nat) (o:Oper),os[j]? = some o→k+j ≠ i→memN (k+j) done=false→waitsO o i=false→apartO os0 lx dx o=true
  | [],_,_,j,o,ho,_,_,_=>by simp at ho
  | x::os,k,h,j,o,ho,hne,hd,hw=>by
    unfold freeO at h
    cases j with
    | zero=>
      simp at ho
      subst ho
      rw [Nat.add_zero] at hne hd
      rw [beq_false_of_ne hne,hd,hw] at h
      simp only [cond_false] at h
      cases ha:apartO os0 lx dx x with
      | true=>rfl
      | false=>rw [ha] at h; cases h
    | succ j=>
      have h2:freeO os0 done i lx dx os (k+1)=true:=by
        cases hc:(bif Nat.beq k i then true else bif memN k done then true else bif waitsO x i then true else apartO os0 lx dx x) with
        | true=>rw [hc] at h; exact h
        | false=>rw [hc] at h; cases h
      exact freeO_spec h2 j o (by simpa using ho) (by omega) (by rw [show k+1+j=k+(j+1) from by omega]; exact hd) hw
theorem onlyReady_spec {done l:List Nat}:∀{os:List Oper} {k:Nat},onlyReady done l os k=true→∀(j:Nat) (o:Oper),os[j]? = some o→readyO done (k+j) o=true→k+j ∈ l
  | [],_,_,j,o,ho,_=>by simp at ho
  | x::os,k,h,j,o,ho,hr=>by
    unfold onlyReady at h
    cases j with
    | zero=>
      simp at ho
      subst ho
      rw [Nat.add_zero] at hr ⊢
      cases hm:memN k l with
      | true=>exact memN_iff.1 hm
      | false=>rw [hm,hr] at h; cases h
    | succ j=>
      have h2:onlyReady done l os (k+1)=true:=by
        cases hc:(bif memN k l then true else !readyO done k x) with
        | true=>rw [hc] at h; exact h
        | false=>rw [hc] at h; cases h
      have:=onlyReady_spec h2 j o (by simpa using ho) (by rw [show k+1+j=k+(j+1) from by omega]; exact hr)
      rw [show k+1+j=k+(j+1) from by omega] at this
      exact this
structure LR (ops:Array Oper) (done:List Nat) (listed:Array Bool):Prop where
  size:listed.size=ops.size
  get:∀i,i < ops.size→listed.getD i true=memN i done
theorem LR.put {ops:Array Oper} {done:List Nat} {listed:Array Bool} (h:LR ops done listed) (i:Nat):LR ops (i::done) (listed.setIfInBounds i true):=by
  refine ⟨by simp [h.size],fun j hj=>?_⟩
  simp only [memN]
  by_cases e:j=i
  · subst e; rw [Nat.beq_refl]; simp [h.size,hj]
  · rw [beq_false_of_ne e,getD_set_ne true (Ne.symm e)]; exact h.get j hj
theorem LR.get' {ops:Array Oper} {done:List Nat} {listed:Array Bool} (h:LR ops done listed) {i:Nat} (hm:i ∈ done) (hi:i < ops.size):listed.getD i false=true:=by
  have:=h.get i hi
  rw [memN_iff.2 hm] at this
  simp [h.size,hi] at this ⊢; exact this
theorem LR.lt {ops:Array Oper} {done:List Nat} {listed:Array Bool} (h:LR ops done listed) {i:Nat} (hm:listed.getD i false=true):i < ops.size:=by
  rcases Nat.lt_or_ge i listed.size with h' | h'
  · rw [← h.size]; exact h'
  · simp [Array.getElem?_eq_none h'] at hm
def okDone (ops:Array Oper) (done:List Nat):Prop:=∀i,i ∈ done→i < ops.size
theorem mem_readyO {ops:Array Oper} {done:List Nat} {listed:Array Bool} (h:LR ops done listed) (hd:okDone ops done) {i:Nat} {o:Oper} (ho:ops[i]? = some o):i ∈ Region.ready .any ops listed ↔ readyO done i o=true:=by
  rw [mem_ready]
  have hlt:i < ops.size:=(Array.getElem?_eq_some_iff.1 ho).1
  unfold readyO
  simp only [ho,Option.some.injEq,exists_eq_left',h.get i hlt]
  cases hm:memN i done with
  | true=>simp
  | false=>
    simp only [true_and,cond_false,allE_spec,Array.mem_toList_iff]
    constructor
    · intro hh e he
      cases hb:Region.binds .any e with
      | false=>rfl
      | true=>
        have h1:=hh e he hb
        have h2:=h.lt h1
        simp only [cond_true]
        have h3:=h.get e.on h2
        rw [← h3]
        simp [h.size,h2] at h1 ⊢; exact h1
    · intro hh e he hb
      have h1:=hh e he
      rw [hb] at h1
      simp only [cond_true] at h1
      have h2:=memN_iff.1 h1
      exact h.get' h2 (hd _ h2)
theorem ready_lt {ops:Array Oper} {listed:Array Bool} {i:Nat} (h:i ∈ Region.ready .any ops listed):∃o,ops[i]? = some o:=by
  obtain ⟨_,o,ho,_⟩:=mem_ready.1 h
  exact ⟨o,ho⟩
structure PureV (P:Program) (s:Sem Next) (k:Value→Prop):Prop where
  out:∃v,(∀w,s.run P w=.ok (.value v) w)∧k v
structure ReadV (P:Program) (s:Sem Next) (w:World) (k:Value→Prop):Prop where
  out:∃v,s.run P w=.ok (.value v) w∧k v
structure pU (P:Program) (s:Sem Value) (k:Value→Prop):Prop where
  out:∃v,(∀w,(nx s).run P w=.ok (.value v) w)∧k v
structure rD (P:Program) (s:Sem Value) (w:World) (k:Value→Prop):Prop where
  out:∃v,(nx s).run P w=.ok (.value v) w∧k v
def gSem (v:Value) (want:Bool) (s:Sem Next):Sem Next:=bif isB v want then s else pure (.value undef)
abbrev gSemE (n:Nat) (os:List Oper) (ρ:Env) (o:Oper) (s:Sem Next):Sem Next:=
  match o.guard with
  | none=>s
  | some (j,want)=>match dstAt os j with
    | some d=>gSem (evT n ρ d) want s
    | none=>pure (.value undef)
theorem gSem_yes {n:Nat} {ops:Array Oper} {ρ:Env} {o:Oper} {a:Act} {s:Sem Next} (hr:Rel ds n a ρ) (hw:Region.wanted o (yielded ops a.tmps)=true):gSemE n ops.toList ρ o s=s:=by
  unfold gSemE
  cases hg:o.guard with
  | none=>rfl
  | some gw=>
    obtain ⟨j,want⟩:=gw
    simp only [dstAt_eq]
    cases hd:(ops[j]?).bind (·.dst) with
    | none=>rw [wanted_none hr hg hd] at hw; cases hw
    | some d=>
      simp only
      unfold gSem
      cases hc:isB (evT n ρ d) want with
      | true=>rfl
      | false=>
        rcases guard_spec (A:=False) (B:=True) hr hg hd (by rw [hc]; trivial) with ⟨_,h⟩ | ⟨h,_⟩
        · exact h.elim
        · rw [h] at hw; cases hw
theorem gSem_no {n:Nat} {ops:Array Oper} {ρ:Env} {o:Oper} {a:Act} {s:Sem Next} (hr:Rel ds n a ρ) (hw:Region.wanted o (yielded ops a.tmps)=false):gSemE n ops.toList ρ o s=pure (.value undef):=by
  unfold gSemE
  cases hg:o.guard with
  | none=>simp [Region.wanted,hg] at hw
  | some gw=>
    obtain ⟨j,want⟩:=gw
    simp only [dstAt_eq]
    cases hd:(ops[j]?).bind (·.dst) with
    | none=>rfl
    | some d=>
      simp only
      unfold gSem
      cases hc:isB (evT n ρ d) want with
      | false=>rfl
      | true=>
        rcases guard_spec (A:=True) (B:=False) hr hg hd (by rw [hc]; trivial) with ⟨h,_⟩ | ⟨_,h⟩
        · rw [h] at hw; cases hw
        · exact h.elim
abbrev dropO (o:Oper):Gd→Gd
  | []=>[]
  | g::G=>bif waitsO o g.1 then dropO o G else g::dropO o G
theorem dropO_eq {ops:Array Oper} {j:Nat} {o:Oper} (ho:ops[j]? = some o):∀(G:Gd),dropO o G=dropG ops j G
  | []=>rfl
  | g::G=>by simp only [dropO,dropG,waitsO_spec ho,dropO_eq ho G]
abbrev vcD (P:Program) (n:Nat) (Z:PZ) (cal:List Nat) (os:List Oper) (Q:Env→World→Prop):Plan→List Nat→Gd→Env→World→Prop
  | .fin,done,_,ρ,w=>bif onlyReady done [] os 0 then Q ρ w else False
  | .take i rd p,done,G,ρ,w=>match opAt os i with
    | none=>False
    | some o=>bif (bif readyO done i o then freeO os done i (looksO os o) o.dst os 0 else false) then
        bif rd then match valSem (ev n ρ) o with
          | some s=>guardP n os ρ o
            (fun k=>rD P s w k)
            (fun v=>vcD P n Z cal os Q p (i::done) ((i,gSemE n os ρ o (nx s),v)::G) (putD ρ o.dst v) w)
          | none=>False
        else guardP n os ρ o
            (fun k=>match o.op with
              | .move x=>k (ev n ρ x)
              | .assign x=>k (ev n ρ x)
              | .nilCheck x=>PureV P (nilChk (ev n ρ x)) k
              | _=>match valSem (ev n ρ) o with
                | some s=>pU P s k
                | none=>False)
            (fun v=>vcD P n Z cal os Q p (i::done) G (putD ρ o.dst v) w)
      else False
  | .one j p,done,G,ρ,w=>match opAt os j with
    | none=>False
    | some o=>bif (bif readyO done j o then onlyReady done [j] os 0 else false) then
        guardE n os ρ o (fun k=>opE P n Z cal ρ o w k) (fun v w'=>gAnd P w' (dropO o G) (vcD P n Z cal os Q p (j::done) (dropO o G) (putD ρ o.dst v) w')) w
      else False
  | .two j p k q,done,G,ρ,w=>match opAt os j with
    | none=>False
    | some o=>match opAt os k with
      | none=>False
      | some u=>bif (bif readyO done j o then onlyReady done [j,k] os 0 else false) then
          guardE n os ρ o (fun k=>opE P n Z cal ρ o w k) (fun v w'=>gAnd P w' (dropO o G) (vcD P n Z cal os Q p (j::done) (dropO o G) (putD ρ o.dst v) w')) w ∧
          guardE n os ρ u (fun k=>opE P n Z cal ρ u w k) (fun v w'=>gAnd P w' (dropO u G) (vcD P n Z cal os Q q (k::done) (dropO u G) (putD ρ u.dst v) w')) w
        else False
abbrev noSel:List Oper→Bool
  | []=>true
  | o::os=>match o.op with
    | .select ..=>false
    | _=>noSel os
theorem noSel_spec:∀{os:List Oper},noSel os=true→∀o,o ∈ os→∀cs b,o.op ≠ .select cs b
  | [],_,o,ho,_,_=>by cases ho
  | x::os,h,o,ho,cs,b=>by
    intro e
    unfold noSel at h
    rcases List.mem_cons.1 ho with rfl | ho
    · rw [e] at h; cases h
    · split at h
      · cases h
      · exact noSel_spec h o ho cs b e
abbrev Plan.size:Plan→Nat
  | .fin=>0
  | .take _ _ p=>p.size+1
  | .one _ p=>p.size+1
  | .two _ p _ q=>max p.size q.size+1
section
variable {P:Program} {n:Nat} {Z:PZ} {cal:List Nat} {ops:Array Oper} {K:Env→World→Prop} {Q:Exit→Act→World→Prop} {ρ0:Env}
theorem wpAnyG_stop {fuel:Nat} {listed:Array Bool} {G:Gd} {a:Act} {w:World} (h0:Region.ready .any ops listed=[]) (hG:gAll P G w) (hq:Q .normal a w):wpAnyG P ops Q fuel listed G a w:=by
  cases fuel with
  | zero=>exact ⟨hG,h0,hq⟩
  | succ fuel=>exact ⟨hG,fun _=>hq,fun i hi=>by rw [h0] at hi; cases hi⟩
theorem vcD_sound (hcal:∀f,memN f cal=true→Enters P f) (hs:noSel ops.toList=true)
    (hQ:∀a ρ w,Rel ds n a ρ→Agree (dsts ops.toList) ρ0 ρ→K ρ w→Q .normal a w) (hZ:∀ch a ρ w,Rel ds n a ρ→Agree (dsts ops.toList) ρ0 ρ→Z ch w→Q (.panic ch) a w) (hQp:∀ch (i:Nat) (o:Oper) v a w,ops[i]? = some o→Q (.panic ch) (a.put o.dst v) w→Q (.panic ch) a w) :
    ∀(p:Plan) (fuel:Nat) (done:List Nat) (G:Gd) (ρ:Env) (w:World) (a:Act) (listed:Array Bool),p.size≤fuel→vcD P n Z cal ops.toList K p done G ρ w→LR ops done listed→okDone ops done→Rel ds n a ρ→Agree (dsts ops.toList) ρ0 ρ→gAll P G w →
      wpAnyG P ops Q fuel listed G a w:=by
  have hsel:∀(j:Nat) (o:Oper) cs b,ops[j]? = some o→o.op ≠ .select cs b:=fun j o cs b ho=>
    noSel_spec hs o (Array.mem_toList_iff.2 (Array.mem_of_getElem? ho)) cs b
  have only:∀{done l:List Nat} {listed:Array Bool},LR ops done listed→okDone ops done→onlyReady done l ops.toList 0=true→∀i,i ∈ Region.ready .any ops listed→i ∈ l:=by
    intro done l listed h1 h2 h3 i hi
    obtain ⟨o,ho⟩:=ready_lt hi
    have:=onlyReady_spec h3 i o (by rw [Array.getElem?_toList]; exact ho) (by rw [Nat.zero_add]; exact (mem_readyO h1 h2 ho).1 hi)
    rwa [Nat.zero_add] at this
  -- one operation that must be next
  have next:∀{done:List Nat} {G:Gd} {ρ:Env} {w:World} {a:Act} {listed:Array Bool} {fuel j:Nat} {o:Oper} {p:Plan},
      (∀(done:List Nat) (G:Gd) (ρ:Env) (w:World) (a:Act) (listed:Array Bool),vcD P n Z cal ops.toList K p done G ρ w→LR ops done listed→okDone ops done→Rel ds n a ρ→Agree (dsts ops.toList) ρ0 ρ→gAll P G w→wpAnyG P ops Q fuel listed G a w) →
      ops[j]? = some o→LR ops done listed→okDone ops done→Rel ds n a ρ→Agree (dsts ops.toList) ρ0 ρ →
      guardE n ops.toList ρ o (fun k=>opE P n Z cal ρ o w k) (fun v w'=>gAnd P w' (dropO o G) (vcD P n Z cal ops.toList K p (j::done) (dropO o G) (putD ρ o.dst v) w')) w →
      wpOp P ops Q j (wpAnyG P ops Q fuel (listed.setIfInBounds j true) (dropG ops j G)) a w:=by
    intro done G ρ w a listed fuel j o p ih ho hl hd hr hag h1
    have hilt:j < ops.size:=(Array.getElem?_eq_some_iff.1 ho).1
    have hd':okDone ops (j::done):=fun k hk=>(List.mem_cons.1 hk).elim (fun e=>e ▸ hilt) (hd k)
    rw [dropO_eq ho] at h1
    unfold wpOp
    simp only [ho]
    rcases guardE_spec hr h1 with ⟨hw,hA⟩ | ⟨hw,hB⟩
    · rw [if_pos hw]
      refine .inl ?_
      unfold Oper.wp
      rw [hr.eval]
      refine opV_upon (opE_sound hcal hA) (fun v w' hk=>?_) (fun ch w' hz=>hZ ch a ρ w' hr hag hz)
      obtain ⟨hg,hk⟩:=gAnd_spec hk
      exact ih _ _ _ w' _ _ hk (hl.put j) hd' (hr.put o.dst v) (hag.trans (agree_putD ho ρ v)) hg
    · rw [hw]
      obtain ⟨hg,hk⟩:=gAnd_spec hB
      exact ih _ _ _ w _ _ hk (hl.put j) hd' (hr.put o.dst undef) (hag.trans (agree_putD ho ρ undef)) hg
  intro p
  induction p with
  | fin=>
    intro fuel done G ρ w a listed _ h hl hd hr hag hG
    unfold vcD at h
    cases hc:onlyReady done [] ops.toList 0 with
    | false=>rw [hc] at h; exact h.elim
    | true=>
      rw [hc] at h
      exact wpAnyG_stop (List.eq_nil_iff_forall_not_mem.2 fun i hi=>by cases only hl hd hc i hi) hG (hQ a ρ w hr hag h)
  | take i rd p ih=>
    intro fuel done G ρ w a listed hf h hl hd hr hag hG
    simp only [Plan.size] at hf
    obtain ⟨fuel,rfl⟩:∃m,fuel=m+1:=⟨fuel - 1,by omega⟩
    unfold vcD at h
    rw [opAt_eq] at h
    split at h
    · exact h.elim
    · rename_i o ho
      have hilt:i < ops.size:=(Array.getElem?_eq_some_iff.1 ho).1
      have hd':okDone ops (i::done):=fun k hk=>(List.mem_cons.1 hk).elim (fun e=>e ▸ hilt) (hd k)
      cases hrd0:readyO done i o with
      | false=>rw [hrd0] at h; exact h.elim
      | true=>
      have hrd:=(mem_readyO hl hd ho).2 hrd0
      rw [hrd0] at h
      simp only [cond_true] at h
      cases hfr:freeO ops.toList done i (looksO ops.toList o) o.dst ops.toList 0 with
      | false=>rw [hfr] at h; exact h.elim
      | true=>
        rw [hfr] at h
        simp only [cond_true] at h
        have hfree:∀j oj,ops[j]? = some oj→j ≠ i→listed.getD j true=false→(∀e ∈ oj.after,Region.binds .any e=true→e.on ≠ i)→o.apart ops oj=true:=by
          intro j oj hj hne hun hno
          have hjlt:j < ops.size:=(Array.getElem?_eq_some_iff.1 hj).1
          have hnd:memN j done=false:=by rw [← hl.get j hjlt]; exact hun
          exact apartO_spec (freeO_spec hfr j oj (by rw [Array.getElem?_toList]; exact hj) (by rw [Nat.zero_add]; exact hne) (by rw [Nat.zero_add]; exact hnd) (by rw [waitsO_spec hj]; exact waits_spec hj hno))
        have ih':=fun done G ρ w a listed=>ih fuel done G ρ w a listed (by omega)
        cases rd with
        | false=>
          simp only [cond_false] at h
          rcases guardP_spec hr h with ⟨hw,hA⟩ | ⟨hw,hB⟩
          · have key:∃v,(∀w,(execOp (ev n ρ) o).run P w=.ok (.value v) w)∧vcD P n Z cal ops.toList K p (i::done) G (putD ρ o.dst v) w:=by
              split at hA
              · rename_i x hx; exact ⟨_,fun w=>by simp only [execOp,hx]; rfl,hA⟩
              · rename_i x hx; exact ⟨_,fun w=>by simp only [execOp,hx]; rfl,hA⟩
              · rename_i x hx
                obtain ⟨v,hv,hA⟩:=hA.out
                refine ⟨v,fun w=>?_,hA⟩
                have:=hv w
                simp only [nilChk,execOp] at this
                simp only [execOp,hx]
                exact this
              · split at hA
                · rename_i s hs
                  obtain ⟨v,hv,hA⟩:=hA.out; exact ⟨v,fun w=>by rw [valSem_spec hs]; exact hv w,hA⟩
                · exact hA.elim
            obtain ⟨v,hv,hA⟩:=key
            refine wpAnyG_first (C:=fun _=>True) (Gi:=[]) (v:=v) ho hsel (fun c a w hq=>hQp _ _ _ _ _ _ ho hq) (fun g hg=>by cases hg) (fun _ _=>trivial) fuel listed G a w hfree hrd (.inl ⟨hw,fun w _=>by rw [hr.eval]; exact hv w⟩) trivial hG ?_
            exact ih' _ _ _ w _ _ hA (hl.put i) hd' (hr.put o.dst _) (hag.trans (agree_putD ho ρ _)) hG
          · refine wpAnyG_first (C:=fun _=>True) (Gi:=[]) (v:=undef) ho hsel (fun c a w hq=>hQp _ _ _ _ _ _ ho hq) (fun g hg=>by cases hg) (fun _ _=>trivial) fuel listed G a w hfree hrd (.inr ⟨hw,rfl⟩) trivial hG ?_
            exact ih' _ _ _ w _ _ hB (hl.put i) hd' (hr.put o.dst undef) (hag.trans (agree_putD ho ρ undef)) hG
        | true=>
          simp only [cond_true] at h
          split at h
          case h_2=>exact h.elim
          rename_i s hs
          rcases guardP_spec hr h with ⟨hw,hA⟩ | ⟨hw,hB⟩
          · obtain ⟨v,hv,hA⟩:=hA.out
            have hv':(gSemE n ops.toList ρ o (nx s)).run P w=.ok (.value v) w:=by rw [gSem_yes hr hw]; exact hv
            refine wpAnyG_first (C:=fun w=>(gSemE n ops.toList ρ o (nx s)).run P w=.ok (.value v) w) (Gi:=[(i,gSemE n ops.toList ρ o (nx s),v)]) (v:=v) ho hsel (fun c a w hq=>hQp _ _ _ _ _ _ ho hq) (fun g hg=>by simp at hg; subst hg; rfl)
              (fun w hg=>hg _ List.mem_cons_self) fuel listed G a w hfree hrd (.inl ⟨hw,fun w hc=>by rw [hr.eval,valSem_spec hs]; rw [gSem_yes hr hw] at hc; exact hc⟩) hv' hG ?_
            refine ih' _ _ _ w _ _ hA (hl.put i) hd' (hr.put o.dst _) (hag.trans (agree_putD ho ρ _)) fun g hg=>?_
            exact (List.mem_cons.1 hg).elim (fun e=>e ▸ hv') (hG g)
          · have hv':(gSemE n ops.toList ρ o (nx s)).run P w=.ok (.value undef) w:=by rw [gSem_no hr hw]; rfl
            refine wpAnyG_first (C:=fun w=>(gSemE n ops.toList ρ o (nx s)).run P w=.ok (.value undef) w) (Gi:=[(i,gSemE n ops.toList ρ o (nx s),undef)]) (v:=undef) ho hsel (fun c a w hq=>hQp _ _ _ _ _ _ ho hq) (fun g hg=>by simp at hg; subst hg; rfl)
              (fun w hg=>hg _ List.mem_cons_self) fuel listed G a w hfree hrd (.inr ⟨hw,rfl⟩) hv' hG ?_
            refine ih' _ _ _ w _ _ hB (hl.put i) hd' (hr.put o.dst undef) (hag.trans (agree_putD ho ρ undef)) fun g hg=>?_
            exact (List.mem_cons.1 hg).elim (fun e=>e ▸ hv') (hG g)
  | one j p ih=>
    intro fuel done G ρ w a listed hf h hl hd hr hag hG
    simp only [Plan.size] at hf
    obtain ⟨fuel,rfl⟩:∃m,fuel=m+1:=⟨fuel - 1,by omega⟩
    unfold vcD at h
    rw [opAt_eq] at h
    split at h
    · exact h.elim
    · rename_i o ho
      have hilt:j < ops.size:=(Array.getElem?_eq_some_iff.1 ho).1
      cases hrd:readyO done j o with
      | false=>rw [hrd] at h; exact h.elim
      | true=>
      cases hc:onlyReady done [j] ops.toList 0 with
      | false=>rw [hrd,hc] at h; exact h.elim
      | true=>
        rw [hrd,hc] at h
        simp only [cond_true] at h
        have hop:=next (p:=p) (fun done G ρ w a listed=>ih fuel done G ρ w a listed (by omega)) ho hl hd hr hag h
        refine ⟨hG,fun h0=>?_,fun i hi=>?_⟩
        · have:=(mem_readyO hl hd ho).2 hrd; rw [h0] at this; cases this
        · have:=only hl hd hc i hi
          simp at this
          subst this
          exact hop
  | two j p k q ihp ihq=>
    intro fuel done G ρ w a listed hf h hl hd hr hag hG
    simp only [Plan.size] at hf
    obtain ⟨fuel,rfl⟩:∃m,fuel=m+1:=⟨fuel - 1,by omega⟩
    unfold vcD at h
    rw [opAt_eq,opAt_eq] at h
    split at h
    · exact h.elim
    · rename_i o ho
      split at h
      · exact h.elim
      · rename_i u hu
        cases hrd:readyO done j o with
        | false=>rw [hrd] at h; exact h.elim
        | true=>
        cases hc:onlyReady done [j,k] ops.toList 0 with
        | false=>rw [hrd,hc] at h; exact h.elim
        | true=>
          rw [hrd,hc] at h
          simp only [cond_true] at h
          have hop:=next (p:=p) (fun done G ρ w a listed=>ihp fuel done G ρ w a listed (by omega)) ho hl hd hr hag h.1
          have hoq:=next (p:=q) (fun done G ρ w a listed=>ihq fuel done G ρ w a listed (by omega)) hu hl hd hr hag h.2
          refine ⟨hG,fun h0=>?_,fun i hi=>?_⟩
          · have:=(mem_readyO hl hd ho).2 hrd; rw [h0] at this; cases this
          · have:=only hl hd hc i hi
            simp at this
            rcases this with rfl | rfl
            · exact hop
            · exact hoq
end
structure Drew (w w':World):Prop where
  heap:w'.heap=w.heap
  os:w'.os=w.os
  tape:w'.tape=w.tape
  output:w'.output=w.output
structure Drawn (w:World) (K:World→Prop):Prop where
  out:∀w',Drew w w'→K w'
abbrev drawD:DrawRule:=fun p P n Z cal ops Q ρ w=>bif (bif Nat.ble p.size ops.toList.length then noSel ops.toList else false) then Drawn w fun w'=>vcD P n Z cal ops.toList Q p [] [] ρ w' else False
theorem drawD_sound:drawD.sound:=by
  intro ds p P n Z cal id ops K ρ w a Q hm hcal h hr hQ hZ
  unfold drawD at h
  cases hp:Nat.ble p.size ops.toList.length with
  | false=>rw [hp] at h; exact h.elim
  | true=>
  cases hs:noSel ops.toList with
  | false=>rw [hp,hs] at h; exact h.elim
  | true=>
    rw [hp,hs] at h
    have h1:=h.out { w with drawn:=w.drawn+1 } ⟨rfl,rfl,rfl,rfl⟩
    let Q':Exit→Act→World→Prop:=fun e a w=>match e with
      | .normal=>Q .normal a w
      | .panic ch=>Kept ds n (dsts ops.toList) ρ a∧Z ch w
      | _=>False
    have h2:=vcD_sound (Q:=Q') (ρ0:=ρ) hcal hs (fun a' ρ' w' hr' hag hk=>hQ a' ρ' w' hr' hag hk) (fun ch a' ρ' w' hr' hag hz=>⟨hr'.kept hag,hz⟩)
      (fun ch i o v a' w' ho hq=>⟨hq.1.unput fun t ht=>memN_of_mem (mem_dsts (Array.mem_toList_iff.2 (Array.mem_of_getElem? ho)) ht),hq.2⟩) p ops.size [] [] ρ { w with drawn:=w.drawn+1 } a (Array.replicate ops.size false) (by simpa using Nat.le_of_ble_eq_true hp) h1
      ⟨by simp,fun i hi=>by simp [hi,memN]⟩ (fun i hi=>by cases hi) hr (Agree.refl _ _) (fun g hg=>by cases hg)
    refine wp_mono (wp_region_any hm h2.any) fun e a' w' hq=>?_
    cases e with
    | normal=>exact hq
    | panic ch=>exact hZ ch a' w' hq.1 hq.2
    | _=>exact hq.elim
end Go.Sh

/- Memory as a list of parts that share nothing: each part tells of blocks of its own. Nothing of any one program stands here. -/
namespace Go.Sh
open Go.RowKit
theorem via {T G:Prop} (h:T→G) (t:T):G:=h t
abbrev Hp:=Nat→Option Obj
abbrev HProp:=Hp→Prop
open Classical in
noncomputable def Hp.on (h:Hp) (S:Nat→Prop):Hp:=fun b=>if S b then h b else none
theorem Hp.on_on (h:Hp) (S T:Nat→Prop):(h.on S).on T=h.on fun b=>S b∧T b:=by
  funext b
  unfold Hp.on
  by_cases h1:S b <;> by_cases h2:T b <;> simp [h1,h2]
theorem Hp.on_congr (h:Hp) {S T:Nat→Prop} (e:∀b,S b ↔ T b):h.on S=h.on T:=by
  funext b
  unfold Hp.on
  by_cases h1:S b
  · rw [if_pos h1,if_pos ((e b).1 h1)]
  · rw [if_neg h1,if_neg fun h2=>h1 ((e b).2 h2)]
theorem Hp.on_yes (h:Hp) {S:Nat→Prop} {b:Nat} (hs:S b):h.on S b=h b:=if_pos hs
theorem Hp.on_no (h:Hp) {S:Nat→Prop} {b:Nat} (hs:¬ S b):h.on S b=none:=if_neg hs
def satH:List HProp→Hp→Prop
  | [],_=>True
  | A::As,h=>∃S:Nat→Prop,A (h.on S)∧satH As (h.on fun b=>¬ S b)
theorem satH_swap {A B:HProp} {As:List HProp} {h:Hp} (hs:satH (A::B::As) h):satH (B::A::As) h:=by
  obtain ⟨S,hA,T,hB,hR⟩:=hs
  rw [Hp.on_on] at hB hR
  refine ⟨fun b=>¬ S b∧T b,hB,fun b=>S b,?_,?_⟩
  · rw [Hp.on_on]
    rw [Hp.on_congr h (T:=S) (fun b=>⟨fun x=>x.2,fun x=>⟨fun y=>y.1 x,x⟩⟩)]
    exact hA
  · rw [Hp.on_on]
    rw [Hp.on_congr h (T:=fun b=>¬ S b∧¬ T b) (fun b=>⟨fun x=>⟨x.2,fun t=>x.1 ⟨x.2,t⟩⟩,fun x=>⟨fun y=>x.2 y.2,x.1⟩⟩)]
    exact hR
theorem satH_cons {A B:HProp} {As Bs:List HProp} {h:Hp} (hA:∀h,A h→B h) (hR:∀h,satH As h→satH Bs h) (hs:satH (A::As) h):satH (B::Bs) h:=
  let ⟨S,h1,h2⟩:=hs
  ⟨S,hA _ h1,hR _ h2⟩
theorem satH_perm {As Bs:List HProp} (p:As.Perm Bs):∀h,satH As h→satH Bs h:=by
  induction p with
  | nil=>exact fun _ h=>h
  | cons A _ ih=>exact fun h hs=>satH_cons (fun _ h=>h) ih hs
  | swap A B l=>exact fun h hs=>satH_swap hs
  | trans _ _ ih1 ih2=>exact fun h hs=>ih2 h (ih1 h hs)
theorem satH_of_on:∀(As:List HProp) (h:Hp) (S:Nat→Prop),satH As (h.on S)→satH As h
  | [],_,_,_=>trivial
  | A::As,h,S,⟨T,hA,hR⟩=>by
    rw [Hp.on_on] at hA hR
    refine ⟨fun b=>S b∧T b,hA,?_⟩
    refine satH_of_on As _ S ?_
    rw [Hp.on_on]
    rw [Hp.on_congr h (T:=fun b=>S b∧¬ T b) (fun b=>⟨fun x=>⟨x.2,fun t=>x.1 ⟨x.2,t⟩⟩,fun x=>⟨fun y=>x.2 y.2,x.1⟩⟩)]
    exact hR
theorem satH_drop {A:HProp} {As:List HProp} {h:Hp} (hs:satH (A::As) h):satH As h:=
  let ⟨_,_,h2⟩:=hs
  satH_of_on As h _ h2
theorem satH_mem {A:HProp}:∀{As:List HProp} {h:Hp},A ∈ As→satH As h→∃S,A (h.on S)
  | B::As,h,hm,hs=>by
    obtain ⟨S,h1,h2⟩:=hs
    rcases List.mem_cons.1 hm with rfl | hm
    · exact ⟨S,h1⟩
    · obtain ⟨T,hT⟩:=satH_mem hm h2
      rw [Hp.on_on] at hT
      exact ⟨_,hT⟩

def hp (w:World):Hp:=fun b=>w.heap[b]?
structure St (o w:World) (As:List HProp):Prop where
  os:w.os=o.os
  tape:w.tape=o.tape
  output:w.output=o.output
  size:o.heap.size≤w.heap.size
  sat:satH As (hp w)
def old (o:World):HProp:=fun h=>∀b,h b=o.heap[b]?
def ob (t:TypeId) (xs:List Value) (x:Option Obj):Prop:=∃f:Nat × Nat,(f=(0,0)∨xs.length≤f.1)∧x=some (.cells xs.toArray t f)
def blk (b:Nat) (t:TypeId) (xs:List Value):HProp:=fun h=>ob t xs (h b)
theorem ob_none {t:TypeId} {xs:List Value} (h:ob t xs none):False:=by obtain ⟨_,_,h⟩:=h; cases h
theorem blk_on {b:Nat} {t:TypeId} {xs:List Value} {h:Hp} {S:Nat→Prop} (hb:blk b t xs (h.on S)):blk b t xs h∧S b:=by
  unfold blk at *
  by_cases hs:S b
  · rw [Hp.on_yes _ hs] at hb; exact ⟨hb,hs⟩
  · rw [Hp.on_no _ hs] at hb; exact (ob_none hb).elim
theorem St.start (o:World):St o o [old o]:=⟨rfl,rfl,rfl,Nat.le_refl _,fun _=>True,fun b=>by rw [Hp.on_yes _ trivial]; rfl,trivial⟩
theorem m0 {A:HProp} {R:List HProp}:A ∈ A::R:=List.mem_cons_self
theorem m1 {A B:HProp} {R:List HProp}:B ∈ A::B::R:=List.mem_cons_of_mem _ List.mem_cons_self
theorem m2 {A B C:HProp} {R:List HProp}:C ∈ A::B::C::R:=List.mem_cons_of_mem _ (List.mem_cons_of_mem _ List.mem_cons_self)
theorem m3 {A B C D:HProp} {R:List HProp}:D ∈ A::B::C::D::R:=List.mem_cons_of_mem _ (List.mem_cons_of_mem _ (List.mem_cons_of_mem _ List.mem_cons_self))
theorem m4 {A B C D E:HProp} {R:List HProp}:E ∈ A::B::C::D::E::R:=List.mem_cons_of_mem _ (List.mem_cons_of_mem _ (List.mem_cons_of_mem _ (List.mem_cons_of_mem _ List.mem_cons_self)))
theorem m5 {A B C D E F:HProp} {R:List HProp}:F ∈ A::B::C::D::E::F::R:=List.mem_cons_of_mem _ (List.mem_cons_of_mem _ (List.mem_cons_of_mem _ (List.mem_cons_of_mem _ (List.mem_cons_of_mem _ List.mem_cons_self))))
theorem m6 {A B C D E F G:HProp} {R:List HProp}:G ∈ A::B::C::D::E::F::G::R:=List.mem_cons_of_mem _ (List.mem_cons_of_mem _ (List.mem_cons_of_mem _ (List.mem_cons_of_mem _ (List.mem_cons_of_mem _ (List.mem_cons_of_mem _ List.mem_cons_self)))))
theorem m7 {A B C D E F G H:HProp} {R:List HProp}:H ∈ A::B::C::D::E::F::G::H::R:=List.mem_cons_of_mem _ (List.mem_cons_of_mem _ (List.mem_cons_of_mem _ (List.mem_cons_of_mem _ (List.mem_cons_of_mem _ (List.mem_cons_of_mem _ (List.mem_cons_of_mem _ List.mem_cons_self))))))
theorem m8 {A B C D E F G H I:HProp} {R:List HProp}:I ∈ A::B::C::D::E::F::G::H::I::R:=List.mem_cons_of_mem _ (List.mem_cons_of_mem _ (List.mem_cons_of_mem _ (List.mem_cons_of_mem _ (List.mem_cons_of_mem _ (List.mem_cons_of_mem _ (List.mem_cons_of_mem _ (List.mem_cons_of_mem _ List.mem_cons_self)))))))
section
variable {o w w':World} {A B:HProp} {As Bs R:List HProp}
theorem St.drew (h:St o w As) (hd:Drew w w'):St o w' As:=⟨hd.os.trans h.os,hd.tape.trans h.tape,hd.output.trans h.output,by rw [hd.heap]; exact h.size,by
  have:hp w'=hp w:=by funext b; simp only [hp,hd.heap]
  rw [this]; exact h.sat⟩
theorem Drew.refl (w:World):Drew w w:=⟨rfl,rfl,rfl,rfl⟩
theorem Drew.cell {w w':World} (hd:Drew w w') (a:Addr):w'.cell? a=w.cell? a:=by unfold World.cell?; rw [hd.heap]
theorem Drew.trans {a b c:World} (h:Drew a b) (k:Drew b c):Drew a c:=⟨k.heap.trans h.heap,k.os.trans h.os,k.tape.trans h.tape,k.output.trans h.output⟩
theorem St.perm (h:St o w As) (p:As.Perm Bs):St o w Bs:=⟨h.os,h.tape,h.output,h.size,satH_perm p _ h.sat⟩
theorem St.drop (h:St o w (A::As)):St o w As:=⟨h.os,h.tape,h.output,h.size,satH_drop h.sat⟩
theorem St.swap (h:St o w (A::B::R)):St o w (B::A::R):=⟨h.os,h.tape,h.output,h.size,satH_swap h.sat⟩
theorem St.mono (h:St o w (A::R)) (hA:∀h,A h→B h):St o w (B::R):=⟨h.os,h.tape,h.output,h.size,satH_cons hA (fun _ h=>h) h.sat⟩
abbrev pickL {α:Type}:Nat→List α→List α
  | 0,l=>l
  | _+1,[]=>[]
  | i+1,a::l=>match pickL i l with
    | x::r=>x::a::r
    | []=>[a]
theorem pickL_perm {α:Type}:∀(i:Nat) (l:List α),l.Perm (pickL i l)
  | 0,_=>List.Perm.refl _
  | _+1,[]=>List.Perm.nil
  | i+1,a::r=>by
    have ih:=pickL_perm i r
    simp only [pickL]
    cases hp:pickL i r with
    | nil=>rw [hp] at ih; rw [ih.eq_nil]
    | cons x r=>rw [hp] at ih; exact (List.Perm.cons a ih).trans (List.Perm.swap x a r)
theorem St.pick (h:St o w As) (i:Nat):St o w (pickL i As):=h.perm (pickL_perm i As)
abbrev putL {α:Type} (a:α):Nat→List α→List α
  | 0,l=>a::l
  | _+1,[]=>[a]
  | i+1,b::l=>b::putL a i l
theorem putL_perm {α:Type} (a:α):∀(i:Nat) (l:List α),(a::l).Perm (putL a i l)
  | 0,_=>List.Perm.refl _
  | _+1,[]=>List.Perm.refl _
  | i+1,b::l=>(List.Perm.swap b a l).trans (List.Perm.cons b (putL_perm a i l))
theorem St.put (h:St o w (A::As)) (i:Nat):St o w (putL A i As):=h.perm (putL_perm A i As)
theorem St.ex {α:Type} {F:α→HProp} (h:St o w ((fun h=>∃x,F x h)::R)):∃x,St o w (F x::R):=by
  obtain ⟨h1,h2,h3,h4,S,⟨x,hx⟩,hR⟩:=h
  exact ⟨x,h1,h2,h3,h4,S,hx,hR⟩
theorem St.ex_intro {α:Type} {F:α→HProp} (x:α) (h:St o w (F x::R)):St o w ((fun h=>∃x,F x h)::R):=h.mono fun _ hx=>⟨x,hx⟩
theorem St.pure {p:Prop} (h:St o w ((fun h=>p∧A h)::R)):p∧St o w (A::R):=by
  obtain ⟨h1,h2,h3,h4,S,⟨hp,hx⟩,hR⟩:=h
  exact ⟨hp,h1,h2,h3,h4,S,hx,hR⟩
theorem St.pure_intro {p:Prop} (hp:p) (h:St o w (A::R)):St o w ((fun h=>p∧A h)::R):=h.mono fun _ hx=>⟨hp,hx⟩
def sep (A B:HProp):HProp:=fun h=>∃S:Nat→Prop,A (h.on S)∧B (h.on fun b=>¬ S b)
theorem St.sep (h:St o w (sep A B::R)):St o w (A::B::R):=by
  obtain ⟨h1,h2,h3,h4,S,⟨T,hA,hB⟩,hR⟩:=h
  rw [Hp.on_on] at hA hB
  refine ⟨h1,h2,h3,h4,fun b=>S b∧T b,hA,fun b=>S b,?_,?_⟩
  · rw [Hp.on_on]
    rw [Hp.on_congr (hp w) (T:=fun b=>S b∧¬ T b) (fun b=>⟨fun x=>⟨x.2,fun t=>x.1 ⟨x.2,t⟩⟩,fun x=>⟨fun y=>x.2 y.2,x.1⟩⟩)]
    exact hB
  · rw [Hp.on_on]
    rw [Hp.on_congr (hp w) (T:=fun b=>¬ S b) (fun b=>⟨fun x=>x.2,fun x=>⟨fun y=>x y.1,x⟩⟩)]
    exact hR
theorem St.sep_intro (h:St o w (A::B::R)):St o w (Sh.sep A B::R):=by
  obtain ⟨h1,h2,h3,h4,S,hA,T,hB,hR⟩:=h
  rw [Hp.on_on] at hB hR
  refine ⟨h1,h2,h3,h4,fun b=>S b∨T b,⟨S,?_,?_⟩,?_⟩
  · rw [Hp.on_on]
    rw [Hp.on_congr (hp w) (T:=S) (fun b=>⟨fun x=>x.2,fun x=>⟨.inl x,x⟩⟩)]
    exact hA
  · rw [Hp.on_on]
    rw [Hp.on_congr (hp w) (T:=fun b=>¬ S b∧T b) (fun b=>⟨fun x=>⟨x.2,x.1.resolve_left x.2⟩,fun x=>⟨.inr x.2,x.1⟩⟩)]
    exact hB
  · rw [Hp.on_congr (hp w) (T:=fun b=>¬ S b∧¬ T b) (fun b=>⟨fun x=>⟨fun y=>x (.inl y),fun y=>x (.inr y)⟩,fun x y=>y.elim x.1 x.2⟩)]
    exact hR
theorem St.all:∀{As R:List HProp},St o w (satH As::R)→St o w (As++R)
  | [],_,h=>h.drop
  | A::As,R,h=>by
    have h1:St o w (Sh.sep A (satH As)::R):=h
    exact (St.all h1.sep.swap).perm List.perm_middle
def emp:HProp:=fun _=>True
theorem St.emp (h:St o w R):St o w (emp::R):=⟨h.os,h.tape,h.output,h.size,fun _=>False,trivial,by
  rw [Hp.on_congr (hp w) (T:=fun _=>True) (fun b=>by simp)]
  have:(hp w).on (fun _=>True)=hp w:=by funext b; rw [Hp.on_yes _ trivial]
  rw [this]; exact h.sat⟩
theorem St.all_intro:∀{As R:List HProp},St o w (As++R)→St o w (satH As::R)
  | [],_,h=>h.emp.mono fun _ _=>trivial
  | A::As,R,h=>(St.all_intro (As:=As) (R:=A::R) (h.perm (List.perm_middle (l₁:=As)).symm)).swap.sep_intro
theorem St.all_snoc {As R:List HProp} {A:HProp} (h:St o w (satH As::A::R)):St o w (satH (As++[A])::R):=by
  refine St.all_intro ?_
  rw [List.append_assoc]
  exact h.all
theorem St.all_out {As Bs R:List HProp} {A:HProp} (h:St o w (satH (As++A::Bs)::R)):St o w (A::satH (As++Bs)::R):=by
  have h:=h.all
  rw [List.append_assoc,List.cons_append] at h
  have h:=h.perm (List.perm_middle (l₁:=As))
  rw [← List.append_assoc] at h
  exact (St.all_intro (R:=A::R) (h.perm (List.perm_middle (l₁:=As++Bs)).symm)).swap
theorem St.all_in {As Bs R:List HProp} {A:HProp} (h:St o w (A::satH (As++Bs)::R)):St o w (satH (As++A::Bs)::R):=by
  have h:=h.swap.all
  refine St.all_intro (h.perm ?_)
  rw [List.append_assoc,List.append_assoc,List.cons_append]
  refine List.Perm.append_left As ?_
  exact List.perm_middle
theorem St.nil (h:St o w R):St o w []:=⟨h.os,h.tape,h.output,h.size,trivial⟩
theorem St.mem_blk (h:St o w As) {b:Nat} {t:TypeId} {xs:List Value} (hm:blk b t xs ∈ As):ob t xs w.heap[b]? := by
  obtain ⟨S,hS⟩:=satH_mem hm h.sat
  exact (blk_on hS).1
theorem St.head_blk {b:Nat} {t:TypeId} {xs:List Value} (h:St o w (blk b t xs::R)):ob t xs w.heap[b]? := h.mem_blk List.mem_cons_self
theorem lt_of_heap {w:World} {b:Nat} {x:Obj} (h:w.heap[b]? = some x):b < w.heap.size:=(Array.getElem?_eq_some_iff.1 h).1
theorem St.mem_old {o':World} (h:St o w As) (hm:old o' ∈ As) {b:Nat} (hb:b < o'.heap.size):w.heap[b]? = o'.heap[b]? := by
  obtain ⟨S,hS⟩:=satH_mem hm h.sat
  have h1:=hS b
  by_cases hs:S b
  · rwa [Hp.on_yes _ hs] at h1
  · rw [Hp.on_no _ hs] at h1
    rw [Array.getElem?_eq_getElem hb] at h1
    cases h1
theorem St.below (h:St o w As) (hm:old o ∈ As):Below o.heap.size o w:=⟨h.os,h.tape,h.output,h.size,fun _ hk=>h.mem_old hm hk⟩
theorem cell_of_blk {w:World} {b:Nat} {t:TypeId} {xs:List Value} (h:ob t xs w.heap[b]?) (i:Nat):w.cell? ⟨b,i,none⟩=xs[i]? := by
  obtain ⟨f,_,h⟩:=h
  unfold World.cell?
  rw [h]; simp
theorem frozen_of_blk {w:World} {b:Nat} {t:TypeId} {xs:List Value} (h:ob t xs w.heap[b]?) (i:Nat) (hi:i < xs.length):w.frozen? ⟨b,i,none⟩=false:=by
  obtain ⟨⟨f,g⟩,hf,h⟩:=h
  unfold World.frozen?
  rw [h]
  rcases hf with hf | hf
  · cases hf; simp
  · simp at hf ⊢; omega
theorem hp_alloc (w:World) (x:Obj) (b:Nat):hp (w.alloc x) b=if b=w.heap.size then some x else hp w b:=by
  unfold hp World.alloc
  simp only [Array.getElem?_push]
theorem hp_setCell (w:World) (a:Addr) (v:Value) (b:Nat) (h:b ≠ a.block):hp (w.setCell a v) b=hp w b:=Below.heap_setCell w a v b h
theorem St.alloc_ob {w':World} {b:Nat} {t:TypeId} {xs:List Value} (h:St o w R) (hb:b=w.heap.size) (h1:w'.os=w.os) (h2:w'.tape=w.tape) (h3:w'.output=w.output) (h4:w'.heap.size=w.heap.size+1) (hold:∀j,j < w.heap.size→w'.heap[j]? = w.heap[j]?) (hnew:ob t xs w'.heap[b]?):St o w' (blk b t xs::R):=by
  subst hb
  refine ⟨h1.trans h.os,h2.trans h.tape,h3.trans h.output,by have:=h.size; omega,fun b=>b=w.heap.size,?_,?_⟩
  · unfold blk
    rw [Hp.on_yes (S:=fun b=>b=w.heap.size) _ rfl]
    exact hnew
  · have:(hp w').on (fun b=>¬ b=w.heap.size)=hp w:=by
      funext b
      by_cases hb:b=w.heap.size
      · rw [Hp.on_no _ (not_not_intro hb)]
        subst hb
        simp [hp]
      · rw [Hp.on_yes _ hb]
        by_cases hl:b < w.heap.size
        · exact hold b hl
        · unfold hp
          rw [Array.getElem?_eq_none (by omega),Array.getElem?_eq_none (by omega)]
    rw [this]; exact h.sat
theorem St.alloc (h:St o w R) (t:TypeId) (xs:List Value):St o (w.alloc (.cells xs.toArray t)) (blk w.heap.size t xs::R):=by
  refine ⟨h.os,h.tape,h.output,Nat.le_trans h.size (show w.heap.size≤(w.heap.push _).size by simp),fun b=>b=w.heap.size,?_,?_⟩
  · unfold blk
    rw [Hp.on_yes (S:=fun b=>b=w.heap.size) _ rfl,hp_alloc,if_pos rfl]
    exact ⟨(0,0),.inl rfl,rfl⟩
  · have:(hp (w.alloc (.cells xs.toArray t))).on (fun b=>¬ b=w.heap.size)=hp w:=by
      funext b
      by_cases hb:b=w.heap.size
      · rw [Hp.on_no _ (not_not_intro hb)]
        subst hb
        simp [hp]
      · rw [Hp.on_yes _ hb,hp_alloc,if_neg hb]
    rw [this]; exact h.sat
theorem heap_setCell_blk {w:World} {b i:Nat} {t:TypeId} {xs:List Value} (h:ob t xs w.heap[b]?) (v:Value):ob t (xs.set i v) (w.setCell ⟨b,i,none⟩ v).heap[b]? := by
  obtain ⟨f,hf,h⟩:=h
  refine ⟨f,by simpa using hf,?_⟩
  simp only [World.setCell,Array.getElem?_modify,if_true,h]
  simp
theorem St.setCell {b:Nat} {t:TypeId} {xs:List Value} (h:St o w (blk b t xs::R)) (i:Nat) (v:Value):St o (w.setCell ⟨b,i,none⟩ v) (blk b t (xs.set i v)::R):=by
  have hb:=h.head_blk
  obtain ⟨h1,h2,h3,h4,S,hA,hR⟩:=h
  have hS:S b:=(blk_on hA).2
  refine ⟨h1,h2,h3,by simpa [World.setCell] using h4,S,?_,?_⟩
  · unfold blk
    rw [Hp.on_yes _ hS]
    exact heap_setCell_blk hb v
  · have:(hp (w.setCell ⟨b,i,none⟩ v)).on (fun b=>¬ S b)=(hp w).on fun b=>¬ S b:=by
      funext k
      by_cases hk:S k
      · rw [Hp.on_no _ (not_not_intro hk),Hp.on_no _ (not_not_intro hk)]
      · rw [Hp.on_yes _ hk,Hp.on_yes _ hk]
        exact hp_setCell _ _ _ _ fun e=>hk (e ▸ hS)
    rw [this]; exact hR
def setL (xs:List Value) (i:Nat):List Value→List Value
  | []=>xs
  | v::vs=>setL (xs.set i v) (i+1) vs
theorem setL_length (xs:List Value) (i:Nat) (vs:List Value):(setL xs i vs).length=xs.length:=by
  induction vs generalizing xs i with
  | nil=>rfl
  | cons v vs ih=>rw [setL,ih]; simp
theorem setL_append (xs:List Value) (ys zs:List Value) (h:ys.length≤zs.length):setL (xs++zs) xs.length ys=xs++(ys++zs.drop ys.length):=by
  induction ys generalizing xs zs with
  | nil=>simp [setL]
  | cons y ys ih=>
    cases zs with
    | nil=>simp at h
    | cons z zs=>
      rw [setL]
      have e:(xs++z::zs).set xs.length y=(xs++[y])++zs:=by
        rw [List.set_append_right _ _ (Nat.le_refl _)]
        simp
      rw [e]
      have:=ih (xs++[y]) zs (by simpa using h)
      simp only [List.length_append,List.length_cons,List.length_nil,Nat.zero_add] at this
      rw [this]
      simp
theorem St.setCells {b:Nat} {t:TypeId}:∀(vs:List Value) {w:World} {xs:List Value} (i:Nat),St o w (blk b t xs::R)→St o (w.setCells b i vs) (blk b t (setL xs i vs)::R)
  | [],_,_,_,h=>h
  | v::vs,_,_,i,h=>St.setCells vs (i+1) (h.setCell i v)
end
end Go.Sh

/- The rules of the shallow reading: each operation, told by values. Nothing of any one program stands here. -/
namespace Go.Sh
section
variable {P:Program} {Z:PZ} {w w':World} {kk:PQ} {kv:Value→Prop} {s:Sem Value} {v:Value}
theorem r1 (h:s.run P w=.ok v w') (hk:kk v w'):rN P Z s w kk:=⟨by unfold nx; rw [Sem.run_bind,h]; exact hk⟩
theorem r0 {s:Sem Unit} {k:World→Prop} (h:s.run P w=.ok () w') (hk:k w'):rO P Z s w k:=⟨by rw [Sem.run_bind,h]; exact hk⟩
theorem rX {s:Sem Next} (h:s.run P w=.ok (.value v) w') (hk:kk v w'):runX P Z s w kk:=⟨by rw [h]; exact hk⟩
theorem nx_run (h:s.run P w=.ok v w'):(nx s).run P w=.ok (.value v) w':=by unfold nx; rw [Sem.run_bind,h]; rfl
theorem rp (h:∀w,s.run P w=.ok v w) (hk:kv v):pU P s kv:=⟨v,fun w=>nx_run (h w),hk⟩
theorem rr (h:s.run P w=.ok v w) (hk:kv v):rD P s w kv:=⟨v,nx_run h,hk⟩
theorem rs {A:Prop} (h:s.run P w=.ok v w) (hk:A):Still P (nx s) v w A:=⟨nx_run h,hk⟩
theorem r1_eq (h:∀w,s.run P w=.ok v w):rN P Z s w kk=kk v w:=propext ⟨fun x=>by have:=x.out; rw [nx_run (h w)] at this; exact this,fun x=>r1 (h w) x⟩
theorem rX_eq {s:Sem Next} (h:∀w,s.run P w=.ok (.value v) w):runX P Z s w kk=kk v w:=propext ⟨fun x=>by have:=x.out; rw [h w] at this; exact this,fun x=>rX (h w) x⟩
end
section
variable {P:Program} {s:Sem Value} {v:Value} {kv:Value→Prop}
theorem rpV_eq {s:Sem Next} (h:∀w,s.run P w=.ok (.value v) w):PureV P s kv=kv v:=propext ⟨fun x=>by
  obtain ⟨u,hu,hk⟩:=x.out
  have:=hu default
  rw [h default] at this
  injection this with e1 e2
  injection e1 with e1
  exact e1 ▸ hk,fun x=>⟨v,h,x⟩⟩
theorem rp_eq (h:∀w,s.run P w=.ok v w):pU P s kv=kv v:=propext ⟨fun x=>by
  obtain ⟨u,hu,hk⟩:=x.out
  have:=hu default
  rw [nx_run (h default)] at this
  injection this with e1 e2
  injection e1 with e1
  exact e1 ▸ hk,fun x=>rp h x⟩
end
theorem cond_bool (b:Bool) (A B:Prop):cV (.bool b) A B=((b=true→A)∧(b=false→B)):=propext ⟨fun h=>h.out,fun h=>⟨h⟩⟩
theorem condT (A B:Prop):cV (.bool true) A B=A:=by rw [cond_bool]; simp
theorem condF (A B:Prop):cV (.bool false) A B=B:=by rw [cond_bool]; simp
theorem cond_decide (p:Prop) [Decidable p] (A B:Prop):cV (.bool (decide p)) A B=((p→A)∧(¬ p→B)):=by rw [cond_bool]; simp
theorem cond_not (b:Bool) (A B:Prop):cV (.bool !b) A B=cV (.bool b) B A:=by
  cases b
  · simp [condT,condF]
  · simp [condT,condF]
theorem cond_bne (x y:Int) (A B:Prop):cV (.bool (x != y)) A B=((x ≠ y→A)∧(x=y→B)):=by
  rw [cond_bool]; by_cases h:x=y <;> simp [h]
theorem guardW_true (body:(PQ)→Prop) (k:PQ) (w:World):gW (.bool true) true body k w=body k:=propext ⟨fun h=>h.out,fun h=>⟨h⟩⟩
theorem guardW_ff (body:(PQ)→Prop) (k:PQ) (w:World):gW (.bool false) false body k w=body k:=propext ⟨fun h=>h.out,fun h=>⟨h⟩⟩
theorem guardW_tf (body:(PQ)→Prop) (k:PQ) (w:World):gW (.bool true) false body k w=k undef w:=propext ⟨fun h=>h.out,fun h=>⟨h⟩⟩
theorem guardW_ft (body:(PQ)→Prop) (k:PQ) (w:World):gW (.bool false) true body k w=k undef w:=propext ⟨fun h=>h.out,fun h=>⟨h⟩⟩
theorem guardV_true (body:(Value→Prop)→Prop) (k:Value→Prop):guardV (.bool true) true body k=body k:=propext ⟨fun h=>h.out,fun h=>⟨h⟩⟩
theorem guardV_ff (body:(Value→Prop)→Prop) (k:Value→Prop):guardV (.bool false) false body k=body k:=propext ⟨fun h=>h.out,fun h=>⟨h⟩⟩
theorem guardV_tf (body:(Value→Prop)→Prop) (k:Value→Prop):guardV (.bool true) false body k=k undef:=propext ⟨fun h=>h.out,fun h=>⟨h⟩⟩
theorem guardV_ft (body:(Value→Prop)→Prop) (k:Value→Prop):guardV (.bool false) true body k=k undef:=propext ⟨fun h=>h.out,fun h=>⟨h⟩⟩
theorem CallV.mono {P:Program} {Z:PZ} {f:FuncId} {args:Array Value} {w:World} {k k':PQ} (h:CallV P Z f args w k) (hk:∀v w',k v w'→k' v w'):CallV P Z f args w k':=
  ⟨h.out.mono fun e w' he=>by
    cases e with
    | returned v=>exact hk _ _ he
    | panicked ch=>exact he
    | outgrown=>exact he⟩
section
variable (P:Program) (w:World)
theorem run_add (t:TypeId) (k:IntKind) (x y:Int):(binOp .add t (.int k x) (.int k y)).run P w=.ok (.int k (k.wrap (x+y))) w:=by simp [binOp,Op.intArith]
theorem run_sub (t:TypeId) (k:IntKind) (x y:Int):(binOp .sub t (.int k x) (.int k y)).run P w=.ok (.int k (k.wrap (x - y))) w:=by simp [binOp,Op.intArith]
theorem run_mul (t:TypeId) (k:IntKind) (x y:Int):(binOp .mul t (.int k x) (.int k y)).run P w=.ok (.int k (k.wrap (x * y))) w:=by simp [binOp,Op.intArith]
theorem run_lss (t:TypeId) (k:IntKind) (x y:Int):(binOp .lss t (.int k x) (.int k y)).run P w=.ok (.bool (decide (x < y))) w:=by simp [binOp,Op.intCmp]
theorem run_leq (t:TypeId) (k:IntKind) (x y:Int):(binOp .leq t (.int k x) (.int k y)).run P w=.ok (.bool (decide (x≤y))) w:=by simp [binOp,Op.intCmp]
theorem run_gtr (t:TypeId) (k:IntKind) (x y:Int):(binOp .gtr t (.int k x) (.int k y)).run P w=.ok (.bool (decide (y < x))) w:=by simp [binOp,Op.intCmp]
theorem run_geq (t:TypeId) (k:IntKind) (x y:Int):(binOp .geq t (.int k x) (.int k y)).run P w=.ok (.bool (decide (y≤x))) w:=by simp [binOp,Op.intCmp]
theorem run_eql_int (t:TypeId) (cx cy:Bool) (k:IntKind) (x y:Int):(eqOp .eql t cx cy (.int k x) (.int k y)).run P w=.ok (.bool (x == y)) w:=by simp [eqOp,eqGuard,binOp,Op.intCmp]
theorem run_neq_int (t:TypeId) (cx cy:Bool) (k:IntKind) (x y:Int):(eqOp .neq t cx cy (.int k x) (.int k y)).run P w=.ok (.bool (x != y)) w:=by simp [eqOp,eqGuard,binOp,Op.intCmp]
theorem run_and (t:TypeId) (k:IntKind) (x y:Int):(binOp .and t (.int k x) (.int k y)).run P w=.ok (.int k (k.wrap (BitVec.ofInt k.bits x &&& BitVec.ofInt k.bits y).toNat)) w:=by simp [binOp,Op.intBits]
theorem run_or (t:TypeId) (k:IntKind) (x y:Int):(binOp .or t (.int k x) (.int k y)).run P w=.ok (.int k (k.wrap (BitVec.ofInt k.bits x ||| BitVec.ofInt k.bits y).toNat)) w:=by simp [binOp,Op.intBits]
theorem run_shr (t:TypeId) (k yk:IntKind) (x y:Int) (hy:0≤y):(binOp .shr t (.int k x) (.int yk y)).run P w=.ok (.int k (x.fdiv (2 ^ min y.toNat k.bits))) w:=by
  simp [binOp,Op.shift,show ¬ y < 0 by omega]
theorem run_shl (t:TypeId) (k yk:IntKind) (x y:Int) (hy:0≤y):(binOp .shl t (.int k x) (.int yk y)).run P w=.ok (.int k (k.wrap (x * 2 ^ min y.toNat k.bits))) w:=by
  simp [binOp,Op.shift,show ¬ y < 0 by omega]
theorem run_quo (t:TypeId) (k:IntKind) (x y:Int) (hy:y ≠ 0):(binOp .quo t (.int k x) (.int k y)).run P w=.ok (.int k (k.wrap (x.tdiv y))) w:=by simp [binOp,Op.intDiv,hy]
theorem run_rem (t:TypeId) (k:IntKind) (x y:Int) (hy:y ≠ 0):(binOp .rem t (.int k x) (.int k y)).run P w=.ok (.int k (x.tmod y)) w:=by simp [binOp,Op.intDiv,hy]
theorem run_not (b:Bool):(Op.unary .not (.bool b)).run P w=.ok (.bool !b) w:=by simp [Op.unary]
theorem run_nilChk (a:Addr):(nilChk (.pointer (some a))).run P w=.ok (.value (.pointer (some a))) w:=by simp [nilChk,execOp]
theorem run_pick (b:Bool) (x y:Value):(pickV (.bool b) x y).run P w=.ok (if b then x else y) w:=by simp [pickV,asBool]
theorem run_extract (vs:Array Value) (i:Nat) (v:Value) (h:vs[i]? = some v):(Instr.extract (.tuple vs) i).run P w=.ok v w:=by simp [Instr.extract,h]
theorem run_makeFunc (fn:Fn) (a b:Array Value):(Instr.makeFunc fn a b).run P w=.ok (.func fn a b) w:=by simp [Instr.makeFunc]
end
def isPtrT (P:Program) (t:TypeId):Bool:=match P.underlying t with | some (.pointer _)=>true | _=>false
def isSliceT (P:Program) (t:TypeId):Bool:=match P.underlying t with | some (.slice _)=>true | _=>false
def isStrT (P:Program) (t:TypeId):Bool:=match P.underlying t with | some .string=>true | _=>false
def intT (P:Program) (t:TypeId):Option IntKind:=match P.underlying t with | some (.int k)=>some k | _=>none
def offT (P:Program) (t:TypeId) (f:Nat):Option Nat:=match P.underlying t with
  | some (.struct fs)=>(fs[f]?).bind fun x=>(P.info? x.type).bind fun i=>bif Nat.beq i.size 0 then none else some x.offset
  | _=>none
def oneT (P:Program) (t:TypeId):Bool:=match P.underlying t with
  | some (.struct _)=>false
  | some (.array _ _)=>false
  | some _=>match P.info? t with
    | some i=>Nat.beq i.size 1
    | none=>false
  | none=>false
section
variable {P:Program} {w:World}
theorem isPtrT_spec {t:TypeId} (h:isPtrT P t=true):∃e,P.underlying t=some (.pointer e):=by
  unfold isPtrT at h; split at h
  · rename_i e he; exact ⟨e,he⟩
  · cases h
theorem isSliceT_spec {t:TypeId} (h:isSliceT P t=true):∃e,P.underlying t=some (.slice e):=by
  unfold isSliceT at h; split at h
  · rename_i e he; exact ⟨e,he⟩
  · cases h
theorem isStrT_spec {t:TypeId} (h:isStrT P t=true):P.underlying t=some .string:=by
  unfold isStrT at h; split at h
  · rename_i he; exact he
  · cases h
theorem intT_spec {t:TypeId} {k:IntKind} (h:intT P t=some k):P.underlying t=some (.int k):=by
  unfold intT at h; split at h
  · rename_i k' he; injection h with h; subst h; exact he
  · cases h
theorem run_equal1 {t:TypeId} {x y:Value} {r:Bool} (h:∀d,(Op.equalIn (d+1) t x y).run P w=.ok r w):(Op.equal t x y).run P w=.ok r w:=h 9999
theorem run_eql_ptr_nil {t:TypeId} (h:isPtrT P t=true) (cx cy:Bool) (a:Addr) (w:World):(eqOp .eql t cx cy (.pointer (some a)) (.pointer none)).run P w=.ok (.bool false) w:=by
  obtain ⟨e,he⟩:=isPtrT_spec h
  have hq:=run_equal1 (P:=P) (w:=w) (t:=t) (x:=.pointer (some a)) (y:=.pointer none) (r:=false) fun d=>by simp [Op.equalIn,run_underlying he]
  simp only [eqOp,eqGuard,binOp]
  simp [hq]
theorem run_neq_ptr_nil {t:TypeId} (h:isPtrT P t=true) (cx cy:Bool) (a:Addr) (w:World):(eqOp .neq t cx cy (.pointer (some a)) (.pointer none)).run P w=.ok (.bool true) w:=by
  obtain ⟨e,he⟩:=isPtrT_spec h
  have hq:=run_equal1 (P:=P) (w:=w) (t:=t) (x:=.pointer (some a)) (y:=.pointer none) (r:=false) fun d=>by simp [Op.equalIn,run_underlying he]
  simp only [eqOp,eqGuard,binOp]
  simp [hq]
theorem run_eql_slice_nil' {t:TypeId} (h:isSliceT P t=true) (cx cy:Bool) (a:Option Addr) (n c:Nat) (w:World):(eqOp .eql t cx cy (.slice a n c) (.slice none 0 0)).run P w=.ok (.bool a.isNone) w:=by
  obtain ⟨e,he⟩:=isSliceT_spec h
  have hq:=run_equal1 (P:=P) (w:=w) (t:=t) (x:=.slice a n c) (y:=.slice none 0 0) (r:=a.isNone) fun d=>by cases a <;> simp [Op.equalIn,run_underlying he]
  simp only [eqOp,eqGuard,binOp]
  simp [hq]
theorem run_neq_slice_nil' {t:TypeId} (h:isSliceT P t=true) (cx cy:Bool) (a:Option Addr) (n c:Nat) (w:World):(eqOp .neq t cx cy (.slice a n c) (.slice none 0 0)).run P w=.ok (.bool !a.isNone) w:=by
  obtain ⟨e,he⟩:=isSliceT_spec h
  have hq:=run_equal1 (P:=P) (w:=w) (t:=t) (x:=.slice a n c) (y:=.slice none 0 0) (r:=a.isNone) fun d=>by cases a <;> simp [Op.equalIn,run_underlying he]
  simp only [eqOp,eqGuard,binOp]
  simp [hq]
theorem run_eql_str (t:TypeId) (cx cy:Bool) (a b:ByteArray) (w:World):(eqOp .eql t cx cy (.string a) (.string b)).run P w=.ok (.bool (a.toList == b.toList)) w:=by simp [eqOp,eqGuard,binOp,Op.stringOp]
theorem run_neq_str (t:TypeId) (cx cy:Bool) (a b:ByteArray) (w:World):(eqOp .neq t cx cy (.string a) (.string b)).run P w=.ok (.bool !(a.toList == b.toList)) w:=by simp [eqOp,eqGuard,binOp,Op.stringOp]
theorem run_conv_int {src dst:TypeId} {k:IntKind} (hs:(P.underlying src).isSome=true) (hd:intT P dst=some k) (q:IntKind) (n:Int) (w:World):(convert src dst (.int q n)).run P w=.ok (.int k (k.wrap n)) w:=by
  obtain ⟨d,hd'⟩:=Option.isSome_iff_exists.1 hs
  simp [convert,run_underlying hd',run_underlying (intT_spec hd),Conv.intToInt]
theorem run_lenS {t:TypeId} (h:isSliceT P t=true) (ts:Array TypeId) (ht:ts[0]? = some t) (ty:TypeId) (a:Option Addr) (n c:Nat) (w:World):(Builtin.len_ ts ty #[.slice a n c]).run P w=.ok (.int .i64 n) w:=by
  obtain ⟨e,he⟩:=isSliceT_spec h
  simp [Builtin.len_,ht,run_underlying he,goInt]
theorem run_lenStr {t:TypeId} (h:isStrT P t=true) (ts:Array TypeId) (ht:ts[0]? = some t) (ty:TypeId) (s:ByteArray) (w:World):(Builtin.len_ ts ty #[.string s]).run P w=.ok (.int .i64 s.size) w:=by
  simp [Builtin.len_,ht,run_underlying (isStrT_spec h),goInt]
theorem add_addr (b i n:Nat):(⟨b,i,none⟩:Addr).add n=⟨b,i+n,none⟩:=by
  unfold Addr.add; split <;> simp_all
theorem run_fieldAt {t f n:Nat} (h:offT P t f=some n) (b i:Nat) (w:World):(Instr.fieldAt t (.pointer (some ⟨b,i,none⟩)) f).run P w=.ok (.pointer (some ⟨b,i+n,none⟩)) w:=by
  unfold offT at h
  split at h
  · rename_i fs hu
    cases hf:fs[f]? with
    | none=>simp [hf] at h
    | some x=>
      simp only [hf,Option.bind_some] at h
      cases hi:P.info? x.type with
      | none=>simp [hi] at h
      | some info=>
        simp only [hi,Option.bind_some] at h
        by_cases hz:info.size=0
        · rw [hz,Nat.beq_refl] at h; cases h
        · rw [beq_false_of_ne hz] at h
          injection h with h
          subst h
          have hc:P.cellsOf x.type=info.size:=by simp [Program.cellsOf,hi]
          simp [Instr.fieldAt,run_underlying hu,hf,Instr.sureAddr,fieldPlace,run_sizeOf _ hi,hc,hz,add_addr]
  · cases h
theorem run_loadAt1 {t:TypeId} (h:oneT P t=true) {a:Addr} {v:Value} (hc:w.cell? a=some v):(Instr.loadAt t (.pointer (some a))).run P w=.ok v w:=by
  unfold oneT at h
  split at h
  · cases h
  · cases h
  · rename_i d h1 h2 hd
    have hagg:(isAgg t).run P w=.ok false w:=by
      unfold isAgg
      simp only [Sem.run_bind,run_underlying hd]
      cases d <;> first | rfl | (exfalso; exact h1 _ rfl) | (exfalso; exact h2 _ _ rfl)
    simp [Instr.loadAt,Instr.sureAddr,loadVar,hagg,load,Sem.run,hc]
  · cases h
theorem run_storeAt1 {t:TypeId} (h:oneT P t=true) {a:Addr} {u v:Value} (hc:w.cell? a=some u) (hf:w.frozen? a=false) (hv:v.oneCell'=true):(Instr.storeAt t (.pointer (some a)) v).run P w=.ok () (w.setCell a v):=by
  unfold oneT at h
  split at h
  · cases h
  · cases h
  · rename_i d h1 h2 hd
    split at h
    · rename_i info hi
      have hsz:info.size=1:=Nat.eq_of_beq_eq_true h
      have hcells:v.cells=#[v]:=by cases v <;> simp [Value.oneCell'] at hv <;> rfl
      have hc':P.cellsOf t=1:=by simp [Program.cellsOf,hi,hsz]
      have ha:a.add 0=a:=by simp [Addr.add]
      simp only [Instr.storeAt,Instr.sureAddr,storeVar,hcells,Sem.run_bind,run_sizeOf _ hi,Sem.run_pure,Result.andThen_ok,hc']
      simp [storeCells,ha,run_store P w a v .plain hv,hc,hf]
    · cases h
  · cases h
theorem run_indexAt {t e:TypeId} (h:P.underlying t=some (.slice e)) {info:TypeInfo} (hi:P.info? e=some info) (b off n c:Nat) (k:IntKind) (i:Int) (h0:0≤i) (h1:i < n) (w:World) :
    (Instr.indexAt t (.slice (some ⟨b,off,none⟩) n c) (.int k i)).run P w=.ok (.pointer (some ⟨b,off+i.toNat * info.size,none⟩)) w:=by
  have hc:P.cellsOf e=info.size:=by simp [Program.cellsOf,hi]
  simp [Instr.indexAt,asIntOf,run_underlying h,run_sizeOf _ hi,hc,h0,h1,add_addr]
end
theorem wr_i64 {x:Int} (h1 : -9223372036854775808≤x) (h2:x≤9223372036854775807):IntKind.i64.wrap x=x:=IntWalk.i64_in x ⟨h1,h2⟩
theorem wr_i32 {x:Int} (h1 : -2147483648≤x) (h2:x≤2147483647):IntKind.i32.wrap x=x:=IntWalk.i32_in x ⟨h1,h2⟩
theorem wr_u8 {x:Int} (h1:0≤x) (h2:x≤255):IntKind.u8.wrap x=x:=IntWalk.u8_in x ⟨h1,h2⟩
theorem wr_u32 {x:Int} (h1:0≤x) (h2:x≤4294967295):IntKind.u32.wrap x=x:=IntWalk.u32_in x ⟨h1,h2⟩
theorem wr_u64 {x:Int} (h1:0≤x) (h2:x≤18446744073709551615):IntKind.u64.wrap x=x:=IntWalk.u64_in x ⟨h1,h2⟩

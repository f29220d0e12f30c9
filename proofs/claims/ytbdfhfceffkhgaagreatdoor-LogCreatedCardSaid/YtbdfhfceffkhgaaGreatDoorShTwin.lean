/- Rows that are grown while the shorter ones are still looked at; lists of rows. Nothing of any one program stands here. -/
import Derived.Test.YtbdfhfceffkhgaaGreatDoorShOpen
namespace Go.Sh
open Go.RowKit
section
variable {P:Program} {Z:PZ} {o w w':World} {kk:PQ} {R As:List HProp} {t tx e ty:TypeId} {sz bt n m k:Nat} {z v v2 x:Value} {xs ys us:List Value}
theorem St.all_cons {A:HProp} {As:List HProp} (h:St o w (satH (A::As)::R)):St o w (A::satH As::R):=(show St o w (Sh.sep A (satH As)::R) from h).sep
theorem St.all_append {As Bs:List HProp} (h:St o w (satH (As++Bs)::R)):St o w (satH As::satH Bs::R):=by
 have h1:=h.all
 rw [List.append_assoc] at h1
 exact (St.all_intro (As:=Bs) (R:=satH As::R) ((St.all_intro h1).perm List.perm_middle.symm)).swap
variable {es:List (Value × Nat)} {ds:List ((Value × Nat) × Value)} {mk mk':Nat→List Value} {i:Nat}
theorem Rd.len (h:Rd w sz v n xs) (hs:isSliceT P t=true) (ts:Array TypeId) (ht:ts[0]? = some t) (ty:TypeId) (w':World):(Builtin.len_ ts ty #[v]).run P w'=.ok (.int .i64 n) w':=by
 obtain ⟨a,c,rfl⟩:=h.form
 exact run_lenS hs ts ht ty a n c w'
theorem Rd.adr (h:Rd w sz v n xs) (hel:El P t e sz bt z) (q:IntKind) (i:Nat) (hi:i < n):∃b p,(∀w,(Instr.indexAt t v (.int q i)).run P w=.ok (.pointer (some ⟨b,p,none⟩)) w) ∧
  ∀(w':World),Rd w' sz v n xs→∀j u,((xs.drop (i * sz)).take sz)[j]? = some u→w'.cell? ⟨b,p+j,none⟩=some u:=by
 obtain ⟨b,p,hp,_,_⟩:=h.ix hel q i hi
 refine ⟨b,p,hp,fun w' h' j u hu=>?_⟩
 obtain ⟨b',p',hp',hc',_⟩:=h'.ix hel q i hi
 have:=(hp w).symm.trans (hp' w)
 injection this with this _
 injection this with this
 injection this with this
 injection this with e1 e2
 subst e1; subst e2
 exact hc' j u hu
end

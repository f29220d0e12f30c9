/- PacketEnds: behind, Summed; the plain law; the walk. -/
import Derived.Test.YtfijkedmbaghmaaGreatDoorG12
set_option linter.unusedVariables false
set_option linter.unusedSimpArgs false
namespace Go.Proofs.YtfijkedmbaghmaaGreatDoor
open Go.Sh
open Tryz renaming prog → π
theorem body_same {y p:Pk} (h:sameP y p):body y=body p:=fpre_same h.1 12 (Nat.le_refl _) fun j hj _=>h.2 j hj
section
variable (Z:PZ) {o w:World} {R As:List HProp} {g:Nat} {p:Pk}
theorem pBehindC {x y:Value} {n:Nat} {l k:List UInt8} (h:St o w (own 5 1 x l.length (cb l)::R)) (hy:Ent o R fun w=>Rd w 1 y n (cb k)) (hl:l.length+k.length≤140737488355328) :
  CallV π Z 72 #[x,y] w fun r w'=>St o w' (own 5 1 r (l++k).length (cb (l++k))::R):=by
 have h0:=hy w h.drop
 have hn:=rd_len h0
 obtain ⟨a,c,rfl⟩:=h0.form
 subst hn
 refine f72.calls ?_
 unfold f72.sh
 refine ⟨fun m v y w'=>∃i:Nat,y=.int .i64 i∧m+i=k.length∧St o w' (own 5 1 v (l.length+i) (cb (l++k.take i))::R),⟨k.length,0,rfl,rfl,by simpa using h⟩,?_⟩
 rintro m v _ w1 ⟨i,rfl,hi,hS⟩ _
 (try simp only [o_add,ln_30_3,o_lss,cond_decide])
 refine ⟨fun hlt=>?_,fun hge=>?_⟩
 ·have hi1:i < k.length:=by omega
  obtain ⟨p,hp,hpc⟩:=rd_index (hy w1 hS.drop) i hi1
  refine r1 (hp _) (r_load one5 hpc ?_)
  refine r_push el30 hS _ rfl (by omega) (by simp only [maxLen]; omega) fun v' w2 hS2=>?_
  skip
  rw [wr_i64 (x:=(i:Int)+1) (by omega) (by omega)]
  refine ⟨m - 1,by omega,i+1,rfl,by omega,?_⟩
  rw [List.take_succ_eq_append_getElem hi1,← List.append_assoc,cb_append]
  exact hS2
 ·obtain rfl:i=k.length:=by omega
  rw [List.take_length] at hS
  rw [List.length_append]
  exact hS
theorem summedC {x:Value} {n:Nat} {l:List UInt8} (h:St o w R) (hx:Ent o R fun w=>Rd w 1 x n (cb l)) (hl:l.length≤100000000000000) :
  CallV π Z 22 #[x] w fun r w'=>St o w' (own 5 1 r (summed l).length (cb (summed l))::R):=by
 refine f22.calls ?_
 unfold f22.sh
 refine (refSum Z (hx w h)).mono fun r w1 ⟨hr,hw⟩=>?_
 subst hr; subst hw
 have had:=adler_lt l
 refine (refUint32 Z (adler l) (by omega) h).mono fun r w2 hS=>?_
 have hS:St o w2 (own 5 1 r (enc 4 (adler l)).length (cb (enc 4 (adler l)))::R):=by rw [enc_length]; exact hS
 exact pBehindC Z hS hx (by rw [enc_length]; omega)
end

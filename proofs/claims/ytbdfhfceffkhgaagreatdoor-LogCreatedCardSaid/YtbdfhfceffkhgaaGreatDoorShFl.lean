/- Floats of 64 bits as whole numbers of the least place: halved, doubled, held against others. Nothing of any one program stands here. -/
import Derived.Test.YtbdfhfceffkhgaaGreatDoorShOpen
import Derived.Laws.FloatArith
import Derived.Laws.Entries
namespace Go.Sh
abbrev dd:Ieee.Format:=Ieee.double
def Fit (V:Nat):Prop:=∃K j,V=K * 2 ^ j∧K < 9007199254740992∧0 < K
theorem pow52:(2:Nat) ^ 52=4503599627370496:=by decide
theorem pow53:(2:Nat) ^ 53=9007199254740992:=by decide
theorem log2_pow (K j:Nat) (h:0 < K):(K * 2 ^ j).log2=K.log2+j:=by
 rw [Nat.log2_eq_iff (by have:=Nat.pos_of_neZero (2 ^ j); exact Nat.ne_of_gt (Nat.mul_pos h this))]
 have h1:=Nat.log2_self_le (Nat.ne_of_gt h)
 have h2:K < 2 ^ (K.log2+1):=Nat.lt_log2_self
 constructor
 ·rw [Nat.pow_add]; exact Nat.mul_le_mul_right _ h1
 ·rw [show K.log2+j+1=(K.log2+1)+j by omega,Nat.pow_add]
  exact Nat.mul_lt_mul_of_pos_right h2 (Nat.pos_of_neZero _)
theorem log2_le52 {K:Nat} (h0:0 < K) (h:K < 9007199254740992):K.log2≤52:=by
 have:=(Nat.log2_lt (Nat.ne_of_gt h0)).2 (show K < 2 ^ 53 by rw [pow53]; exact h)
 omega
theorem Fit.split {V:Nat} (h:Fit V):∃U,V=U * 2 ^ (V.log2 - 52)∧0 < U∧U < 9007199254740992∧(V.log2 - 52=0∨4503599627370496≤U):=by
 obtain ⟨K,j,rfl,hK,h0⟩:=h
 have hl:=log2_pow K j h0
 have hk:=log2_le52 h0 hK
 have ht:(K * 2 ^ j).log2 - 52≤j:=by omega
 refine ⟨K * 2 ^ (j - ((K * 2 ^ j).log2 - 52)),?_,Nat.mul_pos h0 (Nat.pos_of_neZero _),?_,?_⟩
 ·rw [Nat.mul_assoc,← Nat.pow_add,Nat.sub_add_cancel ht]
 ·have:(K * 2 ^ (j - ((K * 2 ^ j).log2 - 52))).log2≤52:=by rw [log2_pow _ _ h0]; omega
  have h2:K * 2 ^ (j - ((K * 2 ^ j).log2 - 52)) < 2 ^ ((K * 2 ^ (j - ((K * 2 ^ j).log2 - 52))).log2+1):=Nat.lt_log2_self
  have h3:(2:Nat) ^ ((K * 2 ^ (j - ((K * 2 ^ j).log2 - 52))).log2+1)≤2 ^ 53:=Nat.pow_le_pow_right (by omega) (by omega)
  rw [pow53] at h3
  omega
 ·by_cases hz:(K * 2 ^ j).log2 - 52=0
  ·exact .inl hz
  ·right
   have e:(K * 2 ^ (j - ((K * 2 ^ j).log2 - 52))).log2=52:=by rw [log2_pow _ _ h0]; omega
   have:=Nat.log2_self_le (n:=K * 2 ^ (j - ((K * 2 ^ j).log2 - 52))) (Nat.ne_of_gt (Nat.mul_pos h0 (Nat.pos_of_neZero _)))
   rw [e,pow52] at this
   exact this
def two:Nat:=4611686018427387904
theorem Fit.pos {V:Nat} (h:Fit V):0 < V:=by
 obtain ⟨K,j,rfl,hK,h0⟩:=h
 exact Nat.mul_pos h0 (Nat.pos_of_neZero _)
def one:Nat:=4607182418800017408
section
variable {P:Program}
end

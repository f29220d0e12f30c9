
/- Frames, plainly. -/
import Derived.Test.YtbdfhfceffkhgaaGreatDoorP6
import Derived.Test.YtbdfhfceffkhgaaGreatDoorD6
set_option linter.unusedVariables false
set_option linter.unusedSimpArgs false
namespace Go.Proofs.YtbdfhfceffkhgaaGreatDoor
open Go.Sh
def frm (b:List UInt8):List UInt8:=enc 4 b.length++(enc 4 (adler b)++(b++[0x42]))
theorem frm_len (b:List UInt8):(frm b).length=b.length+9:=by simp [frm,enc_length]; omega
def frst (l:List UInt8):Option (List UInt8):=
 if 8 < l.length∧1≤dec (l.take 4)∧dec (l.take 4)≤1048576∧dec (l.take 4)+9≤l.length∧l[8+dec (l.take 4)]? = some 0x42∧(l.drop 4).take 4=enc 4 (adler ((l.drop 8).take (dec (l.take 4)))) then some ((l.drop 8).take (dec (l.take 4))) else none
theorem frst_len {l b:List UInt8} (h:frst l=some b):b.length+9≤l.length∧1≤b.length∧b.length≤1048576∧b=(l.drop 8).take b.length:=by
 unfold frst at h
 split at h
 ·rename_i hc
  injection h with h
  have e:b.length=dec (l.take 4):=by rw [← h,List.length_take,List.length_drop]; omega
  exact ⟨by omega,by omega,by omega,by rw [e]; exact h.symm⟩
 ·cases h
theorem dec4 (n:Nat) (h:n < 4294967296):dec (enc 4 (n:Int))=n:=by
 have:=dec_enc 4 (n:Int)
 have e:(256:Int) ^ 4=4294967296:=by decide
 rw [e] at this; omega
theorem take_pre {α:Type} {a b:List α} {n:Nat} (h:n≤a.length):(a++b).take n=a.take n:=by rw [List.take_append_of_le_length h]
theorem frst_frm {b:List UInt8} (h1:1≤b.length) (h2:b.length≤1048576) (r:List UInt8):frst (frm b++r)=some b:=by
 have h4:(frm b++r).take 4=enc 4 b.length:=by rw [take_pre (by rw [frm_len]; omega)]; exact List.take_left' (enc_length _ _)
 have hd:=dec4 b.length (by omega)
 have h8:(frm b++r).drop 8=b++([0x42]++r):=by
  have e:frm b++r=(enc 4 b.length++enc 4 (adler b))++(b++([0x42]++r)):=by simp [frm]
  rw [e]; exact List.drop_left' (by simp [enc_length])
 have hm:((frm b++r).drop 4).take 4=enc 4 (adler b):=by
  have e:frm b++r=enc 4 b.length++(enc 4 (adler b)++(b++([0x42]++r))):=by simp [frm]
  rw [e,List.drop_left' (enc_length _ _)]; exact List.take_left' (enc_length _ _)
 have hl:(frm b++r)[8+b.length]? = some 0x42:=by
  have:(frm b++r)[8+b.length]? = ((frm b++r).drop 8)[b.length]? := by rw [List.getElem?_drop]
  rw [this,h8,List.getElem?_append_right (Nat.le_refl _)]; simp
 unfold frst
 rw [h4,hd,h8,hm,hl,List.take_left' rfl,if_pos]
 exact ⟨by rw [List.length_append,frm_len]; omega,h1,h2,by rw [List.length_append,frm_len]; omega,rfl,rfl⟩
theorem frst_part {b p q:List UInt8} (h2:b.length≤1048576) (h:p++q=frm b) (hq:q ≠ []):frst p=none:=by
 unfold frst
 rw [if_neg]
 rintro ⟨h8,_,_,hn,_⟩
 have hl:p.length+q.length=b.length+9:=by rw [← frm_len,← h,List.length_append]
 have hq1:0 < q.length:=List.length_pos_iff.2 hq
 have h4:p.take 4=enc 4 b.length:=by
  have:(frm b).take 4=enc 4 b.length:=List.take_left' (enc_length _ _)
  rw [← this,← h,take_pre (by omega)]
 rw [h4,dec4 b.length (by omega)] at hn
 omega
def bods:Nat→List UInt8→List (List UInt8)
 | 0,_=>[]
 | k+1,l=>match frst l with
  | some b=>b::bods k (l.drop (b.length+9))
  | none=>[]
theorem bods_fuel:∀(k:Nat) (l:List UInt8),l.length≤k→bods k l=bods l.length l
 | 0,l,h=>by obtain rfl:=List.eq_nil_of_length_eq_zero (Nat.le_zero.1 h); rfl
 | k+1,l,h=>by
  cases hf:frst l with
  | none=>
   have h0:∀k,bods k l=[]:=fun k=>by cases k with
    | zero=>rfl
    | succ k=>simp only [bods,hf]
   rw [h0,h0]
  | some b=>
   have hb:=frst_len hf
   obtain ⟨j,hj⟩:∃j,l.length=j+1:=⟨l.length - 1,by omega⟩
   have hd:(l.drop (b.length+9)).length=l.length - (b.length+9):=List.length_drop ..
   rw [hj]
   simp only [bods,hf]
   rw [bods_fuel k _ (by omega),bods_fuel j _ (by omega)]
def bodsOf (l:List UInt8):List (List UInt8):=bods l.length l
theorem bodsOf_none {l:List UInt8} (h:frst l=none):bodsOf l=[]:=by
 unfold bodsOf
 cases hl:l.length with
 | zero=>rfl
 | succ k=>simp only [bods,h]
theorem bodsOf_some {l b:List UInt8} (h:frst l=some b):bodsOf l=b::bodsOf (l.drop (b.length+9)):=by
 have hb:=frst_len h
 unfold bodsOf
 obtain ⟨j,hj⟩:∃j,l.length=j+1:=⟨l.length - 1,by omega⟩
 have hd:(l.drop (b.length+9)).length=l.length - (b.length+9):=List.length_drop ..
 rw [hj]
 simp only [bods,h]
 rw [bods_fuel j _ (by omega)]
def frms (bs:List (List UInt8)):List UInt8:=bs.flatMap frm
theorem frms_cons (b:List UInt8) (bs:List (List UInt8)):frms (b::bs)=frm b++frms bs:=List.flatMap_cons ..
theorem frms_append (a b:List (List UInt8)):frms (a++b)=frms a++frms b:=List.flatMap_append ..
def okB (bs:List (List UInt8)):Prop:=∀b ∈ bs,1≤b.length∧b.length≤1048576
theorem bods_frms:∀{bs:List (List UInt8)} (hb:okB bs) {r:List UInt8},frst r=none→bodsOf (frms bs++r)=bs
 | [],_,r,hr=>by simpa [frms] using bodsOf_none hr
 | b::bs,hb,r,hr=>by
  have h1:=hb b List.mem_cons_self
  rw [frms_cons,List.append_assoc,bodsOf_some (frst_frm h1.1 h1.2 _)]
  rw [List.drop_left' (frm_len b),bods_frms (fun x hx=>hb x (List.mem_cons_of_mem _ hx)) hr]
theorem frst_nil:frst []=none:=by decide
theorem frms_take:∀{bs:List (List UInt8)} (hb:okB bs) (k:Nat),∃j r,j≤bs.length∧(frms bs).take k=frms (bs.take j)++r∧frst r=none∧(∀i,i≤bs.length→(frms (bs.take i)).length≤k→i≤j)∧((frms bs).length≤k→r=[])
 | [],_,k=>⟨0,[],Nat.le_refl _,by simp [frms],frst_nil,fun i hi _=>hi,fun _=>rfl⟩
 | b::bs,hb,k=>by
  have h1:=hb b List.mem_cons_self
  by_cases hk:k < (frm b).length
  ·refine ⟨0,(frm b).take k,by omega,?_,?_,fun i hi hl=>?_,fun hl=>?_⟩
   ·rw [frms_cons,take_pre (by omega)]; simp [frms]
   ·refine frst_part h1.2 (List.take_append_drop k (frm b)) fun e=>?_
    have:=congrArg List.length e
    rw [List.length_drop] at this
    simp at this; omega
   ·cases i with
    | zero=>exact Nat.le_refl _
    | succ i=>rw [List.take_succ_cons,frms_cons,List.length_append] at hl; omega
   ·rw [frms_cons,List.length_append] at hl; omega
  ·obtain ⟨j,r,hj,e,hr,hmax,hall⟩:=frms_take (fun x hx=>hb x (List.mem_cons_of_mem _ hx)) (k - (frm b).length) (bs:=bs)
   refine ⟨j+1,r,by simp; omega,?_,hr,fun i hi hl=>?_,fun hl=>?_⟩
   ·rw [frms_cons,List.take_append,List.take_of_length_le (by omega),e,List.take_succ_cons,frms_cons,List.append_assoc]
   ·cases i with
    | zero=>omega
    | succ i=>
     rw [List.take_succ_cons,frms_cons,List.length_append] at hl
     have:=hmax i (by simpa using hi) (by omega)
     omega
   ·rw [frms_cons,List.length_append] at hl
    exact hall (by omega)
end Go.Proofs.YtbdfhfceffkhgaaGreatDoor


/- Names of segments, plainly. -/
set_option linter.unusedVariables false
set_option linter.unusedSimpArgs false
namespace Go.Proofs.YtbdfhfceffkhgaaGreatDoor
open Go.Sh
def hexd (n:Nat):UInt8:=if n < 10 then UInt8.ofNat (48+n) else UInt8.ofNat (87+n)
def hexR:Nat→Nat→List UInt8
 | 0,_=>[]
 | k+1,n=>if n < 16 then [hexd n] else hexR k (n / 16)++[hexd (n % 16)]
def hexL (n:Nat):List UInt8:=hexR 16 n
def dv (c:UInt8):Nat:=if c.toNat < 58 then c.toNat - 48 else c.toNat - 87
def unhex (l:List UInt8):Nat:=l.foldl (fun v c=>v * 16+dv c) 0
theorem hexd_to {n:Nat} (h:n < 16):(hexd n).toNat=if n < 10 then 48+n else 87+n:=by
 unfold hexd
 split
 ·rw [UInt8.toNat_ofNat']; omega
 ·rw [UInt8.toNat_ofNat']; omega
theorem dv_hexd {n:Nat} (h:n < 16):dv (hexd n)=n:=by
 unfold dv
 rw [hexd_to h]
 split <;> split <;> omega
theorem unhex_snoc (l:List UInt8) (c:UInt8):unhex (l++[c])=unhex l * 16+dv c:=by unfold unhex; rw [List.foldl_append]; rfl
theorem unhex_hexR:∀(k n:Nat),n < 16 ^ k→unhex (hexR k n)=n
 | 0,n,h=>by simp at h; subst h; rfl
 | k+1,n,h=>by
  rw [hexR]
  split
  ·rename_i hn
   show 0 * 16+dv (hexd n)=n
   rw [dv_hexd hn]; omega
  ·rw [unhex_snoc,unhex_hexR k (n / 16) (by rw [Nat.pow_succ] at h; omega),dv_hexd (Nat.mod_lt _ (by omega))]; omega
theorem hexR_len:∀(k n:Nat),(hexR k n).length≤k
 | 0,_=>Nat.le_refl _
 | k+1,n=>by
  rw [hexR]
  split
  ·simp
  ·rw [List.length_append]; have:=hexR_len k (n / 16); simp; omega
theorem hexR_pos (k n:Nat):1≤(hexR (k+1) n).length:=by
 rw [hexR]
 split <;> simp
theorem hexR_small:∀(k j n:Nat),n < 16 ^ (j+1)→(hexR k n).length≤j+1
 | 0,_,_,_=>by simp [hexR]
 | k+1,j,n,h=>by
  rw [hexR]
  split
  ·simp
  ·rename_i hn
   cases j with
   | zero=>simp at h; omega
   | succ j=>
    have:=hexR_small k j (n / 16) (by rw [Nat.pow_succ] at h; omega)
    rw [List.length_append]; simp; omega
theorem hexd_okc {n:Nat} (h:n < 16):okch (hexd n)=true∧(hexd n).toNat ≠ 46:=by
 have e:=hexd_to h
 unfold okch
 split at e <;> constructor
 ·have h1:48≤(hexd n).toNat∧(hexd n).toNat≤57:=by omega
  simp [h1.1,h1.2]
 ·omega
 ·have h1:97≤(hexd n).toNat∧(hexd n).toNat≤122:=by omega
  simp [h1.1,h1.2]
 ·omega
theorem hexR_all:∀(k n:Nat),n < 16 ^ k→∀c ∈ hexR k n,∃d,d < 16∧c=hexd d
 | 0,_,_=>by simp [hexR]
 | k+1,n,h=>by
  rw [hexR]
  split
  ·rename_i hn; intro c hc; exact ⟨n,hn,List.mem_singleton.1 hc⟩
  ·intro c hc
   rcases List.mem_append.1 hc with hc | hc
   ·exact hexR_all k (n / 16) (by rw [Nat.pow_succ] at h; omega) c hc
   ·exact ⟨n % 16,Nat.mod_lt _ (by omega),List.mem_singleton.1 hc⟩
def preB (a:Nat):List UInt8:=[108,111,103,46]++(hexL a++[46])
def nameB (a k:Nat):List UInt8:=preB a++hexL k
def nameI (a k:Int):List UInt8:=if a < 1∨k < 1∨4095 < k then [] else nameB a.toNat k.toNat
theorem p16:16 ^ 16=18446744073709551616:=by decide
theorem hexL_inj {a b:Nat} (ha:a < 18446744073709551616) (hb:b < 18446744073709551616) (h:hexL a=hexL b):a=b:=by
 have h1:=unhex_hexR 16 a (by rw [p16]; exact ha)
 have h2:=unhex_hexR 16 b (by rw [p16]; exact hb)
 have h3:=congrArg unhex h
 unfold hexL at h3
 omega
theorem dot_split:∀{x y r s:List UInt8},(∀c ∈ x,c.toNat ≠ 46)→(∀c ∈ y,c.toNat ≠ 46)→x++46::r=y++46::s→x=y∧r=s
 | [],[],_,_,_,_,h=>by simp at h; exact ⟨rfl,h⟩
 | [],c::y,_,_,_,hy,h=>by simp at h; exact absurd (by rw [← h.1]; rfl) (hy c List.mem_cons_self)
 | c::x,[],_,_,hx,_,h=>by simp at h; exact absurd (by rw [h.1]; rfl) (hx c List.mem_cons_self)
 | c::x,d::y,r,s,hx,hy,h=>by
  simp only [List.cons_append,List.cons.injEq] at h
  obtain ⟨e1,e2⟩:=dot_split (fun z hz=>hx z (List.mem_cons_of_mem _ hz)) (fun z hz=>hy z (List.mem_cons_of_mem _ hz)) h.2
  exact ⟨by rw [h.1,e1],e2⟩
theorem hexL_nodot {a:Nat} (ha:a < 18446744073709551616):∀c ∈ hexL a,c.toNat ≠ 46:=fun c hc=>by
 obtain ⟨d,hd,rfl⟩:=hexR_all 16 a (by rw [p16]; exact ha) c hc
 exact (hexd_okc hd).2
theorem nameB_inj {a b i k:Nat} (ha:a < 18446744073709551616) (hb:b < 18446744073709551616) (hi:i < 18446744073709551616) (hk:k < 18446744073709551616) (h:nameB a i=nameB b k):a=b∧i=k:=by
 unfold nameB preB at h
 have h:hexL a++46::hexL i=hexL b++46::hexL k:=by simpa using h
 obtain ⟨h1,h2⟩:=dot_split (hexL_nodot ha) (hexL_nodot hb) h
 exact ⟨hexL_inj ha hb h1,hexL_inj hi hk h2⟩
theorem hexL_okc {a:Nat} (ha:a < 18446744073709551616):(hexL a).all okch=true:=List.all_eq_true.2 fun c hc=>by
 obtain ⟨d,hd,rfl⟩:=hexR_all 16 a (by rw [p16]; exact ha) c hc
 exact (hexd_okc hd).1
theorem nameB_ok {a k:Nat} (ha:a < 18446744073709551616) (hk:k≤4095):nameOk (nameB a k)=true:=by
 have h1:=hexL_okc ha
 have h2:=hexL_okc (a:=k) (by omega)
 have l1:(hexL a).length≤16:=hexR_len 16 a
 have l2:(hexL k).length≤3:=hexR_small 16 2 k (by omega)
 unfold nameOk nameB preB
 simp only [List.all_append,h1,h2,List.length_append,List.length_cons,List.length_nil]
 have e:(decide (1≤0+1+1+1+1+((hexL a).length+(0+1))+(hexL k).length) && decide (0+1+1+1+1+((hexL a).length+(0+1))+(hexL k).length≤24))=true:=by
  simp only [Bool.and_eq_true,decide_eq_true_eq]; omega
 rw [e]
 decide

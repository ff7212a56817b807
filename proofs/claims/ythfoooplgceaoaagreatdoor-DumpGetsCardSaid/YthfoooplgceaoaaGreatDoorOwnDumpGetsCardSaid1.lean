/- What the functions that DumpGetsCardSaid reaches compute: part 1. -/
import Derived.Test.YthfoooplgceaoaaGreatDoorAe6
import Derived.Test.YthfoooplgceaoaaGreatDoorProg
import Derived.Test.YthfoooplgceaoaaGreatDoorChecked
import Derived.Eval
import Derived.Shelf.Strings.Builder1
import Derived.Shelf.Strings.Builder2
import Derived.Shelf.Strings.BuilderF
import Derived.Shelf.Strings.Prefix
import Derived.Shelf.Bits.Mul64
import Derived.Shelf.Strings.Repeat
import Derived.Shelf.Sort.Plain
import Derived.Shelf.Slices.In.SortNone
import Derived.Shelf.Strings.OnBuilder
set_option linter.unusedVariables false
set_option linter.unusedSimpArgs false
namespace Go.Plain
def zzF:Nat:=3988292384
def Z5 (n:Nat):Nat:=(n / 2) ^^^ (if n % 2=1 then zzF else 0)
def Z1:Nat→Nat→Nat
  | 0,n=>n
  | k+1,n=>Z1 k (Z5 n)
def y1 (n c:Nat):Nat:=Z1 8 (n ^^^ c)
def wa (n:Nat) (s:List UInt8):Nat:=s.foldl (fun n c=>y1 n c.toNat) n
def yb:Nat:=4294967295
def crc (s:List UInt8):Nat:=wa yb s ^^^ yb
def le4 (n:Nat):List UInt8:=[UInt8.ofNat (n % 256),UInt8.ofNat (n / 256 % 256),UInt8.ofNat (n / 65536 % 256),UInt8.ofNat (n / 16777216 % 256)]
def tail (s:List UInt8):List UInt8:=le4 (crc s)
theorem zal {n:Nat} (h:n<2 ^ 32):Z5 n<2 ^ 32:=by
  unfold Z5
  refine Nat.xor_lt_two_pow (by omega) ?_
  unfold zzF
  split <;> decide
theorem zrF {n:Nat} (h:n<2 ^ 32):(Z5 n).testBit 31=decide (n % 2=1):=by
  unfold Z5
  rw [Nat.testBit_xor]
  have h1:(n / 2).testBit 31=false:=Nat.testBit_lt_two_pow (by omega)
  rw [h1]
  by_cases hn:n % 2=1
  · rw [if_pos hn];simp [hn];decide
  · rw [if_neg hn];simp [hn]
theorem ziy {a b c:Nat} (h:a ^^^ c=b ^^^ c):a=b:=by
  have:(a ^^^ c) ^^^ c=(b ^^^ c) ^^^ c:=by rw [h]
  rwa [Nat.xor_assoc,Nat.xor_assoc,Nat.xor_self,Nat.xor_zero,Nat.xor_zero] at this
theorem zP8 {n m:Nat} (hn:n<2 ^ 32) (hm:m<2 ^ 32) (h:Z5 n=Z5 m):n=m:=by
  have hb:=zrF hn
  rw [h,zrF hm] at hb
  have hp:m % 2=1↔n % 2=1:=by simpa using hb
  unfold Z5 at h
  by_cases e:n % 2=1
  · have e':=hp.2 e
    rw [if_pos e,if_pos e'] at h
    have:=ziy h
    omega
  · have e' : ¬m % 2=1:=fun x=>e (hp.1 x)
    rw [if_neg e,if_neg e',Nat.xor_zero,Nat.xor_zero] at h
    omega
theorem zQ8 (a b:Nat):Z5 (a ^^^ b)=Z5 a ^^^ Z5 b:=by
  unfold Z5
  have h1:(a ^^^ b) / 2=a / 2 ^^^ b / 2:=by
    have:=Nat.shiftRight_xor_distrib (a:=a) (b:=b) (i:=1)
    simpa [Nat.shiftRight_eq_div_pow] using this
  have h2:(a ^^^ b) % 2=(a % 2) ^^^ (b % 2):=by
    have:=Nat.xor_mod_two_pow (a:=a) (b:=b) (n:=1)
    simpa using this
  rw [h1,h2]
  have ha:a % 2=0∨a % 2=1:=by omega
  have hb:b % 2=0∨b % 2=1:=by omega
  rcases ha with ha | ha <;> rcases hb with hb | hb <;> rw [ha,hb]
  · simp
  · simp [Nat.xor_assoc]
  · simp
    rw [Nat.xor_assoc,Nat.xor_comm (b / 2),← Nat.xor_assoc]
  · simp
    rw [Nat.xor_assoc,← Nat.xor_assoc zzF,Nat.xor_comm zzF,Nat.xor_assoc,Nat.xor_self,Nat.xor_zero]
theorem zqS : ∀(k:Nat) {n:Nat},n<2 ^ 32→Z1 k n<2 ^ 32
  | 0,_,h=>h
  | k+1,_,h=>zqS k (zal h)
theorem zsM : ∀(k:Nat) {n m:Nat},n<2 ^ 32→m<2 ^ 32→Z1 k n=Z1 k m→n=m
  | 0,_,_,_,_,h=>h
  | k+1,_,_,hn,hm,h=>zP8 hn hm (zsM k (zal hn) (zal hm) h)
theorem zLd : ∀(k a b:Nat),Z1 k (a ^^^ b)=Z1 k a ^^^ Z1 k b
  | 0,_,_=>rfl
  | k+1,a,b=>by rw [Z1,zQ8,zLd k];rfl
theorem zxp : ∀(k c:Nat),Z1 k (c*2 ^ k)=c
  | 0,c=>by simp [Z1]
  | k+1,c=>by
    have:Z5 (c*2 ^ (k+1))=c*2 ^ k:=by
      unfold Z5
      have h1:c*2 ^ (k+1)=2*(c*2 ^ k):=by rw [Nat.pow_succ,← Nat.mul_assoc,Nat.mul_comm]
      rw [h1,if_neg (by omega),Nat.xor_zero]
      omega
    rw [Z1,this]
    exact zxp k c
theorem zr8 : ∀(j k n:Nat),Z1 k (Z1 j n)=Z1 (j+k) n
  | 0,k,n=>by rw [Nat.zero_add];rfl
  | j+1,k,n=>by rw [Z1,zr8 j k,show j+1+k=(j+k)+1 by omega];rfl
theorem zgd {n c:Nat} (hn:n<2 ^ 32) (hc:c<256):y1 n c<2 ^ 32:=zqS 8 (Nat.xor_lt_two_pow hn (by omega))
theorem zbb : ∀(s:List UInt8) {n:Nat},n<2 ^ 32→wa n s<2 ^ 32
  | [],_,h=>h
  | c::s,_,h=>zbb s (zgd h c.toNat_lt)
theorem zUM : ∀(s:List UInt8) {n m:Nat},n<2 ^ 32→m<2 ^ 32→wa n s=wa m s→n=m
  | [],_,_,_,_,h=>h
  | c::s,n,m,hn,hm,h=>by
    have hc:c.toNat<2 ^ 32:=by have:=c.toNat_lt;omega
    exact ziy (zsM 8 (Nat.xor_lt_two_pow hn hc) (Nat.xor_lt_two_pow hm hc) (zUM s (zgd hn c.toNat_lt) (zgd hm c.toNat_lt) h))
theorem jp (n:Nat) (s t:List UInt8):wa n (s++t)=wa (wa n s) t:=List.foldl_append ..
theorem znn (n:Nat) (k c:Nat):y1 (Z1 k n) c=Z1 (k+8) (n ^^^ (c*2 ^ k)):=by
  unfold y1
  rw [← zr8,zLd k,zxp]
theorem z7f (n:Nat) (a b c d:UInt8):wa n [a,b,c,d]=Z1 32 (n ^^^ (a.toNat ^^^ b.toNat*2 ^ 8 ^^^ c.toNat*2 ^ 16 ^^^ d.toNat*2 ^ 24)):=by
  show y1 (y1 (y1 (y1 n a.toNat) b.toNat) c.toNat) d.toNat=_
  have h0:y1 n a.toNat=Z1 8 (n ^^^ a.toNat):=rfl
  rw [h0,znn,znn,znn]
  congr 1
  simp only [Nat.xor_assoc]
theorem zy7 {a:Nat} (x:Nat) (ha:a<256):a ^^^ x*256=x*256+a:=by
  have h1:(a ^^^ x*256) % 256=a:=by
    have:=Nat.xor_mod_two_pow (a:=a) (b:=x*256) (n:=8)
    simp only [show (2:Nat) ^ 8=256 from rfl] at this
    rw [this,Nat.mod_eq_of_lt ha,Nat.mul_mod_left,Nat.xor_zero]
  have h2:(a ^^^ x*256) / 256=x:=by
    have:=Nat.shiftRight_xor_distrib (a:=a) (b:=x*256) (i:=8)
    simp only [Nat.shiftRight_eq_div_pow,show (2:Nat) ^ 8=256 from rfl] at this
    rw [this,Nat.div_eq_of_lt ha,Nat.zero_xor,Nat.mul_div_cancel _ (by omega)]
  have:=Nat.div_add_mod (a ^^^ x*256) 256
  rw [h1,h2] at this
  omega
theorem zi5 (a b c d:UInt8):a.toNat ^^^ b.toNat*2 ^ 8 ^^^ c.toNat*2 ^ 16 ^^^ d.toNat*2 ^ 24=a.toNat+b.toNat*256+c.toNat*65536+d.toNat*16777216:=by
  have ha:=a.toNat_lt;have hb:=b.toNat_lt;have hc:=c.toNat_lt
  have mulx : ∀x y k:Nat,(x ^^^ y)*2 ^ k=x*2 ^ k ^^^ y*2 ^ k:=fun x y k=>by
    rw [← Nat.shiftLeft_eq,← Nat.shiftLeft_eq,← Nat.shiftLeft_eq,Nat.shiftLeft_xor_distrib]
  have e1:c.toNat ^^^ d.toNat*256=d.toNat*256+c.toNat:=zy7 _ (by omega)
  have e2:b.toNat ^^^ (d.toNat*256+c.toNat)*256=(d.toNat*256+c.toNat)*256+b.toNat:=zy7 _ (by omega)
  have e3:a.toNat ^^^ ((d.toNat*256+c.toNat)*256+b.toNat)*256=((d.toNat*256+c.toNat)*256+b.toNat)*256+a.toNat:=zy7 _ (by omega)
  have e4:a.toNat ^^^ b.toNat*2 ^ 8 ^^^ c.toNat*2 ^ 16 ^^^ d.toNat*2 ^ 24=a.toNat ^^^ (b.toNat ^^^ (c.toNat ^^^ d.toNat*256)*256)*256:=by
    have m1:=mulx c.toNat (d.toNat*256) 8
    have m2:=mulx b.toNat ((c.toNat ^^^ d.toNat*256)*256) 8
    simp only [show (2:Nat) ^ 8=256 from rfl] at m1 m2
    rw [m1] at m2 ⊢
    have m3:=mulx (c.toNat*256) (d.toNat*256*256) 8
    simp only [show (2:Nat) ^ 8=256 from rfl] at m3
    rw [m2,m3]
    simp only [Nat.mul_assoc,Nat.xor_assoc,show (256:Nat)*256=2 ^ 16 from rfl,show (256:Nat)*2 ^ 16=2 ^ 24 from rfl,show (256:Nat)=2 ^ 8 from rfl]
  rw [e4,e1,e2,e3]
  omega
theorem z7U {n m:Nat} (hn:n<2 ^ 32) {a b c d a' b' c' d':UInt8} (hnm:n=m) (h:wa n [a,b,c,d]=wa m [a',b',c',d']):[a,b,c,d]=[a',b',c',d']:=by
  subst hnm
  rw [z7f,z7f,zi5,zi5] at h
  have ha:=a.toNat_lt;have hb:=b.toNat_lt;have hc:=c.toNat_lt;have hd:=d.toNat_lt
  have ha':=a'.toNat_lt;have hb':=b'.toNat_lt;have hc':=c'.toNat_lt;have hd':=d'.toNat_lt
  have:=zsM 32 (Nat.xor_lt_two_pow hn (by omega)) (Nat.xor_lt_two_pow hn (by omega)) h
  rw [Nat.xor_comm n,Nat.xor_comm n] at this
  have:=ziy this
  have e1:a=a':=UInt8.toNat_inj.1 (by omega)
  have e2:b=b':=UInt8.toNat_inj.1 (by omega)
  have e3:c=c':=UInt8.toNat_inj.1 (by omega)
  have e4:d=d':=UInt8.toNat_inj.1 (by omega)
  rw [e1,e2,e3,e4]
def Whole (s:List UInt8):Prop := ∃m,s=m++tail m
def zT8:Nat:=Z1 32 yb
theorem zvb (m:List UInt8):crc m<2 ^ 32:=Nat.xor_lt_two_pow (zbb m (by decide)) (by decide)
theorem ofNat_toNat {n:Nat} (h:n<256):(UInt8.ofNat n).toNat=n:=by
  rw [UInt8.toNat_ofNat'];omega
theorem zEH {s:List UInt8} (h:Whole s):wa yb s=zT8:=by
  obtain ⟨m,rfl⟩:=h
  rw [jp,tail,le4,z7f,zi5]
  have hc:=zvb m
  rw [ofNat_toNat (by omega),ofNat_toNat (by omega),ofNat_toNat (by omega),ofNat_toNat (by omega)]
  have e:crc m % 256+crc m / 256 % 256*256+crc m / 65536 % 256*65536+crc m / 16777216 % 256*16777216=crc m:=by omega
  rw [e]
  unfold crc zT8
  rw [← Nat.xor_assoc,Nat.xor_self,Nat.zero_xor]
theorem ZeT {p w w' q:List UInt8} (hl:w.length=4) (hl':w'.length=4) (h:Whole (p++(w++q))) (h':Whole (p++(w'++q))):w=w':=by
  have e:=zEH h
  rw [← zEH h',jp,jp,jp,jp] at e
  have hp:=zbb p (n:=yb) (by decide)
  have e:=zUM q (zbb _ hp) (zbb _ hp) e
  match w,w',hl,hl',e with
  | [a,b,c,d],[a',b',c',d'],_,_,e=>exact z7U hp rfl e
theorem Zt (s:List UInt8):(tail s).length=4:=rfl
theorem z7x {s t:List UInt8} (k:Nat) (hl:s.length=t.length) (h4:4≤s.length) (hs:Whole s) (ht:Whole t) (h : ∀i,i<k∨k+4≤i→s[i]? = t[i]?):s=t:=by
  -- the four places,inside
  have key : ∀k,k+4≤s.length→(∀i,i<k∨k+4≤i→s[i]? = t[i]?)→s=t:=by
    intro k hk h
    have e1:s.take k=t.take k:=by
      apply List.ext_getElem?
      intro i
      rw [List.getElem?_take,List.getElem?_take]
      split
      · exact h i (.inl ‹_›)
      · rfl
    have e2:s.drop (k+4)=t.drop (k+4):=by
      apply List.ext_getElem?
      intro i
      rw [List.getElem?_drop,List.getElem?_drop]
      exact h _ (.inr (by omega))
    have ds:s=s.take k++((s.drop k).take 4++s.drop (k+4)):=by
      rw [show s.drop (k+4)=(s.drop k).drop 4 by rw [List.drop_drop],List.take_append_drop,List.take_append_drop]
    have dt:t=t.take k++((t.drop k).take 4++t.drop (k+4)):=by
      rw [show t.drop (k+4)=(t.drop k).drop 4 by rw [List.drop_drop],List.take_append_drop,List.take_append_drop]
    rw [ds] at hs
    rw [dt,← e1,← e2] at ht
    have:=ZeT (by rw [List.length_take,List.length_drop];omega) (by rw [List.length_take,List.length_drop];omega) hs ht
    rw [ds,dt,this,e1,e2]
  by_cases hk:k+4≤s.length
  · exact key k hk h
  · refine key (s.length - 4) (by omega) fun i hi => ?_
    rcases hi with hi | hi
    · exact h i (.inl (by omega))
    · rw [List.getElem?_eq_none (by omega),List.getElem?_eq_none (by omega)]
end Go.Plain
namespace Go.Plain
def be:Nat→Nat→List UInt8
  | 0,_=>[]
  | k+1,n=>UInt8.ofNat (n / 256 ^ k % 256)::be k n
def num (s:List UInt8):Nat:=s.foldl (fun n c=>256*n+c.toNat) 0
theorem yx : ∀k n,(be k n).length=k
  | 0,_=>rfl
  | k+1,n=>by rw [be,List.length_cons,yx k n]
theorem z1q : ∀(k n i:Nat),i<k→(be k n)[i]? = some (UInt8.ofNat (n / 256 ^ (k - 1 - i) % 256))
  | 0,_,_,h=>by omega
  | k+1,n,0,_=>by rw [be];simp
  | k+1,n,i+1,h=>by
    rw [be,List.getElem?_cons_succ,z1q k n i (by omega),show k+1 - 1 - (i+1)=k - 1 - i by omega]
theorem zsl : ∀(s:List UInt8) (n:Nat),s.foldl (fun n c=>256*n+c.toNat) n=n*256 ^ s.length+num s
  | [],n=>by simp [num]
  | c::s,n=>by
    unfold num
    rw [List.foldl_cons,List.foldl_cons,zsl s,zsl s,List.length_cons,Nat.pow_succ,Nat.mul_zero,Nat.zero_add,Nat.add_mul,Nat.mul_comm 256 n,Nat.mul_assoc,Nat.mul_comm 256 (256 ^ s.length),Nat.add_assoc]
theorem zM5 (c:UInt8) (s:List UInt8):num (c::s)=c.toNat*256 ^ s.length+num s:=by
  rw [num,List.foldl_cons,zsl,Nat.mul_zero,Nat.zero_add]
theorem zOd (s:List UInt8) (c:UInt8):num (s++[c])=256*num s+c.toNat:=by
  unfold num;rw [List.foldl_append];rfl
theorem zlh : ∀s:List UInt8,num s<256 ^ s.length
  | []=>by simp [num]
  | c::s=>by
    rw [zM5,List.length_cons,Nat.pow_succ]
    have h1:=zlh s
    have h2:c.toNat<256:=c.toNat_lt
    have:c.toNat*256 ^ s.length+256 ^ s.length≤256 ^ s.length*256:=by
      rw [← Nat.succ_mul,Nat.mul_comm]
      exact Nat.mul_le_mul_left _ h2
    omega
theorem z5o (n:Nat):(UInt8.ofNat (n % 256)).toNat=n % 256:=by
  rw [UInt8.toNat_ofNat'];omega
theorem zNW : ∀(k:Nat) {n m:Nat},n % 256 ^ k=m % 256 ^ k→be k n=be k m
  | 0,_,_,_=>rfl
  | k+1,n,m,h=>by
    have e : ∀x:Nat,x / 256 ^ k % 256=x % 256 ^ (k+1) / 256 ^ k:=fun x=>by
      rw [Nat.pow_succ,Nat.mod_mul_right_div_self]
    have e2 : ∀x:Nat,x % 256 ^ (k+1) % 256 ^ k=x % 256 ^ k:=fun x=>Nat.mod_mod_of_dvd _ ⟨256,by rw [Nat.pow_succ]⟩
    rw [be,be,e,e,h,zNW k (n:=n) (m:=m) (by have h1:=e2 n;rw [h,e2 m] at h1;exact h1.symm)]
theorem zO0 : ∀s:List UInt8,be s.length (num s)=s
  | []=>rfl
  | c::s=>by
    have h1:=zlh s
    have h2:c.toNat<256:=c.toNat_lt
    have hp:0<256 ^ s.length:=Nat.pow_pos (by omega)
    rw [zM5,List.length_cons,be]
    have e:(c.toNat*256 ^ s.length+num s) / 256 ^ s.length % 256=c.toNat:=by
      rw [Nat.mul_comm,Nat.mul_add_div hp,Nat.div_eq_of_lt h1,Nat.add_zero,Nat.mod_eq_of_lt h2]
    rw [e,UInt8.ofNat_toNat]
    have:be s.length (c.toNat*256 ^ s.length+num s)=be s.length (num s):=zNW _ (by rw [Nat.mul_comm,Nat.mul_add_mod])
    rw [this,zO0 s]
end Go.Plain
namespace Go.Plain
def JM (s:List UInt8):List UInt8:=s++List.replicate ((64 - s.length % 64) % 64) 0
def za7 (L:Nat) (b:List UInt8):Prop := ∃m,m.length=L∧b=JM (m++tail m)
theorem zeL {m:List UInt8} (h:m.length+4≤64):JM (m++tail m)=m++tail m++List.replicate (60 - m.length) 0:=by
  unfold JM
  rw [List.length_append,Zt]
  congr 2
  omega
theorem za7.length {L:Nat} {b:List UInt8} (h:za7 L b) (hL:L+4≤64):b.length=64:=by
  obtain ⟨m,hm,rfl⟩:=h
  rw [zeL (by omega)]
  simp [Zt]
  omega
theorem za7.whole {L:Nat} {b:List UInt8} (h:za7 L b) (hL:L+4≤64):Whole (b.take (L+4)):=by
  obtain ⟨m,hm,rfl⟩:=h
  rw [zeL (by omega)]
  refine ⟨m,?_⟩
  rw [List.take_append_of_le_length (by simp [Zt];omega),List.take_of_length_le (by simp [Zt];omega)]
theorem za7.rest {L:Nat} {b:List UInt8} (h:za7 L b) (hL:L+4≤64):b.drop (L+4)=List.replicate (60 - L) 0:=by
  obtain ⟨m,hm,rfl⟩:=h
  rw [zeL (by omega),List.drop_append_of_le_length (by simp [Zt];omega),List.drop_eq_nil_of_le (by simp [Zt];omega),hm]
  rfl
structure Turned {α:Type} (k:Nat) (s t:List α):Prop where
  len:t.length=s.length
  out : ∀i,i<k∨k+4≤i→t[i]? = s[i]?
theorem Turned.refl {α:Type} (k:Nat) (s:List α):Turned k s s:=⟨rfl,fun _ _=>rfl⟩
theorem Turned.set {α:Type} {k:Nat} {s t:List α} (h:Turned k s t) {j:Nat} (hj:k≤j∧j<k+4) (v:α):Turned k s (t.set j v):=by
  refine ⟨by rw [List.length_set,h.len],fun i hi => ?_⟩
  rw [List.getElem?_set_ne (by omega)]
  exact h.out i hi
theorem Turned.map {α β:Type} {k:Nat} {s t:List α} (h:Turned k s t) (f:α→β):Turned k (s.map f) (t.map f) :=
  ⟨by rw [List.length_map,List.length_map,h.len],fun i hi=>by rw [List.getElem?_map,List.getElem?_map,h.out i hi]⟩
theorem za7.turned {L:Nat} {s b:List UInt8} (hs:za7 L s) (hb:za7 L b) (hL:L+4≤64) {k:Nat} (h:Turned k s b):b=s:=by
  have e:b.take (L+4)=s.take (L+4):=by
    have h1:=hs.length hL
    have h2:=hb.length hL
    refine z7x k (by rw [List.length_take,List.length_take];omega) (by rw [List.length_take];omega) (hb.whole hL) (hs.whole hL) fun i hi => ?_
    rw [List.getElem?_take,List.getElem?_take,h.out i hi]
  rw [← List.take_append_drop (L+4) b,← List.take_append_drop (L+4) s,e,hs.rest hL,hb.rest hL]
end Go.Plain
namespace Go.Proofs
instance Tryz.bt:Go.AE.BT:=⟨5,153,[(32,"Error",306),(162,"solder/state.check",311),(162,"solder/state.side",181),(163,"solder/state.check",312),(163,"solder/state.side",182),(281,"Error",316),(281,"Unwrap",317)]⟩
def Tryz.tab:Go.AE.Tab:=[
  (1,⟨.sc,1,8,[.nilf],none⟩),
  (2,⟨.sc,1,8,[.int .i64 0],some (.int .i64)⟩),
  (3,⟨.sc,1,8,[.int .i64 0],some (.int .i64)⟩),
  (4,⟨.sc,1,1,[.bool false],some .bool⟩),
  (5,⟨.sc,1,1,[.int .u8 0],some (.int .u8)⟩),
  (7,⟨.struct [(2,0),(3,1),(4,2),(6,3)],4,24,[.int .i64 0,.int .i64 0,.bool false,.int .u8 0],some (.st (.pair (.int .i64) (.pair (.int .i64) (.pair .bool (.int .u8)))))⟩),
  (9,⟨.sc,1,16,[.str []],some .str⟩),
  (12,⟨.sc,1,8,[.int .u64 0],some (.int .u64)⟩),
  (20,⟨.sc,1,16,[.nili],none⟩),
  (21,⟨.sc,1,4,[.int .i32 0],some (.int .i32)⟩),
  (22,⟨.slice 9,1,24,[.nils],some (.list .str)⟩),
  (23,⟨.sc,1,8,[.nilf],none⟩),
  (24,⟨.struct [(3,0),(3,1),(3,2)],3,24,[.int .i64 0,.int .i64 0,.int .i64 0],some (.st (.pair (.int .i64) (.pair (.int .i64) (.int .i64))))⟩),
  (25,⟨.struct [(3,0),(3,1),(3,2)],3,24,[.int .i64 0,.int .i64 0,.int .i64 0],some (.st (.pair (.int .i64) (.pair (.int .i64) (.int .i64))))⟩),
  (26,⟨.struct [(3,0),(3,1),(3,2),(3,3),(25,4)],7,56,[.int .i64 0,.int .i64 0,.int .i64 0,.int .i64 0,.int .i64 0,.int .i64 0,.int .i64 0],some (.st (.pair (.int .i64) (.pair (.int .i64) (.pair (.int .i64) (.pair (.int .i64) (.pair (.int .i64) (.pair (.int .i64) (.int .i64))))))))⟩),
  (27,⟨.struct [(3,0),(3,1),(3,2),(3,3),(25,4)],7,56,[.int .i64 0,.int .i64 0,.int .i64 0,.int .i64 0,.int .i64 0,.int .i64 0,.int .i64 0],some (.st (.pair (.int .i64) (.pair (.int .i64) (.pair (.int .i64) (.pair (.int .i64) (.pair (.int .i64) (.pair (.int .i64) (.int .i64))))))))⟩),
  (28,⟨.slice 64,1,24,[.nils],some (.list (.st (.pair (.int .i64) (.pair (.pair (.int .i64) (.int .i64)) (.pair .str (.pair (.pair (.pair (.int .i64) (.int .i64)) .str) (.pair (.pair (.int .i64) (.int .i64)) .str)))))))⟩),
  (29,⟨.slice 4,1,24,[.nils],some (.list .bool)⟩),
  (30,⟨.struct [(27,0),(28,7),(29,8)],9,104,[.int .i64 0,.int .i64 0,.int .i64 0,.int .i64 0,.int .i64 0,.int .i64 0,.int .i64 0,.nils,.nils],some (.st (.pair (.pair (.int .i64) (.pair (.int .i64) (.pair (.int .i64) (.pair (.int .i64) (.pair (.int .i64) (.pair (.int .i64) (.int .i64))))))) (.pair (.list (.st (.pair (.int .i64) (.pair (.pair (.int .i64) (.int .i64)) (.pair .str (.pair (.pair (.pair (.int .i64) (.int .i64)) .str) (.pair (.pair (.int .i64) (.int .i64)) .str))))))) (.list .bool))))⟩),
  (31,⟨.struct [(27,0),(28,7),(29,8)],9,104,[.int .i64 0,.int .i64 0,.int .i64 0,.int .i64 0,.int .i64 0,.int .i64 0,.int .i64 0,.nils,.nils],some (.st (.pair (.pair (.int .i64) (.pair (.int .i64) (.pair (.int .i64) (.pair (.int .i64) (.pair (.int .i64) (.pair (.int .i64) (.int .i64))))))) (.pair (.list (.st (.pair (.int .i64) (.pair (.pair (.int .i64) (.int .i64)) (.pair .str (.pair (.pair (.pair (.int .i64) (.int .i64)) .str) (.pair (.pair (.int .i64) (.int .i64)) .str))))))) (.list .bool))))⟩),
  (32,⟨.sc,1,8,[.int .i64 0],some (.int .i64)⟩),
  (34,⟨.sc,1,8,[.nilf],none⟩),
  (36,⟨.sc,1,8,[.nilf],none⟩),
  (37,⟨.sc,1,8,[.nilf],none⟩),
  (38,⟨.sc,1,8,[.nilf],none⟩),
  (39,⟨.sc,1,8,[.nilf],none⟩),
  (40,⟨.array 3 3,3,24,[.int .i64 0,.int .i64 0,.int .i64 0],some (.st (.pair (.int .i64) (.pair (.int .i64) (.int .i64))))⟩),
  (41,⟨.array 4 5,4,4,[.int .u8 0,.int .u8 0,.int .u8 0,.int .u8 0],some (.st (.pair (.int .u8) (.pair (.int .u8) (.pair (.int .u8) (.int .u8)))))⟩),
  (42,⟨.sc,1,8,[.nilf],none⟩),
  (43,⟨.sc,1,8,[.int .u64 0],some (.int .u64)⟩),
  (44,⟨.slice 5,1,24,[.nils],some (.list (.int .u8))⟩),
  (45,⟨.sc,1,8,[.nilf],none⟩),
  (46,⟨.sc,1,8,[.nilf],none⟩),
  (47,⟨.ptr 132,1,8,[.nilp],none⟩),
  (48,⟨.sc,1,8,[.nilf],none⟩),
  (49,⟨.sc,1,8,[.nilf],none⟩),
  (50,⟨.sc,1,8,[.nilf],none⟩),
  (52,⟨.sc,1,8,[.nilf],none⟩),
  (53,⟨.sc,1,8,[.nilf],none⟩),
  (54,⟨.ptr 31,1,8,[.nilp],none⟩),
  (55,⟨.sc,1,8,[.nilf],none⟩),
  (56,⟨.slice 3,1,24,[.nils],some (.list (.int .i64))⟩),
  (58,⟨.sc,1,8,[.nilf],none⟩),
  (59,⟨.struct [(3,0),(3,1)],2,16,[.int .i64 0,.int .i64 0],some (.st (.pair (.int .i64) (.int .i64)))⟩),
  (60,⟨.struct [(3,0),(3,1)],2,16,[.int .i64 0,.int .i64 0],some (.st (.pair (.int .i64) (.int .i64)))⟩),
  (61,⟨.struct [(60,0),(9,2)],3,32,[.int .i64 0,.int .i64 0,.str []],some (.st (.pair (.pair (.int .i64) (.int .i64)) .str))⟩),
  (62,⟨.struct [(60,0),(9,2)],3,32,[.int .i64 0,.int .i64 0,.str []],some (.st (.pair (.pair (.int .i64) (.int .i64)) .str))⟩),
  (63,⟨.struct [(3,0),(60,1),(9,3),(62,4),(62,7)],10,104,[.int .i64 0,.int .i64 0,.int .i64 0,.str [],.int .i64 0,.int .i64 0,.str [],.int .i64 0,.int .i64 0,.str []],some (.st (.pair (.int .i64) (.pair (.pair (.int .i64) (.int .i64)) (.pair .str (.pair (.pair (.pair (.int .i64) (.int .i64)) .str) (.pair (.pair (.int .i64) (.int .i64)) .str))))))⟩),
  (64,⟨.struct [(3,0),(60,1),(9,3),(62,4),(62,7)],10,104,[.int .i64 0,.int .i64 0,.int .i64 0,.str [],.int .i64 0,.int .i64 0,.str [],.int .i64 0,.int .i64 0,.str []],some (.st (.pair (.int .i64) (.pair (.pair (.int .i64) (.int .i64)) (.pair .str (.pair (.pair (.pair (.int .i64) (.int .i64)) .str) (.pair (.pair (.int .i64) (.int .i64)) .str))))))⟩),
  (66,⟨.sc,1,8,[.nilf],none⟩),
  (67,⟨.sc,1,8,[.nilf],none⟩),
  (69,⟨.sc,1,8,[.nilf],none⟩),
  (70,⟨.sc,1,8,[.nilf],none⟩),
  (71,⟨.sc,1,8,[.nilf],none⟩),
  (72,⟨.sc,1,8,[.nilf],none⟩),
  (73,⟨.sc,1,8,[.nilf],none⟩),
  (74,⟨.sc,1,8,[.nilf],none⟩),
  (75,⟨.sc,1,8,[.nilf],none⟩),
  (76,⟨.sc,1,8,[.nilf],none⟩),
  (77,⟨.sc,1,8,[.nilf],none⟩),
  (78,⟨.sc,1,8,[.nilf],none⟩),
  (79,⟨.ptr 121,1,8,[.nilp],none⟩),
  (80,⟨.sc,1,8,[.nilf],none⟩),
  (81,⟨.sc,1,8,[.nilf],none⟩),
  (82,⟨.sc,1,8,[.nilf],none⟩),
  (84,⟨.sc,1,8,[.nilf],none⟩),
  (85,⟨.sc,1,8,[.nilf],none⟩),
  (86,⟨.ptr 144,1,8,[.nilp],none⟩),
  (87,⟨.sc,1,8,[.nilf],none⟩),
  (88,⟨.sc,1,8,[.nilf],none⟩),
  (89,⟨.sc,1,8,[.nilf],none⟩),
  (90,⟨.ptr 146,1,8,[.nilp],none⟩),
  (91,⟨.sc,1,8,[.nilf],none⟩),
  (92,⟨.sc,1,8,[.nilf],none⟩),
  (93,⟨.sc,1,8,[.nilf],none⟩),
  (94,⟨.sc,1,8,[.nilf],none⟩),
  (95,⟨.sc,1,8,[.nilf],none⟩),
  (96,⟨.sc,1,8,[.nilf],none⟩),
  (97,⟨.sc,1,8,[.nilf],none⟩),
  (98,⟨.sc,1,8,[.nilf],none⟩),
  (100,⟨.sc,1,8,[.nilf],none⟩),
  (101,⟨.ptr 103,1,8,[.nilp],none⟩),
  (102,⟨.struct [(9,0),(3,1),(32,2)],3,32,[.str [],.int .i64 0,.int .i64 0],some (.st (.pair .str (.pair (.int .i64) (.int .i64))))⟩),
  (103,⟨.struct [(9,0),(3,1),(32,2)],3,32,[.str [],.int .i64 0,.int .i64 0],some (.st (.pair .str (.pair (.int .i64) (.int .i64))))⟩),
  (104,⟨.sc,1,8,[.nilf],none⟩),
  (105,⟨.sc,1,8,[.nilf],none⟩),
  (106,⟨.sc,1,8,[.nilf],none⟩),
  (107,⟨.sc,1,8,[.nilf],none⟩),
  (108,⟨.sc,1,8,[.nilf],none⟩),
  (109,⟨.sc,1,16,[.nili],none⟩),
  (110,⟨.sc,1,16,[.nili],none⟩),
  (111,⟨.sc,1,8,[.nilf],none⟩),
  (112,⟨.sc,1,8,[.nilf],none⟩),
  (113,⟨.sc,1,8,[.nilf],none⟩),
  (114,⟨.struct [(3,0),(62,1),(62,4)],7,72,[.int .i64 0,.int .i64 0,.int .i64 0,.str [],.int .i64 0,.int .i64 0,.str []],some (.st (.pair (.int .i64) (.pair (.pair (.pair (.int .i64) (.int .i64)) .str) (.pair (.pair (.int .i64) (.int .i64)) .str))))⟩),
  (115,⟨.struct [(3,0),(62,1),(62,4)],7,72,[.int .i64 0,.int .i64 0,.int .i64 0,.str [],.int .i64 0,.int .i64 0,.str []],some (.st (.pair (.int .i64) (.pair (.pair (.pair (.int .i64) (.int .i64)) .str) (.pair (.pair (.int .i64) (.int .i64)) .str))))⟩),
  (116,⟨.sc,1,8,[.nilf],none⟩),
  (117,⟨.sc,1,8,[.nilf],none⟩),
  (118,⟨.map 3 9,1,8,[.nilm],none⟩),
  (119,⟨.slice 245,1,24,[.nils],some (.list (.st (.pair (.int .i64) .str)))⟩),
  (120,⟨.struct [(22,0),(118,1),(119,2),(3,3),(56,4),(3,5),(4,6)],7,104,[.nils,.nilm,.nils,.int .i64 0,.nils,.int .i64 0,.bool false],none⟩),
  (121,⟨.struct [(22,0),(118,1),(119,2),(3,3),(56,4),(3,5),(4,6)],7,104,[.nils,.nilm,.nils,.int .i64 0,.nils,.int .i64 0,.bool false],none⟩),
  (122,⟨.struct [(3,0),(3,1),(3,2),(3,3),(3,4),(3,5),(3,6)],7,56,[.int .i64 0,.int .i64 0,.int .i64 0,.int .i64 0,.int .i64 0,.int .i64 0,.int .i64 0],some (.st (.pair (.int .i64) (.pair (.int .i64) (.pair (.int .i64) (.pair (.int .i64) (.pair (.int .i64) (.pair (.int .i64) (.int .i64))))))))⟩),
  (123,⟨.struct [(3,0),(3,1),(3,2),(3,3),(3,4),(3,5),(3,6)],7,56,[.int .i64 0,.int .i64 0,.int .i64 0,.int .i64 0,.int .i64 0,.int .i64 0,.int .i64 0],some (.st (.pair (.int .i64) (.pair (.int .i64) (.pair (.int .i64) (.pair (.int .i64) (.pair (.int .i64) (.pair (.int .i64) (.int .i64))))))))⟩),
  (124,⟨.sc,1,8,[.nilf],none⟩),
  (125,⟨.sc,1,8,[.nilf],none⟩),
  (127,⟨.sc,1,8,[.nilf],none⟩),
  (128,⟨.ptr 181,1,8,[.nilp],none⟩),
  (129,⟨.ptr 214,1,8,[.nilp],none⟩),
  (130,⟨.ptr 220,1,8,[.nilp],none⟩),
  (131,⟨.struct [(128,0),(27,1),(129,8),(130,9),(86,10)],11,88,[.nilp,.int .i64 0,.int .i64 0,.int .i64 0,.int .i64 0,.int .i64 0,.int .i64 0,.int .i64 0,.nilp,.nilp,.nilp],none⟩),
  (132,⟨.struct [(128,0),(27,1),(129,8),(130,9),(86,10)],11,88,[.nilp,.int .i64 0,.int .i64 0,.int .i64 0,.int .i64 0,.int .i64 0,.int .i64 0,.int .i64 0,.nilp,.nilp,.nilp],none⟩),
  (133,⟨.sc,1,8,[.nilf],none⟩),
  (134,⟨.sc,1,8,[.nilf],none⟩),
  (135,⟨.struct [(60,0),(3,2)],3,24,[.int .i64 0,.int .i64 0,.int .i64 0],some (.st (.pair (.pair (.int .i64) (.int .i64)) (.int .i64)))⟩),
  (136,⟨.struct [(60,0),(3,2)],3,24,[.int .i64 0,.int .i64 0,.int .i64 0],some (.st (.pair (.pair (.int .i64) (.int .i64)) (.int .i64)))⟩),
  (138,⟨.sc,1,8,[.nilf],none⟩),
  (139,⟨.sc,1,8,[.nilf],none⟩),
  (140,⟨.sc,1,8,[.nilf],none⟩),
  (142,⟨.sc,1,8,[.nilf],none⟩),
  (143,⟨.struct [(3,0),(44,1)],2,32,[.int .i64 0,.nils],some (.st (.pair (.int .i64) (.list (.int .u8))))⟩),
  (144,⟨.struct [(3,0),(44,1)],2,32,[.int .i64 0,.nils],some (.st (.pair (.int .i64) (.list (.int .u8))))⟩),
  (145,⟨.struct [(9,0),(32,1)],2,24,[.str [],.int .i64 0],some (.st (.pair .str (.int .i64)))⟩),
  (146,⟨.struct [(9,0),(32,1)],2,24,[.str [],.int .i64 0],some (.st (.pair .str (.int .i64)))⟩),
  (147,⟨.sc,1,8,[.nilf],none⟩),
  (148,⟨.sc,1,8,[.int .u64 0],some (.int .u64)⟩),
  (149,⟨.sc,1,8,[.nilf],none⟩),
  (150,⟨.sc,1,8,[.nilf],none⟩),
  (151,⟨.ptr 153,1,8,[.nilp],none⟩),
  (152,⟨.struct [(151,0),(44,1)],2,32,[.nilp,.nils],none⟩),
  (153,⟨.struct [(151,0),(44,1)],2,32,[.nilp,.nils],none⟩),
  (154,⟨.sc,1,8,[.nilf],none⟩),
  (155,⟨.sc,1,16,[.nili],none⟩),
  (156,⟨.sc,1,16,[.nili],none⟩),
  (158,⟨.sc,1,8,[.nilf],none⟩),
  (159,⟨.sc,1,8,[.nilf],none⟩),
  (160,⟨.sc,1,8,[.nilf],none⟩),
  (161,⟨.struct [(64,0)],10,104,[.int .i64 0,.int .i64 0,.int .i64 0,.str [],.int .i64 0,.int .i64 0,.str [],.int .i64 0,.int .i64 0,.str []],some (.st (.pair (.int .i64) (.pair (.pair (.int .i64) (.int .i64)) (.pair .str (.pair (.pair (.pair (.int .i64) (.int .i64)) .str) (.pair (.pair (.int .i64) (.int .i64)) .str))))))⟩),
  (162,⟨.struct [(64,0)],10,104,[.int .i64 0,.int .i64 0,.int .i64 0,.str [],.int .i64 0,.int .i64 0,.str [],.int .i64 0,.int .i64 0,.str []],some (.st (.pair (.int .i64) (.pair (.pair (.int .i64) (.int .i64)) (.pair .str (.pair (.pair (.pair (.int .i64) (.int .i64)) .str) (.pair (.pair (.int .i64) (.int .i64)) .str))))))⟩),
  (163,⟨.struct [(64,0)],10,104,[.int .i64 0,.int .i64 0,.int .i64 0,.str [],.int .i64 0,.int .i64 0,.str [],.int .i64 0,.int .i64 0,.str []],some (.st (.pair (.int .i64) (.pair (.pair (.int .i64) (.int .i64)) (.pair .str (.pair (.pair (.pair (.int .i64) (.int .i64)) .str) (.pair (.pair (.int .i64) (.int .i64)) .str))))))⟩),
  (164,⟨.sc,1,8,[.nilf],none⟩),
  (166,⟨.sc,1,8,[.nilf],none⟩),
  (167,⟨.sc,1,8,[.nilf],none⟩),
  (168,⟨.sc,1,8,[.nilf],none⟩),
  (170,⟨.sc,1,8,[.nilf],none⟩),
  (171,⟨.sc,1,8,[.nilf],none⟩),
  (172,⟨.sc,1,8,[.nilf],none⟩),
  (173,⟨.sc,1,8,[.nilf],none⟩),
  (174,⟨.sc,1,8,[.nilf],none⟩),
  (175,⟨.sc,1,8,[.nilf],none⟩),
  (176,⟨.sc,1,8,[.nilf],none⟩),
  (177,⟨.sc,1,8,[.nilf],none⟩),
  (178,⟨.ptr 247,1,8,[.nilp],none⟩),
  (179,⟨.ptr 267,1,8,[.nilp],none⟩),
  (180,⟨.struct [(79,0),(178,1),(178,2),(3,3),(3,4),(3,5),(3,6),(3,7),(3,8),(4,9),(4,10),(179,11)],12,88,[.nilp,.nilp,.nilp,.int .i64 0,.int .i64 0,.int .i64 0,.int .i64 0,.int .i64 0,.int .i64 0,.bool false,.bool false,.nilp],none⟩),
  (181,⟨.struct [(79,0),(178,1),(178,2),(3,3),(3,4),(3,5),(3,6),(3,7),(3,8),(4,9),(4,10),(179,11)],12,88,[.nilp,.nilp,.nilp,.int .i64 0,.int .i64 0,.int .i64 0,.int .i64 0,.int .i64 0,.int .i64 0,.bool false,.bool false,.nilp],none⟩),
  (182,⟨.sc,1,8,[.nilf],none⟩),
  (183,⟨.array 2 136,6,48,[.int .i64 0,.int .i64 0,.int .i64 0,.int .i64 0,.int .i64 0,.int .i64 0],some (.st (.pair (.pair (.pair (.int .i64) (.int .i64)) (.int .i64)) (.pair (.pair (.int .i64) (.int .i64)) (.int .i64))))⟩),
  (185,⟨.sc,1,8,[.nilf],none⟩),
  (187,⟨.sc,1,8,[.nilf],none⟩),
  (188,⟨.sc,1,8,[.nilf],none⟩),
  (190,⟨.sc,1,8,[.nilf],none⟩),
  (191,⟨.ptr 233,1,8,[.nilp],none⟩),
  (192,⟨.sc,1,8,[.nilf],none⟩),
  (193,⟨.sc,1,8,[.nilf],none⟩),
  (194,⟨.sc,1,8,[.nilf],none⟩),
  (195,⟨.sc,1,8,[.nilf],none⟩),
  (196,⟨.ptr 5,1,8,[.nilp],none⟩),
  (197,⟨.sc,1,8,[.nilf],none⟩),
  (198,⟨.sc,1,4,[.int .u32 0],some (.int .u32)⟩),
  (200,⟨.sc,1,8,[.nilf],none⟩),
  (202,⟨.sc,1,8,[.nilf],none⟩),
  (203,⟨.sc,1,8,[.nilf],none⟩),
  (204,⟨.sc,1,8,[.nilf],none⟩),
  (205,⟨.sc,1,8,[.nilf],none⟩),
  (206,⟨.struct [(3,0),(3,1),(3,2)],3,24,[.int .i64 0,.int .i64 0,.int .i64 0],some (.st (.pair (.int .i64) (.pair (.int .i64) (.int .i64))))⟩),
  (207,⟨.struct [(3,0),(3,1),(3,2)],3,24,[.int .i64 0,.int .i64 0,.int .i64 0],some (.st (.pair (.int .i64) (.pair (.int .i64) (.int .i64))))⟩),
  (208,⟨.sc,1,8,[.nilf],none⟩),
  (209,⟨.slice 208,1,24,[.nils],none⟩),
  (210,⟨.sc,1,8,[.nilf],none⟩),
  (211,⟨.sc,1,8,[.nilf],none⟩),
  (212,⟨.slice 105,1,24,[.nils],none⟩),
  (213,⟨.struct [(128,0),(25,1)],4,32,[.nilp,.int .i64 0,.int .i64 0,.int .i64 0],none⟩),
  (214,⟨.struct [(128,0),(25,1)],4,32,[.nilp,.int .i64 0,.int .i64 0,.int .i64 0],none⟩),
  (215,⟨.sc,1,8,[.nilf],none⟩),
  (217,⟨.sc,1,8,[.nilf],none⟩),
  (218,⟨.sc,1,8,[.nilf],none⟩),
  (219,⟨.struct [(128,0),(25,1)],4,32,[.nilp,.int .i64 0,.int .i64 0,.int .i64 0],none⟩),
  (220,⟨.struct [(128,0),(25,1)],4,32,[.nilp,.int .i64 0,.int .i64 0,.int .i64 0],none⟩),
  (221,⟨.sc,1,8,[.nilf],none⟩),
  (222,⟨.sc,1,8,[.nilf],none⟩),
  (224,⟨.sc,1,8,[.nilf],none⟩),
  (226,⟨.sc,1,8,[.nilf],none⟩),
  (227,⟨.sc,1,8,[.nilf],none⟩),
  (229,⟨.sc,1,8,[.nilf],none⟩),
  (230,⟨.sc,1,8,[.nilf],none⟩),
  (231,⟨.sc,1,8,[.nilf],none⟩),
  (232,⟨.struct [(198,0)],1,4,[.int .u32 0],some (.st (.int .u32))⟩),
  (233,⟨.struct [(198,0)],1,4,[.int .u32 0],some (.st (.int .u32))⟩),
  (234,⟨.sc,1,8,[.nilf],none⟩),
  (235,⟨.sc,1,8,[.nilf],none⟩),
  (237,⟨.sc,1,8,[.nilf],none⟩),
  (238,⟨.sc,1,8,[.nilf],none⟩),
  (240,⟨.sc,1,8,[.nilf],none⟩),
  (241,⟨.sc,1,8,[.nilf],none⟩),
  (243,⟨.sc,1,8,[.nilf],none⟩),
  (244,⟨.struct [(3,0),(9,1)],2,24,[.int .i64 0,.str []],some (.st (.pair (.int .i64) .str))⟩),
  (245,⟨.struct [(3,0),(9,1)],2,24,[.int .i64 0,.str []],some (.st (.pair (.int .i64) .str))⟩),
  (246,⟨.struct [(79,0),(3,1),(3,2)],3,24,[.nilp,.int .i64 0,.int .i64 0],none⟩),
  (247,⟨.struct [(79,0),(3,1),(3,2)],3,24,[.nilp,.int .i64 0,.int .i64 0],none⟩),
  (248,⟨.sc,1,8,[.nilf],none⟩),
  (249,⟨.ptr 32,1,8,[.nilp],none⟩),
  (250,⟨.sc,1,8,[.nilf],none⟩),
  (251,⟨.sc,1,8,[.nilf],none⟩),
  (252,⟨.sc,1,8,[.nilf],none⟩),
  (254,⟨.sc,1,8,[.nilf],none⟩),
  (255,⟨.slice 258,1,24,[.nils],some (.list (.st (.pair (.int .i64) (.pair (.int .i64) (.list (.st (.pair (.int .i64) .str)))))))⟩),
  (256,⟨.sc,1,8,[.nilf],none⟩),
  (257,⟨.struct [(3,0),(3,1),(119,2)],3,40,[.int .i64 0,.int .i64 0,.nils],some (.st (.pair (.int .i64) (.pair (.int .i64) (.list (.st (.pair (.int .i64) .str))))))⟩),
  (258,⟨.struct [(3,0),(3,1),(119,2)],3,40,[.int .i64 0,.int .i64 0,.nils],some (.st (.pair (.int .i64) (.pair (.int .i64) (.list (.st (.pair (.int .i64) .str))))))⟩),
  (259,⟨.sc,1,8,[.nilf],none⟩),
  (260,⟨.sc,1,8,[.nilf],none⟩),
  (261,⟨.sc,1,8,[.nilf],none⟩),
  (262,⟨.sc,1,8,[.nilf],none⟩),
  (263,⟨.sc,1,8,[.nilf],none⟩),
  (264,⟨.sc,1,8,[.nilf],none⟩),
  (265,⟨.map 3 9,1,8,[.nilm],none⟩),
  (266,⟨.struct [(265,0),(265,1)],2,16,[.nilm,.nilm],none⟩),
  (267,⟨.struct [(265,0),(265,1)],2,16,[.nilm,.nilm],none⟩),
  (268,⟨.sc,1,8,[.nilf],none⟩),
  (269,⟨.sc,1,8,[.nilf],none⟩),
  (270,⟨.sc,1,8,[.int .u64 0],some (.int .u64)⟩),
  (273,⟨.sc,1,8,[.nilf],none⟩),
  (275,⟨.sc,1,16,[.nili],none⟩),
  (276,⟨.sc,1,8,[.nilf],none⟩),
  (278,⟨.sc,1,8,[.nilf],none⟩),
  (279,⟨.sc,1,8,[.nilf],none⟩),
  (280,⟨.sc,1,8,[.nilf],none⟩),
  (281,⟨.ptr 283,1,8,[.nilp],none⟩),
  (282,⟨.struct [(9,0),(156,1)],2,32,[.str [],.nili],none⟩),
  (283,⟨.struct [(9,0),(156,1)],2,32,[.str [],.nili],none⟩),
  (284,⟨.sc,1,8,[.nilf],none⟩),
  (285,⟨.ptr 287,1,8,[.nilp],none⟩),
  (286,⟨.struct [(178,0),(3,1),(3,2),(3,3),(259,4),(4,5)],6,48,[.nilp,.int .i64 0,.int .i64 0,.int .i64 0,.nilf,.bool false],none⟩),
  (287,⟨.struct [(178,0),(3,1),(3,2),(3,3),(259,4),(4,5)],6,48,[.nilp,.int .i64 0,.int .i64 0,.int .i64 0,.nilf,.bool false],none⟩),
  (288,⟨.sc,1,8,[.nilf],none⟩),
  (289,⟨.sc,1,8,[.nilf],none⟩),
  (290,⟨.sc,1,8,[.nilf],none⟩),
  (291,⟨.sc,1,8,[.nilf],none⟩),
  (292,⟨.array 256 4,256,256,[.bool false,.bool false,.bool false,.bool false,.bool false,.bool false,.bool false,.bool false,.bool false,.bool false,.bool false,.bool false,.bool false,.bool false,.bool false,.bool false,.bool false,.bool false,.bool false,.bool false,.bool false,.bool false,.bool false,.bool false,.bool false,.bool false,.bool false,.bool false,.bool false,.bool false,.bool false,.bool false,.bool false,.bool false,.bool false,.bool false,.bool false,.bool false,.bool false,.bool false,.bool false,.bool false,.bool false,.bool false,.bool false,.bool false,.bool false,.bool false,.bool false,.bool false,.bool false,.bool false,.bool false,.bool false,.bool false,.bool false,.bool false,.bool false,.bool false,.bool false,.bool false,.bool false,.bool false,.bool false,.bool false,.bool false,.bool false,.bool false,.bool false,.bool false,.bool false,.bool false,.bool false,.bool false,.bool false,.bool false,.bool false,.bool false,.bool false,.bool false,.bool false,.bool false,.bool false,.bool false,.bool false,.bool false,.bool false,.bool false,.bool false,.bool false,.bool false,.bool false,.bool false,.bool false,.bool false,.bool false,.bool false,.bool false,.bool false,.bool false,.bool false,.bool false,.bool false,.bool false,.bool false,.bool false,.bool false,.bool false,.bool false,.bool false,.bool false,.bool false,.bool false,.bool false,.bool false,.bool false,.bool false,.bool false,.bool false,.bool false,.bool false,.bool false,.bool false,.bool false,.bool false,.bool false,.bool false,.bool false,.bool false,.bool false,.bool false,.bool false,.bool false,.bool false,.bool false,.bool false,.bool false,.bool false,.bool false,.bool false,.bool false,.bool false,.bool false,.bool false,.bool false,.bool false,.bool false,.bool false,.bool false,.bool false,.bool false,.bool false,.bool false,.bool false,.bool false,.bool false,.bool false,.bool false,.bool false,.bool false,.bool false,.bool false,.bool false,.bool false,.bool false,.bool false,.bool false,.bool false,.bool false,.bool false,.bool false,.bool false,.bool false,.bool false,.bool false,.bool false,.bool false,.bool false,.bool false,.bool false,.bool false,.bool false,.bool false,.bool false,.bool false,.bool false,.bool false,.bool false,.bool false,.bool false,.bool false,.bool false,.bool false,.bool false,.bool false,.bool false,.bool false,.bool false,.bool false,.bool false,.bool false,.bool false,.bool false,.bool false,.bool false,.bool false,.bool false,.bool false,.bool false,.bool false,.bool false,.bool false,.bool false,.bool false,.bool false,.bool false,.bool false,.bool false,.bool false,.bool false,.bool false,.bool false,.bool false,.bool false,.bool false,.bool false,.bool false,.bool false,.bool false,.bool false,.bool false,.bool false,.bool false,.bool false,.bool false,.bool false,.bool false,.bool false,.bool false,.bool false,.bool false,.bool false,.bool false,.bool false,.bool false,.bool false,.bool false,.bool false,.bool false,.bool false,.bool false,.bool false,.bool false,.bool false,.bool false,.bool false],none⟩),
  (293,⟨.array 256 4,256,256,[.bool false,.bool false,.bool false,.bool false,.bool false,.bool false,.bool false,.bool false,.bool false,.bool false,.bool false,.bool false,.bool false,.bool false,.bool false,.bool false,.bool false,.bool false,.bool false,.bool false,.bool false,.bool false,.bool false,.bool false,.bool false,.bool false,.bool false,.bool false,.bool false,.bool false,.bool false,.bool false,.bool false,.bool false,.bool false,.bool false,.bool false,.bool false,.bool false,.bool false,.bool false,.bool false,.bool false,.bool false,.bool false,.bool false,.bool false,.bool false,.bool false,.bool false,.bool false,.bool false,.bool false,.bool false,.bool false,.bool false,.bool false,.bool false,.bool false,.bool false,.bool false,.bool false,.bool false,.bool false,.bool false,.bool false,.bool false,.bool false,.bool false,.bool false,.bool false,.bool false,.bool false,.bool false,.bool false,.bool false,.bool false,.bool false,.bool false,.bool false,.bool false,.bool false,.bool false,.bool false,.bool false,.bool false,.bool false,.bool false,.bool false,.bool false,.bool false,.bool false,.bool false,.bool false,.bool false,.bool false,.bool false,.bool false,.bool false,.bool false,.bool false,.bool false,.bool false,.bool false,.bool false,.bool false,.bool false,.bool false,.bool false,.bool false,.bool false,.bool false,.bool false,.bool false,.bool false,.bool false,.bool false,.bool false,.bool false,.bool false,.bool false,.bool false,.bool false,.bool false,.bool false,.bool false,.bool false,.bool false,.bool false,.bool false,.bool false,.bool false,.bool false,.bool false,.bool false,.bool false,.bool false,.bool false,.bool false,.bool false,.bool false,.bool false,.bool false,.bool false,.bool false,.bool false,.bool false,.bool false,.bool false,.bool false,.bool false,.bool false,.bool false,.bool false,.bool false,.bool false,.bool false,.bool false,.bool false,.bool false,.bool false,.bool false,.bool false,.bool false,.bool false,.bool false,.bool false,.bool false,.bool false,.bool false,.bool false,.bool false,.bool false,.bool false,.bool false,.bool false,.bool false,.bool false,.bool false,.bool false,.bool false,.bool false,.bool false,.bool false,.bool false,.bool false,.bool false,.bool false,.bool false,.bool false,.bool false,.bool false,.bool false,.bool false,.bool false,.bool false,.bool false,.bool false,.bool false,.bool false,.bool false,.bool false,.bool false,.bool false,.bool false,.bool false,.bool false,.bool false,.bool false,.bool false,.bool false,.bool false,.bool false,.bool false,.bool false,.bool false,.bool false,.bool false,.bool false,.bool false,.bool false,.bool false,.bool false,.bool false,.bool false,.bool false,.bool false,.bool false,.bool false,.bool false,.bool false,.bool false,.bool false,.bool false,.bool false,.bool false,.bool false,.bool false,.bool false,.bool false,.bool false,.bool false,.bool false,.bool false,.bool false,.bool false,.bool false,.bool false,.bool false,.bool false,.bool false,.bool false,.bool false,.bool false,.bool false,.bool false],none⟩),
  (295,⟨.sc,1,8,[.nilf],none⟩),
  (296,⟨.sc,1,8,[.nilf],none⟩),
  (297,⟨.ptr 293,1,8,[.nilp],none⟩),
  (300,⟨.ptr 371,1,8,[.nilp],none⟩),
  (301,⟨.sc,1,8,[.nilf],none⟩),
  (302,⟨.sc,1,8,[.nilf],none⟩),
  (303,⟨.sc,1,8,[.nilf],none⟩),
  (304,⟨.sc,1,16,[.nili],none⟩),
  (306,⟨.sc,1,8,[.nilf],none⟩),
  (307,⟨.sc,1,16,[.nili],none⟩),
  (308,⟨.sc,1,16,[.nili],none⟩),
  (309,⟨.slice 156,1,24,[.nils],none⟩),
  (310,⟨.sc,1,8,[.nilf],none⟩),
  (311,⟨.sc,1,8,[.nilf],none⟩),
  (312,⟨.sc,1,8,[.nilf],none⟩),
  (313,⟨.sc,1,8,[.nilf],none⟩),
  (314,⟨.sc,1,8,[.nilf],none⟩),
  (315,⟨.sc,1,8,[.nilf],none⟩),
  (316,⟨.sc,1,8,[.nilf],none⟩),
  (318,⟨.sc,1,8,[.nilf],none⟩),
  (319,⟨.sc,1,8,[.nilf],none⟩),
  (320,⟨.sc,1,8,[.nilf],none⟩),
  (321,⟨.sc,1,8,[.nilf],none⟩),
  (323,⟨.sc,1,8,[.nilf],none⟩),
  (324,⟨.sc,1,8,[.nilf],none⟩),
  (325,⟨.sc,1,8,[.nilf],none⟩),
  (326,⟨.sc,1,8,[.nilf],none⟩),
  (327,⟨.sc,1,8,[.nilf],none⟩),
  (328,⟨.sc,1,8,[.nilf],none⟩),
  (329,⟨.sc,1,8,[.nilf],none⟩),
  (330,⟨.sc,1,8,[.int .i64 0],some (.int .i64)⟩),
  (332,⟨.sc,1,8,[.nilf],none⟩),
  (333,⟨.sc,1,8,[.nilf],none⟩),
  (334,⟨.sc,1,8,[.nilf],none⟩),
  (336,⟨.sc,1,8,[.nilf],none⟩),
  (337,⟨.sc,1,8,[.nilf],none⟩),
  (338,⟨.sc,1,8,[.nilf],none⟩),
  (339,⟨.sc,1,8,[.nilf],none⟩),
  (340,⟨.array 256 5,256,256,[.int .u8 0,.int .u8 0,.int .u8 0,.int .u8 0,.int .u8 0,.int .u8 0,.int .u8 0,.int .u8 0,.int .u8 0,.int .u8 0,.int .u8 0,.int .u8 0,.int .u8 0,.int .u8 0,.int .u8 0,.int .u8 0,.int .u8 0,.int .u8 0,.int .u8 0,.int .u8 0,.int .u8 0,.int .u8 0,.int .u8 0,.int .u8 0,.int .u8 0,.int .u8 0,.int .u8 0,.int .u8 0,.int .u8 0,.int .u8 0,.int .u8 0,.int .u8 0,.int .u8 0,.int .u8 0,.int .u8 0,.int .u8 0,.int .u8 0,.int .u8 0,.int .u8 0,.int .u8 0,.int .u8 0,.int .u8 0,.int .u8 0,.int .u8 0,.int .u8 0,.int .u8 0,.int .u8 0,.int .u8 0,.int .u8 0,.int .u8 0,.int .u8 0,.int .u8 0,.int .u8 0,.int .u8 0,.int .u8 0,.int .u8 0,.int .u8 0,.int .u8 0,.int .u8 0,.int .u8 0,.int .u8 0,.int .u8 0,.int .u8 0,.int .u8 0,.int .u8 0,.int .u8 0,.int .u8 0,.int .u8 0,.int .u8 0,.int .u8 0,.int .u8 0,.int .u8 0,.int .u8 0,.int .u8 0,.int .u8 0,.int .u8 0,.int .u8 0,.int .u8 0,.int .u8 0,.int .u8 0,.int .u8 0,.int .u8 0,.int .u8 0,.int .u8 0,.int .u8 0,.int .u8 0,.int .u8 0,.int .u8 0,.int .u8 0,.int .u8 0,.int .u8 0,.int .u8 0,.int .u8 0,.int .u8 0,.int .u8 0,.int .u8 0,.int .u8 0,.int .u8 0,.int .u8 0,.int .u8 0,.int .u8 0,.int .u8 0,.int .u8 0,.int .u8 0,.int .u8 0,.int .u8 0,.int .u8 0,.int .u8 0,.int .u8 0,.int .u8 0,.int .u8 0,.int .u8 0,.int .u8 0,.int .u8 0,.int .u8 0,.int .u8 0,.int .u8 0,.int .u8 0,.int .u8 0,.int .u8 0,.int .u8 0,.int .u8 0,.int .u8 0,.int .u8 0,.int .u8 0,.int .u8 0,.int .u8 0,.int .u8 0,.int .u8 0,.int .u8 0,.int .u8 0,.int .u8 0,.int .u8 0,.int .u8 0,.int .u8 0,.int .u8 0,.int .u8 0,.int .u8 0,.int .u8 0,.int .u8 0,.int .u8 0,.int .u8 0,.int .u8 0,.int .u8 0,.int .u8 0,.int .u8 0,.int .u8 0,.int .u8 0,.int .u8 0,.int .u8 0,.int .u8 0,.int .u8 0,.int .u8 0,.int .u8 0,.int .u8 0,.int .u8 0,.int .u8 0,.int .u8 0,.int .u8 0,.int .u8 0,.int .u8 0,.int .u8 0,.int .u8 0,.int .u8 0,.int .u8 0,.int .u8 0,.int .u8 0,.int .u8 0,.int .u8 0,.int .u8 0,.int .u8 0,.int .u8 0,.int .u8 0,.int .u8 0,.int .u8 0,.int .u8 0,.int .u8 0,.int .u8 0,.int .u8 0,.int .u8 0,.int .u8 0,.int .u8 0,.int .u8 0,.int .u8 0,.int .u8 0,.int .u8 0,.int .u8 0,.int .u8 0,.int .u8 0,.int .u8 0,.int .u8 0,.int .u8 0,.int .u8 0,.int .u8 0,.int .u8 0,.int .u8 0,.int .u8 0,.int .u8 0,.int .u8 0,.int .u8 0,.int .u8 0,.int .u8 0,.int .u8 0,.int .u8 0,.int .u8 0,.int .u8 0,.int .u8 0,.int .u8 0,.int .u8 0,.int .u8 0,.int .u8 0,.int .u8 0,.int .u8 0,.int .u8 0,.int .u8 0,.int .u8 0,.int .u8 0,.int .u8 0,.int .u8 0,.int .u8 0,.int .u8 0,.int .u8 0,.int .u8 0,.int .u8 0,.int .u8 0,.int .u8 0,.int .u8 0,.int .u8 0,.int .u8 0,.int .u8 0,.int .u8 0,.int .u8 0,.int .u8 0,.int .u8 0,.int .u8 0,.int .u8 0,.int .u8 0,.int .u8 0,.int .u8 0,.int .u8 0,.int .u8 0,.int .u8 0,.int .u8 0,.int .u8 0,.int .u8 0,.int .u8 0,.int .u8 0,.int .u8 0,.int .u8 0,.int .u8 0,.int .u8 0,.int .u8 0,.int .u8 0,.int .u8 0,.int .u8 0,.int .u8 0],none⟩),
  (341,⟨.struct [(5,0),(5,1)],2,2,[.int .u8 0,.int .u8 0],some (.st (.pair (.int .u8) (.int .u8)))⟩),
  (342,⟨.struct [(5,0),(5,1)],2,2,[.int .u8 0,.int .u8 0],some (.st (.pair (.int .u8) (.int .u8)))⟩),
  (343,⟨.array 16 342,32,32,[.int .u8 0,.int .u8 0,.int .u8 0,.int .u8 0,.int .u8 0,.int .u8 0,.int .u8 0,.int .u8 0,.int .u8 0,.int .u8 0,.int .u8 0,.int .u8 0,.int .u8 0,.int .u8 0,.int .u8 0,.int .u8 0,.int .u8 0,.int .u8 0,.int .u8 0,.int .u8 0,.int .u8 0,.int .u8 0,.int .u8 0,.int .u8 0,.int .u8 0,.int .u8 0,.int .u8 0,.int .u8 0,.int .u8 0,.int .u8 0,.int .u8 0,.int .u8 0],some (.st (.pair (.pair (.int .u8) (.int .u8)) (.pair (.pair (.int .u8) (.int .u8)) (.pair (.pair (.int .u8) (.int .u8)) (.pair (.pair (.int .u8) (.int .u8)) (.pair (.pair (.int .u8) (.int .u8)) (.pair (.pair (.int .u8) (.int .u8)) (.pair (.pair (.int .u8) (.int .u8)) (.pair (.pair (.int .u8) (.int .u8)) (.pair (.pair (.int .u8) (.int .u8)) (.pair (.pair (.int .u8) (.int .u8)) (.pair (.pair (.int .u8) (.int .u8)) (.pair (.pair (.int .u8) (.int .u8)) (.pair (.pair (.int .u8) (.int .u8)) (.pair (.pair (.int .u8) (.int .u8)) (.pair (.pair (.int .u8) (.int .u8)) (.pair (.int .u8) (.int .u8))))))))))))))))))⟩),
  (344,⟨.sc,1,8,[.nilf],none⟩),
  (345,⟨.sc,1,8,[.nilf],none⟩),
  (346,⟨.sc,1,8,[.nilf],none⟩),
  (347,⟨.sc,1,8,[.int .u64 0],some (.int .u64)⟩),
  (348,⟨.sc,1,8,[.nilf],none⟩),
  (349,⟨.sc,1,8,[.nilf],none⟩),
  (350,⟨.sc,1,8,[.nilf],none⟩),
  (351,⟨.ptr 3,1,8,[.nilp],none⟩),
  (352,⟨.sc,1,8,[.nilf],none⟩),
  (353,⟨.ptr 347,1,8,[.nilp],none⟩),
  (355,⟨.sc,1,8,[.nilf],none⟩),
  (363,⟨.sc,1,8,[.nilf],none⟩),
  (368,⟨.sc,1,8,[.nilf],none⟩),
  (369,⟨.sc,1,8,[.nilf],none⟩),
  (372,⟨.ptr 376,1,8,[.nilp],none⟩),
  (373,⟨.sc,1,8,[.nilf],none⟩),
  (374,⟨.sc,1,2,[.int .u16 0],some (.int .u16)⟩),
  (377,⟨.slice 380,1,24,[.nils],some (.list (.st (.pair (.int .i32) (.pair (.int .i32) (.pair (.int .i32) (.int .i32))))))⟩),
  (381,⟨.ptr 156,1,8,[.nilp],none⟩)]
end Go.Proofs
namespace Go.Proofs.R9
open Go Go.AE
theorem tabOk:zN Tryz.prog Tryz.tab:=zgC (by kernel_rfl)
theorem mixed:Tryz.prog.follows .mixedOrders=true:=Checked.mixed Tryz.checked
end Go.Proofs.R9
namespace Go.Proofs
open Go.Shelf Go.Sort Go.RowKit
def Tryz.lays189_ren:Go.Shelf.Ren:=⟨fun | 189=>241 | 125=>257 | 257=>256 | 128=>273 | 129=>274 | 294=>264 | 295=>265 | 296=>266 | 297=>267 | 298=>268 | 299=>269 | 216=>270 | 300=>271 | 301=>272 | 328=>280 | 329=>281 | 330=>282 | 331=>283 | 332=>284 | 215=>285 | 343=>287 | n=>n,fun | 28=>56 | 3=>3 | 46=>148 | 0=>0 | 51=>198 | 53=>43 | 4=>4 | 183=>331 | 182=>330 | 131=>335 | 5=>5 | 9=>9 | 218=>347 | 222=>351 | 228=>353 | 229=>354 | n=>n,fun | n=>n⟩
theorem Tryz.lays189:Go.Proofs.Lays.n189 Tryz.prog Tryz.lays189_ren:={
  mixed:=by kernel_rfl
  f125:=Tryz.func257.trans (congrArg some (by kernel_rfl))
  f128:=Tryz.func273.trans (congrArg some (by kernel_rfl))
  f129:=Tryz.func274.trans (congrArg some (by kernel_rfl))
  f189:=Tryz.func241.trans (congrArg some (by kernel_rfl))
  f215:=Tryz.func285.trans (congrArg some (by kernel_rfl))
  f216:=Tryz.func270.trans (congrArg some (by kernel_rfl))
  f257:=Tryz.func256.trans (congrArg some (by kernel_rfl))
  f294:=Tryz.func264.trans (congrArg some (by kernel_rfl))
  f295:=Tryz.func265.trans (congrArg some (by kernel_rfl))
  f296:=Tryz.func266.trans (congrArg some (by kernel_rfl))
  f297:=Tryz.func267.trans (congrArg some (by kernel_rfl))
  f298:=Tryz.func268.trans (congrArg some (by kernel_rfl))
  f299:=Tryz.func269.trans (congrArg some (by kernel_rfl))
  f300:=Tryz.func271.trans (congrArg some (by kernel_rfl))
  f301:=Tryz.func272.trans (congrArg some (by kernel_rfl))
  f328:=Tryz.func280.trans (congrArg some (by kernel_rfl))
  f329:=Tryz.func281.trans (congrArg some (by kernel_rfl))
  f330:=Tryz.func282.trans (congrArg some (by kernel_rfl))
  f331:=Tryz.func283.trans (congrArg some (by kernel_rfl))
  f332:=Tryz.func284.trans (congrArg some (by kernel_rfl))
  f343:=Tryz.func287.trans (congrArg some (by kernel_rfl))
  t0:=Tryz.underlying0
  a0:=Tryz.isAgg0
  z0:=Tryz.sizeOf0
  v0:=Tryz.zeroValue0
  t3:=Tryz.underlying3
  a3:=Tryz.isAgg3
  z3:=Tryz.sizeOf3
  v3:=Tryz.zeroValue3
  t4:=Tryz.underlying4
  a4:=Tryz.isAgg4
  z4:=Tryz.sizeOf4
  v4:=Tryz.zeroValue4
  t5:=Tryz.underlying5
  a5:=Tryz.isAgg5
  z5:=Tryz.sizeOf5
  v5:=Tryz.zeroValue5
  t9:=Tryz.underlying9
  a9:=Tryz.isAgg9
  z9:=Tryz.sizeOf9
  v9:=Tryz.zeroValue9
  t28:=Tryz.underlying56
  a28:=Tryz.isAgg56
  z28:=Tryz.sizeOf56
  v28:=Tryz.zeroValue56
  t46:=Tryz.underlying148
  a46:=Tryz.isAgg148
  z46:=Tryz.sizeOf148
  v46:=Tryz.zeroValue148
  t51:=Tryz.underlying198
  a51:=Tryz.isAgg198
  z51:=Tryz.sizeOf198
  v51:=Tryz.zeroValue198
  t53:=Tryz.underlying43
  a53:=Tryz.isAgg43
  z53:=Tryz.sizeOf43
  v53:=Tryz.zeroValue43
  t131:=Tryz.underlying335
  a131:=Tryz.isAgg335
  z131:=Tryz.sizeOf335
  v131:=Tryz.zeroValue335
  t182:=Tryz.underlying330
  a182:=Tryz.isAgg330
  z182:=Tryz.sizeOf330
  v182:=Tryz.zeroValue330
  t183:=Tryz.underlying331
  a183:=Tryz.isAgg331
  z183:=Tryz.sizeOf331
  v183:=Tryz.zeroValue331
  t218:=Tryz.underlying347
  a218:=Tryz.isAgg347
  z218:=Tryz.sizeOf347
  v218:=Tryz.zeroValue347
  t222:=Tryz.underlying351
  a222:=Tryz.isAgg351
  z222:=Tryz.sizeOf351
  v222:=Tryz.zeroValue351
  t228:=Tryz.underlying353
  a228:=Tryz.isAgg353
  z228:=Tryz.sizeOf353
  v228:=Tryz.zeroValue353
  t229:=Tryz.underlying354
  a229:=Tryz.isAgg354
  z229:=Tryz.sizeOf354
  v229:=Tryz.zeroValue354 }
theorem Tryz.slices_Sort_int (blk off cap:Nat) (zs:List Int) (w:World) (hH:Holds (Value.int .i64) w blk off zs.toArray) (hblk:blk<w.heap.size) (hsz:zs.length<4611686018427387904) :
    Calls Tryz.prog 241 #[.slice (some ⟨blk,off,none⟩) zs.length cap] w fun e w' =>
      e = .returned (.tuple #[]) ∧ ∃n os,w'=grow (putRow (Value.int .i64) (Sort.ahead w n) blk off (zs.mergeSort fun x y=>decide (x≤y)).toArray) os:=Any.slices_Sort_int Tryz.lays189 blk off cap zs w hH hblk hsz
open Go.RowKit Go.Lib in
def Tryz.lays105_ren:Go.Shelf.Ren:=⟨fun | 105=>75 | 212=>108 | 99=>109 | 165=>99 | 166=>100 | 170=>110 | 169=>101 | 263=>147 | 264=>148 | 206=>149 | 240=>144 | 241=>145 | 276=>183 | 277=>184 | n=>n,fun | 9=>9 | 3=>3 | 4=>4 | 20=>20 | 0=>0 | 46=>148 | 109=>165 | 5=>5 | 72=>153 | 76=>157 | 51=>198 | 146=>199 | 53=>43 | 148=>201 | 70=>151 | 37=>44 | 75=>156 | 127=>196 | 164=>236 | 80=>134 | n=>n,fun | n=>n⟩
theorem Tryz.lays105:Go.Proofs.Lays.n105 Tryz.prog Tryz.lays105_ren:={
  mixed:=by kernel_rfl
  f99:=Tryz.func109.trans (congrArg some (by kernel_rfl))
  f105:=Tryz.func75.trans (congrArg some (by kernel_rfl))
  f165:=Tryz.func99.trans (congrArg some (by kernel_rfl))
  f166:=Tryz.func100.trans (congrArg some (by kernel_rfl))
  f169:=Tryz.func101.trans (congrArg some (by kernel_rfl))
  f170:=Tryz.func110.trans (congrArg some (by kernel_rfl))
  f206:=Tryz.func149.trans (congrArg some (by kernel_rfl))
  f212:=Tryz.func108.trans (congrArg some (by kernel_rfl))
  f240:=Tryz.func144.trans (congrArg some (by kernel_rfl))
  f241:=Tryz.func145.trans (congrArg some (by kernel_rfl))
  f263:=Tryz.func147.trans (congrArg some (by kernel_rfl))
  f264:=Tryz.func148.trans (congrArg some (by kernel_rfl))
  f276:=Tryz.func183.trans (congrArg some (by kernel_rfl))
  f277:=Tryz.func184.trans (congrArg some (by kernel_rfl))
  t0:=Tryz.underlying0
  a0:=Tryz.isAgg0
  z0:=Tryz.sizeOf0
  v0:=Tryz.zeroValue0
  t3:=Tryz.underlying3
  a3:=Tryz.isAgg3
  z3:=Tryz.sizeOf3
  v3:=Tryz.zeroValue3
  t4:=Tryz.underlying4
  a4:=Tryz.isAgg4
  z4:=Tryz.sizeOf4
  v4:=Tryz.zeroValue4
  t5:=Tryz.underlying5
  a5:=Tryz.isAgg5
  z5:=Tryz.sizeOf5
  v5:=Tryz.zeroValue5
  t9:=Tryz.underlying9
  a9:=Tryz.isAgg9
  z9:=Tryz.sizeOf9
  v9:=Tryz.zeroValue9
  t20:=Tryz.underlying20
  a20:=Tryz.isAgg20
  z20:=Tryz.sizeOf20
  v20:=Tryz.zeroValue20
  t37:=Tryz.underlying44
  a37:=Tryz.isAgg44
  z37:=Tryz.sizeOf44
  v37:=Tryz.zeroValue44
  t46:=Tryz.underlying148
  a46:=Tryz.isAgg148
  z46:=Tryz.sizeOf148
  v46:=Tryz.zeroValue148
  t51:=Tryz.underlying198
  a51:=Tryz.isAgg198
  z51:=Tryz.sizeOf198
  v51:=Tryz.zeroValue198
  t53:=Tryz.underlying43
  a53:=Tryz.isAgg43
  z53:=Tryz.sizeOf43
  v53:=Tryz.zeroValue43
  t70:=Tryz.underlying151
  a70:=Tryz.isAgg151
  z70:=Tryz.sizeOf151
  v70:=Tryz.zeroValue151
  t72:=Tryz.underlying153
  a72:=Tryz.isAgg153
  z72:=Tryz.sizeOf153
  v72:=Tryz.zeroValue153
  t75:=Tryz.underlying156
  a75:=Tryz.isAgg156
  z75:=Tryz.sizeOf156
  v75:=Tryz.zeroValue156
  t76:=Tryz.underlying157
  a76:=Tryz.isAgg157
  z76:=Tryz.sizeOf157
  v76:=Tryz.zeroValue157
  t109:=Tryz.underlying165
  a109:=Tryz.isAgg165
  z109:=Tryz.sizeOf165
  v109:=Tryz.zeroValue165
  t127:=Tryz.underlying196
  a127:=Tryz.isAgg196
  z127:=Tryz.sizeOf196
  v127:=Tryz.zeroValue196
  t146:=Tryz.underlying199
  a146:=Tryz.isAgg199
  z146:=Tryz.sizeOf199
  v146:=Tryz.zeroValue199
  t148:=Tryz.underlying201
  a148:=Tryz.isAgg201
  z148:=Tryz.sizeOf201
  v148:=Tryz.zeroValue201
  t164:=Tryz.underlying236
  a164:=Tryz.isAgg236
  z164:=Tryz.sizeOf236
  v164:=Tryz.zeroValue236 }
theorem Tryz.Builder_Extra_105:Builder.Extra Tryz.prog Tryz.lays105_ren:={
  sizeBuilder:=by kernel_rfl
  liesBuilder:=by kernel_rfl
  t5:=Tryz.underlying5
  a5:=Tryz.isAgg5
  z5:=Tryz.sizeOf5
  v5:=Tryz.zeroValue5
  infoByte:=by kernel_rfl
  cellsByte:=by kernel_rfl
  sizeByte:=by kernel_rfl
  neB5:=by decide }
open Go.RowKit Go.Lib in
theorem Tryz.strings_Repeat (s:ByteArray) (c:Nat) (w:World) (hc:c≤9223372036854775807) (hlen:s.size*c≤140737488355328) :
    Calls Tryz.prog 75 #[.string s,.int .i64 c] w fun e w'=>e = .returned (.string ⟨(Lib.repeatL s.data.toList c).toArray⟩)∧Below w.heap.size w w':=Any.strings_Repeat Tryz.lays105 Tryz.Builder_Extra_105 s c w hc hlen
theorem Tryz.slices_Sort_int_none (p:Option Addr) (cap:Nat) (w:World) :
    Calls Tryz.prog 241 #[.slice p 0 cap] w fun e w'=>e = .returned (.tuple #[])∧w'=w:=Any.slices_Sort_int_none Tryz.lays189 p cap w
end Go.Proofs
namespace Go.Proofs
open Go.RowKit Go.Maps Go.Sort Go.Shelf
open Go.AE (BT)
theorem R9.info3:(Tryz.prog.info? 3).map (fun i=>(i.zero,i.size,i.bytes))=some (some (.int .i64 0),1,8):=by kernel_rfl
set_option maxRecDepth 100000 in
set_option maxHeartbeats 4000000 in
theorem R9.each240_ok:AE.IterOk Tryz.prog 240 (AE.eachStart .str) (AE.eachNx .str):=by
  refine ⟨⟨_,Tryz.func240,by kernel_rfl,by decide +kernel⟩,?_⟩
  intro yv C cap us L J Jx hh hcap hstart hJ0 hJ1 hJ2 hJ3 hY
  obtain ⟨i0,hi,hz0,hz1,hz2⟩:=info_parts R9.info3
  unfold AE.eachStart at hstart
  obtain ⟨l,hl⟩ : ∃l,AE.eachMap .str cap C.H=some l:=by
    cases h:AE.eachMap .str cap C.H with
    | some l=>exact ⟨l,rfl⟩
    | none=>rw [h] at hstart;cases hstart
  rw [hl] at hstart
  replace hstart:(cond (Nat.ble l.length 1000000) (some (AE.keysOf l)) none)=some L:=hstart
  obtain ⟨hlen,hL⟩:l.length≤1000000∧AE.keysOf l=L:=by
    cases hb:Nat.ble l.length 1000000 with
    | true=>rw [hb,cond_true] at hstart;exact ⟨Nat.le_of_ble_eq_true hb,Option.some.inj hstart⟩
    | false=>rw [hb,cond_false] at hstart;cases hstart
  obtain ⟨b,mo,es,x,hus,hblive,hcell,hmap,hmr,_,_,hmlive⟩:=AE.each_sees hh hcap hl
  obtain rfl:us = #[.pointer (some ⟨b,0,none⟩)]:=by
    cases us;simpa using hus
  have hb0:b<C.w.heap.size:=by obtain ⟨j,h1,h2⟩:=hblive;exact hh.blk_lt h1 h2
  have hm0 : ∀m,mo=some m→m<C.w.heap.size:=fun m hm=>by obtain ⟨j,h1,h2⟩:=hmlive m hm;exact hh.blk_lt h1 h2
  have heslen:es.size=l.length:=by have:=hmr.length;simpa using this
  obtain ⟨hkeys,hks⟩:=AE.mrel_keys hmr
  clear hstart hcap
  have hlenv : ∀(p:Option Addr) (n c:Nat) (w:World),(Builtin.len_ #[56] 3 #[.slice p n c]).run Tryz.prog w = .ok (.int .i64 n) w:=fun p n c w=>by
    simp [Builtin.len_,run_underlying Tryz.underlying56]
    rfl
  refine callsIn_of_wp Tryz.func240 rfl trivial ?_ rfl
  simp only [Tryz.ntmps240,List.size_toArray,List.length_cons,List.length_nil,Nat.reduceAdd,Nat.reduceSub,Array.replicate_succ,Array.replicate_zero,List.push_toArray,List.append_toArray,List.nil_append,List.cons_append]
  gi_wp2_with (first
    | (gi_at_range;refine AE.wpListIn_range_m _ rfl _ 265 rfl 3 9 Tryz.underlying265 mo es rfl hmap ?_;intro it hwalk)
    | gi_in)
  try go_frame
  have hB1:Below C.w.heap.size C.w (C.w.alloc it):=(Below.refl _ C.w).alloc (Nat.le_refl _) _
  gi_loopw [3,4] (fun p _ wr => ∃(seen:Array Nat) (vis:List MapEntry),AE.WalkAt wr mo C.w.heap.size es seen∧vis.map (·.born)=seen.toList∧(∀e ∈ vis,e ∈ es.toList)∧seen.toList.Nodup ∧
      wr.ownsRow (C.w.heap.size+1) 3 1 p vis.length (vis.map (·.key))∧Below C.w.heap.size C.w wr∧C.w.heap.size+1≤wr.heap.size)
    (fun _ _ wr=>AE.walkLeft wr mo C.w.heap.size)
  case atStart =>
    exact ⟨#[],[],hwalk,rfl,by simp,by simp,World.ownsRow_nil _ _ _ _,hB1,by simp⟩
  case round =>
    obtain ⟨seen,vis,hw,hvs,hve,hnd,hrow,hB,hsz⟩:=hrel
    gi_wp2_with (first
      | (gi_at_next;refine AE.wpListIn_next_m _ rfl _ rfl mo C.w.heap.size es seen rfl hw ?_ ?_)
      | gi_in)
    · -- all have come
      intro hall
      have hb0':(es.toList.map (·.born)).Nodup:=by
        cases mo with
        | none=>obtain ⟨rfl,_⟩:=hw;simp
        | some m=>obtain ⟨ck,since,c0,_,hst,_⟩:=hw;exact hst.2.1
      obtain ⟨hvk,hsort,hvl⟩:=AE.visited_all hmr hb0' hvs hve hnd (by simpa using hall)
      have sortC:CallsIn Fence.wide 0 Tryz.prog 241 #[u3] wr fun e w'=>e = .returned (.tuple #[])∧w'.ownsRow (C.w.heap.size+1) 3 1 u3 L.length (L.map (Value.int .i64))∧Below C.w.heap.size C.w w':=by
        have hLl:L.length=vis.length:=by rw [← hL,← hsort,List.length_mergeSort,List.length_map]
        rcases hrow.2 with ⟨rfl,hz⟩ | ⟨gb,cap',cur,rfl,hbase,hgb,r1,r2,r3,r4⟩
        · refine (callsIn_wide.2 (Tryz.slices_Sort_int_none none 0 _)).mono ?_
          rintro e w' ⟨rfl,rfl⟩
          have hL0:L=[]:=List.eq_nil_of_length_eq_zero (by omega)
          rw [hL0]
          exact ⟨rfl,World.ownsRow_nil _ _ _ _,hB⟩
        · have ht:cur.toList.take (vis.map fun e=>AE.keyI e.key).length=(vis.map fun e=>AE.keyI e.key).map (Value.int .i64):=by
            rw [List.length_map,← hvk,← r4,Nat.mul_one]
          have hH:Holds (Value.int .i64) wr gb 0 (vis.map fun e=>AE.keyI e.key).toArray:=holds_of_blockI hgb ht
          have hgl:gb<wr.heap.size:=(Array.getElem?_eq_some_iff.1 hgb).1
          have c:=Tryz.slices_Sort_int gb 0 cap' (vis.map fun e=>AE.keyI e.key) wr hH hgl (by rw [List.length_map];omega)
          rw [List.length_map] at c
          refine (callsIn_wide.2 c).mono ?_
          rintro e w' ⟨rfl,nn,os,rfl⟩
          rw [hsort,hL]
          have hrow':=ownsRow_sortedI (w:=wr) (base:=C.w.heap.size+1) (g:=gb) (cap:=cap') (n:=nn) (e:=3) (os:=os) (cur:=cur) (ss:=vis.map fun e=>AE.keyI e.key) (ts:=L) (by rw [List.length_map];exact hLl) hbase hgb (by rw [List.length_map];exact r1) r2 r3
          rw [List.length_map] at hrow'
          rw [hLl]
          exact ⟨rfl,hrow',hB.grown (grownBy_sortedI _) hB.size (fun j hj=>by cases hj;omega)⟩
      gi_wp2_with (first | (refine ⟨trivial,rfl,?_⟩;refine sortC.mono ?_;rintro e w1 ⟨rfl,hrow1,hB2⟩) | gi_in)
      -- between two calls
      obtain ⟨C10,cap10,hw10,hj10⟩:=hJ0
      obtain ⟨hh10,_,_⟩:=hJ1 _ _ _ hj10
      have hp1:AE.Priv C.w.heap.size C10 w1:=AE.below_priv hh10 (by rw [hw10];exact hB2) _
      have hj1:J L (C10.at w1) cap10:=hJ2 _ _ _ _ hj10 hp1
      rcases hrow1.2 with ⟨rfl,hz⟩ | ⟨gb,cap',cur,rfl,hbase,hgb,r1,r2,r3,r4⟩
      · have hLn:L=[]:=List.eq_nil_of_length_eq_zero hz
        have hlen1:=hlenv none 0 0 w1
        gi_wp2
        rw [hlen1]
        gi_wp2
        gi_loopw [21,6] (fun p _ wr=>p = .int .i64 0∧wr=w1) (fun _ _ _=>0)
        case atStart=>exact ⟨rfl,rfl⟩
        case round =>
          obtain ⟨rfl,rfl⟩:=hrel
          gi_wp2
          go_end0
          rw [hLn] at hj1
          obtain ⟨_,_,o,ho⟩:=hJ1 _ _ _ hj1
          exact ⟨rfl,.inl ⟨[],C10.at wr,cap10,rfl,hj1,AE.next_end ho⟩⟩
      · have hlen1:=hlenv (some ⟨gb,0,none⟩) L.length cap' w1
        gi_wp2
        rw [hlen1]
        gi_wp2
        have hLlen:L.length≤1000000:=by rw [← hL,← hsort,List.length_mergeSort,List.length_map];omega
        clear hL hsort hvl hvk hall hw hvs hve hnd hrow hb0' sortC
        gi_loopw [21,6] (fun p _ wr => ∃(j:Nat) (C1:AE.Cx) (cap1:List AE.AV),p = .int .i64 j∧j≤L.length∧C1.w=wr∧J (L.drop j) C1 cap1∧wr.heap[gb]? = some (.cells cur 3 (0,0))∧C1.Beside gb) (fun p _ _=>L.length - (intOf p).toNat)
        case atStart =>
          exact ⟨0,C10.at w1,cap10,rfl,by omega,rfl,hj1,hgb,AE.Beside.new hh10 (by rw [hw10];omega)⟩
        case round =>
          obtain ⟨j,C1,cap1,rfl,hj,rfl,hjj,hgb1,hbs⟩:=hrel
          by_cases hlt:j<L.length
          · have hlt':(j:Int)<(L.length:Int):=by omega
            obtain ⟨k,hk⟩ : ∃k,L[j]=k:=⟨_,rfl⟩
            have hdrop:L.drop j=k::L.drop (j+1):=by rw [← hk];exact List.drop_eq_getElem_cons hlt
            rw [hdrop] at hjj
            obtain ⟨hh1,hv1,o,ho⟩:=hJ1 _ _ _ hjj
            obtain ⟨l1,hl1,rfl⟩:=AE.next_at ho
            obtain ⟨b',mo1,es1,x1,hus1,_,hcell1,_,_,hx1,hmo1,_⟩:=AE.each_sees hh1 hv1 hl1
            obtain rfl:b=b':=by simpa using hus1
            obtain ⟨y,hlook,hy⟩:=AE.lookup_each R9.tabOk hh1 (tl:=265) rfl rfl hx1 hmo1 k
            have hval:=hY _ _ _ _ _ hjj ho #[.int .i64 k,y] (by simp only [AE.VRels];exact ⟨_,_,rfl,by rw [AE.VRel],_,_,rfl,hy,rfl⟩)
            have hcur:cur[j]? = some (.int .i64 k):=by
              have h1:(cur.toList.take (L.length*1))[j]? = (L.map (Value.int .i64))[j]? := by rw [r4]
              rw [List.getElem?_take,if_pos (by omega),List.getElem?_map,List.getElem?_eq_getElem hlt,hk] at h1
              simpa using h1
            have hrd:C1.w.cell? ⟨gb,j,none⟩=some (.int .i64 k):=by
              rw [AE.cell_blk (AE.blkOf_cells hgb1)]
              exact hcur
            clear hY hy ho hmo1 hx1 hv1 hl1 hus1 hJ1
            gi_wp2_with (first
              | (refine AE.wpListIn_callv _ rfl (Operand.tmp 25) #[Operand.tmp 26,Operand.tmp 29] _ rfl hval rfl (by simp [Act.eval]) ?_;rintro e W' (⟨rfl,C',cap2,rfl,hj',hkept⟩ | ⟨rfl,C',rfl,hjx,hkept⟩) <;> refine ⟨_,rfl,?_⟩)
              | gi_in)
            · obtain ⟨hg2,hb2⟩:=hkept.keep gb (by omega) (Array.getElem?_eq_some_iff.1 hgb1).1 hbs
              refine ⟨⟨j+1,C',cap2,by simp,by omega,rfl,hj',hg2.trans hgb1,hb2⟩,?_⟩
              simp [intOf]
              omega
            · refine bodyPost_ret (results_none rfl _ _ _) rfl ?_
              exact ⟨rfl,.inr ⟨C',rfl,hjx⟩⟩
          · have hge : ¬(j:Int)<(L.length:Int):=by omega
            gi_wp2
            go_end0
            have hd:L.drop j=[]:=List.drop_eq_nil_of_le (by omega)
            rw [hd] at hjj
            obtain ⟨_,_,o,ho⟩:=hJ1 _ _ _ hjj
            refine ⟨rfl,.inl ?_⟩
            first | exact ⟨[],C1,cap1,rfl,hjj,AE.next_end ho⟩ | exact ⟨[],C1,rfl,cap1,hjj,AE.next_end ho⟩
    · -- one more
      intro e he hes w' hw' hg hs hen
      have hem:e ∈ es.toList:=by simpa using he
      have hkey:=hkeys e hem
      have hw0:=hw
      have hes0:e.born ∉ seen:=by simpa using hes
      have hem0:=hem
      obtain ⟨e0,he0⟩ : ∃e0,e=e0:=⟨_,rfl⟩
      have hfresh:e.born ∉ seen.toList:=by simpa using hes
      have hvlen:vis.length≤1000000:=by
        have h2:vis.Nodup:=AE.nodup_of_map (·.born) (by rw [hvs];exact hnd)
        have h3:=h2.length_le_of_subset hve
        have h4:=hmr.length
        omega
      have hmx:2000000≤maxLen:=by decide
      obtain ⟨key,val,born⟩:=e
      dsimp only at hkey hen hes hw' ⊢
      obtain ⟨n0,hn0⟩ : ∃n0,AE.keyI key=n0:=⟨_,rfl⟩
      rw [hn0] at hkey
      subst hkey
      clear hn0
      have hs2:wr.heap.size≤w'.heap.size∧w'.heap.size≤wr.heap.size:=by omega
      clear hs
      have hrow2:w'.ownsRow (C.w.heap.size+1) 3 1 u3 vis.length (vis.map (·.key)):=AE.ownsRow_kept hrow hg (fun r e=>by cases e;omega)
      have hblk:=AE.ownBlock_base hrow2
      have hB2:Below C.w.heap.size C.w w':=hB.grown hg hB.size (fun j e=>by cases e;omega)
      have hrow3:=AE.ownsRow_kept hrow2 (World.grownBy_alloc w' (.cells #[.int .i64 n0] 3) none) (fun r e=>by cases e)
      have e1:vis.length+1≤maxLen:=by omega
      have e2:(vis.length+1)*8≤140737488355328:=by omega
      have e3:C.w.heap.size+1≤(w'.alloc (.cells #[.int .i64 n0] 3)).heap.size:=by rw [World.size_alloc];omega
      gi_wp2_with (first
        | (gi_at_builtin;refine wpListIn_append_own _ rfl (.tmp 13) (.tmp 15) 56 rfl (C.w.heap.size+1) 3 i0 (.int .i64 0) 1 8 Tryz.underlying56 hi hz0 hz1 hz2 rfl (by decide) u3 vis.length (vis.map (·.key)) rfl hrow3 ⟨w'.heap.size,0,none⟩ 1 1 [.int .i64 n0] rfl rfl (cell_one_new _ _ _) (by simp [Value.oneCell']) e1 e2 e3 ?_;intro v' w3 hown' hgrow _;obtain ⟨g',cap',rfl⟩:=ownsRow_succ hown')
        | gi_in)
      have hWa:AE.WalkAt (w'.alloc (.cells #[.int .i64 n0] 3)) mo C.w.heap.size es (seen.push born):=hw'.kept (World.grownBy_alloc w' _ none) (fun _ _ h=>by cases h) (fun h=>by cases h)
      have hW3:AE.WalkAt w3 mo C.w.heap.size es (seen.push born):=hWa.kept hgrow (fun b hb h=>by have h1:=hblk _ h;have h2:=hm0 b hb;omega) (fun h=>by have h1:=hblk _ h;omega)
      have hB3:Below C.w.heap.size C.w w3:=(hB2.alloc hB2.size _).grown hgrow (by rw [World.size_alloc];have:=hB2.size;omega) (fun j h=>by have h1:=hblk _ h;omega)
      refine ⟨⟨seen.push born,vis++[e0],hW3,by rw [List.map_append,hvs,← he0];simp,?_,?_,?_,hB3,?_⟩,hw0.left_lt hem0 hes0 hW3⟩
      · intro y hy
        rcases List.mem_append.1 hy with hy | hy
        · exact hve y hy
        · rw [List.mem_singleton.1 hy,← he0];exact hem
      · rw [Array.toList_push]
        exact List.nodup_append.2 ⟨hnd,by simp,fun a ha b hb=>by rw [List.mem_singleton.1 hb];intro e;rw [e] at ha;exact hfresh ha⟩
      · rw [List.map_append,List.length_append,← he0]
        exact hown'
      · have h1:=hgrow.size
        rw [World.size_alloc] at h1
        omega
end Go.Proofs
namespace Go.Proofs
open Go.Shelf Go.RowKit
def Tryz.lays156_ren:Go.Shelf.Ren:=⟨fun | 156=>58 | 165=>99 | 166=>100 | 169=>101 | 240=>144 | 241=>145 | 276=>183 | 277=>184 | n=>n,fun | 31=>22 | 9=>9 | 3=>3 | 4=>4 | 0=>0 | 20=>20 | 72=>153 | 76=>157 | 70=>151 | 37=>44 | 75=>156 | 127=>196 | 164=>236 | 5=>5 | 80=>134 | n=>n,fun | n=>n⟩
theorem Tryz.lays156:Go.Proofs.Lays.n156 Tryz.prog Tryz.lays156_ren:={
  mixed:=by kernel_rfl
  f156:=Tryz.func58.trans (congrArg some (by kernel_rfl))
  f165:=Tryz.func99.trans (congrArg some (by kernel_rfl))
  f166:=Tryz.func100.trans (congrArg some (by kernel_rfl))
  f169:=Tryz.func101.trans (congrArg some (by kernel_rfl))
  f240:=Tryz.func144.trans (congrArg some (by kernel_rfl))
  f241:=Tryz.func145.trans (congrArg some (by kernel_rfl))
  f276:=Tryz.func183.trans (congrArg some (by kernel_rfl))
  f277:=Tryz.func184.trans (congrArg some (by kernel_rfl))
  t0:=Tryz.underlying0
  a0:=Tryz.isAgg0
  z0:=Tryz.sizeOf0
  v0:=Tryz.zeroValue0
  t3:=Tryz.underlying3
  a3:=Tryz.isAgg3
  z3:=Tryz.sizeOf3
  v3:=Tryz.zeroValue3
  t4:=Tryz.underlying4
  a4:=Tryz.isAgg4
  z4:=Tryz.sizeOf4
  v4:=Tryz.zeroValue4
  t9:=Tryz.underlying9
  a9:=Tryz.isAgg9
  z9:=Tryz.sizeOf9
  v9:=Tryz.zeroValue9
  t20:=Tryz.underlying20
  a20:=Tryz.isAgg20
  z20:=Tryz.sizeOf20
  v20:=Tryz.zeroValue20
  t31:=Tryz.underlying22
  a31:=Tryz.isAgg22
  z31:=Tryz.sizeOf22
  v31:=Tryz.zeroValue22
  t37:=Tryz.underlying44
  a37:=Tryz.isAgg44
  z37:=Tryz.sizeOf44
  v37:=Tryz.zeroValue44
  t70:=Tryz.underlying151
  a70:=Tryz.isAgg151
  z70:=Tryz.sizeOf151
  v70:=Tryz.zeroValue151
  t72:=Tryz.underlying153
  a72:=Tryz.isAgg153
  z72:=Tryz.sizeOf153
  v72:=Tryz.zeroValue153
  t75:=Tryz.underlying156
  a75:=Tryz.isAgg156
  z75:=Tryz.sizeOf156
  v75:=Tryz.zeroValue156
  t76:=Tryz.underlying157
  a76:=Tryz.isAgg157
  z76:=Tryz.sizeOf157
  v76:=Tryz.zeroValue157
  t127:=Tryz.underlying196
  a127:=Tryz.isAgg196
  z127:=Tryz.sizeOf196
  v127:=Tryz.zeroValue196
  t164:=Tryz.underlying236
  a164:=Tryz.isAgg236
  z164:=Tryz.sizeOf236
  v164:=Tryz.zeroValue236 }
theorem Tryz.Builder_Extra_156:Builder.Extra Tryz.prog Tryz.lays156_ren:={
  sizeBuilder:=by kernel_rfl
  liesBuilder:=by kernel_rfl
  t5:=Tryz.underlying5
  a5:=Tryz.isAgg5
  z5:=Tryz.sizeOf5
  v5:=Tryz.zeroValue5
  infoByte:=by kernel_rfl
  cellsByte:=by kernel_rfl
  sizeByte:=by kernel_rfl
  neB5:=by decide }
open Go.RowKit in
theorem Tryz.strings_Join_none (a:Option Addr) (c:Nat) (sep:ByteArray) (w:World) :
    Calls Tryz.prog 58 #[.slice a 0 c,.string sep] w fun e w'=>e = .returned (.string ⟨#[]⟩)∧w'=w:=Any.strings_Join_none Tryz.lays156 Tryz.Builder_Extra_156 a c sep w
open Go.RowKit in
theorem Tryz.strings_Join (bk o c:Nat) (xs:List ByteArray) (sep:ByteArray) (w:World) (hcells : ∀(j:Nat) x,xs[j]? = some x→w.cell? ⟨bk,o+j,none⟩=some (.string x)) (hbk:bk<w.heap.size) (hN:xs.length≤140737488355328) (hcap:xs.length≤c) (hlen:(Lib.join (xs.map (·.data.toList)) sep.data.toList).length≤140737488355328) :
    Calls Tryz.prog 58 #[.slice (some ⟨bk,o,none⟩) xs.length c,.string sep] w fun e w'=>e = .returned (.string ⟨(Lib.join (xs.map (·.data.toList)) sep.data.toList).toArray⟩)∧Below w.heap.size w w':=Any.strings_Join Tryz.lays156 Tryz.Builder_Extra_156 bk o c xs sep w hcells hbk hN hcap hlen
end Go.Proofs
namespace Go.Proofs.R9
open Go Go.AE
theorem zcY:zM Tryz.prog 75 qF :=
  zle (zaL Tryz.func75 (by kernel_rfl) (by decide +kernel)) fun s c w h1 h2=>Tryz.strings_Repeat s c w h1 h2
theorem zd4:zM Tryz.prog 58 JG :=
  zsq (zaL Tryz.func58 (by kernel_rfl) (by decide +kernel)) (fun a c s w=>Tryz.strings_Join_none a c s w) fun b o c xs s w h1 h2 h3 h4 h5=>Tryz.strings_Join b o c xs s w h1 h2 h3 h4 h5
theorem zhk:zQ Tryz.prog 144 Qc :=
  zgr (ρ:=Tryz.lays105_ren) { Tryz.lays105 with } Tryz.Builder_Extra_105.toX72 rfl (zaL Tryz.func144 (by kernel_rfl) (by decide +kernel))
theorem zkr:zQ Tryz.prog 101 za3 :=
  zkx (ρ:=Tryz.lays105_ren) { Tryz.lays105 with } Tryz.Builder_Extra_105 rfl (zaL Tryz.func101 (by kernel_rfl) (by decide +kernel))
theorem zfk:zQ Tryz.prog 101 Wi :=
  zfl (ρ:=Tryz.lays105_ren) { Tryz.lays105 with } Tryz.Builder_Extra_105 rfl (zaL Tryz.func101 (by kernel_rfl) (by decide +kernel))
theorem zNA:zgo Tryz.prog 100240 (.iter (JW .str) (zew .str)):=z3D R9.each240_ok
end Go.Proofs.R9
namespace Go.Proofs.R9
open Go Go.AE
set_option maxRecDepth 100000
--@ field_New
noncomputable def z2z:Env:=[]
theorem z6z:zf Tryz.prog z2z:=zf.nil
noncomputable def Zcl:Code:=Tryz.f49.body.getD .skip
noncomputable def z5J:Ann := .none
theorem z29:zq Tryz.prog 6 Zcl z5J:=(zb _ _ _)
abbrev zfO:=(List UInt8)
abbrev zZn:=Unit
def zdj {β:Type}:zfO→(zZn→Option β)→Option β:=fun a0 exit=>(exit ())
def Wq (a:zfO):Option zZn:=zdj a some
theorem z4H (a:zfO) (k:zZn→Ans):zdj a k=za (Wq a) k:=by
  obtain z:=a
  simp only [Wq,zdj,zi,zh,zl,zc,zj,zm,zg]
def znN:zfO→List AV×List AE.Obj:=fun a0=>([.str a0],[])
def zKY (l:List AV) (H:List AE.Obj):Option {a:zfO // (l,H)=znN a}:=match l,H with
  | [.str a0],[]=>some ⟨(a0),rfl⟩
  | _,_=>none
def zR4 (l:List AV) (H:List AE.Obj):Option zfO:=pk (zKY l H)
theorem zV6 (l:List AV) (H:List AE.Obj) (a:zfO) (h:zR4 l H=some a):(l,H)=znN a:=zt (o:=zKY l H) h
def z6d:zfO→(AV→List AE.Obj→Ans)→zZn→Ans:=fun a0 K=>fun _=>K (.ptr 0 0) [.cells [.str a0,.int .i64 (0)]]
theorem z62 (a:zfO) (K:AV→List AE.Obj→Ans):fnE Tryz.tab z2z zd 0 70 49 Tryz.f49.ntmps Tryz.f49.results.toList z5J Zcl (znN a).1 (znN a).2 K=zdj a (z6d a K):=by kernel_rfl
def Zev (a:zfO) (K:AV→List AE.Obj→Ans):Ans:=za (Wq a) fun y=>z6d a K y
def zBB:List AV→List AE.Obj→(AV→List AE.Obj→Ans)→Ans:=fun l H K=>za (zR4 l H) fun a=>Zev a K
theorem zgK:zQ Tryz.prog 49 zBB:=Zu (hint:=zd) (d:=0) (n:=70) mixed tabOk z6z Tryz.func49 (zE (by kernel_rfl)) (by decide +kernel) z29 zV6 z62 z4H
--@ field_width
noncomputable def zwN:Env:=[]
theorem zNQ:zf Tryz.prog zwN:=zf.nil
noncomputable def z9Y:Code:=Tryz.f92.body.getD .skip
noncomputable def zqd:Code:=zF [1,0] z9Y
noncomputable def zud:Ann := .none
theorem zGM:zq Tryz.prog 9 zqd zud:=(zb _ _ _)
abbrev QI:=(Int)
abbrev zoc:=(Bool)
def zy4:QI→St:=fun t0=>{ env:=[(0,.int .i64 t0)],stk:=[[]],H:=[],blk:=376832 }
def zwj (s:St):Option {x:QI // s=zy4 x}:=match s with
  | { env:=[(0,.int .i64 t0)],stk:=[[]],H:=[],blk:=376832 }=>some ⟨(t0),rfl⟩
  | _=>none
def zls (s:St):Option QI:=pk (zwj s)
theorem zL0 (s:St) (x:QI) (h:zls s=some x):s=zy4 x:=zt (o:=zwj s) h
def zjB:QI→(Ex→St→Ans)→zoc→Ans:=fun t0 K=>fun t2_y=>K (Ex.norm) { env:=[(2,.bool t2_y)],stk:=[[]],H:=[],blk:=376832 }
def Wc {β:Type}:QI→(zoc→Option β)→Option β:=fun t0 exit=>(bif decide (t0≥(1:Int)) then (exit (decide (t0≤(7:Int)))) else (exit (false)))
def Ye (i:QI):Option zoc:=Wc i some
theorem zy6 (i:QI) (k:zoc→Ans):Wc i k=za (Ye i) k:=by
  obtain z:=i
  simp only [Ye,Wc,zi,zh,zl,zc,zj,zm,zg]
theorem zGc (i:QI) (K:Ex→St→Ans):zx Tryz.tab zwN zd (zy Tryz.tab zwN zd 0 64) 70 9 zud zqd (zB 0 (exk [2] [2] []) K) (zy4 i)=Wc i (zjB i K):=by kernel_rfl
theorem zPR:zw Tryz.prog 9 zqd (zG zls Ye zjB):=zA mixed tabOk zNQ 0 (exk [2] [2] []) zGM zL0 zGc zy6
noncomputable def zSM:(Ex→St→Ans)→St→Ans:=(zG zls Ye zjB)
theorem zVK:zw Tryz.prog 9 zqd zSM:=zPR
noncomputable def z5Z:Ann:=(.seq .none (.seq (.cut 0 [0] zSM) .none))
theorem z2h:zq Tryz.prog 9 z9Y z5Z:=⟨(zb _ _ _),⟨zVK,(zb _ _ _)⟩⟩
abbrev zeO:=(Int)
abbrev zOQ:=(Bool)
def ziv {β:Type}:zeO→(zOQ→Option β)→Option β:=fun a0 exit=>(za (Ye (a0)) fun t2=>(exit (t2)))
def zcz (a:zeO):Option zOQ:=ziv a some
theorem z2g (a:zeO) (k:zOQ→Ans):ziv a k=za (zcz a) k:=by
  obtain z:=a
  simp only [zcz,ziv,zi,zh,zl,zc,zj,zm,zg]
def zzd:zeO→List AV:=fun a0=>[.int .i64 a0]
def zI1 (l:List AV):Option {a:zeO // l=zzd a}:=match l with
  | [.int .i64 a0]=>some ⟨(a0),rfl⟩
  | _=>none
def zRV (l:List AV):Option zeO:=pk (zI1 l)
theorem zXp (l:List AV) (a:zeO) (h:zRV l=some a):l=zzd a:=zt (o:=zI1 l) h
def zy5:zeO→zOQ→AV:=fun a0=>fun r_y => .bool r_y
theorem zZx : ∀(a:zeO) (y:zOQ),(zy5 a y).closed1=true:=by
  rintro z y <;> first | rfl | exact Empty.elim y
theorem z9q (a:zeO):fnE Tryz.tab zwN zd 0 70 92 Tryz.f92.ntmps Tryz.f92.results.toList z5Z z9Y (zzd a) [] (fun v _=>some (v,[]))=ziv a (fun y=>some (zy5 a y,[])):=by kernel_rfl
def ZeU (a:zeO) (K:AV→Ans):Ans:=za (zcz a) fun y=>K (zy5 a y)
def z0f:List AV→(AV→Ans)→Ans:=fun l K=>za (zRV l) fun a=>ZeU a K
theorem zEc:zM Tryz.prog 92 z0f:=zL (hint:=zd) (d:=0) (n:=70) mixed tabOk zNQ Tryz.func92 (zE (by kernel_rfl)) (by decide +kernel) z2h zXp z9q z2g zZx
--@ field_Reader_fail
noncomputable def z6b:Env:=[]
theorem z8e:zf Tryz.prog z6b:=zf.nil
noncomputable def Zb1:Code:=Tryz.f91.body.getD .skip
noncomputable def z2b:Ann := .none
theorem z3Q:zq Tryz.prog 13 Zb1 z2b:=(zb _ _ _)
abbrev zfP:=(Int)×(List UInt8)×(Int)
abbrev zZY:=(Int)
def zyn {β:Type}:zfP→(zZY→Option β)→Option β:=fun (a1,o0_0,o0_1) exit=>(bif o0_1 == (0:Int) then (exit (a1)) else (exit (o0_1)))
def zcD (a:zfP):Option zZY:=zyn a some
theorem z5v (a:zfP) (k:zZY→Ans):zyn a k=za (zcD a) k:=by
  obtain ⟨a1,o0_0,o0_1⟩:=a
  simp only [zcD,zyn,zi,zh,zl,zc,zj,zm,zg]
def zp8:zfP→List AV×List AE.Obj:=fun (a1,o0_0,o0_1)=>([.ptr 0 0,.int .i64 a1],[.cells [.str o0_0,.int .i64 o0_1]])
def zLT (l:List AV) (H:List AE.Obj):Option {a:zfP // (l,H)=zp8 a}:=match l,H with
  | [.ptr 0 0,.int .i64 a1],[.cells [.str o0_0,.int .i64 o0_1]]=>some ⟨(a1,o0_0,o0_1),rfl⟩
  | _,_=>none
def zTo (l:List AV) (H:List AE.Obj):Option zfP:=pk (zLT l H)
theorem zXv (l:List AV) (H:List AE.Obj) (a:zfP) (h:zTo l H=some a):(l,H)=zp8 a:=zt (o:=zLT l H) h
def z4i:zfP→(AV→List AE.Obj→Ans)→zZY→Ans:=fun (a1,o0_0,o0_1) K=>fun o0_1_y=>K (.tup []) [.cells [.str o0_0,.int .i64 o0_1_y]]
theorem z90 (a:zfP) (K:AV→List AE.Obj→Ans):fnE Tryz.tab z6b zd 0 70 91 Tryz.f91.ntmps Tryz.f91.results.toList z2b Zb1 (zp8 a).1 (zp8 a).2 K=zyn a (z4i a K):=by kernel_rfl
def ZeW (a:zfP) (K:AV→List AE.Obj→Ans):Ans:=za (zcD a) fun y=>z4i a K y
def zXR:List AV→List AE.Obj→(AV→List AE.Obj→Ans)→Ans:=fun l H K=>za (zTo l H) fun a=>ZeW a K
theorem zAu:zQ Tryz.prog 91 zXR:=Zu (hint:=zd) (d:=0) (n:=70) mixed tabOk z8e Tryz.func91 (zE (by kernel_rfl)) (by decide +kernel) z3Q zXv z90 z5v
--@ field_Reader_Bytes
noncomputable def zvp:Env:=[(91,.func zXR)]
theorem zKM:zf Tryz.prog zvp:=zf.cons zAu (zf.nil)
noncomputable def z7S:Code:=Tryz.f50.body.getD .skip
noncomputable def zpt:Code:=zF [1,1,0,1] z7S
noncomputable def zuD:Ann := .none
theorem zH4:zq Tryz.prog 42 zpt zuD:=(zb _ _ _)
abbrev Jg:=(Int)×(Bool)×(List UInt8)×(Int)
abbrev zpJ:=(Int)
def zz3:Jg→St:=fun (t1,t9,o0_0,o0_1)=>{ env:=[(0,.ptr 0 0),(1,.int .i64 t1),(9,.bool t9)],stk:=[[(0,.ptr 0 0)]],H:=[.cells [.str o0_0,.int .i64 o0_1]],blk:=204800 }
def zx7 (s:St):Option {x:Jg // s=zz3 x}:=match s with
  | { env:=[(0,.ptr 0 0),(1,.int .i64 t1),(9,.bool t9)],stk:=[[(0,.ptr 0 0)]],H:=[.cells [.str o0_0,.int .i64 o0_1]],blk:=204800 }=>some ⟨(t1,t9,o0_0,o0_1),rfl⟩
  | _=>none
def zj8 (s:St):Option Jg:=pk (zx7 s)
theorem zKA (s:St) (x:Jg) (h:zj8 s=some x):s=zz3 x:=zt (o:=zx7 s) h
def znk:Jg→(Ex→St→Ans)→zpJ→Ans:=fun (t1,t9,o0_0,o0_1) K=>fun o0_1_y=>K (Ex.norm) { env:=[(0,.ptr 0 0),(1,.int .i64 t1)],stk:=[[(0,.ptr 0 0)]],H:=[.cells [.str o0_0,.int .i64 o0_1_y]],blk:=204800 }
def Wn {β:Type}:Jg→(zpJ→Option β)→Option β:=fun (t1,t9,o0_0,o0_1) exit=>(bif t9 then (za (zcD ((3:Int),o0_0,o0_1)) fun o0_1_2=>(exit (o0_1_2))) else (bif decide (t1>(↑(List.length o0_0):Int)) then (za (zcD ((1:Int),o0_0,o0_1)) fun o0_1_2=>(exit (o0_1_2))) else (exit (o0_1))))
def Yl (i:Jg):Option zpJ:=Wn i some
theorem zA8 (i:Jg) (k:zpJ→Ans):Wn i k=za (Yl i) k:=by
  obtain ⟨t1,t9,o0_0,o0_1⟩:=i
  simp only [Yl,Wn,zi,zh,zl,zc,zj,zm,zg]
theorem zFC (i:Jg) (K:Ex→St→Ans):zx Tryz.tab zvp zd (zy Tryz.tab zvp zd 0 64) 70 42 zuD zpt (zB 1 (exk [0,1] [4] []) K) (zz3 i)=Wn i (znk i K):=by kernel_rfl
theorem zQR:zw Tryz.prog 42 zpt (zG zj8 Yl znk):=zA mixed tabOk zKM 1 (exk [0,1] [4] []) zH4 zKA zFC zA8
noncomputable def zS0:(Ex→St→Ans)→St→Ans:=(zG zj8 Yl znk)
theorem zYt:zw Tryz.prog 42 zpt zS0:=zQR
noncomputable def z4L:Ann:=(.seq .none (.seq .none (.seq (.seq .none (.cut 1 [0,1,9] zS0)) .none)))
theorem z6a:zq Tryz.prog 42 z7S z4L:=⟨(zb _ _ _),⟨(zb _ _ _),⟨⟨(zb _ _ _),zYt⟩,(zb _ _ _)⟩⟩⟩
abbrev zf0:=(Int)×(List UInt8)×(Int)
abbrev zXr:=(List UInt8)×(List UInt8)×(Int)
def zig {β:Type}:zf0→(zXr→Option β)→Option β:=fun (a1,o0_0,o0_1) exit=>(za (Yl (a1,decide (a1<(0:Int)),o0_0,o0_1)) fun o0_1_2=>(bif o0_1_2 != (0:Int) then (exit ([],o0_0,o0_1_2)) else (bif inR a1 (List.length o0_0+(1:Nat)) then (bif inR a1 (List.length o0_0+(1:Nat)) then (exit (List.take (Int.toNat a1) o0_0,List.drop (Int.toNat a1) o0_0,o0_1_2)) else none) else none)))
def yB (a:zf0):Option zXr:=zig a some
theorem z0q (a:zf0) (k:zXr→Ans):zig a k=za (yB a) k:=by
  obtain ⟨a1,o0_0,o0_1⟩:=a
  simp only [yB,zig,zi,zh,zl,zc,zj,zm,zg]
def zpB:zf0→List AV×List AE.Obj:=fun (a1,o0_0,o0_1)=>([.ptr 0 0,.int .i64 a1],[.cells [.str o0_0,.int .i64 o0_1]])
def zOC (l:List AV) (H:List AE.Obj):Option {a:zf0 // (l,H)=zpB a}:=match l,H with
  | [.ptr 0 0,.int .i64 a1],[.cells [.str o0_0,.int .i64 o0_1]]=>some ⟨(a1,o0_0,o0_1),rfl⟩
  | _,_=>none
def zT0 (l:List AV) (H:List AE.Obj):Option zf0:=pk (zOC l H)
theorem zWM (l:List AV) (H:List AE.Obj) (a:zf0) (h:zT0 l H=some a):(l,H)=zpB a:=zt (o:=zOC l H) h
def z45:zf0→(AV→List AE.Obj→Ans)→zXr→Ans:=fun (a1,o0_0,o0_1) K=>unP fun r_y=>unP fun o0_0_y o0_1_y=>K (.str r_y) [.cells [.str o0_0_y,.int .i64 o0_1_y]]
theorem z8D (a:zf0) (K:AV→List AE.Obj→Ans):fnE Tryz.tab zvp zd 0 70 50 Tryz.f50.ntmps Tryz.f50.results.toList z4L z7S (zpB a).1 (zpB a).2 K=zig a (z45 a K):=by kernel_rfl
def Zfb (a:zf0) (K:AV→List AE.Obj→Ans):Ans:=za (yB a) fun y=>z45 a K y
def zsx:List AV→List AE.Obj→(AV→List AE.Obj→Ans)→Ans:=fun l H K=>za (zT0 l H) fun a=>Zfb a K
theorem zdC:zQ Tryz.prog 50 zsx:=Zu (hint:=zd) (d:=0) (n:=70) mixed tabOk zKM Tryz.func50 (zE (by kernel_rfl)) (by decide +kernel) z6a zWM z8D z0q
--@ field_Reader_Num
noncomputable def zhR:Env:=[(92,.pure z0f),(91,.func zXR),(50,.func zsx)]
theorem zMR:zf Tryz.prog zhR:=zf.cons zEc (zf.cons zAu (zf.cons zdC (zf.nil)))
noncomputable def z9m:Code:=Tryz.f51.body.getD .skip
noncomputable def zhS:Code:=zF [1,1,1,1,0,1,0,0] z9m
noncomputable def zjk:Ann := .at 1 [5,18,19,20] (.loop .none)
theorem zHh:zq Tryz.prog 31 (.loop zhS) zjk:=Zi (zb _ _ _)
abbrev Qf:=(Int)×(List UInt8)×(Int)×(List Int)
abbrev zq1:=(Int)
abbrev wz:=(Int)×(Int)
def zqD:Qf→wz→St:=fun (t19,o0_0,o0_1,o1) (t5,t20)=>{ env:=[(5,.int .i64 t5),(18,.own 1),(19,.int .i64 t19),(20,.int .i64 t20)],stk:=[[(0,.ptr 0 0)]],H:=[.cells [.str o0_0,.int .i64 o0_1],.arr (.int .u8) o1],blk:=208896 }
def zvj (s:St):Option {x:Qf×wz // s=zqD x.1 x.2}:=match s with
  | { env:=[(5,.int .i64 t5),(18,.own 1),(19,.int .i64 t19),(20,.int .i64 t20)],stk:=[[(0,.ptr 0 0)]],H:=[.cells [.str o0_0,.int .i64 o0_1],.arr (.int .u8) o1],blk:=208896 }=>some ⟨((t19,o0_0,o0_1,o1),(t5,t20)),rfl⟩
  | _=>none
def zj0 (s:St):Option (Qf×wz):=pk (zvj s)
theorem zKx (s:St) (x:Qf×wz) (h:zj0 s=some x):s=zqD x.1 x.2:=zt (o:=zvj s) h
def zkM:Qf→(Ex→St→Ans)→zq1→Ans:=fun (t19,o0_0,o0_1,o1) K=>fun t5_y=>K (Ex.exit 0) { env:=[(5,.int .i64 t5_y)],stk:=[[(0,.ptr 0 0)]],H:=[.cells [.str o0_0,.int .i64 o0_1]],blk:=208896 }
def jy {β:Type}:Qf→wz→(wz→Option β)→(zq1→Option β)→Option β:=fun (t19,o0_0,o0_1,o1) (t5,t20) next exit=>(bif decide (t20<t19) then (bif inR t20 (List.length o1) then (za (o1[Int.toNat t20]?) fun x=>(next (IntKind.wrap .i64 (↑(Int.toNat (IntKind.wrap .i64 (t5*(256:Int)) % (18446744073709551616:Int)) ||| Int.toNat (IntKind.wrap .i64 x % (18446744073709551616:Int))):Int),IntKind.wrap .i64 (t20+(1:Int))))) else none) else (exit (t5)))
def yR (i:Qf) (v:wz):Option (wz ⊕ zq1):=jy i v (fun v=>some (.inl v)) (fun y=>some (.inr y))
theorem zC2 (i:Qf) (v:wz) (next:wz→Ans) (exit:zq1→Ans):jy i v next exit=za (yR i v) (Sum.elim next exit):=by
  obtain ⟨t19,o0_0,o0_1,o1⟩:=i
  obtain ⟨t5,t20⟩:=v
  simp only [yR,jy,zi,zh,zl,zc,zj,zm,zg,Sum.elim_inl,Sum.elim_inr]
theorem zHo (n:Nat) (i:Qf) (v:wz) (K:Ex→St→Ans):zx Tryz.tab zhR zd (zy Tryz.tab zhR zd 0 64) (n+1) 31 zjk (.loop zhS) (zB 1 (exk [5] [4] [(0,[5])]) K) (zqD i v)=jy i v (fun v'=>zx Tryz.tab zhR zd (zy Tryz.tab zhR zd 0 64) n 31 zjk (.loop zhS) (zB 1 (exk [5] [4] [(0,[5])]) K) (zqD i v')) (fun y=>zkM i K y):=by kernel_rfl
theorem zQe:zw Tryz.prog 31 (.loop zhS) (Zm zj0 yR zkM):=Zf mixed tabOk zMR 1 (exk [5] [4] [(0,[5])]) zHh zKx zHo zC2
noncomputable def zRT:(Ex→St→Ans)→St→Ans:=(Zm zj0 yR zkM)
theorem zYy:zw Tryz.prog 31 (.loop zhS) zRT:=zQe
noncomputable def z0w:Ann:=(.seq .none (.seq .none (.seq .none (.seq .none (.seq (.seq .none (.block (.cut 1 [5,18,19,20] zRT))) .none)))))
theorem z1y:zq Tryz.prog 31 z9m z0w:=⟨(zb _ _ _),⟨(zb _ _ _),⟨(zb _ _ _),⟨(zb _ _ _),⟨⟨(zb _ _ _),zYy⟩,(zb _ _ _)⟩⟩⟩⟩⟩
abbrev zfS:=(Int)×(List UInt8)×(Int)
abbrev zX9:=(Int)×(List UInt8)×(Int)
def zoT {β:Type}:zfS→(zX9→Option β)→Option β:=fun (a1,o0_0,o0_1) exit=>(za (zcz (a1)) fun r=>(bif !r then (za (zcD ((3:Int),o0_0,o0_1)) fun o0_1_2=>(exit ((0:Int),o0_0,o0_1_2))) else (za (yB (a1,o0_0,o0_1)) (unP fun r_2=>unP fun o0_0_2 o0_1_2=>(bif Nat.ble (List.length r_2) (140737488355328:Nat) then (za (zO (yR ((↑(List.length (Zd r_2)):Int),o0_0_2,o0_1_2,Zd r_2)) zY ((0:Int),(0:Int))) fun t5=>(exit (t5,o0_0_2,o0_1_2))) else none)))))
def ZZ (a:zfS):Option zX9:=zoT a some
theorem z0O (a:zfS) (k:zX9→Ans):zoT a k=za (ZZ a) k:=by
  obtain ⟨a1,o0_0,o0_1⟩:=a
  simp only [ZZ,zoT,zi,zh,zl,zc,zj,zm,zg]
def zpY:zfS→List AV×List AE.Obj:=fun (a1,o0_0,o0_1)=>([.ptr 0 0,.int .i64 a1],[.cells [.str o0_0,.int .i64 o0_1]])
def zN6 (l:List AV) (H:List AE.Obj):Option {a:zfS // (l,H)=zpY a}:=match l,H with
  | [.ptr 0 0,.int .i64 a1],[.cells [.str o0_0,.int .i64 o0_1]]=>some ⟨(a1,o0_0,o0_1),rfl⟩
  | _,_=>none
def zR6 (l:List AV) (H:List AE.Obj):Option zfS:=pk (zN6 l H)
theorem zU6 (l:List AV) (H:List AE.Obj) (a:zfS) (h:zR6 l H=some a):(l,H)=zpY a:=zt (o:=zN6 l H) h
def z5n:zfS→(AV→List AE.Obj→Ans)→zX9→Ans:=fun (a1,o0_0,o0_1) K=>unP fun r_y=>unP fun o0_0_y o0_1_y=>K (.int .i64 r_y) [.cells [.str o0_0_y,.int .i64 o0_1_y]]
theorem z7a (a:zfS) (K:AV→List AE.Obj→Ans):fnE Tryz.tab zhR zd 0 70 51 Tryz.f51.ntmps Tryz.f51.results.toList z0w z9m (zpY a).1 (zpY a).2 K=zoT a (z5n a K):=by kernel_rfl
def Ze4 (a:zfS) (K:AV→List AE.Obj→Ans):Ans:=za (ZZ a) fun y=>z5n a K y
def zsg:List AV→List AE.Obj→(AV→List AE.Obj→Ans)→Ans:=fun l H K=>za (zR6 l H) fun a=>Ze4 a K
theorem zdB:zQ Tryz.prog 51 zsg:=Zu (hint:=zd) (d:=0) (n:=70) mixed tabOk zMR Tryz.func51 (zE (by kernel_rfl)) (by decide +kernel) z1y zU6 z7a z0O
--@ field_Reader_End
noncomputable def zhF:Env:=[]
theorem zsp:zf Tryz.prog zhF:=zf.nil
noncomputable def zXk:Code:=Tryz.f96.body.getD .skip
noncomputable def zrl:Code:=zF [1,0,0,1,1,0] zXk
noncomputable def zuJ:Ann := .none
theorem zIt:zq Tryz.prog 23 zrl zuJ:=(zb _ _ _)
abbrev jP:=(List UInt8)×(Int)
abbrev zpp:=(Bool)
def zzY:jP→St:=fun (o0_0,o0_1)=>{ env:=[(0,.ptr 0 0)],stk:=[[(0,.ptr 0 0)]],H:=[.cells [.str o0_0,.int .i64 o0_1]],blk:=393216 }
def zwx (s:St):Option {x:jP // s=zzY x}:=match s with
  | { env:=[(0,.ptr 0 0)],stk:=[[(0,.ptr 0 0)]],H:=[.cells [.str o0_0,.int .i64 o0_1]],blk:=393216 }=>some ⟨(o0_0,o0_1),rfl⟩
  | _=>none
def zmq (s:St):Option jP:=pk (zwx s)
theorem zOB (s:St) (x:jP) (h:zmq s=some x):s=zzY x:=zt (o:=zwx s) h
def zlz:jP→(Ex→St→Ans)→zpp→Ans:=fun (o0_0,o0_1) K=>fun t6_y=>K (Ex.norm) { env:=[(0,.ptr 0 0),(6,.bool t6_y)],stk:=[[(0,.ptr 0 0)]],H:=[.cells [.str o0_0,.int .i64 o0_1]],blk:=393216 }
def zaJ {β:Type}:jP→(zpp→Option β)→Option β:=fun (o0_0,o0_1) exit=>(bif o0_1 == (0:Int) then (exit (!o0_0 == [])) else (exit (false)))
def WV (i:jP):Option zpp:=zaJ i some
theorem zB4 (i:jP) (k:zpp→Ans):zaJ i k=za (WV i) k:=by
  obtain ⟨o0_0,o0_1⟩:=i
  simp only [WV,zaJ,zi,zh,zl,zc,zj,zm,zg]
theorem zGH (i:jP) (K:Ex→St→Ans):zx Tryz.tab zhF zd (zy Tryz.tab zhF zd 0 64) 70 23 zuJ zrl (zB 1 (exk [0,6] [2] []) K) (zzY i)=zaJ i (zlz i K):=by kernel_rfl
theorem zPS:zw Tryz.prog 23 zrl (zG zmq WV zlz):=zA mixed tabOk zsp 1 (exk [0,6] [2] []) zIt zOB zGH zB4
noncomputable def zT7:(Ex→St→Ans)→St→Ans:=(zG zmq WV zlz)
theorem zXf:zw Tryz.prog 23 zrl zT7:=zPS
noncomputable def zpl:Code:=zF [1,0] zXk
noncomputable def zxG:Ann:=(.block (.seq .none (.cond .none (.seq (.cut 1 [0] zT7) .none))))
theorem zGV:zq Tryz.prog 23 zpl zxG:=⟨(zb _ _ _),⟨(zb _ _ _),⟨zXf,(zb _ _ _)⟩⟩⟩
abbrev QN:=(List UInt8)×(Int)
abbrev zpP:=(Unit) ⊕ (Unit)
def zAi:QN→St:=fun (o0_0,o0_1)=>{ env:=[(0,.ptr 0 0)],stk:=[[(0,.ptr 0 0)]],H:=[.cells [.str o0_0,.int .i64 o0_1]],blk:=393216 }
def zwG (s:St):Option {x:QN // s=zAi x}:=match s with
  | { env:=[(0,.ptr 0 0)],stk:=[[(0,.ptr 0 0)]],H:=[.cells [.str o0_0,.int .i64 o0_1]],blk:=393216 }=>some ⟨(o0_0,o0_1),rfl⟩
  | _=>none
def zjJ (s:St):Option QN:=pk (zwG s)
theorem zKH (s:St) (x:QN) (h:zjJ s=some x):s=zAi x:=zt (o:=zwG s) h
def znz:QN→(Ex→St→Ans)→zpP→Ans:=fun (o0_0,o0_1) K=>(Sum.elim (fun _=>K (Ex.ret) { env:=[(2,.int .i64 (2))],stk:=[[(0,.ptr 0 0)]],H:=[.cells [.str o0_0,.int .i64 o0_1]],blk:=393216 }) (fun _=>K (Ex.norm) { env:=[(0,.ptr 0 0)],stk:=[[(0,.ptr 0 0)]],H:=[.cells [.str o0_0,.int .i64 o0_1]],blk:=393216 }))
def zaR {β:Type}:QN→(zpP→Option β)→Option β:=fun (o0_0,o0_1) exit=>(za (WV (o0_0,o0_1)) fun t6=>(bif t6 then (exit (Sum.inl ())) else (exit (Sum.inr ()))))
def WY (i:QN):Option zpP:=zaR i some
theorem zyU (i:QN) (k:zpP→Ans):zaR i k=za (WY i) k:=by
  obtain ⟨o0_0,o0_1⟩:=i
  simp only [WY,zaR,zi,zh,zl,zc,zj,zm,zg]
theorem zGo (i:QN) (K:Ex→St→Ans):zx Tryz.tab zhF zd (zy Tryz.tab zhF zd 0 64) 70 23 zxG zpl (zB 1 (exk [0] [2] []) K) (zAi i)=zaR i (znz i K):=by kernel_rfl
theorem zQl:zw Tryz.prog 23 zpl (zG zjJ WY znz):=zA mixed tabOk zsp 1 (exk [0] [2] []) zGV zKH zGo zyU
noncomputable def zTd:(Ex→St→Ans)→St→Ans:=(zG zjJ WY znz)
theorem zZh:zw Tryz.prog 23 zpl zTd:=zQl
noncomputable def z2o:Ann:=(.seq .none (.seq (.cut 1 [0] zTd) .none))
theorem z5q:zq Tryz.prog 23 zXk z2o:=⟨(zb _ _ _),⟨zZh,(zb _ _ _)⟩⟩
abbrev zfV:=(List UInt8)×(Int)
abbrev zVN:=(Int)
def zxz {β:Type}:zfV→(zVN→Option β)→Option β:=fun (o0_0,o0_1) exit=>(za (WY (o0_0,o0_1)) (Sum.elim (fun _=>(exit ((2:Int)))) (fun _=>(exit (o0_1)))))
def zef (a:zfV):Option zVN:=zxz a some
theorem z5u (a:zfV) (k:zVN→Ans):zxz a k=za (zef a) k:=by
  obtain ⟨o0_0,o0_1⟩:=a
  simp only [zef,zxz,zi,zh,zl,zc,zj,zm,zg]
def zpV:zfV→List AV×List AE.Obj:=fun (o0_0,o0_1)=>([.ptr 0 0],[.cells [.str o0_0,.int .i64 o0_1]])
def zN7 (l:List AV) (H:List AE.Obj):Option {a:zfV // (l,H)=zpV a}:=match l,H with
  | [.ptr 0 0],[.cells [.str o0_0,.int .i64 o0_1]]=>some ⟨(o0_0,o0_1),rfl⟩
  | _,_=>none
def zRM (l:List AV) (H:List AE.Obj):Option zfV:=pk (zN7 l H)
theorem zWt (l:List AV) (H:List AE.Obj) (a:zfV) (h:zRM l H=some a):(l,H)=zpV a:=zt (o:=zN7 l H) h
def z4w:zfV→(AV→List AE.Obj→Ans)→zVN→Ans:=fun (o0_0,o0_1) K=>fun r_y=>K (.int .i64 r_y) [.cells [.str o0_0,.int .i64 o0_1]]
theorem z6X (a:zfV) (K:AV→List AE.Obj→Ans):fnE Tryz.tab zhF zd 0 70 96 Tryz.f96.ntmps Tryz.f96.results.toList z2o zXk (zpV a).1 (zpV a).2 K=zxz a (z4w a K):=by kernel_rfl
def Zeu (a:zfV) (K:AV→List AE.Obj→Ans):Ans:=za (zef a) fun y=>z4w a K y
def z0d:List AV→List AE.Obj→(AV→List AE.Obj→Ans)→Ans:=fun l H K=>za (zRM l H) fun a=>Zeu a K
theorem zBS:zQ Tryz.prog 96 z0d:=Zu (hint:=zd) (d:=0) (n:=70) mixed tabOk zsp Tryz.func96 (zE (by kernel_rfl)) (by decide +kernel) z5q zWt z6X z5u
--@ cyclic_New
noncomputable def Zap:Env:=[]
theorem Zbj:zf Tryz.prog Zap:=zf.nil
noncomputable def bq0:Code:=Tryz.f139.body.getD .skip
noncomputable def Zac:Ann := .none
theorem z8L:zq Tryz.prog 3 bq0 Zac:=(zb _ _ _)
abbrev Aq0:=Unit
abbrev Yq0:=Unit
def zMo {β:Type}:Aq0→(Yq0→Option β)→Option β:=fun _ exit=>(exit ())
def zv9 (a:Aq0):Option Yq0:=zMo a some
theorem z8g (a:Aq0) (k:Yq0→Ans):zMo a k=za (zv9 a) k:=by
  obtain z:=a
  simp only [zv9,zMo,zi,zh,zl,zc,zj,zm,zg]
def ztz:Aq0→List AV×List AE.Obj:=fun _=>([],[])
def zSY (l:List AV) (H:List AE.Obj):Option {a:Aq0 // (l,H)=ztz a}:=match l,H with
  | [],[]=>some ⟨(),rfl⟩
  | _,_=>none
def z1k (l:List AV) (H:List AE.Obj):Option Aq0:=pk (zSY l H)
theorem z5S (l:List AV) (H:List AE.Obj) (a:Aq0) (h:z1k l H=some a):(l,H)=ztz a:=zt (o:=zSY l H) h
def Zau:Aq0→(AV→List AE.Obj→Ans)→Yq0→Ans:=fun _ K=>fun _=>K (.ptr 0 0) [.cells [.int .u32 (0)]]
theorem Zbl (a:Aq0) (K:AV→List AE.Obj→Ans):fnE Tryz.tab Zap zd 0 70 139 Tryz.f139.ntmps Tryz.f139.results.toList Zac bq0 (ztz a).1 (ztz a).2 K=zMo a (Zau a K):=by kernel_rfl
def ZfC (a:Aq0) (K:AV→List AE.Obj→Ans):Ans:=za (zv9 a) fun y=>Zau a K y
def Fq0:List AV→List AE.Obj→(AV→List AE.Obj→Ans)→Ans:=fun l H K=>za (z1k l H) fun a=>ZfC a K
theorem z4h:zQ Tryz.prog 139 Fq0:=Zu (hint:=zd) (d:=0) (n:=70) mixed tabOk Zbj Tryz.func139 (zE (by kernel_rfl)) (by decide +kernel) z8L z5S Zbl z8g
--@ cyclic_step
noncomputable def zqo:Env:=[]
theorem zST:zf Tryz.prog zqo:=zf.nil
noncomputable def bq5:Code:=Tryz.f179.body.getD .skip
noncomputable def zlb:Code:=zF [1,1,0,1,0,0] bq5
noncomputable def zny:Ann := .at 0 [0,9] (.loop .none)
theorem zL4:zq Tryz.prog 20 (.loop zlb) zny:=Zi (zb _ _ _)
abbrev zbE:=Unit
abbrev zyt:=(Int)
abbrev q5:=(Int)×(Int)
def ztH:zbE→q5→St:=fun _ (t0,t9)=>{ env:=[(0,.int .u32 t0),(9,.int .i64 t9)],stk:=[[]],H:=[],blk:=733184 }
def zEC (s:St):Option {x:zbE×q5 // s=ztH x.1 x.2}:=match s with
  | { env:=[(0,.int .u32 t0),(9,.int .i64 t9)],stk:=[[]],H:=[],blk:=733184 }=>some ⟨((),(t0,t9)),rfl⟩
  | _=>none
def zsE (s:St):Option (zbE×q5):=pk (zEC s)
theorem zQt (s:St) (x:zbE×q5) (h:zsE s=some x):s=ztH x.1 x.2:=zt (o:=zEC s) h
def zs6:zbE→(Ex→St→Ans)→zyt→Ans:=fun _ K=>fun t0_y=>K (Ex.exit 0) { env:=[(0,.int .u32 t0_y)],stk:=[[]],H:=[],blk:=733184 }
def J7 {β:Type}:zbE→q5→(q5→Option β)→(zyt→Option β)→Option β:=fun _ (t0,t9) next exit=>(bif decide (t9<(8:Int)) then (next (IntKind.wrap .u32 (↑(Int.toNat (Int.fdiv t0 (2:Int) % (4294967296:Int)) ^^^ Int.toNat (IntKind.wrap .u32 (↑((3988292384:Nat) &&& Int.toNat (IntKind.wrap .u32 ((0:Int) - IntKind.wrap .u32 (↑(Int.toNat (t0 % (4294967296:Int)) &&& (1:Nat)):Int)) % (4294967296:Int))):Int) % (4294967296:Int))):Int),IntKind.wrap .i64 (t9+(1:Int)))) else (exit (t0)))
def YO (i:zbE) (v:q5):Option (q5 ⊕ zyt):=J7 i v (fun v=>some (.inl v)) (fun y=>some (.inr y))
theorem zGF (i:zbE) (v:q5) (next:q5→Ans) (exit:zyt→Ans):J7 i v next exit=za (YO i v) (Sum.elim next exit):=by
  obtain z:=i
  obtain ⟨t0,t9⟩:=v
  simp only [YO,J7,zi,zh,zl,zc,zj,zm,zg,Sum.elim_inl,Sum.elim_inr]
theorem zLQ (n:Nat) (i:zbE) (v:q5) (K:Ex→St→Ans):zx Tryz.tab zqo zd (zy Tryz.tab zqo zd 0 64) (n+1) 20 zny (.loop zlb) (zB 0 (exk [0] [4] [(0,[0])]) K) (ztH i v)=J7 i v (fun v'=>zx Tryz.tab zqo zd (zy Tryz.tab zqo zd 0 64) n 20 zny (.loop zlb) (zB 0 (exk [0] [4] [(0,[0])]) K) (ztH i v')) (fun y=>zs6 i K y):=by kernel_rfl
theorem zZ8:zw Tryz.prog 20 (.loop zlb) (Zm zsE YO zs6):=Zf mixed tabOk zST 0 (exk [0] [4] [(0,[0])]) zL4 zQt zLQ zGF
noncomputable def z4J:(Ex→St→Ans)→St→Ans:=(Zm zsE YO zs6)
theorem z3I:zw Tryz.prog 20 (.loop zlb) z4J:=zZ8
noncomputable def Zat:Ann:=(.seq .none (.seq .none (.seq (.seq .none (.block (.cut 0 [0,9] z4J))) .none)))
theorem Zaa:zq Tryz.prog 20 bq5 Zat:=⟨(zb _ _ _),⟨(zb _ _ _),⟨⟨(zb _ _ _),z3I⟩,(zb _ _ _)⟩⟩⟩
abbrev Aq5:=(Int)×(Int)
abbrev Yq5:=(Int)
def zNr {β:Type}:Aq5→(Yq5→Option β)→Option β:=fun (a0,a1) exit=>(za (zO (YO ()) zY (IntKind.wrap .u32 (↑(Int.toNat (a0 % (4294967296:Int)) ^^^ Int.toNat (IntKind.wrap .u32 a1 % (4294967296:Int))):Int),(0:Int))) fun t0=>(exit (t0)))
def zn0 (a:Aq5):Option Yq5:=zNr a some
theorem z9d (a:Aq5) (k:Yq5→Ans):zNr a k=za (zn0 a) k:=by
  obtain ⟨a0,a1⟩:=a
  simp only [zn0,zNr,zi,zh,zl,zc,zj,zm,zg]
def zOO:Aq5→List AV:=fun (a0,a1)=>[.int .u32 a0,.int .u8 a1]
def zUJ (l:List AV):Option {a:Aq5 // l=zOO a}:=match l with
  | [.int .u32 a0,.int .u8 a1]=>some ⟨(a0,a1),rfl⟩
  | _=>none
def z40 (l:List AV):Option Aq5:=pk (zUJ l)
theorem z1x (l:List AV) (a:Aq5) (h:z40 l=some a):l=zOO a:=zt (o:=zUJ l) h
def zOw:Aq5→Yq5→AV:=fun (a0,a1)=>fun r_y => .int .u32 r_y
theorem z5m : ∀(a:Aq5) (y:Yq5),(zOw a y).closed1=true:=by
  rintro ⟨a0,a1⟩ y <;> first | rfl | exact Empty.elim y
theorem ZbG (a:Aq5):fnE Tryz.tab zqo zd 0 70 179 Tryz.f179.ntmps Tryz.f179.results.toList Zat bq5 (zOO a) [] (fun v _=>some (v,[]))=zNr a (fun y=>some (zOw a y,[])):=by kernel_rfl
def Zfs (a:Aq5) (K:AV→Ans):Ans:=za (zn0 a) fun y=>K (zOw a y)
def Fq5:List AV→(AV→Ans)→Ans:=fun l K=>za (z40 l) fun a=>Zfs a K
theorem z5U:zM Tryz.prog 179 Fq5:=zL (hint:=zd) (d:=0) (n:=70) mixed tabOk zST Tryz.func179 (zE (by kernel_rfl)) (by decide +kernel) Zaa z1x ZbG z9d z5m
--@ cyclic_State_Add
noncomputable def zps:Env:=[(179,.pure Fq5)]
theorem zTx:zf Tryz.prog zps:=zf.cons z5U (zf.nil)
noncomputable def bq2:Code:=Tryz.f140.body.getD .skip
noncomputable def zma:Code:=zF [1,1,0,1,0,0] bq2
noncomputable def zlZ:Ann := .at 1 [0,1,4,14,15] (.loop .none)
theorem zLR:zq Tryz.prog 29 (.loop zma) zlZ:=Zi (zb _ _ _)
abbrev za2:=(List UInt8)×(Int)×(Int)
abbrev zt6:=(Int)
abbrev q0:=(Int)×(Int)
def zuh:za2→q0→St:=fun (t1,t14,o0_0) (t4,t15)=>{ env:=[(0,.ptr 0 0),(1,.str t1),(4,.int .u32 t4),(14,.int .i64 t14),(15,.int .i64 t15)],stk:=[[(0,.ptr 0 0)]],H:=[.cells [.int .u32 o0_0]],blk:=573440 }
def zEG (s:St):Option {x:za2×q0 // s=zuh x.1 x.2}:=match s with
  | { env:=[(0,.ptr 0 0),(1,.str t1),(4,.int .u32 t4),(14,.int .i64 t14),(15,.int .i64 t15)],stk:=[[(0,.ptr 0 0)]],H:=[.cells [.int .u32 o0_0]],blk:=573440 }=>some ⟨((t1,t14,o0_0),(t4,t15)),rfl⟩
  | _=>none
def zs7 (s:St):Option (za2×q0):=pk (zEG s)
theorem zQy (s:St) (x:za2×q0) (h:zs7 s=some x):s=zuh x.1 x.2:=zt (o:=zEG s) h
def zsr:za2→(Ex→St→Ans)→zt6→Ans:=fun (t1,t14,o0_0) K=>fun t4_y=>K (Ex.exit 0) { env:=[(0,.ptr 0 0),(4,.int .u32 t4_y)],stk:=[[(0,.ptr 0 0)]],H:=[.cells [.int .u32 o0_0]],blk:=573440 }
def J6 {β:Type}:za2→q0→(q0→Option β)→(zt6→Option β)→Option β:=fun (t1,t14,o0_0) (t4,t15) next exit=>(bif decide (t15<t14) then (za (nth t1 t15) fun x=>(za (zn0 (t4,(↑(UInt8.toNat x):Int))) fun r=>(next (r,IntKind.wrap .i64 (t15+(1:Int)))))) else (exit (t4)))
def y9 (i:za2) (v:q0):Option (q0 ⊕ zt6):=J6 i v (fun v=>some (.inl v)) (fun y=>some (.inr y))
theorem zIE (i:za2) (v:q0) (next:q0→Ans) (exit:zt6→Ans):J6 i v next exit=za (y9 i v) (Sum.elim next exit):=by
  obtain ⟨t1,t14,o0_0⟩:=i
  obtain ⟨t4,t15⟩:=v
  simp only [y9,J6,zi,zh,zl,zc,zj,zm,zg,Sum.elim_inl,Sum.elim_inr]
theorem zOn (n:Nat) (i:za2) (v:q0) (K:Ex→St→Ans):zx Tryz.tab zps zd (zy Tryz.tab zps zd 0 64) (n+1) 29 zlZ (.loop zma) (zB 1 (exk [0,4] [] [(0,[0,4])]) K) (zuh i v)=J6 i v (fun v'=>zx Tryz.tab zps zd (zy Tryz.tab zps zd 0 64) n 29 zlZ (.loop zma) (zB 1 (exk [0,4] [] [(0,[0,4])]) K) (zuh i v')) (fun y=>zsr i K y):=by kernel_rfl
theorem z0e:zw Tryz.prog 29 (.loop zma) (Zm zs7 y9 zsr):=Zf mixed tabOk zTx 1 (exk [0,4] [] [(0,[0,4])]) zLR zQy zOn zIE
noncomputable def z5N:(Ex→St→Ans)→St→Ans:=(Zm zs7 y9 zsr)
theorem z4p:zw Tryz.prog 29 (.loop zma) z5N:=z0e
noncomputable def Zak:Ann:=(.seq .none (.seq .none (.seq (.seq .none (.block (.cut 1 [0,1,4,14,15] z5N))) .none)))
theorem z7c:zq Tryz.prog 29 bq2 Zak:=⟨(zb _ _ _),⟨(zb _ _ _),⟨⟨(zb _ _ _),z4p⟩,(zb _ _ _)⟩⟩⟩
abbrev Aq2:=(List UInt8)×(Int)
abbrev Yq2:=(Int)
def zKz {β:Type}:Aq2→(Yq2→Option β)→Option β:=fun (a1,o0_0) exit=>(za (zO (y9 (a1,(↑(List.length a1):Int),o0_0)) zY (IntKind.wrap .u32 (↑(Int.toNat (o0_0 % (4294967296:Int)) ^^^ (4294967295:Nat)):Int),(0:Int))) fun t4=>(exit (IntKind.wrap .u32 (↑(Int.toNat (t4 % (4294967296:Int)) ^^^ (4294967295:Nat)):Int))))
def zxm (a:Aq2):Option Yq2:=zKz a some
theorem z9i (a:Aq2) (k:Yq2→Ans):zKz a k=za (zxm a) k:=by
  obtain ⟨a1,o0_0⟩:=a
  simp only [zxm,zKz,zi,zh,zl,zc,zj,zm,zg]
def zvg:Aq2→List AV×List AE.Obj:=fun (a1,o0_0)=>([.ptr 0 0,.str a1],[.cells [.int .u32 o0_0]])
def zSH (l:List AV) (H:List AE.Obj):Option {a:Aq2 // (l,H)=zvg a}:=match l,H with
  | [.ptr 0 0,.str a1],[.cells [.int .u32 o0_0]]=>some ⟨(a1,o0_0),rfl⟩
  | _,_=>none
def z4x (l:List AV) (H:List AE.Obj):Option Aq2:=pk (zSH l H)
theorem z3r (l:List AV) (H:List AE.Obj) (a:Aq2) (h:z4x l H=some a):(l,H)=zvg a:=zt (o:=zSH l H) h
def Zaj:Aq2→(AV→List AE.Obj→Ans)→Yq2→Ans:=fun (a1,o0_0) K=>fun o0_0_y=>K (.tup []) [.cells [.int .u32 o0_0_y]]
theorem Zbm (a:Aq2) (K:AV→List AE.Obj→Ans):fnE Tryz.tab zps zd 0 70 140 Tryz.f140.ntmps Tryz.f140.results.toList Zak bq2 (zvg a).1 (zvg a).2 K=zKz a (Zaj a K):=by kernel_rfl
def Zfp (a:Aq2) (K:AV→List AE.Obj→Ans):Ans:=za (zxm a) fun y=>Zaj a K y
def Fq2:List AV→List AE.Obj→(AV→List AE.Obj→Ans)→Ans:=fun l H K=>za (z4x l H) fun a=>Zfp a K
theorem z2a:zQ Tryz.prog 140 Fq2:=Zu (hint:=zd) (d:=0) (n:=70) mixed tabOk zTx Tryz.func140 (zE (by kernel_rfl)) (by decide +kernel) z7c z3r Zbm z9i
--@ cyclic_State_Sum
noncomputable def Zaw:Env:=[]
theorem Za9:zf Tryz.prog Zaw:=zf.nil
noncomputable def bq3:Code:=Tryz.f141.body.getD .skip
noncomputable def Zaf:Ann := .none
theorem z6Y:zq Tryz.prog 10 bq3 Zaf:=(zb _ _ _)
abbrev Aq3:=(Int)
abbrev Yq3:=(Int)
def zLu {β:Type}:Aq3→(Yq3→Option β)→Option β:=fun o0_0 exit=>(exit (IntKind.wrap .i64 o0_0))
def zxj (a:Aq3):Option Yq3:=zLu a some
theorem z9V (a:Aq3) (k:Yq3→Ans):zLu a k=za (zxj a) k:=by
  obtain z:=a
  simp only [zxj,zLu,zi,zh,zl,zc,zj,zm,zg]
def zwy:Aq3→List AV×List AE.Obj:=fun o0_0=>([.ptr 0 0],[.cells [.int .u32 o0_0]])
def zUv (l:List AV) (H:List AE.Obj):Option {a:Aq3 // (l,H)=zwy a}:=match l,H with
  | [.ptr 0 0],[.cells [.int .u32 o0_0]]=>some ⟨(o0_0),rfl⟩
  | _,_=>none
def z55 (l:List AV) (H:List AE.Obj):Option Aq3:=pk (zUv l H)
theorem z5T (l:List AV) (H:List AE.Obj) (a:Aq3) (h:z55 l H=some a):(l,H)=zwy a:=zt (o:=zUv l H) h
def ZaA:Aq3→(AV→List AE.Obj→Ans)→Yq3→Ans:=fun o0_0 K=>fun r_y=>K (.int .i64 r_y) [.cells [.int .u32 o0_0]]
theorem ZbM (a:Aq3) (K:AV→List AE.Obj→Ans):fnE Tryz.tab Zaw zd 0 70 141 Tryz.f141.ntmps Tryz.f141.results.toList Zaf bq3 (zwy a).1 (zwy a).2 K=zLu a (ZaA a K):=by kernel_rfl
def ZfK (a:Aq3) (K:AV→List AE.Obj→Ans):Ans:=za (zxj a) fun y=>ZaA a K y
def Fq3:List AV→List AE.Obj→(AV→List AE.Obj→Ans)→Ans:=fun l H K=>za (z55 l H) fun a=>ZfK a K
theorem z4S:zQ Tryz.prog 141 Fq3:=Zu (hint:=zd) (d:=0) (n:=70) mixed tabOk Za9 Tryz.func141 (zE (by kernel_rfl)) (by decide +kernel) z6Y z5T ZbM z9V
--@ cyclic_Of
noncomputable def ZaB:Env:=[(139,.func Fq0),(140,.func Fq2),(141,.func Fq3)]
theorem ZaU:zf Tryz.prog ZaB:=zf.cons z4h (zf.cons z2a (zf.cons z4S (zf.nil)))
noncomputable def bq1:Code:=Tryz.f93.body.getD .skip
noncomputable def Zax:Ann := .none
theorem z91:zq Tryz.prog 10 bq1 Zax:=(zb _ _ _)
abbrev Aq1:=(List UInt8)
abbrev Yq1:=(Int)
def zKp {β:Type}:Aq1→(Yq1→Option β)→Option β:=fun a0 exit=>(za (zv9 ()) fun _=>(za (zxm (a0,(0:Int))) fun o0_0=>(za (zxj (o0_0)) fun r=>(exit (r)))))
def znO (a:Aq1):Option Yq1:=zKp a some
theorem z8k (a:Aq1) (k:Yq1→Ans):zKp a k=za (znO a) k:=by
  obtain z:=a
  simp only [znO,zKp,zi,zh,zl,zc,zj,zm,zg]
def zOV:Aq1→List AV:=fun a0=>[.str a0]
def zTI (l:List AV):Option {a:Aq1 // l=zOV a}:=match l with
  | [.str a0]=>some ⟨(a0),rfl⟩
  | _=>none
def z1z (l:List AV):Option Aq1:=pk (zTI l)
theorem z2D (l:List AV) (a:Aq1) (h:z1z l=some a):l=zOV a:=zt (o:=zTI l) h
def zLL:Aq1→Yq1→AV:=fun a0=>fun r_y => .int .i64 r_y
theorem z5g : ∀(a:Aq1) (y:Yq1),(zLL a y).closed1=true:=by
  rintro z y <;> first | rfl | exact Empty.elim y
theorem ZbS (a:Aq1):fnE Tryz.tab ZaB zd 0 70 93 Tryz.f93.ntmps Tryz.f93.results.toList Zax bq1 (zOV a) [] (fun v _=>some (v,[]))=zKp a (fun y=>some (zLL a y,[])):=by kernel_rfl
def ZfI (a:Aq1) (K:AV→Ans):Ans:=za (znO a) fun y=>K (zLL a y)
def Fq1:List AV→(AV→Ans)→Ans:=fun l K=>za (z1z l) fun a=>ZfI a K
theorem z4U:zM Tryz.prog 93 Fq1:=zL (hint:=zd) (d:=0) (n:=70) mixed tabOk ZaU Tryz.func93 (zE (by kernel_rfl)) (by decide +kernel) z91 z2D ZbS z8k z5g
--@ cyclic_Tail
noncomputable def qG:Env:=[(93,.pure Fq1)]
theorem zbX:zf Tryz.prog qG:=zf.cons z4U (zf.nil)
noncomputable def bq4:Code:=Tryz.f52.body.getD .skip
noncomputable def Wt:Code:=zF [1,1,1,0,1,0,0] bq4
noncomputable def J2:Ann := .none
theorem q3:zq Tryz.prog 21 Wt J2:=(zb _ _ _)
abbrev zbn:=(Int)×(Int)×(Int)×(Int)×(Int)
abbrev zyj:=Unit
def zMT:zbn→St:=fun (t3,o0_0,o0_1,o0_2,o0_3)=>{ env:=[(3,.int .i64 t3),(4,.ptr 0 0),(8,.int .i64 (4))],stk:=[[]],H:=[.cells [.int .u8 o0_0,.int .u8 o0_1,.int .u8 o0_2,.int .u8 o0_3]],blk:=212992 }
def zEx (s:St):Option {x:zbn // s=zMT x}:=match s with
  | { env:=[(3,.int .i64 t3),(4,.ptr 0 0),(8,.int .i64 r1)],stk:=[[]],H:=[.cells [.int .u8 o0_0,.int .u8 o0_1,.int .u8 o0_2,.int .u8 o0_3]],blk:=212992 }=>if h1:r1=4 then some ⟨(t3,o0_0,o0_1,o0_2,o0_3),by subst h1;rfl⟩ else none
  | _=>none
def ziJ (s:St):Option zbn:=pk (zEx s)
theorem zRf (s:St) (x:zbn) (h:ziJ s=some x):s=zMT x:=zt (o:=zEx s) h
def zr7:zbn→(Ex→St→Ans)→zyj→Ans:=fun (t3,o0_0,o0_1,o0_2,o0_3) K=>fun _=>K (Ex.exit 0) { env:=[(4,.ptr 0 0)],stk:=[[]],H:=[.cells [.int .u8 o0_0,.int .u8 o0_1,.int .u8 o0_2,.int .u8 o0_3]],blk:=212992 }
def zcX {β:Type}:zbn→(zyj→Option β)→Option β:=fun (t3,o0_0,o0_1,o0_2,o0_3) exit=>(exit ())
def jv (i:zbn):Option zyj:=zcX i some
theorem zHI (i:zbn) (k:zyj→Ans):zcX i k=za (jv i) k:=by
  obtain ⟨t3,o0_0,o0_1,o0_2,o0_3⟩:=i
  simp only [jv,zcX,zi,zh,zl,zc,zj,zm,zg]
theorem zJn (i:zbn) (K:Ex→St→Ans):zx Tryz.tab qG zd (zy Tryz.tab qG zd 0 64) 70 21 J2 Wt (zB 0 (exk [3,4,8] [2] [(0,[4])]) K) (zMT i)=zcX i (zr7 i K):=by kernel_rfl
theorem zWu:zw Tryz.prog 21 Wt (zG ziJ jv zr7):=zA mixed tabOk zbX 0 (exk [3,4,8] [2] [(0,[4])]) q3 zRf zJn zHI
abbrev Wl:=(Int)×(Int)×(Int)×(Int)×(Int)
abbrev ziM:=(Int)
def zsY:Wl→St:=fun (t3,o0_0,o0_1,o0_2,o0_3)=>{ env:=[(3,.int .i64 t3),(4,.ptr 0 0),(8,.int .i64 (0))],stk:=[[]],H:=[.cells [.int .u8 o0_0,.int .u8 o0_1,.int .u8 o0_2,.int .u8 o0_3]],blk:=212992 }
def zrU (s:St):Option {x:Wl // s=zsY x}:=match s with
  | { env:=[(3,.int .i64 t3),(4,.ptr 0 0),(8,.int .i64 r1)],stk:=[[]],H:=[.cells [.int .u8 o0_0,.int .u8 o0_1,.int .u8 o0_2,.int .u8 o0_3]],blk:=212992 }=>if h1:r1=0 then some ⟨(t3,o0_0,o0_1,o0_2,o0_3),by subst h1;rfl⟩ else none
  | _=>none
def zdk (s:St):Option Wl:=pk (zrU s)
theorem zIs (s:St) (x:Wl) (h:zdk s=some x):s=zsY x:=zt (o:=zrU s) h
def ziA:Wl→(Ex→St→Ans)→ziM→Ans:=fun (t3,o0_0,o0_1,o0_2,o0_3) K=>fun o0_0_y=>K (Ex.norm) { env:=[(3,.int .i64 t3),(4,.ptr 0 0),(8,.int .i64 (1))],stk:=[[]],H:=[.cells [.int .u8 o0_0_y,.int .u8 o0_1,.int .u8 o0_2,.int .u8 o0_3]],blk:=212993 }
def Jt {β:Type}:Wl→(ziM→Option β)→Option β:=fun (t3,o0_0,o0_1,o0_2,o0_3) exit=>(exit (IntKind.wrap .u8 (Int.fdiv t3 (1:Int))))
def wu (i:Wl):Option ziM:=Jt i some
theorem zwo (i:Wl) (k:ziM→Ans):Jt i k=za (wu i) k:=by
  obtain ⟨t3,o0_0,o0_1,o0_2,o0_3⟩:=i
  simp only [wu,Jt,zi,zh,zl,zc,zj,zm,zg]
theorem zBU (i:Wl) (K:Ex→St→Ans):zx Tryz.tab qG zd (zy Tryz.tab qG zd 0 64) 70 21 J2 Wt (zB 0 (exk [3,4,8] [2] [(0,[4])]) K) (zsY i)=Jt i (ziA i K):=by kernel_rfl
theorem zKi:zw Tryz.prog 21 Wt (zG zdk wu ziA):=zA mixed tabOk zbX 0 (exk [3,4,8] [2] [(0,[4])]) q3 zIs zBU zwo
abbrev Wm:=(Int)×(Int)×(Int)×(Int)×(Int)
abbrev ziP:=(Int)
def zsV:Wm→St:=fun (t3,o0_0,o0_1,o0_2,o0_3)=>{ env:=[(3,.int .i64 t3),(4,.ptr 0 0),(8,.int .i64 (1))],stk:=[[]],H:=[.cells [.int .u8 o0_0,.int .u8 o0_1,.int .u8 o0_2,.int .u8 o0_3]],blk:=212992 }
def zrQ (s:St):Option {x:Wm // s=zsV x}:=match s with
  | { env:=[(3,.int .i64 t3),(4,.ptr 0 0),(8,.int .i64 r1)],stk:=[[]],H:=[.cells [.int .u8 o0_0,.int .u8 o0_1,.int .u8 o0_2,.int .u8 o0_3]],blk:=212992 }=>if h1:r1=1 then some ⟨(t3,o0_0,o0_1,o0_2,o0_3),by subst h1;rfl⟩ else none
  | _=>none
def zdv (s:St):Option Wm:=pk (zrQ s)
theorem zIB (s:St) (x:Wm) (h:zdv s=some x):s=zsV x:=zt (o:=zrQ s) h
def ziW:Wm→(Ex→St→Ans)→ziP→Ans:=fun (t3,o0_0,o0_1,o0_2,o0_3) K=>fun o0_1_y=>K (Ex.norm) { env:=[(3,.int .i64 t3),(4,.ptr 0 0),(8,.int .i64 (2))],stk:=[[]],H:=[.cells [.int .u8 o0_0,.int .u8 o0_1_y,.int .u8 o0_2,.int .u8 o0_3]],blk:=212993 }
def Js {β:Type}:Wm→(ziP→Option β)→Option β:=fun (t3,o0_0,o0_1,o0_2,o0_3) exit=>(exit (IntKind.wrap .u8 (Int.fdiv t3 (256:Int))))
def ww (i:Wm):Option ziP:=Js i some
theorem zyh (i:Wm) (k:ziP→Ans):Js i k=za (ww i) k:=by
  obtain ⟨t3,o0_0,o0_1,o0_2,o0_3⟩:=i
  simp only [ww,Js,zi,zh,zl,zc,zj,zm,zg]
theorem zyZ (i:Wm) (K:Ex→St→Ans):zx Tryz.tab qG zd (zy Tryz.tab qG zd 0 64) 70 21 J2 Wt (zB 0 (exk [3,4,8] [2] [(0,[4])]) K) (zsV i)=Js i (ziW i K):=by kernel_rfl
theorem zMm:zw Tryz.prog 21 Wt (zG zdv ww ziW):=zA mixed tabOk zbX 0 (exk [3,4,8] [2] [(0,[4])]) q3 zIB zyZ zyh
abbrev Wk:=(Int)×(Int)×(Int)×(Int)×(Int)
abbrev zjg:=(Int)
def zs2:Wk→St:=fun (t3,o0_0,o0_1,o0_2,o0_3)=>{ env:=[(3,.int .i64 t3),(4,.ptr 0 0),(8,.int .i64 (2))],stk:=[[]],H:=[.cells [.int .u8 o0_0,.int .u8 o0_1,.int .u8 o0_2,.int .u8 o0_3]],blk:=212992 }
def zrK (s:St):Option {x:Wk // s=zs2 x}:=match s with
  | { env:=[(3,.int .i64 t3),(4,.ptr 0 0),(8,.int .i64 r1)],stk:=[[]],H:=[.cells [.int .u8 o0_0,.int .u8 o0_1,.int .u8 o0_2,.int .u8 o0_3]],blk:=212992 }=>if h1:r1=2 then some ⟨(t3,o0_0,o0_1,o0_2,o0_3),by subst h1;rfl⟩ else none
  | _=>none
def zdr (s:St):Option Wk:=pk (zrK s)
theorem zFL (s:St) (x:Wk) (h:zdr s=some x):s=zs2 x:=zt (o:=zrK s) h
def zie:Wk→(Ex→St→Ans)→zjg→Ans:=fun (t3,o0_0,o0_1,o0_2,o0_3) K=>fun o0_2_y=>K (Ex.norm) { env:=[(3,.int .i64 t3),(4,.ptr 0 0),(8,.int .i64 (3))],stk:=[[]],H:=[.cells [.int .u8 o0_0,.int .u8 o0_1,.int .u8 o0_2_y,.int .u8 o0_3]],blk:=212993 }
def Jv {β:Type}:Wk→(zjg→Option β)→Option β:=fun (t3,o0_0,o0_1,o0_2,o0_3) exit=>(exit (IntKind.wrap .u8 (Int.fdiv t3 (65536:Int))))
def wX (i:Wk):Option zjg:=Jv i some
theorem zu9 (i:Wk) (k:zjg→Ans):Jv i k=za (wX i) k:=by
  obtain ⟨t3,o0_0,o0_1,o0_2,o0_3⟩:=i
  simp only [wX,Jv,zi,zh,zl,zc,zj,zm,zg]
theorem zz4 (i:Wk) (K:Ex→St→Ans):zx Tryz.tab qG zd (zy Tryz.tab qG zd 0 64) 70 21 J2 Wt (zB 0 (exk [3,4,8] [2] [(0,[4])]) K) (zs2 i)=Jv i (zie i K):=by kernel_rfl
theorem zMX:zw Tryz.prog 21 Wt (zG zdr wX zie):=zA mixed tabOk zbX 0 (exk [3,4,8] [2] [(0,[4])]) q3 zFL zz4 zu9
abbrev Wh:=(Int)×(Int)×(Int)×(Int)×(Int)
abbrev ziU:=(Int)
def ztb:Wh→St:=fun (t3,o0_0,o0_1,o0_2,o0_3)=>{ env:=[(3,.int .i64 t3),(4,.ptr 0 0),(8,.int .i64 (3))],stk:=[[]],H:=[.cells [.int .u8 o0_0,.int .u8 o0_1,.int .u8 o0_2,.int .u8 o0_3]],blk:=212992 }
def zrB (s:St):Option {x:Wh // s=ztb x}:=match s with
  | { env:=[(3,.int .i64 t3),(4,.ptr 0 0),(8,.int .i64 r1)],stk:=[[]],H:=[.cells [.int .u8 o0_0,.int .u8 o0_1,.int .u8 o0_2,.int .u8 o0_3]],blk:=212992 }=>if h1:r1=3 then some ⟨(t3,o0_0,o0_1,o0_2,o0_3),by subst h1;rfl⟩ else none
  | _=>none
def zi3 (s:St):Option Wh:=pk (zrB s)
theorem zGj (s:St) (x:Wh) (h:zi3 s=some x):s=ztb x:=zt (o:=zrB s) h
def zjf:Wh→(Ex→St→Ans)→ziU→Ans:=fun (t3,o0_0,o0_1,o0_2,o0_3) K=>fun o0_3_y=>K (Ex.norm) { env:=[(3,.int .i64 t3),(4,.ptr 0 0),(8,.int .i64 (4))],stk:=[[]],H:=[.cells [.int .u8 o0_0,.int .u8 o0_1,.int .u8 o0_2,.int .u8 o0_3_y]],blk:=212993 }
def JB {β:Type}:Wh→(ziU→Option β)→Option β:=fun (t3,o0_0,o0_1,o0_2,o0_3) exit=>(exit (IntKind.wrap .u8 (Int.fdiv t3 (16777216:Int))))
def wU (i:Wh):Option ziU:=JB i some
theorem zxA (i:Wh) (k:ziU→Ans):JB i k=za (wU i) k:=by
  obtain ⟨t3,o0_0,o0_1,o0_2,o0_3⟩:=i
  simp only [wU,JB,zi,zh,zl,zc,zj,zm,zg]
theorem zA7 (i:Wh) (K:Ex→St→Ans):zx Tryz.tab qG zd (zy Tryz.tab qG zd 0 64) 70 21 J2 Wt (zB 0 (exk [3,4,8] [2] [(0,[4])]) K) (ztb i)=JB i (zjf i K):=by kernel_rfl
theorem zMN:zw Tryz.prog 21 Wt (zG zi3 wU zjf):=zA mixed tabOk zbX 0 (exk [3,4,8] [2] [(0,[4])]) q3 zGj zA7 zxA
noncomputable def z1V:(Ex→St→Ans)→St→Ans:=(zs1 ziJ (zG ziJ jv zr7) (zs1 zdk (zG zdk wu ziA) (zs1 zdv (zG zdv ww ziW) (zs1 zdr (zG zdr wX zie) (zG zi3 wU zjf)))))
theorem z30:zw Tryz.prog 21 Wt z1V:=(zc1 zWu (zc1 zKi (zc1 zMm (zc1 zMX zMN))))
noncomputable def zvR:Code:=zF [1,1,1,0,1] bq4
noncomputable def zEM:Ann:=(.block (.at 0 [3,4,8] (.loop (.cut 0 [3,4,8] z1V))))
theorem zOy:zq Tryz.prog 21 zvR zEM:=(Zi z30)
abbrev zaw:=(Int)
abbrev zvy:=(Int)×(Int)×(Int)×(Int)
def zON:zaw→St:=fun t3=>{ env:=[(3,.int .i64 t3),(4,.ptr 0 0),(8,.int .i64 (0))],stk:=[[]],H:=[.cells [.int .u8 (0),.int .u8 (0),.int .u8 (0),.int .u8 (0)]],blk:=212992 }
def zEq (s:St):Option {x:zaw // s=zON x}:=match s with
  | { env:=[(3,.int .i64 t3),(4,.ptr 0 0),(8,.int .i64 r1)],stk:=[[]],H:=[.cells [.int .u8 r2,.int .u8 r3,.int .u8 r4,.int .u8 r5]],blk:=212992 }=>if h1:r1=0 then if h2:r2=0 then if h3:r3=0 then if h4:r4=0 then if h5:r5=0 then some ⟨(t3),by subst h1 h2 h3 h4 h5;rfl⟩ else none else none else none else none else none
  | _=>none
def zsu (s:St):Option zaw:=pk (zEq s)
theorem zPJ (s:St) (x:zaw) (h:zsu s=some x):s=zON x:=zt (o:=zEq s) h
def zsz:zaw→(Ex→St→Ans)→zvy→Ans:=fun t3 K=>unP fun o0_0_y=>unP fun o0_1_y=>unP fun o0_2_y o0_3_y=>K (Ex.norm) { env:=[(4,.ptr 0 0)],stk:=[[]],H:=[.cells [.int .u8 o0_0_y,.int .u8 o0_1_y,.int .u8 o0_2_y,.int .u8 o0_3_y]],blk:=212992 }
def zcV {β:Type}:zaw→(zvy→Option β)→Option β:=fun t3 exit=>(za (wu (t3,(0:Int),(0:Int),(0:Int),(0:Int))) fun o0_0=>(za (ww (t3,o0_0,(0:Int),(0:Int),(0:Int))) fun o0_1=>(za (wX (t3,o0_0,o0_1,(0:Int),(0:Int))) fun o0_2=>(za (wU (t3,o0_0,o0_1,o0_2,(0:Int))) fun o0_3=>(za (jv (t3,o0_0,o0_1,o0_2,o0_3)) fun _=>(exit (o0_0,o0_1,o0_2,o0_3)))))))
def Qj (i:zaw):Option zvy:=zcV i some
theorem zHc (i:zaw) (k:zvy→Ans):zcV i k=za (Qj i) k:=by
  obtain z:=i
  simp only [Qj,zcV,zi,zh,zl,zc,zj,zm,zg]
theorem zLG (i:zaw) (K:Ex→St→Ans):zx Tryz.tab qG zd (zy Tryz.tab qG zd 0 64) 70 21 zEM zvR (zB 0 (exk [4] [2] []) K) (zON i)=zcV i (zsz i K):=by kernel_rfl
theorem zYC:zw Tryz.prog 21 zvR (zG zsu Qj zsz):=zA mixed tabOk zbX 0 (exk [4] [2] []) zOy zPJ zLG zHc
noncomputable def z5Q:(Ex→St→Ans)→St→Ans:=(zG zsu Qj zsz)
theorem z2T:zw Tryz.prog 21 zvR z5Q:=zYC
noncomputable def Zad:Ann:=(.seq .none (.seq .none (.seq .none (.seq (.seq .none (.cut 0 [3,4,8] z5Q)) .none))))
theorem z7y:zq Tryz.prog 21 bq4 Zad:=⟨(zb _ _ _),⟨(zb _ _ _),⟨(zb _ _ _),⟨⟨(zb _ _ _),z2T⟩,(zb _ _ _)⟩⟩⟩⟩
abbrev Aq4:=(List UInt8)
abbrev Yq4:=(List UInt8)
def zJu {β:Type}:Aq4→(Yq4→Option β)→Option β:=fun a0 exit=>(za (znO (a0)) fun r=>(za (Qj (r)) (unP fun o0_0=>unP fun o0_1=>unP fun o0_2 o0_3=>(exit (Zh [o0_0,o0_1,o0_2,o0_3])))))
def zcj (a:Aq4):Option Yq4:=zJu a some
theorem z9v (a:Aq4) (k:Yq4→Ans):zJu a k=za (zcj a) k:=by
  obtain z:=a
  simp only [zcj,zJu,zi,zh,zl,zc,zj,zm,zg]
def zM8:Aq4→List AV:=fun a0=>[.str a0]
def zUE (l:List AV):Option {a:Aq4 // l=zM8 a}:=match l with
  | [.str a0]=>some ⟨(a0),rfl⟩
  | _=>none
def z3Y (l:List AV):Option Aq4:=pk (zUE l)
theorem z6f (l:List AV) (a:Aq4) (h:z3Y l=some a):l=zM8 a:=zt (o:=zUE l) h
def zK3:Aq4→Yq4→AV:=fun a0=>fun r_y => .str r_y
theorem z6e : ∀(a:Aq4) (y:Yq4),(zK3 a y).closed1=true:=by
  rintro z y <;> first | rfl | exact Empty.elim y
theorem Zbp (a:Aq4):fnE Tryz.tab qG zd 0 70 52 Tryz.f52.ntmps Tryz.f52.results.toList Zad bq4 (zM8 a) [] (fun v _=>some (v,[]))=zJu a (fun y=>some (zK3 a y,[])):=by kernel_rfl
def Zfv (a:Aq4) (K:AV→Ans):Ans:=za (zcj a) fun y=>K (zK3 a y)
def Fq4:List AV→(AV→Ans)→Ans:=fun l K=>za (z3Y l) fun a=>Zfv a K
theorem zgB:zM Tryz.prog 52 Fq4:=zL (hint:=zd) (d:=0) (n:=70) mixed tabOk zbX Tryz.func52 (zE (by kernel_rfl)) (by decide +kernel) z7y z6f Zbp z9v z6e
--@ field_Reader_Left
noncomputable def z23:Env:=[]
theorem z82:zf Tryz.prog z23:=zf.nil
noncomputable def Zcm:Code:=Tryz.f55.body.getD .skip
noncomputable def z0z:Ann := .none
theorem z0U:zq Tryz.prog 10 Zcm z0z:=(zb _ _ _)
abbrev zfY:=(List UInt8)×(Int)
abbrev zV5:=(Int)
def zh7 {β:Type}:zfY→(zV5→Option β)→Option β:=fun (o0_0,o0_1) exit=>(exit ((↑(List.length o0_0):Int)))
def zcP (a:zfY):Option zV5:=zh7 a some
theorem z2Z (a:zfY) (k:zV5→Ans):zh7 a k=za (zcP a) k:=by
  obtain ⟨o0_0,o0_1⟩:=a
  simp only [zcP,zh7,zi,zh,zl,zc,zj,zm,zg]
def zpw:zfY→List AV×List AE.Obj:=fun (o0_0,o0_1)=>([.ptr 0 0],[.cells [.str o0_0,.int .i64 o0_1]])
def zOu (l:List AV) (H:List AE.Obj):Option {a:zfY // (l,H)=zpw a}:=match l,H with
  | [.ptr 0 0],[.cells [.str o0_0,.int .i64 o0_1]]=>some ⟨(o0_0,o0_1),rfl⟩
  | _,_=>none
def zSL (l:List AV) (H:List AE.Obj):Option zfY:=pk (zOu l H)
theorem zZv (l:List AV) (H:List AE.Obj) (a:zfY) (h:zSL l H=some a):(l,H)=zpw a:=zt (o:=zOu l H) h
def z54:zfY→(AV→List AE.Obj→Ans)→zV5→Ans:=fun (o0_0,o0_1) K=>fun r_y=>K (.int .i64 r_y) [.cells [.str o0_0,.int .i64 o0_1]]
theorem z8E (a:zfY) (K:AV→List AE.Obj→Ans):fnE Tryz.tab z23 zd 0 70 55 Tryz.f55.ntmps Tryz.f55.results.toList z0z Zcm (zpw a).1 (zpw a).2 K=zh7 a (z54 a K):=by kernel_rfl
def ZeZ (a:zfY) (K:AV→List AE.Obj→Ans):Ans:=za (zcP a) fun y=>z54 a K y
def zZ3:List AV→List AE.Obj→(AV→List AE.Obj→Ans)→Ans:=fun l H K=>za (zSL l H) fun a=>ZeZ a K
theorem zDs:zQ Tryz.prog 55 zZ3:=Zu (hint:=zd) (d:=0) (n:=70) mixed tabOk z82 Tryz.func55 (zE (by kernel_rfl)) (by decide +kernel) z0U zZv z8E z2Z
--@ seal_First
noncomputable def z3F:Env:=[(49,.func zBB),(50,.func zsx),(51,.func zsg),(96,.func z0d),(52,.pure Fq4),(55,.func zZ3)]
theorem z9n:zf Tryz.prog z3F:=zf.cons zgK (zf.cons zdC (zf.cons zdB (zf.cons zBS (zf.cons zgB (zf.cons zDs (zf.nil))))))
noncomputable def Zcs:Code:=Tryz.f90.body.getD .skip
noncomputable def z2C:Ann := .none
theorem z38:zq Tryz.prog 46 Zcs z2C:=(zb _ _ _)
abbrev zfe:=(List UInt8)
abbrev zKR:=(Int)×(List UInt8)×(List UInt8)×(Int)
def ztk {β:Type}:zfe→(zKR→Option β)→Option β:=fun a0 exit=>(bif decide ((↑(List.length a0):Int)<(7:Int)) then (exit ((0:Int),[],[],(1:Int))) else (za (Wq (a0)) fun _=>(za (ZZ ((1:Int),a0,(0:Int))) (unP fun r=>unP fun o0_0 o0_1=>(za (ZZ ((2:Int),o0_0,o0_1)) (unP fun r_2=>unP fun o0_0_2 o0_1_2=>(bif decide (r_2>(600:Int)) then (exit ((0:Int),[],[],(11:Int))) else (za (yB (r_2,o0_0_2,o0_1_2)) (unP fun r_3=>unP fun o0_0_3 o0_1_3=>(za (yB ((4:Int),o0_0_3,o0_1_3)) (unP fun r_4=>unP fun o0_0_4 o0_1_4=>(za (zef (o0_0_4,o0_1_4)) fun r_5=>(bif r_5 == (1:Int) then (exit ((0:Int),[],[],r_5)) else (bif inR (IntKind.wrap .i64 ((3:Int)+r_2)) (List.length a0+(1:Nat)) then (za (zcj (List.take (Int.toNat (IntKind.wrap .i64 ((3:Int)+r_2))) a0)) fun r_6=>(bif !r_4 == r_6 then (exit ((0:Int),[],[],(5:Int))) else (za (zcP (o0_0_4,o0_1_4)) fun r_7=>(za (yB (r_7,o0_0_4,o0_1_4)) (unP fun r_8=>unP fun o0_0_5 o0_1_5=>(exit (r,r_3,r_8,(0:Int)))))))) else none))))))))))))))
def zj1 (a:zfe):Option zKR:=ztk a some
theorem z1X (a:zfe) (k:zKR→Ans):ztk a k=za (zj1 a) k:=by
  obtain z:=a
  simp only [zj1,ztk,zi,zh,zl,zc,zj,zm,zg]
def zyM:zfe→List AV:=fun a0=>[.str a0]
def zJ0 (l:List AV):Option {a:zfe // l=zyM a}:=match l with
  | [.str a0]=>some ⟨(a0),rfl⟩
  | _=>none
def zRF (l:List AV):Option zfe:=pk (zJ0 l)
theorem zXe (l:List AV) (a:zfe) (h:zRF l=some a):l=zyM a:=zt (o:=zJ0 l) h
def zAT:zfe→zKR→AV:=fun a0=>unP fun r_0_y=>unP fun r_1_y=>unP fun r_2_y r_3_y => .tup [.int .i64 r_0_y,.str r_1_y,.str r_2_y,.int .i64 r_3_y]
theorem zYQ : ∀(a:zfe) (y:zKR),(zAT a y).closed1=true:=by
  rintro z y <;> first | rfl | exact Empty.elim y
theorem z9Z (a:zfe):fnE Tryz.tab z3F zd 0 70 90 Tryz.f90.ntmps Tryz.f90.results.toList z2C Zcs (zyM a) [] (fun v _=>some (v,[]))=ztk a (fun y=>some (zAT a y,[])):=by kernel_rfl
def Zei (a:zfe) (K:AV→Ans):Ans:=za (zj1 a) fun y=>K (zAT a y)
def z77:List AV→(AV→Ans)→Ans:=fun l K=>za (zRF l) fun a=>Zei a K
theorem zUc:zM Tryz.prog 90 z77:=zL (hint:=zd) (d:=0) (n:=70) mixed tabOk z9n Tryz.func90 (zE (by kernel_rfl)) (by decide +kernel) z38 zXe z9Z z1X zYQ
--@ seal_Get
noncomputable def zhg:Env:=[(90,.pure z77)]
theorem zr2:zf Tryz.prog zhg:=zf.cons zUc (zf.nil)
noncomputable def zWp:Code:=Tryz.f48.body.getD .skip
noncomputable def zqz:Code:=zF [1,1,0,1] zWp
noncomputable def zvr:Ann := .none
theorem zFT:zq Tryz.prog 27 zqz zvr:=(zb _ _ _)
abbrev jH:=(Int)×(List UInt8)×(Int)×(Bool)
abbrev zpG:=(Int)
def zzi:jH→St:=fun (t5,t6,t8,t21)=>{ env:=[(5,.int .i64 t5),(6,.str t6),(8,.int .i64 t8),(21,.bool t21)],stk:=[[]],H:=[],blk:=196608 }
def ztX (s:St):Option {x:jH // s=zzi x}:=match s with
  | { env:=[(5,.int .i64 t5),(6,.str t6),(8,.int .i64 t8),(21,.bool t21)],stk:=[[]],H:=[],blk:=196608 }=>some ⟨(t5,t6,t8,t21),rfl⟩
  | _=>none
def zmU (s:St):Option jH:=pk (ztX s)
theorem zJN (s:St) (x:jH) (h:zmU s=some x):s=zzi x:=zt (o:=ztX s) h
def zmE:jH→(Ex→St→Ans)→zpG→Ans:=fun (t5,t6,t8,t21) K=>fun t8_y=>K (Ex.norm) { env:=[(5,.int .i64 t5),(6,.str t6),(8,.int .i64 t8_y)],stk:=[[]],H:=[],blk:=196608 }
def zde {β:Type}:jH→(zpG→Option β)→Option β:=fun (t5,t6,t8,t21) exit=>(bif t21 then (exit ((2:Int))) else (exit (t8)))
def Jz (i:jH):Option zpG:=zde i some
theorem zBx (i:jH) (k:zpG→Ans):zde i k=za (Jz i) k:=by
  obtain ⟨t5,t6,t8,t21⟩:=i
  simp only [Jz,zde,zi,zh,zl,zc,zj,zm,zg]
theorem zFk (i:jH) (K:Ex→St→Ans):zx Tryz.tab zhg zd (zy Tryz.tab zhg zd 0 64) 70 27 zvr zqz (zB 0 (exk [5,6,8] [2,3,4] []) K) (zzi i)=zde i (zmE i K):=by kernel_rfl
theorem zPw:zw Tryz.prog 27 zqz (zG zmU Jz zmE):=zA mixed tabOk zr2 0 (exk [5,6,8] [2,3,4] []) zFT zJN zFk zBx
noncomputable def zSi:(Ex→St→Ans)→St→Ans:=(zG zmU Jz zmE)
theorem zXO:zw Tryz.prog 27 zqz zSi:=zPw
noncomputable def znV:Code:=zF [1,1,0,0] zWp
noncomputable def zww:Ann := .none
theorem zHV:zq Tryz.prog 27 znV zww:=(zb _ _ _)
abbrev jm:=(Int)×(List UInt8)×(List UInt8)×(Int)
abbrev zqq:=(Bool)
def zzC:jm→St:=fun (t5,t6,t7,t8)=>{ env:=[(5,.int .i64 t5),(6,.str t6),(7,.str t7),(8,.int .i64 t8)],stk:=[[]],H:=[],blk:=196608 }
def zvi (s:St):Option {x:jm // s=zzC x}:=match s with
  | { env:=[(5,.int .i64 t5),(6,.str t6),(7,.str t7),(8,.int .i64 t8)],stk:=[[]],H:=[],blk:=196608 }=>some ⟨(t5,t6,t7,t8),rfl⟩
  | _=>none
def zl6 (s:St):Option jm:=pk (zvi s)
theorem zKC (s:St) (x:jm) (h:zl6 s=some x):s=zzC x:=zt (o:=zvi s) h
def zmk:jm→(Ex→St→Ans)→zqq→Ans:=fun (t5,t6,t7,t8) K=>fun t21_y=>K (Ex.norm) { env:=[(5,.int .i64 t5),(6,.str t6),(8,.int .i64 t8),(21,.bool t21_y)],stk:=[[]],H:=[],blk:=196608 }
def za0 {β:Type}:jm→(zqq→Option β)→Option β:=fun (t5,t6,t7,t8) exit=>(bif t8 == (0:Int) then (exit (!t7 == [])) else (exit (false)))
def W3 (i:jm):Option zqq:=za0 i some
theorem zB1 (i:jm) (k:zqq→Ans):za0 i k=za (W3 i) k:=by
  obtain ⟨t5,t6,t7,t8⟩:=i
  simp only [W3,za0,zi,zh,zl,zc,zj,zm,zg]
theorem zFb (i:jm) (K:Ex→St→Ans):zx Tryz.tab zhg zd (zy Tryz.tab zhg zd 0 64) 70 27 zww znV (zB 0 (exk [5,6,8,21] [2,3,4] []) K) (zzC i)=za0 i (zmk i K):=by kernel_rfl
theorem zP7:zw Tryz.prog 27 znV (zG zl6 W3 zmk):=zA mixed tabOk zr2 0 (exk [5,6,8,21] [2,3,4] []) zHV zKC zFb zB1
noncomputable def zSI:(Ex→St→Ans)→St→Ans:=(zG zl6 W3 zmk)
theorem z0m:zw Tryz.prog 27 znV zSI:=zP7
noncomputable def z3L:Ann:=(.seq .none (.seq .none (.seq (.seq (.cut 0 [5,6,7,8] zSI) (.cut 0 [5,6,8,21] zSi)) .none)))
theorem z3i:zq Tryz.prog 27 zWp z3L:=⟨(zb _ _ _),⟨(zb _ _ _),⟨⟨z0m,zXO⟩,(zb _ _ _)⟩⟩⟩
abbrev zec:=(List UInt8)
abbrev zJM:=(Int)×(List UInt8)×(Int)
def zv7 {β:Type}:zec→(zJM→Option β)→Option β:=fun a0 exit=>(za (zj1 (a0)) (unP fun r_0=>unP fun r_1=>unP fun r_2 r_3=>(za (W3 (r_0,r_1,r_2,r_3)) fun t21=>(za (Jz (r_0,r_1,r_3,t21)) fun t8=>(bif t8 != (0:Int) then (exit ((0:Int),[],t8)) else (exit (r_0,r_1,(0:Int))))))))
def zhz (a:zec):Option zJM:=zv7 a some
theorem z4u (a:zec) (k:zJM→Ans):zv7 a k=za (zhz a) k:=by
  obtain z:=a
  simp only [zhz,zv7,zi,zh,zl,zc,zj,zm,zg]
def zBo:zec→List AV:=fun a0=>[.str a0]
def zOt (l:List AV):Option {a:zec // l=zBo a}:=match l with
  | [.str a0]=>some ⟨(a0),rfl⟩
  | _=>none
def zRq (l:List AV):Option zec:=pk (zOt l)
theorem zXI (l:List AV) (a:zec) (h:zRq l=some a):l=zBo a:=zt (o:=zOt l) h
def zzX:zec→zJM→AV:=fun a0=>unP fun r_0_y=>unP fun r_1_y r_2_y => .tup [.int .i64 r_0_y,.str r_1_y,.int .i64 r_2_y]
theorem zYp : ∀(a:zec) (y:zJM),(zzX a y).closed1=true:=by
  rintro z y <;> first | rfl | exact Empty.elim y
theorem z7D (a:zec):fnE Tryz.tab zhg zd 0 70 48 Tryz.f48.ntmps Tryz.f48.results.toList z3L zWp (zBo a) [] (fun v _=>some (v,[]))=zv7 a (fun y=>some (zzX a y,[])):=by kernel_rfl
def Zeo (a:zec) (K:AV→Ans):Ans:=za (zhz a) fun y=>K (zzX a y)
def z7r:List AV→(AV→Ans)→Ans:=fun l K=>za (zRq l) fun a=>Zeo a K
theorem zRH:zM Tryz.prog 48 z7r:=zL (hint:=zd) (d:=0) (n:=70) mixed tabOk zr2 Tryz.func48 (zE (by kernel_rfl)) (by decide +kernel) z3i zXI z7D z4u zYp
--@ dump_lines
noncomputable def YP:Env:=[(48,.pure z7r)]
theorem zeE:zf Tryz.prog YP:=zf.cons zRH (zf.nil)
noncomputable def zAZ:Code:=Tryz.f19.body.getD .skip
noncomputable def zpk:Code:=zF [1,1,1,1,0,1,0,0,1,1,0,0,1,1,0,1] zAZ
noncomputable def ztw:Ann := .none
theorem zIz:zq Tryz.prog 58 zpk ztw:=(zb _ _ _)
abbrev jA:=(Int)×(Int)×(Int)×(Int)×(List Int)×(List (List UInt8))
abbrev znT:=(Int)
def zCz:jA→St:=fun (t12,t39,t40,t45,o0,o1)=>{ env:=[(4,.own 0),(5,.own 1),(12,.int .i64 t12),(13,.int .i64 (21)),(38,.own 0),(39,.int .i64 t39),(40,.int .i64 t40),(45,.int .i64 t45)],stk:=[[]],H:=[.arr (.int .i64) o0,.arr .str o1],blk:=77827 }
def zxk (s:St):Option {x:jA // s=zCz x}:=match s with
  | { env:=[(4,.own 0),(5,.own 1),(12,.int .i64 t12),(13,.int .i64 r1),(38,.own 0),(39,.int .i64 t39),(40,.int .i64 t40),(45,.int .i64 t45)],stk:=[[]],H:=[.arr (.int .i64) o0,.arr .str o1],blk:=77827 }=>if h1:r1=21 then some ⟨(t12,t39,t40,t45,o0,o1),by subst h1;rfl⟩ else none
  | _=>none
def zmy (s:St):Option jA:=pk (zxk s)
theorem zO7 (s:St) (x:jA) (h:zmy s=some x):s=zCz x:=zt (o:=zxk s) h
def zkd:jA→(Ex→St→Ans)→znT→Ans:=fun (t12,t39,t40,t45,o0,o1) K=>fun t13_y=>K (Ex.norm) { env:=[(4,.own 0),(5,.own 1),(12,.int .i64 t12),(13,.int .i64 t13_y),(38,.own 0),(39,.int .i64 t39),(40,.int .i64 t40)],stk:=[[]],H:=[.arr (.int .i64) o0,.arr .str o1],blk:=77828 }
def zav {β:Type}:jA→(znT→Option β)→Option β:=fun (t12,t39,t40,t45,o0,o1) exit=>(bif t45 == (0:Int) then (exit ((20:Int))) else (bif t45 == IntKind.wrap .i64 ((↑(List.length o0):Int) - (1:Int)) then (exit ((22:Int))) else (exit ((21:Int)))))
def wd (i:jA):Option znT:=zav i some
theorem zBz (i:jA) (k:znT→Ans):zav i k=za (wd i) k:=by
  obtain ⟨t12,t39,t40,t45,o0,o1⟩:=i
  simp only [wd,zav,zi,zh,zl,zc,zj,zm,zg]
theorem zHK (i:jA) (K:Ex→St→Ans):zx Tryz.tab YP zd (zy Tryz.tab YP zd 0 64) 70 58 ztw zpk (zB 0 (exk [4,5,12,13,38,39,40] [2,3] []) K) (zCz i)=zav i (zkd i K):=by kernel_rfl
theorem zP0:zw Tryz.prog 58 zpk (zG zmy wd zkd):=zA mixed tabOk zeE 0 (exk [4,5,12,13,38,39,40] [2,3] []) zIz zO7 zHK zBz
noncomputable def zTt:(Ex→St→Ans)→St→Ans:=(zG zmy wd zkd)
theorem zWT:zw Tryz.prog 58 zpk zTt:=zP0
noncomputable def zqU:Code:=zF [1,1,1,1,0,1,0,0,1,1,0] zAZ
noncomputable def zw0:Ann:=(.block (.seq .none (.seq .none (.seq (.seq .none (.cut 0 [4,5,12,13,38,39,40,45] zTt)) .none))))
theorem zFA:zq Tryz.prog 58 zqU zw0:=⟨(zb _ _ _),⟨(zb _ _ _),⟨⟨(zb _ _ _),zWT⟩,(zb _ _ _)⟩⟩⟩
abbrev jY:=(Int)×(Int)×(List Int)×(List (List UInt8))
abbrev zqL:=(Unit) ⊕ (Unit)
def zzg:jY→St:=fun (t39,t40,o0,o1)=>{ env:=[(4,.own 0),(5,.own 1),(38,.own 0),(39,.int .i64 t39),(40,.int .i64 t40)],stk:=[[]],H:=[.arr (.int .i64) o0,.arr .str o1],blk:=77826 }
def zxR (s:St):Option {x:jY // s=zzg x}:=match s with
  | { env:=[(4,.own 0),(5,.own 1),(38,.own 0),(39,.int .i64 t39),(40,.int .i64 t40)],stk:=[[]],H:=[.arr (.int .i64) o0,.arr .str o1],blk:=77826 }=>some ⟨(t39,t40,o0,o1),rfl⟩
  | _=>none
def zjI (s:St):Option jY:=pk (zxR s)
theorem zNg (s:St) (x:jY) (h:zjI s=some x):s=zzg x:=zt (o:=zxR s) h
def zkC:jY→(Ex→St→Ans)→zqL→Ans:=fun (t39,t40,o0,o1) K=>(Sum.elim (fun _=>K (Ex.ret) { env:=[(2,.own 0),(3,.int .i64 (7))],stk:=[[]],H:=[.arr .str ([])],blk:=77828 }) (fun _=>K (Ex.norm) { env:=[(4,.own 0),(5,.own 1),(38,.own 0),(39,.int .i64 t39),(40,.int .i64 t40)],stk:=[[]],H:=[.arr (.int .i64) o0,.arr .str o1],blk:=77828 }))
def zbx {β:Type}:jY→(zqL→Option β)→Option β:=fun (t39,t40,o0,o1) exit=>(bif inR t40 (List.length o0) then (za (o0[Int.toNat t40]?) fun x=>(za (wd (x,t39,t40,t40,o0,o1)) fun t13=>(bif x != t13 then (exit (Sum.inl ())) else (exit (Sum.inr ()))))) else none)
def W2 (i:jY):Option zqL:=zbx i some
theorem zCc (i:jY) (k:zqL→Ans):zbx i k=za (W2 i) k:=by
  obtain ⟨t39,t40,o0,o1⟩:=i
  simp only [W2,zbx,zi,zh,zl,zc,zj,zm,zg]
theorem zIq (i:jY) (K:Ex→St→Ans):zx Tryz.tab YP zd (zy Tryz.tab YP zd 0 64) 70 58 zw0 zqU (zB 0 (exk [4,5,38,39,40] [2,3] []) K) (zzg i)=zbx i (zkC i K):=by kernel_rfl
theorem zPj:zw Tryz.prog 58 zqU (zG zjI W2 zkC):=zA mixed tabOk zeE 0 (exk [4,5,38,39,40] [2,3] []) zFA zNg zIq zCc
noncomputable def zR0:(Ex→St→Ans)→St→Ans:=(zG zjI W2 zkC)
theorem zVz:zw Tryz.prog 58 zqU zR0:=zPj
noncomputable def zgR:Code:=zF [1,1,1,1,0,1,0,0] zAZ
noncomputable def ziK:Ann := .at 0 [4,5,38,39,40] (.loop (.seq .none (.seq .none (.seq (.cut 0 [4,5,38,39,40] zR0) .none))))
theorem zG0:zq Tryz.prog 58 (.loop zgR) ziK:=Zi ⟨(zb _ _ _),⟨(zb _ _ _),⟨zVz,(zb _ _ _)⟩⟩⟩
abbrev j0:=(Int)×(List Int)×(List (List UInt8))
abbrev zpN:=(Unit) ⊕ (Unit)
abbrev w4:=(Int)
def zo7:j0→w4→St:=fun (t39,o0,o1) t40=>{ env:=[(4,.own 0),(5,.own 1),(38,.own 0),(39,.int .i64 t39),(40,.int .i64 t40)],stk:=[[]],H:=[.arr (.int .i64) o0,.arr .str o1],blk:=77826 }
def zto (s:St):Option {x:j0×w4 // s=zo7 x.1 x.2}:=match s with
  | { env:=[(4,.own 0),(5,.own 1),(38,.own 0),(39,.int .i64 t39),(40,.int .i64 t40)],stk:=[[]],H:=[.arr (.int .i64) o0,.arr .str o1],blk:=77826 }=>some ⟨((t39,o0,o1),t40),rfl⟩
  | _=>none
def znB (s:St):Option (j0×w4):=pk (zto s)
theorem zKf (s:St) (x:j0×w4) (h:znB s=some x):s=zo7 x.1 x.2:=zt (o:=zto s) h
def zmz:j0→(Ex→St→Ans)→zpN→Ans:=fun (t39,o0,o1) K=>(Sum.elim (fun _=>K (Ex.ret) { env:=[(2,.own 0),(3,.int .i64 (7))],stk:=[[]],H:=[.arr .str ([])],blk:=77828 }) (fun _=>K (Ex.exit 2) { env:=[(5,.own 0)],stk:=[[]],H:=[.arr .str o1],blk:=77826 }))
def Jb {β:Type}:j0→w4→(w4→Option β)→(zpN→Option β)→Option β:=fun (t39,o0,o1) t40 next exit=>(bif decide (t40<t39) then (za (W2 (t39,t40,o0,o1)) (Sum.elim (fun _=>(exit (Sum.inl ()))) (fun _=>(next (IntKind.wrap .i64 (t40+(1:Int))))))) else (exit (Sum.inr ())))
def Yd (i:j0) (v:w4):Option (w4 ⊕ zpN):=Jb i v (fun v=>some (.inl v)) (fun y=>some (.inr y))
theorem zCp (i:j0) (v:w4) (next:w4→Ans) (exit:zpN→Ans):Jb i v next exit=za (Yd i v) (Sum.elim next exit):=by
  obtain ⟨t39,o0,o1⟩:=i
  obtain z:=v
  simp only [Yd,Jb,zi,zh,zl,zc,zj,zm,zg,Sum.elim_inl,Sum.elim_inr]
theorem zGr (n:Nat) (i:j0) (v:w4) (K:Ex→St→Ans):zx Tryz.tab YP zd (zy Tryz.tab YP zd 0 64) (n+1) 58 ziK (.loop zgR) (zB 0 (exk [5] [2,3] [(2,[5])]) K) (zo7 i v)=Jb i v (fun v'=>zx Tryz.tab YP zd (zy Tryz.tab YP zd 0 64) n 58 ziK (.loop zgR) (zB 0 (exk [5] [2,3] [(2,[5])]) K) (zo7 i v')) (fun y=>zmz i K y):=by kernel_rfl
theorem zPE:zw Tryz.prog 58 (.loop zgR) (Zm znB Yd zmz):=Zf mixed tabOk zeE 0 (exk [5] [2,3] [(2,[5])]) zG0 zKf zGr zCp
noncomputable def zT9:(Ex→St→Ans)→St→Ans:=(Zm znB Yd zmz)
theorem zXa:zw Tryz.prog 58 (.loop zgR) zT9:=zPE
noncomputable def zg1:Code:=zF [1,1,1,0,1,0,0] zAZ
noncomputable def ziC:Ann := .at 0 [4,5,14,15,16] (.loop .none)
theorem zIv:zq Tryz.prog 58 (.loop zg1) ziC:=Zi (zb _ _ _)
abbrev ji:=(List (List UInt8))×(Int)
abbrev zoy:=((Int)) ⊕ ((List Int)×(List (List UInt8)))
abbrev wp:=(Int)×(List Int)×(List (List UInt8))
def zoE:ji→wp→St:=fun (t14,t15) (t16,o0,o1)=>{ env:=[(4,.own 0),(5,.own 1),(14,.ro .str t14),(15,.int .i64 t15),(16,.int .i64 t16)],stk:=[[]],H:=[.arr (.int .i64) o0,.arr .str o1],blk:=77824 }
def zxY (s:St):Option {x:ji×wp // s=zoE x.1 x.2}:=match s with
  | { env:=[(4,.own 0),(5,.own 1),(14,.ro .str t14),(15,.int .i64 t15),(16,.int .i64 t16)],stk:=[[]],H:=[.arr (.int .i64) o0,.arr .str o1],blk:=77824 }=>some ⟨((t14,t15),(t16,o0,o1)),rfl⟩
  | _=>none
def zni (s:St):Option (ji×wp):=pk (zxY s)
theorem zJD (s:St) (x:ji×wp) (h:zni s=some x):s=zoE x.1 x.2:=zt (o:=zxY s) h
def zkO:ji→(Ex→St→Ans)→zoy→Ans:=fun (t14,t15) K=>(Sum.elim (fun t3_y=>K (Ex.ret) { env:=[(2,.own 0),(3,.int .i64 t3_y)],stk:=[[]],H:=[.arr .str ([])],blk:=77825 }) (unP fun o0_y o1_y=>K (Ex.exit 0) { env:=[(4,.own 0),(5,.own 1)],stk:=[[]],H:=[.arr (.int .i64) o0_y,.arr .str o1_y],blk:=77824 }))
def jj {β:Type}:ji→wp→(wp→Option β)→(zoy→Option β)→Option β:=fun (t14,t15) (t16,o0,o1) next exit=>(bif decide (t16<t15) then (za (nth t14 t16) fun x=>(za (zhz (x)) (unP fun r_0=>unP fun r_1 r_2=>(bif r_2 != (0:Int) then (exit (Sum.inl (r_2))) else (bif Nat.ble ((List.length o0+List.length [r_0])*(8:Nat)) (140737488355328:Nat) then (bif Nat.ble ((List.length o1+List.length [r_1])*(16:Nat)) (140737488355328:Nat) then (next (IntKind.wrap .i64 (t16+(1:Int)),o0++[r_0],o1++[r_1])) else none) else none))))) else (exit (Sum.inr (o0,o1))))
def Yf (i:ji) (v:wp):Option (wp ⊕ zoy):=jj i v (fun v=>some (.inl v)) (fun y=>some (.inr y))
theorem zCj (i:ji) (v:wp) (next:wp→Ans) (exit:zoy→Ans):jj i v next exit=za (Yf i v) (Sum.elim next exit):=by
  obtain ⟨t14,t15⟩:=i
  obtain ⟨t16,o0,o1⟩:=v
  simp only [Yf,jj,zi,zh,zl,zc,zj,zm,zg,Sum.elim_inl,Sum.elim_inr]
theorem zFl (n:Nat) (i:ji) (v:wp) (K:Ex→St→Ans):zx Tryz.tab YP zd (zy Tryz.tab YP zd 0 64) (n+1) 58 ziC (.loop zg1) (zB 0 (exk [4,5] [2,3] [(0,[4,5])]) K) (zoE i v)=jj i v (fun v'=>zx Tryz.tab YP zd (zy Tryz.tab YP zd 0 64) n 58 ziC (.loop zg1) (zB 0 (exk [4,5] [2,3] [(0,[4,5])]) K) (zoE i v')) (fun y=>zkO i K y):=by kernel_rfl
theorem zQ6:zw Tryz.prog 58 (.loop zg1) (Zm zni Yf zkO):=Zf mixed tabOk zeE 0 (exk [4,5] [2,3] [(0,[4,5])]) zIv zJD zFl zCj
noncomputable def zT6:(Ex→St→Ans)→St→Ans:=(Zm zni Yf zkO)
theorem zZB:zw Tryz.prog 58 (.loop zg1) zT6:=zQ6
noncomputable def z6j:Ann:=(.seq .none (.seq .none (.seq .none (.seq (.seq .none (.block (.cut 0 [4,5,14,15,16] zT6))) (.seq (.seq .none (.block (.cut 0 [4,5,38,39,40] zT9))) .none)))))
theorem z1W:zq Tryz.prog 58 zAZ z6j:=⟨(zb _ _ _),⟨(zb _ _ _),⟨(zb _ _ _),⟨⟨(zb _ _ _),zZB⟩,⟨⟨(zb _ _ _),zXa⟩,(zb _ _ _)⟩⟩⟩⟩⟩
abbrev zgc:=(List (List UInt8))
abbrev zWc:=(Int)×(List (List UInt8))
def zve {β:Type}:zgc→(zWc→Option β)→Option β:=fun a0 exit=>(za (zO (Yf (a0,(↑(List.length a0):Int))) zY ((0:Int),[],[])) (Sum.elim (fun t3=>(exit (t3,[]))) (unP fun o0 o1=>(za (zO (Yd ((↑(List.length o0):Int),o0,o1)) zY ((0:Int))) (Sum.elim (fun _=>(exit ((7:Int),[]))) (fun _=>(exit ((0:Int),o1))))))))
def zht (a:zgc):Option zWc:=zve a some
theorem z3J (a:zgc) (k:zWc→Ans):zve a k=za (zht a) k:=by
  obtain z:=a
  simp only [zht,zve,zi,zh,zl,zc,zj,zm,zg]
def zot:zgc→List AV×List AE.Obj:=fun a0=>([.ro .str a0],[])
def zI0 (l:List AV) (H:List AE.Obj):Option {a:zgc // (l,H)=zot a}:=match l,H with
  | [.ro .str a0],[]=>some ⟨(a0),rfl⟩
  | _,_=>none
def zTk (l:List AV) (H:List AE.Obj):Option zgc:=pk (zI0 l H)
theorem zXx (l:List AV) (H:List AE.Obj) (a:zgc) (h:zTk l H=some a):(l,H)=zot a:=zt (o:=zI0 l H) h
def z1r:zgc→(AV→List AE.Obj→Ans)→zWc→Ans:=fun a0 K=>unP fun r_1_y o0_y=>K (.tup [.own 0,.int .i64 r_1_y]) [.arr .str o0_y]
theorem z6D (a:zgc) (K:AV→List AE.Obj→Ans):fnE Tryz.tab YP zd 0 70 19 Tryz.f19.ntmps Tryz.f19.results.toList z6j zAZ (zot a).1 (zot a).2 K=zve a (z1r a K):=by kernel_rfl
def Zer (a:zgc) (K:AV→List AE.Obj→Ans):Ans:=za (zht a) fun y=>z1r a K y
def z8y:List AV→List AE.Obj→(AV→List AE.Obj→Ans)→Ans:=fun l H K=>za (zTk l H) fun a=>Zer a K
theorem zSw:zQ Tryz.prog 19 z8y:=Zu (hint:=zd) (d:=0) (n:=70) mixed tabOk zeE Tryz.func19 (zE (by kernel_rfl)) (by decide +kernel) z1W zXx z6D z3J
--@ layout_within
noncomputable def zu3:Env:=[]
theorem zLw:zf Tryz.prog zu3:=zf.nil
noncomputable def z9T:Code:=Tryz.f106.body.getD .skip
noncomputable def zo3:Code:=zF [1,0] z9T
noncomputable def zvM:Ann := .none
theorem zGC:zq Tryz.prog 15 zo3 zvM:=(zb _ _ _)
abbrev QP:=(Int)×(Int)×(Int)
abbrev zqs:=(Bool)
def zEk:QP→St:=fun (t0,t1,t2)=>{ env:=[(0,.int .i64 t0),(1,.int .i64 t1),(2,.int .i64 t2)],stk:=[[]],H:=[],blk:=434176 }
def zt0 (s:St):Option {x:QP // s=zEk x}:=match s with
  | { env:=[(0,.int .i64 t0),(1,.int .i64 t1),(2,.int .i64 t2)],stk:=[[]],H:=[],blk:=434176 }=>some ⟨(t0,t1,t2),rfl⟩
  | _=>none
def zlI (s:St):Option QP:=pk (zt0 s)
theorem zLc (s:St) (x:QP) (h:zlI s=some x):s=zEk x:=zt (o:=zt0 s) h
def zkl:QP→(Ex→St→Ans)→zqs→Ans:=fun (t0,t1,t2) K=>fun t6_y=>K (Ex.norm) { env:=[(6,.bool t6_y)],stk:=[[]],H:=[],blk:=434176 }
def zaC {β:Type}:QP→(zqs→Option β)→Option β:=fun (t0,t1,t2) exit=>(bif decide (t0≥t1) then (exit (decide (t0≤t2))) else (exit (false)))
def qr (i:QP):Option zqs:=zaC i some
theorem zC1 (i:QP) (k:zqs→Ans):zaC i k=za (qr i) k:=by
  obtain ⟨t0,t1,t2⟩:=i
  simp only [qr,zaC,zi,zh,zl,zc,zj,zm,zg]
theorem zGq (i:QP) (K:Ex→St→Ans):zx Tryz.tab zu3 zd (zy Tryz.tab zu3 zd 0 64) 70 15 zvM zo3 (zB 0 (exk [6] [6] []) K) (zEk i)=zaC i (zkl i K):=by kernel_rfl
theorem zPk:zw Tryz.prog 15 zo3 (zG zlI qr zkl):=zA mixed tabOk zLw 0 (exk [6] [6] []) zGC zLc zGq zC1
noncomputable def zSD:(Ex→St→Ans)→St→Ans:=(zG zlI qr zkl)
theorem zZS:zw Tryz.prog 15 zo3 zSD:=zPk
noncomputable def z3e:Ann:=(.seq .none (.seq (.cut 0 [0,1,2] zSD) .none))
theorem z5E:zq Tryz.prog 15 z9T z3e:=⟨(zb _ _ _),⟨zZS,(zb _ _ _)⟩⟩
abbrev zet:=(Int)×(Int)×(Int)
abbrev zMx:=(Bool)
def zwO {β:Type}:zet→(zMx→Option β)→Option β:=fun (a0,a1,a2) exit=>(za (qr (a0,a1,a2)) fun t6=>(exit (t6)))
def zcy (a:zet):Option zMx:=zwO a some
theorem z4P (a:zet) (k:zMx→Ans):zwO a k=za (zcy a) k:=by
  obtain ⟨a0,a1,a2⟩:=a
  simp only [zcy,zwO,zi,zh,zl,zc,zj,zm,zg]
def zyQ:zet→List AV:=fun (a0,a1,a2)=>[.int .i64 a0,.int .i64 a1,.int .i64 a2]
def zOe (l:List AV):Option {a:zet // l=zyQ a}:=match l with
  | [.int .i64 a0,.int .i64 a1,.int .i64 a2]=>some ⟨(a0,a1,a2),rfl⟩
  | _=>none
def zTT (l:List AV):Option zet:=pk (zOe l)
theorem zZE (l:List AV) (a:zet) (h:zTT l=some a):l=zyQ a:=zt (o:=zOe l) h
def zC5:zet→zMx→AV:=fun (a0,a1,a2)=>fun r_y => .bool r_y
theorem zXz : ∀(a:zet) (y:zMx),(zC5 a y).closed1=true:=by
  rintro ⟨a0,a1,a2⟩ y <;> first | rfl | exact Empty.elim y
theorem z7n (a:zet):fnE Tryz.tab zu3 zd 0 70 106 Tryz.f106.ntmps Tryz.f106.results.toList z3e z9T (zyQ a) [] (fun v _=>some (v,[]))=zwO a (fun y=>some (zC5 a y,[])):=by kernel_rfl
def ZeI (a:zet) (K:AV→Ans):Ans:=za (zcy a) fun y=>K (zC5 a y)
def z7H:List AV→(AV→Ans)→Ans:=fun l K=>za (zTT l) fun a=>ZeI a K
theorem zTY:zM Tryz.prog 106 z7H:=zL (hint:=zd) (d:=0) (n:=70) mixed tabOk zLw Tryz.func106 (zE (by kernel_rfl)) (by decide +kernel) z5E zZE z7n z4P zXz
--@ layout_Check
noncomputable def zwz:Env:=[(106,.pure z7H)]
theorem zNI:zf Tryz.prog zwz:=zf.cons zTY (zf.nil)
noncomputable def z9z:Code:=Tryz.f68.body.getD .skip
noncomputable def zqT:Code:=zF [1,0,0] z9z
noncomputable def zv4:Ann := .none
theorem zGU:zq Tryz.prog 19 zqT zv4:=(zb _ _ _)
abbrev jC:=(Int)×(Int)×(Int)
abbrev zpe:=(Bool)
def zzT:jC→St:=fun (o0_0,o0_1,o0_2)=>{ env:=[(1,.ptr 0 0)],stk:=[[]],H:=[.cells [.int .i64 o0_0,.int .i64 o0_1,.int .i64 o0_2]],blk:=278528 }
def zu5 (s:St):Option {x:jC // s=zzT x}:=match s with
  | { env:=[(1,.ptr 0 0)],stk:=[[]],H:=[.cells [.int .i64 o0_0,.int .i64 o0_1,.int .i64 o0_2]],blk:=278528 }=>some ⟨(o0_0,o0_1,o0_2),rfl⟩
  | _=>none
def zkq (s:St):Option jC:=pk (zu5 s)
theorem zJo (s:St) (x:jC) (h:zkq s=some x):s=zzT x:=zt (o:=zu5 s) h
def zkQ:jC→(Ex→St→Ans)→zpe→Ans:=fun (o0_0,o0_1,o0_2) K=>fun t18_y=>K (Ex.norm) { env:=[(18,.bool t18_y)],stk:=[[]],H:=[],blk:=278528 }
def zbf {β:Type}:jC→(zpe→Option β)→Option β:=fun (o0_0,o0_1,o0_2) exit=>(za (zcy (o0_0,(1:Int),(24:Int))) fun r=>(bif !r then (exit (true)) else (za (zcy (o0_1,(1:Int),(8:Int))) fun r_2=>(bif !r_2 then (exit (true)) else (za (zcy (o0_2,(24:Int),(200:Int))) fun r_3=>(exit (!r_3)))))))
def qo (i:jC):Option zpe:=zbf i some
theorem zz7 (i:jC) (k:zpe→Ans):zbf i k=za (qo i) k:=by
  obtain ⟨o0_0,o0_1,o0_2⟩:=i
  simp only [qo,zbf,zi,zh,zl,zc,zj,zm,zg]
theorem zH1 (i:jC) (K:Ex→St→Ans):zx Tryz.tab zwz zd (zy Tryz.tab zwz zd 0 64) 70 19 zv4 zqT (zB 0 (exk [18] [2] []) K) (zzT i)=zbf i (zkQ i K):=by kernel_rfl
theorem zQD:zw Tryz.prog 19 zqT (zG zkq qo zkQ):=zA mixed tabOk zNI 0 (exk [18] [2] []) zGU zJo zH1 zz7
noncomputable def zTX:(Ex→St→Ans)→St→Ans:=(zG zkq qo zkQ)
theorem zVH:zw Tryz.prog 19 zqT zTX:=zQD
noncomputable def z4j:Ann:=(.seq .none (.seq (.seq (.cut 0 [1] zTX) .none) .none))
theorem z3Z:zq Tryz.prog 19 z9z z4j:=⟨(zb _ _ _),⟨⟨zVH,(zb _ _ _)⟩,(zb _ _ _)⟩⟩
abbrev ze4:=(Int)×(Int)×(Int)
abbrev zKe:=(Int)
def ztm {β:Type}:ze4→(zKe→Option β)→Option β:=fun (a0_0,a0_1,a0_2) exit=>(za (qo (a0_0,a0_1,a0_2)) fun t18=>(bif t18 then (exit ((3:Int))) else (exit ((0:Int)))))
def zhP (a:ze4):Option zKe:=ztm a some
theorem z32 (a:ze4) (k:zKe→Ans):ztm a k=za (zhP a) k:=by
  obtain ⟨a0_0,a0_1,a0_2⟩:=a
  simp only [zhP,ztm,zi,zh,zl,zc,zj,zm,zg]
def zDM:ze4→List AV:=fun (a0_0,a0_1,a0_2)=>[.agg [.int .i64 a0_0,.int .i64 a0_1,.int .i64 a0_2]]
def zLC (l:List AV):Option {a:ze4 // l=zDM a}:=match l with
  | [.agg [.int .i64 a0_0,.int .i64 a0_1,.int .i64 a0_2]]=>some ⟨(a0_0,a0_1,a0_2),rfl⟩
  | _=>none
def zTH (l:List AV):Option ze4:=pk (zLC l)
theorem zYO (l:List AV) (a:ze4) (h:zTH l=some a):l=zDM a:=zt (o:=zLC l) h
def zyE:ze4→zKe→AV:=fun (a0_0,a0_1,a0_2)=>fun r_y => .int .i64 r_y
theorem zZZ : ∀(a:ze4) (y:zKe),(zyE a y).closed1=true:=by
  rintro ⟨a0_0,a0_1,a0_2⟩ y <;> first | rfl | exact Empty.elim y
theorem z8v (a:ze4):fnE Tryz.tab zwz zd 0 70 68 Tryz.f68.ntmps Tryz.f68.results.toList z4j z9z (zDM a) [] (fun v _=>some (v,[]))=ztm a (fun y=>some (zyE a y,[])):=by kernel_rfl
def Zey (a:ze4) (K:AV→Ans):Ans:=za (zhP a) fun y=>K (zyE a y)
def z9U:List AV→(AV→Ans)→Ans:=fun l K=>za (zTH l) fun a=>Zey a K
theorem zTN:zM Tryz.prog 68 z9U:=zL (hint:=zd) (d:=0) (n:=70) mixed tabOk zNI Tryz.func68 (zE (by kernel_rfl)) (by decide +kernel) z3Z zYO z8v z32 zZZ
--@ super_within
noncomputable def zuT:Env:=[]
theorem zKs:zf Tryz.prog zuT:=zf.nil
noncomputable def z9y:Code:=Tryz.f69.body.getD .skip
noncomputable def zpz:Code:=zF [1,0] z9y
noncomputable def zwA:Ann := .none
theorem zHS:zq Tryz.prog 12 zpz zwA:=(zb _ _ _)
abbrev Qe:=(Int)×(Int)
abbrev zpE:=(Bool)
def zzO:Qe→St:=fun (t0,t1)=>{ env:=[(0,.int .i64 t0),(1,.int .i64 t1)],stk:=[[]],H:=[],blk:=282624 }
def ztC (s:St):Option {x:Qe // s=zzO x}:=match s with
  | { env:=[(0,.int .i64 t0),(1,.int .i64 t1)],stk:=[[]],H:=[],blk:=282624 }=>some ⟨(t0,t1),rfl⟩
  | _=>none
def znq (s:St):Option Qe:=pk (ztC s)
theorem zMF (s:St) (x:Qe) (h:znq s=some x):s=zzO x:=zt (o:=ztC s) h
def zlm:Qe→(Ex→St→Ans)→zpE→Ans:=fun (t0,t1) K=>fun t4_y=>K (Ex.norm) { env:=[(4,.bool t4_y)],stk:=[[]],H:=[],blk:=282624 }
def zaq {β:Type}:Qe→(zpE→Option β)→Option β:=fun (t0,t1) exit=>(bif decide (t0≥(0:Int)) then (exit (decide (t0≤t1))) else (exit (false)))
def WP (i:Qe):Option zpE:=zaq i some
theorem zDJ (i:Qe) (k:zpE→Ans):zaq i k=za (WP i) k:=by
  obtain ⟨t0,t1⟩:=i
  simp only [WP,zaq,zi,zh,zl,zc,zj,zm,zg]
theorem zFN (i:Qe) (K:Ex→St→Ans):zx Tryz.tab zuT zd (zy Tryz.tab zuT zd 0 64) 70 12 zwA zpz (zB 0 (exk [4] [4] []) K) (zzO i)=zaq i (zlm i K):=by kernel_rfl
theorem zPs:zw Tryz.prog 12 zpz (zG znq WP zlm):=zA mixed tabOk zKs 0 (exk [4] [4] []) zHS zMF zFN zDJ
noncomputable def zR9:(Ex→St→Ans)→St→Ans:=(zG znq WP zlm)
theorem zWV:zw Tryz.prog 12 zpz zR9:=zPs
noncomputable def z02:Ann:=(.seq .none (.seq (.cut 0 [0,1] zR9) .none))
theorem z10:zq Tryz.prog 12 z9y z02:=⟨(zb _ _ _),⟨zWV,(zb _ _ _)⟩⟩
abbrev zfc:=(Int)×(Int)
abbrev zJT:=(Bool)
def zwb {β:Type}:zfc→(zJT→Option β)→Option β:=fun (a0,a1) exit=>(za (WP (a0,a1)) fun t4=>(exit (t4)))
def zas (a:zfc):Option zJT:=zwb a some
theorem z1T (a:zfc) (k:zJT→Ans):zwb a k=za (zas a) k:=by
  obtain ⟨a0,a1⟩:=a
  simp only [zas,zwb,zi,zh,zl,zc,zj,zm,zg]
def zy1:zfc→List AV:=fun (a0,a1)=>[.int .i64 a0,.int .i64 a1]
def zLI (l:List AV):Option {a:zfc // l=zy1 a}:=match l with
  | [.int .i64 a0,.int .i64 a1]=>some ⟨(a0,a1),rfl⟩
  | _=>none
def zTg (l:List AV):Option zfc:=pk (zLI l)
theorem zWq (l:List AV) (a:zfc) (h:zTg l=some a):l=zy1 a:=zt (o:=zLI l) h
def zAN:zfc→zJT→AV:=fun (a0,a1)=>fun r_y => .bool r_y
theorem zZD : ∀(a:zfc) (y:zJT),(zAN a y).closed1=true:=by
  rintro ⟨a0,a1⟩ y <;> first | rfl | exact Empty.elim y
theorem z7O (a:zfc):fnE Tryz.tab zuT zd 0 70 69 Tryz.f69.ntmps Tryz.f69.results.toList z02 z9y (zy1 a) [] (fun v _=>some (v,[]))=zwb a (fun y=>some (zAN a y,[])):=by kernel_rfl
def Zff (a:zfc) (K:AV→Ans):Ans:=za (zas a) fun y=>K (zAN a y)
def z8u:List AV→(AV→Ans)→Ans:=fun l K=>za (zTg l) fun a=>Zff a K
theorem zR1:zM Tryz.prog 69 z8u:=zL (hint:=zd) (d:=0) (n:=70) mixed tabOk zKs Tryz.func69 (zE (by kernel_rfl)) (by decide +kernel) z10 zWq z7O z1T zZD
--@ super_Check
noncomputable def ztd:Env:=[(68,.pure z9U),(69,.pure z8u)]
theorem zOm:zf Tryz.prog ztd:=zf.cons zTN (zf.cons zR1 (zf.nil))
noncomputable def z7k:Code:=Tryz.f34.body.getD .skip
noncomputable def zoC:Code:=zF [1,1,0,0] z7k
noncomputable def zwr:Ann := .none
theorem zHP:zq Tryz.prog 36 zoC zwr:=(zb _ _ _)
abbrev QM:=(Int)×(Int)×(Int)×(Int)×(Int)×(Int)×(Int)
abbrev zqG:=(Bool)
def zzW:QM→St:=fun (o0_0,o0_1,o0_2,o0_3,o0_4,o0_5,o0_6)=>{ env:=[(1,.ptr 0 0)],stk:=[[]],H:=[.cells [.int .i64 o0_0,.int .i64 o0_1,.int .i64 o0_2,.int .i64 o0_3,.int .i64 o0_4,.int .i64 o0_5,.int .i64 o0_6]],blk:=139264 }
def zxh (s:St):Option {x:QM // s=zzW x}:=match s with
  | { env:=[(1,.ptr 0 0)],stk:=[[]],H:=[.cells [.int .i64 o0_0,.int .i64 o0_1,.int .i64 o0_2,.int .i64 o0_3,.int .i64 o0_4,.int .i64 o0_5,.int .i64 o0_6]],blk:=139264 }=>some ⟨(o0_0,o0_1,o0_2,o0_3,o0_4,o0_5,o0_6),rfl⟩
  | _=>none
def zk6 (s:St):Option QM:=pk (zxh s)
theorem zLH (s:St) (x:QM) (h:zk6 s=some x):s=zzW x:=zt (o:=zxh s) h
def zmR:QM→(Ex→St→Ans)→zqG→Ans:=fun (o0_0,o0_1,o0_2,o0_3,o0_4,o0_5,o0_6) K=>fun t35_y=>K (Ex.norm) { env:=[(35,.bool t35_y)],stk:=[[]],H:=[],blk:=139264 }
def zaS {β:Type}:QM→(zqG→Option β)→Option β:=fun (o0_0,o0_1,o0_2,o0_3,o0_4,o0_5,o0_6) exit=>(za (zas (o0_0,(1:Int))) fun r=>(bif !r then (exit (true)) else (za (zas (o0_1,(1:Int))) fun r_2=>(bif !r_2 then (exit (true)) else (za (zas (o0_2,(16777216:Int))) fun r_3=>(bif !r_3 then (exit (true)) else (za (zas (o0_3,IntKind.wrap .i64 (o0_4 - (1:Int)))) fun r_4=>(exit (!r_4)))))))))
def qq (i:QM):Option zqG:=zaS i some
theorem zDb (i:QM) (k:zqG→Ans):zaS i k=za (qq i) k:=by
  obtain ⟨o0_0,o0_1,o0_2,o0_3,o0_4,o0_5,o0_6⟩:=i
  simp only [qq,zaS,zi,zh,zl,zc,zj,zm,zg]
theorem zHv (i:QM) (K:Ex→St→Ans):zx Tryz.tab ztd zd (zy Tryz.tab ztd zd 0 64) 70 36 zwr zoC (zB 0 (exk [35] [2] []) K) (zzW i)=zaS i (zmR i K):=by kernel_rfl
theorem zQh:zw Tryz.prog 36 zoC (zG zk6 qq zmR):=zA mixed tabOk zOm 0 (exk [35] [2] []) zHP zLH zHv zDb
noncomputable def zUy:(Ex→St→Ans)→St→Ans:=(zG zk6 qq zmR)
theorem zWZ:zw Tryz.prog 36 zoC zUy:=zQh
noncomputable def z42:Ann:=(.seq .none (.seq .none (.seq (.seq (.cut 0 [1] zUy) .none) .none)))
theorem z4v:zq Tryz.prog 36 z7k z42:=⟨(zb _ _ _),⟨(zb _ _ _),⟨⟨zWZ,(zb _ _ _)⟩,(zb _ _ _)⟩⟩⟩
abbrev zd2:=(Int)×(Int)×(Int)×(Int)×(Int)×(Int)×(Int)
abbrev zJr:=(Int)
def zv8 {β:Type}:zd2→(zJr→Option β)→Option β:=fun (a0_0,a0_1,a0_2,a0_3,a0_4,a0_5,a0_6) exit=>(za (zhP (a0_4,a0_5,a0_6)) fun r=>(bif r != (0:Int) then (exit (r)) else (za (qq (a0_0,a0_1,a0_2,a0_3,a0_4,a0_5,a0_6)) fun t35=>(bif t35 then (exit ((3:Int))) else (exit ((0:Int)))))))
def zep (a:zd2):Option zJr:=zv8 a some
theorem z1F (a:zd2) (k:zJr→Ans):zv8 a k=za (zep a) k:=by
  obtain ⟨a0_0,a0_1,a0_2,a0_3,a0_4,a0_5,a0_6⟩:=a
  simp only [zep,zv8,zi,zh,zl,zc,zj,zm,zg]
def zy3:zd2→List AV:=fun (a0_0,a0_1,a0_2,a0_3,a0_4,a0_5,a0_6)=>[.agg [.int .i64 a0_0,.int .i64 a0_1,.int .i64 a0_2,.int .i64 a0_3,.int .i64 a0_4,.int .i64 a0_5,.int .i64 a0_6]]
def zKQ (l:List AV):Option {a:zd2 // l=zy3 a}:=match l with
  | [.agg [.int .i64 a0_0,.int .i64 a0_1,.int .i64 a0_2,.int .i64 a0_3,.int .i64 a0_4,.int .i64 a0_5,.int .i64 a0_6]]=>some ⟨(a0_0,a0_1,a0_2,a0_3,a0_4,a0_5,a0_6),rfl⟩
  | _=>none
def zRE (l:List AV):Option zd2:=pk (zKQ l)
theorem zVB (l:List AV) (a:zd2) (h:zRE l=some a):l=zy3 a:=zt (o:=zKQ l) h
def zAt:zd2→zJr→AV:=fun (a0_0,a0_1,a0_2,a0_3,a0_4,a0_5,a0_6)=>fun r_y => .int .i64 r_y
theorem zZs : ∀(a:zd2) (y:zJr),(zAt a y).closed1=true:=by
  rintro ⟨a0_0,a0_1,a0_2,a0_3,a0_4,a0_5,a0_6⟩ y <;> first | rfl | exact Empty.elim y
theorem z6W (a:zd2):fnE Tryz.tab ztd zd 0 70 34 Tryz.f34.ntmps Tryz.f34.results.toList z42 z7k (zy3 a) [] (fun v _=>some (v,[]))=zv8 a (fun y=>some (zAt a y,[])):=by kernel_rfl
def Ze2 (a:zd2) (K:AV→Ans):Ans:=za (zep a) fun y=>K (zAt a y)
def zU2:List AV→(AV→Ans)→Ans:=fun l K=>za (zRE l) fun a=>Ze2 a K
theorem zBA:zM Tryz.prog 34 zU2:=zL (hint:=zd) (d:=0) (n:=70) mixed tabOk zOm Tryz.func34 (zE (by kernel_rfl)) (by decide +kernel) z4v zVB z6W z1F zZs
--@ field_Fits
noncomputable def zvS:Env:=[(92,.pure z0f)]
theorem zMQ:zf Tryz.prog zvS:=zf.cons zEc (zf.nil)
noncomputable def z8n:Code:=Tryz.f98.body.getD .skip
noncomputable def zoH:Code:=zF [1,0] z8n
noncomputable def zym:Ann := .none
theorem zG6:zq Tryz.prog 18 zoH zym:=(zb _ _ _)
abbrev Qz:=(Int)×(Int)
abbrev zpK:=(Bool)
def zzw:Qz→St:=fun (t0,t1)=>{ env:=[(0,.int .i64 t0),(1,.int .i64 t1)],stk:=[[]],H:=[],blk:=401408 }
def zts (s:St):Option {x:Qz // s=zzw x}:=match s with
  | { env:=[(0,.int .i64 t0),(1,.int .i64 t1)],stk:=[[]],H:=[],blk:=401408 }=>some ⟨(t0,t1),rfl⟩
  | _=>none
def zk2 (s:St):Option Qz:=pk (zts s)
theorem zNw (s:St) (x:Qz) (h:zk2 s=some x):s=zzw x:=zt (o:=zts s) h
def zml:Qz→(Ex→St→Ans)→zpK→Ans:=fun (t0,t1) K=>fun t4_y=>K (Ex.norm) { env:=[(4,.bool t4_y)],stk:=[[]],H:=[],blk:=401408 }
def zba {β:Type}:Qz→(zpK→Option β)→Option β:=fun (t0,t1) exit=>(za (zcz (t1)) fun r=>(bif r then (bif decide (t0≥(0:Int)) then (bif decide (IntKind.wrap .i64 ((8:Int)*t1)<(0:Int)) then none else (exit (Int.fdiv t0 ((2:Int) ^ min (Int.toNat (IntKind.wrap .i64 ((8:Int)*t1))) (64:Nat)) == (0:Int)))) else (exit (false))) else (exit (false))))
def WX (i:Qz):Option zpK:=zba i some
theorem zBq (i:Qz) (k:zpK→Ans):zba i k=za (WX i) k:=by
  obtain ⟨t0,t1⟩:=i
  simp only [WX,zba,zi,zh,zl,zc,zj,zm,zg]
theorem zHL (i:Qz) (K:Ex→St→Ans):zx Tryz.tab zvS zd (zy Tryz.tab zvS zd 0 64) 70 18 zym zoH (zB 0 (exk [4] [4] []) K) (zzw i)=zba i (zml i K):=by kernel_rfl
theorem zP2:zw Tryz.prog 18 zoH (zG zk2 WX zml):=zA mixed tabOk zMQ 0 (exk [4] [4] []) zG6 zNw zHL zBq
noncomputable def zUK:(Ex→St→Ans)→St→Ans:=(zG zk2 WX zml)
theorem zWe:zw Tryz.prog 18 zoH zUK:=zP2
noncomputable def z0N:Ann:=(.seq .none (.seq (.cut 0 [0,1] zUK) .none))
theorem z2t:zq Tryz.prog 18 z8n z0N:=⟨(zb _ _ _),⟨zWe,(zb _ _ _)⟩⟩
abbrev zed:=(Int)×(Int)
abbrev zM3:=(Bool)
def zwe {β:Type}:zed→(zM3→Option β)→Option β:=fun (a0,a1) exit=>(za (WX (a0,a1)) fun t4=>(exit (t4)))
def zhd (a:zed):Option zM3:=zwe a some
theorem z5X (a:zed) (k:zM3→Ans):zwe a k=za (zhd a) k:=by
  obtain ⟨a0,a1⟩:=a
  simp only [zhd,zwe,zi,zh,zl,zc,zj,zm,zg]
def zBr:zed→List AV:=fun (a0,a1)=>[.int .i64 a0,.int .i64 a1]
def zN8 (l:List AV):Option {a:zed // l=zBr a}:=match l with
  | [.int .i64 a0,.int .i64 a1]=>some ⟨(a0,a1),rfl⟩
  | _=>none
def zT5 (l:List AV):Option zed:=pk (zN8 l)
theorem zU3 (l:List AV) (a:zed) (h:zT5 l=some a):l=zBr a:=zt (o:=zN8 l) h
def zzM:zed→zM3→AV:=fun (a0,a1)=>fun r_y => .bool r_y
theorem zVO : ∀(a:zed) (y:zM3),(zzM a y).closed1=true:=by
  rintro ⟨a0,a1⟩ y <;> first | rfl | exact Empty.elim y
theorem z8N (a:zed):fnE Tryz.tab zvS zd 0 70 98 Tryz.f98.ntmps Tryz.f98.results.toList z0N z8n (zBr a) [] (fun v _=>some (v,[]))=zwe a (fun y=>some (zzM a y,[])):=by kernel_rfl
def ZeS (a:zed) (K:AV→Ans):Ans:=za (zhd a) fun y=>K (zzM a y)
def z6B:List AV→(AV→Ans)→Ans:=fun l K=>za (zT5 l) fun a=>ZeS a K
theorem zTl:zM Tryz.prog 98 z6B:=zL (hint:=zd) (d:=0) (n:=70) mixed tabOk zMQ Tryz.func98 (zE (by kernel_rfl)) (by decide +kernel) z2t zU3 z8N z5X zVO
--@ field_Put
noncomputable def zhM:Env:=[(98,.pure z6B)]
theorem zIZ:zf Tryz.prog zhM:=zf.cons zTl (zf.nil)
noncomputable def z8c:Code:=Tryz.f57.body.getD .skip
noncomputable def zhA:Code:=zF [1,1,1,0,1,0,0] z8c
noncomputable def ziw:Ann := .at 0 [0,1,2,7,17,18] (.loop .none)
theorem zGi:zq Tryz.prog 37 (.loop zhA) ziw:=Zi (zb _ _ _)
abbrev jQ:=(List UInt8)×(Int)×(Int)×(Int)
abbrev zp1:=(List Int)
abbrev wZ:=(Int)×(List Int)
def znR:jQ→wZ→St:=fun (t0,t1,t2,t17) (t18,o0)=>{ env:=[(0,.str t0),(1,.int .i64 t1),(2,.int .i64 t2),(7,.own 0),(17,.int .i64 t17),(18,.int .i64 t18)],stk:=[[]],H:=[.arr (.int .u8) o0],blk:=233472 }
def zvV (s:St):Option {x:jQ×wZ // s=znR x.1 x.2}:=match s with
  | { env:=[(0,.str t0),(1,.int .i64 t1),(2,.int .i64 t2),(7,.own 0),(17,.int .i64 t17),(18,.int .i64 t18)],stk:=[[]],H:=[.arr (.int .u8) o0],blk:=233472 }=>some ⟨((t0,t1,t2,t17),(t18,o0)),rfl⟩
  | _=>none
def zlH (s:St):Option (jQ×wZ):=pk (zvV s)
theorem zNq (s:St) (x:jQ×wZ) (h:zlH s=some x):s=znR x.1 x.2:=zt (o:=zvV s) h
def zmu:jQ→(Ex→St→Ans)→zp1→Ans:=fun (t0,t1,t2,t17) K=>fun o0_y=>K (Ex.exit 0) { env:=[(0,.str t0),(7,.own 0)],stk:=[[]],H:=[.arr (.int .u8) o0_y],blk:=233472 }
def Ql {β:Type}:jQ→wZ→(wZ→Option β)→(zp1→Option β)→Option β:=fun (t0,t1,t2,t17) (t18,o0) next exit=>(bif decide (t18<t17) then (bif decide (IntKind.wrap .i64 ((8:Int)*IntKind.wrap .i64 (IntKind.wrap .i64 (t2 - (1:Int)) - t18))<(0:Int)) then none else (bif inR t18 (List.length o0) then (za (o0[Int.toNat t18]?) fun x=>(next (IntKind.wrap .i64 (t18+(1:Int)),List.set o0 (Int.toNat t18) (IntKind.wrap .u8 (Int.fdiv t1 ((2:Int) ^ min (Int.toNat (IntKind.wrap .i64 ((8:Int)*IntKind.wrap .i64 (IntKind.wrap .i64 (t2 - (1:Int)) - t18)))) (64:Nat))))))) else none)) else (exit (o0)))
def yP (i:jQ) (v:wZ):Option (wZ ⊕ zp1):=Ql i v (fun v=>some (.inl v)) (fun y=>some (.inr y))
theorem zD1 (i:jQ) (v:wZ) (next:wZ→Ans) (exit:zp1→Ans):Ql i v next exit=za (yP i v) (Sum.elim next exit):=by
  obtain ⟨t0,t1,t2,t17⟩:=i
  obtain ⟨t18,o0⟩:=v
  simp only [yP,Ql,zi,zh,zl,zc,zj,zm,zg,Sum.elim_inl,Sum.elim_inr]
theorem zHt (n:Nat) (i:jQ) (v:wZ) (K:Ex→St→Ans):zx Tryz.tab zhM zd (zy Tryz.tab zhM zd 0 64) (n+1) 37 ziw (.loop zhA) (zB 0 (exk [0,7] [6] [(0,[0,7])]) K) (znR i v)=Ql i v (fun v'=>zx Tryz.tab zhM zd (zy Tryz.tab zhM zd 0 64) n 37 ziw (.loop zhA) (zB 0 (exk [0,7] [6] [(0,[0,7])]) K) (znR i v')) (fun y=>zmu i K y):=by kernel_rfl
theorem zQH:zw Tryz.prog 37 (.loop zhA) (Zm zlH yP zmu):=Zf mixed tabOk zIZ 0 (exk [0,7] [6] [(0,[0,7])]) zGi zNq zHt zD1
noncomputable def zUj:(Ex→St→Ans)→St→Ans:=(Zm zlH yP zmu)
theorem zYj:zw Tryz.prog 37 (.loop zhA) zUj:=zQH
noncomputable def z0Q:Ann:=(.seq .none (.seq .none (.seq .none (.seq (.seq .none (.block (.cut 0 [0,1,2,7,17,18] zUj))) .none))))
theorem z5A:zq Tryz.prog 37 z8c z0Q:=⟨(zb _ _ _),⟨(zb _ _ _),⟨(zb _ _ _),⟨⟨(zb _ _ _),zYj⟩,(zb _ _ _)⟩⟩⟩⟩
abbrev zeG:=(List UInt8)×(Int)×(Int)
abbrev zJ9:=(List UInt8)
def zvP {β:Type}:zeG→(zJ9→Option β)→Option β:=fun (a0,a1,a2) exit=>(za (zhd (a1,a2)) fun r=>(bif !r then (exit (a0)) else (bif decide ((0:Int)≤a2)&&decide (a2≤a2)&&decide ((1:Int)*a2≤(281474976710656:Int))&&decide (a2≤(9223372036854775807:Int)) then (za (zO (yP (a0,a1,a2,(↑(List.length (List.replicate (Int.toNat a2) (0:Int))):Int))) zY ((0:Int),List.replicate (Int.toNat a2) (0:Int))) fun o0=>(bif Nat.ble (List.length a0+List.length (Zh o0)) (9223372036854775807:Nat) then (exit (a0++Zh o0)) else none)) else none)))
def Zw (a:zeG):Option zJ9:=zvP a some
theorem z25 (a:zeG) (k:zJ9→Ans):zvP a k=za (Zw a) k:=by
  obtain ⟨a0,a1,a2⟩:=a
  simp only [Zw,zvP,zi,zh,zl,zc,zj,zm,zg]
def zEe:zeG→List AV:=fun (a0,a1,a2)=>[.str a0,.int .i64 a1,.int .i64 a2]
def zJ5 (l:List AV):Option {a:zeG // l=zEe a}:=match l with
  | [.str a0,.int .i64 a1,.int .i64 a2]=>some ⟨(a0,a1,a2),rfl⟩
  | _=>none
def zRm (l:List AV):Option zeG:=pk (zJ5 l)
theorem z0h (l:List AV) (a:zeG) (h:zRm l=some a):l=zEe a:=zt (o:=zJ5 l) h
def zCb:zeG→zJ9→AV:=fun (a0,a1,a2)=>fun r_y => .str r_y
theorem zZ1 : ∀(a:zeG) (y:zJ9),(zCb a y).closed1=true:=by
  rintro ⟨a0,a1,a2⟩ y <;> first | rfl | exact Empty.elim y
theorem z79 (a:zeG):fnE Tryz.tab zhM zd 0 70 57 Tryz.f57.ntmps Tryz.f57.results.toList z0Q z8c (zEe a) [] (fun v _=>some (v,[]))=zvP a (fun y=>some (zCb a y,[])):=by kernel_rfl
def Zfj (a:zeG) (K:AV→Ans):Ans:=za (Zw a) fun y=>K (zCb a y)
def zmY:List AV→(AV→Ans)→Ans:=fun l K=>za (zRm l) fun a=>Zfj a K
theorem zbR:zM Tryz.prog 57 zmY:=zL (hint:=zd) (d:=0) (n:=70) mixed tabOk zIZ Tryz.func57 (zE (by kernel_rfl)) (by decide +kernel) z5A z0h z79 z25 zZ1
end Go.Proofs.R9

/- What the functions that DumpSpoiltCardSaid reaches compute: part 1. -/
import Derived.Test.YthfoooplgceaoaaGreatDoorAe6
import Derived.Test.YthfoooplgceaoaaGreatDoorProg
import Derived.Test.YthfoooplgceaoaaGreatDoorChecked
import Derived.Eval
import Derived.Shelf.Strings.Builder1
import Derived.Shelf.Strings.Builder2
import Derived.Shelf.Strings.BuilderF
import Derived.Shelf.Strings.Prefix
import Derived.Shelf.Bits.Mul64
import Derived.Shelf.Strings.Repeat
import Derived.Shelf.Sort.Plain
import Derived.Shelf.Slices.In.SortNone
import Derived.Shelf.Strings.OnBuilder
set_option linter.unusedVariables false
set_option linter.unusedSimpArgs false
namespace Go.Plain
def zCO:Nat:=3988292384
def ye (n:Nat):Nat:=(n / 2) ^^^ (if n % 2=1 then zCO else 0)
def yi:Nat→Nat→Nat
  | 0,n=>n
  | k+1,n=>yi k (ye n)
def yW (n c:Nat):Nat:=yi 8 (n ^^^ c)
def QS (n:Nat) (s:List UInt8):Nat:=s.foldl (fun n c=>yW n c.toNat) n
def wh:Nat:=4294967295
def crc (s:List UInt8):Nat:=QS wh s ^^^ wh
def le4 (n:Nat):List UInt8:=[UInt8.ofNat (n % 256),UInt8.ofNat (n / 256 % 256),UInt8.ofNat (n / 65536 % 256),UInt8.ofNat (n / 16777216 % 256)]
def tail (s:List UInt8):List UInt8:=le4 (crc s)
theorem zbA {n:Nat} (h:n<2 ^ 32):ye n<2 ^ 32:=by
  unfold ye
  refine Nat.xor_lt_two_pow (by omega) ?_
  unfold zCO
  split <;> decide
theorem zl3 {n:Nat} (h:n<2 ^ 32):(ye n).testBit 31=decide (n % 2=1):=by
  unfold ye
  rw [Nat.testBit_xor]
  have h1:(n / 2).testBit 31=false:=Nat.testBit_lt_two_pow (by omega)
  rw [h1]
  by_cases hn:n % 2=1
  · rw [if_pos hn];simp [hn];decide
  · rw [if_neg hn];simp [hn]
theorem zfF {a b c:Nat} (h:a ^^^ c=b ^^^ c):a=b:=by
  have:(a ^^^ c) ^^^ c=(b ^^^ c) ^^^ c:=by rw [h]
  rwa [Nat.xor_assoc,Nat.xor_assoc,Nat.xor_self,Nat.xor_zero,Nat.xor_zero] at this
theorem zEi {n m:Nat} (hn:n<2 ^ 32) (hm:m<2 ^ 32) (h:ye n=ye m):n=m:=by
  have hb:=zl3 hn
  rw [h,zl3 hm] at hb
  have hp:m % 2=1↔n % 2=1:=by simpa using hb
  unfold ye at h
  by_cases e:n % 2=1
  · have e':=hp.2 e
    rw [if_pos e,if_pos e'] at h
    have:=zfF h
    omega
  · have e' : ¬m % 2=1:=fun x=>e (hp.1 x)
    rw [if_neg e,if_neg e',Nat.xor_zero,Nat.xor_zero] at h
    omega
theorem zDo (a b:Nat):ye (a ^^^ b)=ye a ^^^ ye b:=by
  unfold ye
  have h1:(a ^^^ b) / 2=a / 2 ^^^ b / 2:=by
    have:=Nat.shiftRight_xor_distrib (a:=a) (b:=b) (i:=1)
    simpa [Nat.shiftRight_eq_div_pow] using this
  have h2:(a ^^^ b) % 2=(a % 2) ^^^ (b % 2):=by
    have:=Nat.xor_mod_two_pow (a:=a) (b:=b) (n:=1)
    simpa using this
  rw [h1,h2]
  have ha:a % 2=0∨a % 2=1:=by omega
  have hb:b % 2=0∨b % 2=1:=by omega
  rcases ha with ha | ha <;> rcases hb with hb | hb <;> rw [ha,hb]
  · simp
  · simp [Nat.xor_assoc]
  · simp
    rw [Nat.xor_assoc,Nat.xor_comm (b / 2),← Nat.xor_assoc]
  · simp
    rw [Nat.xor_assoc,← Nat.xor_assoc zCO,Nat.xor_comm zCO,Nat.xor_assoc,Nat.xor_self,Nat.xor_zero]
theorem zr5 : ∀(k:Nat) {n:Nat},n<2 ^ 32→yi k n<2 ^ 32
  | 0,_,h=>h
  | k+1,_,h=>zr5 k (zbA h)
theorem zmT : ∀(k:Nat) {n m:Nat},n<2 ^ 32→m<2 ^ 32→yi k n=yi k m→n=m
  | 0,_,_,_,_,h=>h
  | k+1,_,_,hn,hm,h=>zEi hn hm (zmT k (zbA hn) (zbA hm) h)
theorem zyD : ∀(k a b:Nat),yi k (a ^^^ b)=yi k a ^^^ yi k b
  | 0,_,_=>rfl
  | k+1,a,b=>by rw [yi,zDo,zyD k];rfl
theorem zrw : ∀(k c:Nat),yi k (c*2 ^ k)=c
  | 0,c=>by simp [yi]
  | k+1,c=>by
    have:ye (c*2 ^ (k+1))=c*2 ^ k:=by
      unfold ye
      have h1:c*2 ^ (k+1)=2*(c*2 ^ k):=by rw [Nat.pow_succ,← Nat.mul_assoc,Nat.mul_comm]
      rw [h1,if_neg (by omega),Nat.xor_zero]
      omega
    rw [yi,this]
    exact zrw k c
theorem znY : ∀(j k n:Nat),yi k (yi j n)=yi (j+k) n
  | 0,k,n=>by rw [Nat.zero_add];rfl
  | j+1,k,n=>by rw [yi,znY j k,show j+1+k=(j+k)+1 by omega];rfl
theorem zdK {n c:Nat} (hn:n<2 ^ 32) (hc:c<256):yW n c<2 ^ 32:=zr5 8 (Nat.xor_lt_two_pow hn (by omega))
theorem zch : ∀(s:List UInt8) {n:Nat},n<2 ^ 32→QS n s<2 ^ 32
  | [],_,h=>h
  | c::s,_,h=>zch s (zdK h c.toNat_lt)
theorem zEB : ∀(s:List UInt8) {n m:Nat},n<2 ^ 32→m<2 ^ 32→QS n s=QS m s→n=m
  | [],_,_,_,_,h=>h
  | c::s,n,m,hn,hm,h=>by
    have hc:c.toNat<2 ^ 32:=by have:=c.toNat_lt;omega
    exact zfF (zmT 8 (Nat.xor_lt_two_pow hn hc) (Nat.xor_lt_two_pow hm hc) (zEB s (zdK hn c.toNat_lt) (zdK hm c.toNat_lt) h))
theorem qP (n:Nat) (s t:List UInt8):QS n (s++t)=QS (QS n s) t:=List.foldl_append ..
theorem zgM (n:Nat) (k c:Nat):yW (yi k n) c=yi (k+8) (n ^^^ (c*2 ^ k)):=by
  unfold yW
  rw [← znY,zyD k,zrw]
theorem zQD (n:Nat) (a b c d:UInt8):QS n [a,b,c,d]=yi 32 (n ^^^ (a.toNat ^^^ b.toNat*2 ^ 8 ^^^ c.toNat*2 ^ 16 ^^^ d.toNat*2 ^ 24)):=by
  show yW (yW (yW (yW n a.toNat) b.toNat) c.toNat) d.toNat=_
  have h0:yW n a.toNat=yi 8 (n ^^^ a.toNat):=rfl
  rw [h0,zgM,zgM,zgM]
  congr 1
  simp only [Nat.xor_assoc]
theorem ztI {a:Nat} (x:Nat) (ha:a<256):a ^^^ x*256=x*256+a:=by
  have h1:(a ^^^ x*256) % 256=a:=by
    have:=Nat.xor_mod_two_pow (a:=a) (b:=x*256) (n:=8)
    simp only [show (2:Nat) ^ 8=256 from rfl] at this
    rw [this,Nat.mod_eq_of_lt ha,Nat.mul_mod_left,Nat.xor_zero]
  have h2:(a ^^^ x*256) / 256=x:=by
    have:=Nat.shiftRight_xor_distrib (a:=a) (b:=x*256) (i:=8)
    simp only [Nat.shiftRight_eq_div_pow,show (2:Nat) ^ 8=256 from rfl] at this
    rw [this,Nat.div_eq_of_lt ha,Nat.zero_xor,Nat.mul_div_cancel _ (by omega)]
  have:=Nat.div_add_mod (a ^^^ x*256) 256
  rw [h1,h2] at this
  omega
theorem zgi (a b c d:UInt8):a.toNat ^^^ b.toNat*2 ^ 8 ^^^ c.toNat*2 ^ 16 ^^^ d.toNat*2 ^ 24=a.toNat+b.toNat*256+c.toNat*65536+d.toNat*16777216:=by
  have ha:=a.toNat_lt;have hb:=b.toNat_lt;have hc:=c.toNat_lt
  have mulx : ∀x y k:Nat,(x ^^^ y)*2 ^ k=x*2 ^ k ^^^ y*2 ^ k:=fun x y k=>by
    rw [← Nat.shiftLeft_eq,← Nat.shiftLeft_eq,← Nat.shiftLeft_eq,Nat.shiftLeft_xor_distrib]
  have e1:c.toNat ^^^ d.toNat*256=d.toNat*256+c.toNat:=ztI _ (by omega)
  have e2:b.toNat ^^^ (d.toNat*256+c.toNat)*256=(d.toNat*256+c.toNat)*256+b.toNat:=ztI _ (by omega)
  have e3:a.toNat ^^^ ((d.toNat*256+c.toNat)*256+b.toNat)*256=((d.toNat*256+c.toNat)*256+b.toNat)*256+a.toNat:=ztI _ (by omega)
  have e4:a.toNat ^^^ b.toNat*2 ^ 8 ^^^ c.toNat*2 ^ 16 ^^^ d.toNat*2 ^ 24=a.toNat ^^^ (b.toNat ^^^ (c.toNat ^^^ d.toNat*256)*256)*256:=by
    have m1:=mulx c.toNat (d.toNat*256) 8
    have m2:=mulx b.toNat ((c.toNat ^^^ d.toNat*256)*256) 8
    simp only [show (2:Nat) ^ 8=256 from rfl] at m1 m2
    rw [m1] at m2 ⊢
    have m3:=mulx (c.toNat*256) (d.toNat*256*256) 8
    simp only [show (2:Nat) ^ 8=256 from rfl] at m3
    rw [m2,m3]
    simp only [Nat.mul_assoc,Nat.xor_assoc,show (256:Nat)*256=2 ^ 16 from rfl,show (256:Nat)*2 ^ 16=2 ^ 24 from rfl,show (256:Nat)=2 ^ 8 from rfl]
  rw [e4,e1,e2,e3]
  omega
theorem zQ5 {n m:Nat} (hn:n<2 ^ 32) {a b c d a' b' c' d':UInt8} (hnm:n=m) (h:QS n [a,b,c,d]=QS m [a',b',c',d']):[a,b,c,d]=[a',b',c',d']:=by
  subst hnm
  rw [zQD,zQD,zgi,zgi] at h
  have ha:=a.toNat_lt;have hb:=b.toNat_lt;have hc:=c.toNat_lt;have hd:=d.toNat_lt
  have ha':=a'.toNat_lt;have hb':=b'.toNat_lt;have hc':=c'.toNat_lt;have hd':=d'.toNat_lt
  have:=zmT 32 (Nat.xor_lt_two_pow hn (by omega)) (Nat.xor_lt_two_pow hn (by omega)) h
  rw [Nat.xor_comm n,Nat.xor_comm n] at this
  have:=zfF this
  have e1:a=a':=UInt8.toNat_inj.1 (by omega)
  have e2:b=b':=UInt8.toNat_inj.1 (by omega)
  have e3:c=c':=UInt8.toNat_inj.1 (by omega)
  have e4:d=d':=UInt8.toNat_inj.1 (by omega)
  rw [e1,e2,e3,e4]
def Whole (s:List UInt8):Prop := ∃m,s=m++tail m
def zFY:Nat:=yi 32 wh
theorem zLy (m:List UInt8):crc m<2 ^ 32:=Nat.xor_lt_two_pow (zch m (by decide)) (by decide)
theorem ofNat_toNat {n:Nat} (h:n<256):(UInt8.ofNat n).toNat=n:=by
  rw [UInt8.toNat_ofNat'];omega
theorem zvW {s:List UInt8} (h:Whole s):QS wh s=zFY:=by
  obtain ⟨m,rfl⟩:=h
  rw [qP,tail,le4,zQD,zgi]
  have hc:=zLy m
  rw [ofNat_toNat (by omega),ofNat_toNat (by omega),ofNat_toNat (by omega),ofNat_toNat (by omega)]
  have e:crc m % 256+crc m / 256 % 256*256+crc m / 65536 % 256*65536+crc m / 16777216 % 256*16777216=crc m:=by omega
  rw [e]
  unfold crc zFY
  rw [← Nat.xor_assoc,Nat.xor_self,Nat.zero_xor]
theorem zVZ {p w w' q:List UInt8} (hl:w.length=4) (hl':w'.length=4) (h:Whole (p++(w++q))) (h':Whole (p++(w'++q))):w=w':=by
  have e:=zvW h
  rw [← zvW h',qP,qP,qP,qP] at e
  have hp:=zch p (n:=wh) (by decide)
  have e:=zEB q (zch _ hp) (zch _ hp) e
  match w,w',hl,hl',e with
  | [a,b,c,d],[a',b',c',d'],_,_,e=>exact zQ5 hp rfl e
theorem Zr (s:List UInt8):(tail s).length=4:=rfl
theorem zAw {s t:List UInt8} (k:Nat) (hl:s.length=t.length) (h4:4≤s.length) (hs:Whole s) (ht:Whole t) (h : ∀i,i<k∨k+4≤i→s[i]? = t[i]?):s=t:=by
  -- the four places,inside
  have key : ∀k,k+4≤s.length→(∀i,i<k∨k+4≤i→s[i]? = t[i]?)→s=t:=by
    intro k hk h
    have e1:s.take k=t.take k:=by
      apply List.ext_getElem?
      intro i
      rw [List.getElem?_take,List.getElem?_take]
      split
      · exact h i (.inl ‹_›)
      · rfl
    have e2:s.drop (k+4)=t.drop (k+4):=by
      apply List.ext_getElem?
      intro i
      rw [List.getElem?_drop,List.getElem?_drop]
      exact h _ (.inr (by omega))
    have ds:s=s.take k++((s.drop k).take 4++s.drop (k+4)):=by
      rw [show s.drop (k+4)=(s.drop k).drop 4 by rw [List.drop_drop],List.take_append_drop,List.take_append_drop]
    have dt:t=t.take k++((t.drop k).take 4++t.drop (k+4)):=by
      rw [show t.drop (k+4)=(t.drop k).drop 4 by rw [List.drop_drop],List.take_append_drop,List.take_append_drop]
    rw [ds] at hs
    rw [dt,← e1,← e2] at ht
    have:=zVZ (by rw [List.length_take,List.length_drop];omega) (by rw [List.length_take,List.length_drop];omega) hs ht
    rw [ds,dt,this,e1,e2]
  by_cases hk:k+4≤s.length
  · exact key k hk h
  · refine key (s.length - 4) (by omega) fun i hi => ?_
    rcases hi with hi | hi
    · exact h i (.inl (by omega))
    · rw [List.getElem?_eq_none (by omega),List.getElem?_eq_none (by omega)]
end Go.Plain
namespace Go.Plain
def be:Nat→Nat→List UInt8
  | 0,_=>[]
  | k+1,n=>UInt8.ofNat (n / 256 ^ k % 256)::be k n
def num (s:List UInt8):Nat:=s.foldl (fun n c=>256*n+c.toNat) 0
theorem zT : ∀k n,(be k n).length=k
  | 0,_=>rfl
  | k+1,n=>by rw [be,List.length_cons,zT k n]
theorem zNa : ∀(k n i:Nat),i<k→(be k n)[i]? = some (UInt8.ofNat (n / 256 ^ (k - 1 - i) % 256))
  | 0,_,_,h=>by omega
  | k+1,n,0,_=>by rw [be];simp
  | k+1,n,i+1,h=>by
    rw [be,List.getElem?_cons_succ,zNa k n i (by omega),show k+1 - 1 - (i+1)=k - 1 - i by omega]
theorem zm1 : ∀(s:List UInt8) (n:Nat),s.foldl (fun n c=>256*n+c.toNat) n=n*256 ^ s.length+num s
  | [],n=>by simp [num]
  | c::s,n=>by
    unfold num
    rw [List.foldl_cons,List.foldl_cons,zm1 s,zm1 s,List.length_cons,Nat.pow_succ,Nat.mul_zero,Nat.zero_add,Nat.add_mul,Nat.mul_comm 256 n,Nat.mul_assoc,Nat.mul_comm 256 (256 ^ s.length),Nat.add_assoc]
theorem znW (c:UInt8) (s:List UInt8):num (c::s)=c.toNat*256 ^ s.length+num s:=by
  rw [num,List.foldl_cons,zm1,Nat.mul_zero,Nat.zero_add]
theorem zRN (s:List UInt8) (c:UInt8):num (s++[c])=256*num s+c.toNat:=by
  unfold num;rw [List.foldl_append];rfl
theorem zrb : ∀s:List UInt8,num s<256 ^ s.length
  | []=>by simp [num]
  | c::s=>by
    rw [znW,List.length_cons,Nat.pow_succ]
    have h1:=zrb s
    have h2:c.toNat<256:=c.toNat_lt
    have:c.toNat*256 ^ s.length+256 ^ s.length≤256 ^ s.length*256:=by
      rw [← Nat.succ_mul,Nat.mul_comm]
      exact Nat.mul_le_mul_left _ h2
    omega
theorem zvx (n:Nat):(UInt8.ofNat (n % 256)).toNat=n % 256:=by
  rw [UInt8.toNat_ofNat'];omega
theorem zyV : ∀(k:Nat) {n m:Nat},n % 256 ^ k=m % 256 ^ k→be k n=be k m
  | 0,_,_,_=>rfl
  | k+1,n,m,h=>by
    have e : ∀x:Nat,x / 256 ^ k % 256=x % 256 ^ (k+1) / 256 ^ k:=fun x=>by
      rw [Nat.pow_succ,Nat.mod_mul_right_div_self]
    have e2 : ∀x:Nat,x % 256 ^ (k+1) % 256 ^ k=x % 256 ^ k:=fun x=>Nat.mod_mod_of_dvd _ ⟨256,by rw [Nat.pow_succ]⟩
    rw [be,be,e,e,h,zyV k (n:=n) (m:=m) (by have h1:=e2 n;rw [h,e2 m] at h1;exact h1.symm)]
theorem zck : ∀(k n:Nat),num (be k n)=n % 256 ^ k
  | 0,n=>by simp [be,num,Nat.mod_one]
  | k+1,n=>by
    rw [be,znW,zT,zvx,zck k n,Nat.pow_succ,Nat.mod_mul]
    rw [Nat.mul_comm,Nat.add_comm]
theorem zAe : ∀s:List UInt8,be s.length (num s)=s
  | []=>rfl
  | c::s=>by
    have h1:=zrb s
    have h2:c.toNat<256:=c.toNat_lt
    have hp:0<256 ^ s.length:=Nat.pow_pos (by omega)
    rw [znW,List.length_cons,be]
    have e:(c.toNat*256 ^ s.length+num s) / 256 ^ s.length % 256=c.toNat:=by
      rw [Nat.mul_comm,Nat.mul_add_div hp,Nat.div_eq_of_lt h1,Nat.add_zero,Nat.mod_eq_of_lt h2]
    rw [e,UInt8.ofNat_toNat]
    have:be s.length (c.toNat*256 ^ s.length+num s)=be s.length (num s):=zyV _ (by rw [Nat.mul_comm,Nat.mul_add_mod])
    rw [this,zAe s]
theorem zU2 {k n m:Nat} (hn:n<256 ^ k) (hm:m<256 ^ k) (h:be k n=be k m):n=m:=by
  have:=zck k n
  rw [h,zck,Nat.mod_eq_of_lt hn,Nat.mod_eq_of_lt hm] at this
  exact this.symm
end Go.Plain
namespace Go.Plain
def zbv (s:List UInt8):List UInt8:=s++List.replicate ((64 - s.length % 64) % 64) 0
def Jh (L:Nat) (b:List UInt8):Prop := ∃m,m.length=L∧b=zbv (m++tail m)
theorem Jb {m:List UInt8} (h:m.length+4≤64):zbv (m++tail m)=m++tail m++List.replicate (60 - m.length) 0:=by
  unfold zbv
  rw [List.length_append,Zr]
  congr 2
  omega
theorem Jh.length {L:Nat} {b:List UInt8} (h:Jh L b) (hL:L+4≤64):b.length=64:=by
  obtain ⟨m,hm,rfl⟩:=h
  rw [Jb (by omega)]
  simp [Zr]
  omega
theorem Jh.whole {L:Nat} {b:List UInt8} (h:Jh L b) (hL:L+4≤64):Whole (b.take (L+4)):=by
  obtain ⟨m,hm,rfl⟩:=h
  rw [Jb (by omega)]
  refine ⟨m,?_⟩
  rw [List.take_append_of_le_length (by simp [Zr];omega),List.take_of_length_le (by simp [Zr];omega)]
theorem Jh.rest {L:Nat} {b:List UInt8} (h:Jh L b) (hL:L+4≤64):b.drop (L+4)=List.replicate (60 - L) 0:=by
  obtain ⟨m,hm,rfl⟩:=h
  rw [Jb (by omega),List.drop_append_of_le_length (by simp [Zr];omega),List.drop_eq_nil_of_le (by simp [Zr];omega),hm]
  rfl
structure Turned {α:Type} (k:Nat) (s t:List α):Prop where
  len:t.length=s.length
  out : ∀i,i<k∨k+4≤i→t[i]? = s[i]?
theorem Turned.refl {α:Type} (k:Nat) (s:List α):Turned k s s:=⟨rfl,fun _ _=>rfl⟩
theorem Turned.set {α:Type} {k:Nat} {s t:List α} (h:Turned k s t) {j:Nat} (hj:k≤j∧j<k+4) (v:α):Turned k s (t.set j v):=by
  refine ⟨by rw [List.length_set,h.len],fun i hi => ?_⟩
  rw [List.getElem?_set_ne (by omega)]
  exact h.out i hi
theorem Turned.map {α β:Type} {k:Nat} {s t:List α} (h:Turned k s t) (f:α→β):Turned k (s.map f) (t.map f) :=
  ⟨by rw [List.length_map,List.length_map,h.len],fun i hi=>by rw [List.getElem?_map,List.getElem?_map,h.out i hi]⟩
theorem Jh.turned {L:Nat} {s b:List UInt8} (hs:Jh L s) (hb:Jh L b) (hL:L+4≤64) {k:Nat} (h:Turned k s b):b=s:=by
  have e:b.take (L+4)=s.take (L+4):=by
    have h1:=hs.length hL
    have h2:=hb.length hL
    refine zAw k (by rw [List.length_take,List.length_take];omega) (by rw [List.length_take];omega) (hb.whole hL) (hs.whole hL) fun i hi => ?_
    rw [List.getElem?_take,List.getElem?_take,h.out i hi]
  rw [← List.take_append_drop (L+4) b,← List.take_append_drop (L+4) s,e,hs.rest hL,hb.rest hL]
end Go.Plain
namespace Go.Proofs
instance Tryz.bt:Go.AE.BT:=⟨5,153,[(32,"Error",306),(162,"solder/state.check",311),(162,"solder/state.side",181),(163,"solder/state.check",312),(163,"solder/state.side",182),(281,"Error",316),(281,"Unwrap",317)]⟩
def Tryz.tab:Go.AE.Tab:=[
  (1,⟨.sc,1,8,[.nilf],none⟩),
  (2,⟨.sc,1,8,[.int .i64 0],some (.int .i64)⟩),
  (3,⟨.sc,1,8,[.int .i64 0],some (.int .i64)⟩),
  (4,⟨.sc,1,1,[.bool false],some .bool⟩),
  (5,⟨.sc,1,1,[.int .u8 0],some (.int .u8)⟩),
  (7,⟨.struct [(2,0),(3,1),(4,2),(6,3)],4,24,[.int .i64 0,.int .i64 0,.bool false,.int .u8 0],some (.st (.pair (.int .i64) (.pair (.int .i64) (.pair .bool (.int .u8)))))⟩),
  (9,⟨.sc,1,16,[.str []],some .str⟩),
  (12,⟨.sc,1,8,[.int .u64 0],some (.int .u64)⟩),
  (20,⟨.sc,1,16,[.nili],none⟩),
  (21,⟨.sc,1,4,[.int .i32 0],some (.int .i32)⟩),
  (22,⟨.slice 9,1,24,[.nils],some (.list .str)⟩),
  (23,⟨.sc,1,8,[.nilf],none⟩),
  (24,⟨.struct [(3,0),(3,1),(3,2)],3,24,[.int .i64 0,.int .i64 0,.int .i64 0],some (.st (.pair (.int .i64) (.pair (.int .i64) (.int .i64))))⟩),
  (25,⟨.struct [(3,0),(3,1),(3,2)],3,24,[.int .i64 0,.int .i64 0,.int .i64 0],some (.st (.pair (.int .i64) (.pair (.int .i64) (.int .i64))))⟩),
  (26,⟨.struct [(3,0),(3,1),(3,2),(3,3),(25,4)],7,56,[.int .i64 0,.int .i64 0,.int .i64 0,.int .i64 0,.int .i64 0,.int .i64 0,.int .i64 0],some (.st (.pair (.int .i64) (.pair (.int .i64) (.pair (.int .i64) (.pair (.int .i64) (.pair (.int .i64) (.pair (.int .i64) (.int .i64))))))))⟩),
  (27,⟨.struct [(3,0),(3,1),(3,2),(3,3),(25,4)],7,56,[.int .i64 0,.int .i64 0,.int .i64 0,.int .i64 0,.int .i64 0,.int .i64 0,.int .i64 0],some (.st (.pair (.int .i64) (.pair (.int .i64) (.pair (.int .i64) (.pair (.int .i64) (.pair (.int .i64) (.pair (.int .i64) (.int .i64))))))))⟩),
  (28,⟨.slice 64,1,24,[.nils],some (.list (.st (.pair (.int .i64) (.pair (.pair (.int .i64) (.int .i64)) (.pair .str (.pair (.pair (.pair (.int .i64) (.int .i64)) .str) (.pair (.pair (.int .i64) (.int .i64)) .str)))))))⟩),
  (29,⟨.slice 4,1,24,[.nils],some (.list .bool)⟩),
  (30,⟨.struct [(27,0),(28,7),(29,8)],9,104,[.int .i64 0,.int .i64 0,.int .i64 0,.int .i64 0,.int .i64 0,.int .i64 0,.int .i64 0,.nils,.nils],some (.st (.pair (.pair (.int .i64) (.pair (.int .i64) (.pair (.int .i64) (.pair (.int .i64) (.pair (.int .i64) (.pair (.int .i64) (.int .i64))))))) (.pair (.list (.st (.pair (.int .i64) (.pair (.pair (.int .i64) (.int .i64)) (.pair .str (.pair (.pair (.pair (.int .i64) (.int .i64)) .str) (.pair (.pair (.int .i64) (.int .i64)) .str))))))) (.list .bool))))⟩),
  (31,⟨.struct [(27,0),(28,7),(29,8)],9,104,[.int .i64 0,.int .i64 0,.int .i64 0,.int .i64 0,.int .i64 0,.int .i64 0,.int .i64 0,.nils,.nils],some (.st (.pair (.pair (.int .i64) (.pair (.int .i64) (.pair (.int .i64) (.pair (.int .i64) (.pair (.int .i64) (.pair (.int .i64) (.int .i64))))))) (.pair (.list (.st (.pair (.int .i64) (.pair (.pair (.int .i64) (.int .i64)) (.pair .str (.pair (.pair (.pair (.int .i64) (.int .i64)) .str) (.pair (.pair (.int .i64) (.int .i64)) .str))))))) (.list .bool))))⟩),
  (32,⟨.sc,1,8,[.int .i64 0],some (.int .i64)⟩),
  (34,⟨.sc,1,8,[.nilf],none⟩),
  (36,⟨.sc,1,8,[.nilf],none⟩),
  (37,⟨.sc,1,8,[.nilf],none⟩),
  (38,⟨.sc,1,8,[.nilf],none⟩),
  (39,⟨.sc,1,8,[.nilf],none⟩),
  (40,⟨.array 3 3,3,24,[.int .i64 0,.int .i64 0,.int .i64 0],some (.st (.pair (.int .i64) (.pair (.int .i64) (.int .i64))))⟩),
  (41,⟨.array 4 5,4,4,[.int .u8 0,.int .u8 0,.int .u8 0,.int .u8 0],some (.st (.pair (.int .u8) (.pair (.int .u8) (.pair (.int .u8) (.int .u8)))))⟩),
  (42,⟨.sc,1,8,[.nilf],none⟩),
  (43,⟨.sc,1,8,[.int .u64 0],some (.int .u64)⟩),
  (44,⟨.slice 5,1,24,[.nils],some (.list (.int .u8))⟩),
  (45,⟨.sc,1,8,[.nilf],none⟩),
  (46,⟨.sc,1,8,[.nilf],none⟩),
  (47,⟨.ptr 132,1,8,[.nilp],none⟩),
  (48,⟨.sc,1,8,[.nilf],none⟩),
  (49,⟨.sc,1,8,[.nilf],none⟩),
  (50,⟨.sc,1,8,[.nilf],none⟩),
  (52,⟨.sc,1,8,[.nilf],none⟩),
  (53,⟨.sc,1,8,[.nilf],none⟩),
  (54,⟨.ptr 31,1,8,[.nilp],none⟩),
  (55,⟨.sc,1,8,[.nilf],none⟩),
  (56,⟨.slice 3,1,24,[.nils],some (.list (.int .i64))⟩),
  (58,⟨.sc,1,8,[.nilf],none⟩),
  (59,⟨.struct [(3,0),(3,1)],2,16,[.int .i64 0,.int .i64 0],some (.st (.pair (.int .i64) (.int .i64)))⟩),
  (60,⟨.struct [(3,0),(3,1)],2,16,[.int .i64 0,.int .i64 0],some (.st (.pair (.int .i64) (.int .i64)))⟩),
  (61,⟨.struct [(60,0),(9,2)],3,32,[.int .i64 0,.int .i64 0,.str []],some (.st (.pair (.pair (.int .i64) (.int .i64)) .str))⟩),
  (62,⟨.struct [(60,0),(9,2)],3,32,[.int .i64 0,.int .i64 0,.str []],some (.st (.pair (.pair (.int .i64) (.int .i64)) .str))⟩),
  (63,⟨.struct [(3,0),(60,1),(9,3),(62,4),(62,7)],10,104,[.int .i64 0,.int .i64 0,.int .i64 0,.str [],.int .i64 0,.int .i64 0,.str [],.int .i64 0,.int .i64 0,.str []],some (.st (.pair (.int .i64) (.pair (.pair (.int .i64) (.int .i64)) (.pair .str (.pair (.pair (.pair (.int .i64) (.int .i64)) .str) (.pair (.pair (.int .i64) (.int .i64)) .str))))))⟩),
  (64,⟨.struct [(3,0),(60,1),(9,3),(62,4),(62,7)],10,104,[.int .i64 0,.int .i64 0,.int .i64 0,.str [],.int .i64 0,.int .i64 0,.str [],.int .i64 0,.int .i64 0,.str []],some (.st (.pair (.int .i64) (.pair (.pair (.int .i64) (.int .i64)) (.pair .str (.pair (.pair (.pair (.int .i64) (.int .i64)) .str) (.pair (.pair (.int .i64) (.int .i64)) .str))))))⟩),
  (66,⟨.sc,1,8,[.nilf],none⟩),
  (67,⟨.sc,1,8,[.nilf],none⟩),
  (69,⟨.sc,1,8,[.nilf],none⟩),
  (70,⟨.sc,1,8,[.nilf],none⟩),
  (71,⟨.sc,1,8,[.nilf],none⟩),
  (72,⟨.sc,1,8,[.nilf],none⟩),
  (73,⟨.sc,1,8,[.nilf],none⟩),
  (74,⟨.sc,1,8,[.nilf],none⟩),
  (75,⟨.sc,1,8,[.nilf],none⟩),
  (76,⟨.sc,1,8,[.nilf],none⟩),
  (77,⟨.sc,1,8,[.nilf],none⟩),
  (78,⟨.sc,1,8,[.nilf],none⟩),
  (79,⟨.ptr 121,1,8,[.nilp],none⟩),
  (80,⟨.sc,1,8,[.nilf],none⟩),
  (81,⟨.sc,1,8,[.nilf],none⟩),
  (82,⟨.sc,1,8,[.nilf],none⟩),
  (84,⟨.sc,1,8,[.nilf],none⟩),
  (85,⟨.sc,1,8,[.nilf],none⟩),
  (86,⟨.ptr 144,1,8,[.nilp],none⟩),
  (87,⟨.sc,1,8,[.nilf],none⟩),
  (88,⟨.sc,1,8,[.nilf],none⟩),
  (89,⟨.sc,1,8,[.nilf],none⟩),
  (90,⟨.ptr 146,1,8,[.nilp],none⟩),
  (91,⟨.sc,1,8,[.nilf],none⟩),
  (92,⟨.sc,1,8,[.nilf],none⟩),
  (93,⟨.sc,1,8,[.nilf],none⟩),
  (94,⟨.sc,1,8,[.nilf],none⟩),
  (95,⟨.sc,1,8,[.nilf],none⟩),
  (96,⟨.sc,1,8,[.nilf],none⟩),
  (97,⟨.sc,1,8,[.nilf],none⟩),
  (98,⟨.sc,1,8,[.nilf],none⟩),
  (100,⟨.sc,1,8,[.nilf],none⟩),
  (101,⟨.ptr 103,1,8,[.nilp],none⟩),
  (102,⟨.struct [(9,0),(3,1),(32,2)],3,32,[.str [],.int .i64 0,.int .i64 0],some (.st (.pair .str (.pair (.int .i64) (.int .i64))))⟩),
  (103,⟨.struct [(9,0),(3,1),(32,2)],3,32,[.str [],.int .i64 0,.int .i64 0],some (.st (.pair .str (.pair (.int .i64) (.int .i64))))⟩),
  (104,⟨.sc,1,8,[.nilf],none⟩),
  (105,⟨.sc,1,8,[.nilf],none⟩),
  (106,⟨.sc,1,8,[.nilf],none⟩),
  (107,⟨.sc,1,8,[.nilf],none⟩),
  (108,⟨.sc,1,8,[.nilf],none⟩),
  (109,⟨.sc,1,16,[.nili],none⟩),
  (110,⟨.sc,1,16,[.nili],none⟩),
  (111,⟨.sc,1,8,[.nilf],none⟩),
  (112,⟨.sc,1,8,[.nilf],none⟩),
  (113,⟨.sc,1,8,[.nilf],none⟩),
  (114,⟨.struct [(3,0),(62,1),(62,4)],7,72,[.int .i64 0,.int .i64 0,.int .i64 0,.str [],.int .i64 0,.int .i64 0,.str []],some (.st (.pair (.int .i64) (.pair (.pair (.pair (.int .i64) (.int .i64)) .str) (.pair (.pair (.int .i64) (.int .i64)) .str))))⟩),
  (115,⟨.struct [(3,0),(62,1),(62,4)],7,72,[.int .i64 0,.int .i64 0,.int .i64 0,.str [],.int .i64 0,.int .i64 0,.str []],some (.st (.pair (.int .i64) (.pair (.pair (.pair (.int .i64) (.int .i64)) .str) (.pair (.pair (.int .i64) (.int .i64)) .str))))⟩),
  (116,⟨.sc,1,8,[.nilf],none⟩),
  (117,⟨.sc,1,8,[.nilf],none⟩),
  (118,⟨.map 3 9,1,8,[.nilm],none⟩),
  (119,⟨.slice 245,1,24,[.nils],some (.list (.st (.pair (.int .i64) .str)))⟩),
  (120,⟨.struct [(22,0),(118,1),(119,2),(3,3),(56,4),(3,5),(4,6)],7,104,[.nils,.nilm,.nils,.int .i64 0,.nils,.int .i64 0,.bool false],none⟩),
  (121,⟨.struct [(22,0),(118,1),(119,2),(3,3),(56,4),(3,5),(4,6)],7,104,[.nils,.nilm,.nils,.int .i64 0,.nils,.int .i64 0,.bool false],none⟩),
  (122,⟨.struct [(3,0),(3,1),(3,2),(3,3),(3,4),(3,5),(3,6)],7,56,[.int .i64 0,.int .i64 0,.int .i64 0,.int .i64 0,.int .i64 0,.int .i64 0,.int .i64 0],some (.st (.pair (.int .i64) (.pair (.int .i64) (.pair (.int .i64) (.pair (.int .i64) (.pair (.int .i64) (.pair (.int .i64) (.int .i64))))))))⟩),
  (123,⟨.struct [(3,0),(3,1),(3,2),(3,3),(3,4),(3,5),(3,6)],7,56,[.int .i64 0,.int .i64 0,.int .i64 0,.int .i64 0,.int .i64 0,.int .i64 0,.int .i64 0],some (.st (.pair (.int .i64) (.pair (.int .i64) (.pair (.int .i64) (.pair (.int .i64) (.pair (.int .i64) (.pair (.int .i64) (.int .i64))))))))⟩),
  (124,⟨.sc,1,8,[.nilf],none⟩),
  (125,⟨.sc,1,8,[.nilf],none⟩),
  (127,⟨.sc,1,8,[.nilf],none⟩),
  (128,⟨.ptr 181,1,8,[.nilp],none⟩),
  (129,⟨.ptr 214,1,8,[.nilp],none⟩),
  (130,⟨.ptr 220,1,8,[.nilp],none⟩),
  (131,⟨.struct [(128,0),(27,1),(129,8),(130,9),(86,10)],11,88,[.nilp,.int .i64 0,.int .i64 0,.int .i64 0,.int .i64 0,.int .i64 0,.int .i64 0,.int .i64 0,.nilp,.nilp,.nilp],none⟩),
  (132,⟨.struct [(128,0),(27,1),(129,8),(130,9),(86,10)],11,88,[.nilp,.int .i64 0,.int .i64 0,.int .i64 0,.int .i64 0,.int .i64 0,.int .i64 0,.int .i64 0,.nilp,.nilp,.nilp],none⟩),
  (133,⟨.sc,1,8,[.nilf],none⟩),
  (134,⟨.sc,1,8,[.nilf],none⟩),
  (135,⟨.struct [(60,0),(3,2)],3,24,[.int .i64 0,.int .i64 0,.int .i64 0],some (.st (.pair (.pair (.int .i64) (.int .i64)) (.int .i64)))⟩),
  (136,⟨.struct [(60,0),(3,2)],3,24,[.int .i64 0,.int .i64 0,.int .i64 0],some (.st (.pair (.pair (.int .i64) (.int .i64)) (.int .i64)))⟩),
  (138,⟨.sc,1,8,[.nilf],none⟩),
  (139,⟨.sc,1,8,[.nilf],none⟩),
  (140,⟨.sc,1,8,[.nilf],none⟩),
  (142,⟨.sc,1,8,[.nilf],none⟩),
  (143,⟨.struct [(3,0),(44,1)],2,32,[.int .i64 0,.nils],some (.st (.pair (.int .i64) (.list (.int .u8))))⟩),
  (144,⟨.struct [(3,0),(44,1)],2,32,[.int .i64 0,.nils],some (.st (.pair (.int .i64) (.list (.int .u8))))⟩),
  (145,⟨.struct [(9,0),(32,1)],2,24,[.str [],.int .i64 0],some (.st (.pair .str (.int .i64)))⟩),
  (146,⟨.struct [(9,0),(32,1)],2,24,[.str [],.int .i64 0],some (.st (.pair .str (.int .i64)))⟩),
  (147,⟨.sc,1,8,[.nilf],none⟩),
  (148,⟨.sc,1,8,[.int .u64 0],some (.int .u64)⟩),
  (149,⟨.sc,1,8,[.nilf],none⟩),
  (150,⟨.sc,1,8,[.nilf],none⟩),
  (151,⟨.ptr 153,1,8,[.nilp],none⟩),
  (152,⟨.struct [(151,0),(44,1)],2,32,[.nilp,.nils],none⟩),
  (153,⟨.struct [(151,0),(44,1)],2,32,[.nilp,.nils],none⟩),
  (154,⟨.sc,1,8,[.nilf],none⟩),
  (155,⟨.sc,1,16,[.nili],none⟩),
  (156,⟨.sc,1,16,[.nili],none⟩),
  (158,⟨.sc,1,8,[.nilf],none⟩),
  (159,⟨.sc,1,8,[.nilf],none⟩),
  (160,⟨.sc,1,8,[.nilf],none⟩),
  (161,⟨.struct [(64,0)],10,104,[.int .i64 0,.int .i64 0,.int .i64 0,.str [],.int .i64 0,.int .i64 0,.str [],.int .i64 0,.int .i64 0,.str []],some (.st (.pair (.int .i64) (.pair (.pair (.int .i64) (.int .i64)) (.pair .str (.pair (.pair (.pair (.int .i64) (.int .i64)) .str) (.pair (.pair (.int .i64) (.int .i64)) .str))))))⟩),
  (162,⟨.struct [(64,0)],10,104,[.int .i64 0,.int .i64 0,.int .i64 0,.str [],.int .i64 0,.int .i64 0,.str [],.int .i64 0,.int .i64 0,.str []],some (.st (.pair (.int .i64) (.pair (.pair (.int .i64) (.int .i64)) (.pair .str (.pair (.pair (.pair (.int .i64) (.int .i64)) .str) (.pair (.pair (.int .i64) (.int .i64)) .str))))))⟩),
  (163,⟨.struct [(64,0)],10,104,[.int .i64 0,.int .i64 0,.int .i64 0,.str [],.int .i64 0,.int .i64 0,.str [],.int .i64 0,.int .i64 0,.str []],some (.st (.pair (.int .i64) (.pair (.pair (.int .i64) (.int .i64)) (.pair .str (.pair (.pair (.pair (.int .i64) (.int .i64)) .str) (.pair (.pair (.int .i64) (.int .i64)) .str))))))⟩),
  (164,⟨.sc,1,8,[.nilf],none⟩),
  (166,⟨.sc,1,8,[.nilf],none⟩),
  (167,⟨.sc,1,8,[.nilf],none⟩),
  (168,⟨.sc,1,8,[.nilf],none⟩),
  (170,⟨.sc,1,8,[.nilf],none⟩),
  (171,⟨.sc,1,8,[.nilf],none⟩),
  (172,⟨.sc,1,8,[.nilf],none⟩),
  (173,⟨.sc,1,8,[.nilf],none⟩),
  (174,⟨.sc,1,8,[.nilf],none⟩),
  (175,⟨.sc,1,8,[.nilf],none⟩),
  (176,⟨.sc,1,8,[.nilf],none⟩),
  (177,⟨.sc,1,8,[.nilf],none⟩),
  (178,⟨.ptr 247,1,8,[.nilp],none⟩),
  (179,⟨.ptr 267,1,8,[.nilp],none⟩),
  (180,⟨.struct [(79,0),(178,1),(178,2),(3,3),(3,4),(3,5),(3,6),(3,7),(3,8),(4,9),(4,10),(179,11)],12,88,[.nilp,.nilp,.nilp,.int .i64 0,.int .i64 0,.int .i64 0,.int .i64 0,.int .i64 0,.int .i64 0,.bool false,.bool false,.nilp],none⟩),
  (181,⟨.struct [(79,0),(178,1),(178,2),(3,3),(3,4),(3,5),(3,6),(3,7),(3,8),(4,9),(4,10),(179,11)],12,88,[.nilp,.nilp,.nilp,.int .i64 0,.int .i64 0,.int .i64 0,.int .i64 0,.int .i64 0,.int .i64 0,.bool false,.bool false,.nilp],none⟩),
  (182,⟨.sc,1,8,[.nilf],none⟩),
  (183,⟨.array 2 136,6,48,[.int .i64 0,.int .i64 0,.int .i64 0,.int .i64 0,.int .i64 0,.int .i64 0],some (.st (.pair (.pair (.pair (.int .i64) (.int .i64)) (.int .i64)) (.pair (.pair (.int .i64) (.int .i64)) (.int .i64))))⟩),
  (185,⟨.sc,1,8,[.nilf],none⟩),
  (187,⟨.sc,1,8,[.nilf],none⟩),
  (188,⟨.sc,1,8,[.nilf],none⟩),
  (190,⟨.sc,1,8,[.nilf],none⟩),
  (191,⟨.ptr 233,1,8,[.nilp],none⟩),
  (192,⟨.sc,1,8,[.nilf],none⟩),
  (193,⟨.sc,1,8,[.nilf],none⟩),
  (194,⟨.sc,1,8,[.nilf],none⟩),
  (195,⟨.sc,1,8,[.nilf],none⟩),
  (196,⟨.ptr 5,1,8,[.nilp],none⟩),
  (197,⟨.sc,1,8,[.nilf],none⟩),
  (198,⟨.sc,1,4,[.int .u32 0],some (.int .u32)⟩),
  (200,⟨.sc,1,8,[.nilf],none⟩),
  (202,⟨.sc,1,8,[.nilf],none⟩),
  (203,⟨.sc,1,8,[.nilf],none⟩),
  (204,⟨.sc,1,8,[.nilf],none⟩),
  (205,⟨.sc,1,8,[.nilf],none⟩),
  (206,⟨.struct [(3,0),(3,1),(3,2)],3,24,[.int .i64 0,.int .i64 0,.int .i64 0],some (.st (.pair (.int .i64) (.pair (.int .i64) (.int .i64))))⟩),
  (207,⟨.struct [(3,0),(3,1),(3,2)],3,24,[.int .i64 0,.int .i64 0,.int .i64 0],some (.st (.pair (.int .i64) (.pair (.int .i64) (.int .i64))))⟩),
  (208,⟨.sc,1,8,[.nilf],none⟩),
  (209,⟨.slice 208,1,24,[.nils],none⟩),
  (210,⟨.sc,1,8,[.nilf],none⟩),
  (211,⟨.sc,1,8,[.nilf],none⟩),
  (212,⟨.slice 105,1,24,[.nils],none⟩),
  (213,⟨.struct [(128,0),(25,1)],4,32,[.nilp,.int .i64 0,.int .i64 0,.int .i64 0],none⟩),
  (214,⟨.struct [(128,0),(25,1)],4,32,[.nilp,.int .i64 0,.int .i64 0,.int .i64 0],none⟩),
  (215,⟨.sc,1,8,[.nilf],none⟩),
  (217,⟨.sc,1,8,[.nilf],none⟩),
  (218,⟨.sc,1,8,[.nilf],none⟩),
  (219,⟨.struct [(128,0),(25,1)],4,32,[.nilp,.int .i64 0,.int .i64 0,.int .i64 0],none⟩),
  (220,⟨.struct [(128,0),(25,1)],4,32,[.nilp,.int .i64 0,.int .i64 0,.int .i64 0],none⟩),
  (221,⟨.sc,1,8,[.nilf],none⟩),
  (222,⟨.sc,1,8,[.nilf],none⟩),
  (224,⟨.sc,1,8,[.nilf],none⟩),
  (226,⟨.sc,1,8,[.nilf],none⟩),
  (227,⟨.sc,1,8,[.nilf],none⟩),
  (229,⟨.sc,1,8,[.nilf],none⟩),
  (230,⟨.sc,1,8,[.nilf],none⟩),
  (231,⟨.sc,1,8,[.nilf],none⟩),
  (232,⟨.struct [(198,0)],1,4,[.int .u32 0],some (.st (.int .u32))⟩),
  (233,⟨.struct [(198,0)],1,4,[.int .u32 0],some (.st (.int .u32))⟩),
  (234,⟨.sc,1,8,[.nilf],none⟩),
  (235,⟨.sc,1,8,[.nilf],none⟩),
  (237,⟨.sc,1,8,[.nilf],none⟩),
  (238,⟨.sc,1,8,[.nilf],none⟩),
  (240,⟨.sc,1,8,[.nilf],none⟩),
  (241,⟨.sc,1,8,[.nilf],none⟩),
  (243,⟨.sc,1,8,[.nilf],none⟩),
  (244,⟨.struct [(3,0),(9,1)],2,24,[.int .i64 0,.str []],some (.st (.pair (.int .i64) .str))⟩),
  (245,⟨.struct [(3,0),(9,1)],2,24,[.int .i64 0,.str []],some (.st (.pair (.int .i64) .str))⟩),
  (246,⟨.struct [(79,0),(3,1),(3,2)],3,24,[.nilp,.int .i64 0,.int .i64 0],none⟩),
  (247,⟨.struct [(79,0),(3,1),(3,2)],3,24,[.nilp,.int .i64 0,.int .i64 0],none⟩),
  (248,⟨.sc,1,8,[.nilf],none⟩),
  (249,⟨.ptr 32,1,8,[.nilp],none⟩),
  (250,⟨.sc,1,8,[.nilf],none⟩),
  (251,⟨.sc,1,8,[.nilf],none⟩),
  (252,⟨.sc,1,8,[.nilf],none⟩),
  (254,⟨.sc,1,8,[.nilf],none⟩),
  (255,⟨.slice 258,1,24,[.nils],some (.list (.st (.pair (.int .i64) (.pair (.int .i64) (.list (.st (.pair (.int .i64) .str)))))))⟩),
  (256,⟨.sc,1,8,[.nilf],none⟩),
  (257,⟨.struct [(3,0),(3,1),(119,2)],3,40,[.int .i64 0,.int .i64 0,.nils],some (.st (.pair (.int .i64) (.pair (.int .i64) (.list (.st (.pair (.int .i64) .str))))))⟩),
  (258,⟨.struct [(3,0),(3,1),(119,2)],3,40,[.int .i64 0,.int .i64 0,.nils],some (.st (.pair (.int .i64) (.pair (.int .i64) (.list (.st (.pair (.int .i64) .str))))))⟩),
  (259,⟨.sc,1,8,[.nilf],none⟩),
  (260,⟨.sc,1,8,[.nilf],none⟩),
  (261,⟨.sc,1,8,[.nilf],none⟩),
  (262,⟨.sc,1,8,[.nilf],none⟩),
  (263,⟨.sc,1,8,[.nilf],none⟩),
  (264,⟨.sc,1,8,[.nilf],none⟩),
  (265,⟨.map 3 9,1,8,[.nilm],none⟩),
  (266,⟨.struct [(265,0),(265,1)],2,16,[.nilm,.nilm],none⟩),
  (267,⟨.struct [(265,0),(265,1)],2,16,[.nilm,.nilm],none⟩),
  (268,⟨.sc,1,8,[.nilf],none⟩),
  (269,⟨.sc,1,8,[.nilf],none⟩),
  (270,⟨.sc,1,8,[.int .u64 0],some (.int .u64)⟩),
  (273,⟨.sc,1,8,[.nilf],none⟩),
  (275,⟨.sc,1,16,[.nili],none⟩),
  (276,⟨.sc,1,8,[.nilf],none⟩),
  (278,⟨.sc,1,8,[.nilf],none⟩),
  (279,⟨.sc,1,8,[.nilf],none⟩),
  (280,⟨.sc,1,8,[.nilf],none⟩),
  (281,⟨.ptr 283,1,8,[.nilp],none⟩),
  (282,⟨.struct [(9,0),(156,1)],2,32,[.str [],.nili],none⟩),
  (283,⟨.struct [(9,0),(156,1)],2,32,[.str [],.nili],none⟩),
  (284,⟨.sc,1,8,[.nilf],none⟩),
  (285,⟨.ptr 287,1,8,[.nilp],none⟩),
  (286,⟨.struct [(178,0),(3,1),(3,2),(3,3),(259,4),(4,5)],6,48,[.nilp,.int .i64 0,.int .i64 0,.int .i64 0,.nilf,.bool false],none⟩),
  (287,⟨.struct [(178,0),(3,1),(3,2),(3,3),(259,4),(4,5)],6,48,[.nilp,.int .i64 0,.int .i64 0,.int .i64 0,.nilf,.bool false],none⟩),
  (288,⟨.sc,1,8,[.nilf],none⟩),
  (289,⟨.sc,1,8,[.nilf],none⟩),
  (290,⟨.sc,1,8,[.nilf],none⟩),
  (291,⟨.sc,1,8,[.nilf],none⟩),
  (292,⟨.array 256 4,256,256,[.bool false,.bool false,.bool false,.bool false,.bool false,.bool false,.bool false,.bool false,.bool false,.bool false,.bool false,.bool false,.bool false,.bool false,.bool false,.bool false,.bool false,.bool false,.bool false,.bool false,.bool false,.bool false,.bool false,.bool false,.bool false,.bool false,.bool false,.bool false,.bool false,.bool false,.bool false,.bool false,.bool false,.bool false,.bool false,.bool false,.bool false,.bool false,.bool false,.bool false,.bool false,.bool false,.bool false,.bool false,.bool false,.bool false,.bool false,.bool false,.bool false,.bool false,.bool false,.bool false,.bool false,.bool false,.bool false,.bool false,.bool false,.bool false,.bool false,.bool false,.bool false,.bool false,.bool false,.bool false,.bool false,.bool false,.bool false,.bool false,.bool false,.bool false,.bool false,.bool false,.bool false,.bool false,.bool false,.bool false,.bool false,.bool false,.bool false,.bool false,.bool false,.bool false,.bool false,.bool false,.bool false,.bool false,.bool false,.bool false,.bool false,.bool false,.bool false,.bool false,.bool false,.bool false,.bool false,.bool false,.bool false,.bool false,.bool false,.bool false,.bool false,.bool false,.bool false,.bool false,.bool false,.bool false,.bool false,.bool false,.bool false,.bool false,.bool false,.bool false,.bool false,.bool false,.bool false,.bool false,.bool false,.bool false,.bool false,.bool false,.bool false,.bool false,.bool false,.bool false,.bool false,.bool false,.bool false,.bool false,.bool false,.bool false,.bool false,.bool false,.bool false,.bool false,.bool false,.bool false,.bool false,.bool false,.bool false,.bool false,.bool false,.bool false,.bool false,.bool false,.bool false,.bool false,.bool false,.bool false,.bool false,.bool false,.bool false,.bool false,.bool false,.bool false,.bool false,.bool false,.bool false,.bool false,.bool false,.bool false,.bool false,.bool false,.bool false,.bool false,.bool false,.bool false,.bool false,.bool false,.bool false,.bool false,.bool false,.bool false,.bool false,.bool false,.bool false,.bool false,.bool false,.bool false,.bool false,.bool false,.bool false,.bool false,.bool false,.bool false,.bool false,.bool false,.bool false,.bool false,.bool false,.bool false,.bool false,.bool false,.bool false,.bool false,.bool false,.bool false,.bool false,.bool false,.bool false,.bool false,.bool false,.bool false,.bool false,.bool false,.bool false,.bool false,.bool false,.bool false,.bool false,.bool false,.bool false,.bool false,.bool false,.bool false,.bool false,.bool false,.bool false,.bool false,.bool false,.bool false,.bool false,.bool false,.bool false,.bool false,.bool false,.bool false,.bool false,.bool false,.bool false,.bool false,.bool false,.bool false,.bool false,.bool false,.bool false,.bool false,.bool false,.bool false,.bool false,.bool false,.bool false,.bool false,.bool false,.bool false,.bool false,.bool false,.bool false,.bool false,.bool false,.bool false,.bool false,.bool false,.bool false,.bool false,.bool false,.bool false],none⟩),
  (293,⟨.array 256 4,256,256,[.bool false,.bool false,.bool false,.bool false,.bool false,.bool false,.bool false,.bool false,.bool false,.bool false,.bool false,.bool false,.bool false,.bool false,.bool false,.bool false,.bool false,.bool false,.bool false,.bool false,.bool false,.bool false,.bool false,.bool false,.bool false,.bool false,.bool false,.bool false,.bool false,.bool false,.bool false,.bool false,.bool false,.bool false,.bool false,.bool false,.bool false,.bool false,.bool false,.bool false,.bool false,.bool false,.bool false,.bool false,.bool false,.bool false,.bool false,.bool false,.bool false,.bool false,.bool false,.bool false,.bool false,.bool false,.bool false,.bool false,.bool false,.bool false,.bool false,.bool false,.bool false,.bool false,.bool false,.bool false,.bool false,.bool false,.bool false,.bool false,.bool false,.bool false,.bool false,.bool false,.bool false,.bool false,.bool false,.bool false,.bool false,.bool false,.bool false,.bool false,.bool false,.bool false,.bool false,.bool false,.bool false,.bool false,.bool false,.bool false,.bool false,.bool false,.bool false,.bool false,.bool false,.bool false,.bool false,.bool false,.bool false,.bool false,.bool false,.bool false,.bool false,.bool false,.bool false,.bool false,.bool false,.bool false,.bool false,.bool false,.bool false,.bool false,.bool false,.bool false,.bool false,.bool false,.bool false,.bool false,.bool false,.bool false,.bool false,.bool false,.bool false,.bool false,.bool false,.bool false,.bool false,.bool false,.bool false,.bool false,.bool false,.bool false,.bool false,.bool false,.bool false,.bool false,.bool false,.bool false,.bool false,.bool false,.bool false,.bool false,.bool false,.bool false,.bool false,.bool false,.bool false,.bool false,.bool false,.bool false,.bool false,.bool false,.bool false,.bool false,.bool false,.bool false,.bool false,.bool false,.bool false,.bool false,.bool false,.bool false,.bool false,.bool false,.bool false,.bool false,.bool false,.bool false,.bool false,.bool false,.bool false,.bool false,.bool false,.bool false,.bool false,.bool false,.bool false,.bool false,.bool false,.bool false,.bool false,.bool false,.bool false,.bool false,.bool false,.bool false,.bool false,.bool false,.bool false,.bool false,.bool false,.bool false,.bool false,.bool false,.bool false,.bool false,.bool false,.bool false,.bool false,.bool false,.bool false,.bool false,.bool false,.bool false,.bool false,.bool false,.bool false,.bool false,.bool false,.bool false,.bool false,.bool false,.bool false,.bool false,.bool false,.bool false,.bool false,.bool false,.bool false,.bool false,.bool false,.bool false,.bool false,.bool false,.bool false,.bool false,.bool false,.bool false,.bool false,.bool false,.bool false,.bool false,.bool false,.bool false,.bool false,.bool false,.bool false,.bool false,.bool false,.bool false,.bool false,.bool false,.bool false,.bool false,.bool false,.bool false,.bool false,.bool false,.bool false,.bool false,.bool false,.bool false,.bool false,.bool false,.bool false,.bool false,.bool false,.bool false],none⟩),
  (295,⟨.sc,1,8,[.nilf],none⟩),
  (296,⟨.sc,1,8,[.nilf],none⟩),
  (297,⟨.ptr 293,1,8,[.nilp],none⟩),
  (300,⟨.ptr 371,1,8,[.nilp],none⟩),
  (301,⟨.sc,1,8,[.nilf],none⟩),
  (302,⟨.sc,1,8,[.nilf],none⟩),
  (303,⟨.sc,1,8,[.nilf],none⟩),
  (304,⟨.sc,1,16,[.nili],none⟩),
  (306,⟨.sc,1,8,[.nilf],none⟩),
  (307,⟨.sc,1,16,[.nili],none⟩),
  (308,⟨.sc,1,16,[.nili],none⟩),
  (309,⟨.slice 156,1,24,[.nils],none⟩),
  (310,⟨.sc,1,8,[.nilf],none⟩),
  (311,⟨.sc,1,8,[.nilf],none⟩),
  (312,⟨.sc,1,8,[.nilf],none⟩),
  (313,⟨.sc,1,8,[.nilf],none⟩),
  (314,⟨.sc,1,8,[.nilf],none⟩),
  (315,⟨.sc,1,8,[.nilf],none⟩),
  (316,⟨.sc,1,8,[.nilf],none⟩),
  (318,⟨.sc,1,8,[.nilf],none⟩),
  (319,⟨.sc,1,8,[.nilf],none⟩),
  (320,⟨.sc,1,8,[.nilf],none⟩),
  (321,⟨.sc,1,8,[.nilf],none⟩),
  (323,⟨.sc,1,8,[.nilf],none⟩),
  (324,⟨.sc,1,8,[.nilf],none⟩),
  (325,⟨.sc,1,8,[.nilf],none⟩),
  (326,⟨.sc,1,8,[.nilf],none⟩),
  (327,⟨.sc,1,8,[.nilf],none⟩),
  (328,⟨.sc,1,8,[.nilf],none⟩),
  (329,⟨.sc,1,8,[.nilf],none⟩),
  (330,⟨.sc,1,8,[.int .i64 0],some (.int .i64)⟩),
  (332,⟨.sc,1,8,[.nilf],none⟩),
  (333,⟨.sc,1,8,[.nilf],none⟩),
  (334,⟨.sc,1,8,[.nilf],none⟩),
  (336,⟨.sc,1,8,[.nilf],none⟩),
  (337,⟨.sc,1,8,[.nilf],none⟩),
  (338,⟨.sc,1,8,[.nilf],none⟩),
  (339,⟨.sc,1,8,[.nilf],none⟩),
  (340,⟨.array 256 5,256,256,[.int .u8 0,.int .u8 0,.int .u8 0,.int .u8 0,.int .u8 0,.int .u8 0,.int .u8 0,.int .u8 0,.int .u8 0,.int .u8 0,.int .u8 0,.int .u8 0,.int .u8 0,.int .u8 0,.int .u8 0,.int .u8 0,.int .u8 0,.int .u8 0,.int .u8 0,.int .u8 0,.int .u8 0,.int .u8 0,.int .u8 0,.int .u8 0,.int .u8 0,.int .u8 0,.int .u8 0,.int .u8 0,.int .u8 0,.int .u8 0,.int .u8 0,.int .u8 0,.int .u8 0,.int .u8 0,.int .u8 0,.int .u8 0,.int .u8 0,.int .u8 0,.int .u8 0,.int .u8 0,.int .u8 0,.int .u8 0,.int .u8 0,.int .u8 0,.int .u8 0,.int .u8 0,.int .u8 0,.int .u8 0,.int .u8 0,.int .u8 0,.int .u8 0,.int .u8 0,.int .u8 0,.int .u8 0,.int .u8 0,.int .u8 0,.int .u8 0,.int .u8 0,.int .u8 0,.int .u8 0,.int .u8 0,.int .u8 0,.int .u8 0,.int .u8 0,.int .u8 0,.int .u8 0,.int .u8 0,.int .u8 0,.int .u8 0,.int .u8 0,.int .u8 0,.int .u8 0,.int .u8 0,.int .u8 0,.int .u8 0,.int .u8 0,.int .u8 0,.int .u8 0,.int .u8 0,.int .u8 0,.int .u8 0,.int .u8 0,.int .u8 0,.int .u8 0,.int .u8 0,.int .u8 0,.int .u8 0,.int .u8 0,.int .u8 0,.int .u8 0,.int .u8 0,.int .u8 0,.int .u8 0,.int .u8 0,.int .u8 0,.int .u8 0,.int .u8 0,.int .u8 0,.int .u8 0,.int .u8 0,.int .u8 0,.int .u8 0,.int .u8 0,.int .u8 0,.int .u8 0,.int .u8 0,.int .u8 0,.int .u8 0,.int .u8 0,.int .u8 0,.int .u8 0,.int .u8 0,.int .u8 0,.int .u8 0,.int .u8 0,.int .u8 0,.int .u8 0,.int .u8 0,.int .u8 0,.int .u8 0,.int .u8 0,.int .u8 0,.int .u8 0,.int .u8 0,.int .u8 0,.int .u8 0,.int .u8 0,.int .u8 0,.int .u8 0,.int .u8 0,.int .u8 0,.int .u8 0,.int .u8 0,.int .u8 0,.int .u8 0,.int .u8 0,.int .u8 0,.int .u8 0,.int .u8 0,.int .u8 0,.int .u8 0,.int .u8 0,.int .u8 0,.int .u8 0,.int .u8 0,.int .u8 0,.int .u8 0,.int .u8 0,.int .u8 0,.int .u8 0,.int .u8 0,.int .u8 0,.int .u8 0,.int .u8 0,.int .u8 0,.int .u8 0,.int .u8 0,.int .u8 0,.int .u8 0,.int .u8 0,.int .u8 0,.int .u8 0,.int .u8 0,.int .u8 0,.int .u8 0,.int .u8 0,.int .u8 0,.int .u8 0,.int .u8 0,.int .u8 0,.int .u8 0,.int .u8 0,.int .u8 0,.int .u8 0,.int .u8 0,.int .u8 0,.int .u8 0,.int .u8 0,.int .u8 0,.int .u8 0,.int .u8 0,.int .u8 0,.int .u8 0,.int .u8 0,.int .u8 0,.int .u8 0,.int .u8 0,.int .u8 0,.int .u8 0,.int .u8 0,.int .u8 0,.int .u8 0,.int .u8 0,.int .u8 0,.int .u8 0,.int .u8 0,.int .u8 0,.int .u8 0,.int .u8 0,.int .u8 0,.int .u8 0,.int .u8 0,.int .u8 0,.int .u8 0,.int .u8 0,.int .u8 0,.int .u8 0,.int .u8 0,.int .u8 0,.int .u8 0,.int .u8 0,.int .u8 0,.int .u8 0,.int .u8 0,.int .u8 0,.int .u8 0,.int .u8 0,.int .u8 0,.int .u8 0,.int .u8 0,.int .u8 0,.int .u8 0,.int .u8 0,.int .u8 0,.int .u8 0,.int .u8 0,.int .u8 0,.int .u8 0,.int .u8 0,.int .u8 0,.int .u8 0,.int .u8 0,.int .u8 0,.int .u8 0,.int .u8 0,.int .u8 0,.int .u8 0,.int .u8 0,.int .u8 0,.int .u8 0,.int .u8 0,.int .u8 0,.int .u8 0,.int .u8 0,.int .u8 0,.int .u8 0,.int .u8 0,.int .u8 0,.int .u8 0,.int .u8 0,.int .u8 0,.int .u8 0,.int .u8 0,.int .u8 0,.int .u8 0,.int .u8 0],none⟩),
  (341,⟨.struct [(5,0),(5,1)],2,2,[.int .u8 0,.int .u8 0],some (.st (.pair (.int .u8) (.int .u8)))⟩),
  (342,⟨.struct [(5,0),(5,1)],2,2,[.int .u8 0,.int .u8 0],some (.st (.pair (.int .u8) (.int .u8)))⟩),
  (343,⟨.array 16 342,32,32,[.int .u8 0,.int .u8 0,.int .u8 0,.int .u8 0,.int .u8 0,.int .u8 0,.int .u8 0,.int .u8 0,.int .u8 0,.int .u8 0,.int .u8 0,.int .u8 0,.int .u8 0,.int .u8 0,.int .u8 0,.int .u8 0,.int .u8 0,.int .u8 0,.int .u8 0,.int .u8 0,.int .u8 0,.int .u8 0,.int .u8 0,.int .u8 0,.int .u8 0,.int .u8 0,.int .u8 0,.int .u8 0,.int .u8 0,.int .u8 0,.int .u8 0,.int .u8 0],some (.st (.pair (.pair (.int .u8) (.int .u8)) (.pair (.pair (.int .u8) (.int .u8)) (.pair (.pair (.int .u8) (.int .u8)) (.pair (.pair (.int .u8) (.int .u8)) (.pair (.pair (.int .u8) (.int .u8)) (.pair (.pair (.int .u8) (.int .u8)) (.pair (.pair (.int .u8) (.int .u8)) (.pair (.pair (.int .u8) (.int .u8)) (.pair (.pair (.int .u8) (.int .u8)) (.pair (.pair (.int .u8) (.int .u8)) (.pair (.pair (.int .u8) (.int .u8)) (.pair (.pair (.int .u8) (.int .u8)) (.pair (.pair (.int .u8) (.int .u8)) (.pair (.pair (.int .u8) (.int .u8)) (.pair (.pair (.int .u8) (.int .u8)) (.pair (.int .u8) (.int .u8))))))))))))))))))⟩),
  (344,⟨.sc,1,8,[.nilf],none⟩),
  (345,⟨.sc,1,8,[.nilf],none⟩),
  (346,⟨.sc,1,8,[.nilf],none⟩),
  (347,⟨.sc,1,8,[.int .u64 0],some (.int .u64)⟩),
  (348,⟨.sc,1,8,[.nilf],none⟩),
  (349,⟨.sc,1,8,[.nilf],none⟩),
  (350,⟨.sc,1,8,[.nilf],none⟩),
  (351,⟨.ptr 3,1,8,[.nilp],none⟩),
  (352,⟨.sc,1,8,[.nilf],none⟩),
  (353,⟨.ptr 347,1,8,[.nilp],none⟩),
  (355,⟨.sc,1,8,[.nilf],none⟩),
  (363,⟨.sc,1,8,[.nilf],none⟩),
  (368,⟨.sc,1,8,[.nilf],none⟩),
  (369,⟨.sc,1,8,[.nilf],none⟩),
  (372,⟨.ptr 376,1,8,[.nilp],none⟩),
  (373,⟨.sc,1,8,[.nilf],none⟩),
  (374,⟨.sc,1,2,[.int .u16 0],some (.int .u16)⟩),
  (377,⟨.slice 380,1,24,[.nils],some (.list (.st (.pair (.int .i32) (.pair (.int .i32) (.pair (.int .i32) (.int .i32))))))⟩),
  (381,⟨.ptr 156,1,8,[.nilp],none⟩)]
end Go.Proofs
namespace Go.Proofs.R9
open Go Go.AE
theorem tabOk:zJ Tryz.prog Tryz.tab:=zeG (by kernel_rfl)
theorem mixed:Tryz.prog.follows .mixedOrders=true:=Checked.mixed Tryz.checked
end Go.Proofs.R9
namespace Go.Proofs
open Go.Shelf Go.Sort Go.RowKit
def Tryz.lays189_ren:Go.Shelf.Ren:=⟨fun | 189=>241 | 125=>257 | 257=>256 | 128=>273 | 129=>274 | 294=>264 | 295=>265 | 296=>266 | 297=>267 | 298=>268 | 299=>269 | 216=>270 | 300=>271 | 301=>272 | 328=>280 | 329=>281 | 330=>282 | 331=>283 | 332=>284 | 215=>285 | 343=>287 | n=>n,fun | 28=>56 | 3=>3 | 46=>148 | 0=>0 | 51=>198 | 53=>43 | 4=>4 | 183=>331 | 182=>330 | 131=>335 | 5=>5 | 9=>9 | 218=>347 | 222=>351 | 228=>353 | 229=>354 | n=>n,fun | n=>n⟩
theorem Tryz.lays189:Go.Proofs.Lays.n189 Tryz.prog Tryz.lays189_ren:={
  mixed:=by kernel_rfl
  f125:=Tryz.func257.trans (congrArg some (by kernel_rfl))
  f128:=Tryz.func273.trans (congrArg some (by kernel_rfl))
  f129:=Tryz.func274.trans (congrArg some (by kernel_rfl))
  f189:=Tryz.func241.trans (congrArg some (by kernel_rfl))
  f215:=Tryz.func285.trans (congrArg some (by kernel_rfl))
  f216:=Tryz.func270.trans (congrArg some (by kernel_rfl))
  f257:=Tryz.func256.trans (congrArg some (by kernel_rfl))
  f294:=Tryz.func264.trans (congrArg some (by kernel_rfl))
  f295:=Tryz.func265.trans (congrArg some (by kernel_rfl))
  f296:=Tryz.func266.trans (congrArg some (by kernel_rfl))
  f297:=Tryz.func267.trans (congrArg some (by kernel_rfl))
  f298:=Tryz.func268.trans (congrArg some (by kernel_rfl))
  f299:=Tryz.func269.trans (congrArg some (by kernel_rfl))
  f300:=Tryz.func271.trans (congrArg some (by kernel_rfl))
  f301:=Tryz.func272.trans (congrArg some (by kernel_rfl))
  f328:=Tryz.func280.trans (congrArg some (by kernel_rfl))
  f329:=Tryz.func281.trans (congrArg some (by kernel_rfl))
  f330:=Tryz.func282.trans (congrArg some (by kernel_rfl))
  f331:=Tryz.func283.trans (congrArg some (by kernel_rfl))
  f332:=Tryz.func284.trans (congrArg some (by kernel_rfl))
  f343:=Tryz.func287.trans (congrArg some (by kernel_rfl))
  t0:=Tryz.underlying0
  a0:=Tryz.isAgg0
  z0:=Tryz.sizeOf0
  v0:=Tryz.zeroValue0
  t3:=Tryz.underlying3
  a3:=Tryz.isAgg3
  z3:=Tryz.sizeOf3
  v3:=Tryz.zeroValue3
  t4:=Tryz.underlying4
  a4:=Tryz.isAgg4
  z4:=Tryz.sizeOf4
  v4:=Tryz.zeroValue4
  t5:=Tryz.underlying5
  a5:=Tryz.isAgg5
  z5:=Tryz.sizeOf5
  v5:=Tryz.zeroValue5
  t9:=Tryz.underlying9
  a9:=Tryz.isAgg9
  z9:=Tryz.sizeOf9
  v9:=Tryz.zeroValue9
  t28:=Tryz.underlying56
  a28:=Tryz.isAgg56
  z28:=Tryz.sizeOf56
  v28:=Tryz.zeroValue56
  t46:=Tryz.underlying148
  a46:=Tryz.isAgg148
  z46:=Tryz.sizeOf148
  v46:=Tryz.zeroValue148
  t51:=Tryz.underlying198
  a51:=Tryz.isAgg198
  z51:=Tryz.sizeOf198
  v51:=Tryz.zeroValue198
  t53:=Tryz.underlying43
  a53:=Tryz.isAgg43
  z53:=Tryz.sizeOf43
  v53:=Tryz.zeroValue43
  t131:=Tryz.underlying335
  a131:=Tryz.isAgg335
  z131:=Tryz.sizeOf335
  v131:=Tryz.zeroValue335
  t182:=Tryz.underlying330
  a182:=Tryz.isAgg330
  z182:=Tryz.sizeOf330
  v182:=Tryz.zeroValue330
  t183:=Tryz.underlying331
  a183:=Tryz.isAgg331
  z183:=Tryz.sizeOf331
  v183:=Tryz.zeroValue331
  t218:=Tryz.underlying347
  a218:=Tryz.isAgg347
  z218:=Tryz.sizeOf347
  v218:=Tryz.zeroValue347
  t222:=Tryz.underlying351
  a222:=Tryz.isAgg351
  z222:=Tryz.sizeOf351
  v222:=Tryz.zeroValue351
  t228:=Tryz.underlying353
  a228:=Tryz.isAgg353
  z228:=Tryz.sizeOf353
  v228:=Tryz.zeroValue353
  t229:=Tryz.underlying354
  a229:=Tryz.isAgg354
  z229:=Tryz.sizeOf354
  v229:=Tryz.zeroValue354 }
theorem Tryz.slices_Sort_int (blk off cap:Nat) (zs:List Int) (w:World) (hH:Holds (Value.int .i64) w blk off zs.toArray) (hblk:blk<w.heap.size) (hsz:zs.length<4611686018427387904) :
    Calls Tryz.prog 241 #[.slice (some ⟨blk,off,none⟩) zs.length cap] w fun e w' =>
      e = .returned (.tuple #[]) ∧ ∃n os,w'=grow (putRow (Value.int .i64) (Sort.ahead w n) blk off (zs.mergeSort fun x y=>decide (x≤y)).toArray) os:=Any.slices_Sort_int Tryz.lays189 blk off cap zs w hH hblk hsz
open Go.RowKit Go.Lib in
def Tryz.lays105_ren:Go.Shelf.Ren:=⟨fun | 105=>75 | 212=>108 | 99=>109 | 165=>99 | 166=>100 | 170=>110 | 169=>101 | 263=>147 | 264=>148 | 206=>149 | 240=>144 | 241=>145 | 276=>183 | 277=>184 | n=>n,fun | 9=>9 | 3=>3 | 4=>4 | 20=>20 | 0=>0 | 46=>148 | 109=>165 | 5=>5 | 72=>153 | 76=>157 | 51=>198 | 146=>199 | 53=>43 | 148=>201 | 70=>151 | 37=>44 | 75=>156 | 127=>196 | 164=>236 | 80=>134 | n=>n,fun | n=>n⟩
theorem Tryz.lays105:Go.Proofs.Lays.n105 Tryz.prog Tryz.lays105_ren:={
  mixed:=by kernel_rfl
  f99:=Tryz.func109.trans (congrArg some (by kernel_rfl))
  f105:=Tryz.func75.trans (congrArg some (by kernel_rfl))
  f165:=Tryz.func99.trans (congrArg some (by kernel_rfl))
  f166:=Tryz.func100.trans (congrArg some (by kernel_rfl))
  f169:=Tryz.func101.trans (congrArg some (by kernel_rfl))
  f170:=Tryz.func110.trans (congrArg some (by kernel_rfl))
  f206:=Tryz.func149.trans (congrArg some (by kernel_rfl))
  f212:=Tryz.func108.trans (congrArg some (by kernel_rfl))
  f240:=Tryz.func144.trans (congrArg some (by kernel_rfl))
  f241:=Tryz.func145.trans (congrArg some (by kernel_rfl))
  f263:=Tryz.func147.trans (congrArg some (by kernel_rfl))
  f264:=Tryz.func148.trans (congrArg some (by kernel_rfl))
  f276:=Tryz.func183.trans (congrArg some (by kernel_rfl))
  f277:=Tryz.func184.trans (congrArg some (by kernel_rfl))
  t0:=Tryz.underlying0
  a0:=Tryz.isAgg0
  z0:=Tryz.sizeOf0
  v0:=Tryz.zeroValue0
  t3:=Tryz.underlying3
  a3:=Tryz.isAgg3
  z3:=Tryz.sizeOf3
  v3:=Tryz.zeroValue3
  t4:=Tryz.underlying4
  a4:=Tryz.isAgg4
  z4:=Tryz.sizeOf4
  v4:=Tryz.zeroValue4
  t5:=Tryz.underlying5
  a5:=Tryz.isAgg5
  z5:=Tryz.sizeOf5
  v5:=Tryz.zeroValue5
  t9:=Tryz.underlying9
  a9:=Tryz.isAgg9
  z9:=Tryz.sizeOf9
  v9:=Tryz.zeroValue9
  t20:=Tryz.underlying20
  a20:=Tryz.isAgg20
  z20:=Tryz.sizeOf20
  v20:=Tryz.zeroValue20
  t37:=Tryz.underlying44
  a37:=Tryz.isAgg44
  z37:=Tryz.sizeOf44
  v37:=Tryz.zeroValue44
  t46:=Tryz.underlying148
  a46:=Tryz.isAgg148
  z46:=Tryz.sizeOf148
  v46:=Tryz.zeroValue148
  t51:=Tryz.underlying198
  a51:=Tryz.isAgg198
  z51:=Tryz.sizeOf198
  v51:=Tryz.zeroValue198
  t53:=Tryz.underlying43
  a53:=Tryz.isAgg43
  z53:=Tryz.sizeOf43
  v53:=Tryz.zeroValue43
  t70:=Tryz.underlying151
  a70:=Tryz.isAgg151
  z70:=Tryz.sizeOf151
  v70:=Tryz.zeroValue151
  t72:=Tryz.underlying153
  a72:=Tryz.isAgg153
  z72:=Tryz.sizeOf153
  v72:=Tryz.zeroValue153
  t75:=Tryz.underlying156
  a75:=Tryz.isAgg156
  z75:=Tryz.sizeOf156
  v75:=Tryz.zeroValue156
  t76:=Tryz.underlying157
  a76:=Tryz.isAgg157
  z76:=Tryz.sizeOf157
  v76:=Tryz.zeroValue157
  t109:=Tryz.underlying165
  a109:=Tryz.isAgg165
  z109:=Tryz.sizeOf165
  v109:=Tryz.zeroValue165
  t127:=Tryz.underlying196
  a127:=Tryz.isAgg196
  z127:=Tryz.sizeOf196
  v127:=Tryz.zeroValue196
  t146:=Tryz.underlying199
  a146:=Tryz.isAgg199
  z146:=Tryz.sizeOf199
  v146:=Tryz.zeroValue199
  t148:=Tryz.underlying201
  a148:=Tryz.isAgg201
  z148:=Tryz.sizeOf201
  v148:=Tryz.zeroValue201
  t164:=Tryz.underlying236
  a164:=Tryz.isAgg236
  z164:=Tryz.sizeOf236
  v164:=Tryz.zeroValue236 }
theorem Tryz.Builder_Extra_105:Builder.Extra Tryz.prog Tryz.lays105_ren:={
  sizeBuilder:=by kernel_rfl
  liesBuilder:=by kernel_rfl
  t5:=Tryz.underlying5
  a5:=Tryz.isAgg5
  z5:=Tryz.sizeOf5
  v5:=Tryz.zeroValue5
  infoByte:=by kernel_rfl
  cellsByte:=by kernel_rfl
  sizeByte:=by kernel_rfl
  neB5:=by decide }
open Go.RowKit Go.Lib in
theorem Tryz.strings_Repeat (s:ByteArray) (c:Nat) (w:World) (hc:c≤9223372036854775807) (hlen:s.size*c≤140737488355328) :
    Calls Tryz.prog 75 #[.string s,.int .i64 c] w fun e w'=>e = .returned (.string ⟨(Lib.repeatL s.data.toList c).toArray⟩)∧Below w.heap.size w w':=Any.strings_Repeat Tryz.lays105 Tryz.Builder_Extra_105 s c w hc hlen
theorem Tryz.slices_Sort_int_none (p:Option Addr) (cap:Nat) (w:World) :
    Calls Tryz.prog 241 #[.slice p 0 cap] w fun e w'=>e = .returned (.tuple #[])∧w'=w:=Any.slices_Sort_int_none Tryz.lays189 p cap w
end Go.Proofs
namespace Go.Proofs
open Go.RowKit Go.Maps Go.Sort Go.Shelf
open Go.AE (BT)
theorem R9.info3:(Tryz.prog.info? 3).map (fun i=>(i.zero,i.size,i.bytes))=some (some (.int .i64 0),1,8):=by kernel_rfl
set_option maxRecDepth 100000 in
set_option maxHeartbeats 4000000 in
theorem R9.each240_ok:AE.IterOk Tryz.prog 240 (AE.eachStart .str) (AE.eachNx .str):=by
  refine ⟨⟨_,Tryz.func240,by kernel_rfl,by decide +kernel⟩,?_⟩
  intro yv C cap us L J Jx hh hcap hstart hJ0 hJ1 hJ2 hJ3 hY
  obtain ⟨i0,hi,hz0,hz1,hz2⟩:=info_parts R9.info3
  unfold AE.eachStart at hstart
  obtain ⟨l,hl⟩ : ∃l,AE.eachMap .str cap C.H=some l:=by
    cases h:AE.eachMap .str cap C.H with
    | some l=>exact ⟨l,rfl⟩
    | none=>rw [h] at hstart;cases hstart
  rw [hl] at hstart
  replace hstart:(cond (Nat.ble l.length 1000000) (some (AE.keysOf l)) none)=some L:=hstart
  obtain ⟨hlen,hL⟩:l.length≤1000000∧AE.keysOf l=L:=by
    cases hb:Nat.ble l.length 1000000 with
    | true=>rw [hb,cond_true] at hstart;exact ⟨Nat.le_of_ble_eq_true hb,Option.some.inj hstart⟩
    | false=>rw [hb,cond_false] at hstart;cases hstart
  obtain ⟨b,mo,es,x,hus,hblive,hcell,hmap,hmr,_,_,hmlive⟩:=AE.each_sees hh hcap hl
  obtain rfl:us = #[.pointer (some ⟨b,0,none⟩)]:=by
    cases us;simpa using hus
  have hb0:b<C.w.heap.size:=by obtain ⟨j,h1,h2⟩:=hblive;exact hh.blk_lt h1 h2
  have hm0 : ∀m,mo=some m→m<C.w.heap.size:=fun m hm=>by obtain ⟨j,h1,h2⟩:=hmlive m hm;exact hh.blk_lt h1 h2
  have heslen:es.size=l.length:=by have:=hmr.length;simpa using this
  obtain ⟨hkeys,hks⟩:=AE.mrel_keys hmr
  clear hstart hcap
  have hlenv : ∀(p:Option Addr) (n c:Nat) (w:World),(Builtin.len_ #[56] 3 #[.slice p n c]).run Tryz.prog w = .ok (.int .i64 n) w:=fun p n c w=>by
    simp [Builtin.len_,run_underlying Tryz.underlying56]
    rfl
  refine callsIn_of_wp Tryz.func240 rfl trivial ?_ rfl
  simp only [Tryz.ntmps240,List.size_toArray,List.length_cons,List.length_nil,Nat.reduceAdd,Nat.reduceSub,Array.replicate_succ,Array.replicate_zero,List.push_toArray,List.append_toArray,List.nil_append,List.cons_append]
  gi_wp2_with (first
    | (gi_at_range;refine AE.wpListIn_range_m _ rfl _ 265 rfl 3 9 Tryz.underlying265 mo es rfl hmap ?_;intro it hwalk)
    | gi_in)
  try go_frame
  have hB1:Below C.w.heap.size C.w (C.w.alloc it):=(Below.refl _ C.w).alloc (Nat.le_refl _) _
  gi_loopw [3,4] (fun p _ wr => ∃(seen:Array Nat) (vis:List MapEntry),AE.WalkAt wr mo C.w.heap.size es seen∧vis.map (·.born)=seen.toList∧(∀e ∈ vis,e ∈ es.toList)∧seen.toList.Nodup ∧
      wr.ownsRow (C.w.heap.size+1) 3 1 p vis.length (vis.map (·.key))∧Below C.w.heap.size C.w wr∧C.w.heap.size+1≤wr.heap.size)
    (fun _ _ wr=>AE.walkLeft wr mo C.w.heap.size)
  case atStart =>
    exact ⟨#[],[],hwalk,rfl,by simp,by simp,World.ownsRow_nil _ _ _ _,hB1,by simp⟩
  case round =>
    obtain ⟨seen,vis,hw,hvs,hve,hnd,hrow,hB,hsz⟩:=hrel
    gi_wp2_with (first
      | (gi_at_next;refine AE.wpListIn_next_m _ rfl _ rfl mo C.w.heap.size es seen rfl hw ?_ ?_)
      | gi_in)
    · -- all have come
      intro hall
      have hb0':(es.toList.map (·.born)).Nodup:=by
        cases mo with
        | none=>obtain ⟨rfl,_⟩:=hw;simp
        | some m=>obtain ⟨ck,since,c0,_,hst,_⟩:=hw;exact hst.2.1
      obtain ⟨hvk,hsort,hvl⟩:=AE.visited_all hmr hb0' hvs hve hnd (by simpa using hall)
      have sortC:CallsIn Fence.wide 0 Tryz.prog 241 #[u3] wr fun e w'=>e = .returned (.tuple #[])∧w'.ownsRow (C.w.heap.size+1) 3 1 u3 L.length (L.map (Value.int .i64))∧Below C.w.heap.size C.w w':=by
        have hLl:L.length=vis.length:=by rw [← hL,← hsort,List.length_mergeSort,List.length_map]
        rcases hrow.2 with ⟨rfl,hz⟩ | ⟨gb,cap',cur,rfl,hbase,hgb,r1,r2,r3,r4⟩
        · refine (callsIn_wide.2 (Tryz.slices_Sort_int_none none 0 _)).mono ?_
          rintro e w' ⟨rfl,rfl⟩
          have hL0:L=[]:=List.eq_nil_of_length_eq_zero (by omega)
          rw [hL0]
          exact ⟨rfl,World.ownsRow_nil _ _ _ _,hB⟩
        · have ht:cur.toList.take (vis.map fun e=>AE.keyI e.key).length=(vis.map fun e=>AE.keyI e.key).map (Value.int .i64):=by
            rw [List.length_map,← hvk,← r4,Nat.mul_one]
          have hH:Holds (Value.int .i64) wr gb 0 (vis.map fun e=>AE.keyI e.key).toArray:=holds_of_blockI hgb ht
          have hgl:gb<wr.heap.size:=(Array.getElem?_eq_some_iff.1 hgb).1
          have c:=Tryz.slices_Sort_int gb 0 cap' (vis.map fun e=>AE.keyI e.key) wr hH hgl (by rw [List.length_map];omega)
          rw [List.length_map] at c
          refine (callsIn_wide.2 c).mono ?_
          rintro e w' ⟨rfl,nn,os,rfl⟩
          rw [hsort,hL]
          have hrow':=ownsRow_sortedI (w:=wr) (base:=C.w.heap.size+1) (g:=gb) (cap:=cap') (n:=nn) (e:=3) (os:=os) (cur:=cur) (ss:=vis.map fun e=>AE.keyI e.key) (ts:=L) (by rw [List.length_map];exact hLl) hbase hgb (by rw [List.length_map];exact r1) r2 r3
          rw [List.length_map] at hrow'
          rw [hLl]
          exact ⟨rfl,hrow',hB.grown (grownBy_sortedI _) hB.size (fun j hj=>by cases hj;omega)⟩
      gi_wp2_with (first | (refine ⟨trivial,rfl,?_⟩;refine sortC.mono ?_;rintro e w1 ⟨rfl,hrow1,hB2⟩) | gi_in)
      -- between two calls
      obtain ⟨C10,cap10,hw10,hj10⟩:=hJ0
      obtain ⟨hh10,_,_⟩:=hJ1 _ _ _ hj10
      have hp1:AE.Priv C.w.heap.size C10 w1:=AE.below_priv hh10 (by rw [hw10];exact hB2) _
      have hj1:J L (C10.at w1) cap10:=hJ2 _ _ _ _ hj10 hp1
      rcases hrow1.2 with ⟨rfl,hz⟩ | ⟨gb,cap',cur,rfl,hbase,hgb,r1,r2,r3,r4⟩
      · have hLn:L=[]:=List.eq_nil_of_length_eq_zero hz
        have hlen1:=hlenv none 0 0 w1
        gi_wp2
        rw [hlen1]
        gi_wp2
        gi_loopw [21,6] (fun p _ wr=>p = .int .i64 0∧wr=w1) (fun _ _ _=>0)
        case atStart=>exact ⟨rfl,rfl⟩
        case round =>
          obtain ⟨rfl,rfl⟩:=hrel
          gi_wp2
          go_end0
          rw [hLn] at hj1
          obtain ⟨_,_,o,ho⟩:=hJ1 _ _ _ hj1
          exact ⟨rfl,.inl ⟨[],C10.at wr,cap10,rfl,hj1,AE.next_end ho⟩⟩
      · have hlen1:=hlenv (some ⟨gb,0,none⟩) L.length cap' w1
        gi_wp2
        rw [hlen1]
        gi_wp2
        have hLlen:L.length≤1000000:=by rw [← hL,← hsort,List.length_mergeSort,List.length_map];omega
        clear hL hsort hvl hvk hall hw hvs hve hnd hrow hb0' sortC
        gi_loopw [21,6] (fun p _ wr => ∃(j:Nat) (C1:AE.Cx) (cap1:List AE.AV),p = .int .i64 j∧j≤L.length∧C1.w=wr∧J (L.drop j) C1 cap1∧wr.heap[gb]? = some (.cells cur 3 (0,0))∧C1.Beside gb) (fun p _ _=>L.length - (intOf p).toNat)
        case atStart =>
          exact ⟨0,C10.at w1,cap10,rfl,by omega,rfl,hj1,hgb,AE.Beside.new hh10 (by rw [hw10];omega)⟩
        case round =>
          obtain ⟨j,C1,cap1,rfl,hj,rfl,hjj,hgb1,hbs⟩:=hrel
          by_cases hlt:j<L.length
          · have hlt':(j:Int)<(L.length:Int):=by omega
            obtain ⟨k,hk⟩ : ∃k,L[j]=k:=⟨_,rfl⟩
            have hdrop:L.drop j=k::L.drop (j+1):=by rw [← hk];exact List.drop_eq_getElem_cons hlt
            rw [hdrop] at hjj
            obtain ⟨hh1,hv1,o,ho⟩:=hJ1 _ _ _ hjj
            obtain ⟨l1,hl1,rfl⟩:=AE.next_at ho
            obtain ⟨b',mo1,es1,x1,hus1,_,hcell1,_,_,hx1,hmo1,_⟩:=AE.each_sees hh1 hv1 hl1
            obtain rfl:b=b':=by simpa using hus1
            obtain ⟨y,hlook,hy⟩:=AE.lookup_each R9.tabOk hh1 (tl:=265) rfl rfl hx1 hmo1 k
            have hval:=hY _ _ _ _ _ hjj ho #[.int .i64 k,y] (by simp only [AE.VRels];exact ⟨_,_,rfl,by rw [AE.VRel],_,_,rfl,hy,rfl⟩)
            have hcur:cur[j]? = some (.int .i64 k):=by
              have h1:(cur.toList.take (L.length*1))[j]? = (L.map (Value.int .i64))[j]? := by rw [r4]
              rw [List.getElem?_take,if_pos (by omega),List.getElem?_map,List.getElem?_eq_getElem hlt,hk] at h1
              simpa using h1
            have hrd:C1.w.cell? ⟨gb,j,none⟩=some (.int .i64 k):=by
              rw [AE.cell_blk (AE.blkOf_cells hgb1)]
              exact hcur
            clear hY hy ho hmo1 hx1 hv1 hl1 hus1 hJ1
            gi_wp2_with (first
              | (refine AE.wpListIn_callv _ rfl (Operand.tmp 25) #[Operand.tmp 26,Operand.tmp 29] _ rfl hval rfl (by simp [Act.eval]) ?_;rintro e W' (⟨rfl,C',cap2,rfl,hj',hkept⟩ | ⟨rfl,C',rfl,hjx,hkept⟩) <;> refine ⟨_,rfl,?_⟩)
              | gi_in)
            · obtain ⟨hg2,hb2⟩:=hkept.keep gb (by omega) (Array.getElem?_eq_some_iff.1 hgb1).1 hbs
              refine ⟨⟨j+1,C',cap2,by simp,by omega,rfl,hj',hg2.trans hgb1,hb2⟩,?_⟩
              simp [intOf]
              omega
            · refine bodyPost_ret (results_none rfl _ _ _) rfl ?_
              exact ⟨rfl,.inr ⟨C',rfl,hjx⟩⟩
          · have hge : ¬(j:Int)<(L.length:Int):=by omega
            gi_wp2
            go_end0
            have hd:L.drop j=[]:=List.drop_eq_nil_of_le (by omega)
            rw [hd] at hjj
            obtain ⟨_,_,o,ho⟩:=hJ1 _ _ _ hjj
            refine ⟨rfl,.inl ?_⟩
            first | exact ⟨[],C1,cap1,rfl,hjj,AE.next_end ho⟩ | exact ⟨[],C1,rfl,cap1,hjj,AE.next_end ho⟩
    · -- one more
      intro e he hes w' hw' hg hs hen
      have hem:e ∈ es.toList:=by simpa using he
      have hkey:=hkeys e hem
      have hw0:=hw
      have hes0:e.born ∉ seen:=by simpa using hes
      have hem0:=hem
      obtain ⟨e0,he0⟩ : ∃e0,e=e0:=⟨_,rfl⟩
      have hfresh:e.born ∉ seen.toList:=by simpa using hes
      have hvlen:vis.length≤1000000:=by
        have h2:vis.Nodup:=AE.nodup_of_map (·.born) (by rw [hvs];exact hnd)
        have h3:=h2.length_le_of_subset hve
        have h4:=hmr.length
        omega
      have hmx:2000000≤maxLen:=by decide
      obtain ⟨key,val,born⟩:=e
      dsimp only at hkey hen hes hw' ⊢
      obtain ⟨n0,hn0⟩ : ∃n0,AE.keyI key=n0:=⟨_,rfl⟩
      rw [hn0] at hkey
      subst hkey
      clear hn0
      have hs2:wr.heap.size≤w'.heap.size∧w'.heap.size≤wr.heap.size:=by omega
      clear hs
      have hrow2:w'.ownsRow (C.w.heap.size+1) 3 1 u3 vis.length (vis.map (·.key)):=AE.ownsRow_kept hrow hg (fun r e=>by cases e;omega)
      have hblk:=AE.ownBlock_base hrow2
      have hB2:Below C.w.heap.size C.w w':=hB.grown hg hB.size (fun j e=>by cases e;omega)
      have hrow3:=AE.ownsRow_kept hrow2 (World.grownBy_alloc w' (.cells #[.int .i64 n0] 3) none) (fun r e=>by cases e)
      have e1:vis.length+1≤maxLen:=by omega
      have e2:(vis.length+1)*8≤140737488355328:=by omega
      have e3:C.w.heap.size+1≤(w'.alloc (.cells #[.int .i64 n0] 3)).heap.size:=by rw [World.size_alloc];omega
      gi_wp2_with (first
        | (gi_at_builtin;refine wpListIn_append_own _ rfl (.tmp 13) (.tmp 15) 56 rfl (C.w.heap.size+1) 3 i0 (.int .i64 0) 1 8 Tryz.underlying56 hi hz0 hz1 hz2 rfl (by decide) u3 vis.length (vis.map (·.key)) rfl hrow3 ⟨w'.heap.size,0,none⟩ 1 1 [.int .i64 n0] rfl rfl (cell_one_new _ _ _) (by simp [Value.oneCell']) e1 e2 e3 ?_;intro v' w3 hown' hgrow _;obtain ⟨g',cap',rfl⟩:=ownsRow_succ hown')
        | gi_in)
      have hWa:AE.WalkAt (w'.alloc (.cells #[.int .i64 n0] 3)) mo C.w.heap.size es (seen.push born):=hw'.kept (World.grownBy_alloc w' _ none) (fun _ _ h=>by cases h) (fun h=>by cases h)
      have hW3:AE.WalkAt w3 mo C.w.heap.size es (seen.push born):=hWa.kept hgrow (fun b hb h=>by have h1:=hblk _ h;have h2:=hm0 b hb;omega) (fun h=>by have h1:=hblk _ h;omega)
      have hB3:Below C.w.heap.size C.w w3:=(hB2.alloc hB2.size _).grown hgrow (by rw [World.size_alloc];have:=hB2.size;omega) (fun j h=>by have h1:=hblk _ h;omega)
      refine ⟨⟨seen.push born,vis++[e0],hW3,by rw [List.map_append,hvs,← he0];simp,?_,?_,?_,hB3,?_⟩,hw0.left_lt hem0 hes0 hW3⟩
      · intro y hy
        rcases List.mem_append.1 hy with hy | hy
        · exact hve y hy
        · rw [List.mem_singleton.1 hy,← he0];exact hem
      · rw [Array.toList_push]
        exact List.nodup_append.2 ⟨hnd,by simp,fun a ha b hb=>by rw [List.mem_singleton.1 hb];intro e;rw [e] at ha;exact hfresh ha⟩
      · rw [List.map_append,List.length_append,← he0]
        exact hown'
      · have h1:=hgrow.size
        rw [World.size_alloc] at h1
        omega
end Go.Proofs
namespace Go.Proofs
open Go.Shelf Go.RowKit
def Tryz.lays156_ren:Go.Shelf.Ren:=⟨fun | 156=>58 | 165=>99 | 166=>100 | 169=>101 | 240=>144 | 241=>145 | 276=>183 | 277=>184 | n=>n,fun | 31=>22 | 9=>9 | 3=>3 | 4=>4 | 0=>0 | 20=>20 | 72=>153 | 76=>157 | 70=>151 | 37=>44 | 75=>156 | 127=>196 | 164=>236 | 5=>5 | 80=>134 | n=>n,fun | n=>n⟩
theorem Tryz.lays156:Go.Proofs.Lays.n156 Tryz.prog Tryz.lays156_ren:={
  mixed:=by kernel_rfl
  f156:=Tryz.func58.trans (congrArg some (by kernel_rfl))
  f165:=Tryz.func99.trans (congrArg some (by kernel_rfl))
  f166:=Tryz.func100.trans (congrArg some (by kernel_rfl))
  f169:=Tryz.func101.trans (congrArg some (by kernel_rfl))
  f240:=Tryz.func144.trans (congrArg some (by kernel_rfl))
  f241:=Tryz.func145.trans (congrArg some (by kernel_rfl))
  f276:=Tryz.func183.trans (congrArg some (by kernel_rfl))
  f277:=Tryz.func184.trans (congrArg some (by kernel_rfl))
  t0:=Tryz.underlying0
  a0:=Tryz.isAgg0
  z0:=Tryz.sizeOf0
  v0:=Tryz.zeroValue0
  t3:=Tryz.underlying3
  a3:=Tryz.isAgg3
  z3:=Tryz.sizeOf3
  v3:=Tryz.zeroValue3
  t4:=Tryz.underlying4
  a4:=Tryz.isAgg4
  z4:=Tryz.sizeOf4
  v4:=Tryz.zeroValue4
  t9:=Tryz.underlying9
  a9:=Tryz.isAgg9
  z9:=Tryz.sizeOf9
  v9:=Tryz.zeroValue9
  t20:=Tryz.underlying20
  a20:=Tryz.isAgg20
  z20:=Tryz.sizeOf20
  v20:=Tryz.zeroValue20
  t31:=Tryz.underlying22
  a31:=Tryz.isAgg22
  z31:=Tryz.sizeOf22
  v31:=Tryz.zeroValue22
  t37:=Tryz.underlying44
  a37:=Tryz.isAgg44
  z37:=Tryz.sizeOf44
  v37:=Tryz.zeroValue44
  t70:=Tryz.underlying151
  a70:=Tryz.isAgg151
  z70:=Tryz.sizeOf151
  v70:=Tryz.zeroValue151
  t72:=Tryz.underlying153
  a72:=Tryz.isAgg153
  z72:=Tryz.sizeOf153
  v72:=Tryz.zeroValue153
  t75:=Tryz.underlying156
  a75:=Tryz.isAgg156
  z75:=Tryz.sizeOf156
  v75:=Tryz.zeroValue156
  t76:=Tryz.underlying157
  a76:=Tryz.isAgg157
  z76:=Tryz.sizeOf157
  v76:=Tryz.zeroValue157
  t127:=Tryz.underlying196
  a127:=Tryz.isAgg196
  z127:=Tryz.sizeOf196
  v127:=Tryz.zeroValue196
  t164:=Tryz.underlying236
  a164:=Tryz.isAgg236
  z164:=Tryz.sizeOf236
  v164:=Tryz.zeroValue236 }
theorem Tryz.Builder_Extra_156:Builder.Extra Tryz.prog Tryz.lays156_ren:={
  sizeBuilder:=by kernel_rfl
  liesBuilder:=by kernel_rfl
  t5:=Tryz.underlying5
  a5:=Tryz.isAgg5
  z5:=Tryz.sizeOf5
  v5:=Tryz.zeroValue5
  infoByte:=by kernel_rfl
  cellsByte:=by kernel_rfl
  sizeByte:=by kernel_rfl
  neB5:=by decide }
open Go.RowKit in
theorem Tryz.strings_Join_none (a:Option Addr) (c:Nat) (sep:ByteArray) (w:World) :
    Calls Tryz.prog 58 #[.slice a 0 c,.string sep] w fun e w'=>e = .returned (.string ⟨#[]⟩)∧w'=w:=Any.strings_Join_none Tryz.lays156 Tryz.Builder_Extra_156 a c sep w
open Go.RowKit in
theorem Tryz.strings_Join (bk o c:Nat) (xs:List ByteArray) (sep:ByteArray) (w:World) (hcells : ∀(j:Nat) x,xs[j]? = some x→w.cell? ⟨bk,o+j,none⟩=some (.string x)) (hbk:bk<w.heap.size) (hN:xs.length≤140737488355328) (hcap:xs.length≤c) (hlen:(Lib.join (xs.map (·.data.toList)) sep.data.toList).length≤140737488355328) :
    Calls Tryz.prog 58 #[.slice (some ⟨bk,o,none⟩) xs.length c,.string sep] w fun e w'=>e = .returned (.string ⟨(Lib.join (xs.map (·.data.toList)) sep.data.toList).toArray⟩)∧Below w.heap.size w w':=Any.strings_Join Tryz.lays156 Tryz.Builder_Extra_156 bk o c xs sep w hcells hbk hN hcap hlen
end Go.Proofs
namespace Go.Proofs.R9
open Go Go.AE
theorem za4:zV Tryz.prog 75 W2 :=
  zjp (Jp Tryz.func75 (by kernel_rfl) (by decide +kernel)) fun s c w h1 h2=>Tryz.strings_Repeat s c w h1 h2
theorem zb1:zV Tryz.prog 58 je :=
  zmK (Jp Tryz.func58 (by kernel_rfl) (by decide +kernel)) (fun a c s w=>Tryz.strings_Join_none a c s w) fun b o c xs s w h1 h2 h3 h4 h5=>Tryz.strings_Join b o c xs s w h1 h2 h3 h4 h5
theorem zfc:zP Tryz.prog 144 qn :=
  zeD (ρ:=Tryz.lays105_ren) { Tryz.lays105 with } Tryz.Builder_Extra_105.toX72 rfl (Jp Tryz.func144 (by kernel_rfl) (by decide +kernel))
theorem ziL:zP Tryz.prog 101 jQ :=
  zik (ρ:=Tryz.lays105_ren) { Tryz.lays105 with } Tryz.Builder_Extra_105 rfl (Jp Tryz.func101 (by kernel_rfl) (by decide +kernel))
theorem zcZ:zP Tryz.prog 101 wR :=
  zcX (ρ:=Tryz.lays105_ren) { Tryz.lays105 with } Tryz.Builder_Extra_105 rfl (Jp Tryz.func101 (by kernel_rfl) (by decide +kernel))
theorem zzA:zex Tryz.prog 100240 (.iter (jz .str) (zb7 .str)):=zL0 R9.each240_ok
end Go.Proofs.R9
namespace Go.Proofs.R9
open Go Go.AE
set_option maxRecDepth 100000
--@ field_New
noncomputable def zMT:Env:=[]
theorem zPP:zd Tryz.prog zMT:=zd.nil
noncomputable def zVk:Code:=Tryz.f49.body.getD .skip
noncomputable def zLY:Ann := .none
theorem zL9:zr Tryz.prog 6 zVk zLY:=(zb _ _ _)
abbrev zd2:=(List UInt8)
abbrev zJp:=Unit
def zbi {β:Type}:zd2→(zJp→Option β)→Option β:=fun a0 exit=>(exit ())
def w8 (a:zd2):Option zJp:=zbi a some
theorem zLS (a:zd2) (k:zJp→Ans):zbi a k=za (w8 a) k:=by
  obtain z:=a
  simp only [w8,zbi,zj,zg,zl,zc,zi,zm,zh]
def zjA:zd2→List AV×List AE.Obj:=fun a0=>([.str a0],[])
def zBn (l:List AV) (H:List AE.Obj):Option {a:zd2 // (l,H)=zjA a}:=match l,H with
  | [.str a0],[]=>some ⟨(a0),rfl⟩
  | _,_=>none
def zGc (l:List AV) (H:List AE.Obj):Option zd2:=pk (zBn l H)
theorem zJG (l:List AV) (H:List AE.Obj) (a:zd2) (h:zGc l H=some a):(l,H)=zjA a:=zx (o:=zBn l H) h
def zK0:zd2→(AV→List AE.Obj→Ans)→zJp→Ans:=fun a0 K=>fun _=>K (.ptr 0 0) [.cells [.str a0,.int .i64 (0)]]
theorem zPj (a:zd2) (K:AV→List AE.Obj→Ans):fnE Tryz.tab zMT zf 0 70 49 Tryz.f49.ntmps Tryz.f49.results.toList zLY zVk (zjA a).1 (zjA a).2 K=zbi a (zK0 a K):=by kernel_rfl
def zVR (a:zd2) (K:AV→List AE.Obj→Ans):Ans:=za (w8 a) fun y=>zK0 a K y
def zvo:List AV→List AE.Obj→(AV→List AE.Obj→Ans)→Ans:=fun l H K=>za (zGc l H) fun a=>zVR a K
theorem zeF:zP Tryz.prog 49 zvo:=ZN (hint:=zf) (d:=0) (n:=70) mixed tabOk zPP Tryz.func49 (zI (by kernel_rfl)) (by decide +kernel) zL9 zJG zPj zLS
--@ field_width
noncomputable def zq0:Env:=[]
theorem zAW:zd Tryz.prog zq0:=zd.nil
noncomputable def zRb:Code:=Tryz.f92.body.getD .skip
noncomputable def zj1:Code:=zL [1,0] zRb
noncomputable def zrV:Ann := .none
theorem zw3:zr Tryz.prog 9 zj1 zrV:=(zb _ _ _)
abbrev Qw:=(Int)
abbrev zlv:=(Bool)
def ztq:Qw→St:=fun t0=>{ env:=[(0,.int .i64 t0)],stk:=[[]],H:=[],blk:=376832 }
def zrf (s:St):Option {x:Qw // s=ztq x}:=match s with
  | { env:=[(0,.int .i64 t0)],stk:=[[]],H:=[],blk:=376832 }=>some ⟨(t0),rfl⟩
  | _=>none
def zim (s:St):Option Qw:=pk (zrf s)
theorem zAG (s:St) (x:Qw) (h:zim s=some x):s=ztq x:=zx (o:=zrf s) h
def zia:Qw→(Ex→St→Ans)→zlv→Ans:=fun t0 K=>fun t2_y=>K (Ex.norm) { env:=[(2,.bool t2_y)],stk:=[[]],H:=[],blk:=376832 }
def w6 {β:Type}:Qw→(zlv→Option β)→Option β:=fun t0 exit=>(bif decide (t0≥(1:Int)) then (exit (decide (t0≤(7:Int)))) else (exit (false)))
def Yi (i:Qw):Option zlv:=w6 i some
theorem ztP (i:Qw) (k:zlv→Ans):w6 i k=za (Yi i) k:=by
  obtain z:=i
  simp only [Yi,w6,zj,zg,zl,zc,zi,zm,zh]
theorem zww (i:Qw) (K:Ex→St→Ans):zA Tryz.tab zq0 zf (zD Tryz.tab zq0 zf 0 64) 70 9 zrV zj1 (zH 0 (exk [2] [2] []) K) (ztq i)=w6 i (zia i K):=by kernel_rfl
theorem zD7:zy Tryz.prog 9 zj1 (zG zim Yi zia):=zB mixed tabOk zAW 0 (exk [2] [2] []) zw3 zAG zww ztP
noncomputable def zFX:(Ex→St→Ans)→St→Ans:=(zG zim Yi zia)
theorem zHe:zy Tryz.prog 9 zj1 zFX:=zD7
noncomputable def zMg:Ann:=(.seq .none (.seq (.cut 0 [0] zFX) .none))
theorem zOo:zr Tryz.prog 9 zRb zMg:=⟨(zb _ _ _),⟨zHe,(zb _ _ _)⟩⟩
abbrev zb0:=(Int)
abbrev zAK:=(Bool)
def zfy {β:Type}:zb0→(zAK→Option β)→Option β:=fun a0 exit=>(za (Yi (a0)) fun t2=>(exit (t2)))
def za3 (a:zb0):Option zAK:=zfy a some
theorem zNv (a:zb0) (k:zAK→Ans):zfy a k=za (za3 a) k:=by
  obtain z:=a
  simp only [za3,zfy,zj,zg,zl,zc,zi,zm,zh]
def zuJ:zb0→List AV:=fun a0=>[.int .i64 a0]
def zzD (l:List AV):Option {a:zb0 // l=zuJ a}:=match l with
  | [.int .i64 a0]=>some ⟨(a0),rfl⟩
  | _=>none
def zF4 (l:List AV):Option zb0:=pk (zzD l)
theorem zH7 (l:List AV) (a:zb0) (h:zF4 l=some a):l=zuJ a:=zx (o:=zzD l) h
def zuq:zb0→zAK→AV:=fun a0=>fun r_y => .bool r_y
theorem zIn : ∀(a:zb0) (y:zAK),(zuq a y).closed1=true:=by
  rintro z y <;> first | rfl | exact Empty.elim y
theorem zQ0 (a:zb0):fnE Tryz.tab zq0 zf 0 70 92 Tryz.f92.ntmps Tryz.f92.results.toList zMg zRb (zuJ a) [] (fun v _=>some (v,[]))=zfy a (fun y=>some (zuq a y,[])):=by kernel_rfl
def zVy (a:zb0) (K:AV→Ans):Ans:=za (za3 a) fun y=>K (zuq a y)
def zJv:List AV→(AV→Ans)→Ans:=fun l K=>za (zF4 l) fun a=>zVy a K
theorem zup:zV Tryz.prog 92 zJv:=zX (hint:=zf) (d:=0) (n:=70) mixed tabOk zAW Tryz.func92 (zI (by kernel_rfl)) (by decide +kernel) zOo zH7 zQ0 zNv zIn
--@ field_Reader_fail
noncomputable def zOp:Env:=[]
theorem zPG:zd Tryz.prog zOp:=zd.nil
noncomputable def zT6:Code:=Tryz.f91.body.getD .skip
noncomputable def zLk:Ann := .none
theorem zNp:zr Tryz.prog 13 zT6 zLk:=(zb _ _ _)
abbrev zd9:=(Int)×(List UInt8)×(Int)
abbrev zJz:=(Int)
def zrn {β:Type}:zd9→(zJz→Option β)→Option β:=fun (a1,o0_0,o0_1) exit=>(bif o0_1 == (0:Int) then (exit (a1)) else (exit (o0_1)))
def zaZ (a:zd9):Option zJz:=zrn a some
theorem zMi (a:zd9) (k:zJz→Ans):zrn a k=za (zaZ a) k:=by
  obtain ⟨a1,o0_0,o0_1⟩:=a
  simp only [zaZ,zrn,zj,zg,zl,zc,zi,zm,zh]
def zln:zd9→List AV×List AE.Obj:=fun (a1,o0_0,o0_1)=>([.ptr 0 0,.int .i64 a1],[.cells [.str o0_0,.int .i64 o0_1]])
def zBf (l:List AV) (H:List AE.Obj):Option {a:zd9 // (l,H)=zln a}:=match l,H with
  | [.ptr 0 0,.int .i64 a1],[.cells [.str o0_0,.int .i64 o0_1]]=>some ⟨(a1,o0_0,o0_1),rfl⟩
  | _,_=>none
def zF6 (l:List AV) (H:List AE.Obj):Option zd9:=pk (zBf l H)
theorem zI2 (l:List AV) (H:List AE.Obj) (a:zd9) (h:zF6 l H=some a):(l,H)=zln a:=zx (o:=zBf l H) h
def zOD:zd9→(AV→List AE.Obj→Ans)→zJz→Ans:=fun (a1,o0_0,o0_1) K=>fun o0_1_y=>K (.tup []) [.cells [.str o0_0,.int .i64 o0_1_y]]
theorem zPS (a:zd9) (K:AV→List AE.Obj→Ans):fnE Tryz.tab zOp zf 0 70 91 Tryz.f91.ntmps Tryz.f91.results.toList zLk zT6 (zln a).1 (zln a).2 K=zrn a (zOD a K):=by kernel_rfl
def zVM (a:zd9) (K:AV→List AE.Obj→Ans):Ans:=za (zaZ a) fun y=>zOD a K y
def zJo:List AV→List AE.Obj→(AV→List AE.Obj→Ans)→Ans:=fun l H K=>za (zF6 l H) fun a=>zVM a K
theorem zsO:zP Tryz.prog 91 zJo:=ZN (hint:=zf) (d:=0) (n:=70) mixed tabOk zPG Tryz.func91 (zI (by kernel_rfl)) (by decide +kernel) zNp zI2 zPS zMi
--@ field_Reader_Bytes
noncomputable def zoa:Env:=[(91,.func zJo)]
theorem zC0:zd Tryz.prog zoa:=zd.cons zsO (zd.nil)
noncomputable def zQi:Code:=Tryz.f50.body.getD .skip
noncomputable def zkV:Code:=zL [1,1,0,1] zQi
noncomputable def zpe:Ann := .none
theorem zyg:zr Tryz.prog 42 zkV zpe:=(zb _ _ _)
abbrev qO:=(Int)×(Bool)×(List UInt8)×(Int)
abbrev zli:=(Int)
def zti:qO→St:=fun (t1,t9,o0_0,o0_1)=>{ env:=[(0,.ptr 0 0),(1,.int .i64 t1),(9,.bool t9)],stk:=[[(0,.ptr 0 0)]],H:=[.cells [.str o0_0,.int .i64 o0_1]],blk:=204800 }
def zqa (s:St):Option {x:qO // s=zti x}:=match s with
  | { env:=[(0,.ptr 0 0),(1,.int .i64 t1),(9,.bool t9)],stk:=[[(0,.ptr 0 0)]],H:=[.cells [.str o0_0,.int .i64 o0_1]],blk:=204800 }=>some ⟨(t1,t9,o0_0,o0_1),rfl⟩
  | _=>none
def zjt (s:St):Option qO:=pk (zqa s)
theorem zzy (s:St) (x:qO) (h:zjt s=some x):s=zti x:=zx (o:=zqa s) h
def zin:qO→(Ex→St→Ans)→zli→Ans:=fun (t1,t9,o0_0,o0_1) K=>fun o0_1_y=>K (Ex.norm) { env:=[(0,.ptr 0 0),(1,.int .i64 t1)],stk:=[[(0,.ptr 0 0)]],H:=[.cells [.str o0_0,.int .i64 o0_1_y]],blk:=204800 }
def wM {β:Type}:qO→(zli→Option β)→Option β:=fun (t1,t9,o0_0,o0_1) exit=>(bif t9 then (za (zaZ ((3:Int),o0_0,o0_1)) fun o0_1_2=>(exit (o0_1_2))) else (bif decide (t1>(↑(List.length o0_0):Int)) then (za (zaZ ((1:Int),o0_0,o0_1)) fun o0_1_2=>(exit (o0_1_2))) else (exit (o0_1))))
def Yf (i:qO):Option zli:=wM i some
theorem zsh (i:qO) (k:zli→Ans):wM i k=za (Yf i) k:=by
  obtain ⟨t1,t9,o0_0,o0_1⟩:=i
  simp only [Yf,wM,zj,zg,zl,zc,zi,zm,zh]
theorem zx8 (i:qO) (K:Ex→St→Ans):zA Tryz.tab zoa zf (zD Tryz.tab zoa zf 0 64) 70 42 zpe zkV (zH 1 (exk [0,1] [4] []) K) (zti i)=wM i (zin i K):=by kernel_rfl
theorem zEn:zy Tryz.prog 42 zkV (zG zjt Yf zin):=zB mixed tabOk zC0 1 (exk [0,1] [4] []) zyg zzy zx8 zsh
noncomputable def zGo:(Ex→St→Ans)→St→Ans:=(zG zjt Yf zin)
theorem zI3:zy Tryz.prog 42 zkV zGo:=zEn
noncomputable def zOB:Ann:=(.seq .none (.seq .none (.seq (.seq .none (.cut 1 [0,1,9] zGo)) .none)))
theorem zMv:zr Tryz.prog 42 zQi zOB:=⟨(zb _ _ _),⟨(zb _ _ _),⟨⟨(zb _ _ _),zI3⟩,(zb _ _ _)⟩⟩⟩
abbrev zdC:=(Int)×(List UInt8)×(Int)
abbrev zJC:=(List UInt8)×(List UInt8)×(Int)
def zgc {β:Type}:zdC→(zJC→Option β)→Option β:=fun (a1,o0_0,o0_1) exit=>(za (Yf (a1,decide (a1<(0:Int)),o0_0,o0_1)) fun o0_1_2=>(bif o0_1_2 != (0:Int) then (exit ([],o0_0,o0_1_2)) else (bif inR a1 (List.length o0_0+(1:Nat)) then (bif inR a1 (List.length o0_0+(1:Nat)) then (exit (List.take (Int.toNat a1) o0_0,List.drop (Int.toNat a1) o0_0,o0_1_2)) else none) else none)))
def yB (a:zdC):Option zJC:=zgc a some
theorem zOa (a:zdC) (k:zJC→Ans):zgc a k=za (yB a) k:=by
  obtain ⟨a1,o0_0,o0_1⟩:=a
  simp only [yB,zgc,zj,zg,zl,zc,zi,zm,zh]
def zkL:zdC→List AV×List AE.Obj:=fun (a1,o0_0,o0_1)=>([.ptr 0 0,.int .i64 a1],[.cells [.str o0_0,.int .i64 o0_1]])
def zzI (l:List AV) (H:List AE.Obj):Option {a:zdC // (l,H)=zkL a}:=match l,H with
  | [.ptr 0 0,.int .i64 a1],[.cells [.str o0_0,.int .i64 o0_1]]=>some ⟨(a1,o0_0,o0_1),rfl⟩
  | _,_=>none
def zEI (l:List AV) (H:List AE.Obj):Option zdC:=pk (zzI l H)
theorem zHI (l:List AV) (H:List AE.Obj) (a:zdC) (h:zEI l H=some a):(l,H)=zkL a:=zx (o:=zzI l H) h
def zNR:zdC→(AV→List AE.Obj→Ans)→zJC→Ans:=fun (a1,o0_0,o0_1) K=>unP fun r_y=>unP fun o0_0_y o0_1_y=>K (.str r_y) [.cells [.str o0_0_y,.int .i64 o0_1_y]]
theorem zRu (a:zdC) (K:AV→List AE.Obj→Ans):fnE Tryz.tab zoa zf 0 70 50 Tryz.f50.ntmps Tryz.f50.results.toList zOB zQi (zkL a).1 (zkL a).2 K=zgc a (zNR a K):=by kernel_rfl
def zVX (a:zdC) (K:AV→List AE.Obj→Ans):Ans:=za (yB a) fun y=>zNR a K y
def zmw:List AV→List AE.Obj→(AV→List AE.Obj→Ans)→Ans:=fun l H K=>za (zEI l H) fun a=>zVX a K
theorem zbH:zP Tryz.prog 50 zmw:=ZN (hint:=zf) (d:=0) (n:=70) mixed tabOk zC0 Tryz.func50 (zI (by kernel_rfl)) (by decide +kernel) zMv zHI zRu zOa
--@ field_Reader_Num
noncomputable def zee:Env:=[(92,.pure zJv),(91,.func zJo),(50,.func zmw)]
theorem zBA:zd Tryz.prog zee:=zd.cons zup (zd.cons zsO (zd.cons zbH (zd.nil)))
noncomputable def zQ1:Code:=Tryz.f51.body.getD .skip
noncomputable def zeN:Code:=zL [1,1,1,1,0,1,0,0] zQ1
noncomputable def zfB:Ann := .at 1 [5,18,19,20] (.loop .none)
theorem zxU:zr Tryz.prog 31 (.loop zeN) zfB:=yG (zb _ _ _)
abbrev QE:=(Int)×(List UInt8)×(Int)×(List Int)
abbrev zlP:=(Int)
abbrev wG:=(Int)×(Int)
def zlc:QE→wG→St:=fun (t19,o0_0,o0_1,o1) (t5,t20)=>{ env:=[(5,.int .i64 t5),(18,.own 1),(19,.int .i64 t19),(20,.int .i64 t20)],stk:=[[(0,.ptr 0 0)]],H:=[.cells [.str o0_0,.int .i64 o0_1],.arr (.int .u8) o1],blk:=208896 }
def zp6 (s:St):Option {x:QE×wG // s=zlc x.1 x.2}:=match s with
  | { env:=[(5,.int .i64 t5),(18,.own 1),(19,.int .i64 t19),(20,.int .i64 t20)],stk:=[[(0,.ptr 0 0)]],H:=[.cells [.str o0_0,.int .i64 o0_1],.arr (.int .u8) o1],blk:=208896 }=>some ⟨((t19,o0_0,o0_1,o1),(t5,t20)),rfl⟩
  | _=>none
def zgF (s:St):Option (QE×wG):=pk (zp6 s)
theorem zB7 (s:St) (x:QE×wG) (h:zgF s=some x):s=zlc x.1 x.2:=zx (o:=zp6 s) h
def zgE:QE→(Ex→St→Ans)→zlP→Ans:=fun (t19,o0_0,o0_1,o1) K=>fun t5_y=>K (Ex.exit 0) { env:=[(5,.int .i64 t5_y)],stk:=[[(0,.ptr 0 0)]],H:=[.cells [.str o0_0,.int .i64 o0_1]],blk:=208896 }
def QP {β:Type}:QE→wG→(wG→Option β)→(zlP→Option β)→Option β:=fun (t19,o0_0,o0_1,o1) (t5,t20) next exit=>(bif decide (t20<t19) then (bif inR t20 (List.length o1) then (za (o1[Int.toNat t20]?) fun x=>(next (IntKind.wrap .i64 (↑(Int.toNat (IntKind.wrap .i64 (t5*(256:Int)) % (18446744073709551616:Int)) ||| Int.toNat (IntKind.wrap .i64 x % (18446744073709551616:Int))):Int),IntKind.wrap .i64 (t20+(1:Int))))) else none) else (exit (t5)))
def yO (i:QE) (v:wG):Option (wG ⊕ zlP):=QP i v (fun v=>some (.inl v)) (fun y=>some (.inr y))
theorem zuG (i:QE) (v:wG) (next:wG→Ans) (exit:zlP→Ans):QP i v next exit=za (yO i v) (Sum.elim next exit):=by
  obtain ⟨t19,o0_0,o0_1,o1⟩:=i
  obtain ⟨t5,t20⟩:=v
  simp only [yO,QP,zj,zg,zl,zc,zi,zm,zh,Sum.elim_inl,Sum.elim_inr]
theorem zv8 (n:Nat) (i:QE) (v:wG) (K:Ex→St→Ans):zA Tryz.tab zee zf (zD Tryz.tab zee zf 0 64) (n+1) 31 zfB (.loop zeN) (zH 1 (exk [5] [4] [(0,[5])]) K) (zlc i v)=QP i v (fun v'=>zA Tryz.tab zee zf (zD Tryz.tab zee zf 0 64) n 31 zfB (.loop zeN) (zH 1 (exk [5] [4] [(0,[5])]) K) (zlc i v')) (fun y=>zgE i K y):=by kernel_rfl
theorem zDs:zy Tryz.prog 31 (.loop zeN) (y9 zgF yO zgE):=yQ mixed tabOk zBA 1 (exk [5] [4] [(0,[5])]) zxU zB7 zv8 zuG
noncomputable def zEL:(Ex→St→Ans)→St→Ans:=(y9 zgF yO zgE)
theorem zIt:zy Tryz.prog 31 (.loop zeN) zEL:=zDs
noncomputable def zLR:Ann:=(.seq .none (.seq .none (.seq .none (.seq .none (.seq (.seq .none (.block (.cut 1 [5,18,19,20] zEL))) .none)))))
theorem zK9:zr Tryz.prog 31 zQ1 zLR:=⟨(zb _ _ _),⟨(zb _ _ _),⟨(zb _ _ _),⟨(zb _ _ _),⟨⟨(zb _ _ _),zIt⟩,(zb _ _ _)⟩⟩⟩⟩⟩
abbrev zdu:=(Int)×(List UInt8)×(Int)
abbrev zJ9:=(Int)×(List UInt8)×(Int)
def zlE {β:Type}:zdu→(zJ9→Option β)→Option β:=fun (a1,o0_0,o0_1) exit=>(za (za3 (a1)) fun r=>(bif !r then (za (zaZ ((3:Int),o0_0,o0_1)) fun o0_1_2=>(exit ((0:Int),o0_0,o0_1_2))) else (za (yB (a1,o0_0,o0_1)) (unP fun r_2=>unP fun o0_0_2 o0_1_2=>(bif Nat.ble (List.length r_2) (140737488355328:Nat) then (za (zZ (yO ((↑(List.length (zW r_2)):Int),o0_0_2,o0_1_2,zW r_2)) Zo ((0:Int),(0:Int))) fun t5=>(exit (t5,o0_0_2,o0_1_2))) else none)))))
def ZY (a:zdu):Option zJ9:=zlE a some
theorem zK2 (a:zdu) (k:zJ9→Ans):zlE a k=za (ZY a) k:=by
  obtain ⟨a1,o0_0,o0_1⟩:=a
  simp only [ZY,zlE,zj,zg,zl,zc,zi,zm,zh]
def zk3:zdu→List AV×List AE.Obj:=fun (a1,o0_0,o0_1)=>([.ptr 0 0,.int .i64 a1],[.cells [.str o0_0,.int .i64 o0_1]])
def zzS (l:List AV) (H:List AE.Obj):Option {a:zdu // (l,H)=zk3 a}:=match l,H with
  | [.ptr 0 0,.int .i64 a1],[.cells [.str o0_0,.int .i64 o0_1]]=>some ⟨(a1,o0_0,o0_1),rfl⟩
  | _,_=>none
def zGP (l:List AV) (H:List AE.Obj):Option zdu:=pk (zzS l H)
theorem zJR (l:List AV) (H:List AE.Obj) (a:zdu) (h:zGP l H=some a):(l,H)=zk3 a:=zx (o:=zzS l H) h
def zMI:zdu→(AV→List AE.Obj→Ans)→zJ9→Ans:=fun (a1,o0_0,o0_1) K=>unP fun r_y=>unP fun o0_0_y o0_1_y=>K (.int .i64 r_y) [.cells [.str o0_0_y,.int .i64 o0_1_y]]
theorem zQM (a:zdu) (K:AV→List AE.Obj→Ans):fnE Tryz.tab zee zf 0 70 51 Tryz.f51.ntmps Tryz.f51.results.toList zLR zQ1 (zk3 a).1 (zk3 a).2 K=zlE a (zMI a K):=by kernel_rfl
def zVC (a:zdu) (K:AV→List AE.Obj→Ans):Ans:=za (ZY a) fun y=>zMI a K y
def znZ:List AV→List AE.Obj→(AV→List AE.Obj→Ans)→Ans:=fun l H K=>za (zGP l H) fun a=>zVC a K
theorem zbJ:zP Tryz.prog 51 znZ:=ZN (hint:=zf) (d:=0) (n:=70) mixed tabOk zBA Tryz.func51 (zI (by kernel_rfl)) (by decide +kernel) zK9 zJR zQM zK2
--@ field_Reader_End
noncomputable def zes:Env:=[]
theorem znS:zd Tryz.prog zes:=zd.nil
noncomputable def zI7:Code:=Tryz.f96.body.getD .skip
noncomputable def zjC:Code:=zL [1,0,0,1,1,0] zI7
noncomputable def zok:Ann := .none
theorem zwD:zr Tryz.prog 23 zjC zok:=(zb _ _ _)
abbrev qZ:=(List UInt8)×(Int)
abbrev zjB:=(Bool)
def zu0:qZ→St:=fun (o0_0,o0_1)=>{ env:=[(0,.ptr 0 0)],stk:=[[(0,.ptr 0 0)]],H:=[.cells [.str o0_0,.int .i64 o0_1]],blk:=393216 }
def zpV (s:St):Option {x:qZ // s=zu0 x}:=match s with
  | { env:=[(0,.ptr 0 0)],stk:=[[(0,.ptr 0 0)]],H:=[.cells [.str o0_0,.int .i64 o0_1]],blk:=393216 }=>some ⟨(o0_0,o0_1),rfl⟩
  | _=>none
def zhP (s:St):Option qZ:=pk (zpV s)
theorem zz8 (s:St) (x:qZ) (h:zhP s=some x):s=zu0 x:=zx (o:=zpV s) h
def ziV:qZ→(Ex→St→Ans)→zjB→Ans:=fun (o0_0,o0_1) K=>fun t6_y=>K (Ex.norm) { env:=[(0,.ptr 0 0),(6,.bool t6_y)],stk:=[[(0,.ptr 0 0)]],H:=[.cells [.str o0_0,.int .i64 o0_1]],blk:=393216 }
def j9 {β:Type}:qZ→(zjB→Option β)→Option β:=fun (o0_0,o0_1) exit=>(bif o0_1 == (0:Int) then (exit (!o0_0 == [])) else (exit (false)))
def Wu (i:qZ):Option zjB:=j9 i some
theorem zsN (i:qZ) (k:zjB→Ans):j9 i k=za (Wu i) k:=by
  obtain ⟨o0_0,o0_1⟩:=i
  simp only [Wu,j9,zj,zg,zl,zc,zi,zm,zh]
theorem zyf (i:qZ) (K:Ex→St→Ans):zA Tryz.tab zes zf (zD Tryz.tab zes zf 0 64) 70 23 zok zjC (zH 1 (exk [0,6] [2] []) K) (zu0 i)=j9 i (ziV i K):=by kernel_rfl
theorem zEj:zy Tryz.prog 23 zjC (zG zhP Wu ziV):=zB mixed tabOk znS 1 (exk [0,6] [2] []) zwD zz8 zyf zsN
noncomputable def zGM:(Ex→St→Ans)→St→Ans:=(zG zhP Wu ziV)
theorem zJm:zy Tryz.prog 23 zjC zGM:=zEj
noncomputable def zkt:Code:=zL [1,0] zI7
noncomputable def zqV:Ann:=(.block (.seq .none (.cond .none (.seq (.cut 1 [0] zGM) .none))))
theorem zxd:zr Tryz.prog 23 zkt zqV:=⟨(zb _ _ _),⟨(zb _ _ _),⟨zJm,(zb _ _ _)⟩⟩⟩
abbrev q1:=(List UInt8)×(Int)
abbrev zjU:=(Unit) ⊕ (Unit)
def zsJ:q1→St:=fun (o0_0,o0_1)=>{ env:=[(0,.ptr 0 0)],stk:=[[(0,.ptr 0 0)]],H:=[.cells [.str o0_0,.int .i64 o0_1]],blk:=393216 }
def zq1 (s:St):Option {x:q1 // s=zsJ x}:=match s with
  | { env:=[(0,.ptr 0 0)],stk:=[[(0,.ptr 0 0)]],H:=[.cells [.str o0_0,.int .i64 o0_1]],blk:=393216 }=>some ⟨(o0_0,o0_1),rfl⟩
  | _=>none
def ziJ (s:St):Option q1:=pk (zq1 s)
theorem zA2 (s:St) (x:q1) (h:ziJ s=some x):s=zsJ x:=zx (o:=zq1 s) h
def ziT:q1→(Ex→St→Ans)→zjU→Ans:=fun (o0_0,o0_1) K=>(Sum.elim (fun _=>K (Ex.ret) { env:=[(2,.int .i64 (2))],stk:=[[(0,.ptr 0 0)]],H:=[.cells [.str o0_0,.int .i64 o0_1]],blk:=393216 }) (fun _=>K (Ex.norm) { env:=[(0,.ptr 0 0)],stk:=[[(0,.ptr 0 0)]],H:=[.cells [.str o0_0,.int .i64 o0_1]],blk:=393216 }))
def Ja {β:Type}:q1→(zjU→Option β)→Option β:=fun (o0_0,o0_1) exit=>(za (Wu (o0_0,o0_1)) fun t6=>(bif t6 then (exit (Sum.inl ())) else (exit (Sum.inr ()))))
def Wz (i:q1):Option zjU:=Ja i some
theorem ztG (i:q1) (k:zjU→Ans):Ja i k=za (Wz i) k:=by
  obtain ⟨o0_0,o0_1⟩:=i
  simp only [Wz,Ja,zj,zg,zl,zc,zi,zm,zh]
theorem zxC (i:q1) (K:Ex→St→Ans):zA Tryz.tab zes zf (zD Tryz.tab zes zf 0 64) 70 23 zqV zkt (zH 1 (exk [0] [2] []) K) (zsJ i)=Ja i (ziT i K):=by kernel_rfl
theorem zDv:zy Tryz.prog 23 zkt (zG ziJ Wz ziT):=zB mixed tabOk znS 1 (exk [0] [2] []) zxd zA2 zxC ztG
noncomputable def zGY:(Ex→St→Ans)→St→Ans:=(zG ziJ Wz ziT)
theorem zJU:zy Tryz.prog 23 zkt zGY:=zDv
noncomputable def zK7:Ann:=(.seq .none (.seq (.cut 1 [0] zGY) .none))
theorem zK5:zr Tryz.prog 23 zI7 zK7:=⟨(zb _ _ _),⟨zJU,(zb _ _ _)⟩⟩
abbrev zdO:=(List UInt8)×(Int)
abbrev zJw:=(Int)
def zqL {β:Type}:zdO→(zJw→Option β)→Option β:=fun (o0_0,o0_1) exit=>(za (Wz (o0_0,o0_1)) (Sum.elim (fun _=>(exit ((2:Int)))) (fun _=>(exit (o0_1)))))
def zcF (a:zdO):Option zJw:=zqL a some
theorem zON (a:zdO) (k:zJw→Ans):zqL a k=za (zcF a) k:=by
  obtain ⟨o0_0,o0_1⟩:=a
  simp only [zcF,zqL,zj,zg,zl,zc,zi,zm,zh]
def zjK:zdO→List AV×List AE.Obj:=fun (o0_0,o0_1)=>([.ptr 0 0],[.cells [.str o0_0,.int .i64 o0_1]])
def zCs (l:List AV) (H:List AE.Obj):Option {a:zdO // (l,H)=zjK a}:=match l,H with
  | [.ptr 0 0],[.cells [.str o0_0,.int .i64 o0_1]]=>some ⟨(o0_0,o0_1),rfl⟩
  | _,_=>none
def zGx (l:List AV) (H:List AE.Obj):Option zdO:=pk (zCs l H)
theorem zI8 (l:List AV) (H:List AE.Obj) (a:zdO) (h:zGx l H=some a):(l,H)=zjK a:=zx (o:=zCs l H) h
def zOP:zdO→(AV→List AE.Obj→Ans)→zJw→Ans:=fun (o0_0,o0_1) K=>fun r_y=>K (.int .i64 r_y) [.cells [.str o0_0,.int .i64 o0_1]]
theorem zQW (a:zdO) (K:AV→List AE.Obj→Ans):fnE Tryz.tab zes zf 0 70 96 Tryz.f96.ntmps Tryz.f96.results.toList zK7 zI7 (zjK a).1 (zjK a).2 K=zqL a (zOP a K):=by kernel_rfl
def zVV (a:zdO) (K:AV→List AE.Obj→Ans):Ans:=za (zcF a) fun y=>zOP a K y
def zIE:List AV→List AE.Obj→(AV→List AE.Obj→Ans)→Ans:=fun l H K=>za (zGx l H) fun a=>zVV a K
theorem ztp:zP Tryz.prog 96 zIE:=ZN (hint:=zf) (d:=0) (n:=70) mixed tabOk znS Tryz.func96 (zI (by kernel_rfl)) (by decide +kernel) zK5 zI8 zQW zON
--@ cyclic_New
noncomputable def zSu:Env:=[]
theorem zSB:zd Tryz.prog zSu:=zd.nil
noncomputable def bq0:Code:=Tryz.f139.body.getD .skip
noncomputable def zR8:Ann := .none
theorem zRS:zr Tryz.prog 3 bq0 zR8:=(zb _ _ _)
abbrev Aq0:=Unit
abbrev Yq0:=Unit
def zCe {β:Type}:Aq0→(Yq0→Option β)→Option β:=fun _ exit=>(exit ())
def zrY (a:Aq0):Option Yq0:=zCe a some
theorem zQl (a:Aq0) (k:Yq0→Ans):zCe a k=za (zrY a) k:=by
  obtain z:=a
  simp only [zrY,zCe,zj,zg,zl,zc,zi,zm,zh]
def zqS:Aq0→List AV×List AE.Obj:=fun _=>([],[])
def zEy (l:List AV) (H:List AE.Obj):Option {a:Aq0 // (l,H)=zqS a}:=match l,H with
  | [],[]=>some ⟨(),rfl⟩
  | _,_=>none
def zOi (l:List AV) (H:List AE.Obj):Option Aq0:=pk (zEy l H)
theorem zOX (l:List AV) (H:List AE.Obj) (a:Aq0) (h:zOi l H=some a):(l,H)=zqS a:=zx (o:=zEy l H) h
def zSm:Aq0→(AV→List AE.Obj→Ans)→Yq0→Ans:=fun _ K=>fun _=>K (.ptr 0 0) [.cells [.int .u32 (0)]]
theorem zTd (a:Aq0) (K:AV→List AE.Obj→Ans):fnE Tryz.tab zSu zf 0 70 139 Tryz.f139.ntmps Tryz.f139.results.toList zR8 bq0 (zqS a).1 (zqS a).2 K=zCe a (zSm a K):=by kernel_rfl
def zWm (a:Aq0) (K:AV→List AE.Obj→Ans):Ans:=za (zrY a) fun y=>zSm a K y
def Fq0:List AV→List AE.Obj→(AV→List AE.Obj→Ans)→Ans:=fun l H K=>za (zOi l H) fun a=>zWm a K
theorem zOc:zP Tryz.prog 139 Fq0:=ZN (hint:=zf) (d:=0) (n:=70) mixed tabOk zSB Tryz.func139 (zI (by kernel_rfl)) (by decide +kernel) zRS zOX zTd zQl
--@ cyclic_step
noncomputable def zk1:Env:=[]
theorem zGu:zd Tryz.prog zk1:=zd.nil
noncomputable def bq5:Code:=Tryz.f179.body.getD .skip
noncomputable def zit:Code:=zL [1,1,0,1,0,0] bq5
noncomputable def zi5:Ann := .at 0 [0,9] (.loop .none)
theorem zBJ:zr Tryz.prog 20 (.loop zit) zi5:=yG (zb _ _ _)
abbrev Jk:=Unit
abbrev zoJ:=(Int)
abbrev ql:=(Int)×(Int)
def zn3:Jk→ql→St:=fun _ (t0,t9)=>{ env:=[(0,.int .u32 t0),(9,.int .i64 t9)],stk:=[[]],H:=[],blk:=733184 }
def zv6 (s:St):Option {x:Jk×ql // s=zn3 x.1 x.2}:=match s with
  | { env:=[(0,.int .u32 t0),(9,.int .i64 t9)],stk:=[[]],H:=[],blk:=733184 }=>some ⟨((),(t0,t9)),rfl⟩
  | _=>none
def zmP (s:St):Option (Jk×ql):=pk (zv6 s)
theorem zDM (s:St) (x:Jk×ql) (h:zmP s=some x):s=zn3 x.1 x.2:=zx (o:=zv6 s) h
def znL:Jk→(Ex→St→Ans)→zoJ→Ans:=fun _ K=>fun t0_y=>K (Ex.exit 0) { env:=[(0,.int .u32 t0_y)],stk:=[[]],H:=[],blk:=733184 }
def jC {β:Type}:Jk→ql→(ql→Option β)→(zoJ→Option β)→Option β:=fun _ (t0,t9) next exit=>(bif decide (t9<(8:Int)) then (next (IntKind.wrap .u32 (↑(Int.toNat (Int.fdiv t0 (2:Int) % (4294967296:Int)) ^^^ Int.toNat (IntKind.wrap .u32 (↑((3988292384:Nat) &&& Int.toNat (IntKind.wrap .u32 ((0:Int) - IntKind.wrap .u32 (↑(Int.toNat (t0 % (4294967296:Int)) &&& (1:Nat)):Int)) % (4294967296:Int))):Int) % (4294967296:Int))):Int),IntKind.wrap .i64 (t9+(1:Int)))) else (exit (t0)))
def YO (i:Jk) (v:ql):Option (ql ⊕ zoJ):=jC i v (fun v=>some (.inl v)) (fun y=>some (.inr y))
theorem zxS (i:Jk) (v:ql) (next:ql→Ans) (exit:zoJ→Ans):jC i v next exit=za (YO i v) (Sum.elim next exit):=by
  obtain z:=i
  obtain ⟨t0,t9⟩:=v
  simp only [YO,jC,zj,zg,zl,zc,zi,zm,zh,Sum.elim_inl,Sum.elim_inr]
theorem zzK (n:Nat) (i:Jk) (v:ql) (K:Ex→St→Ans):zA Tryz.tab zk1 zf (zD Tryz.tab zk1 zf 0 64) (n+1) 20 zi5 (.loop zit) (zH 0 (exk [0] [4] [(0,[0])]) K) (zn3 i v)=jC i v (fun v'=>zA Tryz.tab zk1 zf (zD Tryz.tab zk1 zf 0 64) n 20 zi5 (.loop zit) (zH 0 (exk [0] [4] [(0,[0])]) K) (zn3 i v')) (fun y=>znL i K y):=by kernel_rfl
theorem zIz:zy Tryz.prog 20 (.loop zit) (y9 zmP YO znL):=yQ mixed tabOk zGu 0 (exk [0] [4] [(0,[0])]) zBJ zDM zzK zxS
noncomputable def zNd:(Ex→St→Ans)→St→Ans:=(y9 zmP YO znL)
theorem zOU:zy Tryz.prog 20 (.loop zit) zNd:=zIz
noncomputable def zSp:Ann:=(.seq .none (.seq .none (.seq (.seq .none (.block (.cut 0 [0,9] zNd))) .none)))
theorem zPi:zr Tryz.prog 20 bq5 zSp:=⟨(zb _ _ _),⟨(zb _ _ _),⟨⟨(zb _ _ _),zOU⟩,(zb _ _ _)⟩⟩⟩
abbrev Aq5:=(Int)×(Int)
abbrev Yq5:=(Int)
def zz3 {β:Type}:Aq5→(Yq5→Option β)→Option β:=fun (a0,a1) exit=>(za (zZ (YO ()) Zo (IntKind.wrap .u32 (↑(Int.toNat (a0 % (4294967296:Int)) ^^^ Int.toNat (IntKind.wrap .u32 a1 % (4294967296:Int))):Int),(0:Int))) fun t0=>(exit (t0)))
def zkl (a:Aq5):Option Yq5:=zz3 a some
theorem zQc (a:Aq5) (k:Yq5→Ans):zz3 a k=za (zkl a) k:=by
  obtain ⟨a0,a1⟩:=a
  simp only [zkl,zz3,zj,zg,zl,zc,zi,zm,zh]
def zAT:Aq5→List AV:=fun (a0,a1)=>[.int .u32 a0,.int .u8 a1]
def zF3 (l:List AV):Option {a:Aq5 // l=zAT a}:=match l with
  | [.int .u32 a0,.int .u8 a1]=>some ⟨(a0,a1),rfl⟩
  | _=>none
def zL6 (l:List AV):Option Aq5:=pk (zF3 l)
theorem zNw (l:List AV) (a:Aq5) (h:zL6 l=some a):l=zAT a:=zx (o:=zF3 l) h
def zzP:Aq5→Yq5→AV:=fun (a0,a1)=>fun r_y => .int .u32 r_y
theorem zMk : ∀(a:Aq5) (y:Yq5),(zzP a y).closed1=true:=by
  rintro ⟨a0,a1⟩ y <;> first | rfl | exact Empty.elim y
theorem zSE (a:Aq5):fnE Tryz.tab zk1 zf 0 70 179 Tryz.f179.ntmps Tryz.f179.results.toList zSp bq5 (zAT a) [] (fun v _=>some (v,[]))=zz3 a (fun y=>some (zzP a y,[])):=by kernel_rfl
def zWb (a:Aq5) (K:AV→Ans):Ans:=za (zkl a) fun y=>K (zzP a y)
def Fq5:List AV→(AV→Ans)→Ans:=fun l K=>za (zL6 l) fun a=>zWb a K
theorem zNc:zV Tryz.prog 179 Fq5:=zX (hint:=zf) (d:=0) (n:=70) mixed tabOk zGu Tryz.func179 (zI (by kernel_rfl)) (by decide +kernel) zPi zNw zSE zQc zMk
--@ cyclic_State_Add
noncomputable def zkq:Env:=[(179,.pure Fq5)]
theorem zGm:zd Tryz.prog zkq:=zd.cons zNc (zd.nil)
noncomputable def bq2:Code:=Tryz.f140.body.getD .skip
noncomputable def zjr:Code:=zL [1,1,0,1,0,0] bq2
noncomputable def zg8:Ann := .at 1 [0,1,4,14,15] (.loop .none)
theorem zCc:zr Tryz.prog 29 (.loop zjr) zg8:=yG (zb _ _ _)
abbrev jJ:=(List UInt8)×(Int)×(Int)
abbrev zot:=(Int)
abbrev qf:=(Int)×(Int)
def zqY:jJ→qf→St:=fun (t1,t14,o0_0) (t4,t15)=>{ env:=[(0,.ptr 0 0),(1,.str t1),(4,.int .u32 t4),(14,.int .i64 t14),(15,.int .i64 t15)],stk:=[[(0,.ptr 0 0)]],H:=[.cells [.int .u32 o0_0]],blk:=573440 }
def zvK (s:St):Option {x:jJ×qf // s=zqY x.1 x.2}:=match s with
  | { env:=[(0,.ptr 0 0),(1,.str t1),(4,.int .u32 t4),(14,.int .i64 t14),(15,.int .i64 t15)],stk:=[[(0,.ptr 0 0)]],H:=[.cells [.int .u32 o0_0]],blk:=573440 }=>some ⟨((t1,t14,o0_0),(t4,t15)),rfl⟩
  | _=>none
def zna (s:St):Option (jJ×qf):=pk (zvK s)
theorem zDO (s:St) (x:jJ×qf) (h:zna s=some x):s=zqY x.1 x.2:=zx (o:=zvK s) h
def zmV:jJ→(Ex→St→Ans)→zot→Ans:=fun (t1,t14,o0_0) K=>fun t4_y=>K (Ex.exit 0) { env:=[(0,.ptr 0 0),(4,.int .u32 t4_y)],stk:=[[(0,.ptr 0 0)]],H:=[.cells [.int .u32 o0_0]],blk:=573440 }
def ju {β:Type}:jJ→qf→(qf→Option β)→(zot→Option β)→Option β:=fun (t1,t14,o0_0) (t4,t15) next exit=>(bif decide (t15<t14) then (za (nth t1 t15) fun x=>(za (zkl (t4,(↑(UInt8.toNat x):Int))) fun r=>(next (r,IntKind.wrap .i64 (t15+(1:Int)))))) else (exit (t4)))
def Yb (i:jJ) (v:qf):Option (qf ⊕ zot):=ju i v (fun v=>some (.inl v)) (fun y=>some (.inr y))
theorem zwu (i:jJ) (v:qf) (next:qf→Ans) (exit:zot→Ans):ju i v next exit=za (Yb i v) (Sum.elim next exit):=by
  obtain ⟨t1,t14,o0_0⟩:=i
  obtain ⟨t4,t15⟩:=v
  simp only [Yb,ju,zj,zg,zl,zc,zi,zm,zh,Sum.elim_inl,Sum.elim_inr]
theorem zCa (n:Nat) (i:jJ) (v:qf) (K:Ex→St→Ans):zA Tryz.tab zkq zf (zD Tryz.tab zkq zf 0 64) (n+1) 29 zg8 (.loop zjr) (zH 1 (exk [0,4] [] [(0,[0,4])]) K) (zqY i v)=ju i v (fun v'=>zA Tryz.tab zkq zf (zD Tryz.tab zkq zf 0 64) n 29 zg8 (.loop zjr) (zH 1 (exk [0,4] [] [(0,[0,4])]) K) (zqY i v')) (fun y=>zmV i K y):=by kernel_rfl
theorem zKt:zy Tryz.prog 29 (.loop zjr) (y9 zna Yb zmV):=yQ mixed tabOk zGm 1 (exk [0,4] [] [(0,[0,4])]) zCc zDO zCa zwu
noncomputable def zNb:(Ex→St→Ans)→St→Ans:=(y9 zna Yb zmV)
theorem zOd:zy Tryz.prog 29 (.loop zjr) zNb:=zKt
noncomputable def zSl:Ann:=(.seq .none (.seq .none (.seq (.seq .none (.block (.cut 1 [0,1,4,14,15] zNb))) .none)))
theorem zRE:zr Tryz.prog 29 bq2 zSl:=⟨(zb _ _ _),⟨(zb _ _ _),⟨⟨(zb _ _ _),zOd⟩,(zb _ _ _)⟩⟩⟩
abbrev Aq2:=(List UInt8)×(Int)
abbrev Yq2:=(Int)
def zBB {β:Type}:Aq2→(Yq2→Option β)→Option β:=fun (a1,o0_0) exit=>(za (zZ (Yb (a1,(↑(List.length a1):Int),o0_0)) Zo (IntKind.wrap .u32 (↑(Int.toNat (o0_0 % (4294967296:Int)) ^^^ (4294967295:Nat)):Int),(0:Int))) fun t4=>(exit (IntKind.wrap .u32 (↑(Int.toNat (t4 % (4294967296:Int)) ^^^ (4294967295:Nat)):Int))))
def zq3 (a:Aq2):Option Yq2:=zBB a some
theorem zRf (a:Aq2) (k:Yq2→Ans):zBB a k=za (zq3 a) k:=by
  obtain ⟨a1,o0_0⟩:=a
  simp only [zq3,zBB,zj,zg,zl,zc,zi,zm,zh]
def zrM:Aq2→List AV×List AE.Obj:=fun (a1,o0_0)=>([.ptr 0 0,.str a1],[.cells [.int .u32 o0_0]])
def zGC (l:List AV) (H:List AE.Obj):Option {a:Aq2 // (l,H)=zrM a}:=match l,H with
  | [.ptr 0 0,.str a1],[.cells [.int .u32 o0_0]]=>some ⟨(a1,o0_0),rfl⟩
  | _,_=>none
def zND (l:List AV) (H:List AE.Obj):Option Aq2:=pk (zGC l H)
theorem zMb (l:List AV) (H:List AE.Obj) (a:Aq2) (h:zND l H=some a):(l,H)=zrM a:=zx (o:=zGC l H) h
def zSn:Aq2→(AV→List AE.Obj→Ans)→Yq2→Ans:=fun (a1,o0_0) K=>fun o0_0_y=>K (.tup []) [.cells [.int .u32 o0_0_y]]
theorem zTj (a:Aq2) (K:AV→List AE.Obj→Ans):fnE Tryz.tab zkq zf 0 70 140 Tryz.f140.ntmps Tryz.f140.results.toList zSl bq2 (zrM a).1 (zrM a).2 K=zBB a (zSn a K):=by kernel_rfl
def zWj (a:Aq2) (K:AV→List AE.Obj→Ans):Ans:=za (zq3 a) fun y=>zSn a K y
def Fq2:List AV→List AE.Obj→(AV→List AE.Obj→Ans)→Ans:=fun l H K=>za (zND l H) fun a=>zWj a K
theorem zN2:zP Tryz.prog 140 Fq2:=ZN (hint:=zf) (d:=0) (n:=70) mixed tabOk zGm Tryz.func140 (zI (by kernel_rfl)) (by decide +kernel) zRE zMb zTj zRf
--@ cyclic_State_Sum
noncomputable def zSx:Env:=[]
theorem zSL:zd Tryz.prog zSx:=zd.nil
noncomputable def bq3:Code:=Tryz.f141.body.getD .skip
noncomputable def zSd:Ann := .none
theorem zRT:zr Tryz.prog 10 bq3 zSd:=(zb _ _ _)
abbrev Aq3:=(Int)
abbrev Yq3:=(Int)
def zCx {β:Type}:Aq3→(Yq3→Option β)→Option β:=fun o0_0 exit=>(exit (IntKind.wrap .i64 o0_0))
def zoN (a:Aq3):Option Yq3:=zCx a some
theorem zQa (a:Aq3) (k:Yq3→Ans):zCx a k=za (zoN a) k:=by
  obtain z:=a
  simp only [zoN,zCx,zj,zg,zl,zc,zi,zm,zh]
def zru:Aq3→List AV×List AE.Obj:=fun o0_0=>([.ptr 0 0],[.cells [.int .u32 o0_0]])
def zGK (l:List AV) (H:List AE.Obj):Option {a:Aq3 // (l,H)=zru a}:=match l,H with
  | [.ptr 0 0],[.cells [.int .u32 o0_0]]=>some ⟨(o0_0),rfl⟩
  | _,_=>none
def zLW (l:List AV) (H:List AE.Obj):Option Aq3:=pk (zGK l H)
theorem zLp (l:List AV) (H:List AE.Obj) (a:Aq3) (h:zLW l H=some a):(l,H)=zru a:=zx (o:=zGK l H) h
def zSg:Aq3→(AV→List AE.Obj→Ans)→Yq3→Ans:=fun o0_0 K=>fun r_y=>K (.int .i64 r_y) [.cells [.int .u32 o0_0]]
theorem zTx (a:Aq3) (K:AV→List AE.Obj→Ans):fnE Tryz.tab zSx zf 0 70 141 Tryz.f141.ntmps Tryz.f141.results.toList zSd bq3 (zru a).1 (zru a).2 K=zCx a (zSg a K):=by kernel_rfl
def zWc (a:Aq3) (K:AV→List AE.Obj→Ans):Ans:=za (zoN a) fun y=>zSg a K y
def Fq3:List AV→List AE.Obj→(AV→List AE.Obj→Ans)→Ans:=fun l H K=>za (zLW l H) fun a=>zWc a K
theorem zNt:zP Tryz.prog 141 Fq3:=ZN (hint:=zf) (d:=0) (n:=70) mixed tabOk zSL Tryz.func141 (zI (by kernel_rfl)) (by decide +kernel) zRT zLp zTx zQa
--@ cyclic_Of
noncomputable def zR9:Env:=[(139,.func Fq0),(140,.func Fq2),(141,.func Fq3)]
theorem zSS:zd Tryz.prog zR9:=zd.cons zOc (zd.cons zN2 (zd.cons zNt (zd.nil)))
noncomputable def bq1:Code:=Tryz.f93.body.getD .skip
noncomputable def zSj:Ann := .none
theorem zPH:zr Tryz.prog 10 bq1 zSj:=(zb _ _ _)
abbrev Aq1:=(List UInt8)
abbrev Yq1:=(Int)
def zBC {β:Type}:Aq1→(Yq1→Option β)→Option β:=fun a0 exit=>(za (zrY ()) fun _=>(za (zq3 (a0,(0:Int))) fun o0_0=>(za (zoN (o0_0)) fun r=>(exit (r)))))
def zll (a:Aq1):Option Yq1:=zBC a some
theorem zPL (a:Aq1) (k:Yq1→Ans):zBC a k=za (zll a) k:=by
  obtain z:=a
  simp only [zll,zBC,zj,zg,zl,zc,zi,zm,zh]
def zyU:Aq1→List AV:=fun a0=>[.str a0]
def zEZ (l:List AV):Option {a:Aq1 // l=zyU a}:=match l with
  | [.str a0]=>some ⟨(a0),rfl⟩
  | _=>none
def zOz (l:List AV):Option Aq1:=pk (zEZ l)
theorem zM7 (l:List AV) (a:Aq1) (h:zOz l=some a):l=zyU a:=zx (o:=zEZ l) h
def zyW:Aq1→Yq1→AV:=fun a0=>fun r_y => .int .i64 r_y
theorem zOt : ∀(a:Aq1) (y:Yq1),(zyW a y).closed1=true:=by
  rintro z y <;> first | rfl | exact Empty.elim y
theorem zST (a:Aq1):fnE Tryz.tab zR9 zf 0 70 93 Tryz.f93.ntmps Tryz.f93.results.toList zSj bq1 (zyU a) [] (fun v _=>some (v,[]))=zBC a (fun y=>some (zyW a y,[])):=by kernel_rfl
def zWk (a:Aq1) (K:AV→Ans):Ans:=za (zll a) fun y=>K (zyW a y)
def Fq1:List AV→(AV→Ans)→Ans:=fun l K=>za (zOz l) fun a=>zWk a K
theorem zMY:zV Tryz.prog 93 Fq1:=zX (hint:=zf) (d:=0) (n:=70) mixed tabOk zSS Tryz.func93 (zI (by kernel_rfl)) (by decide +kernel) zPH zM7 zST zPL zOt
--@ cyclic_Tail
noncomputable def W3:Env:=[(93,.pure Fq1)]
theorem zah:zd Tryz.prog W3:=zd.cons zMY (zd.nil)
noncomputable def bq4:Code:=Tryz.f52.body.getD .skip
noncomputable def Wh:Code:=zL [1,1,1,0,1,0,0] bq4
noncomputable def jp:Ann := .none
theorem qw:zr Tryz.prog 21 Wh jp:=(zb _ _ _)
abbrev jX:=(Int)×(Int)×(Int)×(Int)×(Int)
abbrev zoy:=Unit
def zAx:jX→St:=fun (t3,o0_0,o0_1,o0_2,o0_3)=>{ env:=[(3,.int .i64 t3),(4,.ptr 0 0),(8,.int .i64 (4))],stk:=[[]],H:=[.cells [.int .u8 o0_0,.int .u8 o0_1,.int .u8 o0_2,.int .u8 o0_3]],blk:=212992 }
def zvz (s:St):Option {x:jX // s=zAx x}:=match s with
  | { env:=[(3,.int .i64 t3),(4,.ptr 0 0),(8,.int .i64 r1)],stk:=[[]],H:=[.cells [.int .u8 o0_0,.int .u8 o0_1,.int .u8 o0_2,.int .u8 o0_3]],blk:=212992 }=>if h1:r1=4 then some ⟨(t3,o0_0,o0_1,o0_2,o0_3),by subst h1;rfl⟩ else none
  | _=>none
def zfw (s:St):Option jX:=pk (zvz s)
theorem zDB (s:St) (x:jX) (h:zfw s=some x):s=zAx x:=zx (o:=zvz s) h
def znn:jX→(Ex→St→Ans)→zoy→Ans:=fun (t3,o0_0,o0_1,o0_2,o0_3) K=>fun _=>K (Ex.exit 0) { env:=[(4,.ptr 0 0)],stk:=[[]],H:=[.cells [.int .u8 o0_0,.int .u8 o0_1,.int .u8 o0_2,.int .u8 o0_3]],blk:=212992 }
def za2 {β:Type}:jX→(zoy→Option β)→Option β:=fun (t3,o0_0,o0_1,o0_2,o0_3) exit=>(exit ())
def Qx (i:jX):Option zoy:=za2 i some
theorem zwe (i:jX) (k:zoy→Ans):za2 i k=za (Qx i) k:=by
  obtain ⟨t3,o0_0,o0_1,o0_2,o0_3⟩:=i
  simp only [Qx,za2,zj,zg,zl,zc,zi,zm,zh]
theorem zBj (i:jX) (K:Ex→St→Ans):zA Tryz.tab W3 zf (zD Tryz.tab W3 zf 0 64) 70 21 jp Wh (zH 0 (exk [3,4,8] [2] [(0,[4])]) K) (zAx i)=za2 i (znn i K):=by kernel_rfl
theorem zG2:zy Tryz.prog 21 Wh (zG zfw Qx znn):=zB mixed tabOk zah 0 (exk [3,4,8] [2] [(0,[4])]) qw zDB zBj zwe
abbrev w5:=(Int)×(Int)×(Int)×(Int)×(Int)
abbrev zgd:=(Int)
def zms:w5→St:=fun (t3,o0_0,o0_1,o0_2,o0_3)=>{ env:=[(3,.int .i64 t3),(4,.ptr 0 0),(8,.int .i64 (0))],stk:=[[]],H:=[.cells [.int .u8 o0_0,.int .u8 o0_1,.int .u8 o0_2,.int .u8 o0_3]],blk:=212992 }
def zl8 (s:St):Option {x:w5 // s=zms x}:=match s with
  | { env:=[(3,.int .i64 t3),(4,.ptr 0 0),(8,.int .i64 r1)],stk:=[[]],H:=[.cells [.int .u8 o0_0,.int .u8 o0_1,.int .u8 o0_2,.int .u8 o0_3]],blk:=212992 }=>if h1:r1=0 then some ⟨(t3,o0_0,o0_1,o0_2,o0_3),by subst h1;rfl⟩ else none
  | _=>none
def zbo (s:St):Option w5:=pk (zl8 s)
theorem zxR (s:St) (x:w5) (h:zbo s=some x):s=zms x:=zx (o:=zl8 s) h
def zfJ:w5→(Ex→St→Ans)→zgd→Ans:=fun (t3,o0_0,o0_1,o0_2,o0_3) K=>fun o0_0_y=>K (Ex.norm) { env:=[(3,.int .i64 t3),(4,.ptr 0 0),(8,.int .i64 (1))],stk:=[[]],H:=[.cells [.int .u8 o0_0_y,.int .u8 o0_1,.int .u8 o0_2,.int .u8 o0_3]],blk:=212993 }
def Q4 {β:Type}:w5→(zgd→Option β)→Option β:=fun (t3,o0_0,o0_1,o0_2,o0_3) exit=>(exit (IntKind.wrap .u8 (Int.fdiv t3 (1:Int))))
def wo (i:w5):Option zgd:=Q4 i some
theorem zoM (i:w5) (k:zgd→Ans):Q4 i k=za (wo i) k:=by
  obtain ⟨t3,o0_0,o0_1,o0_2,o0_3⟩:=i
  simp only [wo,Q4,zj,zg,zl,zc,zi,zm,zh]
theorem zs0 (i:w5) (K:Ex→St→Ans):zA Tryz.tab W3 zf (zD Tryz.tab W3 zf 0 64) 70 21 jp Wh (zH 0 (exk [3,4,8] [2] [(0,[4])]) K) (zms i)=Q4 i (zfJ i K):=by kernel_rfl
theorem zA6:zy Tryz.prog 21 Wh (zG zbo wo zfJ):=zB mixed tabOk zah 0 (exk [3,4,8] [2] [(0,[4])]) qw zxR zs0 zoM
abbrev wQ:=(Int)×(Int)×(Int)×(Int)×(Int)
abbrev zfH:=(Int)
def znz:wQ→St:=fun (t3,o0_0,o0_1,o0_2,o0_3)=>{ env:=[(3,.int .i64 t3),(4,.ptr 0 0),(8,.int .i64 (1))],stk:=[[]],H:=[.cells [.int .u8 o0_0,.int .u8 o0_1,.int .u8 o0_2,.int .u8 o0_3]],blk:=212992 }
def zmi (s:St):Option {x:wQ // s=znz x}:=match s with
  | { env:=[(3,.int .i64 t3),(4,.ptr 0 0),(8,.int .i64 r1)],stk:=[[]],H:=[.cells [.int .u8 o0_0,.int .u8 o0_1,.int .u8 o0_2,.int .u8 o0_3]],blk:=212992 }=>if h1:r1=1 then some ⟨(t3,o0_0,o0_1,o0_2,o0_3),by subst h1;rfl⟩ else none
  | _=>none
def zbB (s:St):Option wQ:=pk (zmi s)
theorem zw9 (s:St) (x:wQ) (h:zbB s=some x):s=znz x:=zx (o:=zmi s) h
def zga:wQ→(Ex→St→Ans)→zfH→Ans:=fun (t3,o0_0,o0_1,o0_2,o0_3) K=>fun o0_1_y=>K (Ex.norm) { env:=[(3,.int .i64 t3),(4,.ptr 0 0),(8,.int .i64 (2))],stk:=[[]],H:=[.cells [.int .u8 o0_0,.int .u8 o0_1_y,.int .u8 o0_2,.int .u8 o0_3]],blk:=212993 }
def Q0 {β:Type}:wQ→(zfH→Option β)→Option β:=fun (t3,o0_0,o0_1,o0_2,o0_3) exit=>(exit (IntKind.wrap .u8 (Int.fdiv t3 (256:Int))))
def wp (i:wQ):Option zfH:=Q0 i some
theorem zqT (i:wQ) (k:zfH→Ans):Q0 i k=za (wp i) k:=by
  obtain ⟨t3,o0_0,o0_1,o0_2,o0_3⟩:=i
  simp only [wp,Q0,zj,zg,zl,zc,zi,zm,zh]
theorem ztv (i:wQ) (K:Ex→St→Ans):zA Tryz.tab W3 zf (zD Tryz.tab W3 zf 0 64) 70 21 jp Wh (zH 0 (exk [3,4,8] [2] [(0,[4])]) K) (znz i)=Q0 i (zga i K):=by kernel_rfl
theorem zAu:zy Tryz.prog 21 Wh (zG zbB wp zga):=zB mixed tabOk zah 0 (exk [3,4,8] [2] [(0,[4])]) qw zw9 ztv zqT
abbrev wU:=(Int)×(Int)×(Int)×(Int)×(Int)
abbrev zfu:=(Int)
def znJ:wU→St:=fun (t3,o0_0,o0_1,o0_2,o0_3)=>{ env:=[(3,.int .i64 t3),(4,.ptr 0 0),(8,.int .i64 (2))],stk:=[[]],H:=[.cells [.int .u8 o0_0,.int .u8 o0_1,.int .u8 o0_2,.int .u8 o0_3]],blk:=212992 }
def zl1 (s:St):Option {x:wU // s=znJ x}:=match s with
  | { env:=[(3,.int .i64 t3),(4,.ptr 0 0),(8,.int .i64 r1)],stk:=[[]],H:=[.cells [.int .u8 o0_0,.int .u8 o0_1,.int .u8 o0_2,.int .u8 o0_3]],blk:=212992 }=>if h1:r1=2 then some ⟨(t3,o0_0,o0_1,o0_2,o0_3),by subst h1;rfl⟩ else none
  | _=>none
def zbn (s:St):Option wU:=pk (zl1 s)
theorem zxA (s:St) (x:wU) (h:zbn s=some x):s=znJ x:=zx (o:=zl1 s) h
def zgh:wU→(Ex→St→Ans)→zfu→Ans:=fun (t3,o0_0,o0_1,o0_2,o0_3) K=>fun o0_2_y=>K (Ex.norm) { env:=[(3,.int .i64 t3),(4,.ptr 0 0),(8,.int .i64 (3))],stk:=[[]],H:=[.cells [.int .u8 o0_0,.int .u8 o0_1,.int .u8 o0_2_y,.int .u8 o0_3]],blk:=212993 }
def QV {β:Type}:wU→(zfu→Option β)→Option β:=fun (t3,o0_0,o0_1,o0_2,o0_3) exit=>(exit (IntKind.wrap .u8 (Int.fdiv t3 (65536:Int))))
def wl (i:wU):Option zfu:=QV i some
theorem zrN (i:wU) (k:zfu→Ans):QV i k=za (wl i) k:=by
  obtain ⟨t3,o0_0,o0_1,o0_2,o0_3⟩:=i
  simp only [wl,QV,zj,zg,zl,zc,zi,zm,zh]
theorem zur (i:wU) (K:Ex→St→Ans):zA Tryz.tab W3 zf (zD Tryz.tab W3 zf 0 64) 70 21 jp Wh (zH 0 (exk [3,4,8] [2] [(0,[4])]) K) (znJ i)=QV i (zgh i K):=by kernel_rfl
theorem zzO:zy Tryz.prog 21 Wh (zG zbn wl zgh):=zB mixed tabOk zah 0 (exk [3,4,8] [2] [(0,[4])]) qw zxA zur zrN
abbrev wT:=(Int)×(Int)×(Int)×(Int)×(Int)
abbrev zgp:=(Int)
def zmH:wT→St:=fun (t3,o0_0,o0_1,o0_2,o0_3)=>{ env:=[(3,.int .i64 t3),(4,.ptr 0 0),(8,.int .i64 (3))],stk:=[[]],H:=[.cells [.int .u8 o0_0,.int .u8 o0_1,.int .u8 o0_2,.int .u8 o0_3]],blk:=212992 }
def zl7 (s:St):Option {x:wT // s=zmH x}:=match s with
  | { env:=[(3,.int .i64 t3),(4,.ptr 0 0),(8,.int .i64 r1)],stk:=[[]],H:=[.cells [.int .u8 o0_0,.int .u8 o0_1,.int .u8 o0_2,.int .u8 o0_3]],blk:=212992 }=>if h1:r1=3 then some ⟨(t3,o0_0,o0_1,o0_2,o0_3),by subst h1;rfl⟩ else none
  | _=>none
def zfS (s:St):Option wT:=pk (zl7 s)
theorem zwx (s:St) (x:wT) (h:zfS s=some x):s=zmH x:=zx (o:=zl7 s) h
def zfP:wT→(Ex→St→Ans)→zgp→Ans:=fun (t3,o0_0,o0_1,o0_2,o0_3) K=>fun o0_3_y=>K (Ex.norm) { env:=[(3,.int .i64 t3),(4,.ptr 0 0),(8,.int .i64 (4))],stk:=[[]],H:=[.cells [.int .u8 o0_0,.int .u8 o0_1,.int .u8 o0_2,.int .u8 o0_3_y]],blk:=212993 }
def QY {β:Type}:wT→(zgp→Option β)→Option β:=fun (t3,o0_0,o0_1,o0_2,o0_3) exit=>(exit (IntKind.wrap .u8 (Int.fdiv t3 (16777216:Int))))
def wF (i:wT):Option zgp:=QY i some
theorem zrt (i:wT) (k:zgp→Ans):QY i k=za (wF i) k:=by
  obtain ⟨t3,o0_0,o0_1,o0_2,o0_3⟩:=i
  simp only [wF,QY,zj,zg,zl,zc,zi,zm,zh]
theorem zsB (i:wT) (K:Ex→St→Ans):zA Tryz.tab W3 zf (zD Tryz.tab W3 zf 0 64) 70 21 jp Wh (zH 0 (exk [3,4,8] [2] [(0,[4])]) K) (zmH i)=QY i (zfP i K):=by kernel_rfl
theorem zBM:zy Tryz.prog 21 Wh (zG zfS wF zfP):=zB mixed tabOk zah 0 (exk [3,4,8] [2] [(0,[4])]) qw zwx zsB zrt
noncomputable def zMj:(Ex→St→Ans)→St→Ans:=(ji zfw (zG zfw Qx znn) (ji zbo (zG zbo wo zfJ) (ji zbB (zG zbB wp zga) (ji zbn (zG zbn wl zgh) (zG zfS wF zfP)))))
theorem zOC:zy Tryz.prog 21 Wh zMj:=(yd zG2 (yd zA6 (yd zAu (yd zzO zBM))))
noncomputable def zpR:Code:=zL [1,1,1,0,1] bq4
noncomputable def zvC:Ann:=(.block (.at 0 [3,4,8] (.loop (.cut 0 [3,4,8] zMj))))
theorem zyP:zr Tryz.prog 21 zpR zvC:=(yG zOC)
abbrev JG:=(Int)
abbrev zoR:=(Int)×(Int)×(Int)×(Int)
def zzt:JG→St:=fun t3=>{ env:=[(3,.int .i64 t3),(4,.ptr 0 0),(8,.int .i64 (0))],stk:=[[]],H:=[.cells [.int .u8 (0),.int .u8 (0),.int .u8 (0),.int .u8 (0)]],blk:=212992 }
def zvJ (s:St):Option {x:JG // s=zzt x}:=match s with
  | { env:=[(3,.int .i64 t3),(4,.ptr 0 0),(8,.int .i64 r1)],stk:=[[]],H:=[.cells [.int .u8 r2,.int .u8 r3,.int .u8 r4,.int .u8 r5]],blk:=212992 }=>if h1:r1=0 then if h2:r2=0 then if h3:r3=0 then if h4:r4=0 then if h5:r5=0 then some ⟨(t3),by subst h1 h2 h3 h4 h5;rfl⟩ else none else none else none else none else none
  | _=>none
def zmm (s:St):Option JG:=pk (zvJ s)
theorem zDn (s:St) (x:JG) (h:zmm s=some x):s=zzt x:=zx (o:=zvJ s) h
def znb:JG→(Ex→St→Ans)→zoR→Ans:=fun t3 K=>unP fun o0_0_y=>unP fun o0_1_y=>unP fun o0_2_y o0_3_y=>K (Ex.norm) { env:=[(4,.ptr 0 0)],stk:=[[]],H:=[.cells [.int .u8 o0_0_y,.int .u8 o0_1_y,.int .u8 o0_2_y,.int .u8 o0_3_y]],blk:=212992 }
def zaM {β:Type}:JG→(zoR→Option β)→Option β:=fun t3 exit=>(za (wo (t3,(0:Int),(0:Int),(0:Int),(0:Int))) fun o0_0=>(za (wp (t3,o0_0,(0:Int),(0:Int),(0:Int))) fun o0_1=>(za (wl (t3,o0_0,o0_1,(0:Int),(0:Int))) fun o0_2=>(za (wF (t3,o0_0,o0_1,o0_2,(0:Int))) fun o0_3=>(za (Qx (t3,o0_0,o0_1,o0_2,o0_3)) fun _=>(exit (o0_0,o0_1,o0_2,o0_3)))))))
def q4 (i:JG):Option zoR:=zaM i some
theorem zx0 (i:JG) (k:zoR→Ans):zaM i k=za (q4 i) k:=by
  obtain z:=i
  simp only [q4,zaM,zj,zg,zl,zc,zi,zm,zh]
theorem zzB (i:JG) (K:Ex→St→Ans):zA Tryz.tab W3 zf (zD Tryz.tab W3 zf 0 64) 70 21 zvC zpR (zH 0 (exk [4] [2] []) K) (zzt i)=zaM i (znb i K):=by kernel_rfl
theorem zJg:zy Tryz.prog 21 zpR (zG zmm q4 znb):=zB mixed tabOk zah 0 (exk [4] [2] []) zyP zDn zzB zx0
noncomputable def zLQ:(Ex→St→Ans)→St→Ans:=(zG zmm q4 znb)
theorem zNF:zy Tryz.prog 21 zpR zLQ:=zJg
noncomputable def zSe:Ann:=(.seq .none (.seq .none (.seq .none (.seq (.seq .none (.cut 0 [3,4,8] zLQ)) .none))))
theorem zQU:zr Tryz.prog 21 bq4 zSe:=⟨(zb _ _ _),⟨(zb _ _ _),⟨(zb _ _ _),⟨⟨(zb _ _ _),zNF⟩,(zb _ _ _)⟩⟩⟩⟩
abbrev Aq4:=(List UInt8)
abbrev Yq4:=(List UInt8)
def zAH {β:Type}:Aq4→(Yq4→Option β)→Option β:=fun a0 exit=>(za (zll (a0)) fun r=>(za (q4 (r)) (unP fun o0_0=>unP fun o0_1=>unP fun o0_2 o0_3=>(exit (z6 [o0_0,o0_1,o0_2,o0_3])))))
def zap (a:Aq4):Option Yq4:=zAH a some
theorem zQs (a:Aq4) (k:Yq4→Ans):zAH a k=za (zap a) k:=by
  obtain z:=a
  simp only [zap,zAH,zj,zg,zl,zc,zi,zm,zh]
def zAB:Aq4→List AV:=fun a0=>[.str a0]
def zGz (l:List AV):Option {a:Aq4 // l=zAB a}:=match l with
  | [.str a0]=>some ⟨(a0),rfl⟩
  | _=>none
def zN8 (l:List AV):Option Aq4:=pk (zGz l)
theorem zN3 (l:List AV) (a:Aq4) (h:zN8 l=some a):l=zAB a:=zx (o:=zGz l) h
def zBY:Aq4→Yq4→AV:=fun a0=>fun r_y => .str r_y
theorem zNC : ∀(a:Aq4) (y:Yq4),(zBY a y).closed1=true:=by
  rintro z y <;> first | rfl | exact Empty.elim y
theorem zTt (a:Aq4):fnE Tryz.tab W3 zf 0 70 52 Tryz.f52.ntmps Tryz.f52.results.toList zSe bq4 (zAB a) [] (fun v _=>some (v,[]))=zAH a (fun y=>some (zBY a y,[])):=by kernel_rfl
def zWg (a:Aq4) (K:AV→Ans):Ans:=za (zap a) fun y=>K (zBY a y)
def Fq4:List AV→(AV→Ans)→Ans:=fun l K=>za (zN8 l) fun a=>zWg a K
theorem zeo:zV Tryz.prog 52 Fq4:=zX (hint:=zf) (d:=0) (n:=70) mixed tabOk zah Tryz.func52 (zI (by kernel_rfl)) (by decide +kernel) zQU zN3 zTt zQs zNC
--@ field_Reader_Left
noncomputable def zOj:Env:=[]
theorem zPJ:zd Tryz.prog zOj:=zd.nil
noncomputable def zUn:Code:=Tryz.f55.body.getD .skip
noncomputable def zNo:Ann := .none
theorem zL1:zr Tryz.prog 10 zUn zNo:=(zb _ _ _)
abbrev zec:=(List UInt8)×(Int)
abbrev zIi:=(Int)
def zfD {β:Type}:zec→(zIi→Option β)→Option β:=fun (o0_0,o0_1) exit=>(exit ((↑(List.length o0_0):Int)))
def zaV (a:zec):Option zIi:=zfD a some
theorem zLb (a:zec) (k:zIi→Ans):zfD a k=za (zaV a) k:=by
  obtain ⟨o0_0,o0_1⟩:=a
  simp only [zaV,zfD,zj,zg,zl,zc,zi,zm,zh]
def zlx:zec→List AV×List AE.Obj:=fun (o0_0,o0_1)=>([.ptr 0 0],[.cells [.str o0_0,.int .i64 o0_1]])
def zBZ (l:List AV) (H:List AE.Obj):Option {a:zec // (l,H)=zlx a}:=match l,H with
  | [.ptr 0 0],[.cells [.str o0_0,.int .i64 o0_1]]=>some ⟨(o0_0,o0_1),rfl⟩
  | _,_=>none
def zGO (l:List AV) (H:List AE.Obj):Option zec:=pk (zBZ l H)
theorem zHD (l:List AV) (H:List AE.Obj) (a:zec) (h:zGO l H=some a):(l,H)=zlx a:=zx (o:=zBZ l H) h
def zO1:zec→(AV→List AE.Obj→Ans)→zIi→Ans:=fun (o0_0,o0_1) K=>fun r_y=>K (.int .i64 r_y) [.cells [.str o0_0,.int .i64 o0_1]]
theorem zRv (a:zec) (K:AV→List AE.Obj→Ans):fnE Tryz.tab zOj zf 0 70 55 Tryz.f55.ntmps Tryz.f55.results.toList zNo zUn (zlx a).1 (zlx a).2 K=zfD a (zO1 a K):=by kernel_rfl
def zV2 (a:zec) (K:AV→List AE.Obj→Ans):Ans:=za (zaV a) fun y=>zO1 a K y
def zJ7:List AV→List AE.Obj→(AV→List AE.Obj→Ans)→Ans:=fun l H K=>za (zGO l H) fun a=>zV2 a K
theorem zsq:zP Tryz.prog 55 zJ7:=ZN (hint:=zf) (d:=0) (n:=70) mixed tabOk zPJ Tryz.func55 (zI (by kernel_rfl)) (by decide +kernel) zL1 zHD zRv zLb
--@ seal_First
noncomputable def zK1:Env:=[(49,.func zvo),(50,.func zmw),(51,.func znZ),(96,.func zIE),(52,.pure Fq4),(55,.func zJ7)]
theorem zQu:zd Tryz.prog zK1:=zd.cons zeF (zd.cons zbH (zd.cons zbJ (zd.cons ztp (zd.cons zeo (zd.cons zsq (zd.nil))))))
noncomputable def zTN:Code:=Tryz.f90.body.getD .skip
noncomputable def zMx:Ann := .none
theorem zMR:zr Tryz.prog 46 zTN zMx:=(zb _ _ _)
abbrev zbP:=(List UInt8)
abbrev zBt:=(Int)×(List UInt8)×(List UInt8)×(Int)
def zn8 {β:Type}:zbP→(zBt→Option β)→Option β:=fun a0 exit=>(bif decide ((↑(List.length a0):Int)<(7:Int)) then (exit ((0:Int),[],[],(1:Int))) else (za (w8 (a0)) fun _=>(za (ZY ((1:Int),a0,(0:Int))) (unP fun r=>unP fun o0_0 o0_1=>(za (ZY ((2:Int),o0_0,o0_1)) (unP fun r_2=>unP fun o0_0_2 o0_1_2=>(bif decide (r_2>(600:Int)) then (exit ((0:Int),[],[],(11:Int))) else (za (yB (r_2,o0_0_2,o0_1_2)) (unP fun r_3=>unP fun o0_0_3 o0_1_3=>(za (yB ((4:Int),o0_0_3,o0_1_3)) (unP fun r_4=>unP fun o0_0_4 o0_1_4=>(za (zcF (o0_0_4,o0_1_4)) fun r_5=>(bif r_5 == (1:Int) then (exit ((0:Int),[],[],r_5)) else (bif inR (IntKind.wrap .i64 ((3:Int)+r_2)) (List.length a0+(1:Nat)) then (za (zap (List.take (Int.toNat (IntKind.wrap .i64 ((3:Int)+r_2))) a0)) fun r_6=>(bif !r_4 == r_6 then (exit ((0:Int),[],[],(5:Int))) else (za (zaV (o0_0_4,o0_1_4)) fun r_7=>(za (yB (r_7,o0_0_4,o0_1_4)) (unP fun r_8=>unP fun o0_0_5 o0_1_5=>(exit (r,r_3,r_8,(0:Int)))))))) else none))))))))))))))
def zif (a:zbP):Option zBt:=zn8 a some
theorem zMq (a:zbP) (k:zBt→Ans):zn8 a k=za (zif a) k:=by
  obtain z:=a
  simp only [zif,zn8,zj,zg,zl,zc,zi,zm,zh]
def zsb:zbP→List AV:=fun a0=>[.str a0]
def zy3 (l:List AV):Option {a:zbP // l=zsb a}:=match l with
  | [.str a0]=>some ⟨(a0),rfl⟩
  | _=>none
def zGt (l:List AV):Option zbP:=pk (zy3 l)
theorem zJb (l:List AV) (a:zbP) (h:zGt l=some a):l=zsb a:=zx (o:=zy3 l) h
def ztJ:zbP→zBt→AV:=fun a0=>unP fun r_0_y=>unP fun r_1_y=>unP fun r_2_y r_3_y => .tup [.int .i64 r_0_y,.str r_1_y,.str r_2_y,.int .i64 r_3_y]
theorem zKq : ∀(a:zbP) (y:zBt),(ztJ a y).closed1=true:=by
  rintro z y <;> first | rfl | exact Empty.elim y
theorem zQE (a:zbP):fnE Tryz.tab zK1 zf 0 70 90 Tryz.f90.ntmps Tryz.f90.results.toList zMx zTN (zsb a) [] (fun v _=>some (v,[]))=zn8 a (fun y=>some (ztJ a y,[])):=by kernel_rfl
def zVU (a:zbP) (K:AV→Ans):Ans:=za (zif a) fun y=>K (ztJ a y)
def zPD:List AV→(AV→Ans)→Ans:=fun l K=>za (zGt l) fun a=>zVU a K
theorem zF8:zV Tryz.prog 90 zPD:=zX (hint:=zf) (d:=0) (n:=70) mixed tabOk zQu Tryz.func90 (zI (by kernel_rfl)) (by decide +kernel) zMR zJb zQE zMq zKq
--@ seal_Get
noncomputable def zeg:Env:=[(90,.pure zPD)]
theorem zmG:zd Tryz.prog zeg:=zd.cons zF8 (zd.nil)
noncomputable def zJS:Code:=Tryz.f48.body.getD .skip
noncomputable def zlw:Code:=zL [1,1,0,1] zJS
noncomputable def zqc:Ann := .none
theorem zwH:zr Tryz.prog 27 zlw zqc:=(zb _ _ _)
abbrev q3:=(Int)×(List UInt8)×(Int)×(Bool)
abbrev zke:=(Int)
def zvu:q3→St:=fun (t5,t6,t8,t21)=>{ env:=[(5,.int .i64 t5),(6,.str t6),(8,.int .i64 t8),(21,.bool t21)],stk:=[[]],H:=[],blk:=196608 }
def zpW (s:St):Option {x:q3 // s=zvu x}:=match s with
  | { env:=[(5,.int .i64 t5),(6,.str t6),(8,.int .i64 t8),(21,.bool t21)],stk:=[[]],H:=[],blk:=196608 }=>some ⟨(t5,t6,t8,t21),rfl⟩
  | _=>none
def zg6 (s:St):Option q3:=pk (zpW s)
theorem zAS (s:St) (x:q3) (h:zg6 s=some x):s=zvu x:=zx (o:=zpW s) h
def zgU:q3→(Ex→St→Ans)→zke→Ans:=fun (t5,t6,t8,t21) K=>fun t8_y=>K (Ex.norm) { env:=[(5,.int .i64 t5),(6,.str t6),(8,.int .i64 t8_y)],stk:=[[]],H:=[],blk:=196608 }
def zbw {β:Type}:q3→(zke→Option β)→Option β:=fun (t5,t6,t8,t21) exit=>(bif t21 then (exit ((2:Int))) else (exit (t8)))
def Q1 (i:q3):Option zke:=zbw i some
theorem zuI (i:q3) (k:zke→Ans):zbw i k=za (Q1 i) k:=by
  obtain ⟨t5,t6,t8,t21⟩:=i
  simp only [Q1,zbw,zj,zg,zl,zc,zi,zm,zh]
theorem zya (i:q3) (K:Ex→St→Ans):zA Tryz.tab zeg zf (zD Tryz.tab zeg zf 0 64) 70 27 zqc zlw (zH 0 (exk [5,6,8] [2,3,4] []) K) (zvu i)=zbw i (zgU i K):=by kernel_rfl
theorem zDV:zy Tryz.prog 27 zlw (zG zg6 Q1 zgU):=zB mixed tabOk zmG 0 (exk [5,6,8] [2,3,4] []) zwH zAS zya zuI
noncomputable def zEH:(Ex→St→Ans)→St→Ans:=(zG zg6 Q1 zgU)
theorem zHX:zy Tryz.prog 27 zlw zEH:=zDV
noncomputable def zki:Code:=zL [1,1,0,0] zJS
noncomputable def zqI:Ann := .none
theorem zwV:zr Tryz.prog 27 zki zqI:=(zb _ _ _)
abbrev Qd:=(Int)×(List UInt8)×(List UInt8)×(Int)
abbrev zlA:=(Bool)
def zto:Qd→St:=fun (t5,t6,t7,t8)=>{ env:=[(5,.int .i64 t5),(6,.str t6),(7,.str t7),(8,.int .i64 t8)],stk:=[[]],H:=[],blk:=196608 }
def zo7 (s:St):Option {x:Qd // s=zto x}:=match s with
  | { env:=[(5,.int .i64 t5),(6,.str t6),(7,.str t7),(8,.int .i64 t8)],stk:=[[]],H:=[],blk:=196608 }=>some ⟨(t5,t6,t7,t8),rfl⟩
  | _=>none
def zhw (s:St):Option Qd:=pk (zo7 s)
theorem zy6 (s:St) (x:Qd) (h:zhw s=some x):s=zto x:=zx (o:=zo7 s) h
def zg1:Qd→(Ex→St→Ans)→zlA→Ans:=fun (t5,t6,t7,t8) K=>fun t21_y=>K (Ex.norm) { env:=[(5,.int .i64 t5),(6,.str t6),(8,.int .i64 t8),(21,.bool t21_y)],stk:=[[]],H:=[],blk:=196608 }
def jZ {β:Type}:Qd→(zlA→Option β)→Option β:=fun (t5,t6,t7,t8) exit=>(bif t8 == (0:Int) then (exit (!t7 == [])) else (exit (false)))
def Wr (i:Qd):Option zlA:=jZ i some
theorem zsu (i:Qd) (k:zlA→Ans):jZ i k=za (Wr i) k:=by
  obtain ⟨t5,t6,t7,t8⟩:=i
  simp only [Wr,jZ,zj,zg,zl,zc,zi,zm,zh]
theorem zxg (i:Qd) (K:Ex→St→Ans):zA Tryz.tab zeg zf (zD Tryz.tab zeg zf 0 64) 70 27 zqI zki (zH 0 (exk [5,6,8,21] [2,3,4] []) K) (zto i)=jZ i (zg1 i K):=by kernel_rfl
theorem zEt:zy Tryz.prog 27 zki (zG zhw Wr zg1):=zB mixed tabOk zmG 0 (exk [5,6,8,21] [2,3,4] []) zwV zy6 zxg zsu
noncomputable def zES:(Ex→St→Ans)→St→Ans:=(zG zhw Wr zg1)
theorem zHo:zy Tryz.prog 27 zki zES:=zEt
noncomputable def zPb:Ann:=(.seq .none (.seq .none (.seq (.seq (.cut 0 [5,6,7,8] zES) (.cut 0 [5,6,8,21] zEH)) .none)))
theorem zK8:zr Tryz.prog 27 zJS zPb:=⟨(zb _ _ _),⟨(zb _ _ _),⟨⟨zHo,zHX⟩,(zb _ _ _)⟩⟩⟩
abbrev zcT:=(List UInt8)
abbrev zCp:=(Int)×(List UInt8)×(Int)
def zoz {β:Type}:zcT→(zCp→Option β)→Option β:=fun a0 exit=>(za (zif (a0)) (unP fun r_0=>unP fun r_1=>unP fun r_2 r_3=>(za (Wr (r_0,r_1,r_2,r_3)) fun t21=>(za (Q1 (r_0,r_1,r_3,t21)) fun t8=>(bif t8 != (0:Int) then (exit ((0:Int),[],t8)) else (exit (r_0,r_1,(0:Int))))))))
def ze1 (a:zcT):Option zCp:=zoz a some
theorem zLf (a:zcT) (k:zCp→Ans):zoz a k=za (ze1 a) k:=by
  obtain z:=a
  simp only [ze1,zoz,zj,zg,zl,zc,zi,zm,zh]
def zuL:zcT→List AV:=fun a0=>[.str a0]
def zBh (l:List AV):Option {a:zcT // l=zuL a}:=match l with
  | [.str a0]=>some ⟨(a0),rfl⟩
  | _=>none
def zFT (l:List AV):Option zcT:=pk (zBh l)
theorem zHz (l:List AV) (a:zcT) (h:zFT l=some a):l=zuL a:=zx (o:=zBh l) h
def ztW:zcT→zCp→AV:=fun a0=>unP fun r_0_y=>unP fun r_1_y r_2_y => .tup [.int .i64 r_0_y,.str r_1_y,.int .i64 r_2_y]
theorem zH6 : ∀(a:zcT) (y:zCp),(ztW a y).closed1=true:=by
  rintro z y <;> first | rfl | exact Empty.elim y
theorem zPx (a:zcT):fnE Tryz.tab zeg zf 0 70 48 Tryz.f48.ntmps Tryz.f48.results.toList zPb zJS (zuL a) [] (fun v _=>some (v,[]))=zoz a (fun y=>some (ztW a y,[])):=by kernel_rfl
def zVN (a:zcT) (K:AV→Ans):Ans:=za (ze1 a) fun y=>K (ztW a y)
def zPd:List AV→(AV→Ans)→Ans:=fun l K=>za (zFT l) fun a=>zVN a K
theorem zGH:zV Tryz.prog 48 zPd:=zX (hint:=zf) (d:=0) (n:=70) mixed tabOk zmG Tryz.func48 (zI (by kernel_rfl)) (by decide +kernel) zK8 zHz zPx zLf zH6
--@ dump_lines
noncomputable def YQ:Env:=[(48,.pure zPd)]
theorem zb9:zd Tryz.prog YQ:=zd.cons zGH (zd.nil)
noncomputable def zuc:Code:=Tryz.f19.body.getD .skip
noncomputable def zlF:Code:=zL [1,1,1,1,0,1,0,0,1,1,0,0,1,1,0,1] zuc
noncomputable def zqX:Ann := .none
theorem zwp:zr Tryz.prog 58 zlF zqX:=(zb _ _ _)
abbrev qM:=(Int)×(Int)×(Int)×(Int)×(List Int)×(List (List UInt8))
abbrev zlQ:=(Int)
def zue:qM→St:=fun (t12,t39,t40,t45,o0,o1)=>{ env:=[(4,.own 0),(5,.own 1),(12,.int .i64 t12),(13,.int .i64 (21)),(38,.own 0),(39,.int .i64 t39),(40,.int .i64 t40),(45,.int .i64 t45)],stk:=[[]],H:=[.arr (.int .i64) o0,.arr .str o1],blk:=77827 }
def zpw (s:St):Option {x:qM // s=zue x}:=match s with
  | { env:=[(4,.own 0),(5,.own 1),(12,.int .i64 t12),(13,.int .i64 r1),(38,.own 0),(39,.int .i64 t39),(40,.int .i64 t40),(45,.int .i64 t45)],stk:=[[]],H:=[.arr (.int .i64) o0,.arr .str o1],blk:=77827 }=>if h1:r1=21 then some ⟨(t12,t39,t40,t45,o0,o1),by subst h1;rfl⟩ else none
  | _=>none
def zje (s:St):Option qM:=pk (zpw s)
theorem zAO (s:St) (x:qM) (h:zje s=some x):s=zue x:=zx (o:=zpw s) h
def zjf:qM→(Ex→St→Ans)→zlQ→Ans:=fun (t12,t39,t40,t45,o0,o1) K=>fun t13_y=>K (Ex.norm) { env:=[(4,.own 0),(5,.own 1),(12,.int .i64 t12),(13,.int .i64 t13_y),(38,.own 0),(39,.int .i64 t39),(40,.int .i64 t40)],stk:=[[]],H:=[.arr (.int .i64) o0,.arr .str o1],blk:=77828 }
def JB {β:Type}:qM→(zlQ→Option β)→Option β:=fun (t12,t39,t40,t45,o0,o1) exit=>(bif t45 == (0:Int) then (exit ((20:Int))) else (bif t45 == IntKind.wrap .i64 ((↑(List.length o0):Int) - (1:Int)) then (exit ((22:Int))) else (exit ((21:Int)))))
def wd (i:qM):Option zlQ:=JB i some
theorem zuf (i:qM) (k:zlQ→Ans):JB i k=za (wd i) k:=by
  obtain ⟨t12,t39,t40,t45,o0,o1⟩:=i
  simp only [wd,JB,zj,zg,zl,zc,zi,zm,zh]
theorem zwn (i:qM) (K:Ex→St→Ans):zA Tryz.tab YQ zf (zD Tryz.tab YQ zf 0 64) 70 58 zqX zlF (zH 0 (exk [4,5,12,13,38,39,40] [2,3] []) K) (zue i)=JB i (zjf i K):=by kernel_rfl
theorem zEc:zy Tryz.prog 58 zlF (zG zje wd zjf):=zB mixed tabOk zb9 0 (exk [4,5,12,13,38,39,40] [2,3] []) zwp zAO zwn zuf
noncomputable def zE0:(Ex→St→Ans)→St→Ans:=(zG zje wd zjf)
theorem zIC:zy Tryz.prog 58 zlF zE0:=zEc
noncomputable def zjL:Code:=zL [1,1,1,1,0,1,0,0,1,1,0] zuc
noncomputable def zou:Ann:=(.block (.seq .none (.seq .none (.seq (.seq .none (.cut 0 [4,5,12,13,38,39,40,45] zE0)) .none))))
theorem zxD:zr Tryz.prog 58 zjL zou:=⟨(zb _ _ _),⟨(zb _ _ _),⟨⟨(zb _ _ _),zIC⟩,(zb _ _ _)⟩⟩⟩
abbrev Qh:=(Int)×(Int)×(List Int)×(List (List UInt8))
abbrev zj5:=(Unit) ⊕ (Unit)
def zsW:Qh→St:=fun (t39,t40,o0,o1)=>{ env:=[(4,.own 0),(5,.own 1),(38,.own 0),(39,.int .i64 t39),(40,.int .i64 t40)],stk:=[[]],H:=[.arr (.int .i64) o0,.arr .str o1],blk:=77826 }
def zro (s:St):Option {x:Qh // s=zsW x}:=match s with
  | { env:=[(4,.own 0),(5,.own 1),(38,.own 0),(39,.int .i64 t39),(40,.int .i64 t40)],stk:=[[]],H:=[.arr (.int .i64) o0,.arr .str o1],blk:=77826 }=>some ⟨(t39,t40,o0,o1),rfl⟩
  | _=>none
def zjs (s:St):Option Qh:=pk (zro s)
theorem zzc (s:St) (x:Qh) (h:zjs s=some x):s=zsW x:=zx (o:=zro s) h
def zh8:Qh→(Ex→St→Ans)→zj5→Ans:=fun (t39,t40,o0,o1) K=>(Sum.elim (fun _=>K (Ex.ret) { env:=[(2,.own 0),(3,.int .i64 (7))],stk:=[[]],H:=[.arr .str ([])],blk:=77828 }) (fun _=>K (Ex.norm) { env:=[(4,.own 0),(5,.own 1),(38,.own 0),(39,.int .i64 t39),(40,.int .i64 t40)],stk:=[[]],H:=[.arr (.int .i64) o0,.arr .str o1],blk:=77828 }))
def jT {β:Type}:Qh→(zj5→Option β)→Option β:=fun (t39,t40,o0,o1) exit=>(bif inR t40 (List.length o0) then (za (o0[Int.toNat t40]?) fun x=>(za (wd (x,t39,t40,t40,o0,o1)) fun t13=>(bif x != t13 then (exit (Sum.inl ())) else (exit (Sum.inr ()))))) else none)
def Ws (i:Qh):Option zj5:=jT i some
theorem ztd (i:Qh) (k:zj5→Ans):jT i k=za (Ws i) k:=by
  obtain ⟨t39,t40,o0,o1⟩:=i
  simp only [Ws,jT,zj,zg,zl,zc,zi,zm,zh]
theorem zxV (i:Qh) (K:Ex→St→Ans):zA Tryz.tab YQ zf (zD Tryz.tab YQ zf 0 64) 70 58 zou zjL (zH 0 (exk [4,5,38,39,40] [2,3] []) K) (zsW i)=jT i (zh8 i K):=by kernel_rfl
theorem zC8:zy Tryz.prog 58 zjL (zG zjs Ws zh8):=zB mixed tabOk zb9 0 (exk [4,5,38,39,40] [2,3] []) zxD zzc zxV ztd
noncomputable def zGw:(Ex→St→Ans)→St→Ans:=(zG zjs Ws zh8)
theorem zKh:zy Tryz.prog 58 zjL zGw:=zC8
noncomputable def zfb:Code:=zL [1,1,1,1,0,1,0,0] zuc
noncomputable def zgm:Ann := .at 0 [4,5,38,39,40] (.loop (.seq .none (.seq .none (.seq (.cut 0 [4,5,38,39,40] zGw) .none))))
theorem zw7:zr Tryz.prog 58 (.loop zfb) zgm:=yG ⟨(zb _ _ _),⟨(zb _ _ _),⟨zKh,(zb _ _ _)⟩⟩⟩
abbrev qI:=(Int)×(List Int)×(List (List UInt8))
abbrev zkM:=(Unit) ⊕ (Unit)
abbrev wH:=(Int)
def zkv:qI→wH→St:=fun (t39,o0,o1) t40=>{ env:=[(4,.own 0),(5,.own 1),(38,.own 0),(39,.int .i64 t39),(40,.int .i64 t40)],stk:=[[]],H:=[.arr (.int .i64) o0,.arr .str o1],blk:=77826 }
def zp8 (s:St):Option {x:qI×wH // s=zkv x.1 x.2}:=match s with
  | { env:=[(4,.own 0),(5,.own 1),(38,.own 0),(39,.int .i64 t39),(40,.int .i64 t40)],stk:=[[]],H:=[.arr (.int .i64) o0,.arr .str o1],blk:=77826 }=>some ⟨((t39,o0,o1),t40),rfl⟩
  | _=>none
def ziw (s:St):Option (qI×wH):=pk (zp8 s)
theorem zzb (s:St) (x:qI×wH) (h:ziw s=some x):s=zkv x.1 x.2:=zx (o:=zp8 s) h
def zig:qI→(Ex→St→Ans)→zkM→Ans:=fun (t39,o0,o1) K=>(Sum.elim (fun _=>K (Ex.ret) { env:=[(2,.own 0),(3,.int .i64 (7))],stk:=[[]],H:=[.arr .str ([])],blk:=77828 }) (fun _=>K (Ex.exit 2) { env:=[(5,.own 0)],stk:=[[]],H:=[.arr .str o1],blk:=77826 }))
def QK {β:Type}:qI→wH→(wH→Option β)→(zkM→Option β)→Option β:=fun (t39,o0,o1) t40 next exit=>(bif decide (t40<t39) then (za (Ws (t39,t40,o0,o1)) (Sum.elim (fun _=>(exit (Sum.inl ()))) (fun _=>(next (IntKind.wrap .i64 (t40+(1:Int))))))) else (exit (Sum.inr ())))
def Yd (i:qI) (v:wH):Option (wH ⊕ zkM):=QK i v (fun v=>some (.inl v)) (fun y=>some (.inr y))
theorem zuu (i:qI) (v:wH) (next:wH→Ans) (exit:zkM→Ans):QK i v next exit=za (Yd i v) (Sum.elim next exit):=by
  obtain ⟨t39,o0,o1⟩:=i
  obtain z:=v
  simp only [Yd,QK,zj,zg,zl,zc,zi,zm,zh,Sum.elim_inl,Sum.elim_inr]
theorem zx5 (n:Nat) (i:qI) (v:wH) (K:Ex→St→Ans):zA Tryz.tab YQ zf (zD Tryz.tab YQ zf 0 64) (n+1) 58 zgm (.loop zfb) (zH 0 (exk [5] [2,3] [(2,[5])]) K) (zkv i v)=QK i v (fun v'=>zA Tryz.tab YQ zf (zD Tryz.tab YQ zf 0 64) n 58 zgm (.loop zfb) (zH 0 (exk [5] [2,3] [(2,[5])]) K) (zkv i v')) (fun y=>zig i K y):=by kernel_rfl
theorem zD1:zy Tryz.prog 58 (.loop zfb) (y9 ziw Yd zig):=yQ mixed tabOk zb9 0 (exk [5] [2,3] [(2,[5])]) zw7 zzb zx5 zuu
noncomputable def zEv:(Ex→St→Ans)→St→Ans:=(y9 ziw Yd zig)
theorem zIg:zy Tryz.prog 58 (.loop zfb) zEv:=zD1
noncomputable def zen:Code:=zL [1,1,1,0,1,0,0] zuc
noncomputable def zfZ:Ann := .at 0 [4,5,14,15,16] (.loop .none)
theorem zxE:zr Tryz.prog 58 (.loop zen) zfZ:=yG (zb _ _ _)
abbrev q5:=(List (List UInt8))×(Int)
abbrev zlb:=((Int)) ⊕ ((List Int)×(List (List UInt8)))
abbrev wJ:=(Int)×(List Int)×(List (List UInt8))
def zlH:q5→wJ→St:=fun (t14,t15) (t16,o0,o1)=>{ env:=[(4,.own 0),(5,.own 1),(14,.ro .str t14),(15,.int .i64 t15),(16,.int .i64 t16)],stk:=[[]],H:=[.arr (.int .i64) o0,.arr .str o1],blk:=77824 }
def zoY (s:St):Option {x:q5×wJ // s=zlH x.1 x.2}:=match s with
  | { env:=[(4,.own 0),(5,.own 1),(14,.ro .str t14),(15,.int .i64 t15),(16,.int .i64 t16)],stk:=[[]],H:=[.arr (.int .i64) o0,.arr .str o1],blk:=77824 }=>some ⟨((t14,t15),(t16,o0,o1)),rfl⟩
  | _=>none
def zi1 (s:St):Option (q5×wJ):=pk (zoY s)
theorem zBN (s:St) (x:q5×wJ) (h:zi1 s=some x):s=zlH x.1 x.2:=zx (o:=zoY s) h
def zhj:q5→(Ex→St→Ans)→zlb→Ans:=fun (t14,t15) K=>(Sum.elim (fun t3_y=>K (Ex.ret) { env:=[(2,.own 0),(3,.int .i64 t3_y)],stk:=[[]],H:=[.arr .str ([])],blk:=77825 }) (unP fun o0_y o1_y=>K (Ex.exit 0) { env:=[(4,.own 0),(5,.own 1)],stk:=[[]],H:=[.arr (.int .i64) o0_y,.arr .str o1_y],blk:=77824 }))
def QQ {β:Type}:q5→wJ→(wJ→Option β)→(zlb→Option β)→Option β:=fun (t14,t15) (t16,o0,o1) next exit=>(bif decide (t16<t15) then (za (nth t14 t16) fun x=>(za (ze1 (x)) (unP fun r_0=>unP fun r_1 r_2=>(bif r_2 != (0:Int) then (exit (Sum.inl (r_2))) else (bif Nat.ble ((List.length o0+List.length [r_0])*(8:Nat)) (140737488355328:Nat) then (bif Nat.ble ((List.length o1+List.length [r_1])*(16:Nat)) (140737488355328:Nat) then (next (IntKind.wrap .i64 (t16+(1:Int)),o0++[r_0],o1++[r_1])) else none) else none))))) else (exit (Sum.inr (o0,o1))))
def Yc (i:q5) (v:wJ):Option (wJ ⊕ zlb):=QQ i v (fun v=>some (.inl v)) (fun y=>some (.inr y))
theorem zvi (i:q5) (v:wJ) (next:wJ→Ans) (exit:zlb→Ans):QQ i v next exit=za (Yc i v) (Sum.elim next exit):=by
  obtain ⟨t14,t15⟩:=i
  obtain ⟨t16,o0,o1⟩:=v
  simp only [Yc,QQ,zj,zg,zl,zc,zi,zm,zh,Sum.elim_inl,Sum.elim_inr]
theorem zxw (n:Nat) (i:q5) (v:wJ) (K:Ex→St→Ans):zA Tryz.tab YQ zf (zD Tryz.tab YQ zf 0 64) (n+1) 58 zfZ (.loop zen) (zH 0 (exk [4,5] [2,3] [(0,[4,5])]) K) (zlH i v)=QQ i v (fun v'=>zA Tryz.tab YQ zf (zD Tryz.tab YQ zf 0 64) n 58 zfZ (.loop zen) (zH 0 (exk [4,5] [2,3] [(0,[4,5])]) K) (zlH i v')) (fun y=>zhj i K y):=by kernel_rfl
theorem zDk:zy Tryz.prog 58 (.loop zen) (y9 zi1 Yc zhj):=yQ mixed tabOk zb9 0 (exk [4,5] [2,3] [(0,[4,5])]) zxE zBN zxw zvi
noncomputable def zF7:(Ex→St→Ans)→St→Ans:=(y9 zi1 Yc zhj)
theorem zKJ:zy Tryz.prog 58 (.loop zen) zF7:=zDk
noncomputable def zKY:Ann:=(.seq .none (.seq .none (.seq .none (.seq (.seq .none (.block (.cut 0 [4,5,14,15,16] zF7))) (.seq (.seq .none (.block (.cut 0 [4,5,38,39,40] zEv))) .none)))))
theorem zLd:zr Tryz.prog 58 zuc zKY:=⟨(zb _ _ _),⟨(zb _ _ _),⟨(zb _ _ _),⟨⟨(zb _ _ _),zKJ⟩,⟨⟨(zb _ _ _),zIg⟩,(zb _ _ _)⟩⟩⟩⟩⟩
abbrev zd6:=(List (List UInt8))
abbrev zHh:=(Int)×(List (List UInt8))
def zoX {β:Type}:zd6→(zHh→Option β)→Option β:=fun a0 exit=>(za (zZ (Yc (a0,(↑(List.length a0):Int))) Zo ((0:Int),[],[])) (Sum.elim (fun t3=>(exit (t3,[]))) (unP fun o0 o1=>(za (zZ (Yd ((↑(List.length o0):Int),o0,o1)) Zo ((0:Int))) (Sum.elim (fun _=>(exit ((7:Int),[]))) (fun _=>(exit ((0:Int),o1))))))))
def zel (a:zd6):Option zHh:=zoX a some
theorem zNU (a:zd6) (k:zHh→Ans):zoX a k=za (zel a) k:=by
  obtain z:=a
  simp only [zel,zoX,zj,zg,zl,zc,zi,zm,zh]
def zlo:zd6→List AV×List AE.Obj:=fun a0=>([.ro .str a0],[])
def zz1 (l:List AV) (H:List AE.Obj):Option {a:zd6 // (l,H)=zlo a}:=match l,H with
  | [.ro .str a0],[]=>some ⟨(a0),rfl⟩
  | _,_=>none
def zFZ (l:List AV) (H:List AE.Obj):Option zd6:=pk (zz1 l H)
theorem zJL (l:List AV) (H:List AE.Obj) (a:zd6) (h:zFZ l H=some a):(l,H)=zlo a:=zx (o:=zz1 l H) h
def zLH:zd6→(AV→List AE.Obj→Ans)→zHh→Ans:=fun a0 K=>unP fun r_1_y o0_y=>K (.tup [.own 0,.int .i64 r_1_y]) [.arr .str o0_y]
theorem zQ6 (a:zd6) (K:AV→List AE.Obj→Ans):fnE Tryz.tab YQ zf 0 70 19 Tryz.f19.ntmps Tryz.f19.results.toList zKY zuc (zlo a).1 (zlo a).2 K=zoX a (zLH a K):=by kernel_rfl
def zV8 (a:zd6) (K:AV→List AE.Obj→Ans):Ans:=za (zel a) fun y=>zLH a K y
def zQn:List AV→List AE.Obj→(AV→List AE.Obj→Ans)→Ans:=fun l H K=>za (zFZ l H) fun a=>zV8 a K
theorem zEM:zP Tryz.prog 19 zQn:=ZN (hint:=zf) (d:=0) (n:=70) mixed tabOk zb9 Tryz.func19 (zI (by kernel_rfl)) (by decide +kernel) zLd zJL zQ6 zNU
--@ layout_within
noncomputable def zqD:Env:=[]
theorem zCk:zd Tryz.prog zqD:=zd.nil
noncomputable def zR1:Code:=Tryz.f106.body.getD .skip
noncomputable def zlO:Code:=zL [1,0] zR1
noncomputable def zpa:Ann := .none
theorem zxr:zr Tryz.prog 15 zlO zpa:=(zb _ _ _)
abbrev QN:=(Int)×(Int)×(Int)
abbrev zkr:=(Bool)
def zvr:QN→St:=fun (t0,t1,t2)=>{ env:=[(0,.int .i64 t0),(1,.int .i64 t1),(2,.int .i64 t2)],stk:=[[]],H:=[],blk:=434176 }
def zp2 (s:St):Option {x:QN // s=zvr x}:=match s with
  | { env:=[(0,.int .i64 t0),(1,.int .i64 t1),(2,.int .i64 t2)],stk:=[[]],H:=[],blk:=434176 }=>some ⟨(t0,t1,t2),rfl⟩
  | _=>none
def zi2 (s:St):Option QN:=pk (zp2 s)
theorem zzZ (s:St) (x:QN) (h:zi2 s=some x):s=zvr x:=zx (o:=zp2 s) h
def zhI:QN→(Ex→St→Ans)→zkr→Ans:=fun (t0,t1,t2) K=>fun t6_y=>K (Ex.norm) { env:=[(6,.bool t6_y)],stk:=[[]],H:=[],blk:=434176 }
def jI {β:Type}:QN→(zkr→Option β)→Option β:=fun (t0,t1,t2) exit=>(bif decide (t0≥t1) then (exit (decide (t0≤t2))) else (exit (false)))
def WS (i:QN):Option zkr:=jI i some
theorem zsz (i:QN) (k:zkr→Ans):jI i k=za (WS i) k:=by
  obtain ⟨t0,t1,t2⟩:=i
  simp only [WS,jI,zj,zg,zl,zc,zi,zm,zh]
theorem zxZ (i:QN) (K:Ex→St→Ans):zA Tryz.tab zqD zf (zD Tryz.tab zqD zf 0 64) 70 15 zpa zlO (zH 0 (exk [6] [6] []) K) (zvr i)=jI i (zhI i K):=by kernel_rfl
theorem zDl:zy Tryz.prog 15 zlO (zG zi2 WS zhI):=zB mixed tabOk zCk 0 (exk [6] [6] []) zxr zzZ zxZ zsz
noncomputable def zF1:(Ex→St→Ans)→St→Ans:=(zG zi2 WS zhI)
theorem zHE:zy Tryz.prog 15 zlO zF1:=zDl
noncomputable def zM2:Ann:=(.seq .none (.seq (.cut 0 [0,1,2] zF1) .none))
theorem zM6:zr Tryz.prog 15 zR1 zM2:=⟨(zb _ _ _),⟨zHE,(zb _ _ _)⟩⟩
abbrev zcA:=(Int)×(Int)×(Int)
abbrev zB8:=(Bool)
def zon {β:Type}:zcA→(zB8→Option β)→Option β:=fun (a0,a1,a2) exit=>(za (WS (a0,a1,a2)) fun t6=>(exit (t6)))
def za5 (a:zcA):Option zB8:=zon a some
theorem zN5 (a:zcA) (k:zB8→Ans):zon a k=za (za5 a) k:=by
  obtain ⟨a0,a1,a2⟩:=a
  simp only [za5,zon,zj,zg,zl,zc,zi,zm,zh]
def zul:zcA→List AV:=fun (a0,a1,a2)=>[.int .i64 a0,.int .i64 a1,.int .i64 a2]
def zA1 (l:List AV):Option {a:zcA // l=zul a}:=match l with
  | [.int .i64 a0,.int .i64 a1,.int .i64 a2]=>some ⟨(a0,a1,a2),rfl⟩
  | _=>none
def zGv (l:List AV):Option zcA:=pk (zA1 l)
theorem zJ3 (l:List AV) (a:zcA) (h:zGv l=some a):l=zul a:=zx (o:=zA1 l) h
def zuk:zcA→zB8→AV:=fun (a0,a1,a2)=>fun r_y => .bool r_y
theorem zHH : ∀(a:zcA) (y:zB8),(zuk a y).closed1=true:=by
  rintro ⟨a0,a1,a2⟩ y <;> first | rfl | exact Empty.elim y
theorem zRg (a:zcA):fnE Tryz.tab zqD zf 0 70 106 Tryz.f106.ntmps Tryz.f106.results.toList zM2 zR1 (zul a) [] (fun v _=>some (v,[]))=zon a (fun y=>some (zuk a y,[])):=by kernel_rfl
def zWa (a:zcA) (K:AV→Ans):Ans:=za (za5 a) fun y=>K (zuk a y)
def zPA:List AV→(AV→Ans)→Ans:=fun l K=>za (zGv l) fun a=>zWa a K
theorem zEN:zV Tryz.prog 106 zPA:=zX (hint:=zf) (d:=0) (n:=70) mixed tabOk zCk Tryz.func106 (zI (by kernel_rfl)) (by decide +kernel) zM6 zJ3 zRg zN5 zHH
--@ layout_Check
noncomputable def zq8:Env:=[(106,.pure zPA)]
theorem zBs:zd Tryz.prog zq8:=zd.cons zEN (zd.nil)
noncomputable def zPh:Code:=Tryz.f68.body.getD .skip
noncomputable def zkk:Code:=zL [1,0,0] zPh
noncomputable def zrD:Ann := .none
theorem zyh:zr Tryz.prog 19 zkk zrD:=(zb _ _ _)
abbrev q0:=(Int)×(Int)×(Int)
abbrev zkR:=(Bool)
def ztC:q0→St:=fun (o0_0,o0_1,o0_2)=>{ env:=[(1,.ptr 0 0)],stk:=[[]],H:=[.cells [.int .i64 o0_0,.int .i64 o0_1,.int .i64 o0_2]],blk:=278528 }
def zpK (s:St):Option {x:q0 // s=ztC x}:=match s with
  | { env:=[(1,.ptr 0 0)],stk:=[[]],H:=[.cells [.int .i64 o0_0,.int .i64 o0_1,.int .i64 o0_2]],blk:=278528 }=>some ⟨(o0_0,o0_1,o0_2),rfl⟩
  | _=>none
def ziE (s:St):Option q0:=pk (zpK s)
theorem zzr (s:St) (x:q0) (h:ziE s=some x):s=ztC x:=zx (o:=zpK s) h
def zho:q0→(Ex→St→Ans)→zkR→Ans:=fun (o0_0,o0_1,o0_2) K=>fun t18_y=>K (Ex.norm) { env:=[(18,.bool t18_y)],stk:=[[]],H:=[],blk:=278528 }
def Jw {β:Type}:q0→(zkR→Option β)→Option β:=fun (o0_0,o0_1,o0_2) exit=>(za (za5 (o0_0,(1:Int),(24:Int))) fun r=>(bif !r then (exit (true)) else (za (za5 (o0_1,(1:Int),(8:Int))) fun r_2=>(bif !r_2 then (exit (true)) else (za (za5 (o0_2,(24:Int),(200:Int))) fun r_3=>(exit (!r_3)))))))
def Wn (i:q0):Option zkR:=Jw i some
theorem zuv (i:q0) (k:zkR→Ans):Jw i k=za (Wn i) k:=by
  obtain ⟨o0_0,o0_1,o0_2⟩:=i
  simp only [Wn,Jw,zj,zg,zl,zc,zi,zm,zh]
theorem zwN (i:q0) (K:Ex→St→Ans):zA Tryz.tab zq8 zf (zD Tryz.tab zq8 zf 0 64) 70 19 zrD zkk (zH 0 (exk [18] [2] []) K) (ztC i)=Jw i (zho i K):=by kernel_rfl
theorem zD3:zy Tryz.prog 19 zkk (zG ziE Wn zho):=zB mixed tabOk zBs 0 (exk [18] [2] []) zyh zzr zwN zuv
noncomputable def zFt:(Ex→St→Ans)→St→Ans:=(zG ziE Wn zho)
theorem zI9:zy Tryz.prog 19 zkk zFt:=zD3
noncomputable def zMB:Ann:=(.seq .none (.seq (.seq (.cut 0 [1] zFt) .none) .none))
theorem zM9:zr Tryz.prog 19 zPh zMB:=⟨(zb _ _ _),⟨⟨zI9,(zb _ _ _)⟩,(zb _ _ _)⟩⟩
abbrev zcw:=(Int)×(Int)×(Int)
abbrev zyJ:=(Int)
def zoI {β:Type}:zcw→(zyJ→Option β)→Option β:=fun (a0_0,a0_1,a0_2) exit=>(za (Wn (a0_0,a0_1,a0_2)) fun t18=>(bif t18 then (exit ((3:Int))) else (exit ((0:Int)))))
def zeT (a:zcw):Option zyJ:=zoI a some
theorem zOg (a:zcw) (k:zyJ→Ans):zoI a k=za (zeT a) k:=by
  obtain ⟨a0_0,a0_1,a0_2⟩:=a
  simp only [zeT,zoI,zj,zg,zl,zc,zi,zm,zh]
def zss:zcw→List AV:=fun (a0_0,a0_1,a0_2)=>[.agg [.int .i64 a0_0,.int .i64 a0_1,.int .i64 a0_2]]
def zyM (l:List AV):Option {a:zcw // l=zss a}:=match l with
  | [.agg [.int .i64 a0_0,.int .i64 a0_1,.int .i64 a0_2]]=>some ⟨(a0_0,a0_1,a0_2),rfl⟩
  | _=>none
def zGn (l:List AV):Option zcw:=pk (zyM l)
theorem zIa (l:List AV) (a:zcw) (h:zGn l=some a):l=zss a:=zx (o:=zyM l) h
def ztK:zcw→zyJ→AV:=fun (a0_0,a0_1,a0_2)=>fun r_y => .int .i64 r_y
theorem zGZ : ∀(a:zcw) (y:zyJ),(ztK a y).closed1=true:=by
  rintro ⟨a0_0,a0_1,a0_2⟩ y <;> first | rfl | exact Empty.elim y
theorem zRx (a:zcw):fnE Tryz.tab zq8 zf 0 70 68 Tryz.f68.ntmps Tryz.f68.results.toList zMB zPh (zss a) [] (fun v _=>some (v,[]))=zoI a (fun y=>some (ztK a y,[])):=by kernel_rfl
def zVJ (a:zcw) (K:AV→Ans):Ans:=za (zeT a) fun y=>K (ztK a y)
def zRh:List AV→(AV→Ans)→Ans:=fun l K=>za (zGn l) fun a=>zVJ a K
theorem zEw:zV Tryz.prog 68 zRh:=zX (hint:=zf) (d:=0) (n:=70) mixed tabOk zBs Tryz.func68 (zI (by kernel_rfl)) (by decide +kernel) zM9 zIa zRx zOg zGZ
--@ super_within
noncomputable def zrT:Env:=[]
theorem zAV:zd Tryz.prog zrT:=zd.nil
noncomputable def zQ7:Code:=Tryz.f69.body.getD .skip
noncomputable def zlD:Code:=zL [1,0] zQ7
noncomputable def zo1:Ann := .none
theorem zxx:zr Tryz.prog 12 zlD zo1:=(zb _ _ _)
abbrev q9:=(Int)×(Int)
abbrev zlh:=(Bool)
def zvh:q9→St:=fun (t0,t1)=>{ env:=[(0,.int .i64 t0),(1,.int .i64 t1)],stk:=[[]],H:=[],blk:=282624 }
def zpl (s:St):Option {x:q9 // s=zvh x}:=match s with
  | { env:=[(0,.int .i64 t0),(1,.int .i64 t1)],stk:=[[]],H:=[],blk:=282624 }=>some ⟨(t0,t1),rfl⟩
  | _=>none
def zgI (s:St):Option q9:=pk (zpl s)
theorem zBS (s:St) (x:q9) (h:zgI s=some x):s=zvh x:=zx (o:=zpl s) h
def zh4:q9→(Ex→St→Ans)→zlh→Ans:=fun (t0,t1) K=>fun t4_y=>K (Ex.norm) { env:=[(4,.bool t4_y)],stk:=[[]],H:=[],blk:=282624 }
def JE {β:Type}:q9→(zlh→Option β)→Option β:=fun (t0,t1) exit=>(bif decide (t0≥(0:Int)) then (exit (decide (t0≤t1))) else (exit (false)))
def WB (i:q9):Option zlh:=JE i some
theorem zsG (i:q9) (k:zlh→Ans):JE i k=za (WB i) k:=by
  obtain ⟨t0,t1⟩:=i
  simp only [WB,JE,zj,zg,zl,zc,zi,zm,zh]
theorem zwf (i:q9) (K:Ex→St→Ans):zA Tryz.tab zrT zf (zD Tryz.tab zrT zf 0 64) 70 12 zo1 zlD (zH 0 (exk [4] [4] []) K) (zvh i)=JE i (zh4 i K):=by kernel_rfl
theorem zDm:zy Tryz.prog 12 zlD (zG zgI WB zh4):=zB mixed tabOk zAV 0 (exk [4] [4] []) zxx zBS zwf zsG
noncomputable def zFU:(Ex→St→Ans)→St→Ans:=(zG zgI WB zh4)
theorem zHs:zy Tryz.prog 12 zlD zFU:=zDm
noncomputable def zMV:Ann:=(.seq .none (.seq (.cut 0 [0,1] zFU) .none))
theorem zOH:zr Tryz.prog 12 zQ7 zMV:=⟨(zb _ _ _),⟨zHs,(zb _ _ _)⟩⟩
abbrev zbU:=(Int)×(Int)
abbrev zCJ:=(Bool)
def zrA {β:Type}:zbU→(zCJ→Option β)→Option β:=fun (a0,a1) exit=>(za (WB (a0,a1)) fun t4=>(exit (t4)))
def JL (a:zbU):Option zCJ:=zrA a some
theorem zNE (a:zbU) (k:zCJ→Ans):zrA a k=za (JL a) k:=by
  obtain ⟨a0,a1⟩:=a
  simp only [JL,zrA,zj,zg,zl,zc,zi,zm,zh]
def zr0:zbU→List AV:=fun (a0,a1)=>[.int .i64 a0,.int .i64 a1]
def zyN (l:List AV):Option {a:zbU // l=zr0 a}:=match l with
  | [.int .i64 a0,.int .i64 a1]=>some ⟨(a0,a1),rfl⟩
  | _=>none
def zFg (l:List AV):Option zbU:=pk (zyN l)
theorem zJB (l:List AV) (a:zbU) (h:zFg l=some a):l=zr0 a:=zx (o:=zyN l) h
def zuo:zbU→zCJ→AV:=fun (a0,a1)=>fun r_y => .bool r_y
theorem zKe : ∀(a:zbU) (y:zCJ),(zuo a y).closed1=true:=by
  rintro ⟨a0,a1⟩ y <;> first | rfl | exact Empty.elim y
theorem zRQ (a:zbU):fnE Tryz.tab zrT zf 0 70 69 Tryz.f69.ntmps Tryz.f69.results.toList zMV zQ7 (zr0 a) [] (fun v _=>some (v,[]))=zrA a (fun y=>some (zuo a y,[])):=by kernel_rfl
def zVt (a:zbU) (K:AV→Ans):Ans:=za (JL a) fun y=>K (zuo a y)
def zQI:List AV→(AV→Ans)→Ans:=fun l K=>za (zFg l) fun a=>zVt a K
theorem zFn:zV Tryz.prog 69 zQI:=zX (hint:=zf) (d:=0) (n:=70) mixed tabOk zAV Tryz.func69 (zI (by kernel_rfl)) (by decide +kernel) zOH zJB zRQ zNE zKe
--@ super_Check
noncomputable def zrE:Env:=[(68,.pure zRh),(69,.pure zQI)]
theorem zzJ:zd Tryz.prog zrE:=zd.cons zEw (zd.cons zFn (zd.nil))
noncomputable def zRl:Code:=Tryz.f34.body.getD .skip
noncomputable def zls:Code:=zL [1,1,0,0] zRl
noncomputable def zrX:Ann := .none
theorem zw6:zr Tryz.prog 36 zls zrX:=(zb _ _ _)
abbrev qJ:=(Int)×(Int)×(Int)×(Int)×(Int)×(Int)×(Int)
abbrev zjW:=(Bool)
def zt5:qJ→St:=fun (o0_0,o0_1,o0_2,o0_3,o0_4,o0_5,o0_6)=>{ env:=[(1,.ptr 0 0)],stk:=[[]],H:=[.cells [.int .i64 o0_0,.int .i64 o0_1,.int .i64 o0_2,.int .i64 o0_3,.int .i64 o0_4,.int .i64 o0_5,.int .i64 o0_6]],blk:=139264 }
def zqC (s:St):Option {x:qJ // s=zt5 x}:=match s with
  | { env:=[(1,.ptr 0 0)],stk:=[[]],H:=[.cells [.int .i64 o0_0,.int .i64 o0_1,.int .i64 o0_2,.int .i64 o0_3,.int .i64 o0_4,.int .i64 o0_5,.int .i64 o0_6]],blk:=139264 }=>some ⟨(o0_0,o0_1,o0_2,o0_3,o0_4,o0_5,o0_6),rfl⟩
  | _=>none
def zhZ (s:St):Option qJ:=pk (zqC s)
theorem zzs (s:St) (x:qJ) (h:zhZ s=some x):s=zt5 x:=zx (o:=zqC s) h
def ziB:qJ→(Ex→St→Ans)→zjW→Ans:=fun (o0_0,o0_1,o0_2,o0_3,o0_4,o0_5,o0_6) K=>fun t35_y=>K (Ex.norm) { env:=[(35,.bool t35_y)],stk:=[[]],H:=[],blk:=139264 }
def j4 {β:Type}:qJ→(zjW→Option β)→Option β:=fun (o0_0,o0_1,o0_2,o0_3,o0_4,o0_5,o0_6) exit=>(za (JL (o0_0,(1:Int))) fun r=>(bif !r then (exit (true)) else (za (JL (o0_1,(1:Int))) fun r_2=>(bif !r_2 then (exit (true)) else (za (JL (o0_2,(16777216:Int))) fun r_3=>(bif !r_3 then (exit (true)) else (za (JL (o0_3,IntKind.wrap .i64 (o0_4 - (1:Int)))) fun r_4=>(exit (!r_4)))))))))
def WC (i:qJ):Option zjW:=j4 i some
theorem zuN (i:qJ) (k:zjW→Ans):j4 i k=za (WC i) k:=by
  obtain ⟨o0_0,o0_1,o0_2,o0_3,o0_4,o0_5,o0_6⟩:=i
  simp only [WC,j4,zj,zg,zl,zc,zi,zm,zh]
theorem zx1 (i:qJ) (K:Ex→St→Ans):zA Tryz.tab zrE zf (zD Tryz.tab zrE zf 0 64) 70 36 zrX zls (zH 0 (exk [35] [2] []) K) (zt5 i)=j4 i (ziB i K):=by kernel_rfl
theorem zC9:zy Tryz.prog 36 zls (zG zhZ WC ziB):=zB mixed tabOk zzJ 0 (exk [35] [2] []) zw6 zzs zx1 zuN
noncomputable def zE3:(Ex→St→Ans)→St→Ans:=(zG zhZ WC ziB)
theorem zKs:zy Tryz.prog 36 zls zE3:=zC9
noncomputable def zM4:Ann:=(.seq .none (.seq .none (.seq (.seq (.cut 0 [1] zE3) .none) .none)))
theorem zMM:zr Tryz.prog 36 zRl zM4:=⟨(zb _ _ _),⟨(zb _ _ _),⟨⟨zKs,(zb _ _ _)⟩,(zb _ _ _)⟩⟩⟩
abbrev zcg:=(Int)×(Int)×(Int)×(Int)×(Int)×(Int)×(Int)
abbrev zCt:=(Int)
def zrk {β:Type}:zcg→(zCt→Option β)→Option β:=fun (a0_0,a0_1,a0_2,a0_3,a0_4,a0_5,a0_6) exit=>(za (zeT (a0_4,a0_5,a0_6)) fun r=>(bif r != (0:Int) then (exit (r)) else (za (WC (a0_0,a0_1,a0_2,a0_3,a0_4,a0_5,a0_6)) fun t35=>(bif t35 then (exit ((3:Int))) else (exit ((0:Int)))))))
def zcU (a:zcg):Option zCt:=zrk a some
theorem zMs (a:zcg) (k:zCt→Ans):zrk a k=za (zcU a) k:=by
  obtain ⟨a0_0,a0_1,a0_2,a0_3,a0_4,a0_5,a0_6⟩:=a
  simp only [zcU,zrk,zj,zg,zl,zc,zi,zm,zh]
def zui:zcg→List AV:=fun (a0_0,a0_1,a0_2,a0_3,a0_4,a0_5,a0_6)=>[.agg [.int .i64 a0_0,.int .i64 a0_1,.int .i64 a0_2,.int .i64 a0_3,.int .i64 a0_4,.int .i64 a0_5,.int .i64 a0_6]]
def zBd (l:List AV):Option {a:zcg // l=zui a}:=match l with
  | [.agg [.int .i64 a0_0,.int .i64 a0_1,.int .i64 a0_2,.int .i64 a0_3,.int .i64 a0_4,.int .i64 a0_5,.int .i64 a0_6]]=>some ⟨(a0_0,a0_1,a0_2,a0_3,a0_4,a0_5,a0_6),rfl⟩
  | _=>none
def zFV (l:List AV):Option zcg:=pk (zBd l)
theorem zKE (l:List AV) (a:zcg) (h:zFV l=some a):l=zui a:=zx (o:=zBd l) h
def zsV:zcg→zCt→AV:=fun (a0_0,a0_1,a0_2,a0_3,a0_4,a0_5,a0_6)=>fun r_y => .int .i64 r_y
theorem zIN : ∀(a:zcg) (y:zCt),(zsV a y).closed1=true:=by
  rintro ⟨a0_0,a0_1,a0_2,a0_3,a0_4,a0_5,a0_6⟩ y <;> first | rfl | exact Empty.elim y
theorem zRL (a:zcg):fnE Tryz.tab zrE zf 0 70 34 Tryz.f34.ntmps Tryz.f34.results.toList zM4 zRl (zui a) [] (fun v _=>some (v,[]))=zrk a (fun y=>some (zsV a y,[])):=by kernel_rfl
def zVW (a:zcg) (K:AV→Ans):Ans:=za (zcU a) fun y=>K (zsV a y)
def zKv:List AV→(AV→Ans)→Ans:=fun l K=>za (zFV l) fun a=>zVW a K
theorem zsm:zV Tryz.prog 34 zKv:=zX (hint:=zf) (d:=0) (n:=70) mixed tabOk zzJ Tryz.func34 (zI (by kernel_rfl)) (by decide +kernel) zMM zKE zRL zMs zIN
--@ field_Fits
noncomputable def zo8:Env:=[(92,.pure zJv)]
theorem zzw:zd Tryz.prog zo8:=zd.cons zup (zd.nil)
noncomputable def zQ3:Code:=Tryz.f98.body.getD .skip
noncomputable def zj9:Code:=zL [1,0] zQ3
noncomputable def zrB:Ann := .none
theorem zxy:zr Tryz.prog 18 zj9 zrB:=(zb _ _ _)
abbrev Qc:=(Int)×(Int)
abbrev zkS:=(Bool)
def zsc:Qc→St:=fun (t0,t1)=>{ env:=[(0,.int .i64 t0),(1,.int .i64 t1)],stk:=[[]],H:=[],blk:=401408 }
def zpr (s:St):Option {x:Qc // s=zsc x}:=match s with
  | { env:=[(0,.int .i64 t0),(1,.int .i64 t1)],stk:=[[]],H:=[],blk:=401408 }=>some ⟨(t0,t1),rfl⟩
  | _=>none
def zgG (s:St):Option Qc:=pk (zpr s)
theorem zBl (s:St) (x:Qc) (h:zgG s=some x):s=zsc x:=zx (o:=zpr s) h
def zjq:Qc→(Ex→St→Ans)→zkS→Ans:=fun (t0,t1) K=>fun t4_y=>K (Ex.norm) { env:=[(4,.bool t4_y)],stk:=[[]],H:=[],blk:=401408 }
def jF {β:Type}:Qc→(zkS→Option β)→Option β:=fun (t0,t1) exit=>(za (za3 (t1)) fun r=>(bif r then (bif decide (t0≥(0:Int)) then (bif decide (IntKind.wrap .i64 ((8:Int)*t1)<(0:Int)) then none else (exit (Int.fdiv t0 ((2:Int) ^ min (Int.toNat (IntKind.wrap .i64 ((8:Int)*t1))) (64:Nat)) == (0:Int)))) else (exit (false))) else (exit (false))))
def WE (i:Qc):Option zkS:=jF i some
theorem zvv (i:Qc) (k:zkS→Ans):jF i k=za (WE i) k:=by
  obtain ⟨t0,t1⟩:=i
  simp only [WE,jF,zj,zg,zl,zc,zi,zm,zh]
theorem zwC (i:Qc) (K:Ex→St→Ans):zA Tryz.tab zo8 zf (zD Tryz.tab zo8 zf 0 64) 70 18 zrB zj9 (zH 0 (exk [4] [4] []) K) (zsc i)=jF i (zjq i K):=by kernel_rfl
theorem zDq:zy Tryz.prog 18 zj9 (zG zgG WE zjq):=zB mixed tabOk zzw 0 (exk [4] [4] []) zxy zBl zwC zvv
noncomputable def zFD:(Ex→St→Ans)→St→Ans:=(zG zgG WE zjq)
theorem zJ8:zy Tryz.prog 18 zj9 zFD:=zDq
noncomputable def zOZ:Ann:=(.seq .none (.seq (.cut 0 [0,1] zFD) .none))
theorem zNf:zr Tryz.prog 18 zQ3 zOZ:=⟨(zb _ _ _),⟨zJ8,(zb _ _ _)⟩⟩
abbrev zcp:=(Int)×(Int)
abbrev zBr:=(Bool)
def zoK {β:Type}:zcp→(zBr→Option β)→Option β:=fun (a0,a1) exit=>(za (WE (a0,a1)) fun t4=>(exit (t4)))
def zey (a:zcp):Option zBr:=zoK a some
theorem zOF (a:zcp) (k:zBr→Ans):zoK a k=za (zey a) k:=by
  obtain ⟨a0,a1⟩:=a
  simp only [zey,zoK,zj,zg,zl,zc,zi,zm,zh]
def ztQ:zcp→List AV:=fun (a0,a1)=>[.int .i64 a0,.int .i64 a1]
def zzG (l:List AV):Option {a:zcp // l=ztQ a}:=match l with
  | [.int .i64 a0,.int .i64 a1]=>some ⟨(a0,a1),rfl⟩
  | _=>none
def zEK (l:List AV):Option zcp:=pk (zzG l)
theorem zJu (l:List AV) (a:zcp) (h:zEK l=some a):l=ztQ a:=zx (o:=zzG l) h
def zty:zcp→zBr→AV:=fun (a0,a1)=>fun r_y => .bool r_y
theorem zHW : ∀(a:zcp) (y:zBr),(zty a y).closed1=true:=by
  rintro ⟨a0,a1⟩ y <;> first | rfl | exact Empty.elim y
theorem zQY (a:zcp):fnE Tryz.tab zo8 zf 0 70 98 Tryz.f98.ntmps Tryz.f98.results.toList zOZ zQ3 (ztQ a) [] (fun v _=>some (v,[]))=zoK a (fun y=>some (zty a y,[])):=by kernel_rfl
def zVA (a:zcp) (K:AV→Ans):Ans:=za (zey a) fun y=>K (zty a y)
def zRY:List AV→(AV→Ans)→Ans:=fun l K=>za (zEK l) fun a=>zVA a K
theorem zGi:zV Tryz.prog 98 zRY:=zX (hint:=zf) (d:=0) (n:=70) mixed tabOk zzw Tryz.func98 (zI (by kernel_rfl)) (by decide +kernel) zNf zJu zQY zOF zHW
--@ field_Put
noncomputable def ze8:Env:=[(98,.pure zRY)]
theorem zBR:zd Tryz.prog ze8:=zd.cons zGi (zd.nil)
noncomputable def zPn:Code:=Tryz.f57.body.getD .skip
noncomputable def zeQ:Code:=zL [1,1,1,0,1,0,0] zPn
noncomputable def zgj:Ann := .at 0 [0,1,2,7,17,18] (.loop .none)
theorem zw8:zr Tryz.prog 37 (.loop zeQ) zgj:=yG (zb _ _ _)
abbrev Qa:=(List UInt8)×(Int)×(Int)×(Int)
abbrev zjR:=(List Int)
abbrev wv:=(Int)×(List Int)
def zkz:Qa→wv→St:=fun (t0,t1,t2,t17) (t18,o0)=>{ env:=[(0,.str t0),(1,.int .i64 t1),(2,.int .i64 t2),(7,.own 0),(17,.int .i64 t17),(18,.int .i64 t18)],stk:=[[]],H:=[.arr (.int .u8) o0],blk:=233472 }
def zra (s:St):Option {x:Qa×wv // s=zkz x.1 x.2}:=match s with
  | { env:=[(0,.str t0),(1,.int .i64 t1),(2,.int .i64 t2),(7,.own 0),(17,.int .i64 t17),(18,.int .i64 t18)],stk:=[[]],H:=[.arr (.int .u8) o0],blk:=233472 }=>some ⟨((t0,t1,t2,t17),(t18,o0)),rfl⟩
  | _=>none
def zio (s:St):Option (Qa×wv):=pk (zra s)
theorem zAJ (s:St) (x:Qa×wv) (h:zio s=some x):s=zkz x.1 x.2:=zx (o:=zra s) h
def ziY:Qa→(Ex→St→Ans)→zjR→Ans:=fun (t0,t1,t2,t17) K=>fun o0_y=>K (Ex.exit 0) { env:=[(0,.str t0),(7,.own 0)],stk:=[[]],H:=[.arr (.int .u8) o0_y],blk:=233472 }
def QJ {β:Type}:Qa→wv→(wv→Option β)→(zjR→Option β)→Option β:=fun (t0,t1,t2,t17) (t18,o0) next exit=>(bif decide (t18<t17) then (bif decide (IntKind.wrap .i64 ((8:Int)*IntKind.wrap .i64 (IntKind.wrap .i64 (t2 - (1:Int)) - t18))<(0:Int)) then none else (bif inR t18 (List.length o0) then (za (o0[Int.toNat t18]?) fun x=>(next (IntKind.wrap .i64 (t18+(1:Int)),List.set o0 (Int.toNat t18) (IntKind.wrap .u8 (Int.fdiv t1 ((2:Int) ^ min (Int.toNat (IntKind.wrap .i64 ((8:Int)*IntKind.wrap .i64 (IntKind.wrap .i64 (t2 - (1:Int)) - t18)))) (64:Nat))))))) else none)) else (exit (o0)))
def yL (i:Qa) (v:wv):Option (wv ⊕ zjR):=QJ i v (fun v=>some (.inl v)) (fun y=>some (.inr y))
theorem zux (i:Qa) (v:wv) (next:wv→Ans) (exit:zjR→Ans):QJ i v next exit=za (yL i v) (Sum.elim next exit):=by
  obtain ⟨t0,t1,t2,t17⟩:=i
  obtain ⟨t18,o0⟩:=v
  simp only [yL,QJ,zj,zg,zl,zc,zi,zm,zh,Sum.elim_inl,Sum.elim_inr]
theorem zxb (n:Nat) (i:Qa) (v:wv) (K:Ex→St→Ans):zA Tryz.tab ze8 zf (zD Tryz.tab ze8 zf 0 64) (n+1) 37 zgj (.loop zeQ) (zH 0 (exk [0,7] [6] [(0,[0,7])]) K) (zkz i v)=QJ i v (fun v'=>zA Tryz.tab ze8 zf (zD Tryz.tab ze8 zf 0 64) n 37 zgj (.loop zeQ) (zH 0 (exk [0,7] [6] [(0,[0,7])]) K) (zkz i v')) (fun y=>ziY i K y):=by kernel_rfl
theorem zDp:zy Tryz.prog 37 (.loop zeQ) (y9 zio yL ziY):=yQ mixed tabOk zBR 0 (exk [0,7] [6] [(0,[0,7])]) zw8 zAJ zxb zux
noncomputable def zGI:(Ex→St→Ans)→St→Ans:=(y9 zio yL ziY)
theorem zG4:zy Tryz.prog 37 (.loop zeQ) zGI:=zDp
noncomputable def zMD:Ann:=(.seq .none (.seq .none (.seq .none (.seq (.seq .none (.block (.cut 0 [0,1,2,7,17,18] zGI))) .none))))
theorem zLu:zr Tryz.prog 37 zPn zMD:=⟨(zb _ _ _),⟨(zb _ _ _),⟨(zb _ _ _),⟨⟨(zb _ _ _),zG4⟩,(zb _ _ _)⟩⟩⟩⟩
abbrev zcP:=(List UInt8)×(Int)×(Int)
abbrev zCM:=(List UInt8)
def zoL {β:Type}:zcP→(zCM→Option β)→Option β:=fun (a0,a1,a2) exit=>(za (zey (a1,a2)) fun r=>(bif !r then (exit (a0)) else (bif decide ((0:Int)≤a2)&&decide (a2≤a2)&&decide ((1:Int)*a2≤(281474976710656:Int))&&decide (a2≤(9223372036854775807:Int)) then (za (zZ (yL (a0,a1,a2,(↑(List.length (List.replicate (Int.toNat a2) (0:Int))):Int))) Zo ((0:Int),List.replicate (Int.toNat a2) (0:Int))) fun o0=>(bif Nat.ble (List.length a0+List.length (z6 o0)) (9223372036854775807:Nat) then (exit (a0++z6 o0)) else none)) else none)))
def Zt (a:zcP):Option zCM:=zoL a some
theorem zNm (a:zcP) (k:zCM→Ans):zoL a k=za (Zt a) k:=by
  obtain ⟨a0,a1,a2⟩:=a
  simp only [Zt,zoL,zj,zg,zl,zc,zi,zm,zh]
def zus:zcP→List AV:=fun (a0,a1,a2)=>[.str a0,.int .i64 a1,.int .i64 a2]
def zCo (l:List AV):Option {a:zcP // l=zus a}:=match l with
  | [.str a0,.int .i64 a1,.int .i64 a2]=>some ⟨(a0,a1,a2),rfl⟩
  | _=>none
def zEE (l:List AV):Option zcP:=pk (zCo l)
theorem zHj (l:List AV) (a:zcP) (h:zEE l=some a):l=zus a:=zx (o:=zCo l) h
def zsE:zcP→zCM→AV:=fun (a0,a1,a2)=>fun r_y => .str r_y
theorem zKp : ∀(a:zcP) (y:zCM),(zsE a y).closed1=true:=by
  rintro ⟨a0,a1,a2⟩ y <;> first | rfl | exact Empty.elim y
theorem zPr (a:zcP):fnE Tryz.tab ze8 zf 0 70 57 Tryz.f57.ntmps Tryz.f57.results.toList zMD zPn (zus a) [] (fun v _=>some (v,[]))=zoL a (fun y=>some (zsE a y,[])):=by kernel_rfl
def zV3 (a:zcP) (K:AV→Ans):Ans:=za (Zt a) fun y=>K (zsE a y)
def ziN:List AV→(AV→Ans)→Ans:=fun l K=>za (zEE l) fun a=>zV3 a K
theorem zae:zV Tryz.prog 57 ziN:=zX (hint:=zf) (d:=0) (n:=70) mixed tabOk zBR Tryz.func57 (zI (by kernel_rfl)) (by decide +kernel) zLu zHj zPr zNm zKp
end Go.Proofs.R9

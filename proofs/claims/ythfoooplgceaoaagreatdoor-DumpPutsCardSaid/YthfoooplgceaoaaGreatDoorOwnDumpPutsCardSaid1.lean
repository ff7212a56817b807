/- What the functions that DumpPutsCardSaid reaches compute: part 1. -/
import Derived.Test.YthfoooplgceaoaaGreatDoorAe6
import Derived.Test.YthfoooplgceaoaaGreatDoorProg
import Derived.Test.YthfoooplgceaoaaGreatDoorChecked
import Derived.Eval
import Derived.Shelf.Strings.Builder1
import Derived.Shelf.Strings.Builder2
import Derived.Shelf.Strings.BuilderF
import Derived.Shelf.Strings.Prefix
import Derived.Shelf.Bits.Mul64
import Derived.Shelf.Strings.Repeat
import Derived.Shelf.Sort.Plain
import Derived.Shelf.Slices.In.SortNone
import Derived.Shelf.Strings.OnBuilder
set_option linter.unusedVariables false
set_option linter.unusedSimpArgs false
namespace Go.Plain
def zyH:Nat:=3988292384
def Z9 (n:Nat):Nat:=(n / 2) ^^^ (if n % 2=1 then zyH else 0)
def ya:Nat→Nat→Nat
  | 0,n=>n
  | k+1,n=>ya k (Z9 n)
def y8 (n c:Nat):Nat:=ya 8 (n ^^^ c)
def Y9 (n:Nat) (s:List UInt8):Nat:=s.foldl (fun n c=>y8 n c.toNat) n
def yf:Nat:=4294967295
def crc (s:List UInt8):Nat:=Y9 yf s ^^^ yf
def le4 (n:Nat):List UInt8:=[UInt8.ofNat (n % 256),UInt8.ofNat (n / 256 % 256),UInt8.ofNat (n / 65536 % 256),UInt8.ofNat (n / 16777216 % 256)]
def tail (s:List UInt8):List UInt8:=le4 (crc s)
theorem JU {n:Nat} (h:n<2 ^ 32):Z9 n<2 ^ 32:=by
  unfold Z9
  refine Nat.xor_lt_two_pow (by omega) ?_
  unfold zyH
  split <;> decide
theorem zqw {n:Nat} (h:n<2 ^ 32):(Z9 n).testBit 31=decide (n % 2=1):=by
  unfold Z9
  rw [Nat.testBit_xor]
  have h1:(n / 2).testBit 31=false:=Nat.testBit_lt_two_pow (by omega)
  rw [h1]
  by_cases hn:n % 2=1
  · rw [if_pos hn];simp [hn];decide
  · rw [if_neg hn];simp [hn]
theorem ziS {a b c:Nat} (h:a ^^^ c=b ^^^ c):a=b:=by
  have:(a ^^^ c) ^^^ c=(b ^^^ c) ^^^ c:=by rw [h]
  rwa [Nat.xor_assoc,Nat.xor_assoc,Nat.xor_self,Nat.xor_zero,Nat.xor_zero] at this
theorem zOf {n m:Nat} (hn:n<2 ^ 32) (hm:m<2 ^ 32) (h:Z9 n=Z9 m):n=m:=by
  have hb:=zqw hn
  rw [h,zqw hm] at hb
  have hp:m % 2=1↔n % 2=1:=by simpa using hb
  unfold Z9 at h
  by_cases e:n % 2=1
  · have e':=hp.2 e
    rw [if_pos e,if_pos e'] at h
    have:=ziS h
    omega
  · have e' : ¬m % 2=1:=fun x=>e (hp.1 x)
    rw [if_neg e,if_neg e',Nat.xor_zero,Nat.xor_zero] at h
    omega
theorem zNU (a b:Nat):Z9 (a ^^^ b)=Z9 a ^^^ Z9 b:=by
  unfold Z9
  have h1:(a ^^^ b) / 2=a / 2 ^^^ b / 2:=by
    have:=Nat.shiftRight_xor_distrib (a:=a) (b:=b) (i:=1)
    simpa [Nat.shiftRight_eq_div_pow] using this
  have h2:(a ^^^ b) % 2=(a % 2) ^^^ (b % 2):=by
    have:=Nat.xor_mod_two_pow (a:=a) (b:=b) (n:=1)
    simpa using this
  rw [h1,h2]
  have ha:a % 2=0∨a % 2=1:=by omega
  have hb:b % 2=0∨b % 2=1:=by omega
  rcases ha with ha | ha <;> rcases hb with hb | hb <;> rw [ha,hb]
  · simp
  · simp [Nat.xor_assoc]
  · simp
    rw [Nat.xor_assoc,Nat.xor_comm (b / 2),← Nat.xor_assoc]
  · simp
    rw [Nat.xor_assoc,← Nat.xor_assoc zyH,Nat.xor_comm zyH,Nat.xor_assoc,Nat.xor_self,Nat.xor_zero]
theorem zpF : ∀(k:Nat) {n:Nat},n<2 ^ 32→ya k n<2 ^ 32
  | 0,_,h=>h
  | k+1,_,h=>zpF k (JU h)
theorem zq2 : ∀(k:Nat) {n m:Nat},n<2 ^ 32→m<2 ^ 32→ya k n=ya k m→n=m
  | 0,_,_,_,_,h=>h
  | k+1,_,_,hn,hm,h=>zOf hn hm (zq2 k (JU hn) (JU hm) h)
theorem zHY : ∀(k a b:Nat),ya k (a ^^^ b)=ya k a ^^^ ya k b
  | 0,_,_=>rfl
  | k+1,a,b=>by rw [ya,zNU,zHY k];rfl
theorem zuJ : ∀(k c:Nat),ya k (c*2 ^ k)=c
  | 0,c=>by simp [ya]
  | k+1,c=>by
    have:Z9 (c*2 ^ (k+1))=c*2 ^ k:=by
      unfold Z9
      have h1:c*2 ^ (k+1)=2*(c*2 ^ k):=by rw [Nat.pow_succ,← Nat.mul_assoc,Nat.mul_comm]
      rw [h1,if_neg (by omega),Nat.xor_zero]
      omega
    rw [ya,this]
    exact zuJ k c
theorem zr2 : ∀(j k n:Nat),ya k (ya j n)=ya (j+k) n
  | 0,k,n=>by rw [Nat.zero_add];rfl
  | j+1,k,n=>by rw [ya,zr2 j k,show j+1+k=(j+k)+1 by omega];rfl
theorem zfv {n c:Nat} (hn:n<2 ^ 32) (hc:c<256):y8 n c<2 ^ 32:=zpF 8 (Nat.xor_lt_two_pow hn (by omega))
theorem zaB : ∀(s:List UInt8) {n:Nat},n<2 ^ 32→Y9 n s<2 ^ 32
  | [],_,h=>h
  | c::s,_,h=>zaB s (zfv h c.toNat_lt)
theorem zPV : ∀(s:List UInt8) {n m:Nat},n<2 ^ 32→m<2 ^ 32→Y9 n s=Y9 m s→n=m
  | [],_,_,_,_,h=>h
  | c::s,n,m,hn,hm,h=>by
    have hc:c.toNat<2 ^ 32:=by have:=c.toNat_lt;omega
    exact ziS (zq2 8 (Nat.xor_lt_two_pow hn hc) (Nat.xor_lt_two_pow hm hc) (zPV s (zfv hn c.toNat_lt) (zfv hm c.toNat_lt) h))
theorem Qb (n:Nat) (s t:List UInt8):Y9 n (s++t)=Y9 (Y9 n s) t:=List.foldl_append ..
theorem zjL (n:Nat) (k c:Nat):y8 (ya k n) c=ya (k+8) (n ^^^ (c*2 ^ k)):=by
  unfold y8
  rw [← zr2,zHY k,zuJ]
theorem z5K (n:Nat) (a b c d:UInt8):Y9 n [a,b,c,d]=ya 32 (n ^^^ (a.toNat ^^^ b.toNat*2 ^ 8 ^^^ c.toNat*2 ^ 16 ^^^ d.toNat*2 ^ 24)):=by
  show y8 (y8 (y8 (y8 n a.toNat) b.toNat) c.toNat) d.toNat=_
  have h0:y8 n a.toNat=ya 8 (n ^^^ a.toNat):=rfl
  rw [h0,zjL,zjL,zjL]
  congr 1
  simp only [Nat.xor_assoc]
theorem zz9 {a:Nat} (x:Nat) (ha:a<256):a ^^^ x*256=x*256+a:=by
  have h1:(a ^^^ x*256) % 256=a:=by
    have:=Nat.xor_mod_two_pow (a:=a) (b:=x*256) (n:=8)
    simp only [show (2:Nat) ^ 8=256 from rfl] at this
    rw [this,Nat.mod_eq_of_lt ha,Nat.mul_mod_left,Nat.xor_zero]
  have h2:(a ^^^ x*256) / 256=x:=by
    have:=Nat.shiftRight_xor_distrib (a:=a) (b:=x*256) (i:=8)
    simp only [Nat.shiftRight_eq_div_pow,show (2:Nat) ^ 8=256 from rfl] at this
    rw [this,Nat.div_eq_of_lt ha,Nat.zero_xor,Nat.mul_div_cancel _ (by omega)]
  have:=Nat.div_add_mod (a ^^^ x*256) 256
  rw [h1,h2] at this
  omega
theorem ziy (a b c d:UInt8):a.toNat ^^^ b.toNat*2 ^ 8 ^^^ c.toNat*2 ^ 16 ^^^ d.toNat*2 ^ 24=a.toNat+b.toNat*256+c.toNat*65536+d.toNat*16777216:=by
  have ha:=a.toNat_lt;have hb:=b.toNat_lt;have hc:=c.toNat_lt
  have mulx : ∀x y k:Nat,(x ^^^ y)*2 ^ k=x*2 ^ k ^^^ y*2 ^ k:=fun x y k=>by
    rw [← Nat.shiftLeft_eq,← Nat.shiftLeft_eq,← Nat.shiftLeft_eq,Nat.shiftLeft_xor_distrib]
  have e1:c.toNat ^^^ d.toNat*256=d.toNat*256+c.toNat:=zz9 _ (by omega)
  have e2:b.toNat ^^^ (d.toNat*256+c.toNat)*256=(d.toNat*256+c.toNat)*256+b.toNat:=zz9 _ (by omega)
  have e3:a.toNat ^^^ ((d.toNat*256+c.toNat)*256+b.toNat)*256=((d.toNat*256+c.toNat)*256+b.toNat)*256+a.toNat:=zz9 _ (by omega)
  have e4:a.toNat ^^^ b.toNat*2 ^ 8 ^^^ c.toNat*2 ^ 16 ^^^ d.toNat*2 ^ 24=a.toNat ^^^ (b.toNat ^^^ (c.toNat ^^^ d.toNat*256)*256)*256:=by
    have m1:=mulx c.toNat (d.toNat*256) 8
    have m2:=mulx b.toNat ((c.toNat ^^^ d.toNat*256)*256) 8
    simp only [show (2:Nat) ^ 8=256 from rfl] at m1 m2
    rw [m1] at m2 ⊢
    have m3:=mulx (c.toNat*256) (d.toNat*256*256) 8
    simp only [show (2:Nat) ^ 8=256 from rfl] at m3
    rw [m2,m3]
    simp only [Nat.mul_assoc,Nat.xor_assoc,show (256:Nat)*256=2 ^ 16 from rfl,show (256:Nat)*2 ^ 16=2 ^ 24 from rfl,show (256:Nat)=2 ^ 8 from rfl]
  rw [e4,e1,e2,e3]
  omega
theorem z6x {n m:Nat} (hn:n<2 ^ 32) {a b c d a' b' c' d':UInt8} (hnm:n=m) (h:Y9 n [a,b,c,d]=Y9 m [a',b',c',d']):[a,b,c,d]=[a',b',c',d']:=by
  subst hnm
  rw [z5K,z5K,ziy,ziy] at h
  have ha:=a.toNat_lt;have hb:=b.toNat_lt;have hc:=c.toNat_lt;have hd:=d.toNat_lt
  have ha':=a'.toNat_lt;have hb':=b'.toNat_lt;have hc':=c'.toNat_lt;have hd':=d'.toNat_lt
  have:=zq2 32 (Nat.xor_lt_two_pow hn (by omega)) (Nat.xor_lt_two_pow hn (by omega)) h
  rw [Nat.xor_comm n,Nat.xor_comm n] at this
  have:=ziS this
  have e1:a=a':=UInt8.toNat_inj.1 (by omega)
  have e2:b=b':=UInt8.toNat_inj.1 (by omega)
  have e3:c=c':=UInt8.toNat_inj.1 (by omega)
  have e4:d=d':=UInt8.toNat_inj.1 (by omega)
  rw [e1,e2,e3,e4]
def Whole (s:List UInt8):Prop := ∃m,s=m++tail m
def zQK:Nat:=ya 32 yf
theorem zse (m:List UInt8):crc m<2 ^ 32:=Nat.xor_lt_two_pow (zaB m (by decide)) (by decide)
theorem zbO {n:Nat} (h:n<256):(UInt8.ofNat n).toNat=n:=by
  rw [UInt8.toNat_ofNat'];omega
theorem zDk {s:List UInt8} (h:Whole s):Y9 yf s=zQK:=by
  obtain ⟨m,rfl⟩:=h
  rw [Qb,tail,le4,z5K,ziy]
  have hc:=zse m
  rw [zbO (by omega),zbO (by omega),zbO (by omega),zbO (by omega)]
  have e:crc m % 256+crc m / 256 % 256*256+crc m / 65536 % 256*65536+crc m / 16777216 % 256*16777216=crc m:=by omega
  rw [e]
  unfold crc zQK
  rw [← Nat.xor_assoc,Nat.xor_self,Nat.zero_xor]
theorem Zb9 {p w w' q:List UInt8} (hl:w.length=4) (hl':w'.length=4) (h:Whole (p++(w++q))) (h':Whole (p++(w'++q))):w=w':=by
  have e:=zDk h
  rw [← zDk h',Qb,Qb,Qb,Qb] at e
  have hp:=zaB p (n:=yf) (by decide)
  have e:=zPV q (zaB _ hp) (zaB _ hp) e
  match w,w',hl,hl',e with
  | [a,b,c,d],[a',b',c',d'],_,_,e=>exact z6x hp rfl e
theorem Zk (s:List UInt8):(tail s).length=4:=rfl
theorem z7B {s t:List UInt8} (k:Nat) (hl:s.length=t.length) (h4:4≤s.length) (hs:Whole s) (ht:Whole t) (h : ∀i,i<k∨k+4≤i→s[i]? = t[i]?):s=t:=by
  -- the four places,inside
  have key : ∀k,k+4≤s.length→(∀i,i<k∨k+4≤i→s[i]? = t[i]?)→s=t:=by
    intro k hk h
    have e1:s.take k=t.take k:=by
      apply List.ext_getElem?
      intro i
      rw [List.getElem?_take,List.getElem?_take]
      split
      · exact h i (.inl ‹_›)
      · rfl
    have e2:s.drop (k+4)=t.drop (k+4):=by
      apply List.ext_getElem?
      intro i
      rw [List.getElem?_drop,List.getElem?_drop]
      exact h _ (.inr (by omega))
    have ds:s=s.take k++((s.drop k).take 4++s.drop (k+4)):=by
      rw [show s.drop (k+4)=(s.drop k).drop 4 by rw [List.drop_drop],List.take_append_drop,List.take_append_drop]
    have dt:t=t.take k++((t.drop k).take 4++t.drop (k+4)):=by
      rw [show t.drop (k+4)=(t.drop k).drop 4 by rw [List.drop_drop],List.take_append_drop,List.take_append_drop]
    rw [ds] at hs
    rw [dt,← e1,← e2] at ht
    have:=Zb9 (by rw [List.length_take,List.length_drop];omega) (by rw [List.length_take,List.length_drop];omega) hs ht
    rw [ds,dt,this,e1,e2]
  by_cases hk:k+4≤s.length
  · exact key k hk h
  · refine key (s.length - 4) (by omega) fun i hi => ?_
    rcases hi with hi | hi
    · exact h i (.inl (by omega))
    · rw [List.getElem?_eq_none (by omega),List.getElem?_eq_none (by omega)]
end Go.Plain
namespace Go.Plain
def be:Nat→Nat→List UInt8
  | 0,_=>[]
  | k+1,n=>UInt8.ofNat (n / 256 ^ k % 256)::be k n
def num (s:List UInt8):Nat:=s.foldl (fun n c=>256*n+c.toNat) 0
theorem zW : ∀k n,(be k n).length=k
  | 0,_=>rfl
  | k+1,n=>by rw [be,List.length_cons,zW k n]
theorem zYP : ∀(k n i:Nat),i<k→(be k n)[i]? = some (UInt8.ofNat (n / 256 ^ (k - 1 - i) % 256))
  | 0,_,_,h=>by omega
  | k+1,n,0,_=>by rw [be];simp
  | k+1,n,i+1,h=>by
    rw [be,List.getElem?_cons_succ,zYP k n i (by omega),show k+1 - 1 - (i+1)=k - 1 - i by omega]
theorem zrk : ∀(s:List UInt8) (n:Nat),s.foldl (fun n c=>256*n+c.toNat) n=n*256 ^ s.length+num s
  | [],n=>by simp [num]
  | c::s,n=>by
    unfold num
    rw [List.foldl_cons,List.foldl_cons,zrk s,zrk s,List.length_cons,Nat.pow_succ,Nat.mul_zero,Nat.zero_add,Nat.add_mul,Nat.mul_comm 256 n,Nat.mul_assoc,Nat.mul_comm 256 (256 ^ s.length),Nat.add_assoc]
theorem zLs (c:UInt8) (s:List UInt8):num (c::s)=c.toNat*256 ^ s.length+num s:=by
  rw [num,List.foldl_cons,zrk,Nat.mul_zero,Nat.zero_add]
theorem z5O (s:List UInt8) (c:UInt8):num (s++[c])=256*num s+c.toNat:=by
  unfold num;rw [List.foldl_append];rfl
theorem zZA : ∀s:List UInt8,num s<256 ^ s.length
  | []=>by simp [num]
  | c::s=>by
    rw [zLs,List.length_cons,Nat.pow_succ]
    have h1:=zZA s
    have h2:c.toNat<256:=c.toNat_lt
    have:c.toNat*256 ^ s.length+256 ^ s.length≤256 ^ s.length*256:=by
      rw [← Nat.succ_mul,Nat.mul_comm]
      exact Nat.mul_le_mul_left _ h2
    omega
theorem zCS (n:Nat):(UInt8.ofNat (n % 256)).toNat=n % 256:=by
  rw [UInt8.toNat_ofNat'];omega
theorem zl7 : ∀(k n:Nat),num (be k n)=n % 256 ^ k
  | 0,n=>by simp [be,num,Nat.mod_one]
  | k+1,n=>by
    rw [be,zLs,zW,zCS,zl7 k n,Nat.pow_succ,Nat.mod_mul]
    rw [Nat.mul_comm,Nat.add_comm]
end Go.Plain
namespace Go.Plain
def Jg (s:List UInt8):List UInt8:=s++List.replicate ((64 - s.length % 64) % 64) 0
def zaX (L:Nat) (b:List UInt8):Prop := ∃m,m.length=L∧b=Jg (m++tail m)
theorem zba {m:List UInt8} (h:m.length+4≤64):Jg (m++tail m)=m++tail m++List.replicate (60 - m.length) 0:=by
  unfold Jg
  rw [List.length_append,Zk]
  congr 2
  omega
theorem zaX.length {L:Nat} {b:List UInt8} (h:zaX L b) (hL:L+4≤64):b.length=64:=by
  obtain ⟨m,hm,rfl⟩:=h
  rw [zba (by omega)]
  simp [Zk]
  omega
theorem zaX.whole {L:Nat} {b:List UInt8} (h:zaX L b) (hL:L+4≤64):Whole (b.take (L+4)):=by
  obtain ⟨m,hm,rfl⟩:=h
  rw [zba (by omega)]
  refine ⟨m,?_⟩
  rw [List.take_append_of_le_length (by simp [Zk];omega),List.take_of_length_le (by simp [Zk];omega)]
theorem zaX.rest {L:Nat} {b:List UInt8} (h:zaX L b) (hL:L+4≤64):b.drop (L+4)=List.replicate (60 - L) 0:=by
  obtain ⟨m,hm,rfl⟩:=h
  rw [zba (by omega),List.drop_append_of_le_length (by simp [Zk];omega),List.drop_eq_nil_of_le (by simp [Zk];omega),hm]
  rfl
structure Turned {α:Type} (k:Nat) (s t:List α):Prop where
  len:t.length=s.length
  out : ∀i,i<k∨k+4≤i→t[i]? = s[i]?
theorem Turned.refl {α:Type} (k:Nat) (s:List α):Turned k s s:=⟨rfl,fun _ _=>rfl⟩
theorem Turned.set {α:Type} {k:Nat} {s t:List α} (h:Turned k s t) {j:Nat} (hj:k≤j∧j<k+4) (v:α):Turned k s (t.set j v):=by
  refine ⟨by rw [List.length_set,h.len],fun i hi => ?_⟩
  rw [List.getElem?_set_ne (by omega)]
  exact h.out i hi
theorem Turned.map {α β:Type} {k:Nat} {s t:List α} (h:Turned k s t) (f:α→β):Turned k (s.map f) (t.map f) :=
  ⟨by rw [List.length_map,List.length_map,h.len],fun i hi=>by rw [List.getElem?_map,List.getElem?_map,h.out i hi]⟩
theorem zaX.turned {L:Nat} {s b:List UInt8} (hs:zaX L s) (hb:zaX L b) (hL:L+4≤64) {k:Nat} (h:Turned k s b):b=s:=by
  have e:b.take (L+4)=s.take (L+4):=by
    have h1:=hs.length hL
    have h2:=hb.length hL
    refine z7B k (by rw [List.length_take,List.length_take];omega) (by rw [List.length_take];omega) (hb.whole hL) (hs.whole hL) fun i hi => ?_
    rw [List.getElem?_take,List.getElem?_take,h.out i hi]
  rw [← List.take_append_drop (L+4) b,← List.take_append_drop (L+4) s,e,hs.rest hL,hb.rest hL]
end Go.Plain
namespace Go.Proofs
instance Tryz.bt:Go.AE.BT:=⟨5,153,[(32,"Error",306),(162,"solder/state.check",311),(162,"solder/state.side",181),(163,"solder/state.check",312),(163,"solder/state.side",182),(281,"Error",316),(281,"Unwrap",317)]⟩
def Tryz.tab:Go.AE.Tab:=[
  (1,⟨.sc,1,8,[.nilf],none⟩),
  (2,⟨.sc,1,8,[.int .i64 0],some (.int .i64)⟩),
  (3,⟨.sc,1,8,[.int .i64 0],some (.int .i64)⟩),
  (4,⟨.sc,1,1,[.bool false],some .bool⟩),
  (5,⟨.sc,1,1,[.int .u8 0],some (.int .u8)⟩),
  (7,⟨.struct [(2,0),(3,1),(4,2),(6,3)],4,24,[.int .i64 0,.int .i64 0,.bool false,.int .u8 0],some (.st (.pair (.int .i64) (.pair (.int .i64) (.pair .bool (.int .u8)))))⟩),
  (9,⟨.sc,1,16,[.str []],some .str⟩),
  (12,⟨.sc,1,8,[.int .u64 0],some (.int .u64)⟩),
  (20,⟨.sc,1,16,[.nili],none⟩),
  (21,⟨.sc,1,4,[.int .i32 0],some (.int .i32)⟩),
  (22,⟨.slice 9,1,24,[.nils],some (.list .str)⟩),
  (23,⟨.sc,1,8,[.nilf],none⟩),
  (24,⟨.struct [(3,0),(3,1),(3,2)],3,24,[.int .i64 0,.int .i64 0,.int .i64 0],some (.st (.pair (.int .i64) (.pair (.int .i64) (.int .i64))))⟩),
  (25,⟨.struct [(3,0),(3,1),(3,2)],3,24,[.int .i64 0,.int .i64 0,.int .i64 0],some (.st (.pair (.int .i64) (.pair (.int .i64) (.int .i64))))⟩),
  (26,⟨.struct [(3,0),(3,1),(3,2),(3,3),(25,4)],7,56,[.int .i64 0,.int .i64 0,.int .i64 0,.int .i64 0,.int .i64 0,.int .i64 0,.int .i64 0],some (.st (.pair (.int .i64) (.pair (.int .i64) (.pair (.int .i64) (.pair (.int .i64) (.pair (.int .i64) (.pair (.int .i64) (.int .i64))))))))⟩),
  (27,⟨.struct [(3,0),(3,1),(3,2),(3,3),(25,4)],7,56,[.int .i64 0,.int .i64 0,.int .i64 0,.int .i64 0,.int .i64 0,.int .i64 0,.int .i64 0],some (.st (.pair (.int .i64) (.pair (.int .i64) (.pair (.int .i64) (.pair (.int .i64) (.pair (.int .i64) (.pair (.int .i64) (.int .i64))))))))⟩),
  (28,⟨.slice 64,1,24,[.nils],some (.list (.st (.pair (.int .i64) (.pair (.pair (.int .i64) (.int .i64)) (.pair .str (.pair (.pair (.pair (.int .i64) (.int .i64)) .str) (.pair (.pair (.int .i64) (.int .i64)) .str)))))))⟩),
  (29,⟨.slice 4,1,24,[.nils],some (.list .bool)⟩),
  (30,⟨.struct [(27,0),(28,7),(29,8)],9,104,[.int .i64 0,.int .i64 0,.int .i64 0,.int .i64 0,.int .i64 0,.int .i64 0,.int .i64 0,.nils,.nils],some (.st (.pair (.pair (.int .i64) (.pair (.int .i64) (.pair (.int .i64) (.pair (.int .i64) (.pair (.int .i64) (.pair (.int .i64) (.int .i64))))))) (.pair (.list (.st (.pair (.int .i64) (.pair (.pair (.int .i64) (.int .i64)) (.pair .str (.pair (.pair (.pair (.int .i64) (.int .i64)) .str) (.pair (.pair (.int .i64) (.int .i64)) .str))))))) (.list .bool))))⟩),
  (31,⟨.struct [(27,0),(28,7),(29,8)],9,104,[.int .i64 0,.int .i64 0,.int .i64 0,.int .i64 0,.int .i64 0,.int .i64 0,.int .i64 0,.nils,.nils],some (.st (.pair (.pair (.int .i64) (.pair (.int .i64) (.pair (.int .i64) (.pair (.int .i64) (.pair (.int .i64) (.pair (.int .i64) (.int .i64))))))) (.pair (.list (.st (.pair (.int .i64) (.pair (.pair (.int .i64) (.int .i64)) (.pair .str (.pair (.pair (.pair (.int .i64) (.int .i64)) .str) (.pair (.pair (.int .i64) (.int .i64)) .str))))))) (.list .bool))))⟩),
  (32,⟨.sc,1,8,[.int .i64 0],some (.int .i64)⟩),
  (34,⟨.sc,1,8,[.nilf],none⟩),
  (36,⟨.sc,1,8,[.nilf],none⟩),
  (37,⟨.sc,1,8,[.nilf],none⟩),
  (38,⟨.sc,1,8,[.nilf],none⟩),
  (39,⟨.sc,1,8,[.nilf],none⟩),
  (40,⟨.array 3 3,3,24,[.int .i64 0,.int .i64 0,.int .i64 0],some (.st (.pair (.int .i64) (.pair (.int .i64) (.int .i64))))⟩),
  (41,⟨.array 4 5,4,4,[.int .u8 0,.int .u8 0,.int .u8 0,.int .u8 0],some (.st (.pair (.int .u8) (.pair (.int .u8) (.pair (.int .u8) (.int .u8)))))⟩),
  (42,⟨.sc,1,8,[.nilf],none⟩),
  (43,⟨.sc,1,8,[.int .u64 0],some (.int .u64)⟩),
  (44,⟨.slice 5,1,24,[.nils],some (.list (.int .u8))⟩),
  (45,⟨.sc,1,8,[.nilf],none⟩),
  (46,⟨.sc,1,8,[.nilf],none⟩),
  (47,⟨.ptr 132,1,8,[.nilp],none⟩),
  (48,⟨.sc,1,8,[.nilf],none⟩),
  (49,⟨.sc,1,8,[.nilf],none⟩),
  (50,⟨.sc,1,8,[.nilf],none⟩),
  (52,⟨.sc,1,8,[.nilf],none⟩),
  (53,⟨.sc,1,8,[.nilf],none⟩),
  (54,⟨.ptr 31,1,8,[.nilp],none⟩),
  (55,⟨.sc,1,8,[.nilf],none⟩),
  (56,⟨.slice 3,1,24,[.nils],some (.list (.int .i64))⟩),
  (58,⟨.sc,1,8,[.nilf],none⟩),
  (59,⟨.struct [(3,0),(3,1)],2,16,[.int .i64 0,.int .i64 0],some (.st (.pair (.int .i64) (.int .i64)))⟩),
  (60,⟨.struct [(3,0),(3,1)],2,16,[.int .i64 0,.int .i64 0],some (.st (.pair (.int .i64) (.int .i64)))⟩),
  (61,⟨.struct [(60,0),(9,2)],3,32,[.int .i64 0,.int .i64 0,.str []],some (.st (.pair (.pair (.int .i64) (.int .i64)) .str))⟩),
  (62,⟨.struct [(60,0),(9,2)],3,32,[.int .i64 0,.int .i64 0,.str []],some (.st (.pair (.pair (.int .i64) (.int .i64)) .str))⟩),
  (63,⟨.struct [(3,0),(60,1),(9,3),(62,4),(62,7)],10,104,[.int .i64 0,.int .i64 0,.int .i64 0,.str [],.int .i64 0,.int .i64 0,.str [],.int .i64 0,.int .i64 0,.str []],some (.st (.pair (.int .i64) (.pair (.pair (.int .i64) (.int .i64)) (.pair .str (.pair (.pair (.pair (.int .i64) (.int .i64)) .str) (.pair (.pair (.int .i64) (.int .i64)) .str))))))⟩),
  (64,⟨.struct [(3,0),(60,1),(9,3),(62,4),(62,7)],10,104,[.int .i64 0,.int .i64 0,.int .i64 0,.str [],.int .i64 0,.int .i64 0,.str [],.int .i64 0,.int .i64 0,.str []],some (.st (.pair (.int .i64) (.pair (.pair (.int .i64) (.int .i64)) (.pair .str (.pair (.pair (.pair (.int .i64) (.int .i64)) .str) (.pair (.pair (.int .i64) (.int .i64)) .str))))))⟩),
  (66,⟨.sc,1,8,[.nilf],none⟩),
  (67,⟨.sc,1,8,[.nilf],none⟩),
  (69,⟨.sc,1,8,[.nilf],none⟩),
  (70,⟨.sc,1,8,[.nilf],none⟩),
  (71,⟨.sc,1,8,[.nilf],none⟩),
  (72,⟨.sc,1,8,[.nilf],none⟩),
  (73,⟨.sc,1,8,[.nilf],none⟩),
  (74,⟨.sc,1,8,[.nilf],none⟩),
  (75,⟨.sc,1,8,[.nilf],none⟩),
  (76,⟨.sc,1,8,[.nilf],none⟩),
  (77,⟨.sc,1,8,[.nilf],none⟩),
  (78,⟨.sc,1,8,[.nilf],none⟩),
  (79,⟨.ptr 121,1,8,[.nilp],none⟩),
  (80,⟨.sc,1,8,[.nilf],none⟩),
  (81,⟨.sc,1,8,[.nilf],none⟩),
  (82,⟨.sc,1,8,[.nilf],none⟩),
  (84,⟨.sc,1,8,[.nilf],none⟩),
  (85,⟨.sc,1,8,[.nilf],none⟩),
  (86,⟨.ptr 144,1,8,[.nilp],none⟩),
  (87,⟨.sc,1,8,[.nilf],none⟩),
  (88,⟨.sc,1,8,[.nilf],none⟩),
  (89,⟨.sc,1,8,[.nilf],none⟩),
  (90,⟨.ptr 146,1,8,[.nilp],none⟩),
  (91,⟨.sc,1,8,[.nilf],none⟩),
  (92,⟨.sc,1,8,[.nilf],none⟩),
  (93,⟨.sc,1,8,[.nilf],none⟩),
  (94,⟨.sc,1,8,[.nilf],none⟩),
  (95,⟨.sc,1,8,[.nilf],none⟩),
  (96,⟨.sc,1,8,[.nilf],none⟩),
  (97,⟨.sc,1,8,[.nilf],none⟩),
  (98,⟨.sc,1,8,[.nilf],none⟩),
  (100,⟨.sc,1,8,[.nilf],none⟩),
  (101,⟨.ptr 103,1,8,[.nilp],none⟩),
  (102,⟨.struct [(9,0),(3,1),(32,2)],3,32,[.str [],.int .i64 0,.int .i64 0],some (.st (.pair .str (.pair (.int .i64) (.int .i64))))⟩),
  (103,⟨.struct [(9,0),(3,1),(32,2)],3,32,[.str [],.int .i64 0,.int .i64 0],some (.st (.pair .str (.pair (.int .i64) (.int .i64))))⟩),
  (104,⟨.sc,1,8,[.nilf],none⟩),
  (105,⟨.sc,1,8,[.nilf],none⟩),
  (106,⟨.sc,1,8,[.nilf],none⟩),
  (107,⟨.sc,1,8,[.nilf],none⟩),
  (108,⟨.sc,1,8,[.nilf],none⟩),
  (109,⟨.sc,1,16,[.nili],none⟩),
  (110,⟨.sc,1,16,[.nili],none⟩),
  (111,⟨.sc,1,8,[.nilf],none⟩),
  (112,⟨.sc,1,8,[.nilf],none⟩),
  (113,⟨.sc,1,8,[.nilf],none⟩),
  (114,⟨.struct [(3,0),(62,1),(62,4)],7,72,[.int .i64 0,.int .i64 0,.int .i64 0,.str [],.int .i64 0,.int .i64 0,.str []],some (.st (.pair (.int .i64) (.pair (.pair (.pair (.int .i64) (.int .i64)) .str) (.pair (.pair (.int .i64) (.int .i64)) .str))))⟩),
  (115,⟨.struct [(3,0),(62,1),(62,4)],7,72,[.int .i64 0,.int .i64 0,.int .i64 0,.str [],.int .i64 0,.int .i64 0,.str []],some (.st (.pair (.int .i64) (.pair (.pair (.pair (.int .i64) (.int .i64)) .str) (.pair (.pair (.int .i64) (.int .i64)) .str))))⟩),
  (116,⟨.sc,1,8,[.nilf],none⟩),
  (117,⟨.sc,1,8,[.nilf],none⟩),
  (118,⟨.map 3 9,1,8,[.nilm],none⟩),
  (119,⟨.slice 245,1,24,[.nils],some (.list (.st (.pair (.int .i64) .str)))⟩),
  (120,⟨.struct [(22,0),(118,1),(119,2),(3,3),(56,4),(3,5),(4,6)],7,104,[.nils,.nilm,.nils,.int .i64 0,.nils,.int .i64 0,.bool false],none⟩),
  (121,⟨.struct [(22,0),(118,1),(119,2),(3,3),(56,4),(3,5),(4,6)],7,104,[.nils,.nilm,.nils,.int .i64 0,.nils,.int .i64 0,.bool false],none⟩),
  (122,⟨.struct [(3,0),(3,1),(3,2),(3,3),(3,4),(3,5),(3,6)],7,56,[.int .i64 0,.int .i64 0,.int .i64 0,.int .i64 0,.int .i64 0,.int .i64 0,.int .i64 0],some (.st (.pair (.int .i64) (.pair (.int .i64) (.pair (.int .i64) (.pair (.int .i64) (.pair (.int .i64) (.pair (.int .i64) (.int .i64))))))))⟩),
  (123,⟨.struct [(3,0),(3,1),(3,2),(3,3),(3,4),(3,5),(3,6)],7,56,[.int .i64 0,.int .i64 0,.int .i64 0,.int .i64 0,.int .i64 0,.int .i64 0,.int .i64 0],some (.st (.pair (.int .i64) (.pair (.int .i64) (.pair (.int .i64) (.pair (.int .i64) (.pair (.int .i64) (.pair (.int .i64) (.int .i64))))))))⟩),
  (124,⟨.sc,1,8,[.nilf],none⟩),
  (125,⟨.sc,1,8,[.nilf],none⟩),
  (127,⟨.sc,1,8,[.nilf],none⟩),
  (128,⟨.ptr 181,1,8,[.nilp],none⟩),
  (129,⟨.ptr 214,1,8,[.nilp],none⟩),
  (130,⟨.ptr 220,1,8,[.nilp],none⟩),
  (131,⟨.struct [(128,0),(27,1),(129,8),(130,9),(86,10)],11,88,[.nilp,.int .i64 0,.int .i64 0,.int .i64 0,.int .i64 0,.int .i64 0,.int .i64 0,.int .i64 0,.nilp,.nilp,.nilp],none⟩),
  (132,⟨.struct [(128,0),(27,1),(129,8),(130,9),(86,10)],11,88,[.nilp,.int .i64 0,.int .i64 0,.int .i64 0,.int .i64 0,.int .i64 0,.int .i64 0,.int .i64 0,.nilp,.nilp,.nilp],none⟩),
  (133,⟨.sc,1,8,[.nilf],none⟩),
  (134,⟨.sc,1,8,[.nilf],none⟩),
  (135,⟨.struct [(60,0),(3,2)],3,24,[.int .i64 0,.int .i64 0,.int .i64 0],some (.st (.pair (.pair (.int .i64) (.int .i64)) (.int .i64)))⟩),
  (136,⟨.struct [(60,0),(3,2)],3,24,[.int .i64 0,.int .i64 0,.int .i64 0],some (.st (.pair (.pair (.int .i64) (.int .i64)) (.int .i64)))⟩),
  (138,⟨.sc,1,8,[.nilf],none⟩),
  (139,⟨.sc,1,8,[.nilf],none⟩),
  (140,⟨.sc,1,8,[.nilf],none⟩),
  (142,⟨.sc,1,8,[.nilf],none⟩),
  (143,⟨.struct [(3,0),(44,1)],2,32,[.int .i64 0,.nils],some (.st (.pair (.int .i64) (.list (.int .u8))))⟩),
  (144,⟨.struct [(3,0),(44,1)],2,32,[.int .i64 0,.nils],some (.st (.pair (.int .i64) (.list (.int .u8))))⟩),
  (145,⟨.struct [(9,0),(32,1)],2,24,[.str [],.int .i64 0],some (.st (.pair .str (.int .i64)))⟩),
  (146,⟨.struct [(9,0),(32,1)],2,24,[.str [],.int .i64 0],some (.st (.pair .str (.int .i64)))⟩),
  (147,⟨.sc,1,8,[.nilf],none⟩),
  (148,⟨.sc,1,8,[.int .u64 0],some (.int .u64)⟩),
  (149,⟨.sc,1,8,[.nilf],none⟩),
  (150,⟨.sc,1,8,[.nilf],none⟩),
  (151,⟨.ptr 153,1,8,[.nilp],none⟩),
  (152,⟨.struct [(151,0),(44,1)],2,32,[.nilp,.nils],none⟩),
  (153,⟨.struct [(151,0),(44,1)],2,32,[.nilp,.nils],none⟩),
  (154,⟨.sc,1,8,[.nilf],none⟩),
  (155,⟨.sc,1,16,[.nili],none⟩),
  (156,⟨.sc,1,16,[.nili],none⟩),
  (158,⟨.sc,1,8,[.nilf],none⟩),
  (159,⟨.sc,1,8,[.nilf],none⟩),
  (160,⟨.sc,1,8,[.nilf],none⟩),
  (161,⟨.struct [(64,0)],10,104,[.int .i64 0,.int .i64 0,.int .i64 0,.str [],.int .i64 0,.int .i64 0,.str [],.int .i64 0,.int .i64 0,.str []],some (.st (.pair (.int .i64) (.pair (.pair (.int .i64) (.int .i64)) (.pair .str (.pair (.pair (.pair (.int .i64) (.int .i64)) .str) (.pair (.pair (.int .i64) (.int .i64)) .str))))))⟩),
  (162,⟨.struct [(64,0)],10,104,[.int .i64 0,.int .i64 0,.int .i64 0,.str [],.int .i64 0,.int .i64 0,.str [],.int .i64 0,.int .i64 0,.str []],some (.st (.pair (.int .i64) (.pair (.pair (.int .i64) (.int .i64)) (.pair .str (.pair (.pair (.pair (.int .i64) (.int .i64)) .str) (.pair (.pair (.int .i64) (.int .i64)) .str))))))⟩),
  (163,⟨.struct [(64,0)],10,104,[.int .i64 0,.int .i64 0,.int .i64 0,.str [],.int .i64 0,.int .i64 0,.str [],.int .i64 0,.int .i64 0,.str []],some (.st (.pair (.int .i64) (.pair (.pair (.int .i64) (.int .i64)) (.pair .str (.pair (.pair (.pair (.int .i64) (.int .i64)) .str) (.pair (.pair (.int .i64) (.int .i64)) .str))))))⟩),
  (164,⟨.sc,1,8,[.nilf],none⟩),
  (166,⟨.sc,1,8,[.nilf],none⟩),
  (167,⟨.sc,1,8,[.nilf],none⟩),
  (168,⟨.sc,1,8,[.nilf],none⟩),
  (170,⟨.sc,1,8,[.nilf],none⟩),
  (171,⟨.sc,1,8,[.nilf],none⟩),
  (172,⟨.sc,1,8,[.nilf],none⟩),
  (173,⟨.sc,1,8,[.nilf],none⟩),
  (174,⟨.sc,1,8,[.nilf],none⟩),
  (175,⟨.sc,1,8,[.nilf],none⟩),
  (176,⟨.sc,1,8,[.nilf],none⟩),
  (177,⟨.sc,1,8,[.nilf],none⟩),
  (178,⟨.ptr 247,1,8,[.nilp],none⟩),
  (179,⟨.ptr 267,1,8,[.nilp],none⟩),
  (180,⟨.struct [(79,0),(178,1),(178,2),(3,3),(3,4),(3,5),(3,6),(3,7),(3,8),(4,9),(4,10),(179,11)],12,88,[.nilp,.nilp,.nilp,.int .i64 0,.int .i64 0,.int .i64 0,.int .i64 0,.int .i64 0,.int .i64 0,.bool false,.bool false,.nilp],none⟩),
  (181,⟨.struct [(79,0),(178,1),(178,2),(3,3),(3,4),(3,5),(3,6),(3,7),(3,8),(4,9),(4,10),(179,11)],12,88,[.nilp,.nilp,.nilp,.int .i64 0,.int .i64 0,.int .i64 0,.int .i64 0,.int .i64 0,.int .i64 0,.bool false,.bool false,.nilp],none⟩),
  (182,⟨.sc,1,8,[.nilf],none⟩),
  (183,⟨.array 2 136,6,48,[.int .i64 0,.int .i64 0,.int .i64 0,.int .i64 0,.int .i64 0,.int .i64 0],some (.st (.pair (.pair (.pair (.int .i64) (.int .i64)) (.int .i64)) (.pair (.pair (.int .i64) (.int .i64)) (.int .i64))))⟩),
  (185,⟨.sc,1,8,[.nilf],none⟩),
  (187,⟨.sc,1,8,[.nilf],none⟩),
  (188,⟨.sc,1,8,[.nilf],none⟩),
  (190,⟨.sc,1,8,[.nilf],none⟩),
  (191,⟨.ptr 233,1,8,[.nilp],none⟩),
  (192,⟨.sc,1,8,[.nilf],none⟩),
  (193,⟨.sc,1,8,[.nilf],none⟩),
  (194,⟨.sc,1,8,[.nilf],none⟩),
  (195,⟨.sc,1,8,[.nilf],none⟩),
  (196,⟨.ptr 5,1,8,[.nilp],none⟩),
  (197,⟨.sc,1,8,[.nilf],none⟩),
  (198,⟨.sc,1,4,[.int .u32 0],some (.int .u32)⟩),
  (200,⟨.sc,1,8,[.nilf],none⟩),
  (202,⟨.sc,1,8,[.nilf],none⟩),
  (203,⟨.sc,1,8,[.nilf],none⟩),
  (204,⟨.sc,1,8,[.nilf],none⟩),
  (205,⟨.sc,1,8,[.nilf],none⟩),
  (206,⟨.struct [(3,0),(3,1),(3,2)],3,24,[.int .i64 0,.int .i64 0,.int .i64 0],some (.st (.pair (.int .i64) (.pair (.int .i64) (.int .i64))))⟩),
  (207,⟨.struct [(3,0),(3,1),(3,2)],3,24,[.int .i64 0,.int .i64 0,.int .i64 0],some (.st (.pair (.int .i64) (.pair (.int .i64) (.int .i64))))⟩),
  (208,⟨.sc,1,8,[.nilf],none⟩),
  (209,⟨.slice 208,1,24,[.nils],none⟩),
  (210,⟨.sc,1,8,[.nilf],none⟩),
  (211,⟨.sc,1,8,[.nilf],none⟩),
  (212,⟨.slice 105,1,24,[.nils],none⟩),
  (213,⟨.struct [(128,0),(25,1)],4,32,[.nilp,.int .i64 0,.int .i64 0,.int .i64 0],none⟩),
  (214,⟨.struct [(128,0),(25,1)],4,32,[.nilp,.int .i64 0,.int .i64 0,.int .i64 0],none⟩),
  (215,⟨.sc,1,8,[.nilf],none⟩),
  (217,⟨.sc,1,8,[.nilf],none⟩),
  (218,⟨.sc,1,8,[.nilf],none⟩),
  (219,⟨.struct [(128,0),(25,1)],4,32,[.nilp,.int .i64 0,.int .i64 0,.int .i64 0],none⟩),
  (220,⟨.struct [(128,0),(25,1)],4,32,[.nilp,.int .i64 0,.int .i64 0,.int .i64 0],none⟩),
  (221,⟨.sc,1,8,[.nilf],none⟩),
  (222,⟨.sc,1,8,[.nilf],none⟩),
  (224,⟨.sc,1,8,[.nilf],none⟩),
  (226,⟨.sc,1,8,[.nilf],none⟩),
  (227,⟨.sc,1,8,[.nilf],none⟩),
  (229,⟨.sc,1,8,[.nilf],none⟩),
  (230,⟨.sc,1,8,[.nilf],none⟩),
  (231,⟨.sc,1,8,[.nilf],none⟩),
  (232,⟨.struct [(198,0)],1,4,[.int .u32 0],some (.st (.int .u32))⟩),
  (233,⟨.struct [(198,0)],1,4,[.int .u32 0],some (.st (.int .u32))⟩),
  (234,⟨.sc,1,8,[.nilf],none⟩),
  (235,⟨.sc,1,8,[.nilf],none⟩),
  (237,⟨.sc,1,8,[.nilf],none⟩),
  (238,⟨.sc,1,8,[.nilf],none⟩),
  (240,⟨.sc,1,8,[.nilf],none⟩),
  (241,⟨.sc,1,8,[.nilf],none⟩),
  (243,⟨.sc,1,8,[.nilf],none⟩),
  (244,⟨.struct [(3,0),(9,1)],2,24,[.int .i64 0,.str []],some (.st (.pair (.int .i64) .str))⟩),
  (245,⟨.struct [(3,0),(9,1)],2,24,[.int .i64 0,.str []],some (.st (.pair (.int .i64) .str))⟩),
  (246,⟨.struct [(79,0),(3,1),(3,2)],3,24,[.nilp,.int .i64 0,.int .i64 0],none⟩),
  (247,⟨.struct [(79,0),(3,1),(3,2)],3,24,[.nilp,.int .i64 0,.int .i64 0],none⟩),
  (248,⟨.sc,1,8,[.nilf],none⟩),
  (249,⟨.ptr 32,1,8,[.nilp],none⟩),
  (250,⟨.sc,1,8,[.nilf],none⟩),
  (251,⟨.sc,1,8,[.nilf],none⟩),
  (252,⟨.sc,1,8,[.nilf],none⟩),
  (254,⟨.sc,1,8,[.nilf],none⟩),
  (255,⟨.slice 258,1,24,[.nils],some (.list (.st (.pair (.int .i64) (.pair (.int .i64) (.list (.st (.pair (.int .i64) .str)))))))⟩),
  (256,⟨.sc,1,8,[.nilf],none⟩),
  (257,⟨.struct [(3,0),(3,1),(119,2)],3,40,[.int .i64 0,.int .i64 0,.nils],some (.st (.pair (.int .i64) (.pair (.int .i64) (.list (.st (.pair (.int .i64) .str))))))⟩),
  (258,⟨.struct [(3,0),(3,1),(119,2)],3,40,[.int .i64 0,.int .i64 0,.nils],some (.st (.pair (.int .i64) (.pair (.int .i64) (.list (.st (.pair (.int .i64) .str))))))⟩),
  (259,⟨.sc,1,8,[.nilf],none⟩),
  (260,⟨.sc,1,8,[.nilf],none⟩),
  (261,⟨.sc,1,8,[.nilf],none⟩),
  (262,⟨.sc,1,8,[.nilf],none⟩),
  (263,⟨.sc,1,8,[.nilf],none⟩),
  (264,⟨.sc,1,8,[.nilf],none⟩),
  (265,⟨.map 3 9,1,8,[.nilm],none⟩),
  (266,⟨.struct [(265,0),(265,1)],2,16,[.nilm,.nilm],none⟩),
  (267,⟨.struct [(265,0),(265,1)],2,16,[.nilm,.nilm],none⟩),
  (268,⟨.sc,1,8,[.nilf],none⟩),
  (269,⟨.sc,1,8,[.nilf],none⟩),
  (270,⟨.sc,1,8,[.int .u64 0],some (.int .u64)⟩),
  (273,⟨.sc,1,8,[.nilf],none⟩),
  (275,⟨.sc,1,16,[.nili],none⟩),
  (276,⟨.sc,1,8,[.nilf],none⟩),
  (278,⟨.sc,1,8,[.nilf],none⟩),
  (279,⟨.sc,1,8,[.nilf],none⟩),
  (280,⟨.sc,1,8,[.nilf],none⟩),
  (281,⟨.ptr 283,1,8,[.nilp],none⟩),
  (282,⟨.struct [(9,0),(156,1)],2,32,[.str [],.nili],none⟩),
  (283,⟨.struct [(9,0),(156,1)],2,32,[.str [],.nili],none⟩),
  (284,⟨.sc,1,8,[.nilf],none⟩),
  (285,⟨.ptr 287,1,8,[.nilp],none⟩),
  (286,⟨.struct [(178,0),(3,1),(3,2),(3,3),(259,4),(4,5)],6,48,[.nilp,.int .i64 0,.int .i64 0,.int .i64 0,.nilf,.bool false],none⟩),
  (287,⟨.struct [(178,0),(3,1),(3,2),(3,3),(259,4),(4,5)],6,48,[.nilp,.int .i64 0,.int .i64 0,.int .i64 0,.nilf,.bool false],none⟩),
  (288,⟨.sc,1,8,[.nilf],none⟩),
  (289,⟨.sc,1,8,[.nilf],none⟩),
  (290,⟨.sc,1,8,[.nilf],none⟩),
  (291,⟨.sc,1,8,[.nilf],none⟩),
  (292,⟨.array 256 4,256,256,[.bool false,.bool false,.bool false,.bool false,.bool false,.bool false,.bool false,.bool false,.bool false,.bool false,.bool false,.bool false,.bool false,.bool false,.bool false,.bool false,.bool false,.bool false,.bool false,.bool false,.bool false,.bool false,.bool false,.bool false,.bool false,.bool false,.bool false,.bool false,.bool false,.bool false,.bool false,.bool false,.bool false,.bool false,.bool false,.bool false,.bool false,.bool false,.bool false,.bool false,.bool false,.bool false,.bool false,.bool false,.bool false,.bool false,.bool false,.bool false,.bool false,.bool false,.bool false,.bool false,.bool false,.bool false,.bool false,.bool false,.bool false,.bool false,.bool false,.bool false,.bool false,.bool false,.bool false,.bool false,.bool false,.bool false,.bool false,.bool false,.bool false,.bool false,.bool false,.bool false,.bool false,.bool false,.bool false,.bool false,.bool false,.bool false,.bool false,.bool false,.bool false,.bool false,.bool false,.bool false,.bool false,.bool false,.bool false,.bool false,.bool false,.bool false,.bool false,.bool false,.bool false,.bool false,.bool false,.bool false,.bool false,.bool false,.bool false,.bool false,.bool false,.bool false,.bool false,.bool false,.bool false,.bool false,.bool false,.bool false,.bool false,.bool false,.bool false,.bool false,.bool false,.bool false,.bool false,.bool false,.bool false,.bool false,.bool false,.bool false,.bool false,.bool false,.bool false,.bool false,.bool false,.bool false,.bool false,.bool false,.bool false,.bool false,.bool false,.bool false,.bool false,.bool false,.bool false,.bool false,.bool false,.bool false,.bool false,.bool false,.bool false,.bool false,.bool false,.bool false,.bool false,.bool false,.bool false,.bool false,.bool false,.bool false,.bool false,.bool false,.bool false,.bool false,.bool false,.bool false,.bool false,.bool false,.bool false,.bool false,.bool false,.bool false,.bool false,.bool false,.bool false,.bool false,.bool false,.bool false,.bool false,.bool false,.bool false,.bool false,.bool false,.bool false,.bool false,.bool false,.bool false,.bool false,.bool false,.bool false,.bool false,.bool false,.bool false,.bool false,.bool false,.bool false,.bool false,.bool false,.bool false,.bool false,.bool false,.bool false,.bool false,.bool false,.bool false,.bool false,.bool false,.bool false,.bool false,.bool false,.bool false,.bool false,.bool false,.bool false,.bool false,.bool false,.bool false,.bool false,.bool false,.bool false,.bool false,.bool false,.bool false,.bool false,.bool false,.bool false,.bool false,.bool false,.bool false,.bool false,.bool false,.bool false,.bool false,.bool false,.bool false,.bool false,.bool false,.bool false,.bool false,.bool false,.bool false,.bool false,.bool false,.bool false,.bool false,.bool false,.bool false,.bool false,.bool false,.bool false,.bool false,.bool false,.bool false,.bool false,.bool false,.bool false,.bool false,.bool false,.bool false,.bool false,.bool false,.bool false,.bool false,.bool false,.bool false,.bool false],none⟩),
  (293,⟨.array 256 4,256,256,[.bool false,.bool false,.bool false,.bool false,.bool false,.bool false,.bool false,.bool false,.bool false,.bool false,.bool false,.bool false,.bool false,.bool false,.bool false,.bool false,.bool false,.bool false,.bool false,.bool false,.bool false,.bool false,.bool false,.bool false,.bool false,.bool false,.bool false,.bool false,.bool false,.bool false,.bool false,.bool false,.bool false,.bool false,.bool false,.bool false,.bool false,.bool false,.bool false,.bool false,.bool false,.bool false,.bool false,.bool false,.bool false,.bool false,.bool false,.bool false,.bool false,.bool false,.bool false,.bool false,.bool false,.bool false,.bool false,.bool false,.bool false,.bool false,.bool false,.bool false,.bool false,.bool false,.bool false,.bool false,.bool false,.bool false,.bool false,.bool false,.bool false,.bool false,.bool false,.bool false,.bool false,.bool false,.bool false,.bool false,.bool false,.bool false,.bool false,.bool false,.bool false,.bool false,.bool false,.bool false,.bool false,.bool false,.bool false,.bool false,.bool false,.bool false,.bool false,.bool false,.bool false,.bool false,.bool false,.bool false,.bool false,.bool false,.bool false,.bool false,.bool false,.bool false,.bool false,.bool false,.bool false,.bool false,.bool false,.bool false,.bool false,.bool false,.bool false,.bool false,.bool false,.bool false,.bool false,.bool false,.bool false,.bool false,.bool false,.bool false,.bool false,.bool false,.bool false,.bool false,.bool false,.bool false,.bool false,.bool false,.bool false,.bool false,.bool false,.bool false,.bool false,.bool false,.bool false,.bool false,.bool false,.bool false,.bool false,.bool false,.bool false,.bool false,.bool false,.bool false,.bool false,.bool false,.bool false,.bool false,.bool false,.bool false,.bool false,.bool false,.bool false,.bool false,.bool false,.bool false,.bool false,.bool false,.bool false,.bool false,.bool false,.bool false,.bool false,.bool false,.bool false,.bool false,.bool false,.bool false,.bool false,.bool false,.bool false,.bool false,.bool false,.bool false,.bool false,.bool false,.bool false,.bool false,.bool false,.bool false,.bool false,.bool false,.bool false,.bool false,.bool false,.bool false,.bool false,.bool false,.bool false,.bool false,.bool false,.bool false,.bool false,.bool false,.bool false,.bool false,.bool false,.bool false,.bool false,.bool false,.bool false,.bool false,.bool false,.bool false,.bool false,.bool false,.bool false,.bool false,.bool false,.bool false,.bool false,.bool false,.bool false,.bool false,.bool false,.bool false,.bool false,.bool false,.bool false,.bool false,.bool false,.bool false,.bool false,.bool false,.bool false,.bool false,.bool false,.bool false,.bool false,.bool false,.bool false,.bool false,.bool false,.bool false,.bool false,.bool false,.bool false,.bool false,.bool false,.bool false,.bool false,.bool false,.bool false,.bool false,.bool false,.bool false,.bool false,.bool false,.bool false,.bool false,.bool false,.bool false,.bool false,.bool false,.bool false,.bool false],none⟩),
  (295,⟨.sc,1,8,[.nilf],none⟩),
  (296,⟨.sc,1,8,[.nilf],none⟩),
  (297,⟨.ptr 293,1,8,[.nilp],none⟩),
  (300,⟨.ptr 371,1,8,[.nilp],none⟩),
  (301,⟨.sc,1,8,[.nilf],none⟩),
  (302,⟨.sc,1,8,[.nilf],none⟩),
  (303,⟨.sc,1,8,[.nilf],none⟩),
  (304,⟨.sc,1,16,[.nili],none⟩),
  (306,⟨.sc,1,8,[.nilf],none⟩),
  (307,⟨.sc,1,16,[.nili],none⟩),
  (308,⟨.sc,1,16,[.nili],none⟩),
  (309,⟨.slice 156,1,24,[.nils],none⟩),
  (310,⟨.sc,1,8,[.nilf],none⟩),
  (311,⟨.sc,1,8,[.nilf],none⟩),
  (312,⟨.sc,1,8,[.nilf],none⟩),
  (313,⟨.sc,1,8,[.nilf],none⟩),
  (314,⟨.sc,1,8,[.nilf],none⟩),
  (315,⟨.sc,1,8,[.nilf],none⟩),
  (316,⟨.sc,1,8,[.nilf],none⟩),
  (318,⟨.sc,1,8,[.nilf],none⟩),
  (319,⟨.sc,1,8,[.nilf],none⟩),
  (320,⟨.sc,1,8,[.nilf],none⟩),
  (321,⟨.sc,1,8,[.nilf],none⟩),
  (323,⟨.sc,1,8,[.nilf],none⟩),
  (324,⟨.sc,1,8,[.nilf],none⟩),
  (325,⟨.sc,1,8,[.nilf],none⟩),
  (326,⟨.sc,1,8,[.nilf],none⟩),
  (327,⟨.sc,1,8,[.nilf],none⟩),
  (328,⟨.sc,1,8,[.nilf],none⟩),
  (329,⟨.sc,1,8,[.nilf],none⟩),
  (330,⟨.sc,1,8,[.int .i64 0],some (.int .i64)⟩),
  (332,⟨.sc,1,8,[.nilf],none⟩),
  (333,⟨.sc,1,8,[.nilf],none⟩),
  (334,⟨.sc,1,8,[.nilf],none⟩),
  (336,⟨.sc,1,8,[.nilf],none⟩),
  (337,⟨.sc,1,8,[.nilf],none⟩),
  (338,⟨.sc,1,8,[.nilf],none⟩),
  (339,⟨.sc,1,8,[.nilf],none⟩),
  (340,⟨.array 256 5,256,256,[.int .u8 0,.int .u8 0,.int .u8 0,.int .u8 0,.int .u8 0,.int .u8 0,.int .u8 0,.int .u8 0,.int .u8 0,.int .u8 0,.int .u8 0,.int .u8 0,.int .u8 0,.int .u8 0,.int .u8 0,.int .u8 0,.int .u8 0,.int .u8 0,.int .u8 0,.int .u8 0,.int .u8 0,.int .u8 0,.int .u8 0,.int .u8 0,.int .u8 0,.int .u8 0,.int .u8 0,.int .u8 0,.int .u8 0,.int .u8 0,.int .u8 0,.int .u8 0,.int .u8 0,.int .u8 0,.int .u8 0,.int .u8 0,.int .u8 0,.int .u8 0,.int .u8 0,.int .u8 0,.int .u8 0,.int .u8 0,.int .u8 0,.int .u8 0,.int .u8 0,.int .u8 0,.int .u8 0,.int .u8 0,.int .u8 0,.int .u8 0,.int .u8 0,.int .u8 0,.int .u8 0,.int .u8 0,.int .u8 0,.int .u8 0,.int .u8 0,.int .u8 0,.int .u8 0,.int .u8 0,.int .u8 0,.int .u8 0,.int .u8 0,.int .u8 0,.int .u8 0,.int .u8 0,.int .u8 0,.int .u8 0,.int .u8 0,.int .u8 0,.int .u8 0,.int .u8 0,.int .u8 0,.int .u8 0,.int .u8 0,.int .u8 0,.int .u8 0,.int .u8 0,.int .u8 0,.int .u8 0,.int .u8 0,.int .u8 0,.int .u8 0,.int .u8 0,.int .u8 0,.int .u8 0,.int .u8 0,.int .u8 0,.int .u8 0,.int .u8 0,.int .u8 0,.int .u8 0,.int .u8 0,.int .u8 0,.int .u8 0,.int .u8 0,.int .u8 0,.int .u8 0,.int .u8 0,.int .u8 0,.int .u8 0,.int .u8 0,.int .u8 0,.int .u8 0,.int .u8 0,.int .u8 0,.int .u8 0,.int .u8 0,.int .u8 0,.int .u8 0,.int .u8 0,.int .u8 0,.int .u8 0,.int .u8 0,.int .u8 0,.int .u8 0,.int .u8 0,.int .u8 0,.int .u8 0,.int .u8 0,.int .u8 0,.int .u8 0,.int .u8 0,.int .u8 0,.int .u8 0,.int .u8 0,.int .u8 0,.int .u8 0,.int .u8 0,.int .u8 0,.int .u8 0,.int .u8 0,.int .u8 0,.int .u8 0,.int .u8 0,.int .u8 0,.int .u8 0,.int .u8 0,.int .u8 0,.int .u8 0,.int .u8 0,.int .u8 0,.int .u8 0,.int .u8 0,.int .u8 0,.int .u8 0,.int .u8 0,.int .u8 0,.int .u8 0,.int .u8 0,.int .u8 0,.int .u8 0,.int .u8 0,.int .u8 0,.int .u8 0,.int .u8 0,.int .u8 0,.int .u8 0,.int .u8 0,.int .u8 0,.int .u8 0,.int .u8 0,.int .u8 0,.int .u8 0,.int .u8 0,.int .u8 0,.int .u8 0,.int .u8 0,.int .u8 0,.int .u8 0,.int .u8 0,.int .u8 0,.int .u8 0,.int .u8 0,.int .u8 0,.int .u8 0,.int .u8 0,.int .u8 0,.int .u8 0,.int .u8 0,.int .u8 0,.int .u8 0,.int .u8 0,.int .u8 0,.int .u8 0,.int .u8 0,.int .u8 0,.int .u8 0,.int .u8 0,.int .u8 0,.int .u8 0,.int .u8 0,.int .u8 0,.int .u8 0,.int .u8 0,.int .u8 0,.int .u8 0,.int .u8 0,.int .u8 0,.int .u8 0,.int .u8 0,.int .u8 0,.int .u8 0,.int .u8 0,.int .u8 0,.int .u8 0,.int .u8 0,.int .u8 0,.int .u8 0,.int .u8 0,.int .u8 0,.int .u8 0,.int .u8 0,.int .u8 0,.int .u8 0,.int .u8 0,.int .u8 0,.int .u8 0,.int .u8 0,.int .u8 0,.int .u8 0,.int .u8 0,.int .u8 0,.int .u8 0,.int .u8 0,.int .u8 0,.int .u8 0,.int .u8 0,.int .u8 0,.int .u8 0,.int .u8 0,.int .u8 0,.int .u8 0,.int .u8 0,.int .u8 0,.int .u8 0,.int .u8 0,.int .u8 0,.int .u8 0,.int .u8 0,.int .u8 0,.int .u8 0,.int .u8 0,.int .u8 0,.int .u8 0,.int .u8 0,.int .u8 0,.int .u8 0,.int .u8 0,.int .u8 0,.int .u8 0,.int .u8 0,.int .u8 0,.int .u8 0,.int .u8 0,.int .u8 0],none⟩),
  (341,⟨.struct [(5,0),(5,1)],2,2,[.int .u8 0,.int .u8 0],some (.st (.pair (.int .u8) (.int .u8)))⟩),
  (342,⟨.struct [(5,0),(5,1)],2,2,[.int .u8 0,.int .u8 0],some (.st (.pair (.int .u8) (.int .u8)))⟩),
  (343,⟨.array 16 342,32,32,[.int .u8 0,.int .u8 0,.int .u8 0,.int .u8 0,.int .u8 0,.int .u8 0,.int .u8 0,.int .u8 0,.int .u8 0,.int .u8 0,.int .u8 0,.int .u8 0,.int .u8 0,.int .u8 0,.int .u8 0,.int .u8 0,.int .u8 0,.int .u8 0,.int .u8 0,.int .u8 0,.int .u8 0,.int .u8 0,.int .u8 0,.int .u8 0,.int .u8 0,.int .u8 0,.int .u8 0,.int .u8 0,.int .u8 0,.int .u8 0,.int .u8 0,.int .u8 0],some (.st (.pair (.pair (.int .u8) (.int .u8)) (.pair (.pair (.int .u8) (.int .u8)) (.pair (.pair (.int .u8) (.int .u8)) (.pair (.pair (.int .u8) (.int .u8)) (.pair (.pair (.int .u8) (.int .u8)) (.pair (.pair (.int .u8) (.int .u8)) (.pair (.pair (.int .u8) (.int .u8)) (.pair (.pair (.int .u8) (.int .u8)) (.pair (.pair (.int .u8) (.int .u8)) (.pair (.pair (.int .u8) (.int .u8)) (.pair (.pair (.int .u8) (.int .u8)) (.pair (.pair (.int .u8) (.int .u8)) (.pair (.pair (.int .u8) (.int .u8)) (.pair (.pair (.int .u8) (.int .u8)) (.pair (.pair (.int .u8) (.int .u8)) (.pair (.int .u8) (.int .u8))))))))))))))))))⟩),
  (344,⟨.sc,1,8,[.nilf],none⟩),
  (345,⟨.sc,1,8,[.nilf],none⟩),
  (346,⟨.sc,1,8,[.nilf],none⟩),
  (347,⟨.sc,1,8,[.int .u64 0],some (.int .u64)⟩),
  (348,⟨.sc,1,8,[.nilf],none⟩),
  (349,⟨.sc,1,8,[.nilf],none⟩),
  (350,⟨.sc,1,8,[.nilf],none⟩),
  (351,⟨.ptr 3,1,8,[.nilp],none⟩),
  (352,⟨.sc,1,8,[.nilf],none⟩),
  (353,⟨.ptr 347,1,8,[.nilp],none⟩),
  (355,⟨.sc,1,8,[.nilf],none⟩),
  (363,⟨.sc,1,8,[.nilf],none⟩),
  (368,⟨.sc,1,8,[.nilf],none⟩),
  (369,⟨.sc,1,8,[.nilf],none⟩),
  (372,⟨.ptr 376,1,8,[.nilp],none⟩),
  (373,⟨.sc,1,8,[.nilf],none⟩),
  (374,⟨.sc,1,2,[.int .u16 0],some (.int .u16)⟩),
  (377,⟨.slice 380,1,24,[.nils],some (.list (.st (.pair (.int .i32) (.pair (.int .i32) (.pair (.int .i32) (.int .i32))))))⟩),
  (381,⟨.ptr 156,1,8,[.nilp],none⟩)]
end Go.Proofs
namespace Go.Proofs.R9
open Go Go.AE
theorem tabOk:zN Tryz.prog Tryz.tab:=zhh (by kernel_rfl)
theorem mixed:Tryz.prog.follows .mixedOrders=true:=Checked.mixed Tryz.checked
end Go.Proofs.R9
namespace Go.Proofs
open Go.Shelf Go.Sort Go.RowKit
def Tryz.lays189_ren:Go.Shelf.Ren:=⟨fun | 189=>241 | 125=>257 | 257=>256 | 128=>273 | 129=>274 | 294=>264 | 295=>265 | 296=>266 | 297=>267 | 298=>268 | 299=>269 | 216=>270 | 300=>271 | 301=>272 | 328=>280 | 329=>281 | 330=>282 | 331=>283 | 332=>284 | 215=>285 | 343=>287 | n=>n,fun | 28=>56 | 3=>3 | 46=>148 | 0=>0 | 51=>198 | 53=>43 | 4=>4 | 183=>331 | 182=>330 | 131=>335 | 5=>5 | 9=>9 | 218=>347 | 222=>351 | 228=>353 | 229=>354 | n=>n,fun | n=>n⟩
theorem Tryz.lays189:Go.Proofs.Lays.n189 Tryz.prog Tryz.lays189_ren:={
  mixed:=by kernel_rfl
  f125:=Tryz.func257.trans (congrArg some (by kernel_rfl))
  f128:=Tryz.func273.trans (congrArg some (by kernel_rfl))
  f129:=Tryz.func274.trans (congrArg some (by kernel_rfl))
  f189:=Tryz.func241.trans (congrArg some (by kernel_rfl))
  f215:=Tryz.func285.trans (congrArg some (by kernel_rfl))
  f216:=Tryz.func270.trans (congrArg some (by kernel_rfl))
  f257:=Tryz.func256.trans (congrArg some (by kernel_rfl))
  f294:=Tryz.func264.trans (congrArg some (by kernel_rfl))
  f295:=Tryz.func265.trans (congrArg some (by kernel_rfl))
  f296:=Tryz.func266.trans (congrArg some (by kernel_rfl))
  f297:=Tryz.func267.trans (congrArg some (by kernel_rfl))
  f298:=Tryz.func268.trans (congrArg some (by kernel_rfl))
  f299:=Tryz.func269.trans (congrArg some (by kernel_rfl))
  f300:=Tryz.func271.trans (congrArg some (by kernel_rfl))
  f301:=Tryz.func272.trans (congrArg some (by kernel_rfl))
  f328:=Tryz.func280.trans (congrArg some (by kernel_rfl))
  f329:=Tryz.func281.trans (congrArg some (by kernel_rfl))
  f330:=Tryz.func282.trans (congrArg some (by kernel_rfl))
  f331:=Tryz.func283.trans (congrArg some (by kernel_rfl))
  f332:=Tryz.func284.trans (congrArg some (by kernel_rfl))
  f343:=Tryz.func287.trans (congrArg some (by kernel_rfl))
  t0:=Tryz.underlying0
  a0:=Tryz.isAgg0
  z0:=Tryz.sizeOf0
  v0:=Tryz.zeroValue0
  t3:=Tryz.underlying3
  a3:=Tryz.isAgg3
  z3:=Tryz.sizeOf3
  v3:=Tryz.zeroValue3
  t4:=Tryz.underlying4
  a4:=Tryz.isAgg4
  z4:=Tryz.sizeOf4
  v4:=Tryz.zeroValue4
  t5:=Tryz.underlying5
  a5:=Tryz.isAgg5
  z5:=Tryz.sizeOf5
  v5:=Tryz.zeroValue5
  t9:=Tryz.underlying9
  a9:=Tryz.isAgg9
  z9:=Tryz.sizeOf9
  v9:=Tryz.zeroValue9
  t28:=Tryz.underlying56
  a28:=Tryz.isAgg56
  z28:=Tryz.sizeOf56
  v28:=Tryz.zeroValue56
  t46:=Tryz.underlying148
  a46:=Tryz.isAgg148
  z46:=Tryz.sizeOf148
  v46:=Tryz.zeroValue148
  t51:=Tryz.underlying198
  a51:=Tryz.isAgg198
  z51:=Tryz.sizeOf198
  v51:=Tryz.zeroValue198
  t53:=Tryz.underlying43
  a53:=Tryz.isAgg43
  z53:=Tryz.sizeOf43
  v53:=Tryz.zeroValue43
  t131:=Tryz.underlying335
  a131:=Tryz.isAgg335
  z131:=Tryz.sizeOf335
  v131:=Tryz.zeroValue335
  t182:=Tryz.underlying330
  a182:=Tryz.isAgg330
  z182:=Tryz.sizeOf330
  v182:=Tryz.zeroValue330
  t183:=Tryz.underlying331
  a183:=Tryz.isAgg331
  z183:=Tryz.sizeOf331
  v183:=Tryz.zeroValue331
  t218:=Tryz.underlying347
  a218:=Tryz.isAgg347
  z218:=Tryz.sizeOf347
  v218:=Tryz.zeroValue347
  t222:=Tryz.underlying351
  a222:=Tryz.isAgg351
  z222:=Tryz.sizeOf351
  v222:=Tryz.zeroValue351
  t228:=Tryz.underlying353
  a228:=Tryz.isAgg353
  z228:=Tryz.sizeOf353
  v228:=Tryz.zeroValue353
  t229:=Tryz.underlying354
  a229:=Tryz.isAgg354
  z229:=Tryz.sizeOf354
  v229:=Tryz.zeroValue354 }
theorem Tryz.slices_Sort_int (blk off cap:Nat) (zs:List Int) (w:World) (hH:Holds (Value.int .i64) w blk off zs.toArray) (hblk:blk<w.heap.size) (hsz:zs.length<4611686018427387904) :
    Calls Tryz.prog 241 #[.slice (some ⟨blk,off,none⟩) zs.length cap] w fun e w' =>
      e = .returned (.tuple #[]) ∧ ∃n os,w'=grow (putRow (Value.int .i64) (Sort.ahead w n) blk off (zs.mergeSort fun x y=>decide (x≤y)).toArray) os:=Any.slices_Sort_int Tryz.lays189 blk off cap zs w hH hblk hsz
open Go.RowKit Go.Lib in
def Tryz.lays105_ren:Go.Shelf.Ren:=⟨fun | 105=>75 | 212=>108 | 99=>109 | 165=>99 | 166=>100 | 170=>110 | 169=>101 | 263=>147 | 264=>148 | 206=>149 | 240=>144 | 241=>145 | 276=>183 | 277=>184 | n=>n,fun | 9=>9 | 3=>3 | 4=>4 | 20=>20 | 0=>0 | 46=>148 | 109=>165 | 5=>5 | 72=>153 | 76=>157 | 51=>198 | 146=>199 | 53=>43 | 148=>201 | 70=>151 | 37=>44 | 75=>156 | 127=>196 | 164=>236 | 80=>134 | n=>n,fun | n=>n⟩
theorem Tryz.lays105:Go.Proofs.Lays.n105 Tryz.prog Tryz.lays105_ren:={
  mixed:=by kernel_rfl
  f99:=Tryz.func109.trans (congrArg some (by kernel_rfl))
  f105:=Tryz.func75.trans (congrArg some (by kernel_rfl))
  f165:=Tryz.func99.trans (congrArg some (by kernel_rfl))
  f166:=Tryz.func100.trans (congrArg some (by kernel_rfl))
  f169:=Tryz.func101.trans (congrArg some (by kernel_rfl))
  f170:=Tryz.func110.trans (congrArg some (by kernel_rfl))
  f206:=Tryz.func149.trans (congrArg some (by kernel_rfl))
  f212:=Tryz.func108.trans (congrArg some (by kernel_rfl))
  f240:=Tryz.func144.trans (congrArg some (by kernel_rfl))
  f241:=Tryz.func145.trans (congrArg some (by kernel_rfl))
  f263:=Tryz.func147.trans (congrArg some (by kernel_rfl))
  f264:=Tryz.func148.trans (congrArg some (by kernel_rfl))
  f276:=Tryz.func183.trans (congrArg some (by kernel_rfl))
  f277:=Tryz.func184.trans (congrArg some (by kernel_rfl))
  t0:=Tryz.underlying0
  a0:=Tryz.isAgg0
  z0:=Tryz.sizeOf0
  v0:=Tryz.zeroValue0
  t3:=Tryz.underlying3
  a3:=Tryz.isAgg3
  z3:=Tryz.sizeOf3
  v3:=Tryz.zeroValue3
  t4:=Tryz.underlying4
  a4:=Tryz.isAgg4
  z4:=Tryz.sizeOf4
  v4:=Tryz.zeroValue4
  t5:=Tryz.underlying5
  a5:=Tryz.isAgg5
  z5:=Tryz.sizeOf5
  v5:=Tryz.zeroValue5
  t9:=Tryz.underlying9
  a9:=Tryz.isAgg9
  z9:=Tryz.sizeOf9
  v9:=Tryz.zeroValue9
  t20:=Tryz.underlying20
  a20:=Tryz.isAgg20
  z20:=Tryz.sizeOf20
  v20:=Tryz.zeroValue20
  t37:=Tryz.underlying44
  a37:=Tryz.isAgg44
  z37:=Tryz.sizeOf44
  v37:=Tryz.zeroValue44
  t46:=Tryz.underlying148
  a46:=Tryz.isAgg148
  z46:=Tryz.sizeOf148
  v46:=Tryz.zeroValue148
  t51:=Tryz.underlying198
  a51:=Tryz.isAgg198
  z51:=Tryz.sizeOf198
  v51:=Tryz.zeroValue198
  t53:=Tryz.underlying43
  a53:=Tryz.isAgg43
  z53:=Tryz.sizeOf43
  v53:=Tryz.zeroValue43
  t70:=Tryz.underlying151
  a70:=Tryz.isAgg151
  z70:=Tryz.sizeOf151
  v70:=Tryz.zeroValue151
  t72:=Tryz.underlying153
  a72:=Tryz.isAgg153
  z72:=Tryz.sizeOf153
  v72:=Tryz.zeroValue153
  t75:=Tryz.underlying156
  a75:=Tryz.isAgg156
  z75:=Tryz.sizeOf156
  v75:=Tryz.zeroValue156
  t76:=Tryz.underlying157
  a76:=Tryz.isAgg157
  z76:=Tryz.sizeOf157
  v76:=Tryz.zeroValue157
  t109:=Tryz.underlying165
  a109:=Tryz.isAgg165
  z109:=Tryz.sizeOf165
  v109:=Tryz.zeroValue165
  t127:=Tryz.underlying196
  a127:=Tryz.isAgg196
  z127:=Tryz.sizeOf196
  v127:=Tryz.zeroValue196
  t146:=Tryz.underlying199
  a146:=Tryz.isAgg199
  z146:=Tryz.sizeOf199
  v146:=Tryz.zeroValue199
  t148:=Tryz.underlying201
  a148:=Tryz.isAgg201
  z148:=Tryz.sizeOf201
  v148:=Tryz.zeroValue201
  t164:=Tryz.underlying236
  a164:=Tryz.isAgg236
  z164:=Tryz.sizeOf236
  v164:=Tryz.zeroValue236 }
theorem Tryz.Builder_Extra_105:Builder.Extra Tryz.prog Tryz.lays105_ren:={
  sizeBuilder:=by kernel_rfl
  liesBuilder:=by kernel_rfl
  t5:=Tryz.underlying5
  a5:=Tryz.isAgg5
  z5:=Tryz.sizeOf5
  v5:=Tryz.zeroValue5
  infoByte:=by kernel_rfl
  cellsByte:=by kernel_rfl
  sizeByte:=by kernel_rfl
  neB5:=by decide }
open Go.RowKit Go.Lib in
theorem Tryz.strings_Repeat (s:ByteArray) (c:Nat) (w:World) (hc:c≤9223372036854775807) (hlen:s.size*c≤140737488355328) :
    Calls Tryz.prog 75 #[.string s,.int .i64 c] w fun e w'=>e = .returned (.string ⟨(Lib.repeatL s.data.toList c).toArray⟩)∧Below w.heap.size w w':=Any.strings_Repeat Tryz.lays105 Tryz.Builder_Extra_105 s c w hc hlen
theorem Tryz.slices_Sort_int_none (p:Option Addr) (cap:Nat) (w:World) :
    Calls Tryz.prog 241 #[.slice p 0 cap] w fun e w'=>e = .returned (.tuple #[])∧w'=w:=Any.slices_Sort_int_none Tryz.lays189 p cap w
end Go.Proofs
namespace Go.Proofs
open Go.RowKit Go.Maps Go.Sort Go.Shelf
open Go.AE (BT)
theorem R9.info3:(Tryz.prog.info? 3).map (fun i=>(i.zero,i.size,i.bytes))=some (some (.int .i64 0),1,8):=by kernel_rfl
set_option maxRecDepth 100000 in
set_option maxHeartbeats 4000000 in
theorem R9.each240_ok:AE.IterOk Tryz.prog 240 (AE.eachStart .str) (AE.eachNx .str):=by
  refine ⟨⟨_,Tryz.func240,by kernel_rfl,by decide +kernel⟩,?_⟩
  intro yv C cap us L J Jx hh hcap hstart hJ0 hJ1 hJ2 hJ3 hY
  obtain ⟨i0,hi,hz0,hz1,hz2⟩:=info_parts R9.info3
  unfold AE.eachStart at hstart
  obtain ⟨l,hl⟩ : ∃l,AE.eachMap .str cap C.H=some l:=by
    cases h:AE.eachMap .str cap C.H with
    | some l=>exact ⟨l,rfl⟩
    | none=>rw [h] at hstart;cases hstart
  rw [hl] at hstart
  replace hstart:(cond (Nat.ble l.length 1000000) (some (AE.keysOf l)) none)=some L:=hstart
  obtain ⟨hlen,hL⟩:l.length≤1000000∧AE.keysOf l=L:=by
    cases hb:Nat.ble l.length 1000000 with
    | true=>rw [hb,cond_true] at hstart;exact ⟨Nat.le_of_ble_eq_true hb,Option.some.inj hstart⟩
    | false=>rw [hb,cond_false] at hstart;cases hstart
  obtain ⟨b,mo,es,x,hus,hblive,hcell,hmap,hmr,_,_,hmlive⟩:=AE.each_sees hh hcap hl
  obtain rfl:us = #[.pointer (some ⟨b,0,none⟩)]:=by
    cases us;simpa using hus
  have hb0:b<C.w.heap.size:=by obtain ⟨j,h1,h2⟩:=hblive;exact hh.blk_lt h1 h2
  have hm0 : ∀m,mo=some m→m<C.w.heap.size:=fun m hm=>by obtain ⟨j,h1,h2⟩:=hmlive m hm;exact hh.blk_lt h1 h2
  have heslen:es.size=l.length:=by have:=hmr.length;simpa using this
  obtain ⟨hkeys,hks⟩:=AE.mrel_keys hmr
  clear hstart hcap
  have hlenv : ∀(p:Option Addr) (n c:Nat) (w:World),(Builtin.len_ #[56] 3 #[.slice p n c]).run Tryz.prog w = .ok (.int .i64 n) w:=fun p n c w=>by
    simp [Builtin.len_,run_underlying Tryz.underlying56]
    rfl
  refine callsIn_of_wp Tryz.func240 rfl trivial ?_ rfl
  simp only [Tryz.ntmps240,List.size_toArray,List.length_cons,List.length_nil,Nat.reduceAdd,Nat.reduceSub,Array.replicate_succ,Array.replicate_zero,List.push_toArray,List.append_toArray,List.nil_append,List.cons_append]
  gi_wp2_with (first
    | (gi_at_range;refine AE.wpListIn_range_m _ rfl _ 265 rfl 3 9 Tryz.underlying265 mo es rfl hmap ?_;intro it hwalk)
    | gi_in)
  try go_frame
  have hB1:Below C.w.heap.size C.w (C.w.alloc it):=(Below.refl _ C.w).alloc (Nat.le_refl _) _
  gi_loopw [3,4] (fun p _ wr => ∃(seen:Array Nat) (vis:List MapEntry),AE.WalkAt wr mo C.w.heap.size es seen∧vis.map (·.born)=seen.toList∧(∀e ∈ vis,e ∈ es.toList)∧seen.toList.Nodup ∧
      wr.ownsRow (C.w.heap.size+1) 3 1 p vis.length (vis.map (·.key))∧Below C.w.heap.size C.w wr∧C.w.heap.size+1≤wr.heap.size)
    (fun _ _ wr=>AE.walkLeft wr mo C.w.heap.size)
  case atStart =>
    exact ⟨#[],[],hwalk,rfl,by simp,by simp,World.ownsRow_nil _ _ _ _,hB1,by simp⟩
  case round =>
    obtain ⟨seen,vis,hw,hvs,hve,hnd,hrow,hB,hsz⟩:=hrel
    gi_wp2_with (first
      | (gi_at_next;refine AE.wpListIn_next_m _ rfl _ rfl mo C.w.heap.size es seen rfl hw ?_ ?_)
      | gi_in)
    · -- all have come
      intro hall
      have hb0':(es.toList.map (·.born)).Nodup:=by
        cases mo with
        | none=>obtain ⟨rfl,_⟩:=hw;simp
        | some m=>obtain ⟨ck,since,c0,_,hst,_⟩:=hw;exact hst.2.1
      obtain ⟨hvk,hsort,hvl⟩:=AE.visited_all hmr hb0' hvs hve hnd (by simpa using hall)
      have sortC:CallsIn Fence.wide 0 Tryz.prog 241 #[u3] wr fun e w'=>e = .returned (.tuple #[])∧w'.ownsRow (C.w.heap.size+1) 3 1 u3 L.length (L.map (Value.int .i64))∧Below C.w.heap.size C.w w':=by
        have hLl:L.length=vis.length:=by rw [← hL,← hsort,List.length_mergeSort,List.length_map]
        rcases hrow.2 with ⟨rfl,hz⟩ | ⟨gb,cap',cur,rfl,hbase,hgb,r1,r2,r3,r4⟩
        · refine (callsIn_wide.2 (Tryz.slices_Sort_int_none none 0 _)).mono ?_
          rintro e w' ⟨rfl,rfl⟩
          have hL0:L=[]:=List.eq_nil_of_length_eq_zero (by omega)
          rw [hL0]
          exact ⟨rfl,World.ownsRow_nil _ _ _ _,hB⟩
        · have ht:cur.toList.take (vis.map fun e=>AE.keyI e.key).length=(vis.map fun e=>AE.keyI e.key).map (Value.int .i64):=by
            rw [List.length_map,← hvk,← r4,Nat.mul_one]
          have hH:Holds (Value.int .i64) wr gb 0 (vis.map fun e=>AE.keyI e.key).toArray:=holds_of_blockI hgb ht
          have hgl:gb<wr.heap.size:=(Array.getElem?_eq_some_iff.1 hgb).1
          have c:=Tryz.slices_Sort_int gb 0 cap' (vis.map fun e=>AE.keyI e.key) wr hH hgl (by rw [List.length_map];omega)
          rw [List.length_map] at c
          refine (callsIn_wide.2 c).mono ?_
          rintro e w' ⟨rfl,nn,os,rfl⟩
          rw [hsort,hL]
          have hrow':=ownsRow_sortedI (w:=wr) (base:=C.w.heap.size+1) (g:=gb) (cap:=cap') (n:=nn) (e:=3) (os:=os) (cur:=cur) (ss:=vis.map fun e=>AE.keyI e.key) (ts:=L) (by rw [List.length_map];exact hLl) hbase hgb (by rw [List.length_map];exact r1) r2 r3
          rw [List.length_map] at hrow'
          rw [hLl]
          exact ⟨rfl,hrow',hB.grown (grownBy_sortedI _) hB.size (fun j hj=>by cases hj;omega)⟩
      gi_wp2_with (first | (refine ⟨trivial,rfl,?_⟩;refine sortC.mono ?_;rintro e w1 ⟨rfl,hrow1,hB2⟩) | gi_in)
      -- between two calls
      obtain ⟨C10,cap10,hw10,hj10⟩:=hJ0
      obtain ⟨hh10,_,_⟩:=hJ1 _ _ _ hj10
      have hp1:AE.Priv C.w.heap.size C10 w1:=AE.below_priv hh10 (by rw [hw10];exact hB2) _
      have hj1:J L (C10.at w1) cap10:=hJ2 _ _ _ _ hj10 hp1
      rcases hrow1.2 with ⟨rfl,hz⟩ | ⟨gb,cap',cur,rfl,hbase,hgb,r1,r2,r3,r4⟩
      · have hLn:L=[]:=List.eq_nil_of_length_eq_zero hz
        have hlen1:=hlenv none 0 0 w1
        gi_wp2
        rw [hlen1]
        gi_wp2
        gi_loopw [21,6] (fun p _ wr=>p = .int .i64 0∧wr=w1) (fun _ _ _=>0)
        case atStart=>exact ⟨rfl,rfl⟩
        case round =>
          obtain ⟨rfl,rfl⟩:=hrel
          gi_wp2
          go_end0
          rw [hLn] at hj1
          obtain ⟨_,_,o,ho⟩:=hJ1 _ _ _ hj1
          exact ⟨rfl,.inl ⟨[],C10.at wr,cap10,rfl,hj1,AE.next_end ho⟩⟩
      · have hlen1:=hlenv (some ⟨gb,0,none⟩) L.length cap' w1
        gi_wp2
        rw [hlen1]
        gi_wp2
        have hLlen:L.length≤1000000:=by rw [← hL,← hsort,List.length_mergeSort,List.length_map];omega
        clear hL hsort hvl hvk hall hw hvs hve hnd hrow hb0' sortC
        gi_loopw [21,6] (fun p _ wr => ∃(j:Nat) (C1:AE.Cx) (cap1:List AE.AV),p = .int .i64 j∧j≤L.length∧C1.w=wr∧J (L.drop j) C1 cap1∧wr.heap[gb]? = some (.cells cur 3 (0,0))∧C1.Beside gb) (fun p _ _=>L.length - (intOf p).toNat)
        case atStart =>
          exact ⟨0,C10.at w1,cap10,rfl,by omega,rfl,hj1,hgb,AE.Beside.new hh10 (by rw [hw10];omega)⟩
        case round =>
          obtain ⟨j,C1,cap1,rfl,hj,rfl,hjj,hgb1,hbs⟩:=hrel
          by_cases hlt:j<L.length
          · have hlt':(j:Int)<(L.length:Int):=by omega
            obtain ⟨k,hk⟩ : ∃k,L[j]=k:=⟨_,rfl⟩
            have hdrop:L.drop j=k::L.drop (j+1):=by rw [← hk];exact List.drop_eq_getElem_cons hlt
            rw [hdrop] at hjj
            obtain ⟨hh1,hv1,o,ho⟩:=hJ1 _ _ _ hjj
            obtain ⟨l1,hl1,rfl⟩:=AE.next_at ho
            obtain ⟨b',mo1,es1,x1,hus1,_,hcell1,_,_,hx1,hmo1,_⟩:=AE.each_sees hh1 hv1 hl1
            obtain rfl:b=b':=by simpa using hus1
            obtain ⟨y,hlook,hy⟩:=AE.lookup_each R9.tabOk hh1 (tl:=265) rfl rfl hx1 hmo1 k
            have hval:=hY _ _ _ _ _ hjj ho #[.int .i64 k,y] (by simp only [AE.VRels];exact ⟨_,_,rfl,by rw [AE.VRel],_,_,rfl,hy,rfl⟩)
            have hcur:cur[j]? = some (.int .i64 k):=by
              have h1:(cur.toList.take (L.length*1))[j]? = (L.map (Value.int .i64))[j]? := by rw [r4]
              rw [List.getElem?_take,if_pos (by omega),List.getElem?_map,List.getElem?_eq_getElem hlt,hk] at h1
              simpa using h1
            have hrd:C1.w.cell? ⟨gb,j,none⟩=some (.int .i64 k):=by
              rw [AE.cell_blk (AE.blkOf_cells hgb1)]
              exact hcur
            clear hY hy ho hmo1 hx1 hv1 hl1 hus1 hJ1
            gi_wp2_with (first
              | (refine AE.wpListIn_callv _ rfl (Operand.tmp 25) #[Operand.tmp 26,Operand.tmp 29] _ rfl hval rfl (by simp [Act.eval]) ?_;rintro e W' (⟨rfl,C',cap2,rfl,hj',hkept⟩ | ⟨rfl,C',rfl,hjx,hkept⟩) <;> refine ⟨_,rfl,?_⟩)
              | gi_in)
            · obtain ⟨hg2,hb2⟩:=hkept.keep gb (by omega) (Array.getElem?_eq_some_iff.1 hgb1).1 hbs
              refine ⟨⟨j+1,C',cap2,by simp,by omega,rfl,hj',hg2.trans hgb1,hb2⟩,?_⟩
              simp [intOf]
              omega
            · refine bodyPost_ret (results_none rfl _ _ _) rfl ?_
              exact ⟨rfl,.inr ⟨C',rfl,hjx⟩⟩
          · have hge : ¬(j:Int)<(L.length:Int):=by omega
            gi_wp2
            go_end0
            have hd:L.drop j=[]:=List.drop_eq_nil_of_le (by omega)
            rw [hd] at hjj
            obtain ⟨_,_,o,ho⟩:=hJ1 _ _ _ hjj
            refine ⟨rfl,.inl ?_⟩
            first | exact ⟨[],C1,cap1,rfl,hjj,AE.next_end ho⟩ | exact ⟨[],C1,rfl,cap1,hjj,AE.next_end ho⟩
    · -- one more
      intro e he hes w' hw' hg hs hen
      have hem:e ∈ es.toList:=by simpa using he
      have hkey:=hkeys e hem
      have hw0:=hw
      have hes0:e.born ∉ seen:=by simpa using hes
      have hem0:=hem
      obtain ⟨e0,he0⟩ : ∃e0,e=e0:=⟨_,rfl⟩
      have hfresh:e.born ∉ seen.toList:=by simpa using hes
      have hvlen:vis.length≤1000000:=by
        have h2:vis.Nodup:=AE.nodup_of_map (·.born) (by rw [hvs];exact hnd)
        have h3:=h2.length_le_of_subset hve
        have h4:=hmr.length
        omega
      have hmx:2000000≤maxLen:=by decide
      obtain ⟨key,val,born⟩:=e
      dsimp only at hkey hen hes hw' ⊢
      obtain ⟨n0,hn0⟩ : ∃n0,AE.keyI key=n0:=⟨_,rfl⟩
      rw [hn0] at hkey
      subst hkey
      clear hn0
      have hs2:wr.heap.size≤w'.heap.size∧w'.heap.size≤wr.heap.size:=by omega
      clear hs
      have hrow2:w'.ownsRow (C.w.heap.size+1) 3 1 u3 vis.length (vis.map (·.key)):=AE.ownsRow_kept hrow hg (fun r e=>by cases e;omega)
      have hblk:=AE.ownBlock_base hrow2
      have hB2:Below C.w.heap.size C.w w':=hB.grown hg hB.size (fun j e=>by cases e;omega)
      have hrow3:=AE.ownsRow_kept hrow2 (World.grownBy_alloc w' (.cells #[.int .i64 n0] 3) none) (fun r e=>by cases e)
      have e1:vis.length+1≤maxLen:=by omega
      have e2:(vis.length+1)*8≤140737488355328:=by omega
      have e3:C.w.heap.size+1≤(w'.alloc (.cells #[.int .i64 n0] 3)).heap.size:=by rw [World.size_alloc];omega
      gi_wp2_with (first
        | (gi_at_builtin;refine wpListIn_append_own _ rfl (.tmp 13) (.tmp 15) 56 rfl (C.w.heap.size+1) 3 i0 (.int .i64 0) 1 8 Tryz.underlying56 hi hz0 hz1 hz2 rfl (by decide) u3 vis.length (vis.map (·.key)) rfl hrow3 ⟨w'.heap.size,0,none⟩ 1 1 [.int .i64 n0] rfl rfl (cell_one_new _ _ _) (by simp [Value.oneCell']) e1 e2 e3 ?_;intro v' w3 hown' hgrow _;obtain ⟨g',cap',rfl⟩:=ownsRow_succ hown')
        | gi_in)
      have hWa:AE.WalkAt (w'.alloc (.cells #[.int .i64 n0] 3)) mo C.w.heap.size es (seen.push born):=hw'.kept (World.grownBy_alloc w' _ none) (fun _ _ h=>by cases h) (fun h=>by cases h)
      have hW3:AE.WalkAt w3 mo C.w.heap.size es (seen.push born):=hWa.kept hgrow (fun b hb h=>by have h1:=hblk _ h;have h2:=hm0 b hb;omega) (fun h=>by have h1:=hblk _ h;omega)
      have hB3:Below C.w.heap.size C.w w3:=(hB2.alloc hB2.size _).grown hgrow (by rw [World.size_alloc];have:=hB2.size;omega) (fun j h=>by have h1:=hblk _ h;omega)
      refine ⟨⟨seen.push born,vis++[e0],hW3,by rw [List.map_append,hvs,← he0];simp,?_,?_,?_,hB3,?_⟩,hw0.left_lt hem0 hes0 hW3⟩
      · intro y hy
        rcases List.mem_append.1 hy with hy | hy
        · exact hve y hy
        · rw [List.mem_singleton.1 hy,← he0];exact hem
      · rw [Array.toList_push]
        exact List.nodup_append.2 ⟨hnd,by simp,fun a ha b hb=>by rw [List.mem_singleton.1 hb];intro e;rw [e] at ha;exact hfresh ha⟩
      · rw [List.map_append,List.length_append,← he0]
        exact hown'
      · have h1:=hgrow.size
        rw [World.size_alloc] at h1
        omega
end Go.Proofs
namespace Go.Proofs
open Go.Shelf Go.RowKit
def Tryz.lays156_ren:Go.Shelf.Ren:=⟨fun | 156=>58 | 165=>99 | 166=>100 | 169=>101 | 240=>144 | 241=>145 | 276=>183 | 277=>184 | n=>n,fun | 31=>22 | 9=>9 | 3=>3 | 4=>4 | 0=>0 | 20=>20 | 72=>153 | 76=>157 | 70=>151 | 37=>44 | 75=>156 | 127=>196 | 164=>236 | 5=>5 | 80=>134 | n=>n,fun | n=>n⟩
theorem Tryz.lays156:Go.Proofs.Lays.n156 Tryz.prog Tryz.lays156_ren:={
  mixed:=by kernel_rfl
  f156:=Tryz.func58.trans (congrArg some (by kernel_rfl))
  f165:=Tryz.func99.trans (congrArg some (by kernel_rfl))
  f166:=Tryz.func100.trans (congrArg some (by kernel_rfl))
  f169:=Tryz.func101.trans (congrArg some (by kernel_rfl))
  f240:=Tryz.func144.trans (congrArg some (by kernel_rfl))
  f241:=Tryz.func145.trans (congrArg some (by kernel_rfl))
  f276:=Tryz.func183.trans (congrArg some (by kernel_rfl))
  f277:=Tryz.func184.trans (congrArg some (by kernel_rfl))
  t0:=Tryz.underlying0
  a0:=Tryz.isAgg0
  z0:=Tryz.sizeOf0
  v0:=Tryz.zeroValue0
  t3:=Tryz.underlying3
  a3:=Tryz.isAgg3
  z3:=Tryz.sizeOf3
  v3:=Tryz.zeroValue3
  t4:=Tryz.underlying4
  a4:=Tryz.isAgg4
  z4:=Tryz.sizeOf4
  v4:=Tryz.zeroValue4
  t9:=Tryz.underlying9
  a9:=Tryz.isAgg9
  z9:=Tryz.sizeOf9
  v9:=Tryz.zeroValue9
  t20:=Tryz.underlying20
  a20:=Tryz.isAgg20
  z20:=Tryz.sizeOf20
  v20:=Tryz.zeroValue20
  t31:=Tryz.underlying22
  a31:=Tryz.isAgg22
  z31:=Tryz.sizeOf22
  v31:=Tryz.zeroValue22
  t37:=Tryz.underlying44
  a37:=Tryz.isAgg44
  z37:=Tryz.sizeOf44
  v37:=Tryz.zeroValue44
  t70:=Tryz.underlying151
  a70:=Tryz.isAgg151
  z70:=Tryz.sizeOf151
  v70:=Tryz.zeroValue151
  t72:=Tryz.underlying153
  a72:=Tryz.isAgg153
  z72:=Tryz.sizeOf153
  v72:=Tryz.zeroValue153
  t75:=Tryz.underlying156
  a75:=Tryz.isAgg156
  z75:=Tryz.sizeOf156
  v75:=Tryz.zeroValue156
  t76:=Tryz.underlying157
  a76:=Tryz.isAgg157
  z76:=Tryz.sizeOf157
  v76:=Tryz.zeroValue157
  t127:=Tryz.underlying196
  a127:=Tryz.isAgg196
  z127:=Tryz.sizeOf196
  v127:=Tryz.zeroValue196
  t164:=Tryz.underlying236
  a164:=Tryz.isAgg236
  z164:=Tryz.sizeOf236
  v164:=Tryz.zeroValue236 }
theorem Tryz.Builder_Extra_156:Builder.Extra Tryz.prog Tryz.lays156_ren:={
  sizeBuilder:=by kernel_rfl
  liesBuilder:=by kernel_rfl
  t5:=Tryz.underlying5
  a5:=Tryz.isAgg5
  z5:=Tryz.sizeOf5
  v5:=Tryz.zeroValue5
  infoByte:=by kernel_rfl
  cellsByte:=by kernel_rfl
  sizeByte:=by kernel_rfl
  neB5:=by decide }
open Go.RowKit in
theorem Tryz.strings_Join_none (a:Option Addr) (c:Nat) (sep:ByteArray) (w:World) :
    Calls Tryz.prog 58 #[.slice a 0 c,.string sep] w fun e w'=>e = .returned (.string ⟨#[]⟩)∧w'=w:=Any.strings_Join_none Tryz.lays156 Tryz.Builder_Extra_156 a c sep w
open Go.RowKit in
theorem Tryz.strings_Join (bk o c:Nat) (xs:List ByteArray) (sep:ByteArray) (w:World) (hcells : ∀(j:Nat) x,xs[j]? = some x→w.cell? ⟨bk,o+j,none⟩=some (.string x)) (hbk:bk<w.heap.size) (hN:xs.length≤140737488355328) (hcap:xs.length≤c) (hlen:(Lib.join (xs.map (·.data.toList)) sep.data.toList).length≤140737488355328) :
    Calls Tryz.prog 58 #[.slice (some ⟨bk,o,none⟩) xs.length c,.string sep] w fun e w'=>e = .returned (.string ⟨(Lib.join (xs.map (·.data.toList)) sep.data.toList).toArray⟩)∧Below w.heap.size w w':=Any.strings_Join Tryz.lays156 Tryz.Builder_Extra_156 bk o c xs sep w hcells hbk hN hcap hlen
end Go.Proofs
namespace Go.Proofs.R9
open Go Go.AE
theorem zb5:zM Tryz.prog 75 qz :=
  zlZ (za7 Tryz.func75 (by kernel_rfl) (by decide +kernel)) fun s c w h1 h2=>Tryz.strings_Repeat s c w h1 h2
theorem zeU:zM Tryz.prog 58 Jm :=
  zrL (za7 Tryz.func58 (by kernel_rfl) (by decide +kernel)) (fun a c s w=>Tryz.strings_Join_none a c s w) fun b o c xs s w h1 h2 h3 h4 h5=>Tryz.strings_Join b o c xs s w h1 h2 h3 h4 h5
theorem zhe:zO Tryz.prog 144 qM :=
  zg7 (ρ:=Tryz.lays105_ren) { Tryz.lays105 with } Tryz.Builder_Extra_105.toX72 rfl (za7 Tryz.func144 (by kernel_rfl) (by decide +kernel))
theorem zlr:zO Tryz.prog 101 zaY :=
  zkg (ρ:=Tryz.lays105_ren) { Tryz.lays105 with } Tryz.Builder_Extra_105 rfl (za7 Tryz.func101 (by kernel_rfl) (by decide +kernel))
theorem ze7:zO Tryz.prog 101 w9 :=
  ze6 (ρ:=Tryz.lays105_ren) { Tryz.lays105 with } Tryz.Builder_Extra_105 rfl (za7 Tryz.func101 (by kernel_rfl) (by decide +kernel))
theorem zL4:zgz Tryz.prog 100240 (.iter (Jt .str) (zeb .str)):=z1I R9.each240_ok
end Go.Proofs.R9
namespace Go.Proofs.R9
open Go Go.AE
set_option maxRecDepth 100000
--@ field_New
noncomputable def z2N:Env:=[]
theorem z5D:zf Tryz.prog z2N:=zf.nil
noncomputable def z9V:Code:=Tryz.f49.body.getD .skip
noncomputable def z3H:Ann := .none
theorem z2b:zq Tryz.prog 6 z9V z3H:=(zb _ _ _)
abbrev zfE:=(List UInt8)
abbrev zWU:=Unit
def zcU {β:Type}:zfE→(zWU→Option β)→Option β:=fun a0 exit=>(exit ())
def Ws (a:zfE):Option zWU:=zcU a some
theorem z0W (a:zfE) (k:zWU→Ans):zcU a k=za (Ws a) k:=by
  obtain z:=a
  simp only [Ws,zcU,zj,zh,zl,zc,zi,zm,zg]
def zoX:zfE→List AV×List AE.Obj:=fun a0=>([.str a0],[])
def zJq (l:List AV) (H:List AE.Obj):Option {a:zfE // (l,H)=zoX a}:=match l,H with
  | [.str a0],[]=>some ⟨(a0),rfl⟩
  | _,_=>none
def zRW (l:List AV) (H:List AE.Obj):Option zfE:=pk (zJq l H)
theorem zVY (l:List AV) (H:List AE.Obj) (a:zfE) (h:zRW l H=some a):(l,H)=zoX a:=zt (o:=zJq l H) h
def z27:zfE→(AV→List AE.Obj→Ans)→zWU→Ans:=fun a0 K=>fun _=>K (.ptr 0 0) [.cells [.str a0,.int .i64 (0)]]
theorem z4l (a:zfE) (K:AV→List AE.Obj→Ans):fnE Tryz.tab z2N zd 0 70 49 Tryz.f49.ntmps Tryz.f49.results.toList z3H z9V (zoX a).1 (zoX a).2 K=zcU a (z27 a K):=by kernel_rfl
def ZcA (a:zfE) (K:AV→List AE.Obj→Ans):Ans:=za (Ws a) fun y=>z27 a K y
def zx3:List AV→List AE.Obj→(AV→List AE.Obj→Ans)→Ans:=fun l H K=>za (zRW l H) fun a=>ZcA a K
theorem zgI:zO Tryz.prog 49 zx3:=ZK (hint:=zd) (d:=0) (n:=70) mixed tabOk z5D Tryz.func49 (zC (by kernel_rfl)) (by decide +kernel) z2b zVY z4l z0W
--@ field_width
noncomputable def zua:Env:=[]
theorem zLg:zf Tryz.prog zua:=zf.nil
noncomputable def z6t:Code:=Tryz.f92.body.getD .skip
noncomputable def zn2:Code:=zF [1,0] z6t
noncomputable def zwJ:Ann := .none
theorem zDS:zq Tryz.prog 9 zn2 zwJ:=(zb _ _ _)
abbrev jp:=(Int)
abbrev znX:=(Bool)
def zAR:jp→St:=fun t0=>{ env:=[(0,.int .i64 t0)],stk:=[[]],H:=[],blk:=376832 }
def ztb (s:St):Option {x:jp // s=zAR x}:=match s with
  | { env:=[(0,.int .i64 t0)],stk:=[[]],H:=[],blk:=376832 }=>some ⟨(t0),rfl⟩
  | _=>none
def zlz (s:St):Option jp:=pk (ztb s)
theorem zKE (s:St) (x:jp) (h:zlz s=some x):s=zAR x:=zt (o:=ztb s) h
def zlj:jp→(Ex→St→Ans)→znX→Ans:=fun t0 K=>fun t2_y=>K (Ex.norm) { env:=[(2,.bool t2_y)],stk:=[[]],H:=[],blk:=376832 }
def Wm {β:Type}:jp→(znX→Option β)→Option β:=fun t0 exit=>(bif decide (t0≥(1:Int)) then (exit (decide (t0≤(7:Int)))) else (exit (false)))
def Yq (i:jp):Option znX:=Wm i some
theorem zyf (i:jp) (k:znX→Ans):Wm i k=za (Yq i) k:=by
  obtain z:=i
  simp only [Yq,Wm,zj,zh,zl,zc,zi,zm,zg]
theorem zEu (i:jp) (K:Ex→St→Ans):zx Tryz.tab zua zd (zy Tryz.tab zua zd 0 64) 70 9 zwJ zn2 (zD 0 (exk [2] [2] []) K) (zAR i)=Wm i (zlj i K):=by kernel_rfl
theorem zPb:zw Tryz.prog 9 zn2 (zH zlz Yq zlj):=zE mixed tabOk zLg 0 (exk [2] [2] []) zDS zKE zEu zyf
noncomputable def zPH:(Ex→St→Ans)→St→Ans:=(zH zlz Yq zlj)
theorem zUd:zw Tryz.prog 9 zn2 zPH:=zPb
noncomputable def z1M:Ann:=(.seq .none (.seq (.cut 0 [0] zPH) .none))
theorem zZg:zq Tryz.prog 9 z6t z1M:=⟨(zb _ _ _),⟨zUd,(zb _ _ _)⟩⟩
abbrev zeK:=(Int)
abbrev zMp:=(Bool)
def ziV {β:Type}:zeK→(zMp→Option β)→Option β:=fun a0 exit=>(za (Yq (a0)) fun t2=>(exit (t2)))
def zct (a:zeK):Option zMp:=ziV a some
theorem zZv (a:zeK) (k:zMp→Ans):ziV a k=za (zct a) k:=by
  obtain z:=a
  simp only [zct,ziV,zj,zh,zl,zc,zi,zm,zg]
def zzy:zeK→List AV:=fun a0=>[.int .i64 a0]
def zKk (l:List AV):Option {a:zeK // l=zzy a}:=match l with
  | [.int .i64 a0]=>some ⟨(a0),rfl⟩
  | _=>none
def zRu (l:List AV):Option zeK:=pk (zKk l)
theorem zUY (l:List AV) (a:zeK) (h:zRu l=some a):l=zzy a:=zt (o:=zKk l) h
def zyR:zeK→zMp→AV:=fun a0=>fun r_y => .bool r_y
theorem zXH : ∀(a:zeK) (y:zMp),(zyR a y).closed1=true:=by
  rintro z y <;> first | rfl | exact Empty.elim y
theorem z42 (a:zeK):fnE Tryz.tab zua zd 0 70 92 Tryz.f92.ntmps Tryz.f92.results.toList z1M z6t (zzy a) [] (fun v _=>some (v,[]))=ziV a (fun y=>some (zyR a y,[])):=by kernel_rfl
def Zcq (a:zeK) (K:AV→Ans):Ans:=za (zct a) fun y=>K (zyR a y)
def zXB:List AV→(AV→Ans)→Ans:=fun l K=>za (zRu l) fun a=>Zcq a K
theorem zAL:zM Tryz.prog 92 zXB:=zL (hint:=zd) (d:=0) (n:=70) mixed tabOk zLg Tryz.func92 (zC (by kernel_rfl)) (by decide +kernel) zZg zUY z42 zZv zXH
--@ field_Reader_fail
noncomputable def z12:Env:=[]
theorem z54:zf Tryz.prog z12:=zf.nil
noncomputable def z9w:Code:=Tryz.f91.body.getD .skip
noncomputable def zYV:Ann := .none
theorem zYv:zq Tryz.prog 13 z9w zYV:=(zb _ _ _)
abbrev zfX:=(Int)×(List UInt8)×(Int)
abbrev zU2:=(Int)
def ztl {β:Type}:zfX→(zU2→Option β)→Option β:=fun (a1,o0_0,o0_1) exit=>(bif o0_1 == (0:Int) then (exit (a1)) else (exit (o0_1)))
def zb2 (a:zfX):Option zU2:=ztl a some
theorem zYb (a:zfX) (k:zU2→Ans):ztl a k=za (zb2 a) k:=by
  obtain ⟨a1,o0_0,o0_1⟩:=a
  simp only [zb2,ztl,zj,zh,zl,zc,zi,zm,zg]
def zn3:zfX→List AV×List AE.Obj:=fun (a1,o0_0,o0_1)=>([.ptr 0 0,.int .i64 a1],[.cells [.str o0_0,.int .i64 o0_1]])
def zLT (l:List AV) (H:List AE.Obj):Option {a:zfX // (l,H)=zn3 a}:=match l,H with
  | [.ptr 0 0,.int .i64 a1],[.cells [.str o0_0,.int .i64 o0_1]]=>some ⟨(a1,o0_0,o0_1),rfl⟩
  | _,_=>none
def zPh (l:List AV) (H:List AE.Obj):Option zfX:=pk (zLT l H)
theorem zTv (l:List AV) (H:List AE.Obj) (a:zfX) (h:zPh l H=some a):(l,H)=zn3 a:=zt (o:=zLT l H) h
def zZu:zfX→(AV→List AE.Obj→Ans)→zU2→Ans:=fun (a1,o0_0,o0_1) K=>fun o0_1_y=>K (.tup []) [.cells [.str o0_0,.int .i64 o0_1_y]]
theorem z40 (a:zfX) (K:AV→List AE.Obj→Ans):fnE Tryz.tab z12 zd 0 70 91 Tryz.f91.ntmps Tryz.f91.results.toList zYV z9w (zn3 a).1 (zn3 a).2 K=ztl a (zZu a K):=by kernel_rfl
def Zb8 (a:zfX) (K:AV→List AE.Obj→Ans):Ans:=za (zb2 a) fun y=>zZu a K y
def zVW:List AV→List AE.Obj→(AV→List AE.Obj→Ans)→Ans:=fun l H K=>za (zPh l H) fun a=>Zb8 a K
theorem zBq:zO Tryz.prog 91 zVW:=ZK (hint:=zd) (d:=0) (n:=70) mixed tabOk z54 Tryz.func91 (zC (by kernel_rfl)) (by decide +kernel) zYv zTv z40 zYb
--@ field_Reader_Bytes
noncomputable def zts:Env:=[(91,.func zVW)]
theorem zMl:zf Tryz.prog zts:=zf.cons zBq (zf.nil)
noncomputable def z7t:Code:=Tryz.f50.body.getD .skip
noncomputable def znG:Code:=zF [1,1,0,1] z7t
noncomputable def zuW:Ann := .none
theorem zGn:zq Tryz.prog 42 znG zuW:=(zb _ _ _)
abbrev jH:=(Int)×(Bool)×(List UInt8)×(Int)
abbrev zp9:=(Int)
def zAF:jH→St:=fun (t1,t9,o0_0,o0_1)=>{ env:=[(0,.ptr 0 0),(1,.int .i64 t1),(9,.bool t9)],stk:=[[(0,.ptr 0 0)]],H:=[.cells [.str o0_0,.int .i64 o0_1]],blk:=204800 }
def zul (s:St):Option {x:jH // s=zAF x}:=match s with
  | { env:=[(0,.ptr 0 0),(1,.int .i64 t1),(9,.bool t9)],stk:=[[(0,.ptr 0 0)]],H:=[.cells [.str o0_0,.int .i64 o0_1]],blk:=204800 }=>some ⟨(t1,t9,o0_0,o0_1),rfl⟩
  | _=>none
def zmU (s:St):Option jH:=pk (zul s)
theorem zIT (s:St) (x:jH) (h:zmU s=some x):s=zAF x:=zt (o:=zul s) h
def zlT:jH→(Ex→St→Ans)→zp9→Ans:=fun (t1,t9,o0_0,o0_1) K=>fun o0_1_y=>K (Ex.norm) { env:=[(0,.ptr 0 0),(1,.int .i64 t1)],stk:=[[(0,.ptr 0 0)]],H:=[.cells [.str o0_0,.int .i64 o0_1_y]],blk:=204800 }
def Wh {β:Type}:jH→(zp9→Option β)→Option β:=fun (t1,t9,o0_0,o0_1) exit=>(bif t9 then (za (zb2 ((3:Int),o0_0,o0_1)) fun o0_1_2=>(exit (o0_1_2))) else (bif decide (t1>(↑(List.length o0_0):Int)) then (za (zb2 ((1:Int),o0_0,o0_1)) fun o0_1_2=>(exit (o0_1_2))) else (exit (o0_1))))
def Ym (i:jH):Option zp9:=Wh i some
theorem zA1 (i:jH) (k:zp9→Ans):Wh i k=za (Ym i) k:=by
  obtain ⟨t1,t9,o0_0,o0_1⟩:=i
  simp only [Ym,Wh,zj,zh,zl,zc,zi,zm,zg]
theorem zEc (i:jH) (K:Ex→St→Ans):zx Tryz.tab zts zd (zy Tryz.tab zts zd 0 64) 70 42 zuW znG (zD 1 (exk [0,1] [4] []) K) (zAF i)=Wh i (zlT i K):=by kernel_rfl
theorem zOh:zw Tryz.prog 42 znG (zH zmU Ym zlT):=zE mixed tabOk zMl 1 (exk [0,1] [4] []) zGn zIT zEc zA1
noncomputable def zPU:(Ex→St→Ans)→St→Ans:=(zH zmU Ym zlT)
theorem zUq:zw Tryz.prog 42 znG zPU:=zOh
noncomputable def zZK:Ann:=(.seq .none (.seq .none (.seq (.seq .none (.cut 1 [0,1,9] zPU)) .none)))
theorem z0s:zq Tryz.prog 42 z7t zZK:=⟨(zb _ _ _),⟨(zb _ _ _),⟨⟨(zb _ _ _),zUq⟩,(zb _ _ _)⟩⟩⟩
abbrev zfU:=(Int)×(List UInt8)×(Int)
abbrev zVL:=(List UInt8)×(List UInt8)×(Int)
def zhD {β:Type}:zfU→(zVL→Option β)→Option β:=fun (a1,o0_0,o0_1) exit=>(za (Ym (a1,decide (a1<(0:Int)),o0_0,o0_1)) fun o0_1_2=>(bif o0_1_2 != (0:Int) then (exit ([],o0_0,o0_1_2)) else (bif inR a1 (List.length o0_0+(1:Nat)) then (bif inR a1 (List.length o0_0+(1:Nat)) then (exit (List.take (Int.toNat a1) o0_0,List.drop (Int.toNat a1) o0_0,o0_1_2)) else none) else none)))
def yK (a:zfU):Option zVL:=zhD a some
theorem z0E (a:zfU) (k:zVL→Ans):zhD a k=za (yK a) k:=by
  obtain ⟨a1,o0_0,o0_1⟩:=a
  simp only [yK,zhD,zj,zh,zl,zc,zi,zm,zg]
def zn8:zfU→List AV×List AE.Obj:=fun (a1,o0_0,o0_1)=>([.ptr 0 0,.int .i64 a1],[.cells [.str o0_0,.int .i64 o0_1]])
def zMN (l:List AV) (H:List AE.Obj):Option {a:zfU // (l,H)=zn8 a}:=match l,H with
  | [.ptr 0 0,.int .i64 a1],[.cells [.str o0_0,.int .i64 o0_1]]=>some ⟨(a1,o0_0,o0_1),rfl⟩
  | _,_=>none
def zPg (l:List AV) (H:List AE.Obj):Option zfU:=pk (zMN l H)
theorem zUm (l:List AV) (H:List AE.Obj) (a:zfU) (h:zPg l H=some a):(l,H)=zn8 a:=zt (o:=zMN l H) h
def z1o:zfU→(AV→List AE.Obj→Ans)→zVL→Ans:=fun (a1,o0_0,o0_1) K=>unP fun r_y=>unP fun o0_0_y o0_1_y=>K (.str r_y) [.cells [.str o0_0_y,.int .i64 o0_1_y]]
theorem z6U (a:zfU) (K:AV→List AE.Obj→Ans):fnE Tryz.tab zts zd 0 70 50 Tryz.f50.ntmps Tryz.f50.results.toList zZK z7t (zn8 a).1 (zn8 a).2 K=zhD a (z1o a K):=by kernel_rfl
def ZcL (a:zfU) (K:AV→List AE.Obj→Ans):Ans:=za (yK a) fun y=>z1o a K y
def zqZ:List AV→List AE.Obj→(AV→List AE.Obj→Ans)→Ans:=fun l H K=>za (zPg l H) fun a=>ZcL a K
theorem zdm:zO Tryz.prog 50 zqZ:=ZK (hint:=zd) (d:=0) (n:=70) mixed tabOk zMl Tryz.func50 (zC (by kernel_rfl)) (by decide +kernel) z0s zUm z6U z0E
--@ field_Reader_Num
noncomputable def zgO:Env:=[(92,.pure zXB),(91,.func zVW),(50,.func zqZ)]
theorem zL3:zf Tryz.prog zgO:=zf.cons zAL (zf.cons zBq (zf.cons zdm (zf.nil)))
noncomputable def z4w:Code:=Tryz.f51.body.getD .skip
noncomputable def zgh:Code:=zF [1,1,1,1,0,1,0,0] z4w
noncomputable def ziZ:Ann := .at 1 [5,18,19,20] (.loop .none)
theorem zDZ:zq Tryz.prog 31 (.loop zgh) ziZ:=Zp (zb _ _ _)
abbrev jr:=(Int)×(List UInt8)×(Int)×(List Int)
abbrev znP:=(Int)
abbrev wE:=(Int)×(Int)
def zpa:jr→wE→St:=fun (t19,o0_0,o0_1,o1) (t5,t20)=>{ env:=[(5,.int .i64 t5),(18,.own 1),(19,.int .i64 t19),(20,.int .i64 t20)],stk:=[[(0,.ptr 0 0)]],H:=[.cells [.str o0_0,.int .i64 o0_1],.arr (.int .u8) o1],blk:=208896 }
def zsz (s:St):Option {x:jr×wE // s=zpa x.1 x.2}:=match s with
  | { env:=[(5,.int .i64 t5),(18,.own 1),(19,.int .i64 t19),(20,.int .i64 t20)],stk:=[[(0,.ptr 0 0)]],H:=[.cells [.str o0_0,.int .i64 o0_1],.arr (.int .u8) o1],blk:=208896 }=>some ⟨((t19,o0_0,o0_1,o1),(t5,t20)),rfl⟩
  | _=>none
def zlf (s:St):Option (jr×wE):=pk (zsz s)
theorem zMU (s:St) (x:jr×wE) (h:zlf s=some x):s=zpa x.1 x.2:=zt (o:=zsz s) h
def zmK:jr→(Ex→St→Ans)→znP→Ans:=fun (t19,o0_0,o0_1,o1) K=>fun t5_y=>K (Ex.exit 0) { env:=[(5,.int .i64 t5_y)],stk:=[[(0,.ptr 0 0)]],H:=[.cells [.str o0_0,.int .i64 o0_1]],blk:=208896 }
def Qo {β:Type}:jr→wE→(wE→Option β)→(znP→Option β)→Option β:=fun (t19,o0_0,o0_1,o1) (t5,t20) next exit=>(bif decide (t20<t19) then (bif inR t20 (List.length o1) then (za (o1[Int.toNat t20]?) fun x=>(next (IntKind.wrap .i64 (↑(Int.toNat (IntKind.wrap .i64 (t5*(256:Int)) % (18446744073709551616:Int)) ||| Int.toNat (IntKind.wrap .i64 x % (18446744073709551616:Int))):Int),IntKind.wrap .i64 (t20+(1:Int))))) else none) else (exit (t5)))
def yY (i:jr) (v:wE):Option (wE ⊕ znP):=Qo i v (fun v=>some (.inl v)) (fun y=>some (.inr y))
theorem zyg (i:jr) (v:wE) (next:wE→Ans) (exit:znP→Ans):Qo i v next exit=za (yY i v) (Sum.elim next exit):=by
  obtain ⟨t19,o0_0,o0_1,o1⟩:=i
  obtain ⟨t5,t20⟩:=v
  simp only [yY,Qo,zj,zh,zl,zc,zi,zm,zg,Sum.elim_inl,Sum.elim_inr]
theorem zFd (n:Nat) (i:jr) (v:wE) (K:Ex→St→Ans):zx Tryz.tab zgO zd (zy Tryz.tab zgO zd 0 64) (n+1) 31 ziZ (.loop zgh) (zD 1 (exk [5] [4] [(0,[5])]) K) (zpa i v)=Qo i v (fun v'=>zx Tryz.tab zgO zd (zy Tryz.tab zgO zd 0 64) n 31 ziZ (.loop zgh) (zD 1 (exk [5] [4] [(0,[5])]) K) (zpa i v')) (fun y=>zmK i K y):=by kernel_rfl
theorem zOv:zw Tryz.prog 31 (.loop zgh) (Zr zlf yY zmK):=Zj mixed tabOk zL3 1 (exk [5] [4] [(0,[5])]) zDZ zMU zFd zyg
noncomputable def zQs:(Ex→St→Ans)→St→Ans:=(Zr zlf yY zmK)
theorem zXs:zw Tryz.prog 31 (.loop zgh) zQs:=zOv
noncomputable def zZR:Ann:=(.seq .none (.seq .none (.seq .none (.seq .none (.seq (.seq .none (.block (.cut 1 [5,18,19,20] zQs))) .none)))))
theorem zYY:zq Tryz.prog 31 z4w zZR:=⟨(zb _ _ _),⟨(zb _ _ _),⟨(zb _ _ _),⟨(zb _ _ _),⟨⟨(zb _ _ _),zXs⟩,(zb _ _ _)⟩⟩⟩⟩⟩
abbrev zfu:=(Int)×(List UInt8)×(Int)
abbrev zV4:=(Int)×(List UInt8)×(Int)
def zoC {β:Type}:zfu→(zV4→Option β)→Option β:=fun (a1,o0_0,o0_1) exit=>(za (zct (a1)) fun r=>(bif !r then (za (zb2 ((3:Int),o0_0,o0_1)) fun o0_1_2=>(exit ((0:Int),o0_0,o0_1_2))) else (za (yK (a1,o0_0,o0_1)) (unP fun r_2=>unP fun o0_0_2 o0_1_2=>(bif Nat.ble (List.length r_2) (140737488355328:Nat) then (za (zP (yY ((↑(List.length (Zg r_2)):Int),o0_0_2,o0_1_2,Zg r_2)) zZ ((0:Int),(0:Int))) fun t5=>(exit (t5,o0_0_2,o0_1_2))) else none)))))
def Z5 (a:zfu):Option zV4:=zoC a some
theorem z1E (a:zfu) (k:zV4→Ans):zoC a k=za (Z5 a) k:=by
  obtain ⟨a1,o0_0,o0_1⟩:=a
  simp only [Z5,zoC,zj,zh,zl,zc,zi,zm,zg]
def zm3:zfu→List AV×List AE.Obj:=fun (a1,o0_0,o0_1)=>([.ptr 0 0,.int .i64 a1],[.cells [.str o0_0,.int .i64 o0_1]])
def zMm (l:List AV) (H:List AE.Obj):Option {a:zfu // (l,H)=zm3 a}:=match l,H with
  | [.ptr 0 0,.int .i64 a1],[.cells [.str o0_0,.int .i64 o0_1]]=>some ⟨(a1,o0_0,o0_1),rfl⟩
  | _,_=>none
def zPD (l:List AV) (H:List AE.Obj):Option zfu:=pk (zMm l H)
theorem zVg (l:List AV) (H:List AE.Obj) (a:zfu) (h:zPD l H=some a):(l,H)=zm3 a:=zt (o:=zMm l H) h
def z2Q:zfu→(AV→List AE.Obj→Ans)→zV4→Ans:=fun (a1,o0_0,o0_1) K=>unP fun r_y=>unP fun o0_0_y o0_1_y=>K (.int .i64 r_y) [.cells [.str o0_0_y,.int .i64 o0_1_y]]
theorem z32 (a:zfu) (K:AV→List AE.Obj→Ans):fnE Tryz.tab zgO zd 0 70 51 Tryz.f51.ntmps Tryz.f51.results.toList zZR z4w (zm3 a).1 (zm3 a).2 K=zoC a (z2Q a K):=by kernel_rfl
def Zcw (a:zfu) (K:AV→List AE.Obj→Ans):Ans:=za (Z5 a) fun y=>z2Q a K y
def zr1:List AV→List AE.Obj→(AV→List AE.Obj→Ans)→Ans:=fun l H K=>za (zPD l H) fun a=>Zcw a K
theorem zdl:zO Tryz.prog 51 zr1:=ZK (hint:=zd) (d:=0) (n:=70) mixed tabOk zL3 Tryz.func51 (zC (by kernel_rfl)) (by decide +kernel) zYY zVg z32 z1E
--@ field_Reader_End
noncomputable def zg3:Env:=[]
theorem zro:zf Tryz.prog zg3:=zf.nil
noncomputable def zTY:Code:=Tryz.f96.body.getD .skip
noncomputable def znY:Code:=zF [1,0,0,1,1,0] zTY
noncomputable def zvC:Ann := .none
theorem zD3:zq Tryz.prog 23 znY zvC:=(zb _ _ _)
abbrev Q2:=(List UInt8)×(Int)
abbrev zpc:=(Bool)
def zzp:Q2→St:=fun (o0_0,o0_1)=>{ env:=[(0,.ptr 0 0)],stk:=[[(0,.ptr 0 0)]],H:=[.cells [.str o0_0,.int .i64 o0_1]],blk:=393216 }
def zs1 (s:St):Option {x:Q2 // s=zzp x}:=match s with
  | { env:=[(0,.ptr 0 0)],stk:=[[(0,.ptr 0 0)]],H:=[.cells [.str o0_0,.int .i64 o0_1]],blk:=393216 }=>some ⟨(o0_0,o0_1),rfl⟩
  | _=>none
def zji (s:St):Option Q2:=pk (zs1 s)
theorem zIp (s:St) (x:Q2) (h:zji s=some x):s=zzp x:=zt (o:=zs1 s) h
def zkM:Q2→(Ex→St→Ans)→zpc→Ans:=fun (o0_0,o0_1) K=>fun t6_y=>K (Ex.norm) { env:=[(0,.ptr 0 0),(6,.bool t6_y)],stk:=[[(0,.ptr 0 0)]],H:=[.cells [.str o0_0,.int .i64 o0_1]],blk:=393216 }
def JW {β:Type}:Q2→(zpc→Option β)→Option β:=fun (o0_0,o0_1) exit=>(bif o0_1 == (0:Int) then (exit (!o0_0 == [])) else (exit (false)))
def W8 (i:Q2):Option zpc:=JW i some
theorem zBj (i:Q2) (k:zpc→Ans):JW i k=za (W8 i) k:=by
  obtain ⟨o0_0,o0_1⟩:=i
  simp only [W8,JW,zj,zh,zl,zc,zi,zm,zg]
theorem zDx (i:Q2) (K:Ex→St→Ans):zx Tryz.tab zg3 zd (zy Tryz.tab zg3 zd 0 64) 70 23 zvC znY (zD 1 (exk [0,6] [2] []) K) (zzp i)=JW i (zkM i K):=by kernel_rfl
theorem zNm:zw Tryz.prog 23 znY (zH zji W8 zkM):=zE mixed tabOk zro 1 (exk [0,6] [2] []) zD3 zIp zDx zBj
noncomputable def zPC:(Ex→St→Ans)→St→Ans:=(zH zji W8 zkM)
theorem zWv:zw Tryz.prog 23 znY zPC:=zNm
noncomputable def zm8:Code:=zF [1,0] zTY
noncomputable def zwh:Ann:=(.block (.seq .none (.cond .none (.seq (.cut 1 [0] zPC) .none))))
theorem zD6:zq Tryz.prog 23 zm8 zwh:=⟨(zb _ _ _),⟨(zb _ _ _),⟨zWv,(zb _ _ _)⟩⟩⟩
abbrev QR:=(List UInt8)×(Int)
abbrev zqn:=(Unit) ⊕ (Unit)
def zxt:QR→St:=fun (o0_0,o0_1)=>{ env:=[(0,.ptr 0 0)],stk:=[[(0,.ptr 0 0)]],H:=[.cells [.str o0_0,.int .i64 o0_1]],blk:=393216 }
def zsi (s:St):Option {x:QR // s=zxt x}:=match s with
  | { env:=[(0,.ptr 0 0)],stk:=[[(0,.ptr 0 0)]],H:=[.cells [.str o0_0,.int .i64 o0_1]],blk:=393216 }=>some ⟨(o0_0,o0_1),rfl⟩
  | _=>none
def zjI (s:St):Option QR:=pk (zsi s)
theorem zK6 (s:St) (x:QR) (h:zjI s=some x):s=zxt x:=zt (o:=zsi s) h
def zl4:QR→(Ex→St→Ans)→zqn→Ans:=fun (o0_0,o0_1) K=>(Sum.elim (fun _=>K (Ex.ret) { env:=[(2,.int .i64 (2))],stk:=[[(0,.ptr 0 0)]],H:=[.cells [.str o0_0,.int .i64 o0_1]],blk:=393216 }) (fun _=>K (Ex.norm) { env:=[(0,.ptr 0 0)],stk:=[[(0,.ptr 0 0)]],H:=[.cells [.str o0_0,.int .i64 o0_1]],blk:=393216 }))
def zau {β:Type}:QR→(zqn→Option β)→Option β:=fun (o0_0,o0_1) exit=>(za (W8 (o0_0,o0_1)) fun t6=>(bif t6 then (exit (Sum.inl ())) else (exit (Sum.inr ()))))
def qi (i:QR):Option zqn:=zau i some
theorem zBk (i:QR) (k:zqn→Ans):zau i k=za (qi i) k:=by
  obtain ⟨o0_0,o0_1⟩:=i
  simp only [qi,zau,zj,zh,zl,zc,zi,zm,zg]
theorem zEf (i:QR) (K:Ex→St→Ans):zx Tryz.tab zg3 zd (zy Tryz.tab zg3 zd 0 64) 70 23 zwh zm8 (zD 1 (exk [0] [2] []) K) (zxt i)=zau i (zl4 i K):=by kernel_rfl
theorem zOn:zw Tryz.prog 23 zm8 (zH zjI qi zl4):=zE mixed tabOk zro 1 (exk [0] [2] []) zD6 zK6 zEf zBk
noncomputable def zPN:(Ex→St→Ans)→St→Ans:=(zH zjI qi zl4)
theorem zS4:zw Tryz.prog 23 zm8 zPN:=zOn
noncomputable def zYe:Ann:=(.seq .none (.seq (.cut 1 [0] zPN) .none))
theorem zYH:zq Tryz.prog 23 zTY zYe:=⟨(zb _ _ _),⟨zS4,(zb _ _ _)⟩⟩
abbrev zf0:=(List UInt8)×(Int)
abbrev zWE:=(Int)
def zvb {β:Type}:zf0→(zWE→Option β)→Option β:=fun (o0_0,o0_1) exit=>(za (qi (o0_0,o0_1)) (Sum.elim (fun _=>(exit ((2:Int)))) (fun _=>(exit (o0_1)))))
def zdy (a:zf0):Option zWE:=zvb a some
theorem z1V (a:zf0) (k:zWE→Ans):zvb a k=za (zdy a) k:=by
  obtain ⟨o0_0,o0_1⟩:=a
  simp only [zdy,zvb,zj,zh,zl,zc,zi,zm,zg]
def zph:zf0→List AV×List AE.Obj:=fun (o0_0,o0_1)=>([.ptr 0 0],[.cells [.str o0_0,.int .i64 o0_1]])
def zLy (l:List AV) (H:List AE.Obj):Option {a:zf0 // (l,H)=zph a}:=match l,H with
  | [.ptr 0 0],[.cells [.str o0_0,.int .i64 o0_1]]=>some ⟨(o0_0,o0_1),rfl⟩
  | _,_=>none
def zRm (l:List AV) (H:List AE.Obj):Option zf0:=pk (zLy l H)
theorem zXJ (l:List AV) (H:List AE.Obj) (a:zf0) (h:zRm l H=some a):(l,H)=zph a:=zt (o:=zLy l H) h
def z0Y:zf0→(AV→List AE.Obj→Ans)→zWE→Ans:=fun (o0_0,o0_1) K=>fun r_y=>K (.int .i64 r_y) [.cells [.str o0_0,.int .i64 o0_1]]
theorem z5W (a:zf0) (K:AV→List AE.Obj→Ans):fnE Tryz.tab zg3 zd 0 70 96 Tryz.f96.ntmps Tryz.f96.results.toList zYe zTY (zph a).1 (zph a).2 K=zvb a (z0Y a K):=by kernel_rfl
def Zcr (a:zf0) (K:AV→List AE.Obj→Ans):Ans:=za (zdy a) fun y=>z0Y a K y
def zT3:List AV→List AE.Obj→(AV→List AE.Obj→Ans)→Ans:=fun l H K=>za (zRm l H) fun a=>Zcr a K
theorem zBw:zO Tryz.prog 96 zT3:=ZK (hint:=zd) (d:=0) (n:=70) mixed tabOk zro Tryz.func96 (zC (by kernel_rfl)) (by decide +kernel) zYH zXJ z5W z1V
--@ cyclic_New
noncomputable def z7T:Env:=[]
theorem z81:zf Tryz.prog z7T:=zf.nil
noncomputable def bq0:Code:=Tryz.f139.body.getD .skip
noncomputable def z7G:Ann := .none
theorem z7c:zq Tryz.prog 3 bq0 z7G:=(zb _ _ _)
abbrev Aq0:=Unit
abbrev Yq0:=Unit
def zME {β:Type}:Aq0→(Yq0→Option β)→Option β:=fun _ exit=>(exit ())
def zwY (a:Aq0):Option Yq0:=zME a some
theorem z5p (a:Aq0) (k:Yq0→Ans):zME a k=za (zwY a) k:=by
  obtain z:=a
  simp only [zwY,zME,zj,zh,zl,zc,zi,zm,zg]
def ztW:Aq0→List AV×List AE.Obj:=fun _=>([],[])
def zQw (l:List AV) (H:List AE.Obj):Option {a:Aq0 // (l,H)=ztW a}:=match l,H with
  | [],[]=>some ⟨(),rfl⟩
  | _,_=>none
def z1W (l:List AV) (H:List AE.Obj):Option Aq0:=pk (zQw l H)
theorem z1X (l:List AV) (H:List AE.Obj) (a:Aq0) (h:z1W l H=some a):(l,H)=ztW a:=zt (o:=zQw l H) h
def z7K:Aq0→(AV→List AE.Obj→Ans)→Yq0→Ans:=fun _ K=>fun _=>K (.ptr 0 0) [.cells [.int .u32 (0)]]
theorem z8l (a:Aq0) (K:AV→List AE.Obj→Ans):fnE Tryz.tab z7T zd 0 70 139 Tryz.f139.ntmps Tryz.f139.results.toList z7G bq0 (ztW a).1 (ztW a).2 K=zME a (z7K a K):=by kernel_rfl
def ZcX (a:Aq0) (K:AV→List AE.Obj→Ans):Ans:=za (zwY a) fun y=>z7K a K y
def Fq0:List AV→List AE.Obj→(AV→List AE.Obj→Ans)→Ans:=fun l H K=>za (z1W l H) fun a=>ZcX a K
theorem z2H:zO Tryz.prog 139 Fq0:=ZK (hint:=zd) (d:=0) (n:=70) mixed tabOk z81 Tryz.func139 (zC (by kernel_rfl)) (by decide +kernel) z7c z1X z8l z5p
--@ cyclic_step
noncomputable def zoR:Env:=[]
theorem zP1:zf Tryz.prog zoR:=zf.nil
noncomputable def bq5:Code:=Tryz.f179.body.getD .skip
noncomputable def zmn:Code:=zF [1,1,0,1,0,0] bq5
noncomputable def zj8:Ann := .at 0 [0,9] (.loop .none)
theorem zLj:zq Tryz.prog 20 (.loop zmn) zj8:=Zp (zb _ _ _)
abbrev zaA:=Unit
abbrev zwk:=(Int)
abbrev q2:=(Int)×(Int)
def zty:zaA→q2→St:=fun _ (t0,t9)=>{ env:=[(0,.int .u32 t0),(9,.int .i64 t9)],stk:=[[]],H:=[],blk:=733184 }
def zDf (s:St):Option {x:zaA×q2 // s=zty x.1 x.2}:=match s with
  | { env:=[(0,.int .u32 t0),(9,.int .i64 t9)],stk:=[[]],H:=[],blk:=733184 }=>some ⟨((),(t0,t9)),rfl⟩
  | _=>none
def zrw (s:St):Option (zaA×q2):=pk (zDf s)
theorem zNz (s:St) (x:zaA×q2) (h:zrw s=some x):s=zty x.1 x.2:=zt (o:=zDf s) h
def zrV:zaA→(Ex→St→Ans)→zwk→Ans:=fun _ K=>fun t0_y=>K (Ex.exit 0) { env:=[(0,.int .u32 t0_y)],stk:=[[]],H:=[],blk:=733184 }
def JG {β:Type}:zaA→q2→(q2→Option β)→(zwk→Option β)→Option β:=fun _ (t0,t9) next exit=>(bif decide (t9<(8:Int)) then (next (IntKind.wrap .u32 (↑(Int.toNat (Int.fdiv t0 (2:Int) % (4294967296:Int)) ^^^ Int.toNat (IntKind.wrap .u32 (↑((3988292384:Nat) &&& Int.toNat (IntKind.wrap .u32 ((0:Int) - IntKind.wrap .u32 (↑(Int.toNat (t0 % (4294967296:Int)) &&& (1:Nat)):Int)) % (4294967296:Int))):Int) % (4294967296:Int))):Int),IntKind.wrap .i64 (t9+(1:Int)))) else (exit (t0)))
def Y0 (i:zaA) (v:q2):Option (q2 ⊕ zwk):=JG i v (fun v=>some (.inl v)) (fun y=>some (.inr y))
theorem zDX (i:zaA) (v:q2) (next:q2→Ans) (exit:zwk→Ans):JG i v next exit=za (Y0 i v) (Sum.elim next exit):=by
  obtain z:=i
  obtain ⟨t0,t9⟩:=v
  simp only [Y0,JG,zj,zh,zl,zc,zi,zm,zg,Sum.elim_inl,Sum.elim_inr]
theorem zJm (n:Nat) (i:zaA) (v:q2) (K:Ex→St→Ans):zx Tryz.tab zoR zd (zy Tryz.tab zoR zd 0 64) (n+1) 20 zj8 (.loop zmn) (zD 0 (exk [0] [4] [(0,[0])]) K) (zty i v)=JG i v (fun v'=>zx Tryz.tab zoR zd (zy Tryz.tab zoR zd 0 64) n 20 zj8 (.loop zmn) (zD 0 (exk [0] [4] [(0,[0])]) K) (zty i v')) (fun y=>zrV i K y):=by kernel_rfl
theorem zXp:zw Tryz.prog 20 (.loop zmn) (Zr zrw Y0 zrV):=Zj mixed tabOk zP1 0 (exk [0] [4] [(0,[0])]) zLj zNz zJm zDX
noncomputable def zYF:(Ex→St→Ans)→St→Ans:=(Zr zrw Y0 zrV)
theorem z3p:zw Tryz.prog 20 (.loop zmn) zYF:=zXp
noncomputable def z7X:Ann:=(.seq .none (.seq .none (.seq (.seq .none (.block (.cut 0 [0,9] zYF))) .none)))
theorem z5A:zq Tryz.prog 20 bq5 z7X:=⟨(zb _ _ _),⟨(zb _ _ _),⟨⟨(zb _ _ _),z3p⟩,(zb _ _ _)⟩⟩⟩
abbrev Aq5:=(Int)×(Int)
abbrev Yq5:=(Int)
def zHL {β:Type}:Aq5→(Yq5→Option β)→Option β:=fun (a0,a1) exit=>(za (zP (Y0 ()) zZ (IntKind.wrap .u32 (↑(Int.toNat (a0 % (4294967296:Int)) ^^^ Int.toNat (IntKind.wrap .u32 a1 % (4294967296:Int))):Int),(0:Int))) fun t0=>(exit (t0)))
def zpJ (a:Aq5):Option Yq5:=zHL a some
theorem z4d (a:Aq5) (k:Yq5→Ans):zHL a k=za (zpJ a) k:=by
  obtain ⟨a0,a1⟩:=a
  simp only [zpJ,zHL,zj,zh,zl,zc,zi,zm,zg]
def zIh:Aq5→List AV:=fun (a0,a1)=>[.int .u32 a0,.int .u8 a1]
def zRN (l:List AV):Option {a:Aq5 // l=zIh a}:=match l with
  | [.int .u32 a0,.int .u8 a1]=>some ⟨(a0,a1),rfl⟩
  | _=>none
def z3w (l:List AV):Option Aq5:=pk (zRN l)
theorem z2z (l:List AV) (a:Aq5) (h:z3w l=some a):l=zIh a:=zt (o:=zRN l) h
def zLc:Aq5→Yq5→AV:=fun (a0,a1)=>fun r_y => .int .u32 r_y
theorem z0m : ∀(a:Aq5) (y:Yq5),(zLc a y).closed1=true:=by
  rintro ⟨a0,a1⟩ y <;> first | rfl | exact Empty.elim y
theorem z9d (a:Aq5):fnE Tryz.tab zoR zd 0 70 179 Tryz.f179.ntmps Tryz.f179.results.toList z7X bq5 (zIh a) [] (fun v _=>some (v,[]))=zHL a (fun y=>some (zLc a y,[])):=by kernel_rfl
def Zc7 (a:Aq5) (K:AV→Ans):Ans:=za (zpJ a) fun y=>K (zLc a y)
def Fq5:List AV→(AV→Ans)→Ans:=fun l K=>za (z3w l) fun a=>Zc7 a K
theorem z0y:zM Tryz.prog 179 Fq5:=zL (hint:=zd) (d:=0) (n:=70) mixed tabOk zP1 Tryz.func179 (zC (by kernel_rfl)) (by decide +kernel) z5A z2z z9d z4d z0m
--@ cyclic_State_Add
noncomputable def zok:Env:=[(179,.pure Fq5)]
theorem zP7:zf Tryz.prog zok:=zf.cons z0y (zf.nil)
noncomputable def bq2:Code:=Tryz.f140.body.getD .skip
noncomputable def zkt:Code:=zF [1,1,0,1,0,0] bq2
noncomputable def zjB:Ann := .at 1 [0,1,4,14,15] (.loop .none)
theorem zHX:zq Tryz.prog 29 (.loop zkt) zjB:=Zp (zb _ _ _)
abbrev zbk:=(List UInt8)×(Int)×(Int)
abbrev zvk:=(Int)
abbrev qT:=(Int)×(Int)
def ztT:zbk→qT→St:=fun (t1,t14,o0_0) (t4,t15)=>{ env:=[(0,.ptr 0 0),(1,.str t1),(4,.int .u32 t4),(14,.int .i64 t14),(15,.int .i64 t15)],stk:=[[(0,.ptr 0 0)]],H:=[.cells [.int .u32 o0_0]],blk:=573440 }
def zDe (s:St):Option {x:zbk×qT // s=ztT x.1 x.2}:=match s with
  | { env:=[(0,.ptr 0 0),(1,.str t1),(4,.int .u32 t4),(14,.int .i64 t14),(15,.int .i64 t15)],stk:=[[(0,.ptr 0 0)]],H:=[.cells [.int .u32 o0_0]],blk:=573440 }=>some ⟨((t1,t14,o0_0),(t4,t15)),rfl⟩
  | _=>none
def zrg (s:St):Option (zbk×qT):=pk (zDe s)
theorem zOi (s:St) (x:zbk×qT) (h:zrg s=some x):s=ztT x.1 x.2:=zt (o:=zDe s) h
def zrr:zbk→(Ex→St→Ans)→zvk→Ans:=fun (t1,t14,o0_0) K=>fun t4_y=>K (Ex.exit 0) { env:=[(0,.ptr 0 0),(4,.int .u32 t4_y)],stk:=[[(0,.ptr 0 0)]],H:=[.cells [.int .u32 o0_0]],blk:=573440 }
def Ju {β:Type}:zbk→qT→(qT→Option β)→(zvk→Option β)→Option β:=fun (t1,t14,o0_0) (t4,t15) next exit=>(bif decide (t15<t14) then (za (nth t1 t15) fun x=>(za (zpJ (t4,(↑(UInt8.toNat x):Int))) fun r=>(next (r,IntKind.wrap .i64 (t15+(1:Int)))))) else (exit (t4)))
def Yc (i:zbk) (v:qT):Option (qT ⊕ zvk):=Ju i v (fun v=>some (.inl v)) (fun y=>some (.inr y))
theorem zF5 (i:zbk) (v:qT) (next:qT→Ans) (exit:zvk→Ans):Ju i v next exit=za (Yc i v) (Sum.elim next exit):=by
  obtain ⟨t1,t14,o0_0⟩:=i
  obtain ⟨t4,t15⟩:=v
  simp only [Yc,Ju,zj,zh,zl,zc,zi,zm,zg,Sum.elim_inl,Sum.elim_inr]
theorem zMD (n:Nat) (i:zbk) (v:qT) (K:Ex→St→Ans):zx Tryz.tab zok zd (zy Tryz.tab zok zd 0 64) (n+1) 29 zjB (.loop zkt) (zD 1 (exk [0,4] [] [(0,[0,4])]) K) (ztT i v)=Ju i v (fun v'=>zx Tryz.tab zok zd (zy Tryz.tab zok zd 0 64) n 29 zjB (.loop zkt) (zD 1 (exk [0,4] [] [(0,[0,4])]) K) (ztT i v')) (fun y=>zrr i K y):=by kernel_rfl
theorem zWh:zw Tryz.prog 29 (.loop zkt) (Zr zrg Yc zrr):=Zj mixed tabOk zP7 1 (exk [0,4] [] [(0,[0,4])]) zHX zOi zMD zF5
noncomputable def z3y:(Ex→St→Ans)→St→Ans:=(Zr zrg Yc zrr)
theorem zYo:zw Tryz.prog 29 (.loop zkt) z3y:=zWh
noncomputable def z73:Ann:=(.seq .none (.seq .none (.seq (.seq .none (.block (.cut 1 [0,1,4,14,15] z3y))) .none)))
theorem z6V:zq Tryz.prog 29 bq2 z73:=⟨(zb _ _ _),⟨(zb _ _ _),⟨⟨(zb _ _ _),zYo⟩,(zb _ _ _)⟩⟩⟩
abbrev Aq2:=(List UInt8)×(Int)
abbrev Yq2:=(Int)
def zJU {β:Type}:Aq2→(Yq2→Option β)→Option β:=fun (a1,o0_0) exit=>(za (zP (Yc (a1,(↑(List.length a1):Int),o0_0)) zZ (IntKind.wrap .u32 (↑(Int.toNat (o0_0 % (4294967296:Int)) ^^^ (4294967295:Nat)):Int),(0:Int))) fun t4=>(exit (IntKind.wrap .u32 (↑(Int.toNat (t4 % (4294967296:Int)) ^^^ (4294967295:Nat)):Int))))
def zuR (a:Aq2):Option Yq2:=zJU a some
theorem z5s (a:Aq2) (k:Yq2→Ans):zJU a k=za (zuR a) k:=by
  obtain ⟨a1,o0_0⟩:=a
  simp only [zuR,zJU,zj,zh,zl,zc,zi,zm,zg]
def zv4:Aq2→List AV×List AE.Obj:=fun (a1,o0_0)=>([.ptr 0 0,.str a1],[.cells [.int .u32 o0_0]])
def zQu (l:List AV) (H:List AE.Obj):Option {a:Aq2 // (l,H)=zv4 a}:=match l,H with
  | [.ptr 0 0,.str a1],[.cells [.int .u32 o0_0]]=>some ⟨(a1,o0_0),rfl⟩
  | _,_=>none
def zZ1 (l:List AV) (H:List AE.Obj):Option Aq2:=pk (zQu l H)
theorem z0U (l:List AV) (H:List AE.Obj) (a:Aq2) (h:zZ1 l H=some a):(l,H)=zv4 a:=zt (o:=zQu l H) h
def z7I:Aq2→(AV→List AE.Obj→Ans)→Yq2→Ans:=fun (a1,o0_0) K=>fun o0_0_y=>K (.tup []) [.cells [.int .u32 o0_0_y]]
theorem z8T (a:Aq2) (K:AV→List AE.Obj→Ans):fnE Tryz.tab zok zd 0 70 140 Tryz.f140.ntmps Tryz.f140.results.toList z73 bq2 (zv4 a).1 (zv4 a).2 K=zJU a (z7I a K):=by kernel_rfl
def Zc3 (a:Aq2) (K:AV→List AE.Obj→Ans):Ans:=za (zuR a) fun y=>z7I a K y
def Fq2:List AV→List AE.Obj→(AV→List AE.Obj→Ans)→Ans:=fun l H K=>za (zZ1 l H) fun a=>Zc3 a K
theorem z1C:zO Tryz.prog 140 Fq2:=ZK (hint:=zd) (d:=0) (n:=70) mixed tabOk zP7 Tryz.func140 (zC (by kernel_rfl)) (by decide +kernel) z6V z0U z8T z5s
--@ cyclic_State_Sum
noncomputable def z7Q:Env:=[]
theorem z8k:zf Tryz.prog z7Q:=zf.nil
noncomputable def bq3:Code:=Tryz.f141.body.getD .skip
noncomputable def z7N:Ann := .none
theorem z5g:zq Tryz.prog 10 bq3 z7N:=(zb _ _ _)
abbrev Aq3:=(Int)
abbrev Yq3:=(Int)
def zNa {β:Type}:Aq3→(Yq3→Option β)→Option β:=fun o0_0 exit=>(exit (IntKind.wrap .i64 o0_0))
def zs8 (a:Aq3):Option Yq3:=zNa a some
theorem z5M (a:Aq3) (k:Yq3→Ans):zNa a k=za (zs8 a) k:=by
  obtain z:=a
  simp only [zs8,zNa,zj,zh,zl,zc,zi,zm,zg]
def zsj:Aq3→List AV×List AE.Obj:=fun o0_0=>([.ptr 0 0],[.cells [.int .u32 o0_0]])
def zPO (l:List AV) (H:List AE.Obj):Option {a:Aq3 // (l,H)=zsj a}:=match l,H with
  | [.ptr 0 0],[.cells [.int .u32 o0_0]]=>some ⟨(o0_0),rfl⟩
  | _,_=>none
def z2X (l:List AV) (H:List AE.Obj):Option Aq3:=pk (zPO l H)
theorem z3x (l:List AV) (H:List AE.Obj) (a:Aq3) (h:z2X l H=some a):(l,H)=zsj a:=zt (o:=zPO l H) h
def z8a:Aq3→(AV→List AE.Obj→Ans)→Yq3→Ans:=fun o0_0 K=>fun r_y=>K (.int .i64 r_y) [.cells [.int .u32 o0_0]]
theorem z9k (a:Aq3) (K:AV→List AE.Obj→Ans):fnE Tryz.tab z7Q zd 0 70 141 Tryz.f141.ntmps Tryz.f141.results.toList z7N bq3 (zsj a).1 (zsj a).2 K=zNa a (z8a a K):=by kernel_rfl
def Zc4 (a:Aq3) (K:AV→List AE.Obj→Ans):Ans:=za (zs8 a) fun y=>z8a a K y
def Fq3:List AV→List AE.Obj→(AV→List AE.Obj→Ans)→Ans:=fun l H K=>za (z2X l H) fun a=>Zc4 a K
theorem zZb:zO Tryz.prog 141 Fq3:=ZK (hint:=zd) (d:=0) (n:=70) mixed tabOk z8k Tryz.func141 (zC (by kernel_rfl)) (by decide +kernel) z5g z3x z9k z5M
--@ cyclic_Of
noncomputable def z79:Env:=[(139,.func Fq0),(140,.func Fq2),(141,.func Fq3)]
theorem z8i:zf Tryz.prog z79:=zf.cons z2H (zf.cons z1C (zf.cons zZb (zf.nil)))
noncomputable def bq1:Code:=Tryz.f93.body.getD .skip
noncomputable def z78:Ann := .none
theorem z57:zq Tryz.prog 10 bq1 z78:=(zb _ _ _)
abbrev Aq1:=(List UInt8)
abbrev Yq1:=(Int)
def zJ1 {β:Type}:Aq1→(Yq1→Option β)→Option β:=fun a0 exit=>(za (zwY ()) fun _=>(za (zuR (a0,(0:Int))) fun o0_0=>(za (zs8 (o0_0)) fun r=>(exit (r)))))
def znz (a:Aq1):Option Yq1:=zJ1 a some
theorem z4Q (a:Aq1) (k:Yq1→Ans):zJ1 a k=za (znz a) k:=by
  obtain z:=a
  simp only [znz,zJ1,zj,zh,zl,zc,zi,zm,zg]
def zMV:Aq1→List AV:=fun a0=>[.str a0]
def zQb (l:List AV):Option {a:Aq1 // l=zMV a}:=match l with
  | [.str a0]=>some ⟨(a0),rfl⟩
  | _=>none
def z2s (l:List AV):Option Aq1:=pk (zQb l)
theorem z2g (l:List AV) (a:Aq1) (h:z2s l=some a):l=zMV a:=zt (o:=zQb l) h
def zMf:Aq1→Yq1→AV:=fun a0=>fun r_y => .int .i64 r_y
theorem z2S : ∀(a:Aq1) (y:Yq1),(zMf a y).closed1=true:=by
  rintro z y <;> first | rfl | exact Empty.elim y
theorem z8g (a:Aq1):fnE Tryz.tab z79 zd 0 70 93 Tryz.f93.ntmps Tryz.f93.results.toList z78 bq1 (zMV a) [] (fun v _=>some (v,[]))=zJ1 a (fun y=>some (zMf a y,[])):=by kernel_rfl
def ZcZ (a:Aq1) (K:AV→Ans):Ans:=za (znz a) fun y=>K (zMf a y)
def Fq1:List AV→(AV→Ans)→Ans:=fun l K=>za (z2s l) fun a=>ZcZ a K
theorem zZe:zM Tryz.prog 93 Fq1:=zL (hint:=zd) (d:=0) (n:=70) mixed tabOk z8i Tryz.func93 (zC (by kernel_rfl)) (by decide +kernel) z57 z2g z8g z4Q z2S
--@ cyclic_Tail
noncomputable def qB:Env:=[(93,.pure Fq1)]
theorem zbL:zf Tryz.prog qB:=zf.cons zZe (zf.nil)
noncomputable def bq4:Code:=Tryz.f52.body.getD .skip
noncomputable def Ww:Code:=zF [1,1,1,0,1,0,0] bq4
noncomputable def Jy:Ann := .none
theorem qL:zq Tryz.prog 21 Ww Jy:=(zb _ _ _)
abbrev zaj:=(Int)×(Int)×(Int)×(Int)×(Int)
abbrev zv6:=Unit
def zHj:zaj→St:=fun (t3,o0_0,o0_1,o0_2,o0_3)=>{ env:=[(3,.int .i64 t3),(4,.ptr 0 0),(8,.int .i64 (4))],stk:=[[]],H:=[.cells [.int .u8 o0_0,.int .u8 o0_1,.int .u8 o0_2,.int .u8 o0_3]],blk:=212992 }
def zC8 (s:St):Option {x:zaj // s=zHj x}:=match s with
  | { env:=[(3,.int .i64 t3),(4,.ptr 0 0),(8,.int .i64 r1)],stk:=[[]],H:=[.cells [.int .u8 o0_0,.int .u8 o0_1,.int .u8 o0_2,.int .u8 o0_3]],blk:=212992 }=>if h1:r1=4 then some ⟨(t3,o0_0,o0_1,o0_2,o0_3),by subst h1;rfl⟩ else none
  | _=>none
def zi1 (s:St):Option zaj:=pk (zC8 s)
theorem zNR (s:St) (x:zaj) (h:zi1 s=some x):s=zHj x:=zt (o:=zC8 s) h
def zrD:zaj→(Ex→St→Ans)→zv6→Ans:=fun (t3,o0_0,o0_1,o0_2,o0_3) K=>fun _=>K (Ex.exit 0) { env:=[(4,.ptr 0 0)],stk:=[[]],H:=[.cells [.int .u8 o0_0,.int .u8 o0_1,.int .u8 o0_2,.int .u8 o0_3]],blk:=212992 }
def zce {β:Type}:zaj→(zv6→Option β)→Option β:=fun (t3,o0_0,o0_1,o0_2,o0_3) exit=>(exit ())
def Q6 (i:zaj):Option zv6:=zce i some
theorem zFT (i:zaj) (k:zv6→Ans):zce i k=za (Q6 i) k:=by
  obtain ⟨t3,o0_0,o0_1,o0_2,o0_3⟩:=i
  simp only [Q6,zce,zj,zh,zl,zc,zi,zm,zg]
theorem zJI (i:zaj) (K:Ex→St→Ans):zx Tryz.tab qB zd (zy Tryz.tab qB zd 0 64) 70 21 Jy Ww (zD 0 (exk [3,4,8] [2] [(0,[4])]) K) (zHj i)=zce i (zrD i K):=by kernel_rfl
theorem zS8:zw Tryz.prog 21 Ww (zH zi1 Q6 zrD):=zE mixed tabOk zbL 0 (exk [3,4,8] [2] [(0,[4])]) qL zNR zJI zFT
abbrev Wd:=(Int)×(Int)×(Int)×(Int)×(Int)
abbrev zhI:=(Int)
def zr5:Wd→St:=fun (t3,o0_0,o0_1,o0_2,o0_3)=>{ env:=[(3,.int .i64 t3),(4,.ptr 0 0),(8,.int .i64 (0))],stk:=[[]],H:=[.cells [.int .u8 o0_0,.int .u8 o0_1,.int .u8 o0_2,.int .u8 o0_3]],blk:=212992 }
def zqI (s:St):Option {x:Wd // s=zr5 x}:=match s with
  | { env:=[(3,.int .i64 t3),(4,.ptr 0 0),(8,.int .i64 r1)],stk:=[[]],H:=[.cells [.int .u8 o0_0,.int .u8 o0_1,.int .u8 o0_2,.int .u8 o0_3]],blk:=212992 }=>if h1:r1=0 then some ⟨(t3,o0_0,o0_1,o0_2,o0_3),by subst h1;rfl⟩ else none
  | _=>none
def zcS (s:St):Option Wd:=pk (zqI s)
theorem zD0 (s:St) (x:Wd) (h:zcS s=some x):s=zr5 x:=zt (o:=zqI s) h
def ziP:Wd→(Ex→St→Ans)→zhI→Ans:=fun (t3,o0_0,o0_1,o0_2,o0_3) K=>fun o0_0_y=>K (Ex.norm) { env:=[(3,.int .i64 t3),(4,.ptr 0 0),(8,.int .i64 (1))],stk:=[[]],H:=[.cells [.int .u8 o0_0_y,.int .u8 o0_1,.int .u8 o0_2,.int .u8 o0_3]],blk:=212993 }
def Jf {β:Type}:Wd→(zhI→Option β)→Option β:=fun (t3,o0_0,o0_1,o0_2,o0_3) exit=>(exit (IntKind.wrap .u8 (Int.fdiv t3 (1:Int))))
def wH (i:Wd):Option zhI:=Jf i some
theorem zvW (i:Wd) (k:zhI→Ans):Jf i k=za (wH i) k:=by
  obtain ⟨t3,o0_0,o0_1,o0_2,o0_3⟩:=i
  simp only [wH,Jf,zj,zh,zl,zc,zi,zm,zg]
theorem zyl (i:Wd) (K:Ex→St→Ans):zx Tryz.tab qB zd (zy Tryz.tab qB zd 0 64) 70 21 Jy Ww (zD 0 (exk [3,4,8] [2] [(0,[4])]) K) (zr5 i)=Jf i (ziP i K):=by kernel_rfl
theorem zMs:zw Tryz.prog 21 Ww (zH zcS wH ziP):=zE mixed tabOk zbL 0 (exk [3,4,8] [2] [(0,[4])]) qL zD0 zyl zvW
abbrev Wl:=(Int)×(Int)×(Int)×(Int)×(Int)
abbrev zik:=(Int)
def zrc:Wl→St:=fun (t3,o0_0,o0_1,o0_2,o0_3)=>{ env:=[(3,.int .i64 t3),(4,.ptr 0 0),(8,.int .i64 (1))],stk:=[[]],H:=[.cells [.int .u8 o0_0,.int .u8 o0_1,.int .u8 o0_2,.int .u8 o0_3]],blk:=212992 }
def zqW (s:St):Option {x:Wl // s=zrc x}:=match s with
  | { env:=[(3,.int .i64 t3),(4,.ptr 0 0),(8,.int .i64 r1)],stk:=[[]],H:=[.cells [.int .u8 o0_0,.int .u8 o0_1,.int .u8 o0_2,.int .u8 o0_3]],blk:=212992 }=>if h1:r1=1 then some ⟨(t3,o0_0,o0_1,o0_2,o0_3),by subst h1;rfl⟩ else none
  | _=>none
def zc2 (s:St):Option Wl:=pk (zqW s)
theorem zFP (s:St) (x:Wl) (h:zc2 s=some x):s=zrc x:=zt (o:=zqW s) h
def zhO:Wl→(Ex→St→Ans)→zik→Ans:=fun (t3,o0_0,o0_1,o0_2,o0_3) K=>fun o0_1_y=>K (Ex.norm) { env:=[(3,.int .i64 t3),(4,.ptr 0 0),(8,.int .i64 (2))],stk:=[[]],H:=[.cells [.int .u8 o0_0,.int .u8 o0_1_y,.int .u8 o0_2,.int .u8 o0_3]],blk:=212993 }
def Ja {β:Type}:Wl→(zik→Option β)→Option β:=fun (t3,o0_0,o0_1,o0_2,o0_3) exit=>(exit (IntKind.wrap .u8 (Int.fdiv t3 (256:Int))))
def wy (i:Wl):Option zik:=Ja i some
theorem zsV (i:Wl) (k:zik→Ans):Ja i k=za (wy i) k:=by
  obtain ⟨t3,o0_0,o0_1,o0_2,o0_3⟩:=i
  simp only [wy,Ja,zj,zh,zl,zc,zi,zm,zg]
theorem zyM (i:Wl) (K:Ex→St→Ans):zx Tryz.tab qB zd (zy Tryz.tab qB zd 0 64) 70 21 Jy Ww (zD 0 (exk [3,4,8] [2] [(0,[4])]) K) (zrc i)=Ja i (zhO i K):=by kernel_rfl
theorem zH4:zw Tryz.prog 21 Ww (zH zc2 wy zhO):=zE mixed tabOk zbL 0 (exk [3,4,8] [2] [(0,[4])]) qL zFP zyM zsV
abbrev Wi:=(Int)×(Int)×(Int)×(Int)×(Int)
abbrev zi5:=(Int)
def zr6:Wi→St:=fun (t3,o0_0,o0_1,o0_2,o0_3)=>{ env:=[(3,.int .i64 t3),(4,.ptr 0 0),(8,.int .i64 (2))],stk:=[[]],H:=[.cells [.int .u8 o0_0,.int .u8 o0_1,.int .u8 o0_2,.int .u8 o0_3]],blk:=212992 }
def zqD (s:St):Option {x:Wi // s=zr6 x}:=match s with
  | { env:=[(3,.int .i64 t3),(4,.ptr 0 0),(8,.int .i64 r1)],stk:=[[]],H:=[.cells [.int .u8 o0_0,.int .u8 o0_1,.int .u8 o0_2,.int .u8 o0_3]],blk:=212992 }=>if h1:r1=2 then some ⟨(t3,o0_0,o0_1,o0_2,o0_3),by subst h1;rfl⟩ else none
  | _=>none
def zc5 (s:St):Option Wi:=pk (zqD s)
theorem zGQ (s:St) (x:Wi) (h:zc5 s=some x):s=zr6 x:=zt (o:=zqD s) h
def zir:Wi→(Ex→St→Ans)→zi5→Ans:=fun (t3,o0_0,o0_1,o0_2,o0_3) K=>fun o0_2_y=>K (Ex.norm) { env:=[(3,.int .i64 t3),(4,.ptr 0 0),(8,.int .i64 (3))],stk:=[[]],H:=[.cells [.int .u8 o0_0,.int .u8 o0_1,.int .u8 o0_2_y,.int .u8 o0_3]],blk:=212993 }
def j1 {β:Type}:Wi→(zi5→Option β)→Option β:=fun (t3,o0_0,o0_1,o0_2,o0_3) exit=>(exit (IntKind.wrap .u8 (Int.fdiv t3 (65536:Int))))
def wt (i:Wi):Option zi5:=j1 i some
theorem zwm (i:Wi) (k:zi5→Ans):j1 i k=za (wt i) k:=by
  obtain ⟨t3,o0_0,o0_1,o0_2,o0_3⟩:=i
  simp only [wt,j1,zj,zh,zl,zc,zi,zm,zg]
theorem zA3 (i:Wi) (K:Ex→St→Ans):zx Tryz.tab qB zd (zy Tryz.tab qB zd 0 64) 70 21 Jy Ww (zD 0 (exk [3,4,8] [2] [(0,[4])]) K) (zr6 i)=j1 i (zir i K):=by kernel_rfl
theorem zH1:zw Tryz.prog 21 Ww (zH zc5 wt zir):=zE mixed tabOk zbL 0 (exk [3,4,8] [2] [(0,[4])]) qL zGQ zA3 zwm
abbrev Wc:=(Int)×(Int)×(Int)×(Int)×(Int)
abbrev zic:=(Int)
def zr8:Wc→St:=fun (t3,o0_0,o0_1,o0_2,o0_3)=>{ env:=[(3,.int .i64 t3),(4,.ptr 0 0),(8,.int .i64 (3))],stk:=[[]],H:=[.cells [.int .u8 o0_0,.int .u8 o0_1,.int .u8 o0_2,.int .u8 o0_3]],blk:=212992 }
def zqG (s:St):Option {x:Wc // s=zr8 x}:=match s with
  | { env:=[(3,.int .i64 t3),(4,.ptr 0 0),(8,.int .i64 r1)],stk:=[[]],H:=[.cells [.int .u8 o0_0,.int .u8 o0_1,.int .u8 o0_2,.int .u8 o0_3]],blk:=212992 }=>if h1:r1=3 then some ⟨(t3,o0_0,o0_1,o0_2,o0_3),by subst h1;rfl⟩ else none
  | _=>none
def zil (s:St):Option Wc:=pk (zqG s)
theorem zFY (s:St) (x:Wc) (h:zil s=some x):s=zr8 x:=zt (o:=zqG s) h
def zij:Wc→(Ex→St→Ans)→zic→Ans:=fun (t3,o0_0,o0_1,o0_2,o0_3) K=>fun o0_3_y=>K (Ex.norm) { env:=[(3,.int .i64 t3),(4,.ptr 0 0),(8,.int .i64 (4))],stk:=[[]],H:=[.cells [.int .u8 o0_0,.int .u8 o0_1,.int .u8 o0_2,.int .u8 o0_3_y]],blk:=212993 }
def Jb {β:Type}:Wc→(zic→Option β)→Option β:=fun (t3,o0_0,o0_1,o0_2,o0_3) exit=>(exit (IntKind.wrap .u8 (Int.fdiv t3 (16777216:Int))))
def wx (i:Wc):Option zic:=Jb i some
theorem zsO (i:Wc) (k:zic→Ans):Jb i k=za (wx i) k:=by
  obtain ⟨t3,o0_0,o0_1,o0_2,o0_3⟩:=i
  simp only [wx,Jb,zj,zh,zl,zc,zi,zm,zg]
theorem zzD (i:Wc) (K:Ex→St→Ans):zx Tryz.tab qB zd (zy Tryz.tab qB zd 0 64) 70 21 Jy Ww (zD 0 (exk [3,4,8] [2] [(0,[4])]) K) (zr8 i)=Jb i (zij i K):=by kernel_rfl
theorem zI7:zw Tryz.prog 21 Ww (zH zil wx zij):=zE mixed tabOk zbL 0 (exk [3,4,8] [2] [(0,[4])]) qL zFY zzD zsO
noncomputable def zZf:(Ex→St→Ans)→St→Ans:=(zrP zi1 (zH zi1 Q6 zrD) (zrP zcS (zH zcS wH ziP) (zrP zc2 (zH zc2 wy zhO) (zrP zc5 (zH zc5 wt zir) (zH zil wx zij)))))
theorem z1r:zw Tryz.prog 21 Ww zZf:=(zcd zS8 (zcd zMs (zcd zH4 (zcd zH1 zI7))))
noncomputable def zsF:Code:=zF [1,1,1,0,1] bq4
noncomputable def zC2:Ann:=(.block (.at 0 [3,4,8] (.loop (.cut 0 [3,4,8] zZf))))
theorem zId:zq Tryz.prog 21 zsF zC2:=(Zp z1r)
abbrev zaV:=(Int)
abbrev zw8:=(Int)×(Int)×(Int)×(Int)
def zJf:zaV→St:=fun t3=>{ env:=[(3,.int .i64 t3),(4,.ptr 0 0),(8,.int .i64 (0))],stk:=[[]],H:=[.cells [.int .u8 (0),.int .u8 (0),.int .u8 (0),.int .u8 (0)]],blk:=212992 }
def zDt (s:St):Option {x:zaV // s=zJf x}:=match s with
  | { env:=[(3,.int .i64 t3),(4,.ptr 0 0),(8,.int .i64 r1)],stk:=[[]],H:=[.cells [.int .u8 r2,.int .u8 r3,.int .u8 r4,.int .u8 r5]],blk:=212992 }=>if h1:r1=0 then if h2:r2=0 then if h3:r3=0 then if h4:r4=0 then if h5:r5=0 then some ⟨(t3),by subst h1 h2 h3 h4 h5;rfl⟩ else none else none else none else none else none
  | _=>none
def zrj (s:St):Option zaV:=pk (zDt s)
theorem zOk (s:St) (x:zaV) (h:zrj s=some x):s=zJf x:=zt (o:=zDt s) h
def zrm:zaV→(Ex→St→Ans)→zw8→Ans:=fun t3 K=>unP fun o0_0_y=>unP fun o0_1_y=>unP fun o0_2_y o0_3_y=>K (Ex.norm) { env:=[(4,.ptr 0 0)],stk:=[[]],H:=[.cells [.int .u8 o0_0_y,.int .u8 o0_1_y,.int .u8 o0_2_y,.int .u8 o0_3_y]],blk:=212992 }
def zb6 {β:Type}:zaV→(zw8→Option β)→Option β:=fun t3 exit=>(za (wH (t3,(0:Int),(0:Int),(0:Int),(0:Int))) fun o0_0=>(za (wy (t3,o0_0,(0:Int),(0:Int),(0:Int))) fun o0_1=>(za (wt (t3,o0_0,o0_1,(0:Int),(0:Int))) fun o0_2=>(za (wx (t3,o0_0,o0_1,o0_2,(0:Int))) fun o0_3=>(za (Q6 (t3,o0_0,o0_1,o0_2,o0_3)) fun _=>(exit (o0_0,o0_1,o0_2,o0_3)))))))
def Qg (i:zaV):Option zw8:=zb6 i some
theorem zFO (i:zaV) (k:zw8→Ans):zb6 i k=za (Qg i) k:=by
  obtain z:=i
  simp only [Qg,zb6,zj,zh,zl,zc,zi,zm,zg]
theorem zLU (i:zaV) (K:Ex→St→Ans):zx Tryz.tab qB zd (zy Tryz.tab qB zd 0 64) 70 21 zC2 zsF (zD 0 (exk [4] [2] []) K) (zJf i)=zb6 i (zrm i K):=by kernel_rfl
theorem zXq:zw Tryz.prog 21 zsF (zH zrj Qg zrm):=zE mixed tabOk zbL 0 (exk [4] [2] []) zId zOk zLU zFO
noncomputable def z0l:(Ex→St→Ans)→St→Ans:=(zH zrj Qg zrm)
theorem z0k:zw Tryz.prog 21 zsF z0l:=zXq
noncomputable def z77:Ann:=(.seq .none (.seq .none (.seq .none (.seq (.seq .none (.cut 0 [3,4,8] z0l)) .none))))
theorem z52:zq Tryz.prog 21 bq4 z77:=⟨(zb _ _ _),⟨(zb _ _ _),⟨(zb _ _ _),⟨⟨(zb _ _ _),z0k⟩,(zb _ _ _)⟩⟩⟩⟩
abbrev Aq4:=(List UInt8)
abbrev Yq4:=(List UInt8)
def zLD {β:Type}:Aq4→(Yq4→Option β)→Option β:=fun a0 exit=>(za (znz (a0)) fun r=>(za (Qg (r)) (unP fun o0_0=>unP fun o0_1=>unP fun o0_2 o0_3=>(exit (Zl [o0_0,o0_1,o0_2,o0_3])))))
def zbX (a:Aq4):Option Yq4:=zLD a some
theorem z7a (a:Aq4) (k:Yq4→Ans):zLD a k=za (zbX a) k:=by
  obtain z:=a
  simp only [zbX,zLD,zj,zh,zl,zc,zi,zm,zg]
def zJR:Aq4→List AV:=fun a0=>[.str a0]
def zQ5 (l:List AV):Option {a:Aq4 // l=zJR a}:=match l with
  | [.str a0]=>some ⟨(a0),rfl⟩
  | _=>none
def z1b (l:List AV):Option Aq4:=pk (zQ5 l)
theorem z2Z (l:List AV) (a:Aq4) (h:z1b l=some a):l=zJR a:=zt (o:=zQ5 l) h
def zI0:Aq4→Yq4→AV:=fun a0=>fun r_y => .str r_y
theorem z2m : ∀(a:Aq4) (y:Yq4),(zI0 a y).closed1=true:=by
  rintro z y <;> first | rfl | exact Empty.elim y
theorem z8e (a:Aq4):fnE Tryz.tab qB zd 0 70 52 Tryz.f52.ntmps Tryz.f52.results.toList z77 bq4 (zJR a) [] (fun v _=>some (v,[]))=zLD a (fun y=>some (zI0 a y,[])):=by kernel_rfl
def ZcU (a:Aq4) (K:AV→Ans):Ans:=za (zbX a) fun y=>K (zI0 a y)
def Fq4:List AV→(AV→Ans)→Ans:=fun l K=>za (z1b l) fun a=>ZcU a K
theorem zhd:zM Tryz.prog 52 Fq4:=zL (hint:=zd) (d:=0) (n:=70) mixed tabOk zbL Tryz.func52 (zC (by kernel_rfl)) (by decide +kernel) z52 z2Z z8e z7a z2m
--@ field_Reader_Left
noncomputable def z2r:Env:=[]
theorem z7o:zf Tryz.prog z2r:=zf.nil
noncomputable def Zan:Code:=Tryz.f55.body.getD .skip
noncomputable def z0d:Ann := .none
theorem zZH:zq Tryz.prog 10 Zan z0d:=(zb _ _ _)
abbrev zfK:=(List UInt8)×(Int)
abbrev zSY:=(Int)
def zh1 {β:Type}:zfK→(zSY→Option β)→Option β:=fun (o0_0,o0_1) exit=>(exit ((↑(List.length o0_0):Int)))
def zcc (a:zfK):Option zSY:=zh1 a some
theorem zYM (a:zfK) (k:zSY→Ans):zh1 a k=za (zcc a) k:=by
  obtain ⟨o0_0,o0_1⟩:=a
  simp only [zcc,zh1,zj,zh,zl,zc,zi,zm,zg]
def znm:zfK→List AV×List AE.Obj:=fun (o0_0,o0_1)=>([.ptr 0 0],[.cells [.str o0_0,.int .i64 o0_1]])
def zLG (l:List AV) (H:List AE.Obj):Option {a:zfK // (l,H)=znm a}:=match l,H with
  | [.ptr 0 0],[.cells [.str o0_0,.int .i64 o0_1]]=>some ⟨(o0_0,o0_1),rfl⟩
  | _,_=>none
def zPT (l:List AV) (H:List AE.Obj):Option zfK:=pk (zLG l H)
theorem zXD (l:List AV) (H:List AE.Obj) (a:zfK) (h:zPT l H=some a):(l,H)=znm a:=zt (o:=zLG l H) h
def z21:zfK→(AV→List AE.Obj→Ans)→zSY→Ans:=fun (o0_0,o0_1) K=>fun r_y=>K (.int .i64 r_y) [.cells [.str o0_0,.int .i64 o0_1]]
theorem z6d (a:zfK) (K:AV→List AE.Obj→Ans):fnE Tryz.tab z2r zd 0 70 55 Tryz.f55.ntmps Tryz.f55.results.toList z0d Zan (znm a).1 (znm a).2 K=zh1 a (z21 a K):=by kernel_rfl
def Zcf (a:zfK) (K:AV→List AE.Obj→Ans):Ans:=za (zcc a) fun y=>z21 a K y
def zVn:List AV→List AE.Obj→(AV→List AE.Obj→Ans)→Ans:=fun l H K=>za (zPT l H) fun a=>Zcf a K
theorem zxB:zO Tryz.prog 55 zVn:=ZK (hint:=zd) (d:=0) (n:=70) mixed tabOk z7o Tryz.func55 (zC (by kernel_rfl)) (by decide +kernel) zZH zXD z6d zYM
--@ seal_First
noncomputable def zY7:Env:=[(49,.func zx3),(50,.func zqZ),(51,.func zr1),(96,.func zT3),(52,.pure Fq4),(55,.func zVn)]
theorem z4D:zf Tryz.prog zY7:=zf.cons zgI (zf.cons zdm (zf.cons zdl (zf.cons zBw (zf.cons zhd (zf.cons zxB (zf.nil))))))
noncomputable def z9Z:Code:=Tryz.f90.body.getD .skip
noncomputable def z1G:Ann := .none
theorem zYR:zq Tryz.prog 46 z9Z z1G:=(zb _ _ _)
abbrev zeo:=(List UInt8)
abbrev zKi:=(Int)×(List UInt8)×(List UInt8)×(Int)
def zsL {β:Type}:zeo→(zKi→Option β)→Option β:=fun a0 exit=>(bif decide ((↑(List.length a0):Int)<(7:Int)) then (exit ((0:Int),[],[],(1:Int))) else (za (Ws (a0)) fun _=>(za (Z5 ((1:Int),a0,(0:Int))) (unP fun r=>unP fun o0_0 o0_1=>(za (Z5 ((2:Int),o0_0,o0_1)) (unP fun r_2=>unP fun o0_0_2 o0_1_2=>(bif decide (r_2>(600:Int)) then (exit ((0:Int),[],[],(11:Int))) else (za (yK (r_2,o0_0_2,o0_1_2)) (unP fun r_3=>unP fun o0_0_3 o0_1_3=>(za (yK ((4:Int),o0_0_3,o0_1_3)) (unP fun r_4=>unP fun o0_0_4 o0_1_4=>(za (zdy (o0_0_4,o0_1_4)) fun r_5=>(bif r_5 == (1:Int) then (exit ((0:Int),[],[],r_5)) else (bif inR (IntKind.wrap .i64 ((3:Int)+r_2)) (List.length a0+(1:Nat)) then (za (zbX (List.take (Int.toNat (IntKind.wrap .i64 ((3:Int)+r_2))) a0)) fun r_6=>(bif !r_4 == r_6 then (exit ((0:Int),[],[],(5:Int))) else (za (zcc (o0_0_4,o0_1_4)) fun r_7=>(za (yK (r_7,o0_0_4,o0_1_4)) (unP fun r_8=>unP fun o0_0_5 o0_1_5=>(exit (r,r_3,r_8,(0:Int)))))))) else none))))))))))))))
def zk4 (a:zeo):Option zKi:=zsL a some
theorem zYT (a:zeo) (k:zKi→Ans):zsL a k=za (zk4 a) k:=by
  obtain z:=a
  simp only [zk4,zsL,zj,zh,zl,zc,zi,zm,zg]
def zBM:zeo→List AV:=fun a0=>[.str a0]
def zHE (l:List AV):Option {a:zeo // l=zBM a}:=match l with
  | [.str a0]=>some ⟨(a0),rfl⟩
  | _=>none
def zRd (l:List AV):Option zeo:=pk (zHE l)
theorem zTB (l:List AV) (a:zeo) (h:zRd l=some a):l=zBM a:=zt (o:=zHE l) h
def zBX:zeo→zKi→AV:=fun a0=>unP fun r_0_y=>unP fun r_1_y=>unP fun r_2_y r_3_y => .tup [.int .i64 r_0_y,.str r_1_y,.str r_2_y,.int .i64 r_3_y]
theorem zWX : ∀(a:zeo) (y:zKi),(zBX a y).closed1=true:=by
  rintro z y <;> first | rfl | exact Empty.elim y
theorem z5V (a:zeo):fnE Tryz.tab zY7 zd 0 70 90 Tryz.f90.ntmps Tryz.f90.results.toList z1G z9Z (zBM a) [] (fun v _=>some (v,[]))=zsL a (fun y=>some (zBX a y,[])):=by kernel_rfl
def ZcH (a:zeo) (K:AV→Ans):Ans:=za (zk4 a) fun y=>K (zBX a y)
def z6b:List AV→(AV→Ans)→Ans:=fun l K=>za (zRd l) fun a=>ZcH a K
theorem zQm:zM Tryz.prog 90 z6b:=zL (hint:=zd) (d:=0) (n:=70) mixed tabOk z4D Tryz.func90 (zC (by kernel_rfl)) (by decide +kernel) zYR zTB z5V zYT zWX
--@ seal_Get
noncomputable def zgc:Env:=[(90,.pure z6b)]
theorem zrY:zf Tryz.prog zgc:=zf.cons zQm (zf.nil)
noncomputable def zTP:Code:=Tryz.f48.body.getD .skip
noncomputable def zp2:Code:=zF [1,1,0,1] zTP
noncomputable def zsr:Ann := .none
theorem zGK:zq Tryz.prog 27 zp2 zsr:=(zb _ _ _)
abbrev Q9:=(Int)×(List UInt8)×(Int)×(Bool)
abbrev zqb:=(Int)
def zyu:Q9→St:=fun (t5,t6,t8,t21)=>{ env:=[(5,.int .i64 t5),(6,.str t6),(8,.int .i64 t8),(21,.bool t21)],stk:=[[]],H:=[],blk:=196608 }
def zuP (s:St):Option {x:Q9 // s=zyu x}:=match s with
  | { env:=[(5,.int .i64 t5),(6,.str t6),(8,.int .i64 t8),(21,.bool t21)],stk:=[[]],H:=[],blk:=196608 }=>some ⟨(t5,t6,t8,t21),rfl⟩
  | _=>none
def zld (s:St):Option Q9:=pk (zuP s)
theorem zHy (s:St) (x:Q9) (h:zld s=some x):s=zyu x:=zt (o:=zuP s) h
def zmw:Q9→(Ex→St→Ans)→zqb→Ans:=fun (t5,t6,t8,t21) K=>fun t8_y=>K (Ex.norm) { env:=[(5,.int .i64 t5),(6,.str t6),(8,.int .i64 t8_y)],stk:=[[]],H:=[],blk:=196608 }
def zcW {β:Type}:Q9→(zqb→Option β)→Option β:=fun (t5,t6,t8,t21) exit=>(bif t21 then (exit ((2:Int))) else (exit (t8)))
def j7 (i:Q9):Option zqb:=zcW i some
theorem zCr (i:Q9) (k:zqb→Ans):zcW i k=za (j7 i) k:=by
  obtain ⟨t5,t6,t8,t21⟩:=i
  simp only [j7,zcW,zj,zh,zl,zc,zi,zm,zg]
theorem zEi (i:Q9) (K:Ex→St→Ans):zx Tryz.tab zgc zd (zy Tryz.tab zgc zd 0 64) 70 27 zsr zp2 (zD 0 (exk [5,6,8] [2,3,4] []) K) (zyu i)=zcW i (zmw i K):=by kernel_rfl
theorem zNO:zw Tryz.prog 27 zp2 (zH zld j7 zmw):=zE mixed tabOk zrY 0 (exk [5,6,8] [2,3,4] []) zGK zHy zEi zCr
noncomputable def zQM:(Ex→St→Ans)→St→Ans:=(zH zld j7 zmw)
theorem zXd:zw Tryz.prog 27 zp2 zQM:=zNO
noncomputable def znv:Code:=zF [1,1,0,0] zTP
noncomputable def zvG:Ann := .none
theorem zGe:zq Tryz.prog 27 znv zvG:=(zb _ _ _)
abbrev Qe:=(Int)×(List UInt8)×(List UInt8)×(Int)
abbrev zpd:=(Bool)
def zBa:Qe→St:=fun (t5,t6,t7,t8)=>{ env:=[(5,.int .i64 t5),(6,.str t6),(7,.str t7),(8,.int .i64 t8)],stk:=[[]],H:=[],blk:=196608 }
def zwI (s:St):Option {x:Qe // s=zBa x}:=match s with
  | { env:=[(5,.int .i64 t5),(6,.str t6),(7,.str t7),(8,.int .i64 t8)],stk:=[[]],H:=[],blk:=196608 }=>some ⟨(t5,t6,t7,t8),rfl⟩
  | _=>none
def zkG (s:St):Option Qe:=pk (zwI s)
theorem zKe (s:St) (x:Qe) (h:zkG s=some x):s=zBa x:=zt (o:=zwI s) h
def zlq:Qe→(Ex→St→Ans)→zpd→Ans:=fun (t5,t6,t7,t8) K=>fun t21_y=>K (Ex.norm) { env:=[(5,.int .i64 t5),(6,.str t6),(8,.int .i64 t8),(21,.bool t21_y)],stk:=[[]],H:=[],blk:=196608 }
def zaQ {β:Type}:Qe→(zpd→Option β)→Option β:=fun (t5,t6,t7,t8) exit=>(bif t8 == (0:Int) then (exit (!t7 == [])) else (exit (false)))
def WU (i:Qe):Option zpd:=zaQ i some
theorem zyS (i:Qe) (k:zpd→Ans):zaQ i k=za (WU i) k:=by
  obtain ⟨t5,t6,t7,t8⟩:=i
  simp only [WU,zaQ,zj,zh,zl,zc,zi,zm,zg]
theorem zET (i:Qe) (K:Ex→St→Ans):zx Tryz.tab zgc zd (zy Tryz.tab zgc zd 0 64) 70 27 zvG znv (zD 0 (exk [5,6,8,21] [2,3,4] []) K) (zBa i)=zaQ i (zlq i K):=by kernel_rfl
theorem zNi:zw Tryz.prog 27 znv (zH zkG WU zlq):=zE mixed tabOk zrY 0 (exk [5,6,8,21] [2,3,4] []) zGe zKe zET zyS
noncomputable def zPu:(Ex→St→Ans)→St→Ans:=(zH zkG WU zlq)
theorem zVs:zw Tryz.prog 27 znv zPu:=zNi
noncomputable def z0F:Ann:=(.seq .none (.seq .none (.seq (.seq (.cut 0 [5,6,7,8] zPu) (.cut 0 [5,6,8,21] zQM)) .none)))
theorem z2q:zq Tryz.prog 27 zTP z0F:=⟨(zb _ _ _),⟨(zb _ _ _),⟨⟨zVs,zXd⟩,(zb _ _ _)⟩⟩⟩
abbrev ze2:=(List UInt8)
abbrev zIb:=(Int)×(List UInt8)×(Int)
def ztq {β:Type}:ze2→(zIb→Option β)→Option β:=fun a0 exit=>(za (zk4 (a0)) (unP fun r_0=>unP fun r_1=>unP fun r_2 r_3=>(za (WU (r_0,r_1,r_2,r_3)) fun t21=>(za (j7 (r_0,r_1,r_3,t21)) fun t8=>(bif t8 != (0:Int) then (exit ((0:Int),[],t8)) else (exit (r_0,r_1,(0:Int))))))))
def zhj (a:ze2):Option zIb:=ztq a some
theorem z01 (a:ze2) (k:zIb→Ans):ztq a k=za (zhj a) k:=by
  obtain z:=a
  simp only [zhj,ztq,zj,zh,zl,zc,zi,zm,zg]
def zAM:ze2→List AV:=fun a0=>[.str a0]
def zHK (l:List AV):Option {a:ze2 // l=zAM a}:=match l with
  | [.str a0]=>some ⟨(a0),rfl⟩
  | _=>none
def zQi (l:List AV):Option ze2:=pk (zHK l)
theorem zWo (l:List AV) (a:ze2) (h:zQi l=some a):l=zAM a:=zt (o:=zHK l) h
def zAe:ze2→zIb→AV:=fun a0=>unP fun r_0_y=>unP fun r_1_y r_2_y => .tup [.int .i64 r_0_y,.str r_1_y,.int .i64 r_2_y]
theorem zUS : ∀(a:ze2) (y:zIb),(zAe a y).closed1=true:=by
  rintro z y <;> first | rfl | exact Empty.elim y
theorem z4Z (a:ze2):fnE Tryz.tab zgc zd 0 70 48 Tryz.f48.ntmps Tryz.f48.results.toList z0F zTP (zAM a) [] (fun v _=>some (v,[]))=ztq a (fun y=>some (zAe a y,[])):=by kernel_rfl
def ZcR (a:ze2) (K:AV→Ans):Ans:=za (zhj a) fun y=>K (zAe a y)
def z5G:List AV→(AV→Ans)→Ans:=fun l K=>za (zQi l) fun a=>ZcR a K
theorem zSt:zM Tryz.prog 48 z5G:=zL (hint:=zd) (d:=0) (n:=70) mixed tabOk zrY Tryz.func48 (zC (by kernel_rfl)) (by decide +kernel) z2q zWo z4Z z01 zUS
--@ dump_lines
noncomputable def YT:Env:=[(48,.pure z5G)]
theorem zdK:zf Tryz.prog YT:=zf.cons zSt (zf.nil)
noncomputable def zxo:Code:=Tryz.f19.body.getD .skip
noncomputable def zn6:Code:=zF [1,1,1,1,0,1,0,0,1,1,0,0,1,1,0,1] zxo
noncomputable def zwt:Ann := .none
theorem zFq:zq Tryz.prog 58 zn6 zwt:=(zb _ _ _)
abbrev QU:=(Int)×(Int)×(Int)×(Int)×(List Int)×(List (List UInt8))
abbrev zp8:=(Int)
def zzG:QU→St:=fun (t12,t39,t40,t45,o0,o1)=>{ env:=[(4,.own 0),(5,.own 1),(12,.int .i64 t12),(13,.int .i64 (21)),(38,.own 0),(39,.int .i64 t39),(40,.int .i64 t40),(45,.int .i64 t45)],stk:=[[]],H:=[.arr (.int .i64) o0,.arr .str o1],blk:=77827 }
def zv8 (s:St):Option {x:QU // s=zzG x}:=match s with
  | { env:=[(4,.own 0),(5,.own 1),(12,.int .i64 t12),(13,.int .i64 r1),(38,.own 0),(39,.int .i64 t39),(40,.int .i64 t40),(45,.int .i64 t45)],stk:=[[]],H:=[.arr (.int .i64) o0,.arr .str o1],blk:=77827 }=>if h1:r1=21 then some ⟨(t12,t39,t40,t45,o0,o1),by subst h1;rfl⟩ else none
  | _=>none
def zll (s:St):Option QU:=pk (zv8 s)
theorem zJj (s:St) (x:QU) (h:zll s=some x):s=zzG x:=zt (o:=zv8 s) h
def zmT:QU→(Ex→St→Ans)→zp8→Ans:=fun (t12,t39,t40,t45,o0,o1) K=>fun t13_y=>K (Ex.norm) { env:=[(4,.own 0),(5,.own 1),(12,.int .i64 t12),(13,.int .i64 t13_y),(38,.own 0),(39,.int .i64 t39),(40,.int .i64 t40)],stk:=[[]],H:=[.arr (.int .i64) o0,.arr .str o1],blk:=77828 }
def zay {β:Type}:QU→(zp8→Option β)→Option β:=fun (t12,t39,t40,t45,o0,o1) exit=>(bif t45 == (0:Int) then (exit ((20:Int))) else (bif t45 == IntKind.wrap .i64 ((↑(List.length o0):Int) - (1:Int)) then (exit ((22:Int))) else (exit ((21:Int)))))
def wj (i:QU):Option zp8:=zay i some
theorem zzm (i:QU) (k:zp8→Ans):zay i k=za (wj i) k:=by
  obtain ⟨t12,t39,t40,t45,o0,o1⟩:=i
  simp only [wj,zay,zj,zh,zl,zc,zi,zm,zg]
theorem zEO (i:QU) (K:Ex→St→Ans):zx Tryz.tab YT zd (zy Tryz.tab YT zd 0 64) 70 58 zwt zn6 (zD 0 (exk [4,5,12,13,38,39,40] [2,3] []) K) (zzG i)=zay i (zmT i K):=by kernel_rfl
theorem zON:zw Tryz.prog 58 zn6 (zH zll wj zmT):=zE mixed tabOk zdK 0 (exk [4,5,12,13,38,39,40] [2,3] []) zFq zJj zEO zzm
noncomputable def zQ7:(Ex→St→Ans)→St→Ans:=(zH zll wj zmT)
theorem zWW:zw Tryz.prog 58 zn6 zQ7:=zON
noncomputable def zoK:Code:=zF [1,1,1,1,0,1,0,0,1,1,0] zxo
noncomputable def zuF:Ann:=(.block (.seq .none (.seq .none (.seq (.seq .none (.cut 0 [4,5,12,13,38,39,40,45] zQ7)) .none))))
theorem zGv:zq Tryz.prog 58 zoK zuF:=⟨(zb _ _ _),⟨(zb _ _ _),⟨⟨(zb _ _ _),zWW⟩,(zb _ _ _)⟩⟩⟩
abbrev Qi:=(Int)×(Int)×(List Int)×(List (List UInt8))
abbrev zpk:=(Unit) ⊕ (Unit)
def zBL:Qi→St:=fun (t39,t40,o0,o1)=>{ env:=[(4,.own 0),(5,.own 1),(38,.own 0),(39,.int .i64 t39),(40,.int .i64 t40)],stk:=[[]],H:=[.arr (.int .i64) o0,.arr .str o1],blk:=77826 }
def zwM (s:St):Option {x:Qi // s=zBL x}:=match s with
  | { env:=[(4,.own 0),(5,.own 1),(38,.own 0),(39,.int .i64 t39),(40,.int .i64 t40)],stk:=[[]],H:=[.arr (.int .i64) o0,.arr .str o1],blk:=77826 }=>some ⟨(t39,t40,o0,o1),rfl⟩
  | _=>none
def zjs (s:St):Option Qi:=pk (zwM s)
theorem zKa (s:St) (x:Qi) (h:zjs s=some x):s=zBL x:=zt (o:=zwM s) h
def zkq:Qi→(Ex→St→Ans)→zpk→Ans:=fun (t39,t40,o0,o1) K=>(Sum.elim (fun _=>K (Ex.ret) { env:=[(2,.own 0),(3,.int .i64 (7))],stk:=[[]],H:=[.arr .str ([])],blk:=77828 }) (fun _=>K (Ex.norm) { env:=[(4,.own 0),(5,.own 1),(38,.own 0),(39,.int .i64 t39),(40,.int .i64 t40)],stk:=[[]],H:=[.arr (.int .i64) o0,.arr .str o1],blk:=77828 }))
def zae {β:Type}:Qi→(zpk→Option β)→Option β:=fun (t39,t40,o0,o1) exit=>(bif inR t40 (List.length o0) then (za (o0[Int.toNat t40]?) fun x=>(za (wj (x,t39,t40,t40,o0,o1)) fun t13=>(bif x != t13 then (exit (Sum.inl ())) else (exit (Sum.inr ()))))) else none)
def WJ (i:Qi):Option zpk:=zae i some
theorem zB1 (i:Qi) (k:zpk→Ans):zae i k=za (WJ i) k:=by
  obtain ⟨t39,t40,o0,o1⟩:=i
  simp only [WJ,zae,zj,zh,zl,zc,zi,zm,zg]
theorem zGy (i:Qi) (K:Ex→St→Ans):zx Tryz.tab YT zd (zy Tryz.tab YT zd 0 64) 70 58 zuF zoK (zD 0 (exk [4,5,38,39,40] [2,3] []) K) (zBL i)=zae i (zkq i K):=by kernel_rfl
theorem zNW:zw Tryz.prog 58 zoK (zH zjs WJ zkq):=zE mixed tabOk zdK 0 (exk [4,5,38,39,40] [2,3] []) zGv zKa zGy zB1
noncomputable def zRj:(Ex→St→Ans)→St→Ans:=(zH zjs WJ zkq)
theorem zV0:zw Tryz.prog 58 zoK zRj:=zNW
noncomputable def zgZ:Code:=zF [1,1,1,1,0,1,0,0] zxo
noncomputable def zid:Ann := .at 0 [4,5,38,39,40] (.loop (.seq .none (.seq .none (.seq (.cut 0 [4,5,38,39,40] zRj) .none))))
theorem zGq:zq Tryz.prog 58 (.loop zgZ) zid:=Zp ⟨(zb _ _ _),⟨(zb _ _ _),⟨zV0,(zb _ _ _)⟩⟩⟩
abbrev QC:=(Int)×(List Int)×(List (List UInt8))
abbrev zoi:=(Unit) ⊕ (Unit)
abbrev wQ:=(Int)
def znk:QC→wQ→St:=fun (t39,o0,o1) t40=>{ env:=[(4,.own 0),(5,.own 1),(38,.own 0),(39,.int .i64 t39),(40,.int .i64 t40)],stk:=[[]],H:=[.arr (.int .i64) o0,.arr .str o1],blk:=77826 }
def zvA (s:St):Option {x:QC×wQ // s=znk x.1 x.2}:=match s with
  | { env:=[(4,.own 0),(5,.own 1),(38,.own 0),(39,.int .i64 t39),(40,.int .i64 t40)],stk:=[[]],H:=[.arr (.int .i64) o0,.arr .str o1],blk:=77826 }=>some ⟨((t39,o0,o1),t40),rfl⟩
  | _=>none
def zjQ (s:St):Option (QC×wQ):=pk (zvA s)
theorem zMR (s:St) (x:QC×wQ) (h:zjQ s=some x):s=znk x.1 x.2:=zt (o:=zvA s) h
def zka:QC→(Ex→St→Ans)→zoi→Ans:=fun (t39,o0,o1) K=>(Sum.elim (fun _=>K (Ex.ret) { env:=[(2,.own 0),(3,.int .i64 (7))],stk:=[[]],H:=[.arr .str ([])],blk:=77828 }) (fun _=>K (Ex.exit 2) { env:=[(5,.own 0)],stk:=[[]],H:=[.arr .str o1],blk:=77826 }))
def jO {β:Type}:QC→wQ→(wQ→Option β)→(zoi→Option β)→Option β:=fun (t39,o0,o1) t40 next exit=>(bif decide (t40<t39) then (za (WJ (t39,t40,o0,o1)) (Sum.elim (fun _=>(exit (Sum.inl ()))) (fun _=>(next (IntKind.wrap .i64 (t40+(1:Int))))))) else (exit (Sum.inr ())))
def Yr (i:QC) (v:wQ):Option (wQ ⊕ zoi):=jO i v (fun v=>some (.inl v)) (fun y=>some (.inr y))
theorem zzi (i:QC) (v:wQ) (next:wQ→Ans) (exit:zoi→Ans):jO i v next exit=za (Yr i v) (Sum.elim next exit):=by
  obtain ⟨t39,o0,o1⟩:=i
  obtain z:=v
  simp only [Yr,jO,zj,zh,zl,zc,zi,zm,zg,Sum.elim_inl,Sum.elim_inr]
theorem zEI (n:Nat) (i:QC) (v:wQ) (K:Ex→St→Ans):zx Tryz.tab YT zd (zy Tryz.tab YT zd 0 64) (n+1) 58 zid (.loop zgZ) (zD 0 (exk [5] [2,3] [(2,[5])]) K) (znk i v)=jO i v (fun v'=>zx Tryz.tab YT zd (zy Tryz.tab YT zd 0 64) n 58 zid (.loop zgZ) (zD 0 (exk [5] [2,3] [(2,[5])]) K) (znk i v')) (fun y=>zka i K y):=by kernel_rfl
theorem zNs:zw Tryz.prog 58 (.loop zgZ) (Zr zjQ Yr zka):=Zj mixed tabOk zdK 0 (exk [5] [2,3] [(2,[5])]) zGq zMR zEI zzi
noncomputable def zRk:(Ex→St→Ans)→St→Ans:=(Zr zjQ Yr zka)
theorem zXy:zw Tryz.prog 58 (.loop zgZ) zRk:=zNs
noncomputable def zf7:Code:=zF [1,1,1,0,1,0,0] zxo
noncomputable def zh8:Ann := .at 0 [4,5,14,15,16] (.loop .none)
theorem zFf:zq Tryz.prog 58 (.loop zf7) zh8:=Zp (zb _ _ _)
abbrev jA:=(List (List UInt8))×(Int)
abbrev zpz:=((Int)) ⊕ ((List Int)×(List (List UInt8)))
abbrev wz:=(Int)×(List Int)×(List (List UInt8))
def zpS:jA→wz→St:=fun (t14,t15) (t16,o0,o1)=>{ env:=[(4,.own 0),(5,.own 1),(14,.ro .str t14),(15,.int .i64 t15),(16,.int .i64 t16)],stk:=[[]],H:=[.arr (.int .i64) o0,.arr .str o1],blk:=77824 }
def zsK (s:St):Option {x:jA×wz // s=zpS x.1 x.2}:=match s with
  | { env:=[(4,.own 0),(5,.own 1),(14,.ro .str t14),(15,.int .i64 t15),(16,.int .i64 t16)],stk:=[[]],H:=[.arr (.int .i64) o0,.arr .str o1],blk:=77824 }=>some ⟨((t14,t15),(t16,o0,o1)),rfl⟩
  | _=>none
def zk7 (s:St):Option (jA×wz):=pk (zsK s)
theorem zMY (s:St) (x:jA×wz) (h:zk7 s=some x):s=zpS x.1 x.2:=zt (o:=zsK s) h
def zmS:jA→(Ex→St→Ans)→zpz→Ans:=fun (t14,t15) K=>(Sum.elim (fun t3_y=>K (Ex.ret) { env:=[(2,.own 0),(3,.int .i64 t3_y)],stk:=[[]],H:=[.arr .str ([])],blk:=77825 }) (unP fun o0_y o1_y=>K (Ex.exit 0) { env:=[(4,.own 0),(5,.own 1)],stk:=[[]],H:=[.arr (.int .i64) o0_y,.arr .str o1_y],blk:=77824 }))
def jx {β:Type}:jA→wz→(wz→Option β)→(zpz→Option β)→Option β:=fun (t14,t15) (t16,o0,o1) next exit=>(bif decide (t16<t15) then (za (nth t14 t16) fun x=>(za (zhj (x)) (unP fun r_0=>unP fun r_1 r_2=>(bif r_2 != (0:Int) then (exit (Sum.inl (r_2))) else (bif Nat.ble ((List.length o0+List.length [r_0])*(8:Nat)) (140737488355328:Nat) then (bif Nat.ble ((List.length o1+List.length [r_1])*(16:Nat)) (140737488355328:Nat) then (next (IntKind.wrap .i64 (t16+(1:Int)),o0++[r_0],o1++[r_1])) else none) else none))))) else (exit (Sum.inr (o0,o1))))
def Yu (i:jA) (v:wz):Option (wz ⊕ zpz):=jx i v (fun v=>some (.inl v)) (fun y=>some (.inr y))
theorem zzM (i:jA) (v:wz) (next:wz→Ans) (exit:zpz→Ans):jx i v next exit=za (Yu i v) (Sum.elim next exit):=by
  obtain ⟨t14,t15⟩:=i
  obtain ⟨t16,o0,o1⟩:=v
  simp only [Yu,jx,zj,zh,zl,zc,zi,zm,zg,Sum.elim_inl,Sum.elim_inr]
theorem zGl (n:Nat) (i:jA) (v:wz) (K:Ex→St→Ans):zx Tryz.tab YT zd (zy Tryz.tab YT zd 0 64) (n+1) 58 zh8 (.loop zf7) (zD 0 (exk [4,5] [2,3] [(0,[4,5])]) K) (zpS i v)=jx i v (fun v'=>zx Tryz.tab YT zd (zy Tryz.tab YT zd 0 64) n 58 zh8 (.loop zf7) (zD 0 (exk [4,5] [2,3] [(0,[4,5])]) K) (zpS i v')) (fun y=>zmS i K y):=by kernel_rfl
theorem zOZ:zw Tryz.prog 58 (.loop zf7) (Zr zk7 Yu zmS):=Zj mixed tabOk zdK 0 (exk [4,5] [2,3] [(0,[4,5])]) zFf zMY zGl zzM
noncomputable def zPM:(Ex→St→Ans)→St→Ans:=(Zr zk7 Yu zmS)
theorem zVF:zw Tryz.prog 58 (.loop zf7) zPM:=zOZ
noncomputable def z0i:Ann:=(.seq .none (.seq .none (.seq .none (.seq (.seq .none (.block (.cut 0 [4,5,14,15,16] zPM))) (.seq (.seq .none (.block (.cut 0 [4,5,38,39,40] zRk))) .none)))))
theorem zZC:zq Tryz.prog 58 zxo z0i:=⟨(zb _ _ _),⟨(zb _ _ _),⟨(zb _ _ _),⟨⟨(zb _ _ _),zVF⟩,⟨⟨(zb _ _ _),zXy⟩,(zb _ _ _)⟩⟩⟩⟩⟩
abbrev zfx:=(List (List UInt8))
abbrev zUM:=(Int)×(List (List UInt8))
def zum {β:Type}:zfx→(zUM→Option β)→Option β:=fun a0 exit=>(za (zP (Yu (a0,(↑(List.length a0):Int))) zZ ((0:Int),[],[])) (Sum.elim (fun t3=>(exit (t3,[]))) (unP fun o0 o1=>(za (zP (Yr ((↑(List.length o0):Int),o0,o1)) zZ ((0:Int))) (Sum.elim (fun _=>(exit ((7:Int),[]))) (fun _=>(exit ((0:Int),o1))))))))
def zgE (a:zfx):Option zUM:=zum a some
theorem zZE (a:zfx) (k:zUM→Ans):zum a k=za (zgE a) k:=by
  obtain z:=a
  simp only [zgE,zum,zj,zh,zl,zc,zi,zm,zg]
def zpg:zfx→List AV×List AE.Obj:=fun a0=>([.ro .str a0],[])
def zIY (l:List AV) (H:List AE.Obj):Option {a:zfx // (l,H)=zpg a}:=match l,H with
  | [.ro .str a0],[]=>some ⟨(a0),rfl⟩
  | _,_=>none
def zR5 (l:List AV) (H:List AE.Obj):Option zfx:=pk (zIY l H)
theorem zTE (l:List AV) (H:List AE.Obj) (a:zfx) (h:zR5 l H=some a):(l,H)=zpg a:=zt (o:=zIY l H) h
def z1F:zfx→(AV→List AE.Obj→Ans)→zUM→Ans:=fun a0 K=>unP fun r_1_y o0_y=>K (.tup [.own 0,.int .i64 r_1_y]) [.arr .str o0_y]
theorem z7l (a:zfx) (K:AV→List AE.Obj→Ans):fnE Tryz.tab YT zd 0 70 19 Tryz.f19.ntmps Tryz.f19.results.toList z0i zxo (zpg a).1 (zpg a).2 K=zum a (z1F a K):=by kernel_rfl
def Zch (a:zfx) (K:AV→List AE.Obj→Ans):Ans:=za (zgE a) fun y=>z1F a K y
def z4S:List AV→List AE.Obj→(AV→List AE.Obj→Ans)→Ans:=fun l H K=>za (zR5 l H) fun a=>Zch a K
theorem zSg:zO Tryz.prog 19 z4S:=ZK (hint:=zd) (d:=0) (n:=70) mixed tabOk zdK Tryz.func19 (zC (by kernel_rfl)) (by decide +kernel) zZC zTE z7l zZE
--@ layout_within
noncomputable def ztG:Env:=[]
theorem zMb:zf Tryz.prog ztG:=zf.nil
noncomputable def z6i:Code:=Tryz.f106.body.getD .skip
noncomputable def zpC:Code:=zF [1,0] z6i
noncomputable def zsA:Ann := .none
theorem zDG:zq Tryz.prog 15 zpC zsA:=(zb _ _ _)
abbrev q9:=(Int)×(Int)×(Int)
abbrev znl:=(Bool)
def zBy:q9→St:=fun (t0,t1,t2)=>{ env:=[(0,.int .i64 t0),(1,.int .i64 t1),(2,.int .i64 t2)],stk:=[[]],H:=[],blk:=434176 }
def zvu (s:St):Option {x:q9 // s=zBy x}:=match s with
  | { env:=[(0,.int .i64 t0),(1,.int .i64 t1),(2,.int .i64 t2)],stk:=[[]],H:=[],blk:=434176 }=>some ⟨(t0,t1,t2),rfl⟩
  | _=>none
def zjr (s:St):Option q9:=pk (zvu s)
theorem zHW (s:St) (x:q9) (h:zjr s=some x):s=zBy x:=zt (o:=zvu s) h
def zjy:q9→(Ex→St→Ans)→znl→Ans:=fun (t0,t1,t2) K=>fun t6_y=>K (Ex.norm) { env:=[(6,.bool t6_y)],stk:=[[]],H:=[],blk:=434176 }
def JY {β:Type}:q9→(znl→Option β)→Option β:=fun (t0,t1,t2) exit=>(bif decide (t0≥t1) then (exit (decide (t0≤t2))) else (exit (false)))
def WM (i:q9):Option znl:=JY i some
theorem zxq (i:q9) (k:znl→Ans):JY i k=za (WM i) k:=by
  obtain ⟨t0,t1,t2⟩:=i
  simp only [WM,JY,zj,zh,zl,zc,zi,zm,zg]
theorem zGN (i:q9) (K:Ex→St→Ans):zx Tryz.tab ztG zd (zy Tryz.tab ztG zd 0 64) 70 15 zsA zpC (zD 0 (exk [6] [6] []) K) (zBy i)=JY i (zjy i K):=by kernel_rfl
theorem zNC:zw Tryz.prog 15 zpC (zH zjr WM zjy):=zE mixed tabOk zMb 0 (exk [6] [6] []) zDG zHW zGN zxq
noncomputable def zQ4:(Ex→St→Ans)→St→Ans:=(zH zjr WM zjy)
theorem zWL:zw Tryz.prog 15 zpC zQ4:=zNC
noncomputable def z0C:Ann:=(.seq .none (.seq (.cut 0 [0,1,2] zQ4) .none))
theorem z05:zq Tryz.prog 15 z6i z0C:=⟨(zb _ _ _),⟨zWL,(zb _ _ _)⟩⟩
abbrev zd0:=(Int)×(Int)×(Int)
abbrev zJe:=(Bool)
def zwD {β:Type}:zd0→(zJe→Option β)→Option β:=fun (a0,a1,a2) exit=>(za (WM (a0,a1,a2)) fun t6=>(exit (t6)))
def zcf (a:zd0):Option zJe:=zwD a some
theorem z0R (a:zd0) (k:zJe→Ans):zwD a k=za (zcf a) k:=by
  obtain ⟨a0,a1,a2⟩:=a
  simp only [zcf,zwD,zj,zh,zl,zc,zi,zm,zg]
def zxU:zd0→List AV:=fun (a0,a1,a2)=>[.int .i64 a0,.int .i64 a1,.int .i64 a2]
def zMB (l:List AV):Option {a:zd0 // l=zxU a}:=match l with
  | [.int .i64 a0,.int .i64 a1,.int .i64 a2]=>some ⟨(a0,a1,a2),rfl⟩
  | _=>none
def zR8 (l:List AV):Option zd0:=pk (zMB l)
theorem zTD (l:List AV) (a:zd0) (h:zR8 l=some a):l=zxU a:=zt (o:=zMB l) h
def zyV:zd0→zJe→AV:=fun (a0,a1,a2)=>fun r_y => .bool r_y
theorem zWT : ∀(a:zd0) (y:zJe),(zyV a y).closed1=true:=by
  rintro ⟨a0,a1,a2⟩ y <;> first | rfl | exact Empty.elim y
theorem z4V (a:zd0):fnE Tryz.tab ztG zd 0 70 106 Tryz.f106.ntmps Tryz.f106.results.toList z0C z6i (zxU a) [] (fun v _=>some (v,[]))=zwD a (fun y=>some (zyV a y,[])):=by kernel_rfl
def Zb7 (a:zd0) (K:AV→Ans):Ans:=za (zcf a) fun y=>K (zyV a y)
def z38:List AV→(AV→Ans)→Ans:=fun l K=>za (zR8 l) fun a=>Zb7 a K
theorem zRL:zM Tryz.prog 106 z38:=zL (hint:=zd) (d:=0) (n:=70) mixed tabOk zMb Tryz.func106 (zC (by kernel_rfl)) (by decide +kernel) z05 zTD z4V z0R zWT
--@ layout_Check
noncomputable def zvm:Env:=[(106,.pure z38)]
theorem zK9:zf Tryz.prog zvm:=zf.cons zRL (zf.nil)
noncomputable def z6e:Code:=Tryz.f68.body.getD .skip
noncomputable def zoT:Code:=zF [1,0,0] z6e
noncomputable def zvd:Ann := .none
theorem zFs:zq Tryz.prog 19 zoT zvd:=(zb _ _ _)
abbrev jg:=(Int)×(Int)×(Int)
abbrev znF:=(Bool)
def zy1:jg→St:=fun (o0_0,o0_1,o0_2)=>{ env:=[(1,.ptr 0 0)],stk:=[[]],H:=[.cells [.int .i64 o0_0,.int .i64 o0_1,.int .i64 o0_2]],blk:=278528 }
def zwf (s:St):Option {x:jg // s=zy1 x}:=match s with
  | { env:=[(1,.ptr 0 0)],stk:=[[]],H:=[.cells [.int .i64 o0_0,.int .i64 o0_1,.int .i64 o0_2]],blk:=278528 }=>some ⟨(o0_0,o0_1,o0_2),rfl⟩
  | _=>none
def zjn (s:St):Option jg:=pk (zwf s)
theorem zM7 (s:St) (x:jg) (h:zjn s=some x):s=zy1 x:=zt (o:=zwf s) h
def zkZ:jg→(Ex→St→Ans)→znF→Ans:=fun (o0_0,o0_1,o0_2) K=>fun t18_y=>K (Ex.norm) { env:=[(18,.bool t18_y)],stk:=[[]],H:=[],blk:=278528 }
def zaO {β:Type}:jg→(znF→Option β)→Option β:=fun (o0_0,o0_1,o0_2) exit=>(za (zcf (o0_0,(1:Int),(24:Int))) fun r=>(bif !r then (exit (true)) else (za (zcf (o0_1,(1:Int),(8:Int))) fun r_2=>(bif !r_2 then (exit (true)) else (za (zcf (o0_2,(24:Int),(200:Int))) fun r_3=>(exit (!r_3)))))))
def WZ (i:jg):Option znF:=zaO i some
theorem zzF (i:jg) (k:znF→Ans):zaO i k=za (WZ i) k:=by
  obtain ⟨o0_0,o0_1,o0_2⟩:=i
  simp only [WZ,zaO,zj,zh,zl,zc,zi,zm,zg]
theorem zGB (i:jg) (K:Ex→St→Ans):zx Tryz.tab zvm zd (zy Tryz.tab zvm zd 0 64) 70 19 zvd zoT (zD 0 (exk [18] [2] []) K) (zy1 i)=zaO i (zkZ i K):=by kernel_rfl
theorem zO9:zw Tryz.prog 19 zoT (zH zjn WZ zkZ):=zE mixed tabOk zK9 0 (exk [18] [2] []) zFs zM7 zGB zzF
noncomputable def zQW:(Ex→St→Ans)→St→Ans:=(zH zjn WZ zkZ)
theorem zSG:zw Tryz.prog 19 zoT zQW:=zO9
noncomputable def z0O:Ann:=(.seq .none (.seq (.seq (.cut 0 [1] zQW) .none) .none))
theorem zYU:zq Tryz.prog 19 z6e z0O:=⟨(zb _ _ _),⟨⟨zSG,(zb _ _ _)⟩,(zb _ _ _)⟩⟩
abbrev zd1:=(Int)×(Int)×(Int)
abbrev zHl:=(Int)
def zvT {β:Type}:zd1→(zHl→Option β)→Option β:=fun (a0_0,a0_1,a0_2) exit=>(za (WZ (a0_0,a0_1,a0_2)) fun t18=>(bif t18 then (exit ((3:Int))) else (exit ((0:Int)))))
def zgw (a:zd1):Option zHl:=zvT a some
theorem z3k (a:zd1) (k:zHl→Ans):zvT a k=za (zgw a) k:=by
  obtain ⟨a0_0,a0_1,a0_2⟩:=a
  simp only [zgw,zvT,zj,zh,zl,zc,zi,zm,zg]
def zB3:zd1→List AV:=fun (a0_0,a0_1,a0_2)=>[.agg [.int .i64 a0_0,.int .i64 a0_1,.int .i64 a0_2]]
def zIn (l:List AV):Option {a:zd1 // l=zB3 a}:=match l with
  | [.agg [.int .i64 a0_0,.int .i64 a0_1,.int .i64 a0_2]]=>some ⟨(a0_0,a0_1,a0_2),rfl⟩
  | _=>none
def zQp (l:List AV):Option zd1:=pk (zIn l)
theorem zV3 (l:List AV) (a:zd1) (h:zQp l=some a):l=zB3 a:=zt (o:=zIn l) h
def zAx:zd1→zHl→AV:=fun (a0_0,a0_1,a0_2)=>fun r_y => .int .i64 r_y
theorem zUT : ∀(a:zd1) (y:zHl),(zAx a y).closed1=true:=by
  rintro ⟨a0_0,a0_1,a0_2⟩ y <;> first | rfl | exact Empty.elim y
theorem z5e (a:zd1):fnE Tryz.tab zvm zd 0 70 68 Tryz.f68.ntmps Tryz.f68.results.toList z0O z6e (zB3 a) [] (fun v _=>some (v,[]))=zvT a (fun y=>some (zAx a y,[])):=by kernel_rfl
def ZbU (a:zd1) (K:AV→Ans):Ans:=za (zgw a) fun y=>K (zAx a y)
def z5j:List AV→(AV→Ans)→Ans:=fun l K=>za (zQp l) fun a=>ZbU a K
theorem zPG:zM Tryz.prog 68 z5j:=zL (hint:=zd) (d:=0) (n:=70) mixed tabOk zK9 Tryz.func68 (zC (by kernel_rfl)) (by decide +kernel) zYU zV3 z5e z3k zUT
--@ super_within
noncomputable def zvj:Env:=[]
theorem zKf:zf Tryz.prog zvj:=zf.nil
noncomputable def z7z:Code:=Tryz.f69.body.getD .skip
noncomputable def zou:Code:=zF [1,0] z7z
noncomputable def zwj:Ann := .none
theorem zF1:zq Tryz.prog 12 zou zwj:=(zb _ _ _)
abbrev jt:=(Int)×(Int)
abbrev zpv:=(Bool)
def zAa:jt→St:=fun (t0,t1)=>{ env:=[(0,.int .i64 t0),(1,.int .i64 t1)],stk:=[[]],H:=[],blk:=282624 }
def zuq (s:St):Option {x:jt // s=zAa x}:=match s with
  | { env:=[(0,.int .i64 t0),(1,.int .i64 t1)],stk:=[[]],H:=[],blk:=282624 }=>some ⟨(t0,t1),rfl⟩
  | _=>none
def zkk (s:St):Option jt:=pk (zuq s)
theorem zLu (s:St) (x:jt) (h:zkk s=some x):s=zAa x:=zt (o:=zuq s) h
def zmB:jt→(Ex→St→Ans)→zpv→Ans:=fun (t0,t1) K=>fun t4_y=>K (Ex.norm) { env:=[(4,.bool t4_y)],stk:=[[]],H:=[],blk:=282624 }
def JV {β:Type}:jt→(zpv→Option β)→Option β:=fun (t0,t1) exit=>(bif decide (t0≥(0:Int)) then (exit (decide (t0≤t1))) else (exit (false)))
def qo (i:jt):Option zpv:=JV i some
theorem zAH (i:jt) (k:zpv→Ans):JV i k=za (qo i) k:=by
  obtain ⟨t0,t1⟩:=i
  simp only [qo,JV,zj,zh,zl,zc,zi,zm,zg]
theorem zEU (i:jt) (K:Ex→St→Ans):zx Tryz.tab zvj zd (zy Tryz.tab zvj zd 0 64) 70 12 zwj zou (zD 0 (exk [4] [4] []) K) (zAa i)=JV i (zmB i K):=by kernel_rfl
theorem zOq:zw Tryz.prog 12 zou (zH zkk qo zmB):=zE mixed tabOk zKf 0 (exk [4] [4] []) zF1 zLu zEU zAH
noncomputable def zQO:(Ex→St→Ans)→St→Ans:=(zH zkk qo zmB)
theorem zUP:zw Tryz.prog 12 zou zQO:=zOq
noncomputable def z3B:Ann:=(.seq .none (.seq (.cut 0 [0,1] zQO) .none))
theorem zZp:zq Tryz.prog 12 z7z z3B:=⟨(zb _ _ _),⟨zUP,(zb _ _ _)⟩⟩
abbrev zeM:=(Int)×(Int)
abbrev zMx:=(Bool)
def zss {β:Type}:zeM→(zMx→Option β)→Option β:=fun (a0,a1) exit=>(za (qo (a0,a1)) fun t4=>(exit (t4)))
def JO (a:zeM):Option zMx:=zss a some
theorem z0D (a:zeM) (k:zMx→Ans):zss a k=za (JO a) k:=by
  obtain ⟨a0,a1⟩:=a
  simp only [JO,zss,zj,zh,zl,zc,zi,zm,zg]
def zAD:zeM→List AV:=fun (a0,a1)=>[.int .i64 a0,.int .i64 a1]
def zLM (l:List AV):Option {a:zeM // l=zAD a}:=match l with
  | [.int .i64 a0,.int .i64 a1]=>some ⟨(a0,a1),rfl⟩
  | _=>none
def zQE (l:List AV):Option zeM:=pk (zLM l)
theorem zS6 (l:List AV) (a:zeM) (h:zQE l=some a):l=zAD a:=zt (o:=zLM l) h
def zCh:zeM→zMx→AV:=fun (a0,a1)=>fun r_y => .bool r_y
theorem zVm : ∀(a:zeM) (y:zMx),(zCh a y).closed1=true:=by
  rintro ⟨a0,a1⟩ y <;> first | rfl | exact Empty.elim y
theorem z5R (a:zeM):fnE Tryz.tab zvj zd 0 70 69 Tryz.f69.ntmps Tryz.f69.results.toList z3B z7z (zAD a) [] (fun v _=>some (v,[]))=zss a (fun y=>some (zCh a y,[])):=by kernel_rfl
def Zcd (a:zeM) (K:AV→Ans):Ans:=za (JO a) fun y=>K (zCh a y)
def z4z:List AV→(AV→Ans)→Ans:=fun l K=>za (zQE l) fun a=>Zcd a K
theorem zRO:zM Tryz.prog 69 z4z:=zL (hint:=zd) (d:=0) (n:=70) mixed tabOk zKf Tryz.func69 (zC (by kernel_rfl)) (by decide +kernel) zZp zS6 z5R z0D zVm
--@ super_Check
noncomputable def zuu:Env:=[(68,.pure z5j),(69,.pure z4z)]
theorem zLV:zf Tryz.prog zuu:=zf.cons zPG (zf.cons zRO (zf.nil))
noncomputable def z5H:Code:=Tryz.f34.body.getD .skip
noncomputable def znE:Code:=zF [1,1,0,0] z5H
noncomputable def zu5:Ann := .none
theorem zF3:zq Tryz.prog 36 znE zu5:=(zb _ _ _)
abbrev Q4:=(Int)×(Int)×(Int)×(Int)×(Int)×(Int)×(Int)
abbrev zpX:=(Bool)
def zB6:Q4→St:=fun (o0_0,o0_1,o0_2,o0_3,o0_4,o0_5,o0_6)=>{ env:=[(1,.ptr 0 0)],stk:=[[]],H:=[.cells [.int .i64 o0_0,.int .i64 o0_1,.int .i64 o0_2,.int .i64 o0_3,.int .i64 o0_4,.int .i64 o0_5,.int .i64 o0_6]],blk:=139264 }
def zvP (s:St):Option {x:Q4 // s=zB6 x}:=match s with
  | { env:=[(1,.ptr 0 0)],stk:=[[]],H:=[.cells [.int .i64 o0_0,.int .i64 o0_1,.int .i64 o0_2,.int .i64 o0_3,.int .i64 o0_4,.int .i64 o0_5,.int .i64 o0_6]],blk:=139264 }=>some ⟨(o0_0,o0_1,o0_2,o0_3,o0_4,o0_5,o0_6),rfl⟩
  | _=>none
def zk2 (s:St):Option Q4:=pk (zvP s)
theorem zHh (s:St) (x:Q4) (h:zk2 s=some x):s=zB6 x:=zt (o:=zvP s) h
def zl6:Q4→(Ex→St→Ans)→zpX→Ans:=fun (o0_0,o0_1,o0_2,o0_3,o0_4,o0_5,o0_6) K=>fun t35_y=>K (Ex.norm) { env:=[(35,.bool t35_y)],stk:=[[]],H:=[],blk:=139264 }
def zbn {β:Type}:Q4→(zpX→Option β)→Option β:=fun (o0_0,o0_1,o0_2,o0_3,o0_4,o0_5,o0_6) exit=>(za (JO (o0_0,(1:Int))) fun r=>(bif !r then (exit (true)) else (za (JO (o0_1,(1:Int))) fun r_2=>(bif !r_2 then (exit (true)) else (za (JO (o0_2,(16777216:Int))) fun r_3=>(bif !r_3 then (exit (true)) else (za (JO (o0_3,IntKind.wrap .i64 (o0_4 - (1:Int)))) fun r_4=>(exit (!r_4)))))))))
def qj (i:Q4):Option zpX:=zbn i some
theorem zBP (i:Q4) (k:zpX→Ans):zbn i k=za (qj i) k:=by
  obtain ⟨o0_0,o0_1,o0_2,o0_3,o0_4,o0_5,o0_6⟩:=i
  simp only [qj,zbn,zj,zh,zl,zc,zi,zm,zg]
theorem zEj (i:Q4) (K:Ex→St→Ans):zx Tryz.tab zuu zd (zy Tryz.tab zuu zd 0 64) 70 36 zu5 znE (zD 0 (exk [35] [2] []) K) (zB6 i)=zbn i (zl6 i K):=by kernel_rfl
theorem zNv:zw Tryz.prog 36 znE (zH zk2 qj zl6):=zE mixed tabOk zLV 0 (exk [35] [2] []) zF3 zHh zEj zBP
noncomputable def zSc:(Ex→St→Ans)→St→Ans:=(zH zk2 qj zl6)
theorem zXV:zw Tryz.prog 36 znE zSc:=zNv
noncomputable def zYq:Ann:=(.seq .none (.seq .none (.seq (.seq (.cut 0 [1] zSc) .none) .none)))
theorem z2G:zq Tryz.prog 36 z5H zYq:=⟨(zb _ _ _),⟨(zb _ _ _),⟨⟨zXV,(zb _ _ _)⟩,(zb _ _ _)⟩⟩⟩
abbrev zec:=(Int)×(Int)×(Int)×(Int)×(Int)×(Int)×(Int)
abbrev zHP:=(Int)
def zsD {β:Type}:zec→(zHP→Option β)→Option β:=fun (a0_0,a0_1,a0_2,a0_3,a0_4,a0_5,a0_6) exit=>(za (zgw (a0_4,a0_5,a0_6)) fun r=>(bif r != (0:Int) then (exit (r)) else (za (qj (a0_0,a0_1,a0_2,a0_3,a0_4,a0_5,a0_6)) fun t35=>(bif t35 then (exit ((3:Int))) else (exit ((0:Int)))))))
def zd5 (a:zec):Option zHP:=zsD a some
theorem z1n (a:zec) (k:zHP→Ans):zsD a k=za (zd5 a) k:=by
  obtain ⟨a0_0,a0_1,a0_2,a0_3,a0_4,a0_5,a0_6⟩:=a
  simp only [zd5,zsD,zj,zh,zl,zc,zi,zm,zg]
def zBI:zec→List AV:=fun (a0_0,a0_1,a0_2,a0_3,a0_4,a0_5,a0_6)=>[.agg [.int .i64 a0_0,.int .i64 a0_1,.int .i64 a0_2,.int .i64 a0_3,.int .i64 a0_4,.int .i64 a0_5,.int .i64 a0_6]]
def zJZ (l:List AV):Option {a:zec // l=zBI a}:=match l with
  | [.agg [.int .i64 a0_0,.int .i64 a0_1,.int .i64 a0_2,.int .i64 a0_3,.int .i64 a0_4,.int .i64 a0_5,.int .i64 a0_6]]=>some ⟨(a0_0,a0_1,a0_2,a0_3,a0_4,a0_5,a0_6),rfl⟩
  | _=>none
def zQq (l:List AV):Option zec:=pk (zJZ l)
theorem zTt (l:List AV) (a:zec) (h:zQq l=some a):l=zBI a:=zt (o:=zJZ l) h
def zys:zec→zHP→AV:=fun (a0_0,a0_1,a0_2,a0_3,a0_4,a0_5,a0_6)=>fun r_y => .int .i64 r_y
theorem zWP : ∀(a:zec) (y:zHP),(zys a y).closed1=true:=by
  rintro ⟨a0_0,a0_1,a0_2,a0_3,a0_4,a0_5,a0_6⟩ y <;> first | rfl | exact Empty.elim y
theorem z60 (a:zec):fnE Tryz.tab zuu zd 0 70 34 Tryz.f34.ntmps Tryz.f34.results.toList zYq z5H (zBI a) [] (fun v _=>some (v,[]))=zsD a (fun y=>some (zys a y,[])):=by kernel_rfl
def ZbM (a:zec) (K:AV→Ans):Ans:=za (zd5 a) fun y=>K (zys a y)
def zUO:List AV→(AV→Ans)→Ans:=fun l K=>za (zQq l) fun a=>ZbM a K
theorem zB5:zM Tryz.prog 34 zUO:=zL (hint:=zd) (d:=0) (n:=70) mixed tabOk zLV Tryz.func34 (zC (by kernel_rfl)) (by decide +kernel) z2G zTt z60 z1n zWP
--@ field_Fits
noncomputable def zuZ:Env:=[(92,.pure zXB)]
theorem zMu:zf Tryz.prog zuZ:=zf.cons zAL (zf.nil)
noncomputable def z55:Code:=Tryz.f98.body.getD .skip
noncomputable def zoE:Code:=zF [1,0] z55
noncomputable def ztK:Ann := .none
theorem zD4:zq Tryz.prog 18 zoE ztK:=(zb _ _ _)
abbrev Qq:=(Int)×(Int)
abbrev zoo:=(Bool)
def zx1:Qq→St:=fun (t0,t1)=>{ env:=[(0,.int .i64 t0),(1,.int .i64 t1)],stk:=[[]],H:=[],blk:=401408 }
def zwg (s:St):Option {x:Qq // s=zx1 x}:=match s with
  | { env:=[(0,.int .i64 t0),(1,.int .i64 t1)],stk:=[[]],H:=[],blk:=401408 }=>some ⟨(t0,t1),rfl⟩
  | _=>none
def zjH (s:St):Option Qq:=pk (zwg s)
theorem zJL (s:St) (x:Qq) (h:zjH s=some x):s=zx1 x:=zt (o:=zwg s) h
def zmO:Qq→(Ex→St→Ans)→zoo→Ans:=fun (t0,t1) K=>fun t4_y=>K (Ex.norm) { env:=[(4,.bool t4_y)],stk:=[[]],H:=[],blk:=401408 }
def zbc {β:Type}:Qq→(zoo→Option β)→Option β:=fun (t0,t1) exit=>(za (zct (t1)) fun r=>(bif r then (bif decide (t0≥(0:Int)) then (bif decide (IntKind.wrap .i64 ((8:Int)*t1)<(0:Int)) then none else (exit (Int.fdiv t0 ((2:Int) ^ min (Int.toNat (IntKind.wrap .i64 ((8:Int)*t1))) (64:Nat)) == (0:Int)))) else (exit (false))) else (exit (false))))
def qp (i:Qq):Option zoo:=zbc i some
theorem zzY (i:Qq) (k:zoo→Ans):zbc i k=za (qp i) k:=by
  obtain ⟨t0,t1⟩:=i
  simp only [qp,zbc,zj,zh,zl,zc,zi,zm,zg]
theorem zDT (i:Qq) (K:Ex→St→Ans):zx Tryz.tab zuZ zd (zy Tryz.tab zuZ zd 0 64) 70 18 ztK zoE (zD 0 (exk [4] [4] []) K) (zx1 i)=zbc i (zmO i K):=by kernel_rfl
theorem zOK:zw Tryz.prog 18 zoE (zH zjH qp zmO):=zE mixed tabOk zMu 0 (exk [4] [4] []) zD4 zJL zDT zzY
noncomputable def zQU:(Ex→St→Ans)→St→Ans:=(zH zjH qp zmO)
theorem zUH:zw Tryz.prog 18 zoE zQU:=zOK
noncomputable def z0p:Ann:=(.seq .none (.seq (.cut 0 [0,1] zQU) .none))
theorem z3N:zq Tryz.prog 18 z55 z0p:=⟨(zb _ _ _),⟨zUH,(zb _ _ _)⟩⟩
abbrev zdv:=(Int)×(Int)
abbrev zL0:=(Bool)
def zwd {β:Type}:zdv→(zL0→Option β)→Option β:=fun (a0,a1) exit=>(za (qp (a0,a1)) fun t4=>(exit (t4)))
def zgM (a:zdv):Option zL0:=zwd a some
theorem zYi (a:zdv) (k:zL0→Ans):zwd a k=za (zgM a) k:=by
  obtain ⟨a0,a1⟩:=a
  simp only [zgM,zwd,zj,zh,zl,zc,zi,zm,zg]
def zy6:zdv→List AV:=fun (a0,a1)=>[.int .i64 a0,.int .i64 a1]
def zJO (l:List AV):Option {a:zdv // l=zy6 a}:=match l with
  | [.int .i64 a0,.int .i64 a1]=>some ⟨(a0,a1),rfl⟩
  | _=>none
def zRe (l:List AV):Option zdv:=pk (zJO l)
theorem zUv (l:List AV) (a:zdv) (h:zRe l=some a):l=zy6 a:=zt (o:=zJO l) h
def zxn:zdv→zL0→AV:=fun (a0,a1)=>fun r_y => .bool r_y
theorem zVc : ∀(a:zdv) (y:zL0),(zxn a y).closed1=true:=by
  rintro ⟨a0,a1⟩ y <;> first | rfl | exact Empty.elim y
theorem z5m (a:zdv):fnE Tryz.tab zuZ zd 0 70 98 Tryz.f98.ntmps Tryz.f98.results.toList z0p z55 (zy6 a) [] (fun v _=>some (v,[]))=zwd a (fun y=>some (zxn a y,[])):=by kernel_rfl
def ZcB (a:zdv) (K:AV→Ans):Ans:=za (zgM a) fun y=>K (zxn a y)
def z7C:List AV→(AV→Ans)→Ans:=fun l K=>za (zRe l) fun a=>ZcB a K
theorem zPi:zM Tryz.prog 98 z7C:=zL (hint:=zd) (d:=0) (n:=70) mixed tabOk zMu Tryz.func98 (zC (by kernel_rfl)) (by decide +kernel) z3N zUv z5m zYi zVc
--@ field_Put
noncomputable def zhv:Env:=[(98,.pure z7C)]
theorem zHU:zf Tryz.prog zhv:=zf.cons zPi (zf.nil)
noncomputable def z5T:Code:=Tryz.f57.body.getD .skip
noncomputable def zgb:Code:=zF [1,1,1,0,1,0,0] z5T
noncomputable def zi0:Ann := .at 0 [0,1,2,7,17,18] (.loop .none)
theorem zEa:zq Tryz.prog 37 (.loop zgb) zi0:=Zp (zb _ _ _)
abbrev js:=(List UInt8)×(Int)×(Int)×(Int)
abbrev znB:=(List Int)
abbrev wT:=(Int)×(List Int)
def zoM:js→wT→St:=fun (t0,t1,t2,t17) (t18,o0)=>{ env:=[(0,.str t0),(1,.int .i64 t1),(2,.int .i64 t2),(7,.own 0),(17,.int .i64 t17),(18,.int .i64 t18)],stk:=[[]],H:=[.arr (.int .u8) o0],blk:=233472 }
def zso (s:St):Option {x:js×wT // s=zoM x.1 x.2}:=match s with
  | { env:=[(0,.str t0),(1,.int .i64 t1),(2,.int .i64 t2),(7,.own 0),(17,.int .i64 t17),(18,.int .i64 t18)],stk:=[[]],H:=[.arr (.int .u8) o0],blk:=233472 }=>some ⟨((t0,t1,t2,t17),(t18,o0)),rfl⟩
  | _=>none
def zmL (s:St):Option (js×wT):=pk (zso s)
theorem zL5 (s:St) (x:js×wT) (h:zmL s=some x):s=zoM x.1 x.2:=zt (o:=zso s) h
def zlv:js→(Ex→St→Ans)→znB→Ans:=fun (t0,t1,t2,t17) K=>fun o0_y=>K (Ex.exit 0) { env:=[(0,.str t0),(7,.own 0)],stk:=[[]],H:=[.arr (.int .u8) o0_y],blk:=233472 }
def jV {β:Type}:js→wT→(wT→Option β)→(znB→Option β)→Option β:=fun (t0,t1,t2,t17) (t18,o0) next exit=>(bif decide (t18<t17) then (bif decide (IntKind.wrap .i64 ((8:Int)*IntKind.wrap .i64 (IntKind.wrap .i64 (t2 - (1:Int)) - t18))<(0:Int)) then none else (bif inR t18 (List.length o0) then (za (o0[Int.toNat t18]?) fun x=>(next (IntKind.wrap .i64 (t18+(1:Int)),List.set o0 (Int.toNat t18) (IntKind.wrap .u8 (Int.fdiv t1 ((2:Int) ^ min (Int.toNat (IntKind.wrap .i64 ((8:Int)*IntKind.wrap .i64 (IntKind.wrap .i64 (t2 - (1:Int)) - t18)))) (64:Nat))))))) else none)) else (exit (o0)))
def yX (i:js) (v:wT):Option (wT ⊕ znB):=jV i v (fun v=>some (.inl v)) (fun y=>some (.inr y))
theorem zA6 (i:js) (v:wT) (next:wT→Ans) (exit:znB→Ans):jV i v next exit=za (yX i v) (Sum.elim next exit):=by
  obtain ⟨t0,t1,t2,t17⟩:=i
  obtain ⟨t18,o0⟩:=v
  simp only [yX,jV,zj,zh,zl,zc,zi,zm,zg,Sum.elim_inl,Sum.elim_inr]
theorem zFB (n:Nat) (i:js) (v:wT) (K:Ex→St→Ans):zx Tryz.tab zhv zd (zy Tryz.tab zhv zd 0 64) (n+1) 37 zi0 (.loop zgb) (zD 0 (exk [0,7] [6] [(0,[0,7])]) K) (zoM i v)=jV i v (fun v'=>zx Tryz.tab zhv zd (zy Tryz.tab zhv zd 0 64) n 37 zi0 (.loop zgb) (zD 0 (exk [0,7] [6] [(0,[0,7])]) K) (zoM i v')) (fun y=>zlv i K y):=by kernel_rfl
theorem zOb:zw Tryz.prog 37 (.loop zgb) (Zr zmL yX zlv):=Zj mixed tabOk zHU 0 (exk [0,7] [6] [(0,[0,7])]) zEa zL5 zFB zA6
noncomputable def zQ1:(Ex→St→Ans)→St→Ans:=(Zr zmL yX zlv)
theorem zWR:zw Tryz.prog 37 (.loop zgb) zQ1:=zOb
noncomputable def z2I:Ann:=(.seq .none (.seq .none (.seq .none (.seq (.seq .none (.block (.cut 0 [0,1,2,7,17,18] zQ1))) .none))))
theorem z1T:zq Tryz.prog 37 z5T z2I:=⟨(zb _ _ _),⟨(zb _ _ _),⟨(zb _ _ _),⟨⟨(zb _ _ _),zWR⟩,(zb _ _ _)⟩⟩⟩⟩
abbrev zdQ:=(List UInt8)×(Int)×(Int)
abbrev zHS:=(List UInt8)
def zuN {β:Type}:zdQ→(zHS→Option β)→Option β:=fun (a0,a1,a2) exit=>(za (zgM (a1,a2)) fun r=>(bif !r then (exit (a0)) else (bif decide ((0:Int)≤a2)&&decide (a2≤a2)&&decide ((1:Int)*a2≤(281474976710656:Int))&&decide (a2≤(9223372036854775807:Int)) then (za (zP (yX (a0,a1,a2,(↑(List.length (List.replicate (Int.toNat a2) (0:Int))):Int))) zZ ((0:Int),List.replicate (Int.toNat a2) (0:Int))) fun o0=>(bif Nat.ble (List.length a0+List.length (Zl o0)) (9223372036854775807:Nat) then (exit (a0++Zl o0)) else none)) else none)))
def Zz (a:zdQ):Option zHS:=zuN a some
theorem z2D (a:zdQ) (k:zHS→Ans):zuN a k=za (Zz a) k:=by
  obtain ⟨a0,a1,a2⟩:=a
  simp only [Zz,zuN,zj,zh,zl,zc,zi,zm,zg]
def zyZ:zdQ→List AV:=fun (a0,a1,a2)=>[.str a0,.int .i64 a1,.int .i64 a2]
def zHb (l:List AV):Option {a:zdQ // l=zyZ a}:=match l with
  | [.str a0,.int .i64 a1,.int .i64 a2]=>some ⟨(a0,a1,a2),rfl⟩
  | _=>none
def zRt (l:List AV):Option zdQ:=pk (zHb l)
theorem zU0 (l:List AV) (a:zdQ) (h:zRt l=some a):l=zyZ a:=zt (o:=zHb l) h
def zzX:zdQ→zHS→AV:=fun (a0,a1,a2)=>fun r_y => .str r_y
theorem zWe : ∀(a:zdQ) (y:zHS),(zzX a y).closed1=true:=by
  rintro ⟨a0,a1,a2⟩ y <;> first | rfl | exact Empty.elim y
theorem z45 (a:zdQ):fnE Tryz.tab zhv zd 0 70 57 Tryz.f57.ntmps Tryz.f57.results.toList z2I z5T (zyZ a) [] (fun v _=>some (v,[]))=zuN a (fun y=>some (zzX a y,[])):=by kernel_rfl
def Zcs (a:zdQ) (K:AV→Ans):Ans:=za (Zz a) fun y=>K (zzX a y)
def zjN:List AV→(AV→Ans)→Ans:=fun l K=>za (zRt l) fun a=>Zcs a K
theorem zbo:zM Tryz.prog 57 zjN:=zL (hint:=zd) (d:=0) (n:=70) mixed tabOk zHU Tryz.func57 (zC (by kernel_rfl)) (by decide +kernel) z1T zU0 z45 z2D zWe
end Go.Proofs.R9

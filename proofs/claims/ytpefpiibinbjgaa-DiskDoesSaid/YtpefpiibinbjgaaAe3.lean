/- The abstract evaluator AE, proved: part 3. -/
import Derived.Test.YtpefpiibinbjgaaAe2
import Derived.Lib.Repeat
set_option linter.unusedVariables false
set_option linter.unusedSimpArgs false
namespace Go.AE
theorem wrap64 {x : Int} (h : -9223372036854775808 ≤ x) (h' : x ≤ 9223372036854775807) : IntKind.wrap .i64 x = x := by
  simp [IntKind.wrap, IntKind.bits, IntKind.signed]
  omega
/-- A loop that counts up and appends. -/
theorem count_up {Y α : Type} {step : Int × List α → (Int × List α → Ans) → (Y → Ans) → Ans} {M : Int} {g : Int → α} {w : Nat} {l : List α} {z : Y} (e : List α → Y) (hM : 0 ≤ M) (hM' : M ≤ 100000) (hw : w ≤ 1000) (hl : l.length ≤ 100000)
    (h : ∀ t l next (k : Y → Ans), step (t, l) next k = bif decide (t < M) then (bif Nat.ble ((l.length + 1) * w) 140737488355328 then next (IntKind.wrap .i64 (t + 1), l ++ [g t]) else none) else k (e l))
    (hz : e (l ++ (List.range M.toNat).map fun j : Nat => g j) = z) : ∃ n, ∀ k, iterK step n (0, l) k = k z := by
  refine iterK_up (fun j => ((j : Int), l ++ (List.range j).map fun j : Nat => g j)) M.toNat (by simp) ?_ ?_
  · intro j hj next k
    have hb : Nat.ble (((l ++ (List.range j).map fun j : Nat => g j).length + 1) * w) 140737488355328 = true := by
      apply Nat.ble_eq_true_of_le
      have : ((l ++ (List.range j).map fun j : Nat => g j).length + 1) * w ≤ 300000 * 1000 := Nat.mul_le_mul (by simp; omega) hw
      omega
    have hlt : (j : Int) < M := by omega
    rw [h, hb, wrap64 (by omega) (by omega)]
    simp only [hlt, decide_true, cond_true]
    congr 2
    rw [List.range_succ]
    simp
  · intro next k
    have hlt : ¬ ((M.toNat : Int) < M) := by omega
    rw [h]
    simp only [hlt, decide_false, cond_false, hz]

theorem nth_nat {α : Type} (l : List α) (j : Nat) : nth l (j : Int) = l[j]? := by
  unfold nth
  rw [if_pos (by omega), Int.toNat_natCast]

/-- A loop that looks through a list for the first that ends it. -/
theorem iterK_scan {Y α : Type} {step : Int → (Int → Ans) → (Y → Ans) → Ans} (l : List α) (p : α → Option Y) (z0 : Y)
    (h : ∀ (j : Nat) (x : α), l[j]? = some x → ∀ next (k : Y → Ans), step (j : Int) next k = match p x with | some y => k y | none => next ((j + 1 : Nat) : Int))
    (he : ∀ next (k : Y → Ans), step (l.length : Int) next k = k z0) : ∃ n, ∀ k, iterK step n 0 k = k ((l.findSome? p).getD z0) := by
  have key : ∀ (r : List α) (j : Nat), l.drop j = r → j ≤ l.length → ∀ k, iterK step (r.length + 1) (j : Int) k = k ((r.findSome? p).getD z0) := by
    intro r
    induction r with
    | nil =>
      intro j hj hjl k
      have hj1 : l.length ≤ j := List.drop_eq_nil_iff.1 hj
      obtain rfl : j = l.length := by omega
      rw [List.length_nil, iterK, he]
      rfl
    | cons x r ih =>
      intro j hj hjl k
      have hx : l[j]? = some x := by
        have : (l.drop j)[0]? = some x := by rw [hj]; rfl
        simpa using this
      have hr : l.drop (j + 1) = r := by rw [← List.tail_drop, hj]; rfl
      rw [List.length_cons, iterK, h j x hx]
      cases hp : p x with
      | some y => simp [hp]
      | none =>
        simp only
        rw [ih (j + 1) hr (List.getElem?_eq_some_iff.1 hx).1 k]
        simp [hp]
  exact ⟨l.length + 1, fun k => key l 0 rfl (Nat.zero_le _) k⟩

/-- A loop that folds a list. -/
theorem iterK_fold {Y α β : Type} {step : Int × β → (Int × β → Ans) → (Y → Ans) → Ans} (l : List α) (f : β → α → β) (b0 : β) (e : β → Y) (Inv : Nat → β → Prop) (h0 : Inv 0 b0)
    (hi : ∀ (j : Nat) (x : α) (b : β), l[j]? = some x → Inv j b → Inv (j + 1) (f b x))
    (h : ∀ (j : Nat) (x : α) (b : β), l[j]? = some x → Inv j b → ∀ next (k : Y → Ans), step ((j : Int), b) next k = next (((j + 1 : Nat) : Int), f b x))
    (he : ∀ (b : β), Inv l.length b → ∀ next (k : Y → Ans), step ((l.length : Int), b) next k = k (e b)) : ∃ n, ∀ k, iterK step n (0, b0) k = k (e (l.foldl f b0)) := by
  have inv : ∀ j, j ≤ l.length → Inv j ((l.take j).foldl f b0) := by
    intro j
    induction j with
    | zero => intro _; simpa using h0
    | succ j ih =>
      intro hj
      have hx : l[j]? = some l[j] := List.getElem?_eq_getElem (by omega)
      rw [List.take_succ_eq_append_getElem (by omega), List.foldl_append]
      exact hi j _ _ hx (ih (by omega))
  refine iterK_up (fun j => ((j : Int), (l.take j).foldl f b0)) l.length (by simp) ?_ ?_
  · intro j hj next k
    have hx : l[j]? = some l[j] := List.getElem?_eq_getElem hj
    rw [h j _ _ hx (inv j (by omega)), List.take_succ_eq_append_getElem hj, List.foldl_append]
    rfl
  · intro next k
    have := inv l.length (Nat.le_refl _)
    rw [List.take_length] at this ⊢
    exact he _ this next k
theorem foldl_inv {α β : Type} (f : β → α → β) (P : β → Prop) : ∀ (l : List α) (b : β), P b → (∀ b x, x ∈ l → P b → P (f b x)) → P (l.foldl f b)
  | [], _, h, _ => h
  | x :: r, b, h, hf => foldl_inv f P r (f b x) (hf b x (List.mem_cons_self ..) h) (fun b y hy => hf b y (List.mem_cons_of_mem _ hy))
end Go.AE
namespace Go.AE
open Go.RowKit (Below)
variable {P : Program} {T : Tab} {E : Env} {hint : Hint}

/-! ### Data out of ways -/
theorem bindO_none {α β : Type} (f : α → Option β) : bindO none f = none := rfl
theorem bindO_pure {α β : Type} (a : α) (f : α → Option β) : bindO (some a) f = f a := rfl
theorem bindO_cond {α β : Type} (c : Bool) (a b : Option α) (f : α → Option β) : bindO (cond c a b) f = cond c (bindO a f) (bindO b f) := by cases c <;> rfl
theorem bindO_assoc {α β γ : Type} (o : Option α) (g : α → Option β) (f : β → Option γ) : bindO (bindO o g) f = bindO o fun a => bindO (g a) f := by cases o <;> rfl
theorem bindO_elim {α β γ δ : Type} (g : α → Option γ) (h : β → Option γ) (y : α ⊕ β) (f : γ → Option δ) : bindO (Sum.elim g h y) f = Sum.elim (fun a => bindO (g a) f) (fun b => bindO (h b) f) y := by cases y <;> rfl

/-- A function of a pair's parts. -/
def unP {α β γ : Type} (f : α → β → γ) (x : α × β) : γ := f x.1 x.2
theorem bindO_unP {α β γ δ : Type} (f : α → β → Option γ) (y : α × β) (k : γ → Option δ) : bindO (unP f y) k = unP (fun a b => bindO (f a b) k) y := rfl
theorem unP_mk {α β γ : Type} (f : α → β → γ) (a : α) (b : β) : unP f (a, b) = f a b := rfl

/-- Rounds of a loop, as data. -/
def loopD {V Y : Type} (f : V → Option (V ⊕ Y)) : Nat → V → Option Y
  | 0, _ => none
  | n + 1, v => bindO (f v) (Sum.elim (fun v' => loopD f n v') some)
/-- More rounds than anything takes. -/
def FUEL : Nat := 18446744073709551616

theorem iterK_loopD {V Y : Type} {step : V → (V → Ans) → (Y → Ans) → Ans} {f : V → Option (V ⊕ Y)} (h : ∀ v next exit, step v next exit = bindO (f v) (Sum.elim next exit)) :
    ∀ (n : Nat) (v : V) (y : Y), loopD f n v = some y → ∀ k, iterK step n v k = k y
  | 0, v, y, he, _ => by cases he
  | n + 1, v, y, he, k => by
    rw [iterK, h]
    rw [loopD] at he
    cases hf : f v with
    | none => rw [hf] at he; cases he
    | some x =>
      rw [hf] at he
      cases x with
      | inl v' => exact iterK_loopD h n v' y he k
      | inr z => cases he; rfl

theorem loopD_more {V Y : Type} {f : V → Option (V ⊕ Y)} : ∀ (n m : Nat) (v : V) (y : Y), n ≤ m → loopD f n v = some y → loopD f m v = some y
  | 0, _, _, _, _, he => by cases he
  | n + 1, 0, _, _, hle, _ => by omega
  | n + 1, m + 1, v, y, hle, he => by
    rw [loopD] at he ⊢
    cases hf : f v with
    | none => rw [hf] at he; cases he
    | some x =>
      rw [hf] at he
      cases x with
      | inl v' => exact loopD_more n m v' y (by omega) he
      | inr z => exact he

def sumL {I V Y : Type} (dec : St → Option (I × V)) (f : I → V → Option (V ⊕ Y)) (out : I → (Ex → St → Ans) → Y → Ans) : (Ex → St → Ans) → St → Ans :=
  fun K s => bindO (dec s) fun x => bindO (loopD (f x.1) FUEL x.2) fun y => out x.1 K y
def sumN {I Y : Type} (dec : St → Option I) (f : I → Option Y) (out : I → (Ex → St → Ans) → Y → Ans) : (Ex → St → Ans) → St → Ans :=
  fun K s => bindO (dec s) fun x => bindO (f x) fun y => out x K y

/-- One of two summaries, by the frame. -/
def altN {α : Type} (dec : St → Option α) (G1 G2 : (Ex → St → Ans) → St → Ans) : (Ex → St → Ans) → St → Ans :=
  fun K s => match dec s with
    | some _ => G1 K s
    | none => G2 K s
theorem csum_altN {nt : Nat} {c : Code} {α : Type} {dec : St → Option α} {G1 G2 : (Ex → St → Ans) → St → Ans} (h1 : CSum P nt c G1) (h2 : CSum P nt c G2) : CSum P nt c (altN dec G1 G2) := by
  intro F K s C a stk res h hS hsz hd
  unfold altN at h
  split at h
  · exact h1 h hS hsz hd
  · exact h2 h hS hsz hd

/-! ### What stands behind a part is forgotten -/
def getX : List (Nat × List Nat) → Nat → List Nat
  | [], _ => []
  | (n, l) :: r, i => cond (Nat.beq n i) l (getX r i)
/-- Which temporaries are kept, by how a part is left. -/
def exk (n r : List Nat) (xs : List (Nat × List Nat)) : Ex → List Nat
  | .norm => n
  | .ret => r
  | .exit i => getX xs i
  | .goto _ => []
def weakP (k0 : Nat) (kp : Ex → List Nat) (K : Ex → St → Ans) : Ex → St → Ans :=
  fun e s => match e with
    | .norm => forceSt (s.head (kp .norm)) fun s => packSt k0 s fun s => K .norm s
    | .ret => forceSt (s.head (kp .ret)) fun s => packSt k0 s fun s => K .ret s
    | .exit i => forceSt (s.head (kp (.exit i))) fun s => packSt k0 s fun s => K (.exit i) s
    | .goto _ => none
def noHint : Hint := fun _ => []

theorem weakP_sound {F : Fr} {k0 : Nat} {kp : Ex → List Nat} {K : Ex → St → Ans} {stk : List (Array Value)} {nt : Nat} {res : AV × List Obj} {e : Exit} {a : Act} {w : World}
    (h : CPost F (weakP k0 kp K) stk nt res e a w) : CPost F K stk nt res e a w := by
  obtain ⟨e', s', C', he, hK, hw, hS', hsz', hd'⟩ := h
  have key : ∀ e'', forceSt (s'.head (kp e'')) (fun s => packSt k0 s fun s => K e'' s) = some res → e''.toExit = e → CPost F K stk nt res e a w := by
    intro e'' h he
    rw [forceSt_eq] at h
    obtain ⟨C1, hw1, hS1⟩ := head_sound hS' (kp e'')
    obtain ⟨s2, C2, hw2, hS2, h⟩ := packSt_sound hS1 h
    exact ⟨e'', s2, C2, he, h, hw2.trans (hw1.trans hw), hS2, hsz', hd'⟩
  cases e' with
  | norm => exact key _ hK he
  | ret => exact key _ hK he
  | exit i => exact key _ hK he
  | goto l => cases hK

section
variable (hm : P.follows .mixedOrders = true) (hT : TabOk P T) (hE : EnvOk P E)
include hm hT hE
theorem csum_of {nt d : Nat} (k0 : Nat) (kp : Ex → List Nat) {c : Code} {x : Ann} (hx : AnnOk P nt c x) {G : (Ex → St → Ans) → St → Ans}
    (h : ∀ K s res, G K s = some res → ∃ m n, codeI T E hint (codeD T E hint d m) n nt x c (weakP k0 kp K) s = some res) : CSum P nt c G := by
  intro F K s C a stk res hG hS hsz hd
  obtain ⟨m, n, hn⟩ := h K s res hG
  exact wp_mono ((codeI_sound (hint := hint) hm hT hE (codeD_sound (hint := hint) hm hT hE d m) n).1 hn hx hS hsz hd) fun e a w hp => weakP_sound hp

theorem csum_node {nt d m n : Nat} (k0 : Nat) (kp : Ex → List Nat) {c : Code} {x : Ann} (hx : AnnOk P nt c x) {I Y : Type} {S : I → St} {dec : St → Option I} {f : I → Option Y} {p : I → (Y → Ans) → Ans} {out : I → (Ex → St → Ans) → Y → Ans}
    (hdec : ∀ s i, dec s = some i → s = S i) (hnode : ∀ i K, codeI T E hint (codeD T E hint d m) n nt x c (weakP k0 kp K) (S i) = p i (out i K)) (hnat : ∀ i k, p i k = bindO (f i) k) :
    CSum P nt c (sumN dec f out) := by
  refine csum_of (hint := hint) (d := d) hm hT hE k0 kp hx ?_
  intro K s res h
  obtain ⟨i, hi, h⟩ := bindO_some' h
  refine ⟨m, n, ?_⟩
  rw [hdec s i hi, hnode, hnat]
  exact h

theorem csum_loop {nt d m : Nat} (k0 : Nat) (kp : Ex → List Nat) {c : Code} {x : Ann} (hx : AnnOk P nt (.loop c) x)
    {I V Y : Type} {S : I → V → St} {dec : St → Option (I × V)} {step : I → V → (V → Ans) → (Y → Ans) → Ans} {f : I → V → Option (V ⊕ Y)} {out : I → (Ex → St → Ans) → Y → Ans}
    (hdec : ∀ s x, dec s = some x → s = S x.1 x.2)
    (hstep : ∀ n i v K, codeI T E hint (codeD T E hint d m) (n + 1) nt x (.loop c) (weakP k0 kp K) (S i v) =
      step i v (fun v' => codeI T E hint (codeD T E hint d m) n nt x (.loop c) (weakP k0 kp K) (S i v')) (fun z => out i K z))
    (hnat : ∀ i v next exit, step i v next exit = bindO (f i v) (Sum.elim next exit)) : CSum P nt (.loop c) (sumL dec f out) := by
  refine csum_of (hint := hint) (d := d) hm hT hE k0 kp hx ?_
  intro K s res h
  unfold sumL at h
  obtain ⟨⟨i, v⟩, hd, h⟩ := bindO_some' h
  obtain ⟨z, hr, h⟩ := bindO_some' h
  refine ⟨m, FUEL, ?_⟩
  rw [hdec s _ hd, iterK_run (step := step i) (f := fun n v => codeI T E hint (codeD T E hint d m) n nt x (.loop c) (weakP k0 kp K) (S i v)) (k := fun z => out i K z)
    (fun v => by rw [codeI]) (fun n v => hstep n i v K) FUEL v, iterK_loopD (f := f i) (fun v next exit => hnat i v next exit) FUEL v z hr]
  exact h

/-- A function that may turn what its arguments lead to. -/
theorem func_mkD {g n : Nat} {fn : Func} {c : Code} (hf : P.funcs[g]? = some fn) (hb : fn.body = some c) (hn : fn.name ≠ "runtime.NumGoroutine") {d : Nat} {x : Ann} (hx : AnnOk P fn.ntmps c x)
    {A Y : Type} {dec : List AV → List Obj → Option A} {argsOf : A → List AV × List Obj} (hdec : ∀ l H a, dec l H = some a → (l, H) = argsOf a) {p : A → (Y → Ans) → Ans} {f : A → Option Y} {out : A → (AV → List Obj → Ans) → Y → Ans}
    (hfn : ∀ a K, fnE T E hint d n g fn.ntmps fn.results.toList x c (argsOf a).1 (argsOf a).2 K = p a (out a K)) (hnat : ∀ a k, p a k = bindO (f a) k) :
    FuncOk P g (fun l H K => bindO (dec l H) fun a => bindO (f a) fun y => out a K y) :=
  func_mk (hint := hint) hm hT hE hf hb hn hx hdec (f := fun a K => p a (out a K)) (v := fun a K => bindO (f a) fun y => out a K y) hfn
    (fun a K res h => by rw [hnat]; exact h)

/-- A function that only reads. -/
theorem pure_mkD {g n : Nat} {fn : Func} {c : Code} (hf : P.funcs[g]? = some fn) (hb : fn.body = some c) (hn : fn.name ≠ "runtime.NumGoroutine") {d : Nat} {x : Ann} (hx : AnnOk P fn.ntmps c x)
    {A Y : Type} {dec : List AV → Option A} {argsOf : A → List AV} (hdec : ∀ l a, dec l = some a → l = argsOf a) {p : A → (Y → Ans) → Ans} {f : A → Option Y} {rend : A → Y → AV}
    (hfn : ∀ a, fnE T E hint d n g fn.ntmps fn.results.toList x c (argsOf a) [] (fun v _ => some (v, [])) = p a (fun y => some (rend a y, []))) (hnat : ∀ a k, p a k = bindO (f a) k) (hcl : ∀ a y, (rend a y).closed1 = true) :
    PureOk P g (fun l K => bindO (dec l) fun a => bindO (f a) fun y => K (rend a y)) :=
  pure_mk (hint := hint) hm hT hE hf hb hn hx hdec (f := fun a K => bindO (f a) fun y => K (rend a y)) (v := fun a K => bindO (f a) fun y => K (rend a y))
    (fun a => by rw [hfn, hnat])
    (fun a K res h => by
      obtain ⟨y, hy, h⟩ := bindO_some' h
      refine ⟨rend a y, hcl a y, h, ?_⟩
      dsimp only
      rw [hy]
      rfl)
end

theorem annOk_at {nt : Nat} {c : Code} {x : Ann} {k0 : Nat} {keep : List Nat} (h : cutP P nt c x (AnnOk P nt c x)) : AnnOk P nt (.loop c) (.at k0 keep (.loop x)) := ⟨h, fun G e => by cases e⟩

/-! ### A function read in several ways -/
def altF {A : Type} (d : List AV → List Obj → Option A) (v : A → (AV → List Obj → Ans) → Ans) (F : List AV → List Obj → (AV → List Obj → Ans) → Ans) : List AV → List Obj → (AV → List Obj → Ans) → Ans :=
  fun l H K => match d l H with
    | some a => v a K
    | none => F l H K
theorem func_altF {g : Nat} {A : Type} {d : List AV → List Obj → Option A} {v : A → (AV → List Obj → Ans) → Ans} {F : List AV → List Obj → (AV → List Obj → Ans) → Ans}
    (h1 : FuncOk P g (fun l H K => bindO (d l H) fun a => v a K)) (h2 : FuncOk P g F) : FuncOk P g (altF d v F) := func_alt' h1 h2
def altP {A : Type} (d : List AV → Option A) (v : A → (AV → Ans) → Ans) (F : List AV → (AV → Ans) → Ans) : List AV → (AV → Ans) → Ans :=
  fun l K => match d l with
    | some a => v a K
    | none => F l K
theorem pure_altP {g : Nat} {A : Type} {d : List AV → Option A} {v : A → (AV → Ans) → Ans} {F : List AV → (AV → Ans) → Ans}
    (h1 : PureOk P g (fun l K => bindO (d l) fun a => v a K)) (h2 : PureOk P g F) : PureOk P g (altP d v F) := by
  refine ⟨h1.1, fun C args us K res hh hH hv h => ?_⟩
  unfold altP at h
  split at h
  · rename_i a ha
    exact h1.2 C args us K res hh hH hv (by dsimp only; rw [ha]; exact h)
  · exact h2.2 C args us K res hh hH hv h
theorem envOk_sub {E' : Env} (h : ∀ g sp, Env.get E g = some sp → SpecOk P g sp) : EnvOk P E := h
end Go.AE
namespace Go.AE

/-- A loop whose state keeps to something, by rounds. -/
theorem loopD_inv {V Y : Type} {f : V → Option (V ⊕ Y)} (Inv : Nat → V → Prop) (N : Nat) (Q : Y → Prop)
    (h : ∀ j v, Inv j v → (∃ v', f v = some (.inl v') ∧ j < N ∧ Inv (j + 1) v') ∨ ∃ y, f v = some (.inr y) ∧ Q y) {v : V} (h0 : Inv 0 v) (hN : N ≤ 18446744073709551000) :
    ∃ y, loopD f FUEL v = some y ∧ Q y := by
  have key : ∀ d j v, j + d = N → Inv j v → ∃ y, loopD f (d + 1) v = some y ∧ Q y := by
    intro d
    induction d with
    | zero =>
      intro j v hj hi
      rcases h j v hi with ⟨v', _, hlt, _⟩ | ⟨y, hf, hq⟩
      · omega
      · exact ⟨y, by rw [loopD, hf]; rfl, hq⟩
    | succ d ih =>
      intro j v hj hi
      rcases h j v hi with ⟨v', hf, hlt, hi'⟩ | ⟨y, hf, hq⟩
      · obtain ⟨y, hy, hq⟩ := ih (j + 1) v' (by omega) hi'
        exact ⟨y, by rw [loopD, hf]; exact hy, hq⟩
      · exact ⟨y, by rw [loopD, hf]; rfl, hq⟩
  obtain ⟨y, hy, hq⟩ := key N 0 v (by omega) h0
  exact ⟨y, loopD_more _ _ v y (by unfold FUEL; omega) hy, hq⟩

/-- A loop that goes through a list by its index: each round tells the next state, or an exit. -/
theorem loopD_each {α σ Y V : Type} {f : V → Option (V ⊕ Y)} (l : List α) (enc : Nat → σ → V) (Inv : Nat → σ → Prop) (Q : Y → Prop)
    (hs : ∀ j x s, l[j]? = some x → j < l.length → Inv j s → (∃ s', f (enc j s) = some (.inl (enc (j + 1) s')) ∧ Inv (j + 1) s') ∨ ∃ y, f (enc j s) = some (.inr y) ∧ Q y)
    (he : ∀ s, Inv l.length s → ∃ y, f (enc l.length s) = some (.inr y) ∧ Q y) {s0 : σ} (h0 : Inv 0 s0) (hl : l.length ≤ 18446744073709551000) :
    ∃ y, loopD f FUEL (enc 0 s0) = some y ∧ Q y := by
  refine loopD_inv (fun j v => j ≤ l.length ∧ ∃ s, v = enc j s ∧ Inv j s) l.length Q ?_ ⟨Nat.zero_le _, s0, rfl, h0⟩ hl
  rintro j v ⟨hj, s, rfl, hi⟩
  by_cases hlt : j < l.length
  · rcases hs j l[j] s (List.getElem?_eq_getElem hlt) hlt hi with ⟨s', h1, h2⟩ | h
    · exact .inl ⟨_, h1, hlt, hlt, s', rfl, h2⟩
    · exact .inr h
  · obtain rfl : j = l.length := by omega
    exact .inr (he s hi)

theorem wrap64_self {x : Int} (h : -9223372036854775808 ≤ x ∧ x ≤ 9223372036854775807) : IntKind.wrap .i64 x = x := wrap64 h.1 h.2
theorem wrap64_nat {n : Nat} (h : n < 9223372036854775807) : IntKind.wrap .i64 ((n : Int) + 1) = ((n + 1 : Nat) : Int) := by rw [wrap64 (by omega) (by omega)]; rfl
theorem ble_true {a b : Nat} (h : a ≤ b) : Nat.ble a b = true := Nat.ble_eq_true_of_le h
theorem dec_true {p : Prop} [Decidable p] (h : p) : decide p = true := decide_eq_true h
theorem dec_false {p : Prop} [Decidable p] (h : ¬ p) : decide p = false := decide_eq_false h
theorem inR_true {i : Int} {n : Nat} (h : 0 ≤ i ∧ i < (n : Int)) : inR i n = true := by simp [inR, h]
theorem inR_false {i : Int} {n : Nat} (h : ¬ (0 ≤ i ∧ i < (n : Int))) : inR i n = false := by
  unfold inR
  by_cases h1 : 0 ≤ i
  · have : ¬ i < (n : Int) := fun h2 => h ⟨h1, h2⟩
    simp [this]
  · simp [h1]
theorem nth_of {α : Type} {l : List α} {j : Nat} {x : α} (h : l[j]? = some x) : nth l (j : Int) = some x := by rw [nth_nat, h]
theorem ibeq (a b : Int) : (a == b) = decide (a = b) := rfl
theorem ibne (a b : Int) : (a != b) = !decide (a = b) := rfl
theorem cond_if {α : Type} (p : Prop) [Decidable p] (a b : α) : (bif !decide p then some a else some b) = some (if p then b else a) := by
  by_cases h : p
  · rw [dec_true h, if_pos h]; rfl
  · rw [dec_false h, if_neg h]; rfl
end Go.AE
namespace Go.AE
open Go.RowKit (Below)
variable {P : Program}

theorem vrels1 {C : Cx} {a : AV} {l : List Value} (h : VRels C [a] l) : ∃ v, l = [v] ∧ VRel C a v := by
  rw [VRels] at h
  obtain ⟨v, vs, rfl, hv, h⟩ := h
  rw [VRels] at h
  subst h
  exact ⟨v, rfl, hv⟩
theorem vrels2 {C : Cx} {a b : AV} {l : List Value} (h : VRels C [a, b] l) : ∃ v u, l = [v, u] ∧ VRel C a v ∧ VRel C b u := by
  rw [VRels] at h
  obtain ⟨v, vs, rfl, hv, h⟩ := h
  obtain ⟨u, rfl, hu⟩ := vrels1 h
  exact ⟨v, u, rfl, hv, hu⟩
theorem arr_of_list {us : Array Value} {l : List Value} (h : us.toList = l) : us = l.toArray := by
  cases us; simp at h; subst h; rfl

theorem entered_of {g : Nat} {fn : Func} (hf : P.funcs[g]? = some fn) (hb : fn.body.isSome = true) (hn : fn.name ≠ "runtime.NumGoroutine") : Entered P g := ⟨fn, hf, hb, hn⟩

/-- A function that only reads, by a contract. -/
theorem pure_prim {g : Nat} (he : Entered P g) {A Y : Type} {dec : List AV → Option A} {f : A → Option Y} {rend : A → Y → AV} (hcl : ∀ a y, (rend a y).closed1 = true)
    (h : ∀ (C : Cx) (l : List AV) (us : Array Value) (a : A) (y : Y), dec l = some a → f a = some y → VRels C l us.toList → ∀ W : World, Calls P g us W fun e w' => e = .returned (concl (rend a y)) ∧ Below W.heap.size W w') :
    PureOk P g (fun l K => bindO (dec l) fun a => bindO (f a) fun y => K (rend a y)) := by
  refine ⟨he, fun C args us K res hh hH hargs hF => ?_⟩
  obtain ⟨a, ha, hF⟩ := bindO_some' hF
  obtain ⟨y, hy, hF⟩ := bindO_some' hF
  exact ⟨rend a y, concl (rend a y), hF, fun C' => (closed1_eq (hcl a y)).2 rfl, fun W _ => h C args us a y ha hy hargs W⟩

/-! ### strings.Repeat -/
abbrev Astrings_Repeat := List UInt8 × Int
abbrev Ystrings_Repeat := List UInt8
def decAstrings_Repeat (l : List AV) : Option Astrings_Repeat := match l with
  | [AV.str a0, AV.int IntKind.i64 a1] => some (a0, a1)
  | _ => none
theorem decAstrings_Repeat_ok (l : List AV) (a : Astrings_Repeat) (h : decAstrings_Repeat l = some a) : l = [AV.str a.1, AV.int IntKind.i64 a.2] := by
  unfold decAstrings_Repeat at h
  split at h
  · cases h; rfl
  · cases h
def fnDstrings_Repeat (a : Astrings_Repeat) : Option Ystrings_Repeat := cond (decide (0 ≤ a.2) && decide (a.2 ≤ 9223372036854775807) && Nat.ble (a.1.length * a.2.toNat) 140737488355328) (some (Lib.repeatL a.1 a.2.toNat)) none
def rendstrings_Repeat : Astrings_Repeat → Ystrings_Repeat → AV := fun _ y => .str y
def vFstrings_Repeat (a : Astrings_Repeat) (K : AV → Ans) : Ans := bindO (fnDstrings_Repeat a) fun y => K (rendstrings_Repeat a y)
def Fstrings_Repeat : List AV → (AV → Ans) → Ans := fun l K => bindO (decAstrings_Repeat l) fun a => vFstrings_Repeat a K
theorem Fstrings_Repeat_of {g : Nat} (he : Entered P g)
    (hc : ∀ (s : ByteArray) (c : Nat) (w : World), c ≤ 9223372036854775807 → s.size * c ≤ 140737488355328 →
      Calls P g #[.string s, .int .i64 c] w fun e w' => e = .returned (.string ⟨(Lib.repeatL s.data.toList c).toArray⟩) ∧ Below w.heap.size w w') : PureOk P g Fstrings_Repeat := by
  refine pure_prim (rend := rendstrings_Repeat) he (fun _ _ => rfl) ?_
  rintro C l us ⟨s, c⟩ y hd hf hv W
  have := decAstrings_Repeat_ok l _ hd
  subst this
  obtain ⟨v, u, hl, h1, h2⟩ := vrels2 hv
  have h1 : v = .string ⟨s.toArray⟩ := by simpa only [VRel] using h1
  have h2 : u = .int .i64 c := by simpa only [VRel] using h2
  subst h1 h2
  rw [arr_of_list hl]
  unfold fnDstrings_Repeat at hf
  replace hf := cond_noneO hf
  obtain ⟨hg, hf⟩ := hf
  cases hf
  simp only [Bool.and_eq_true, decide_eq_true_eq] at hg
  obtain ⟨⟨g1, g2⟩, g3⟩ := hg
  have g3 := Nat.le_of_ble_eq_true g3
  have e : ((c.toNat : Nat) : Int) = c := by omega
  have := hc ⟨s.toArray⟩ c.toNat W (by omega) (by simpa [ByteArray.size] using g3)
  rw [e] at this
  simpa [rendstrings_Repeat, concl, conc0] using this
end Go.AE

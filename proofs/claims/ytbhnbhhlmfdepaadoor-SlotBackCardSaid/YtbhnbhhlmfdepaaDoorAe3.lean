/- The abstract evaluator AE, proved: part 3. -/
import Derived.Test.YtbhnbhhlmfdepaaDoorAe2
import Derived.WalkKit
import Derived.ProofKit
import Derived.ShutString
import Derived.ChangeOld
import Derived.SizedLaws
import Derived.Carry
import Derived.Lib.Repeat
set_option linter.unusedVariables false
set_option linter.unusedSimpArgs false
namespace Go.AE
open Go.RowKit (Below)
open Go.ChangeShapes Go.WideShapes Go.RowKit
variable {P : Program} {T : Tab} {E : Env} {hint : Hint}

/-- The arguments' types and values. -/
def TysT : List Ty → Type
  | [] => Unit
  | y :: r => y.T × TysT r
def TysEnc : (l : List Ty) → TysT l → List AV
  | [], _ => []
  | y :: r, x => AE.enc y x.1 :: TysEnc r x.2
def TysWf : (l : List Ty) → TysT l → Prop
  | [], _ => True
  | y :: r, x => y.wf x.1 ∧ TysWf r x.2
def Ty.argOk : Ty → Bool
  | .unit => false
  | .pair _ _ => false
  | _ => true
def fits (T : Tab) : List Ty → List Nat → Bool
  | [], [] => true
  | y :: r, t :: ts => y.argOk && fit T 100 y t && fits T r ts
  | _, _ => false

section
variable {H : Type} {enc : TypeId × Value → H} {W : World}

theorem enc_rel [BT] {ρ : Nat → Option Nat} {Hs : List Obj} (hT : TabOk P T) {y : Ty} {t : Nat} {v : Value} {d : DataW H} {p : List MemPlace} {r : Reach} {b0 base : Nat} {spare : Nat → Bool} {held : Bool} {n : Nat}
    (hu : y.argOk = true) (h : fit T n y t = true)
    (hval : Value.okWide P W r b0 t v) (hd : DataW.Trod enc P W base spare held t v d p) : ∃ x : y.T, VRel ⟨Whole W, ρ, Hs, W⟩ (AE.enc y x) v ∧ y.wf x := by
  obtain ⟨m, hm⟩ := hd
  obtain ⟨x, hx, hw⟩ := open_fit hT n y t m _ _ h hm
  refine ⟨x, ?_, hw⟩
  cases n with
  | zero => cases h
  | succ n =>
    rw [fit] at h
    split at h
    · cases h
    · rename_i i hi
      obtain ⟨dd, info, z, hok⟩ := hT t i hi
      simp only [Bool.and_eq_true] at h
      obtain ⟨hszb, h⟩ := h
      have hk := hok.kind
      split at h
      · rename_i k hkk
        split at h
        · rename_i k' hk'
          split at h
          · rename_i e _
            subst e
            obtain ⟨q, rfl⟩ := okWide_int (hok.under.trans (by rw [kindOf_desc hok hk'])) hval
            rw [DRel] at hx
            simp [Value.cells] at hx
            obtain ⟨_, rfl⟩ := hx
            rw [AE.enc, VRel]
          · cases h
        · cases h
      · rename_i hkk
        split at h
        · rename_i b hz
          rw [hkk] at hk
          simp only [kindOk, hz] at hk
          have hd : dd = .bool := by cases dd <;> simp_all [scDesc]
          obtain ⟨q, rfl⟩ := okWide_bool (hok.under.trans (by rw [hd])) hval
          rw [DRel] at hx
          simp [Value.cells] at hx
          subst hx
          rw [AE.enc, VRel]
        · cases h
      · rename_i hkk
        obtain ⟨q, rfl⟩ := okWide_string (hok.under.trans (by rw [isStr_desc hok hkk h])) hval
        rw [DRel] at hx
        simp [Value.cells] at hx
        subst hx
        rw [AE.enc, VRel]
      · rename_i e e' hkk
        rw [hkk] at hk
        obtain ⟨rfl, _⟩ := hk
        obtain ⟨a, len, cap, rfl⟩ := okWide_slice hok.under hval
        rw [AE.enc, VRel]
        exact hx
      · rename_i f fs hkk
        rw [hkk] at hk
        obtain ⟨fields, rfl, _⟩ := hk
        obtain ⟨cs, rfl, _⟩ := okWide_struct hok.under hval
        rw [AE.enc, VRel]
        rw [DRel] at hx
        exact ⟨cs, rfl, hx.cells⟩
      · rename_i f q e hkk
        rw [hkk] at hk
        simp only [kindOk] at hk
        subst hk
        have : ∃ cs, v = .agg cs := by
          unfold Value.okWide at hval
          rw [hok.under] at hval
          obtain ⟨cs, rfl, _⟩ := hval
          exact ⟨cs, rfl⟩
        obtain ⟨cs, rfl⟩ := this
        rw [AE.enc, VRel]
        rw [DRel] at hx
        exact ⟨cs, rfl, hx.cells⟩
      · cases h

theorem encs_rel [BT] {ρ : Nat → Option Nat} {Hs : List Obj} (hT : TabOk P T) {r : Reach} {b0 base : Nat} {spare : Nat → Bool} {held : Bool} : ∀ {ys : List Ty} {ts : List TypeId} {vs : List Value} {ds : List (DataW H)} {p : List MemPlace},
    fits T ys ts = true → (∀ (j : Nat) t v, ts[j]? = some t → vs[j]? = some v → Value.okWide P W r b0 t v) → DataW.TrodAll enc P W base spare held ts vs ds p →
    ∃ x : TysT ys, VRels ⟨Whole W, ρ, Hs, W⟩ (TysEnc ys x) vs ∧ TysWf ys x
  | [], [], vs, ds, p, _, _, h => by
    obtain ⟨rfl, _, _⟩ := trodAll_nil h
    exact ⟨(), (by show VRels _ [] [] ; rw [VRels]), trivial⟩
  | y :: ys, t :: ts, vs, ds, p, hf, hval, h => by
    obtain ⟨v, vs', d, ds', p, q, rfl, rfl, rfl, h1, h2⟩ := trodAll_cons h
    rw [fits] at hf
    simp only [Bool.and_eq_true] at hf
    obtain ⟨x, hx, hw⟩ := enc_rel (ρ := ρ) (Hs := Hs) hT hf.1.1 hf.1.2 (hval 0 t v rfl rfl) h1
    obtain ⟨x', hx', hw'⟩ := encs_rel (ρ := ρ) (Hs := Hs) hT hf.2 (fun j t v ht hv => hval (j + 1) t v (by simpa using ht) (by simpa using hv)) h2
    exact ⟨(x, x'), (by show VRels _ (AE.enc y x :: TysEnc ys x') _; rw [VRels]; exact ⟨v, vs', rfl, hx, hx'⟩), hw, hw'⟩
  | [], _ :: _, _, _, _, hf, _, _ => by cases hf
  | _ :: _, [], _, _, _, hf, _, _ => by cases hf

theorem trodAll_back (hl : laidOutB P = true) {W' : World} (hb : Below W.heap.size W W') : ∀ {ts : List TypeId} {vs : List Value} {ds : List (DataW H)} {p : List MemPlace},
    ts.all (fun t => P.readableRec t && decide (t < P.types.size)) = true → DataW.TrodAll enc P W 0 (fun _ => true) true ts vs ds p →
    DataW.TrodAll enc P W' 0 (fun b => decide (b < W.heap.size)) true ts vs ds p
  | [], vs, ds, p, _, h => by
    obtain ⟨rfl, rfl, rfl⟩ := trodAll_nil h
    rfl
  | t :: ts, vs, ds, p, hr, h => by
    obtain ⟨v, vs', d, ds', p, q, rfl, rfl, rfl, h1, h2⟩ := trodAll_cons h
    simp only [List.all_cons, Bool.and_eq_true, decide_eq_true_eq] at hr
    have hlt : ∀ x ∈ p, x.block < W.heap.size := by
      obtain ⟨m, hm⟩ := h1
      exact DataW.trod_lt m _ _ _ hm
    exact ⟨p, q, Below.trod hl hr.1.1 hr.1.2 h1 hb hlt, trodAll_back hl hb (by simpa using hr.2) h2, rfl⟩
end

theorem TrodAll.length {H : Type} {enc : TypeId × Value → H} {W : World} {base : Nat} {spare : Nat → Bool} {held : Bool} : ∀ {ts : List TypeId} {vs : List Value} {ds : List (DataW H)} {p : List MemPlace}, DataW.TrodAll enc P W base spare held ts vs ds p → ds.length = ts.length
  | [], vs, ds, p, h => by obtain ⟨rfl, rfl, rfl⟩ := trodAll_nil h; rfl
  | t :: ts, vs, ds, p, h => by
    obtain ⟨v, vs', d, ds', p, q, rfl, rfl, rfl, h1, h2⟩ := trodAll_cons h
    simp [TrodAll.length h2]

/-- The empty heap of a call whose arguments are read only. -/
def Cx.start (W : World) : Cx := ⟨Whole W, fun _ => none, [], W⟩
theorem start_heap [BT] (W : World) : HRel (Cx.start W) := ⟨fun _ => trivial, fun _ _ _ h => absurd rfl h, fun _ _ h => absurd rfl h, fun _ h => h⟩
def Fr.start (W : World) : Fr := ⟨W, fun _ => False, Whole W⟩
theorem start_frame (W : World) : FrameOk (Fr.start W) (Cx.start W) :=
  ⟨rfl, rfl, rfl, Nat.le_refl _, fun _ _ _ => rfl, fun _ h => h, fun _ h => .inl h, fun _ _ h => absurd rfl h⟩
theorem frame_below {W : World} {C : Cx} (h : FrameOk (Fr.start W) C) : Below W.heap.size W C.w :=
  ⟨h.os, h.tape, h.output, h.size, fun k hk => h.keep k hk fun h => h⟩

/-- A law's contract: where AE finds true at every input. -/
theorem law_contract [BT] (hm : P.follows .mixedOrders = true) (hT : TabOk P T) (hE : EnvOk P E) (laid : laidOutB P = true) {g : Nat} {fn : Func} {c : Code} (hf : P.funcs[g]? = some fn) (hb : fn.body = some c)
    (hread : fn.params.toList.all (fun t => P.readableRec t && decide (t < P.types.size)) = true) {tb : TypeId} (hres : fn.resultTypes = #[tb]) (htb : P.underlying tb = some .bool)
    {ys : List Ty} (hfit : fits T ys fn.params.toList = true) {d : Nat} {ann : Ann} (hann : AnnOk P fn.ntmps c ann)
    (hev : ∀ x : TysT ys, TysWf ys x → ∃ n H', fnE T E hint d n g fn.ntmps fn.results.toList ann c (TysEnc ys x) [] (fun v H => some (v, H)) = some (.bool true, H'))
    {s : ChangeSpec} (hvars : s.vars = []) {H : Type} (hfn : ∀ ds : List (DataW H), ds.length = fn.params.size → s.fn H ds = { results := [.lit (.bool true)], args := ds })
    {enc : TypeId × Value → H} {W : World} {base : Nat} {args : Array Value} {ds gs : List (DataW H)} {before : List MemPlace}
    (hval : ∀ (j : Nat) t v, fn.params[j]? = some t → args[j]? = some v → Value.okWide P W .any base t v)
    (hW : DataW.Whole enc P fn.params.toList s.vars false W args.toList ds gs before) :
    Calls P g args W fun e W' => ∃ v, e = .returned v ∧ s.post enc P fn false true false false W args v W' := by
  have hW' := hW
  obtain ⟨p, q, hA, hV, rfl, hfz, hnd⟩ := hW
  rw [hvars] at hV
  obtain ⟨rfl, rfl⟩ := trodVars_none hV
  obtain ⟨x, hx, hw⟩ := encs_rel (ρ := fun _ => none) (Hs := []) hT hfit (fun j t v ht hv => hval j t v (by simpa using ht) (by simpa using hv)) hA
  obtain ⟨n, H', hn⟩ := hev x hw
  refine (fnE_sound (hint := hint) hm hT hE (C := Cx.start W) (start_heap W) (start_frame W) hf hb hx hann hn).mono ?_
  rintro e W' hw'
  cases e with
  | returned v =>
    obtain ⟨r, C', hK, rfl, _, hF, hv, _⟩ := hw'
    cases hK
    rw [VRel] at hv
    subst hv
    have bel := frame_below hF
    have hlen : (ds ++ []).length = fn.params.size := by rw [List.append_nil, TrodAll.length hA, Array.length_toList]
    refine ⟨_, rfl, ds, [], p ++ [], [], p, [], hW', ?_, ?_, ?_, bel.frame _, fun h => by cases h⟩
    · rw [hfn _ hlen, hres]
      exact trodAll_mk1 (shut_bool htb _)
    · rw [hfn _ hlen, List.append_nil]
      exact trodAll_back laid bel hread hA
    · rw [hvars]
      have : (s.fn H (ds ++ [])).vars = [] := by rw [hfn _ hlen]
      rw [this]
      rfl
  | panicked ch => exact hw'.elim
  | outgrown => exact hw'.elim
end Go.AE
namespace Go.AE
variable {P : Program} {T : Tab}

def valB : AV → Value → Bool
  | .bool a, .bool b => match a, b with
    | true, true => true
    | false, false => true
    | _, _ => false
  | .int k n, .int k' m => match decEq k k' with
    | isTrue _ => match decEq n m with
      | isTrue _ => true
      | isFalse _ => false
    | isFalse _ => false
  | .str [], .string b => match b.data.toList with
    | [] => true
    | _ => false
  | .nilp, .pointer none => true
  | .nils, .slice none 0 0 => true
  | .nilm, .map none => true
  | .nilf, .nilFunc => true
  | .nili, .nilIface => true
  | _, _ => false
def valsB : List AV → List Value → Bool
  | [], [] => true
  | a :: r, v :: s => valB a v && valsB r s
  | _, _ => false
theorem valB_eq {a : AV} {v : Value} (h : valB a v = true) : v = conc0 a ∧ a.isZero = true := by
  unfold valB at h
  split at h
  · rename_i x y
    cases x <;> cases y <;> first | exact ⟨rfl, rfl⟩ | cases h
  · split at h
    · rename_i e _
      split at h
      · rename_i e' _
        subst e; subst e'
        exact ⟨rfl, rfl⟩
      · cases h
    · cases h
  · rename_i b
    split at h
    · rename_i e
      refine ⟨?_, rfl⟩
      show Value.string b = .string ⟨[].toArray⟩
      congr 1
      apply ByteArray.ext
      rw [← e]
    · cases h
  all_goals first | exact ⟨rfl, rfl⟩ | cases h
theorem valsB_eq : ∀ {l : List AV} {vs : List Value}, valsB l vs = true → vs = l.map conc0 ∧ l.all AV.isZero = true
  | [], [], _ => ⟨rfl, rfl⟩
  | a :: r, v :: s, h => by
    rw [valsB, Bool.and_eq_true] at h
    obtain ⟨h1, h2⟩ := h
    obtain ⟨rfl, hz⟩ := valB_eq h1
    obtain ⟨rfl, hr⟩ := valsB_eq h2
    exact ⟨rfl, by simp [hz, hr]⟩
  | [], _ :: _, h => by cases h
  | _ :: _, [], h => by cases h

def fieldsB : List (Nat × Nat) → List Field → Bool
  | [], [] => true
  | (t, o) :: r, f :: s => Nat.beq f.type t && Nat.beq f.offset o && (f.name != "_") && fieldsB r s
  | _, _ => false
theorem fieldsB_eq : ∀ {fs : List (Nat × Nat)} {l : List Field}, fieldsB fs l = true → l.map (fun f => (f.type, f.offset)) = fs ∧ l.all (fun f => f.name != "_") = true
  | [], [], _ => ⟨rfl, rfl⟩
  | (t, o) :: r, f :: s, h => by
    rw [fieldsB] at h
    simp only [Bool.and_eq_true] at h
    obtain ⟨⟨⟨h1, h2⟩, h3⟩, h4⟩ := h
    obtain ⟨e, hr⟩ := fieldsB_eq h4
    have h1 := Nat.eq_of_beq_eq_true h1
    have h2 := Nat.eq_of_beq_eq_true h2
    exact ⟨by simp [e, h1, h2], by rw [List.all_cons, h3, hr]; rfl⟩
  | [], _ :: _, h => by cases h
  | _ :: _, [], h => by cases h

def kindB (zero : List AV) : TK → TypeDesc → Bool
  | .sc, d => scDesc zero d
  | .ptr e, .pointer e' => Nat.beq e e' && (match zero with | [.nilp] => true | _ => false)
  | .slice e, .slice e' => Nat.beq e e' && (match zero with | [.nils] => true | _ => false)
  | .array n e, .array n' e' => Nat.beq n n' && Nat.beq e e'
  | .map k e, .map k' e' => Nat.beq k k' && Nat.beq e e' && (match zero with | [.nilm] => true | _ => false)
  | .struct fs, .struct fields => fieldsB fs fields.toList
  | _, _ => false
theorem kindB_ok {zero : List AV} {k : TK} {d : TypeDesc} (h : kindB zero k d = true) : kindOk zero k d := by
  unfold kindB at h
  split at h
  · exact h
  · simp only [Bool.and_eq_true] at h
    obtain ⟨h1, h2⟩ := h
    rw [kindOk, Nat.eq_of_beq_eq_true h1]
    split at h2
    · exact ⟨rfl, rfl⟩
    · cases h2
  · simp only [Bool.and_eq_true] at h
    obtain ⟨h1, h2⟩ := h
    rw [kindOk, Nat.eq_of_beq_eq_true h1]
    split at h2
    · exact ⟨rfl, rfl⟩
    · cases h2
  · simp only [Bool.and_eq_true] at h
    rw [kindOk, Nat.eq_of_beq_eq_true h.1, Nat.eq_of_beq_eq_true h.2]
  · simp only [Bool.and_eq_true] at h
    obtain ⟨⟨h1, h2⟩, h3⟩ := h
    rw [kindOk, Nat.eq_of_beq_eq_true h1, Nat.eq_of_beq_eq_true h2]
    split at h3
    · exact ⟨rfl, rfl⟩
    · cases h3
  · rename_i fs fields
    obtain ⟨h1, h2⟩ := fieldsB_eq h
    exact ⟨fields, rfl, h1, h2⟩
  · cases h

def boolEq : Bool → Bool → Bool
  | true, true => true
  | false, false => true
  | _, _ => false
theorem boolEq_eq {a b : Bool} (h : boolEq a b = true) : a = b := by cases a <;> cases b <;> first | rfl | cases h

def tyB (i : TI) : Bool :=
  match i.ty with
  | none => true
  | some y => Nat.beq y.size i.size && boolEq y.isSt i.isAgg && !isUnit y

def byteB [BT] (t : Nat) (i : TI) : Bool :=
  match i.ty with
  | some (.int .u8) => Nat.beq t BT.byte
  | _ => true
theorem byteB_eq [BT] {t : Nat} {i : TI} (h : byteB t i = true) (e : i.ty = some (.int .u8)) : t = BT.byte := by
  unfold byteB at h
  rw [e] at h
  exact Nat.eq_of_beq_eq_true h
def entryB [BT] (P : Program) (t : Nat) (i : TI) : Bool :=
  match P.underlying t, P.info? t with
  | some d, some info => (match info.zero with
    | some z => Nat.beq info.size i.size && Nat.beq info.bytes i.bytes && valsB i.zero z.cells.toList && Nat.beq i.zero.length i.size && kindB i.zero i.k d &&
        cond i.isAgg (!P.stoodInHeld t && !P.eqGuardType P.depth t) (Nat.beq i.size 1 && plainV z) && tyB i && byteB t i
    | none => false)
  | _, _ => false

theorem entryB_ok [BT] {t : Nat} {i : TI} (h : entryB P t i = true) : ∃ d info z, TIok P t i d info z := by
  unfold entryB at h
  split at h
  · rename_i d info hd hinfo
    split at h
    · rename_i z hz
      simp only [Bool.and_eq_true] at h
      obtain ⟨⟨⟨⟨⟨⟨⟨h1, h2⟩, h3⟩, h4⟩, h5⟩, h6⟩, h7⟩, h8⟩ := h
      obtain ⟨hv, hall⟩ := valsB_eq h3
      refine ⟨d, info, z, hd, hinfo, Nat.eq_of_beq_eq_true h1, Nat.eq_of_beq_eq_true h2, hz, hv, hall, Nat.eq_of_beq_eq_true h4, kindB_ok h5, ?_, byteB_eq h8, ?_, ?_, ?_⟩
      · intro ha
        rw [ha, cond_false, Bool.and_eq_true] at h6
        exact Nat.eq_of_beq_eq_true h6.1
      · intro y hy
        unfold tyB at h7
        rw [hy] at h7
        simp only [Bool.and_eq_true, Bool.not_eq_true'] at h7
        refine ⟨Nat.eq_of_beq_eq_true h7.1.1, boolEq_eq h7.1.2, ?_⟩
        intro e
        rw [e] at h7
        exact absurd h7.2 (by simp [isUnit])
      · intro ha
        rw [ha, cond_true] at h6
        simpa using h6
      · intro ha
        rw [ha, cond_false, Bool.and_eq_true] at h6
        exact h6.2
    · cases h
  · cases h

def tabB [BT] (P : Program) : Tab → Bool
  | [] => true
  | (t, i) :: r => entryB P t i && tabB P r
theorem tabOk_of_check [BT] : ∀ {T : Tab}, tabB P T = true → TabOk P T
  | [], _ => fun t i h => by cases h
  | (t, i) :: r, h => fun t' i' h' => by
    rw [tabB, Bool.and_eq_true] at h
    rw [Tab.get] at h'
    cases hb : Nat.beq t t' with
    | true =>
      rw [hb, cond_true] at h'
      cases h'
      rw [← Nat.eq_of_beq_eq_true hb]
      exact entryB_ok h.1
    | false =>
      rw [hb, cond_false] at h'
      exact tabOk_of_check h.2 t' i' h'

theorem EnvOk.nil [BT] : EnvOk P [] := fun g sp h => by cases h
theorem EnvOk.cons [BT] {g : Nat} {sp : FSpec} {E : Env} (h : SpecOk P g sp) (hE : EnvOk P E) : EnvOk P ((g, sp) :: E) := fun g' sp' h' => by
  rw [Env.get] at h'
  cases hb : Nat.beq g g' with
  | true =>
    rw [hb, cond_true] at h'
    cases h'
    rw [← Nat.eq_of_beq_eq_true hb]
    exact h
  | false =>
    rw [hb, cond_false] at h'
    exact hE g' sp' h'
end Go.AE
namespace Go.AE
variable {P : Program} {T : Tab} {E : Env} {hint : Hint}

/-- Arguments and heap. -/
def ah (a : List AV) (h : List Obj) : List AV × List Obj := (a, h)

/-- Rounds till an exit. -/
def iterK {X Y : Type} (step : X → (X → Ans) → (Y → Ans) → Ans) : Nat → X → (Y → Ans) → Ans
  | 0, _, _ => none
  | n + 1, x, k => step x (fun x' => iterK step n x' k) k

/-- A summary: the state is read, the answer is looked up, and told. -/
def sumG {I V Y : Type} (dec : St → Option (I × V)) (R : I → V → Option Y) (out : I → (Ex → St → Ans) → Y → Ans) : (Ex → St → Ans) → St → Ans :=
  fun K s => bindO (dec s) fun x => bindO (R x.1 x.2) fun y => out x.1 K y

theorem bindO_some' {α : Type} {o : Option α} {k : α → Ans} {r : AV × List Obj} (h : bindO o k = some r) : ∃ a, o = some a ∧ k a = some r := by
  cases o with
  | none => cases h
  | some a => exact ⟨a, rfl, h⟩

/-- Rounds whose states are told by their number. -/
theorem iterK_at {V Y : Type} {step : V → (V → Ans) → (Y → Ans) → Ans} (st : Nat → V) (N : Nat) (y : Y) (k : Y → Ans) (hs : ∀ j, j < N → ∀ next, step (st j) next k = next (st (j + 1)))
    (he : ∀ next, step (st N) next k = k y) : ∀ d j, j + d = N → iterK step (d + 1) (st j) k = k y
  | 0, j, h => by
    obtain rfl : j = N := by omega
    rw [iterK]; exact he _
  | d + 1, j, h => by
    rw [iterK, hs j (by omega)]
    exact iterK_at st N y k hs he d (j + 1) (by omega)
theorem iterK_up {V Y : Type} {step : V → (V → Ans) → (Y → Ans) → Ans} {v : V} {z : Y} (st : Nat → V) (N : Nat) (h0 : v = st 0) (hs : ∀ j, j < N → ∀ next (k : Y → Ans), step (st j) next k = next (st (j + 1)))
    (he : ∀ next (k : Y → Ans), step (st N) next k = k z) : ∃ n, ∀ k, iterK step n v k = k z :=
  ⟨N + 1, fun k => by rw [h0]; exact iterK_at st N z k (fun j h next => hs j h next k) (fun next => he next k) N 0 (by omega)⟩

theorem iterK_run {X Y : Type} {step : X → (X → Ans) → (Y → Ans) → Ans} {f : Nat → X → Ans} {k : Y → Ans} (h0 : ∀ x, f 0 x = none)
    (h : ∀ n x, f (n + 1) x = step x (fun x' => f n x') k) : ∀ n x, f n x = iterK step n x k
  | 0, x => h0 x
  | n + 1, x => by
    rw [h, iterK]
    congr 1
    funext x'
    exact iterK_run h0 h n x'

theorem lsum_iter [BT] (hm : P.follows .mixedOrders = true) (hT : TabOk P T) (hE : EnvOk P E) {nt d m : Nat} (keep : List Nat) {c : Code} {x : Ann} (hx : AnnOk P nt (.loop c) x)
    {I V Y : Type} {S : I → V → St} {dec : St → Option (I × V)} {step : I → V → (V → Ans) → (Y → Ans) → Ans} {R : I → V → Option Y} {out : I → (Ex → St → Ans) → Y → Ans}
    (hdec : ∀ s x, dec s = some x → s = S x.1 x.2)
    (hstep : ∀ n i v K, codeI T E hint (codeD T E hint d m) (n + 1) nt x (.loop c) (weak keep K) (S i v) =
      step i v (fun v' => codeI T E hint (codeD T E hint d m) n nt x (.loop c) (weak keep K) (S i v')) (fun z => out i K z))
    (hR : ∀ i v z, R i v = some z → ∃ n, ∀ k, iterK (step i) n v k = k z) : LSum P nt c (sumG dec R out) := by
  refine lsum_weak (hint := hint) (d := d) hm hT hE keep (x := x) hx ?_
  intro K s res h
  unfold sumG at h
  obtain ⟨⟨i, v⟩, hd, h⟩ := bindO_some' h
  obtain ⟨z, hr, h⟩ := bindO_some' h
  obtain ⟨n, hn⟩ := hR i v z hr
  refine ⟨m, n, ?_⟩
  rw [hdec s _ hd, iterK_run (step := step i) (f := fun n v => codeI T E hint (codeD T E hint d m) n nt x (.loop c) (weak keep K) (S i v)) (k := fun z => out i K z)
    (fun v => by rw [codeI]) (fun n v => hstep n i v K) n v, hn]
  exact h

theorem bodySome {f : Func} (hb : f.body.isSome = true) : f.body = some (f.body.getD .skip) := by
  cases h : f.body with
  | none => rw [h] at hb; cases hb
  | some c => rfl

/-- A function walked in place. -/
def inl (f : Func) : FSpec := .inline f.ntmps f.results.toList .none (f.body.getD .skip)
theorem specInl [BT] {g : Nat} {f : Func} (hf : P.funcs[g]? = some f) (hb : f.body.isSome = true) (hn : f.name ≠ "runtime.NumGoroutine") : SpecOk P g (inl f) := by
  refine ⟨f, hf, ?_, hn, rfl, rfl, annOk_none _ _ _⟩
  cases h : f.body with
  | none => rw [h] at hb; cases hb
  | some c => rfl

section
variable [BT] (hm : P.follows .mixedOrders = true) (hT : TabOk P T) (hE : EnvOk P E)
include hm hT hE
theorem pure_mk {g n : Nat} {fn : Func} {c : Code} (hf : P.funcs[g]? = some fn) (hb : fn.body = some c) (hn : fn.name ≠ "runtime.NumGoroutine") {d : Nat} {x : Ann} (hx : AnnOk P fn.ntmps c x)
    {A : Type} {dec : List AV → Option A} {argsOf : A → List AV} (hdec : ∀ l a, dec l = some a → l = argsOf a) {f v : A → (AV → Ans) → Ans}
    (hfn : ∀ a, fnE T E hint d n g fn.ntmps fn.results.toList x c (argsOf a) [] (fun v _ => some (v, [])) = f a (fun v => some (v, [])))
    (hv : ∀ a K res, v a K = some res → ∃ r, r.closed1 = true ∧ K r = some res ∧ f a (fun v => some (v, [])) = some (r, [])) :
    PureOk P g (fun l K => bindO (dec l) fun a => v a K) := by
  refine ⟨⟨fn, hf, by rw [hb]; rfl, hn⟩, fun C args us K res hh hH hargs hFp => ?_⟩
  obtain ⟨a, ha, hFp⟩ := bindO_some' hFp
  have hargsEq := hdec _ _ ha
  obtain ⟨r, hr, hK, hfa⟩ := hv a K res hFp
  subst hargsEq
  refine ⟨r, concl r, hK, fun C' => (closed1_eq hr).2 rfl, fun W hW => ?_⟩
  obtain ⟨hh', hat⟩ := at_pure hh hH hW
  have hargs' : VRels (C.at W) (argsOf a) us.toList := hat hargs
  let F : Fr := ⟨W, fun _ => False, C.R⟩
  have hF : FrameOk F (C.at W) := ⟨rfl, rfl, rfl, Nat.le_refl _, fun _ _ _ => rfl, fun _ h => h, fun _ h => .inl h, fun i b hl => by
    exact absurd (by show getH C.H i = .dead; rw [hH]; rfl) hl⟩
  have hn' : fnE T E hint d n g fn.ntmps fn.results.toList x c (argsOf a) (C.at W).H (fun v _ => some (v, [])) = some (r, []) := by
    show fnE T E hint d n g fn.ntmps fn.results.toList x c (argsOf a) C.H _ = _
    rw [hH, hfn a]; exact hfa
  refine (fnE_sound (hint := hint) hm hT hE hh' hF hf hb hargs' hx hn').mono ?_
  intro e w' hw'
  cases e with
  | returned v =>
    obtain ⟨r', C', hK', rfl, _, hF', hv, _⟩ := hw'
    cases hK'
    refine ⟨by rw [(closed1_eq hr).1 hv], ⟨hF'.os, hF'.tape, hF'.output, hF'.size, fun k hk => hF'.keep k hk fun h => h⟩⟩
  | panicked ch => exact hw'.elim
  | outgrown => exact hw'.elim

theorem func_mk {g n : Nat} {fn : Func} {c : Code} (hf : P.funcs[g]? = some fn) (hb : fn.body = some c) (hn : fn.name ≠ "runtime.NumGoroutine") {d : Nat} {x : Ann} (hx : AnnOk P fn.ntmps c x)
    {A : Type} {dec : List AV → List Obj → Option A} {argsOf : A → List AV × List Obj} (hdec : ∀ l H a, dec l H = some a → (l, H) = argsOf a) {f v : A → (AV → List Obj → Ans) → Ans}
    (hfn : ∀ a K, fnE T E hint d n g fn.ntmps fn.results.toList x c (argsOf a).1 (argsOf a).2 K = f a K)
    (hv : ∀ a K res, v a K = some res → f a K = some res) :
    FuncOk P g (fun l H K => bindO (dec l H) fun a => v a K) := by
  refine funcOk_of (hint := hint) (d := d) hm hT hE hf hb hn hx ?_
  intro args H K res h
  obtain ⟨a, ha, h⟩ := bindO_some' h
  have e := hdec _ _ _ ha
  refine ⟨n, ?_⟩
  have e1 : args = (argsOf a).1 := by rw [← e]
  have e2 : H = (argsOf a).2 := by rw [← e]
  rw [e1, e2, hfn]
  exact hv a K res h
end

/-- One of two readings of a call's arguments. -/
def altO {A B : Type} (x : Option A) (y : Option B) (f : A → Ans) (g : B → Ans) : Ans :=
  match x with
  | some a => f a
  | none => bindO y g
theorem func_alt [BT] {g : Nat} {A B : Type} {d1 : List AV → List Obj → Option A} {d2 : List AV → List Obj → Option B} {v1 : A → (AV → List Obj → Ans) → Ans} {v2 : B → (AV → List Obj → Ans) → Ans}
    (h1 : FuncOk P g (fun l H K => bindO (d1 l H) fun a => v1 a K)) (h2 : FuncOk P g (fun l H K => bindO (d2 l H) fun a => v2 a K)) :
    FuncOk P g (fun l H K => altO (d1 l H) (d2 l H) (fun a => v1 a K) (fun a => v2 a K)) := by
  refine ⟨h1.1, fun C args us K res Fr hh hF hv h => ?_⟩
  dsimp only at h
  unfold altO at h
  split at h
  · rename_i a ha
    exact h1.2 C args us K res Fr hh hF hv (by dsimp only; rw [ha]; exact h)
  · exact h2.2 C args us K res Fr hh hF hv h
theorem func_alt' [BT] {g : Nat} {A : Type} {d1 : List AV → List Obj → Option A} {v1 : A → (AV → List Obj → Ans) → Ans} {F2 : List AV → List Obj → (AV → List Obj → Ans) → Ans}
    (h1 : FuncOk P g (fun l H K => bindO (d1 l H) fun a => v1 a K)) (h2 : FuncOk P g F2) :
    FuncOk P g (fun l H K => match d1 l H with | some a => v1 a K | none => F2 l H K) := by
  refine ⟨h1.1, fun C args us K res Fr hh hF hv h => ?_⟩
  dsimp only at h
  split at h
  · rename_i a ha
    exact h1.2 C args us K res Fr hh hF hv (by dsimp only; rw [ha]; exact h)
  · exact h2.2 C args us K res Fr hh hF hv h
end Go.AE
namespace Go.AE
theorem wrap64 {x : Int} (h : -9223372036854775808 ≤ x) (h' : x ≤ 9223372036854775807) : IntKind.wrap .i64 x = x := by
  simp [IntKind.wrap, IntKind.bits, IntKind.signed]
  omega
/-- A loop that counts up and appends. -/
theorem count_up {Y α : Type} {step : Int × List α → (Int × List α → Ans) → (Y → Ans) → Ans} {M : Int} {g : Int → α} {w : Nat} {l : List α} {z : Y} (e : List α → Y) (hM : 0 ≤ M) (hM' : M ≤ 100000) (hw : w ≤ 1000) (hl : l.length ≤ 100000)
    (h : ∀ t l next (k : Y → Ans), step (t, l) next k = bif decide (t < M) then (bif Nat.ble ((l.length + 1) * w) 140737488355328 then next (IntKind.wrap .i64 (t + 1), l ++ [g t]) else none) else k (e l))
    (hz : e (l ++ (List.range M.toNat).map fun j : Nat => g j) = z) : ∃ n, ∀ k, iterK step n (0, l) k = k z := by
  refine iterK_up (fun j => ((j : Int), l ++ (List.range j).map fun j : Nat => g j)) M.toNat (by simp) ?_ ?_
  · intro j hj next k
    have hb : Nat.ble (((l ++ (List.range j).map fun j : Nat => g j).length + 1) * w) 140737488355328 = true := by
      apply Nat.ble_eq_true_of_le
      have : ((l ++ (List.range j).map fun j : Nat => g j).length + 1) * w ≤ 300000 * 1000 := Nat.mul_le_mul (by simp; omega) hw
      omega
    have hlt : (j : Int) < M := by omega
    rw [h, hb, wrap64 (by omega) (by omega)]
    simp only [hlt, decide_true, cond_true]
    congr 2
    rw [List.range_succ]
    simp
  · intro next k
    have hlt : ¬ ((M.toNat : Int) < M) := by omega
    rw [h]
    simp only [hlt, decide_false, cond_false, hz]

theorem nth_nat {α : Type} (l : List α) (j : Nat) : nth l (j : Int) = l[j]? := by
  unfold nth
  rw [if_pos (by omega), Int.toNat_natCast]

/-- A loop that looks through a list for the first that ends it. -/
theorem iterK_scan {Y α : Type} {step : Int → (Int → Ans) → (Y → Ans) → Ans} (l : List α) (p : α → Option Y) (z0 : Y)
    (h : ∀ (j : Nat) (x : α), l[j]? = some x → ∀ next (k : Y → Ans), step (j : Int) next k = match p x with | some y => k y | none => next ((j + 1 : Nat) : Int))
    (he : ∀ next (k : Y → Ans), step (l.length : Int) next k = k z0) : ∃ n, ∀ k, iterK step n 0 k = k ((l.findSome? p).getD z0) := by
  have key : ∀ (r : List α) (j : Nat), l.drop j = r → j ≤ l.length → ∀ k, iterK step (r.length + 1) (j : Int) k = k ((r.findSome? p).getD z0) := by
    intro r
    induction r with
    | nil =>
      intro j hj hjl k
      have hj1 : l.length ≤ j := List.drop_eq_nil_iff.1 hj
      obtain rfl : j = l.length := by omega
      rw [List.length_nil, iterK, he]
      rfl
    | cons x r ih =>
      intro j hj hjl k
      have hx : l[j]? = some x := by
        have : (l.drop j)[0]? = some x := by rw [hj]; rfl
        simpa using this
      have hr : l.drop (j + 1) = r := by rw [← List.tail_drop, hj]; rfl
      rw [List.length_cons, iterK, h j x hx]
      cases hp : p x with
      | some y => simp [hp]
      | none =>
        simp only
        rw [ih (j + 1) hr (List.getElem?_eq_some_iff.1 hx).1 k]
        simp [hp]
  exact ⟨l.length + 1, fun k => key l 0 rfl (Nat.zero_le _) k⟩

/-- A loop that folds a list. -/
theorem iterK_fold {Y α β : Type} {step : Int × β → (Int × β → Ans) → (Y → Ans) → Ans} (l : List α) (f : β → α → β) (b0 : β) (e : β → Y) (Inv : Nat → β → Prop) (h0 : Inv 0 b0)
    (hi : ∀ (j : Nat) (x : α) (b : β), l[j]? = some x → Inv j b → Inv (j + 1) (f b x))
    (h : ∀ (j : Nat) (x : α) (b : β), l[j]? = some x → Inv j b → ∀ next (k : Y → Ans), step ((j : Int), b) next k = next (((j + 1 : Nat) : Int), f b x))
    (he : ∀ (b : β), Inv l.length b → ∀ next (k : Y → Ans), step ((l.length : Int), b) next k = k (e b)) : ∃ n, ∀ k, iterK step n (0, b0) k = k (e (l.foldl f b0)) := by
  have inv : ∀ j, j ≤ l.length → Inv j ((l.take j).foldl f b0) := by
    intro j
    induction j with
    | zero => intro _; simpa using h0
    | succ j ih =>
      intro hj
      have hx : l[j]? = some l[j] := List.getElem?_eq_getElem (by omega)
      rw [List.take_succ_eq_append_getElem (by omega), List.foldl_append]
      exact hi j _ _ hx (ih (by omega))
  refine iterK_up (fun j => ((j : Int), (l.take j).foldl f b0)) l.length (by simp) ?_ ?_
  · intro j hj next k
    have hx : l[j]? = some l[j] := List.getElem?_eq_getElem hj
    rw [h j _ _ hx (inv j (by omega)), List.take_succ_eq_append_getElem hj, List.foldl_append]
    rfl
  · intro next k
    have := inv l.length (Nat.le_refl _)
    rw [List.take_length] at this ⊢
    exact he _ this next k
theorem foldl_inv {α β : Type} (f : β → α → β) (P : β → Prop) : ∀ (l : List α) (b : β), P b → (∀ b x, x ∈ l → P b → P (f b x)) → P (l.foldl f b)
  | [], _, h, _ => h
  | x :: r, b, h, hf => foldl_inv f P r (f b x) (hf b x (List.mem_cons_self ..) h) (fun b y hy => hf b y (List.mem_cons_of_mem _ hy))
end Go.AE
namespace Go.AE
open Go.RowKit (Below)
variable {P : Program} {T : Tab} {E : Env} {hint : Hint}

/-! ### Data out of ways -/
theorem bindO_none {α β : Type} (f : α → Option β) : bindO none f = none := rfl
theorem bindO_pure {α β : Type} (a : α) (f : α → Option β) : bindO (some a) f = f a := rfl
theorem bindO_cond {α β : Type} (c : Bool) (a b : Option α) (f : α → Option β) : bindO (cond c a b) f = cond c (bindO a f) (bindO b f) := by cases c <;> rfl
theorem bindO_assoc {α β γ : Type} (o : Option α) (g : α → Option β) (f : β → Option γ) : bindO (bindO o g) f = bindO o fun a => bindO (g a) f := by cases o <;> rfl
theorem bindO_elim {α β γ δ : Type} (g : α → Option γ) (h : β → Option γ) (y : α ⊕ β) (f : γ → Option δ) : bindO (Sum.elim g h y) f = Sum.elim (fun a => bindO (g a) f) (fun b => bindO (h b) f) y := by cases y <;> rfl

/-- A function of a pair's parts. -/
def unP {α β γ : Type} (f : α → β → γ) (x : α × β) : γ := f x.1 x.2
theorem bindO_unP {α β γ δ : Type} (f : α → β → Option γ) (y : α × β) (k : γ → Option δ) : bindO (unP f y) k = unP (fun a b => bindO (f a b) k) y := rfl
theorem unP_mk {α β γ : Type} (f : α → β → γ) (a : α) (b : β) : unP f (a, b) = f a b := rfl

/-- Rounds of a loop, as data. -/
def loopD {V Y : Type} (f : V → Option (V ⊕ Y)) : Nat → V → Option Y
  | 0, _ => none
  | n + 1, v => bindO (f v) (Sum.elim (fun v' => loopD f n v') some)
/-- More rounds than anything takes. -/
def FUEL : Nat := 18446744073709551616

theorem iterK_loopD {V Y : Type} {step : V → (V → Ans) → (Y → Ans) → Ans} {f : V → Option (V ⊕ Y)} (h : ∀ v next exit, step v next exit = bindO (f v) (Sum.elim next exit)) :
    ∀ (n : Nat) (v : V) (y : Y), loopD f n v = some y → ∀ k, iterK step n v k = k y
  | 0, v, y, he, _ => by cases he
  | n + 1, v, y, he, k => by
    rw [iterK, h]
    rw [loopD] at he
    cases hf : f v with
    | none => rw [hf] at he; cases he
    | some x =>
      rw [hf] at he
      cases x with
      | inl v' => exact iterK_loopD h n v' y he k
      | inr z => cases he; rfl

theorem loopD_more {V Y : Type} {f : V → Option (V ⊕ Y)} : ∀ (n m : Nat) (v : V) (y : Y), n ≤ m → loopD f n v = some y → loopD f m v = some y
  | 0, _, _, _, _, he => by cases he
  | n + 1, 0, _, _, hle, _ => by omega
  | n + 1, m + 1, v, y, hle, he => by
    rw [loopD] at he ⊢
    cases hf : f v with
    | none => rw [hf] at he; cases he
    | some x =>
      rw [hf] at he
      cases x with
      | inl v' => exact loopD_more n m v' y (by omega) he
      | inr z => exact he

def sumL {I V Y : Type} (dec : St → Option (I × V)) (f : I → V → Option (V ⊕ Y)) (out : I → (Ex → St → Ans) → Y → Ans) : (Ex → St → Ans) → St → Ans :=
  fun K s => bindO (dec s) fun x => bindO (loopD (f x.1) FUEL x.2) fun y => out x.1 K y
def sumN {I Y : Type} (dec : St → Option I) (f : I → Option Y) (out : I → (Ex → St → Ans) → Y → Ans) : (Ex → St → Ans) → St → Ans :=
  fun K s => bindO (dec s) fun x => bindO (f x) fun y => out x K y

/-- One of two summaries, by the frame. -/
def altN {α : Type} (dec : St → Option α) (G1 G2 : (Ex → St → Ans) → St → Ans) : (Ex → St → Ans) → St → Ans :=
  fun K s => match dec s with
    | some _ => G1 K s
    | none => G2 K s
theorem csum_altN [BT] {nt : Nat} {c : Code} {α : Type} {dec : St → Option α} {G1 G2 : (Ex → St → Ans) → St → Ans} (h1 : CSum P nt c G1) (h2 : CSum P nt c G2) : CSum P nt c (altN dec G1 G2) := by
  intro F K s C a stk res h hS hsz hd
  unfold altN at h
  split at h
  · exact h1 h hS hsz hd
  · exact h2 h hS hsz hd

/-! ### What stands behind a part is forgotten -/
def getX : List (Nat × List Nat) → Nat → List Nat
  | [], _ => []
  | (n, l) :: r, i => cond (Nat.beq n i) l (getX r i)
/-- Which temporaries are kept, by how a part is left. -/
def exk (n r : List Nat) (xs : List (Nat × List Nat)) : Ex → List Nat
  | .norm => n
  | .ret => r
  | .exit i => getX xs i
  | .goto _ => []
def weakP (k0 : Nat) (kp : Ex → List Nat) (K : Ex → St → Ans) : Ex → St → Ans :=
  fun e s => match e with
    | .norm => forceSt (s.head (kp .norm)) fun s => packSt k0 s fun s => K .norm s
    | .ret => forceSt (s.head (kp .ret)) fun s => packSt k0 s fun s => K .ret s
    | .exit i => forceSt (s.head (kp (.exit i))) fun s => packSt k0 s fun s => K (.exit i) s
    | .goto _ => none
def noHint : Hint := fun _ => []

theorem weakP_sound [BT] {F : Fr} {k0 : Nat} {kp : Ex → List Nat} {K : Ex → St → Ans} {stk : List (Array Value)} {nt : Nat} {res : AV × List Obj} {e : Exit} {a : Act} {w : World}
    (h : CPost F (weakP k0 kp K) stk nt res e a w) : CPost F K stk nt res e a w := by
  obtain ⟨e', s', C', he, hK, hw, hS', hsz', hd'⟩ := h
  have key : ∀ e'', forceSt (s'.head (kp e'')) (fun s => packSt k0 s fun s => K e'' s) = some res → e''.toExit = e → CPost F K stk nt res e a w := by
    intro e'' h he
    rw [forceSt_eq] at h
    obtain ⟨C1, hw1, hS1⟩ := head_sound hS' (kp e'')
    obtain ⟨s2, C2, hw2, hS2, h⟩ := packSt_sound hS1 h
    exact ⟨e'', s2, C2, he, h, hw2.trans (hw1.trans hw), hS2, hsz', hd'⟩
  cases e' with
  | norm => exact key _ hK he
  | ret => exact key _ hK he
  | exit i => exact key _ hK he
  | goto l => cases hK

section
variable [BT] (hm : P.follows .mixedOrders = true) (hT : TabOk P T) (hE : EnvOk P E)
include hm hT hE
theorem csum_of {nt d : Nat} (k0 : Nat) (kp : Ex → List Nat) {c : Code} {x : Ann} (hx : AnnOk P nt c x) {G : (Ex → St → Ans) → St → Ans}
    (h : ∀ K s res, G K s = some res → ∃ m n, codeI T E hint (codeD T E hint d m) n nt x c (weakP k0 kp K) s = some res) : CSum P nt c G := by
  intro F K s C a stk res hG hS hsz hd
  obtain ⟨m, n, hn⟩ := h K s res hG
  exact wp_mono ((codeI_sound (hint := hint) hm hT hE (codeD_sound (hint := hint) hm hT hE d m) n).1 hn hx hS hsz hd) fun e a w hp => weakP_sound hp

theorem csum_node {nt d m n : Nat} (k0 : Nat) (kp : Ex → List Nat) {c : Code} {x : Ann} (hx : AnnOk P nt c x) {I Y : Type} {S : I → St} {dec : St → Option I} {f : I → Option Y} {p : I → (Y → Ans) → Ans} {out : I → (Ex → St → Ans) → Y → Ans}
    (hdec : ∀ s i, dec s = some i → s = S i) (hnode : ∀ i K, codeI T E hint (codeD T E hint d m) n nt x c (weakP k0 kp K) (S i) = p i (out i K)) (hnat : ∀ i k, p i k = bindO (f i) k) :
    CSum P nt c (sumN dec f out) := by
  refine csum_of (hint := hint) (d := d) hm hT hE k0 kp hx ?_
  intro K s res h
  obtain ⟨i, hi, h⟩ := bindO_some' h
  refine ⟨m, n, ?_⟩
  rw [hdec s i hi, hnode, hnat]
  exact h

theorem csum_loop {nt d m : Nat} (k0 : Nat) (kp : Ex → List Nat) {c : Code} {x : Ann} (hx : AnnOk P nt (.loop c) x)
    {I V Y : Type} {S : I → V → St} {dec : St → Option (I × V)} {step : I → V → (V → Ans) → (Y → Ans) → Ans} {f : I → V → Option (V ⊕ Y)} {out : I → (Ex → St → Ans) → Y → Ans}
    (hdec : ∀ s x, dec s = some x → s = S x.1 x.2)
    (hstep : ∀ n i v K, codeI T E hint (codeD T E hint d m) (n + 1) nt x (.loop c) (weakP k0 kp K) (S i v) =
      step i v (fun v' => codeI T E hint (codeD T E hint d m) n nt x (.loop c) (weakP k0 kp K) (S i v')) (fun z => out i K z))
    (hnat : ∀ i v next exit, step i v next exit = bindO (f i v) (Sum.elim next exit)) : CSum P nt (.loop c) (sumL dec f out) := by
  refine csum_of (hint := hint) (d := d) hm hT hE k0 kp hx ?_
  intro K s res h
  unfold sumL at h
  obtain ⟨⟨i, v⟩, hd, h⟩ := bindO_some' h
  obtain ⟨z, hr, h⟩ := bindO_some' h
  refine ⟨m, FUEL, ?_⟩
  rw [hdec s _ hd, iterK_run (step := step i) (f := fun n v => codeI T E hint (codeD T E hint d m) n nt x (.loop c) (weakP k0 kp K) (S i v)) (k := fun z => out i K z)
    (fun v => by rw [codeI]) (fun n v => hstep n i v K) FUEL v, iterK_loopD (f := f i) (fun v next exit => hnat i v next exit) FUEL v z hr]
  exact h

/-- A function that may turn what its arguments lead to. -/
theorem func_mkD {g n : Nat} {fn : Func} {c : Code} (hf : P.funcs[g]? = some fn) (hb : fn.body = some c) (hn : fn.name ≠ "runtime.NumGoroutine") {d : Nat} {x : Ann} (hx : AnnOk P fn.ntmps c x)
    {A Y : Type} {dec : List AV → List Obj → Option A} {argsOf : A → List AV × List Obj} (hdec : ∀ l H a, dec l H = some a → (l, H) = argsOf a) {p : A → (Y → Ans) → Ans} {f : A → Option Y} {out : A → (AV → List Obj → Ans) → Y → Ans}
    (hfn : ∀ a K, fnE T E hint d n g fn.ntmps fn.results.toList x c (argsOf a).1 (argsOf a).2 K = p a (out a K)) (hnat : ∀ a k, p a k = bindO (f a) k) :
    FuncOk P g (fun l H K => bindO (dec l H) fun a => bindO (f a) fun y => out a K y) :=
  func_mk (hint := hint) hm hT hE hf hb hn hx hdec (f := fun a K => p a (out a K)) (v := fun a K => bindO (f a) fun y => out a K y) hfn
    (fun a K res h => by rw [hnat]; exact h)

/-- A function that only reads. -/
theorem pure_mkD {g n : Nat} {fn : Func} {c : Code} (hf : P.funcs[g]? = some fn) (hb : fn.body = some c) (hn : fn.name ≠ "runtime.NumGoroutine") {d : Nat} {x : Ann} (hx : AnnOk P fn.ntmps c x)
    {A Y : Type} {dec : List AV → Option A} {argsOf : A → List AV} (hdec : ∀ l a, dec l = some a → l = argsOf a) {p : A → (Y → Ans) → Ans} {f : A → Option Y} {rend : A → Y → AV}
    (hfn : ∀ a, fnE T E hint d n g fn.ntmps fn.results.toList x c (argsOf a) [] (fun v _ => some (v, [])) = p a (fun y => some (rend a y, []))) (hnat : ∀ a k, p a k = bindO (f a) k) (hcl : ∀ a y, (rend a y).closed1 = true) :
    PureOk P g (fun l K => bindO (dec l) fun a => bindO (f a) fun y => K (rend a y)) :=
  pure_mk (hint := hint) hm hT hE hf hb hn hx hdec (f := fun a K => bindO (f a) fun y => K (rend a y)) (v := fun a K => bindO (f a) fun y => K (rend a y))
    (fun a => by rw [hfn, hnat])
    (fun a K res h => by
      obtain ⟨y, hy, h⟩ := bindO_some' h
      refine ⟨rend a y, hcl a y, h, ?_⟩
      dsimp only
      rw [hy]
      rfl)
end

theorem annOk_at [BT] {nt : Nat} {c : Code} {x : Ann} {k0 : Nat} {keep : List Nat} (h : cutP P nt c x (AnnOk P nt c x)) : AnnOk P nt (.loop c) (.at k0 keep (.loop x)) := ⟨h, fun G e => by cases e⟩

/-! ### A function read in several ways -/
def altF {A : Type} (d : List AV → List Obj → Option A) (v : A → (AV → List Obj → Ans) → Ans) (F : List AV → List Obj → (AV → List Obj → Ans) → Ans) : List AV → List Obj → (AV → List Obj → Ans) → Ans :=
  fun l H K => match d l H with
    | some a => v a K
    | none => F l H K
theorem func_altF [BT] {g : Nat} {A : Type} {d : List AV → List Obj → Option A} {v : A → (AV → List Obj → Ans) → Ans} {F : List AV → List Obj → (AV → List Obj → Ans) → Ans}
    (h1 : FuncOk P g (fun l H K => bindO (d l H) fun a => v a K)) (h2 : FuncOk P g F) : FuncOk P g (altF d v F) := func_alt' h1 h2
def altP {A : Type} (d : List AV → Option A) (v : A → (AV → Ans) → Ans) (F : List AV → (AV → Ans) → Ans) : List AV → (AV → Ans) → Ans :=
  fun l K => match d l with
    | some a => v a K
    | none => F l K
theorem pure_altP [BT] {g : Nat} {A : Type} {d : List AV → Option A} {v : A → (AV → Ans) → Ans} {F : List AV → (AV → Ans) → Ans}
    (h1 : PureOk P g (fun l K => bindO (d l) fun a => v a K)) (h2 : PureOk P g F) : PureOk P g (altP d v F) := by
  refine ⟨h1.1, fun C args us K res hh hH hv h => ?_⟩
  unfold altP at h
  split at h
  · rename_i a ha
    exact h1.2 C args us K res hh hH hv (by dsimp only; rw [ha]; exact h)
  · exact h2.2 C args us K res hh hH hv h
theorem envOk_sub [BT] {E' : Env} (h : ∀ g sp, Env.get E g = some sp → SpecOk P g sp) : EnvOk P E := h
end Go.AE
namespace Go.AE

/-- A loop whose state keeps to something, by rounds. -/
theorem loopD_inv {V Y : Type} {f : V → Option (V ⊕ Y)} (Inv : Nat → V → Prop) (N : Nat) (Q : Y → Prop)
    (h : ∀ j v, Inv j v → (∃ v', f v = some (.inl v') ∧ j < N ∧ Inv (j + 1) v') ∨ ∃ y, f v = some (.inr y) ∧ Q y) {v : V} (h0 : Inv 0 v) (hN : N ≤ 18446744073709551000) :
    ∃ y, loopD f FUEL v = some y ∧ Q y := by
  have key : ∀ d j v, j + d = N → Inv j v → ∃ y, loopD f (d + 1) v = some y ∧ Q y := by
    intro d
    induction d with
    | zero =>
      intro j v hj hi
      rcases h j v hi with ⟨v', _, hlt, _⟩ | ⟨y, hf, hq⟩
      · omega
      · exact ⟨y, by rw [loopD, hf]; rfl, hq⟩
    | succ d ih =>
      intro j v hj hi
      rcases h j v hi with ⟨v', hf, hlt, hi'⟩ | ⟨y, hf, hq⟩
      · obtain ⟨y, hy, hq⟩ := ih (j + 1) v' (by omega) hi'
        exact ⟨y, by rw [loopD, hf]; exact hy, hq⟩
      · exact ⟨y, by rw [loopD, hf]; rfl, hq⟩
  obtain ⟨y, hy, hq⟩ := key N 0 v (by omega) h0
  exact ⟨y, loopD_more _ _ v y (by unfold FUEL; omega) hy, hq⟩

/-- A loop that goes through a list by its index: each round tells the next state, or an exit. -/
theorem loopD_each {α σ Y V : Type} {f : V → Option (V ⊕ Y)} (l : List α) (enc : Nat → σ → V) (Inv : Nat → σ → Prop) (Q : Y → Prop)
    (hs : ∀ j x s, l[j]? = some x → j < l.length → Inv j s → (∃ s', f (enc j s) = some (.inl (enc (j + 1) s')) ∧ Inv (j + 1) s') ∨ ∃ y, f (enc j s) = some (.inr y) ∧ Q y)
    (he : ∀ s, Inv l.length s → ∃ y, f (enc l.length s) = some (.inr y) ∧ Q y) {s0 : σ} (h0 : Inv 0 s0) (hl : l.length ≤ 18446744073709551000) :
    ∃ y, loopD f FUEL (enc 0 s0) = some y ∧ Q y := by
  refine loopD_inv (fun j v => j ≤ l.length ∧ ∃ s, v = enc j s ∧ Inv j s) l.length Q ?_ ⟨Nat.zero_le _, s0, rfl, h0⟩ hl
  rintro j v ⟨hj, s, rfl, hi⟩
  by_cases hlt : j < l.length
  · rcases hs j l[j] s (List.getElem?_eq_getElem hlt) hlt hi with ⟨s', h1, h2⟩ | h
    · exact .inl ⟨_, h1, hlt, hlt, s', rfl, h2⟩
    · exact .inr h
  · obtain rfl : j = l.length := by omega
    exact .inr (he s hi)

theorem wrap64_self {x : Int} (h : -9223372036854775808 ≤ x ∧ x ≤ 9223372036854775807) : IntKind.wrap .i64 x = x := wrap64 h.1 h.2
theorem wrap64_nat {n : Nat} (h : n < 9223372036854775807) : IntKind.wrap .i64 ((n : Int) + 1) = ((n + 1 : Nat) : Int) := by rw [wrap64 (by omega) (by omega)]; rfl
theorem ble_true {a b : Nat} (h : a ≤ b) : Nat.ble a b = true := Nat.ble_eq_true_of_le h
theorem dec_true {p : Prop} [Decidable p] (h : p) : decide p = true := decide_eq_true h
theorem dec_false {p : Prop} [Decidable p] (h : ¬ p) : decide p = false := decide_eq_false h
theorem inR_true {i : Int} {n : Nat} (h : 0 ≤ i ∧ i < (n : Int)) : inR i n = true := by simp [inR, h]
theorem inR_false {i : Int} {n : Nat} (h : ¬ (0 ≤ i ∧ i < (n : Int))) : inR i n = false := by
  unfold inR
  by_cases h1 : 0 ≤ i
  · have : ¬ i < (n : Int) := fun h2 => h ⟨h1, h2⟩
    simp [this]
  · simp [h1]
theorem nth_of {α : Type} {l : List α} {j : Nat} {x : α} (h : l[j]? = some x) : nth l (j : Int) = some x := by rw [nth_nat, h]
theorem ibeq (a b : Int) : (a == b) = decide (a = b) := rfl
theorem ibne (a b : Int) : (a != b) = !decide (a = b) := rfl
theorem cond_if {α : Type} (p : Prop) [Decidable p] (a b : α) : (bif !decide p then some a else some b) = some (if p then b else a) := by
  by_cases h : p
  · rw [dec_true h, if_pos h]; rfl
  · rw [dec_false h, if_neg h]; rfl
end Go.AE
namespace Go.AE
open Go.RowKit (Below)
variable {P : Program}

theorem vrels1 {C : Cx} {a : AV} {l : List Value} (h : VRels C [a] l) : ∃ v, l = [v] ∧ VRel C a v := by
  rw [VRels] at h
  obtain ⟨v, vs, rfl, hv, h⟩ := h
  rw [VRels] at h
  subst h
  exact ⟨v, rfl, hv⟩
theorem vrels2 {C : Cx} {a b : AV} {l : List Value} (h : VRels C [a, b] l) : ∃ v u, l = [v, u] ∧ VRel C a v ∧ VRel C b u := by
  rw [VRels] at h
  obtain ⟨v, vs, rfl, hv, h⟩ := h
  obtain ⟨u, rfl, hu⟩ := vrels1 h
  exact ⟨v, u, rfl, hv, hu⟩
theorem arr_of_list {us : Array Value} {l : List Value} (h : us.toList = l) : us = l.toArray := by
  cases us; simp at h; subst h; rfl

theorem entered_of {g : Nat} {fn : Func} (hf : P.funcs[g]? = some fn) (hb : fn.body.isSome = true) (hn : fn.name ≠ "runtime.NumGoroutine") : Entered P g := ⟨fn, hf, hb, hn⟩

/-- A function that only reads, by a contract. -/
theorem pure_prim [BT] {g : Nat} (he : Entered P g) {A Y : Type} {dec : List AV → Option A} {f : A → Option Y} {rend : A → Y → AV} (hcl : ∀ a y, (rend a y).closed1 = true)
    (h : ∀ (C : Cx) (l : List AV) (us : Array Value) (a : A) (y : Y), dec l = some a → f a = some y → VRels C l us.toList → ∀ W : World, Calls P g us W fun e w' => e = .returned (concl (rend a y)) ∧ Below W.heap.size W w') :
    PureOk P g (fun l K => bindO (dec l) fun a => bindO (f a) fun y => K (rend a y)) := by
  refine ⟨he, fun C args us K res hh hH hargs hF => ?_⟩
  obtain ⟨a, ha, hF⟩ := bindO_some' hF
  obtain ⟨y, hy, hF⟩ := bindO_some' hF
  exact ⟨rend a y, concl (rend a y), hF, fun C' => (closed1_eq (hcl a y)).2 rfl, fun W _ => h C args us a y ha hy hargs W⟩

/-! ### strings.Repeat -/
abbrev Astrings_Repeat := List UInt8 × Int
abbrev Ystrings_Repeat := List UInt8
def decAstrings_Repeat (l : List AV) : Option Astrings_Repeat := match l with
  | [AV.str a0, AV.int IntKind.i64 a1] => some (a0, a1)
  | _ => none
theorem decAstrings_Repeat_ok (l : List AV) (a : Astrings_Repeat) (h : decAstrings_Repeat l = some a) : l = [AV.str a.1, AV.int IntKind.i64 a.2] := by
  unfold decAstrings_Repeat at h
  split at h
  · cases h; rfl
  · cases h
def fnDstrings_Repeat (a : Astrings_Repeat) : Option Ystrings_Repeat := cond (decide (0 ≤ a.2) && decide (a.2 ≤ 9223372036854775807) && Nat.ble (a.1.length * a.2.toNat) 140737488355328) (some (Lib.repeatL a.1 a.2.toNat)) none
def rendstrings_Repeat : Astrings_Repeat → Ystrings_Repeat → AV := fun _ y => .str y
def vFstrings_Repeat (a : Astrings_Repeat) (K : AV → Ans) : Ans := bindO (fnDstrings_Repeat a) fun y => K (rendstrings_Repeat a y)
def Fstrings_Repeat : List AV → (AV → Ans) → Ans := fun l K => bindO (decAstrings_Repeat l) fun a => vFstrings_Repeat a K
theorem Fstrings_Repeat_of [BT] {g : Nat} (he : Entered P g)
    (hc : ∀ (s : ByteArray) (c : Nat) (w : World), c ≤ 9223372036854775807 → s.size * c ≤ 140737488355328 →
      Calls P g #[.string s, .int .i64 c] w fun e w' => e = .returned (.string ⟨(Lib.repeatL s.data.toList c).toArray⟩) ∧ Below w.heap.size w w') : PureOk P g Fstrings_Repeat := by
  refine pure_prim (rend := rendstrings_Repeat) he (fun _ _ => rfl) ?_
  rintro C l us ⟨s, c⟩ y hd hf hv W
  have := decAstrings_Repeat_ok l _ hd
  subst this
  obtain ⟨v, u, hl, h1, h2⟩ := vrels2 hv
  have h1 : v = .string ⟨s.toArray⟩ := by simpa only [VRel] using h1
  have h2 : u = .int .i64 c := by simpa only [VRel] using h2
  subst h1 h2
  rw [arr_of_list hl]
  unfold fnDstrings_Repeat at hf
  replace hf := cond_noneO hf
  obtain ⟨hg, hf⟩ := hf
  cases hf
  simp only [Bool.and_eq_true, decide_eq_true_eq] at hg
  obtain ⟨⟨g1, g2⟩, g3⟩ := hg
  have g3 := Nat.le_of_ble_eq_true g3
  have e : ((c.toNat : Nat) : Int) = c := by omega
  have := hc ⟨s.toArray⟩ c.toNat W (by omega) (by simpa [ByteArray.size] using g3)
  rw [e] at this
  simpa [rendstrings_Repeat, concl, conc0] using this
end Go.AE

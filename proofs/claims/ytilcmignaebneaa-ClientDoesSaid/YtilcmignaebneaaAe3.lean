/- The abstract evaluator AE, proved: part 3. -/
import Derived.Test.YtilcmignaebneaaAe2
import Derived.OpenShut
import Derived.WalkKit
import Derived.ProofKit
import Derived.ShutString
import Derived.ChangeOld
import Derived.SizedLaws
import Derived.Carry
set_option linter.unusedVariables false
set_option linter.unusedSimpArgs false
namespace Go.AE
open Go.RowKit (Below)
variable {P : Program} {T : Tab} {E : Env}

def Ex.toExit : Ex → Exit
  | .norm => .normal
  | .exit i => .exit i
  | .ret => .ret
  | .goto l => .goto l

/-- After code: AE's continuation goes on from a state that the world stands to. -/
def CPost [BT] (F : Fr) (K : Ex → St → Ans) (stk : List (Array Value)) (nt : Nat) (res : AV × List Obj) (e : Exit) (a : Act) (w : World) : Prop :=
  ∃ F' e' s' C', FLe F' F ∧ e'.toExit = e ∧ K e' s' = some res ∧ C'.w = w ∧ SRel F' C' s' a.tmps stk ∧ nt ≤ a.tmps.size ∧ MarksOk F' a.defers
theorem CPost.of_le [BT] {F F' : Fr} (hl : FLe F' F) {K : Ex → St → Ans} {stk : List (Array Value)} {nt : Nat} {res : AV × List Obj} {e : Exit} {a : Act} {w : World} (h : CPost F' K stk nt res e a w) : CPost F K stk nt res e a w := by
  obtain ⟨F'', e', s', C', h0, h⟩ := h
  exact ⟨F'', e', s', C', h0.trans hl, h⟩

/-- A loop, from the head of a round. -/
def LoopWp (r : Option Nat) (P : Program) (c : Code) (Q : Exit → Act → World → Prop) (a : Act) (w : World) : Prop :=
  ∀ (b : Frame) (k : List Item) (cs : List Frame), b.roundOf = r → ∃ e a' w', Q e a' w' ∧ ArrivesIn (Machine.fenced P (WF r)) P (lone (b.atR a (.code c :: .inLoop c :: k)) cs w) b k cs e a' w'

/-- A loop's summary holds. -/
def LSum [BT] (P : Program) (nt : Nat) (c : Code) (G : (Ex → St → Ans) → St → Ans) : Prop :=
  ∀ {r : Option Nat} {F : Fr} {K : Ex → St → Ans} {s : St} {C : Cx} {a : Act} {stk : List (Array Value)} {res : AV × List Obj},
    G K s = some res → RndOk r F → SRel F C s a.tmps stk → nt ≤ a.tmps.size → MarksOk F a.defers → LoopWp r P c (CPost F K stk nt res) a C.w

/-- A part's summary holds. -/
def CSum [BT] (P : Program) (nt : Nat) (c : Code) (G : (Ex → St → Ans) → St → Ans) : Prop :=
  ∀ {r : Option Nat} {F : Fr} {K : Ex → St → Ans} {s : St} {C : Cx} {a : Act} {stk : List (Array Value)} {res : AV × List Obj},
    G K s = some res → RndOk r F → SRel F C s a.tmps stk → nt ≤ a.tmps.size → MarksOk F a.defers → c.wpIn (WF r) 0 P (CPost F K stk nt res) a C.w
def cutP [BT] (P : Program) (nt : Nat) (c : Code) (x : Ann) (p : Prop) : Prop :=
  match x with
  | .cut _ _ G => CSum P nt c G
  | _ => p

def AnnOk [BT] (P : Program) (nt : Nat) : Code → Ann → Prop
  | .seq a b, x => cutP P nt a x.fst (AnnOk P nt a x.fst) ∧ cutP P nt b x.snd (AnnOk P nt b x.snd)
  | .cond _ a b, x => cutP P nt a x.fst (AnnOk P nt a x.fst) ∧ cutP P nt b x.snd (AnnOk P nt b x.snd)
  | .block _ c, x => cutP P nt c x.fst (AnnOk P nt c x.fst)
  | .loop c, x => cutP P nt c x.fst (AnnOk P nt c x.fst) ∧ ∀ G, x.sum? = some G → LSum P nt c G
  | .rangeFunc _ _ _ _, x => match x with
    | .rnd _ => False
    | _ => True
  | _, _ => True

theorem annOk_none [BT] (P : Program) (nt : Nat) : ∀ c : Code, AnnOk P nt c .none := by
  intro c
  induction c with
  | seq a b iha ihb => exact ⟨iha, ihb⟩
  | cond c a b iha ihb => exact ⟨iha, ihb⟩
  | block id c ih => exact ih
  | loop c ih => exact ⟨ih, fun G h => by cases h⟩
  | _ => trivial

def CodeOk [BT] (P : Program) (X : Nat → Ann → Code → (Ex → St → Ans) → St → Ans) : Prop :=
  ∀ {r : Option Nat} {F : Fr} {nt : Nat} {x : Ann} {c : Code} {K : Ex → St → Ans} {s : St} {C : Cx} {a : Act} {stk : List (Array Value)} {res : AV × List Obj},
    X nt x c K s = some res → AnnOk P nt c x → RndOk r F → SRel F C s a.tmps stk → nt ≤ a.tmps.size → MarksOk F a.defers → Code.wpIn (WF r) 0 P c (CPost F K stk nt res) a C.w

/-- What a call of a function value does: a function's call, or a round. -/
def ValAt (P : Program) (yv : Value) (vs : Array Value) (W : World) (R : Ending → World → Prop) : Prop :=
  ∃ fn cap nx, yv = .func fn #[] cap ∧ (invoke (.fn fn cap) vs).run P W = .ok nx W ∧ match nx with
    | .enter f args => CallsIn Fence.wide 0 P f args W R
    | .round l f tmps as c => RoundIn Fence.wide 0 P l f tmps as c W R
    | _ => False

/-- What an iterator's function does with the function that it is given: 'J': what holds between two calls of it, so much being left; 'Jx': what holds when one has said 'no more'. -/
def IterOk [BT] (P : Program) (g : Nat) (start : List AV → List Obj → Option (List Int)) (nx : List AV → List Obj → List Int → Option (Option (List AV × List Int))) : Prop :=
  Entered P g ∧ ∀ (yv : Value) (C : Cx) (cap : List AV) (us : Array Value) (L : List Int) (J : List Int → Cx → List AV → Prop) (Jx : Cx → Prop),
    HRel C → VRels C cap us.toList → start cap C.H = some L → (∃ C1 cap1, C1.w = C.w ∧ J L C1 cap1) →
    (∀ L C1 cap1, J L C1 cap1 → HRel C1 ∧ VRels C1 cap1 us.toList ∧ ∃ o, nx cap1 C1.H L = some o) →
    (∀ L C1 cap1 W, J L C1 cap1 → Priv C.w.heap.size C1 W → J L (C1.at W) cap1) →
    (∀ C1 W, Jx C1 → Priv C.w.heap.size C1 W → Jx (C1.at W)) →
    (∀ L C1 cap1 xs L', J L C1 cap1 → nx cap1 C1.H L = some (some (xs, L')) → ∀ vs : Array Value, VRels C1 xs vs.toList →
      ValAt P yv vs C1.w fun e W' =>
        (e = .returned (.bool true) ∧ ∃ C' cap', C'.w = W' ∧ J L' C' cap' ∧ KeptB C.w.heap.size C1 C') ∨
        (e = .returned (.bool false) ∧ ∃ C', C'.w = W' ∧ Jx C' ∧ KeptB C.w.heap.size C1 C')) →
    CallsIn Fence.wide 0 P g (#[yv] ++ us) C.w fun e W' => e = .returned (.tuple #[]) ∧
      ((∃ L' C' cap', C'.w = W' ∧ J L' C' cap' ∧ nx cap' C'.H L' = some none) ∨ ∃ C', C'.w = W' ∧ Jx C')

/-- A function's specification holds of the program. -/
def SpecOk [BT] (P : Program) (g : Nat) : FSpec → Prop
  | .inline nt res ann body => ∃ fn, P.funcs[g]? = some fn ∧ fn.body = some body ∧ fn.name ≠ "runtime.NumGoroutine" ∧ fn.ntmps = nt ∧ fn.results.toList = res ∧ AnnOk P nt body ann
  | .pure F => PureOk P g F
  | .func F => FuncOk P g F
  | .iter start next => ∃ st nx, IterOk P (g - 100000) st nx ∧ (∀ cap H K, start cap H K = bindO (st cap H) K) ∧ ∀ cap H L Ke Kg, next cap H L Ke Kg = bindO (nx cap H L) fun o => match o with
    | none => Ke
    | some p => Kg p.1 p.2
def EnvOk [BT] (P : Program) (E : Env) : Prop := ∀ g sp, Env.get E g = some sp → SpecOk P g sp

def rvSem (tmps : Array Value) : ResultVar → Sem Value
  | .tmp t => pure (tmps.getD t undef)
  | .cell a t => do loadVar t (← asAddr (tmps.getD a undef))
theorem results_eq (fn : Func) (tmps : Array Value) : results fn tmps = (do let vs ← fn.results.mapM (rvSem tmps); pure (if h : vs.size = 1 then vs[0] else .tuple vs)) := by
  have : rvSem tmps = (fun x => match x with
    | .tmp t => pure (tmps.getD t undef)
    | .cell a t => do loadVar t (← asAddr (tmps.getD a undef))) := by
    funext x
    cases x <;> rfl
  rw [this]
  rfl

theorem resultsOf_sound [BT] (hT : TabOk P T) {F : Fr} {C : Cx} {s : St} {tmps : Array Value} {stk : List (Array Value)} (hS : SRel F C s tmps stk) :
    ∀ {l : List ResultVar} {acc : List AV} {us : List Value} {K : List AV → Ans} {res : AV × List Obj}, VRels C acc us → resultsOf T s l acc K = some res →
    ∃ rs vs, K (acc ++ rs) = some res ∧ (l.mapM (rvSem tmps)).run P C.w = .ok vs C.w ∧ VRels C rs vs
  | [], acc, us, K, res, ha, h => by
    rw [resultsOf] at h
    exact ⟨[], [], by rw [List.append_nil]; exact h, by simp, by simp [VRels]⟩
  | .tmp t :: r, acc, us, K, res, ha, h => by
    rw [resultsOf] at h
    have ht := hS.env t
    obtain ⟨rs, vs, h1, h2, h3⟩ := resultsOf_sound hT hS (ha.append (m := [getT s.env t]) (us := [tmps.getD t undef]) (by rw [VRels]; exact ⟨_, [], rfl, ht, by simp [VRels]⟩)) h
    refine ⟨getT s.env t :: rs, tmps.getD t undef :: vs, by rw [List.append_assoc] at h1; exact h1, ?_, by rw [VRels]; exact ⟨_, _, rfl, ht, h3⟩⟩
    rw [List.mapM_cons]
    simp only [Sem.run_bind, rvSem, Sem.run_pure, Result.andThen_ok, h2]
  | .cell a t :: r, acc, us, K, res, ha, h => by
    rw [resultsOf] at h
    obtain ⟨x, u, h0, hl, hx⟩ := load_sound hT hS.heap hS.H (hS.env a) h
    replace hl := hl C.w (Sees.refl _ _)
    obtain ⟨rs, vs, h1, h2, h3⟩ := resultsOf_sound hT hS (ha.append (m := [x]) (us := [u]) (by rw [VRels]; exact ⟨_, [], rfl, hx, by simp [VRels]⟩)) h0
    refine ⟨x :: rs, u :: vs, by rw [List.append_assoc] at h1; exact h1, ?_, by rw [VRels]; exact ⟨_, _, rfl, hx, h3⟩⟩
    have hl' : (rvSem tmps (.cell a t)).run P C.w = .ok u C.w := by
      unfold Instr.loadAt Instr.sureAddr at hl
      split at hl
      · rename_i p hp
        rw [rvSem, hp]
        simpa [asAddr] using hl
      · simp [stuck] at hl
    rw [List.mapM_cons]
    simp only [Sem.run_bind, hl', Sem.run_pure, Result.andThen_ok, h2]

theorem results_sound [BT] (hT : TabOk P T) {F : Fr} {C : Cx} {s : St} {tmps : Array Value} {stk : List (Array Value)} (hS : SRel F C s tmps stk) {fn : Func} {K : List AV → Ans} {res : AV × List Obj} (h : resultsOf T s fn.results.toList [] K = some res) :
    ∃ rs v, K rs = some res ∧ (results fn tmps).run P C.w = .ok v C.w ∧ VRel C (tupled rs) v := by
  obtain ⟨rs, vs, h1, h2, h3⟩ := resultsOf_sound hT hS (acc := []) (us := []) (by simp [VRels]) h
  refine ⟨rs, if h : vs.length = 1 then vs[0] else .tuple vs.toArray, h1, ?_, ?_⟩
  · rw [results_eq, Array.mapM_eq_mapM_toList]
    simp only [Sem.run_bind, Sem.run_map, h2, Result.andThen_ok, Sem.run_pure]
    by_cases hv : vs.length = 1
    · simp [hv]
    · simp [hv]
  · have hlen := h3.length
    by_cases hv : vs.length = 1
    · rw [dif_pos hv]
      obtain ⟨v, rfl⟩ : ∃ v, vs = [v] := by
        match vs, hv with
        | [v], _ => exact ⟨v, rfl⟩
      obtain ⟨x, rfl⟩ : ∃ x, rs = [x] := by
        match rs, hlen with
        | [x], _ => exact ⟨x, rfl⟩
      rw [VRels] at h3
      obtain ⟨v', _, e, hx, _⟩ := h3
      cases e
      exact hx
    · rw [dif_neg hv]
      have : tupled rs = .tup rs := by
        unfold tupled
        split
        · rename_i x
          exact absurd hlen (by simpa using hv)
        · rfl
      rw [this, VRel]
      exact ⟨_, rfl, by simpa using h3⟩

theorem argsEnv_rel {C : Cx} : ∀ {l : List AV} {vs : List Value} (n : Nat), VRels C l vs → ∀ t, VRel C (getT (argsEnv n l) (n + t)) ((vs[t]?).getD undef)
  | [], _, n, h, t => by rw [argsEnv, getT_nil, VRel]; trivial
  | x :: r, _, n, h, t => by
    rw [VRels] at h
    obtain ⟨v, vs', rfl, hv, hr⟩ := h
    rw [argsEnv, getT_cons]
    cases t with
    | zero => rw [Nat.add_zero, if_pos rfl]; exact hv
    | succ t =>
      rw [if_neg (by omega)]
      have := argsEnv_rel (n + 1) hr t
      rw [show n + (t + 1) = n + 1 + t by omega]
      simpa using this

theorem args_env {C : Cx} {l : List AV} {vs : Array Value} (h : VRels C l vs.toList) (k : Nat) : ERel C (argsEnv 0 l) (vs ++ Array.replicate k undef) := by
  intro t
  have h1 := argsEnv_rel 0 h t
  rw [Nat.zero_add] at h1
  by_cases ht : t < vs.size
  · have : (vs ++ Array.replicate k undef).getD t undef = (vs.toList[t]?).getD undef := by
      rw [Array.getD_eq_getD_getElem?, Array.getElem?_append_left ht]
      simp
    rwa [this]
  · have hl : l.length ≤ t := by have := h.length; simp only [Array.length_toList] at this; omega
    have : getT (argsEnv 0 l) t = .unk := by
      clear h1 ht h
      have key : ∀ (l : List AV) (n : Nat), n + l.length ≤ t → getT (argsEnv n l) t = .unk := by
        intro l
        induction l with
        | nil => intro n _; rfl
        | cons x r ih =>
          intro n hn
          rw [argsEnv, getT_cons, if_neg (by simp at hn; omega)]
          exact ih (n + 1) (by simp at hn; omega)
      exact key l 0 (by omega)
    rw [this, VRel]
    trivial

/-- What a call that AE knows leaves. -/
theorem callE_sound [BT] (hT : TabOk P T) (hE : EnvOk P E) {inl : Nat → Ann → Code → (Ex → St → Ans) → St → Ans} (hI : CodeOk P inl) {F : Fr} {C : Cx} {s : St} {a : Act} {stk : List (Array Value)} (hS : SRel F C s a.tmps stk)
    {g : Nat} {args : List AV} {us : Array Value} (hargs : VRels C args us.toList) {K : KV} {res : AV × List Obj} (h : callE T E inl g args s K = some res) :
    (∃ w, (Go.callFunc g us).run P C.w = .ok (.enter g us) w ∧ w = C.w) ∧
    Calls P g us C.w fun
      | .returned v, w' => ∃ r s' C', K r s' = some res ∧ C'.w = w' ∧ SRel F C' s' a.tmps stk ∧ VRel C' r v
      | _, _ => False := by
  unfold callE at h
  replace h := bindO_some h; obtain ⟨sp, hsp, h⟩ := h
  have hok := hE g sp hsp
  cases sp with
  | pure F' =>
    obtain ⟨r, v, hK, hv, hc⟩ := callPure_sound hS hok hargs h
    refine ⟨⟨C.w, hok.1.run us C.w, rfl⟩, (hc C.w (Sees.refl _ _)).mono ?_⟩
    rintro e w' ⟨rfl, hw'⟩
    exact ⟨r, s, C.at w', hK, rfl, at_sound hS hw', hv _⟩
  | func F' =>
    refine ⟨⟨C.w, hok.1.run us C.w, rfl⟩, (callFunc_sound hS hok hargs h).mono ?_⟩
    intro e w' hw'
    cases e with
    | returned v => exact hw'
    | panicked ch => exact hw'.elim
    | outgrown => exact hw'.elim
  | iter st nx => simp only at h; cases h
  | inline nt rs ann body =>
    obtain ⟨fn, hf, hb, hn, rfl, rfl, hann⟩ := hok
    refine ⟨⟨C.w, ?_, rfl⟩, ?_⟩
    · have hne : (fn.name == "runtime.NumGoroutine") = false := by simpa using hn
      simp [Go.callFunc, hf, hb, hn]
    · simp only at h
      -- the callee's frame
      obtain ⟨F1, hF1⟩ : ∃ F1 : Fr, F1 = { F.re C with base := C.w.heap.size } := ⟨_, rfl⟩
      have hF1C : FrameOk F1 C := by rw [hF1]; exact ⟨rfl, rfl, rfl, Nat.le_refl _, fun _ _ _ => rfl, fun _ h => h, fun _ h => .inl h, fun i b hl hb => .inl ⟨i, hl, hb⟩⟩
      have hback : ∀ C', FrameOk F1 C' → FrameOk F C' := fun C' h => (re_le hS.frame).frame C' (by rw [hF1] at h; exact ⟨h.os, h.tape, h.output, h.size, h.keep, h.r0, h.rN, h.own⟩)
      have hb1 : F1.base = C.w.heap.size := by rw [hF1]
      have hw1 : F.w0.heap.size ≤ C.w.heap.size := hS.frame.size
      have hS' : SRel F1 C { env := argsEnv 0 args, stk := s.env :: s.stk, H := s.H, blk := Nat.mul g 4096 } (us ++ Array.replicate (fn.ntmps - us.size) undef) (a.tmps :: stk) :=
        ⟨hS.H, hS.heap, args_env hargs _, by rw [SStk]; exact ⟨_, _, rfl, hS.env, hS.stk⟩, hF1C⟩
      refine (callsIn_wide (n := 0)).1 (callsIn_of_wp_marks hf hb trivial (wpIn_mono (hI (r := none) (a := { tmps := us ++ Array.replicate (fn.ntmps - us.size) undef, defers := [] }) h hann (RndOk.none _) hS' (by simp; omega) ⟨by rw [hF1]; exact Nat.le_refl _, trivial⟩) ?_))
      rintro e a' w' ⟨F2, e', s', C', hle, rfl, hK, rfl, hS'', hsz, hd⟩
      have fin : ∀ {stk' env'}, s'.stk = env' :: stk' → (resultsOf T s' fn.results.toList [] fun vs => forceV (tupled vs) fun v => K v ⟨env', stk', s'.H, s.blk⟩) = some res →
          ∀ W, Priv F2.base C' W → ∃ v, (results fn a'.tmps).run P W = .ok v W ∧ ∃ r s'' C'', K r s'' = some res ∧ C''.w = W ∧ SRel F C'' s'' a.tmps stk ∧ VRel C'' r v := by
        intro stk' env' hst hr W hW
        have hSF : SRel F C' s' a'.tmps (a.tmps :: stk) := ⟨hS''.H, hS''.heap, hS''.env, hS''.stk, hback _ (hle.frame _ hS''.frame)⟩
        have hSW : SRel F (C'.at W) s' a'.tmps (a.tmps :: stk) := priv_sound hSF (by rw [hle.base, hb1]; exact hw1) hW
        obtain ⟨rs, v, h1, h2, h3⟩ := results_sound hT hSW hr
        rw [forceV_eq] at h1
        have hstk := hSW.stk
        rw [hst, SStk] at hstk
        obtain ⟨t', ts', he, henv, hstk⟩ := hstk
        cases he
        exact ⟨v, h2, _, _, C'.at W, h1, rfl, ⟨hSW.H, hSW.heap, henv, hstk, hSW.frame⟩, h3⟩
      cases e' with
      | norm =>
        simp only at hK
        split at hK
        · rename_i env' stk' hst
          exact leaves_marks _ F2 C' hd.2 hS''.frame (fun W hW => fin hst hK W hW)
        · cases hK
      | ret =>
        simp only at hK
        split at hK
        · rename_i env' stk' hst
          exact leaves_marks _ F2 C' hd.2 hS''.frame (fun W hW => fin hst hK W hW)
        · cases hK
      | exit i => cases hK
      | goto l => cases hK

theorem method_run {t g : Nat} {name : String} (h : methB P t name g = true) (n : Nat) (u : Value) (W : World) : (method (n + 1) t u name).run P W = .ok (g, u) W := by
  unfold methB at h
  split at h
  · rename_i info d hinf hu
    split at h
    · rename_i m hm
      simp only [Bool.and_eq_true] at h
      obtain ⟨hpath, h⟩ := h
      split at h
      · rename_i fp hf
        obtain ⟨f, pr⟩ := fp
        simp only [Bool.and_eq_true] at h
        obtain ⟨hfg, h⟩ := h
        obtain rfl := Nat.eq_of_beq_eq_true hfg
        have hp : m.path.toList = [] := by simpa using hpath
        have hti : (typeInfo t).run P W = .ok info W := by simp [typeInfo, hinf]
        unfold method
        simp only [Sem.run_bind, hti, Result.andThen_ok, hm, hp, follow, Sem.run_pure, hf, receiverAt, run_underlying hu]
        cases d <;> cases pr <;> first | (cases h; done) | simp [Place.get]
      · cases h
    · cases h
  · cases h

theorem fnOf_sound [BT] (hT : TabOk P T) {C : Cx} {s : St} {a : Act} (he : ERel C s.env a.tmps) {c : Call} {g : Nat} {args : List AV} (h : fnOf T s c = some (g, args)) :
    ∃ us : Array Value, VRels C args us.toList ∧ ∀ (o : Oper), o.op = .call c → ∀ W, (execOp a.eval o).run P W = (Go.callFunc g us).run P W := by
  unfold fnOf at h
  split at h
  · rename_i f hc
    split at h
    · rename_i g' first cap hf
      cases h
      have hv := opd_rel (C := C) he f
      rw [hf, VRel] at hv
      obtain ⟨a', b', hv, h1, h2⟩ := hv
      refine ⟨a' ++ c.args.map a.eval ++ b', ?_, fun o ho W => ?_⟩
      · rw [Array.toList_append, Array.toList_append, Array.toList_map]
        exact (h1.append (opds_rel he _)).append h2
      · simp only [execOp, ho, resolve, hc, Deferred.ofValue, hv, invoke]
        rfl
    · cases h
  · rename_i r name hc
    split at h
    · rename_i t v hr
      split at h
      · rename_i i hti
        split at h
        · rename_i g' hg
          cases h
          obtain ⟨d, info, z, hi⟩ := hT t i hti
          have hv := opd_rel (C := C) he r
          rw [hr, VRel] at hv
          obtain ⟨u, hu, hvu⟩ := hv
          refine ⟨#[u] ++ c.args.map a.eval, ?_, fun o ho W => ?_⟩
          · rw [Array.toList_append, Array.toList_map]
            show VRels C (v :: c.args.toList.map (opd s.env)) (u :: _)
            rw [VRels]
            exact ⟨u, _, rfl, hvu, opds_rel he _⟩
          · obtain ⟨n, hn⟩ : ∃ n, P.types.size + Made.depth = n + 1 := ⟨P.types.size + (Made.depth - 1), by unfold Made.depth; omega⟩
            have hm := method_run (hi.meth name _ hg) n u W
            have e0 : (#[Value.iface t u] ++ Array.map a.eval c.args)[0]? = some (Value.iface t u) := by
              rw [Array.getElem?_append_left (by simp)]; rfl
            have e1 : (Array.map a.eval c.args).extract 0 c.args.size = Array.map a.eval c.args := by
              have := Array.extract_size (xs := Array.map a.eval c.args)
              rwa [Array.size_map] at this
            simp [execOp, ho, resolve, hc, invoke, hu, callMethod, e0, e1, hn, hm]
        · cases h
      · cases h
    · cases h
  · cases h

/-- An operation of AE's, as the model's. -/
theorem opE_clean [BT] (hT : TabOk P T) (hE : EnvOk P E) {inl : Nat → Ann → Code → (Ex → St → Ans) → St → Ans} (hI : CodeOk P inl) {F : Fr} {C : Cx} {s : St} {a : Act} {stk : List (Array Value)} (hS : SRel F C s a.tmps stk)
    {o : Oper} {K : KV} {res : AV × List Obj} (h : opE T E inl o s K = some res) :
    clean P o a C.w fun u w' => ∃ r s' C', K r s' = some res ∧ C'.w = w' ∧ SRel F C' s' a.tmps stk ∧ VRel C' r u ∧ FootOk C C' (footOf s o) := by
  unfold clean
  have loud : loudOp T o s K = some res → clean P o a C.w fun u w' => ∃ r s' C', K r s' = some res ∧ C'.w = w' ∧ SRel F C' s' a.tmps stk ∧ VRel C' r u ∧ FootOk C C' (footOf s o) := by
    intro h
    obtain ⟨r, s', C', nx, h1, h2, h3, h4, _, hft⟩ := loudOp_sound hT hS h
    unfold clean
    rw [h2]
    rcases h4 with ⟨v, rfl, hv⟩ | ⟨rfl, rfl⟩
    · exact ⟨_, _, _, h1, rfl, h3, hv, hft⟩
    · exact ⟨_, _, _, h1, rfl, h3, by rw [VRel]; trivial, hft⟩
  have quiet : ∀ {A}, quietOp T o s (fun v => K v s) = some A → A = some res → clean P o a C.w fun u w' => ∃ r s' C', K r s' = some res ∧ C'.w = w' ∧ SRel F C' s' a.tmps stk ∧ VRel C' r u ∧ FootOk C C' (footOf s o) := by
    intro A h hA
    obtain ⟨r, v, h1, h2, h3⟩ := quietOp_sound hT hS.heap hS.H hS.env h hA
    unfold clean
    rw [h2 C.w (SeesO.refl _ _)]
    refine ⟨_, _, _, h1, rfl, hS, h3, ?_⟩
    cases footOf s o with
    | none => trivial
    | some l => exact fun b hb _ => Foot0.refl C b hb
  unfold opE at h
  split at h
  · rename_i A hA
    split at hA
    · cases hA
    · cases hA
    · exact quiet hA h
  · split at h
    · rename_i c ho
      have called : (bindO (fnOf T s c) fun x => callE T E inl x.1 x.2 s K) = some res → footOf s o = none →
          clean P o a C.w fun u w' => ∃ r s' C', K r s' = some res ∧ C'.w = w' ∧ SRel F C' s' a.tmps stk ∧ VRel C' r u ∧ FootOk C C' (footOf s o) := by
        intro h hfo
        replace h := bindO_some h; obtain ⟨⟨g, args⟩, hg, h⟩ := h
        obtain ⟨us, hus, hex⟩ := fnOf_sound hT hS.env hg
        obtain ⟨⟨w, hr, rfl⟩, hcall⟩ := callE_sound hT hE hI hS hus h
        unfold clean
        rw [hex o ho, hr]
        refine hcall.mono ?_
        intro e w' hw'
        cases e with
        | returned v =>
          obtain ⟨r, s', C', g1, g2, g3, g4⟩ := hw'
          exact ⟨v, rfl, r, s', C', g1, g2, g3, g4, by rw [hfo]; trivial⟩
        | panicked ch => exact hw'.elim
        | outgrown => exact hw'.elim
      split at h
      · rename_i hcal
        exact called h (by unfold footOf makesOnly; rw [ho]; simp only [cond_false]; rw [hcal])
      · rename_i hcal
        exact called h (by unfold footOf makesOnly; rw [ho]; simp only [cond_false]; rw [hcal])
      · exact loud h
    · exact loud h

theorem opE_sound [BT] (hT : TabOk P T) (hE : EnvOk P E) {inl : Nat → Ann → Code → (Ex → St → Ans) → St → Ans} (hI : CodeOk P inl) {F : Fr} {C : Cx} {s : St} {a : Act} {stk : List (Array Value)} (hS : SRel F C s a.tmps stk)
    {o : Oper} {K : KV} {res : AV × List Obj} (h : opE T E inl o s K = some res) {Q : Exit → Act → World → Prop} {next : Act → World → Prop}
    (hn : ∀ r s' C' u, K r s' = some res → SRel F C' s' a.tmps stk → (VRel C' r u) → next (a.put o.dst u) C'.w) {rn : Option Nat} : o.wpIn (WF rn) 0 P a C.w next Q := by
  refine wpIn_of_clean (clean_mono ?_ (opE_clean hT hE hI hS h))
  rintro u w' ⟨r, s', C', h1, rfl, h3, h4, _⟩
  exact hn r s' C' u h1 h3 h4

theorem putT_sound [BT] {F : Fr} {C : Cx} {s : St} {a : Act} {stk : List (Array Value)} (hS : SRel F C s a.tmps stk) {nt : Nat} (hsz : nt ≤ a.tmps.size) {dst : Option Nat} {v : AV} {u : Value} (hv : VRel C v u) {K : St → Ans} {res : AV × List Obj}
    (h : putT nt dst v s K = some res) : ∃ s', K s' = some res ∧ SRel F C s' (a.put dst u).tmps stk ∧ nt ≤ (a.put dst u).tmps.size ∧ (a.put dst u).defers = a.defers := by
  cases dst with
  | none => exact ⟨s, h, hS, hsz, rfl⟩
  | some d =>
    obtain ⟨env, stk', H, blk⟩ := s
    simp only [putT] at h
    replace h := cond_none h; obtain ⟨hd, h⟩ := h
    rw [forceV_eq] at h
    have hd : d < nt := Nat.lt_of_lt_of_le (Nat.lt_succ_self d) (Nat.le_of_ble_eq_true hd)
    exact ⟨_, h, ⟨hS.H, hS.heap, ERel.put hS.env hv (by omega), hS.stk, hS.frame⟩, by simpa [Act.put] using hsz, rfl⟩

theorem wantedT_sound [BT] {F : Fr} {C : Cx} {s : St} {a : Act} {stk : List (Array Value)} (hS : SRel F C s a.tmps stk) {nt : Nat} (hsz : nt ≤ a.tmps.size) {all : Array Oper} {o : Oper} {run skip : St → Ans} {res : AV × List Obj}
    (h : wantedT all nt o s run skip = some res) : ∃ s', SRel F C s' a.tmps stk ∧
      ((Region.wanted o (yielded all a.tmps) = true ∧ run s' = some res) ∨ (Region.wanted o (yielded all a.tmps) = false ∧ skip s' = some res)) := by
  unfold wantedT at h
  cases hg : o.guard with
  | none =>
    rw [hg] at h
    exact ⟨s, hS, .inl ⟨by simp [Region.wanted, hg], h⟩⟩
  | some jw =>
    obtain ⟨j, want⟩ := jw
    rw [hg] at h
    simp only at h
    replace h := bindO_some h; obtain ⟨g, hgt, h⟩ := h
    split at h
    · rename_i b hb
      replace h := cond_none h; obtain ⟨hlt, h⟩ := h
      have hlt : g < nt := Nat.lt_of_lt_of_le (Nat.lt_succ_self g) (Nat.le_of_ble_eq_true hlt)
      have hv := hS.env g
      rw [hb, VRel] at hv
      have hy : yielded all a.tmps j = some b := by
        unfold guardT at hgt
        split at hgt
        · rename_i o' ho'
          have : a.tmps[g]? = some (.bool b) := by
            have hlt' : g < a.tmps.size := by omega
            rw [Array.getElem?_eq_getElem hlt']
            rw [Array.getD_eq_getD_getElem?, Array.getElem?_eq_getElem hlt'] at hv
            simpa using hv
          simp [yielded, ho', hgt, this]
        · cases hgt
      have hw : Region.wanted o (yielded all a.tmps) = (b == want) := by simp [Region.wanted, hg, hy]
      have hS' : SRel F C ⟨(g, .bool b) :: s.env, s.stk, s.H, s.blk⟩ a.tmps stk := by
        refine ⟨hS.H, hS.heap, fun t => ?_, hS.stk, hS.frame⟩
        show VRel C (getT ((g, .bool b) :: s.env) t) _
        rw [getT_cons]
        split
        · rename_i e; subst e; rw [← hb]; exact hS.env _
        · exact hS.env t
      refine ⟨_, hS', ?_⟩
      obtain ⟨env, stk', H, blk⟩ := s
      cases b <;> cases want <;> simp only [cond_true, cond_false] at h <;> rw [hw]
      · exact .inl ⟨rfl, h⟩
      · exact .inr ⟨rfl, h⟩
      · exact .inr ⟨rfl, h⟩
      · exact .inl ⟨rfl, h⟩
    · rename_i b hb
      replace h := cond_none h; obtain ⟨hlt, h⟩ := h
      have hlt : g < nt := Nat.lt_of_lt_of_le (Nat.lt_succ_self g) (Nat.le_of_ble_eq_true hlt)
      have hv := hS.env g
      rw [hb, VRel] at hv
      obtain ⟨vs, hv, _⟩ := hv
      refine ⟨s, hS, .inr ⟨?_, h⟩⟩
      have hy : yielded all a.tmps j = none := by
        unfold guardT at hgt
        split at hgt
        · rename_i o' ho'
          have : a.tmps[g]? = some (.tuple vs) := by
            have hlt' : g < a.tmps.size := by omega
            rw [Array.getElem?_eq_getElem hlt']
            rw [Array.getD_eq_getD_getElem?, Array.getElem?_eq_getElem hlt'] at hv
            simpa using hv
          simp [yielded, ho', hgt, this]
        · cases hgt
      simp [Region.wanted, hg, hy]
    · cases h

theorem opsE_sound [BT] (hT : TabOk P T) (hE : EnvOk P E) {inl : Nat → Ann → Code → (Ex → St → Ans) → St → Ans} (hI : CodeOk P inl) {F : Fr} {stk : List (Array Value)} {all : Array Oper} {nt : Nat} {K : St → Ans} {res : AV × List Obj} {Q : Exit → Act → World → Prop} {ds : List Deferred} {rn : Option Nat}
    (hQ : ∀ s C a, K s = some res → SRel F C s a.tmps stk → nt ≤ a.tmps.size → a.defers = ds → Q .normal a C.w) :
    ∀ (l : List Oper) (n : Nat), all.toList.drop n = l → ∀ {s : St} {C : Cx} {a : Act}, opsE T E inl all nt l K s = some res → SRel F C s a.tmps stk → nt ≤ a.tmps.size → a.defers = ds →
      wpOpsIn (WF rn) 0 P all Q (List.range' n l.length) a C.w
  | [], n, hl, s, C, a, h, hS, hsz, hd => by
    rw [opsE] at h
    exact hQ s C a h hS hsz hd
  | o :: r, n, hl, s, C, a, h, hS, hsz, hd => by
    rw [opsE] at h
    have hlr : all.toList.drop (n + 1) = r := by rw [← List.tail_drop, hl]; rfl
    have ho : all[n]? = some o := by
      have : (all.toList.drop n)[0]? = some o := by rw [hl]; rfl
      simpa using this
    rw [List.length_cons, List.range'_succ, wpOpsIn, ho]
    dsimp only
    obtain ⟨s', hS', h⟩ := wantedT_sound hS hsz h
    rcases h with ⟨hw, h⟩ | ⟨hw, h⟩
    · rw [if_pos hw]
      refine (opE_sound hT hE hI hS' h ?_)
      intro r' s'' C' u hK hS'' hv
      obtain ⟨s3, h3, hS3, hsz3, hd3⟩ := putT_sound hS'' hsz hv hK
      exact opsE_sound hT hE hI hQ r (n + 1) hlr h3 hS3 hsz3 (hd3.trans hd)
    · rw [if_neg (by rw [hw]; decide)]
      refine ⟨fun f _ => WF_fn rn f, ?_⟩
      obtain ⟨s3, h3, hS3, hsz3, hd3⟩ := putT_sound (v := .tup []) (u := undef) hS' hsz (by rw [VRel]; exact ⟨#[], rfl, by rw [VRels]⟩) h
      exact opsE_sound hT hE hI hQ r (n + 1) hlr h3 hS3 hsz3 (hd3.trans hd)

/-! ### Regions that draw their order -/
theorem opQ_sees [BT] (hT : TabOk P T) (hE : EnvOk P E) {F : Fr} {C : Cx} {s : St} {a : Act} {stk : List (Array Value)} (hS : SRel F C s a.tmps stk)
    {o : Oper} {K : AV → Ans} {res : AV × List Obj} (h : opQ T E o s K = some res) :
    ∃ r v, K r = some res ∧ VRel C r v ∧ ∀ W, SeesO C (readsOf T s o) W → clean P o a W fun u w' => u = v ∧ Gq W w' := by
  unfold opQ at h
  split at h
  · rename_i A hA
    obtain ⟨r, v, h1, h2, h3⟩ := quietOp_sound hT hS.heap hS.H hS.env hA h
    refine ⟨r, v, h1, h3, fun W hW => ?_⟩
    unfold clean
    rw [h2 W hW]
    exact ⟨rfl, Gq.refl W⟩
  · split at h
    · rename_i c ho
      replace h := bindO_some h; obtain ⟨⟨g, args⟩, hg, h⟩ := h
      replace h := bindO_some h; obtain ⟨sp, hsp, h⟩ := h
      split at h
      · rename_i Fp
        obtain ⟨us, hus, hex⟩ := fnOf_sound hT hS.env hg
        have hok : PureOk P g Fp := hE g _ hsp
        obtain ⟨r, v, hK, hv, hc⟩ := callPure_sound hS hok hus h
        refine ⟨r, v, hK, hv C, fun W hW => ?_⟩
        have hrd : readsOf T s o = some (AV.refsL args) := by unfold readsOf; rw [ho]; simp only [hg]
        replace hW := hW _ hrd
        unfold clean
        rw [hex o ho, hok.1.run us W]
        refine (hc W hW).mono ?_
        rintro e w' ⟨rfl, hw'⟩
        exact ⟨v, rfl, rfl, hw'⟩
      · cases h
    · cases h

theorem opL_sound [BT] (hT : TabOk P T) (hE : EnvOk P E) {inl : Nat → Ann → Code → (Ex → St → Ans) → St → Ans} (hI : CodeOk P inl) {F : Fr} {C : Cx} {s : St} {a : Act} {stk : List (Array Value)} (hS : SRel F C s a.tmps stk)
    {o : Oper} {K : Option (List Nat) → KV} {res : AV × List Obj} (h : opL T E inl o s K = some res) :
    clean P o a C.w fun u w' => ∃ foot r s' C', K foot r s' = some res ∧ C'.w = w' ∧ SRel F C' s' a.tmps stk ∧ VRel C' r u ∧ FootOk C C' foot := by
  have plain : opE T E inl o s (K (footOf s o)) = some res → clean P o a C.w fun u w' => ∃ foot r s' C', K foot r s' = some res ∧ C'.w = w' ∧ SRel F C' s' a.tmps stk ∧ VRel C' r u ∧ FootOk C C' foot := fun h =>
    clean_mono (fun u w' ⟨r, s', C', h1, h2, h3, h4, h5⟩ => ⟨footOf s o, r, s', C', h1, h2, h3, h4, h5⟩) (opE_clean hT hE hI hS h)
  unfold opL at h
  split at h
  · rename_i c ho
    have called : (bindO (fnOf T s c) fun x => match Env.get E x.1 with
        | some (.func F) => callFuncK F s x.2 fun sel r s => K (some sel) r s
        | _ => callE T E inl x.1 x.2 s (K none)) = some res →
        clean P o a C.w fun u w' => ∃ foot r s' C', K foot r s' = some res ∧ C'.w = w' ∧ SRel F C' s' a.tmps stk ∧ VRel C' r u ∧ FootOk C C' foot := by
      intro h
      replace h := bindO_some h; obtain ⟨⟨g, args⟩, hg, h⟩ := h
      obtain ⟨us, hus, hex⟩ := fnOf_sound hT hS.env hg
      dsimp only at h
      split at h
      · rename_i Ff hsp
        have hok : FuncOk P g Ff := hE g _ hsp
        unfold clean
        rw [hex o ho, hok.1.run us C.w]
        refine (callFuncK_sound hS hok hus h).mono ?_
        intro e w' hw'
        cases e with
        | returned v =>
          obtain ⟨sel, r, s', C', h1, h2, h3, h4, h5⟩ := hw'
          exact ⟨v, rfl, some sel, r, s', C', h1, h2, h3, h4, h5⟩
        | panicked ch => exact hw'.elim
        | outgrown => exact hw'.elim
      · obtain ⟨⟨w, hr, rfl⟩, hcall⟩ := callE_sound hT hE hI hS hus h
        unfold clean
        rw [hex o ho, hr]
        refine hcall.mono ?_
        intro e w' hw'
        cases e with
        | returned v =>
          obtain ⟨r, s', C', h1, h2, h3, h4⟩ := hw'
          exact ⟨v, rfl, none, r, s', C', h1, h2, h3, h4, trivial⟩
        | panicked ch => exact hw'.elim
        | outgrown => exact hw'.elim
    split at h
    · exact called h
    · exact called h
    · exact plain h
  · exact plain h

/-! #### For whom an operation waits -/
theorem maskOf_spec (ms : List Nat) {i : Nat} : ∀ {l : List Edge}, Nat.testBit (maskOf ms l) i = true → ∃ e ∈ l, Region.binds .any e = true ∧ (e.on = i ∨ Nat.testBit (getN ms e.on) i = true)
  | [], h => by rw [maskOf] at h; simp at h
  | e :: r, h => by
    rw [maskOf] at h
    cases hb : Region.binds .any e with
    | false =>
      rw [hb, cond_false] at h
      obtain ⟨e', he, h'⟩ := maskOf_spec ms h
      exact ⟨e', List.mem_cons_of_mem _ he, h'⟩
    | true =>
      rw [hb, cond_true] at h
      have h : Nat.testBit ((1 <<< e.on ||| getN ms e.on) ||| maskOf ms r) i = true := h
      rw [Nat.testBit_or, Nat.testBit_or, Bool.or_eq_true, Bool.or_eq_true] at h
      rcases h with (h | h) | h
      · rw [Nat.one_shiftLeft, Nat.testBit_two_pow] at h
        exact ⟨e, List.mem_cons_self .., hb, .inl (by simpa using h)⟩
      · exact ⟨e, List.mem_cons_self .., hb, .inr h⟩
      · obtain ⟨e', he, h'⟩ := maskOf_spec ms h
        exact ⟨e', List.mem_cons_of_mem _ he, h'⟩
theorem masks_length (all : Array Oper) : ∀ k, (masks all k).length = k
  | 0 => rfl
  | k + 1 => by rw [masks, List.length_append, masks_length all k]; rfl
theorem masks_get (all : Array Oper) : ∀ (k j : Nat), j < k → getN (masks all k) j = match all[j]? with | some o => maskOf (masks all j) o.after.toList | none => 0
  | 0, j, h => by omega
  | k + 1, j, h => by
    rw [masks, getN_eq]
    by_cases hj : j < k
    · rw [List.getElem?_append_left (by rw [masks_length]; exact hj), ← getN_eq, masks_get all k j hj]
    · obtain rfl : j = k := by omega
      rw [List.getElem?_append_right (by rw [masks_length]; omega), masks_length, Nat.sub_self]
      rfl
theorem getN_masks_lt (all : Array Oper) {k j i : Nat} (h : Nat.testBit (getN (masks all k) j) i = true) : j < k := by
  rcases Nat.lt_or_ge j k with h' | h'
  · exact h'
  · rw [getN_eq, List.getElem?_eq_none (by rw [masks_length]; exact h')] at h
    simp at h
theorem ancB_ok (all : Array Oper) : AncOk .any all (ancB (masks all all.size)) := by
  intro i j h
  unfold ancB at h
  have hj := getN_masks_lt all h
  rw [masks_get all all.size j hj] at h
  rw [Array.getElem?_eq_getElem hj] at h ⊢
  obtain ⟨e, he, hb, hx⟩ := maskOf_spec _ h
  refine ⟨_, rfl, e, by simpa using he, hb, ?_⟩
  rcases hx with hx | hx
  · exact .inl hx
  · have hlt := getN_masks_lt all hx
    refine .inr ⟨hlt, ?_⟩
    unfold ancB
    rw [masks_get all j e.on hlt] at hx
    rw [masks_get all all.size e.on (by omega)]
    exact hx

theorem disjN_spec {l f : List Nat} (h : disjN l f = true) : ∀ i ∈ l, i ∉ f := by
  induction l with
  | nil => intro i hi; cases hi
  | cons a r ih =>
    rw [disjN, Bool.and_eq_true, Bool.not_eq_true'] at h
    intro i hi
    rcases List.mem_cons.1 hi with rfl | hi
    · exact hasN_false h.1
    · exact ih h.2 i hi

/-- What is known of what was read ahead of its time. -/
structure EntOk (C : Cx) (rd : Option (List Nat)) (e : Ent) : Prop where
  some : ∀ l, rd = some l → Keeps e.B e.w0 C.w ∧ ∀ b, e.B b → ∀ i, Live C.H i → C.ρ i = Option.some b → i ∈ l

def EntsOk (C : Cx) : List (Nat × Option (List Nat)) → List Ent → Prop
  | [], es => es = []
  | (k, rd) :: r, es => ∃ e es', es = e :: es' ∧ e.k = k ∧ EntOk C rd e ∧ EntsOk C r es'

theorem EntsOk.foot {C C' : Cx} {foot : Option (List Nat)} (hf : FootOk C C' foot) {ms : List Nat} {i : Nat} : ∀ {acc : List (Nat × Option (List Nat))} {es : List Ent}, EntsOk C acc es → accOk ms i foot acc = true →
    EntsOk C' (accNext foot acc) es ∧ ∀ e ∈ es, ancB ms e.k i = false → Keeps e.B e.w0 C.w → Keeps e.B e.w0 C'.w
  | [], es, h, _ => by
    rw [EntsOk] at h
    subst h
    exact ⟨by rw [accNext, EntsOk], fun e he => by cases he⟩
  | (k, rd) :: r, es, h, hok => by
    rw [EntsOk] at h
    obtain ⟨e, es', rfl, hk, he, hr⟩ := h
    rw [accOk, Bool.and_eq_true, Bool.or_eq_true] at hok
    obtain ⟨h1, h2⟩ := EntsOk.foot hf hr hok.2
    -- what is untouched
    have un : untouched foot rd = true → EntOk C' rd e := by
      intro hu
      refine ⟨fun l hl => ?_⟩
      subst hl
      obtain ⟨hkp, hP⟩ := he.some l rfl
      unfold untouched at hu
      split at hu
      · rename_i f l' e1
        cases e1
        have hd := disjN_spec hu
        have ff : ∀ b, e.B b → C'.w.heap[b]? = C.w.heap[b]? ∧ b < C'.w.heap.size ∧ ∀ i, Live C'.H i → C'.ρ i = some b → Live C.H i ∧ C.ρ i = some b := fun b hb =>
          hf b (hkp b hb).1 (fun i hi hl hbi => hd i (hP b hb i hl hbi) hi)
        refine ⟨fun b hb => ⟨(ff b hb).2.1, (ff b hb).1.trans (hkp b hb).2⟩, fun b hb i hl hbi => ?_⟩
        obtain ⟨g1, g2⟩ := (ff b hb).2.2 i hl hbi
        exact hP b hb i g1 g2
      · cases hu
    refine ⟨?_, ?_⟩
    · rw [accNext, EntsOk]
      refine ⟨e, es', rfl, hk, ?_, h1⟩
      cases hu : untouched foot rd with
      | true => exact un hu
      | false => exact ⟨fun l hl => by cases hl⟩
    · intro e' he'
      rcases List.mem_cons.1 he' with rfl | he'
      · intro hn hkp
        rw [hk] at hn
        rw [hn] at hok
        rcases hok.1 with h0 | h0
        · cases h0
        · unfold untouched at h0
          split at h0
          · rename_i f l
            exact ((un (by unfold untouched; exact h0)).some l rfl).1
          · cases h0
      · exact h2 e' he'

theorem EntsOk.later {C : Cx} {W : World} (hW : Below C.w.heap.size C.w W) : ∀ {acc : List (Nat × Option (List Nat))} {es : List Ent}, EntsOk C acc es → EntsOk (C.at W) acc es
  | [], es, h => h
  | (k, rd) :: r, es, h => by
    rw [EntsOk] at h ⊢
    obtain ⟨e, es', rfl, hk, he, hr⟩ := h
    exact ⟨e, es', rfl, hk, ⟨fun l hl => ⟨(he.some l hl).1.gq hW, (he.some l hl).2⟩⟩, EntsOk.later hW hr⟩

theorem firstQ_mem {q : Nat → Bool} : ∀ {l : List Nat} {j : Nat}, firstQ q l = some j → j ∈ l
  | [], j, h => by cases h
  | i :: r, j, h => by
    rw [firstQ] at h
    cases hq : q i with
    | true => rw [hq, cond_true] at h; cases h; exact List.mem_cons_self ..
    | false => rw [hq, cond_false] at h; exact List.mem_cons_of_mem _ (firstQ_mem h)

theorem agree_some {β : Type} {x y : Option β} {res : β} (h : agree x y = some res) : x = some res ∧ y = some res := by
  unfold agree at h
  split at h
  · rename_i e; exact ⟨h, e ▸ h⟩
  · cases h
theorem agree_self {β : Type} (x : Option β) : agree x x = x := by unfold agree; rw [if_pos rfl]
theorem agreeAll_some {g : Nat → Ans} {res : AV × List Obj} : ∀ {l : List Nat}, agreeAll g l = some res → ∀ i ∈ l, g i = some res
  | [], h, _, _ => by rw [agreeAll] at h; cases h
  | [a], h, i, hi => by rw [agreeAll] at h; rw [List.mem_singleton.1 hi]; exact h
  | a :: b :: r, h, i, hi => by
    rw [agreeAll] at h
    · obtain ⟨h1, h2⟩ := agree_some h
      rcases List.mem_cons.1 hi with rfl | hi
      · exact h1
      · exact agreeAll_some h2 i hi
    · intro hh; cases hh
theorem cond_noneO {α : Type} {c : Bool} {x : Option α} {r : α} (h : cond c x none = some r) : c = true ∧ x = some r := by
  cases c <;> simp_all

theorem opsY_sound [BT] (hT : TabOk P T) (hE : EnvOk P E) {inl : Nat → Ann → Code → (Ex → St → Ans) → St → Ans} (hI : CodeOk P inl) {F : Fr} {stk : List (Array Value)} {all : Array Oper} {nt : Nat} {K : St → Ans} {res : AV × List Obj} {Q : Act → World → Prop} {ds : List Deferred}
    {q : Nat → Bool} (hsel : Region.noSelect all = true)
    (hQ : ∀ s C a, K s = some res → SRel F C s a.tmps stk → nt ≤ a.tmps.size → a.defers = ds → Q a C.w) :
    ∀ (f : Nat) (listed : Array Bool) (acc : List (Nat × Option (List Nat))) (es : List Ent) {s : St} {C : Cx} {a : Act}, ClosedL .any all listed → EntsOk C acc es →
      opsY T E inl all q (masks all all.size) nt f listed acc K s = some res → SRel F C s a.tmps stk → nt ≤ a.tmps.size → a.defers = ds →
      wpAnyE P .any all (ancB (masks all all.size)) Q es f listed a C.w
  | 0, listed, acc, es, s, C, a, hcl, hes, h, hS, hsz, hd => by
    rw [opsY] at h
    split at h
    · rename_i hr
      intro w' hq
      exact ⟨hr, hQ s (C.at w') a h (at_sound hS hq) hsz hd⟩
    · cases h
  | f + 1, listed, acc, es, s, C, a, hcl, hes, h, hS, hsz, hd => by
    rw [opsY] at h
    split at h
    · rename_i hr
      intro w' hq
      refine ⟨fun _ => hQ s (C.at w') a h (at_sound hS hq) hsz hd, fun i hi => ?_⟩
      rw [hr] at hi
      cases hi
    · rename_i i0 r0 hr
      split at h
      · rename_i j hj
        obtain ⟨hfree, h⟩ := cond_none h
        have hjr : j ∈ Region.ready .any all listed := by rw [hr]; exact firstQ_mem hj
        obtain ⟨_, o, ho, _⟩ := mem_ready.1 hjr
        replace h := bindO_some h; obtain ⟨o', ho', h⟩ := h
        rw [ho] at ho'
        cases ho'
        obtain ⟨s', hS', h⟩ := wantedT_sound hS hsz h
        rcases h with ⟨hw, h⟩ | ⟨hw, h⟩
        · obtain ⟨r', v, hK, hv, hsees⟩ := opQ_sees hT hE hS' h
          obtain ⟨s3, h3, hS3, hsz3, hd3⟩ := putT_sound hS' hsz hv hK
          cases hrd : readsOf T s' o with
          | none =>
            have := opsY_sound hT hE hI hsel hQ f _ acc es (hcl.set hjr) hes (by rw [hrd] at h3; exact h3) hS3 hsz3 (hd3.trans hd)
            refine wpAnyE_first (ancB_ok all) (B := fun _ => False) (w0 := C.w) ho (Region.noSelect_spec hsel) f listed a C.w hcl (Region.free_spec ho hfree) hjr (.inl ⟨hw, fun W _ => hsees W (fun l hl => by rw [hrd] at hl; cases hl)⟩) (fun b hb => hb.elim) ?_
            exact more_ents this
          | some rd =>
          let B : Nat → Prop := fun b => C.R b ∨ ∃ i ∈ rd, Live C.H i ∧ C.ρ i = some b
          have hB : Keeps B C.w C.w := by
            rintro b (hb | ⟨i, _, hl, hb⟩)
            · exact ⟨hS.heap.rlt b hb, rfl⟩
            · exact ⟨hS.heap.blk_lt hl hb, rfl⟩
          refine wpAnyE_first (ancB_ok all) (B := B) (w0 := C.w) ho (Region.noSelect_spec hsel) f listed a C.w hcl (Region.free_spec ho hfree) hjr (.inl ⟨hw, fun W hW => hsees W (fun l hl b hb => by
            rw [hrd] at hl
            cases hl
            exact (hW b hb).2)⟩) hB ?_
          refine opsY_sound hT hE hI hsel hQ f _ _ _ (hcl.set hjr) ?_ (by rw [hrd] at h3; exact h3) hS3 hsz3 (hd3.trans hd)
          unfold addAcc
          rw [EntsOk]
          refine ⟨_, es, rfl, rfl, ⟨fun l hl => ?_⟩, hes⟩
          cases hl
          refine ⟨hB, ?_⟩
          rintro b (hb | ⟨k, hk, hlk, hbk⟩) i hl hbi
          · exact absurd hb (hS.heap.ro i b hl hbi)
          · rw [hS.heap.inj i k b hl hlk hbi hbk]; exact hk
        · obtain ⟨s3, h3, hS3, hsz3, hd3⟩ := putT_sound (v := .tup []) (u := undef) hS' hsz (by rw [VRel]; exact ⟨#[], rfl, by rw [VRels]⟩) h
          have := opsY_sound hT hE hI hsel hQ f _ acc es (hcl.set hjr) hes h3 hS3 hsz3 (hd3.trans hd)
          refine wpAnyE_first (ancB_ok all) (B := fun _ => False) (w0 := C.w) ho (Region.noSelect_spec hsel) f listed a C.w hcl (Region.free_spec ho hfree) hjr (.inr ⟨hw, rfl⟩) (fun b hb => hb.elim) ?_
          exact more_ents this
      · intro w' hq
        refine ⟨fun h0 => (by rw [hr] at h0; cases h0), fun i hi => ?_⟩
        have hi' : i ∈ i0 :: r0 := by rw [← hr]; exact hi
        obtain ⟨_, o, ho, _⟩ := mem_ready.1 hi
        have h := agreeAll_some h i hi'
        have hSw := at_sound hS hq
        have hesw := hes.later hq
        generalize hC : C.at w' = C2 at hSw hesw
        have hw : w' = C2.w := by rw [← hC]; rfl
        clear hC hS hes hq
        subst hw
        rename_i C0 _
        clear C0
        obtain ⟨C, hC⟩ : ∃ C, C = C2 := ⟨_, rfl⟩
        subst hC
        replace h := bindO_some h; obtain ⟨o', ho', h⟩ := h
        rw [ho] at ho'
        cases ho'
        obtain ⟨s', hS', h⟩ := wantedT_sound hSw hsz h
        unfold clOp
        simp only [ho]
        rcases h with ⟨hw, h⟩ | ⟨hw, h⟩
        · rw [if_pos hw]
          refine clean_mono ?_ (opL_sound hT hE hI hS' h)
          rintro u w'' ⟨foot, r', s'', C', hK, rfl, hS'', hv, hf⟩
          replace hK := cond_none hK; obtain ⟨hacc, hK⟩ := hK
          obtain ⟨s3, h3, hS3, hsz3, hd3⟩ := putT_sound hS'' hsz hv hK
          obtain ⟨g1, g2⟩ := EntsOk.foot hf hesw hacc
          exact ⟨g2, opsY_sound hT hE hI hsel hQ f _ _ _ (hcl.set hi) g1 h3 hS3 hsz3 (hd3.trans hd)⟩
        · rw [if_neg (by rw [hw]; decide)]
          obtain ⟨s3, h3, hS3, hsz3, hd3⟩ := putT_sound (v := .tup []) (u := undef) hS' hsz (by rw [VRel]; exact ⟨#[], rfl, by rw [VRels]⟩) h
          exact ⟨fun e _ _ hke => hke, opsY_sound hT hE hI hsel hQ f _ acc es (hcl.set hi) hesw h3 hS3 hsz3 (hd3.trans hd)⟩
where
  more_ents {f : Nat} {listed : Array Bool} {a : Act} {w : World} {es : List Ent} {an : Nat → Nat → Bool} {k : Nat} {w0 : World} {all : Array Oper} {Q : Act → World → Prop} (h : wpAnyE P .any all an Q es f listed a w) :
      wpAnyE P .any all an Q (⟨k, fun _ => False, w0⟩ :: es) f listed a w := by
    induction f generalizing listed a w with
    | zero => exact h
    | succ f ih =>
      intro w' hq
      refine ⟨(h w' hq).1, fun i hi => clOp_mono (fun a' w'' hk => ⟨fun e he => ?_, ih hk.2⟩) ((h w' hq).2 i hi)⟩
      rcases List.mem_cons.1 he with rfl | he
      · exact fun _ _ b hb => hb.elim
      · exact hk.1 e he
end Go.AE
namespace Go.AE
open Go.RowKit (Below)
variable {P : Program} {T : Tab} {E : Env} {hint : Hint}

theorem wp_of_loopWp {r : Option Nat} {c : Code} {Q : Exit → Act → World → Prop} {a : Act} {w : World} (h : LoopWp r P c Q a w) : (Code.loop c).wpIn (WF r) 0 P Q a w := by
  intro b k cs hro _ _
  obtain ⟨e, a', w', hq, harr⟩ := h b k cs hro
  exact ⟨e, a', w', hq, .of_steps (.one (fenced_calm (fr := b.atR a (.code (.loop c) :: k)) (WF_fn r _) (WF_room r (cs.length + 1 + 0)) rfl) stepR_loop) harr⟩

theorem loopWp_of_wp {r : Option Nat} {c : Code} {Q : Exit → Act → World → Prop} {a : Act} {w : World} (h : c.wpIn (WF r) 0 P (Exit.then (LoopWp r P c Q) Q) a w) : LoopWp r P c Q a w := by
  intro b k cs hro
  obtain ⟨e, a₁, w₁, hq, harr⟩ := h b (.inLoop c :: k) cs hro (WF_fn r _) (WF_room r _)
  cases e with
  | normal =>
    obtain ⟨e₂, a₂, w₂, hq₂, harr₂⟩ := hq b k cs hro
    exact ⟨e₂, a₂, w₂, hq₂, .of_steps (StepsIn.trans harr (.one (fenced_calm (fr := b.atR a₁ (.inLoop c :: k)) (WF_fn r _) (WF_room r (cs.length + 1 + 0)) rfl) stepR_inLoop)) harr₂⟩
  | exit id => exact ⟨_, a₁, w₁, hq, .pass (x := .inLoop c) rfl (fun _ _ => .inl (by simp)) harr⟩
  | goto l => exact ⟨_, a₁, w₁, hq, .pass (x := .inLoop c) rfl (fun _ _ => .inl (by simp)) harr⟩
  | ret => exact ⟨_, a₁, w₁, hq, .pass (x := .inLoop c) rfl (fun _ _ => .inl (by simp)) harr⟩
  | panic ch => exact ⟨_, a₁, w₁, hq, .pass (x := .inLoop c) rfl (fun _ _ => .inl (by simp)) harr⟩
  | outgrown => exact ⟨_, a₁, w₁, hq, .pass (x := .inLoop c) rfl (fun _ _ => .inl (by simp)) harr⟩

def LoopOk [BT] (P : Program) (X : Nat → Ann → Code → (Ex → St → Ans) → St → Ans) : Prop :=
  ∀ {r : Option Nat} {F : Fr} {nt : Nat} {x : Ann} {c : Code} {K : Ex → St → Ans} {s : St} {C : Cx} {a : Act} {stk : List (Array Value)} {res : AV × List Obj},
    X nt x (.loop c) K s = some res → AnnOk P nt (.loop c) x → RndOk r F → SRel F C s a.tmps stk → nt ≤ a.tmps.size → MarksOk F a.defers → LoopWp r P c (CPost F K stk nt res) a C.w

theorem SRel.blk [BT] {F : Fr} {C : Cx} {env : Tmps} {sk : List Tmps} {H : List Obj} {x y : Nat} {tmps : Array Value} {stk : List (Array Value)} (h : SRel F C ⟨env, sk, H, x⟩ tmps stk) : SRel F C ⟨env, sk, H, y⟩ tmps stk :=
  ⟨h.H, h.heap, h.env, h.stk, h.frame⟩

theorem LoopWp.mono {r : Option Nat} {c : Code} {Q Q' : Exit → Act → World → Prop} {a : Act} {w : World} (h : LoopWp r P c Q a w) (hq : ∀ e a w, Q e a w → Q' e a w) : LoopWp r P c Q' a w :=
  fun b k cs hro => let ⟨e, a', w', q, h⟩ := h b k cs hro; ⟨e, a', w', hq _ _ _ q, h⟩

theorem cutOr_sound [BT] {r : Option Nat} {nt : Nat} {F : Fr} {stk : List (Array Value)} {res : AV × List Obj} {c : Code} {f : Ann → (Ex → St → Ans) → St → Ans}
    (hf : ∀ {x : Ann} {K : Ex → St → Ans} {s : St} {C : Cx} {a : Act}, f x K s = some res → AnnOk P nt c x → RndOk r F → SRel F C s a.tmps stk → nt ≤ a.tmps.size → MarksOk F a.defers → c.wpIn (WF r) 0 P (CPost F K stk nt res) a C.w)
    {x : Ann} {K : Ex → St → Ans} {s : St} {C : Cx} {a : Act} (h : cutOr f x K s = some res) (hx : cutP P nt c x (AnnOk P nt c x)) (hro : RndOk r F) (hS : SRel F C s a.tmps stk) (hsz : nt ≤ a.tmps.size) (hd : MarksOk F a.defers) :
    c.wpIn (WF r) 0 P (CPost F K stk nt res) a C.w := by
  unfold cutOr at h
  unfold cutP at hx
  split at h
  · rename_i k0 keep G
    rw [forceSt_eq] at h
    obtain ⟨C', hw, hS'⟩ := head_sound hS keep
    obtain ⟨s'', C'', hw', hS'', h⟩ := packSt_sound hS' h
    rw [← hw, ← hw']
    exact hx h hro hS'' hsz hd
  · rename_i hne
    refine hf h ?_ hro hS hsz hd
    split at hx
    · exact absurd rfl (hne _ _ _)
    · exact hx

section
variable [BT] (hm : P.follows .mixedOrders = true) (hT : TabOk P T) (hE : EnvOk P E) {inl : Nat → Ann → Code → (Ex → St → Ans) → St → Ans} (hI : CodeOk P inl)
  {nt : Nat} {rec : Nat → Ann → Code → (Ex → St → Ans) → St → Ans} (hR : LoopOk P rec) {r : Option Nat} {stk : List (Array Value)} {res : AV × List Obj}
include hm hT hE hI hR

theorem codeW_sound : ∀ (c : Code) {F : Fr} {x : Ann} {K : Ex → St → Ans} {s : St} {C : Cx} {a : Act}, codeW T E hint inl nt rec c x K s = some res → AnnOk P nt c x → RndOk r F → SRel F C s a.tmps stk → nt ≤ a.tmps.size → MarksOk F a.defers →
    c.wpIn (WF r) 0 P (CPost F K stk nt res) a C.w := by
  intro c
  induction c with
  | skip =>
    intro F x K s C a h hx hro hS hsz hd
    rw [codeW] at h
    exact wpIn_skip ⟨F, .norm, s, C, FLe.refl F, rfl, h, rfl, hS, hsz, hd⟩
  | region id ops draw =>
    intro F x K s C a h hx hro hS hsz hd
    rw [codeW] at h
    cases draw with
    | false =>
      simp only [cond_false] at h
      refine wpIn_region ?_
      have := opsE_sound hT hE hI (Q := CPost F K stk nt res) (all := ops) (ds := a.defers) (rn := r) (fun s C a' hK hS hsz hd' => ⟨F, .norm, s, C, FLe.refl F, rfl, hK, rfl, hS, hsz, by rw [hd']; exact hd⟩) ops.toList 0 (by simp) h hS hsz rfl
      rw [List.range_eq_range']
      simpa using this
    | true =>
      simp only [cond_true] at h
      have hW : Below C.w.heap.size C.w { C.w with drawn := C.w.drawn + 1 } := ⟨rfl, rfl, rfl, Nat.le_refl _, fun _ _ => rfl⟩
      have hS1 := at_sound hS hW
      replace h := cond_none h; obtain ⟨hsel, h⟩ := h
      refine wpIn_region_any hm ?_
      refine wpAnyIn_of_E (ents := []) (an := ancB (masks ops ops.size)) (Q := fun a' w' => CPost F K stk nt res .normal a' w') (fun a' w' h => h) _ _ _ _ ?_
      refine opsY_sound hT hE hI hsel (ds := a.defers) (fun s C a' hK hS hsz hd' => ?_) ops.size _ [] [] ?_ (by rw [EntsOk]) h hS1 hsz rfl
      · obtain ⟨s', C', hw, hS', hK⟩ := normE_sound hS hK
        rw [← hw]
        exact ⟨F, .norm, s', C', FLe.refl F, rfl, hK, rfl, hS', hsz, by rw [hd']; exact hd⟩
      intro j oj _ hl
      rw [getD_replicate_false] at hl
      cases hl
  | seq p q ihx ihy =>
    intro F x K s C a h hx hro hS hsz hd
    rw [codeW] at h
    refine wpIn_seq (wpIn_mono (cutOr_sound (fun h hx hro hS hsz hd => ihx h hx hro hS hsz hd) h hx.1 hro hS hsz hd) ?_)
    rintro e a' w' ⟨F', e', s', C', hle, rfl, hK, rfl, hS', hsz', hd'⟩
    cases e' with
    | norm => exact wpIn_mono (cutOr_sound (fun h hx hro hS hsz hd => ihy h hx hro hS hsz hd) hK hx.2 (hro.le hle) hS' hsz' hd') fun _ _ _ h => h.of_le hle
    | exit i => exact ⟨F', .exit i, s', C', hle, rfl, hK, rfl, hS', hsz', hd'⟩
    | ret => exact ⟨F', .ret, s', C', hle, rfl, hK, rfl, hS', hsz', hd'⟩
    | goto l => exact ⟨F', .goto l, s', C', hle, rfl, hK, rfl, hS', hsz', hd'⟩
  | cond c p q ihx ihy =>
    intro F x K s C a h hx hro hS hsz hd
    rw [codeW] at h
    split at h
    · rename_i p hp
      have hv := opd_rel (C := C) hS.env c
      rw [hp, VRel] at hv
      refine wpIn_cond hv ?_
      cases p with
      | true => exact cutOr_sound (fun h hx hro hS hsz hd => ihx h hx hro hS hsz hd) h hx.1 hro hS hsz hd
      | false => exact cutOr_sound (fun h hx hro hS hsz hd => ihy h hx hro hS hsz hd) h hx.2 hro hS hsz hd
    · cases h
  | block id c ih =>
    intro F x K s C a h hx hro hS hsz hd
    obtain ⟨env, sk, H, blk⟩ := s
    rw [codeW] at h
    refine wpIn_block (wpIn_mono (cutOr_sound (fun h hx hro hS hsz hd => ih h hx hro hS hsz hd) h hx hro hS.blk hsz hd) ?_)
    rintro e a' w' ⟨F', e', s', C', hle, rfl, hK, rfl, hS', hsz', hd'⟩
    cases e' with
    | norm => exact ⟨F', .norm, s', C', hle, rfl, hK, rfl, hS', hsz', hd'⟩
    | exit i =>
      simp only at hK
      show if i = id then _ else _
      by_cases hi : i = id
      · subst hi
        rw [if_pos rfl]
        rw [Nat.beq_refl, cond_true] at hK
        exact ⟨F', .norm, s', C', hle, rfl, hK, rfl, hS', hsz', hd'⟩
      · rw [if_neg hi]
        rw [beq_ne hi, cond_false] at hK
        exact ⟨F', .exit i, s', C', hle, rfl, hK, rfl, hS', hsz', hd'⟩
    | ret => exact ⟨F', .ret, s', C', hle, rfl, hK, rfl, hS', hsz', hd'⟩
    | goto l => exact ⟨F', .goto l, s', C', hle, rfl, hK, rfl, hS', hsz', hd'⟩
  | loop c ih =>
    intro F x K s C a h hx hro hS hsz hd
    rw [codeW] at h
    obtain ⟨s', C', hw, hS', h⟩ := headE_sound hS h
    rw [← hw]
    split at h
    · rename_i G hG
      exact wp_of_loopWp (hx.2 G hG h hro hS' hsz hd)
    · exact wp_of_loopWp (hR h hx hro hS' hsz hd)
  | exit id =>
    intro F x K s C a h hx hro hS hsz hd
    rw [codeW] at h
    exact wpIn_exit ⟨F, .exit id, s, C, FLe.refl F, rfl, h, rfl, hS, hsz, hd⟩
  | ret =>
    intro F x K s C a h hx hro hS hsz hd
    rw [codeW] at h
    exact wpIn_ret ⟨F, .ret, s, C, FLe.refl F, rfl, h, rfl, hS, hsz, hd⟩
  | label l =>
    intro F x K s C a h hx hro hS hsz hd
    rw [codeW] at h
    exact wpIn_label ⟨F, .norm, s, C, FLe.refl F, rfl, h, rfl, hS, hsz, hd⟩
  | _ => intro F x K s C a h hx hro hS hsz hd; simp [codeW] at h
end

section
variable [BT] (hm : P.follows .mixedOrders = true) (hT : TabOk P T) (hE : EnvOk P E)
include hm hT hE

theorem codeI_sound {inl : Nat → Ann → Code → (Ex → St → Ans) → St → Ans} (hI : CodeOk P inl) : ∀ n : Nat, CodeOk P (codeI T E hint inl n) ∧ LoopOk P (codeI T E hint inl n)
  | 0 => by
    constructor
    · intro r F nt x c K s C a stk res h _ _ _ _ _
      rw [codeI] at h
      cases h
    · intro r F nt x c K s C a stk res h _ _ _ _ _
      rw [codeI] at h
      cases h
  | n + 1 => by
    obtain ⟨ih1, ih2⟩ := codeI_sound hI n
    have hL : LoopOk P (codeI T E hint inl (n + 1)) := by
      intro r F nt x c K s C a stk res h hx hro hS hsz hd
      rw [codeI] at h
      unfold roundW at h
      refine loopWp_of_wp (wpIn_mono (cutOr_sound (fun h hx hro hS hsz hd => codeW_sound hm hT hE hI ih2 c h hx hro hS hsz hd) h hx.1 hro hS hsz hd) ?_)
      rintro e a' w' ⟨F', e', s', C', hle, rfl, hK, rfl, hS', hsz', hd'⟩
      cases e' with
      | norm =>
        obtain ⟨env, sk, H, blk⟩ := s'
        simp only at hK
        rw [codeW] at hK
        obtain ⟨s'', C'', hw, hS'', hK⟩ := headE_sound (s := ⟨env, sk, H, s.blk⟩) hS'.blk hK
        refine LoopWp.mono ?_ (fun _ _ _ h => CPost.of_le hle h)
        show LoopWp r P c (CPost F' K stk nt res) a' C'.w
        rw [← hw]
        split at hK
        · rename_i G hG
          exact hx.2 G hG hK (hro.le hle) hS'' hsz' hd'
        · exact ih2 hK hx (hro.le hle) hS'' hsz' hd'
      | exit i => exact ⟨F', .exit i, s', C', hle, rfl, hK, rfl, hS', hsz', hd'⟩
      | ret => exact ⟨F', .ret, s', C', hle, rfl, hK, rfl, hS', hsz', hd'⟩
      | goto l => exact ⟨F', .goto l, s', C', hle, rfl, hK, rfl, hS', hsz', hd'⟩
    refine ⟨?_, hL⟩
    intro r F nt x c K s C a stk res h hx hro hS hsz hd
    cases c with
    | loop b => exact wp_of_loopWp (hL h hx hro hS hsz hd)
    | rangeFunc g ps as b =>
      cases x with
      | rnd y => exact hx.elim
      | _ => rw [codeI] at h <;> first | exact codeW_sound hm hT hE hI ih2 _ h hx hro hS hsz hd | (intro y e; cases e)
    | _ => rw [codeI] at h <;> first | exact codeW_sound hm hT hE hI ih2 _ h hx hro hS hsz hd | (intro b hb; cases hb; done) | (intro _ _ _ b hb; cases hb; done)

theorem codeD_sound : ∀ (d n : Nat), CodeOk P (codeD T E hint d n)
  | 0, n => by
    intro h hx hro hS hsz hd
    rw [codeD] at h
    refine (codeI_sound (hint := hint) hm hT hE (inl := fun _ _ _ _ _ => none) ?_ n).1 h hx hro hS hsz hd
    intro r F nt x c K s C a stk res h _ _ _ _ _
    cases h
  | d + 1, n => by
    intro h hx hro hS hsz hd
    rw [codeD] at h
    exact (codeI_sound (hint := hint) hm hT hE (codeD_sound d n) n).1 h hx hro hS hsz hd

end

/-- What leads to a block that stood before the call. -/
def rootAV (o : Obj) (t : Nat) : AV :=
  match o with
  | .mp _ _ _ => .map t
  | _ => .ptr t 0
def rootVal (o : Obj) (b : Nat) : Value :=
  match o with
  | .mp _ _ _ => .map (some b)
  | _ => .pointer (some ⟨b, 0, none⟩)
theorem getT_roots : ∀ (l : List Obj) (n t : Nat), getT (rootsT n l) t = .unk ∨ (getT (rootsT n l) t = rootAV (getH l (t - n)) t ∧ n ≤ t ∧ (getH l (t - n)).isBlk = true)
  | [], n, t => .inl rfl
  | o :: r, n, t => by
    have ih := getT_roots r (n + 1) t
    have step : (getT (rootsT (n + 1) r) t = rootAV (getH r (t - (n + 1))) t ∧ n + 1 ≤ t ∧ (getH r (t - (n + 1))).isBlk = true) → getT (rootsT (n + 1) r) t = rootAV (getH (o :: r) (t - n)) t ∧ n ≤ t ∧ (getH (o :: r) (t - n)).isBlk = true := by
      rintro ⟨h0, h1, h2⟩
      rw [show t - n = (t - (n + 1)) + 1 by omega, getH]
      exact ⟨h0, by omega, h2⟩
    cases o with
    | cells cs =>
      rw [rootsT, getT_cons]
      split
      · rename_i e
        subst e
        exact .inr ⟨by rw [Nat.sub_self, getH]; rfl, Nat.le_refl _, by rw [Nat.sub_self, getH]; rfl⟩
      · rcases ih with h | h
        · exact .inl h
        · exact .inr (step h)
    | bcells cs =>
      rw [rootsT, getT_cons]
      split
      · rename_i e
        subst e
        exact .inr ⟨by rw [Nat.sub_self, getH]; rfl, Nat.le_refl _, by rw [Nat.sub_self, getH]; rfl⟩
      · rcases ih with h | h
        · exact .inl h
        · exact .inr (step h)
    | btold cs =>
      rw [rootsT, getT_cons]
      split
      · rename_i e
        subst e
        exact .inr ⟨by rw [Nat.sub_self, getH]; rfl, Nat.le_refl _, by rw [Nat.sub_self, getH]; rfl⟩
      · rcases ih with h | h
        · exact .inl h
        · exact .inr (step h)
    | mp kk tt ll =>
      rw [rootsT, getT_cons]
      split
      · rename_i e
        subst e
        exact .inr ⟨by rw [Nat.sub_self, getH]; rfl, Nat.le_refl _, by rw [Nat.sub_self, getH]; rfl⟩
      · rcases ih with h | h
        · exact .inl h
        · exact .inr (step h)
    | _ =>
      rw [rootsT]
      · rcases ih with h | h
        · exact .inl h
        · exact .inr (step h)
      all_goals simp

theorem isRoot_eq {n : Nat} {a : AV} (h : isRoot n a = true) : a = .ptr n 0 := by
  unfold isRoot at h
  split at h
  · rw [Bool.and_eq_true] at h
    rw [Nat.eq_of_beq_eq_true h.1, Nat.eq_of_beq_eq_true h.2]
  · cases h
theorem isRootM_eq {n : Nat} {a : AV} (h : isRootM n a = true) : a = .map n := by
  unfold isRootM at h
  split at h
  · rw [Nat.eq_of_beq_eq_true h]
  · cases h

theorem rootsOk_spec {env : Tmps} : ∀ (l : List Obj) (n : Nat), rootsOk env n l = true → ∀ j, (getH l j).isBlk = true → getT env (n + j) = rootAV (getH l j) (n + j)
  | [], n, _, j, hj => by rw [getH] at hj; cases hj
  | o :: r, n, h, j, hj => by
    cases j with
    | zero =>
      rw [getH] at hj ⊢
      cases o <;> first | (cases hj; done) | skip
      case mp kk tt ll =>
        rw [rootsOk, Bool.and_eq_true] at h
        exact isRootM_eq h.1
      all_goals
        rw [rootsOk, Bool.and_eq_true] at h
        exact isRoot_eq h.1
    | succ j =>
      rw [getH] at hj ⊢
      have hr : rootsOk env (n + 1) r = true := by
        cases o with
        | cells cs => rw [rootsOk, Bool.and_eq_true] at h; exact h.2
        | bcells cs => rw [rootsOk, Bool.and_eq_true] at h; exact h.2
        | btold cs => rw [rootsOk, Bool.and_eq_true] at h; exact h.2
        | mp kk tt ll => rw [rootsOk, Bool.and_eq_true] at h; exact h.2
        | _ =>
          rw [rootsOk] at h
          · exact h
          all_goals simp
      have := rootsOk_spec r (n + 1) hr j hj
      rwa [show n + 1 + j = n + (j + 1) by omega] at this

def rootVals (C : Cx) : Array Value := ((List.range C.H.length).map fun i => match C.ρ i with | some b => rootVal (getH C.H i) b | none => undef).toArray
theorem rootVals_get {C : Cx} {i b : Nat} (hi : i < C.H.length) (hb : C.ρ i = some b) : (rootVals C).getD i undef = rootVal (getH C.H i) b := by
  simp [rootVals, hi, hb]
theorem isBlk_live {H : List Obj} {i : Nat} (h : (getH H i).isBlk = true) : Live H i := by
  unfold Live
  intro e
  rw [e] at h
  cases h
theorem blk_id [BT] {C : Cx} (hh : HRel C) {i : Nat} (h : (getH C.H i).isBlk = true) : ∃ b, C.ρ i = some b := by
  cases hg : getH C.H i <;> rw [hg] at h <;> first | (cases h; done) | skip
  case cells cs =>
    obtain ⟨b, _, _, _, hb, _⟩ := obj_cells hh hg
    exact ⟨b, hb⟩
  case bcells cs =>
    obtain ⟨b, _, _, hb, _⟩ := obj_bcells hh hg
    exact ⟨b, hb⟩
  case btold cs =>
    obtain ⟨b, _, _, hb, _⟩ := obj_btold hh hg
    exact ⟨b, hb⟩
  case mp kk tt ll =>
    have := hh.obj i
    rw [hg] at this
    obtain ⟨b, _, _, hb, _⟩ := this
    exact ⟨b, hb⟩
theorem rootAV_rel {C : Cx} {o : Obj} {t b : Nat} (hb : C.ρ t = some b) (hl : Live C.H t) : VRel C (rootAV o t) (rootVal o b) := by
  cases o <;> (simp only [rootAV, rootVal]; rw [VRel]; exact ⟨b, hb, rfl, hl⟩)
theorem rootAV_back {C : Cx} {o : Obj} {t b : Nat} (h : VRel C (rootAV o t) (rootVal o b)) : C.ρ t = some b ∧ Live C.H t := by
  cases o <;>
    (simp only [rootAV, rootVal] at h
     rw [VRel] at h
     obtain ⟨b', hb', e, hl⟩ := h
     have : b = b' := by simpa using e
     subst this
     exact ⟨hb', hl⟩)
theorem roots_env [BT] {C : Cx} (hh : HRel C) : ERel C (rootsT 0 C.H) (rootVals C) := by
  intro t
  rcases getT_roots C.H 0 t with h | ⟨h, _, hg⟩
  · rw [h, VRel]; trivial
  · rw [Nat.sub_zero] at hg h
    obtain ⟨b, hb⟩ := blk_id hh hg
    have hl := isBlk_live hg
    rw [h, rootVals_get (live_lt hl) hb]
    exact rootAV_rel hb hl

section
variable [BT] (hm : P.follows .mixedOrders = true) (hT : TabOk P T) (hE : EnvOk P E)
include hm hT hE
/-- A function's call: what AE finds is what it does. -/
theorem fnE_sound {F : Fr} {C : Cx} (hh : HRel C) (hF : FrameOk F C) {g : Nat} {fn : Func} {c : Code} (hf : P.funcs[g]? = some fn) (hb : fn.body = some c) {args : List AV} {us : Array Value} (hargs : VRels C args us.toList)
    {d n : Nat} {x : Ann} (hx : AnnOk P fn.ntmps c x) {K : AV → List Obj → Ans} {res : AV × List Obj} (h : fnE T E hint d n g fn.ntmps fn.results.toList x c args C.H K = some res) :
    Calls P g us C.w fun
      | .returned v, w' => ∃ r C', K r C'.H = some res ∧ C'.w = w' ∧ HRel C' ∧ FrameOk F C' ∧ VRel C' r v ∧ (∀ j b, (getH C.H j).isBlk = true → C.ρ j = some b → C'.ρ j = some b ∧ Live C'.H j)
      | _, _ => False := by
  unfold fnE at h
  obtain ⟨F1, hF1⟩ : ∃ F1 : Fr, F1 = { F.re C with base := C.w.heap.size } := ⟨_, rfl⟩
  have hF1C : FrameOk F1 C := by rw [hF1]; exact ⟨rfl, rfl, rfl, Nat.le_refl _, fun _ _ _ => rfl, fun _ h => h, fun _ h => .inl h, fun i b hl hb => .inl ⟨i, hl, hb⟩⟩
  have hback : ∀ C', FrameOk F1 C' → FrameOk F C' := fun C' h => (re_le hF).frame C' (by rw [hF1] at h; exact ⟨h.os, h.tape, h.output, h.size, h.keep, h.r0, h.rN, h.own⟩)
  have hb1 : F1.base = C.w.heap.size := by rw [hF1]
  have hw1 : F.w0.heap.size ≤ C.w.heap.size := hF.size
  have hS : SRel F1 C { env := argsEnv 0 args, stk := [rootsT 0 C.H], H := C.H, blk := Nat.mul g 4096 } (us ++ Array.replicate (fn.ntmps - us.size) undef) [rootVals C] :=
    ⟨rfl, hh, args_env hargs _, by rw [SStk]; exact ⟨_, [], rfl, roots_env hh, by rw [SStk]⟩, hF1C⟩
  refine (callsIn_wide (n := 0)).1 (callsIn_of_wp_marks hf hb trivial (wpIn_mono (codeD_sound (hint := hint) hm hT hE d n (r := none) (a := { tmps := us ++ Array.replicate (fn.ntmps - us.size) undef, defers := [] }) h hx (RndOk.none _) hS (by simp; omega) ⟨by rw [hF1]; exact Nat.le_refl _, trivial⟩) ?_))
  rintro e a' w' ⟨F2, e', s', C0, hle, rfl, hK, rfl, hS0, hsz, hd⟩
  have fin : (match s'.stk with
      | [env] => cond (rootsOk env 0 C.H) (resultsOf T s' fn.results.toList [] fun vs => packV C.H.length (tupled vs) s'.H K) none
      | _ => none) = some res → ∀ W, Priv F2.base C0 W →
      ∃ v, (results fn a'.tmps).run P W = .ok v W ∧ ∃ r C'', K r C''.H = some res ∧ C''.w = W ∧ HRel C'' ∧ FrameOk F C'' ∧ VRel C'' r v ∧ (∀ j b, (getH C.H j).isBlk = true → C.ρ j = some b → C''.ρ j = some b ∧ Live C''.H j) := by
    intro hr W hW
    obtain ⟨C', hC'⟩ : ∃ C', C' = C0.at W := ⟨_, rfl⟩
    have hS' : SRel F C' s' a'.tmps [rootVals C] := by
      rw [hC']
      exact priv_sound (F := F) ⟨hS0.H, hS0.heap, hS0.env, hS0.stk, hback _ (hle.frame _ hS0.frame)⟩ (by rw [hle.base, hb1]; exact hw1) hW
    have hCw : C'.w = W := by rw [hC']; rfl
    rw [← hCw]
    split at hr
    · rename_i env hst
      replace hr := cond_none hr; obtain ⟨hro, hr⟩ := hr
      obtain ⟨rs, v, h1, h2, h3⟩ := results_sound hT hS' hr
      rw [← hS'.H] at h1
      obtain ⟨r', C'', hw'', hh'', hF'', hv'', hK'', hkeep⟩ := packV_sound hS'.heap hS'.frame h3 h1
      refine ⟨v, h2, r', C'', hK'', hw'', hh'', hF'', hv'', ?_⟩
      intro j b hg hbj
      have hl : Live C.H j := isBlk_live hg
      have hlt := live_lt hl
      have hst' := hS'.stk
      rw [hst, SStk] at hst'
      obtain ⟨v', vs', he, henv, _⟩ := hst'
      cases he
      have hv := henv j
      have hroot := rootsOk_spec C.H 0 hro j hg
      rw [Nat.zero_add] at hroot
      rw [hroot, rootVals_get hlt hbj] at hv
      obtain ⟨hb', hlv⟩ := rootAV_back hv
      exact hkeep j hlt b hb' hlv
    · cases hr
  cases e' with
  | norm => exact leaves_marks _ F2 C0 hd.2 hS0.frame (fun W hW => fin hK W hW)
  | ret => exact leaves_marks _ F2 C0 hd.2 hS0.frame (fun W hW => fin hK W hW)
  | exit i => cases hK
  | goto l => cases hK

/-- A function's specification, found by AE. -/
theorem funcOk_of {g : Nat} {fn : Func} {c : Code} (hf : P.funcs[g]? = some fn) (hb : fn.body = some c) (hn : fn.name ≠ "runtime.NumGoroutine") {Ff : List AV → List Obj → (AV → List Obj → Ans) → Ans} {d : Nat} {x : Ann} (hx : AnnOk P fn.ntmps c x)
    (h : ∀ args H K res, Ff args H K = some res → ∃ n, fnE T E hint d n g fn.ntmps fn.results.toList x c args H K = some res) : FuncOk P g Ff := by
  refine ⟨⟨fn, hf, by rw [hb]; rfl, hn⟩, fun C args us K res Fr hh hF hargs hFf => ?_⟩
  obtain ⟨n, hn⟩ := h args C.H K res hFf
  exact fnE_sound (hint := hint) hm hT hE hh hF hf hb hargs hx hn
end

/-- Answers that lead nowhere and tell their value. -/
def AV.scal : AV → Bool
  | .bool _ => true
  | .int _ _ => true
  | .str _ => true
  | .nilp => true
  | .nils => true
  | .nilm => true
  | .nilf => true
  | .nili => true
  | _ => false
mutual
def AV.closed1 : AV → Bool
  | .tup vs => AV.closedL vs
  | .agg vs => AV.closedL vs
  | .ifc _ v => v.closed1
  | v => v.scal
def AV.closedL : List AV → Bool
  | [] => true
  | v :: r => v.closed1 && AV.closedL r
end
mutual
def concl : AV → Value
  | .tup vs => .tuple (conclL vs).toArray
  | .agg vs => .agg (conclL vs).toArray
  | .ifc t v => .iface t (concl v)
  | v => conc0 v
def conclL : List AV → List Value
  | [] => []
  | v :: r => concl v :: conclL r
end
theorem scal_eq {C : Cx} {a : AV} {v : Value} (hc : a.scal = true) : VRel C a v ↔ v = conc0 a := by
  cases a <;> first | (cases hc; done) | (rw [VRel]; rfl)
mutual
theorem closed1_eq {C : Cx} : ∀ {a : AV} {v : Value}, a.closed1 = true → (VRel C a v ↔ v = concl a)
  | .tup vs, v, hc => by
    rw [AV.closed1] at hc
    rw [VRel, concl]
    constructor
    · rintro ⟨us, rfl, h⟩
      congr 1
      rw [← toArray_toList us, (closeds_eq hc).1 h]
    · intro e
      exact ⟨_, e, (closeds_eq hc).2 rfl⟩
  | .agg vs, v, hc => by
    rw [AV.closed1] at hc
    rw [VRel, concl]
    constructor
    · rintro ⟨us, rfl, h⟩
      congr 1
      rw [← toArray_toList us, (closeds_eq hc).1 h]
    · intro e
      exact ⟨_, e, (closeds_eq hc).2 rfl⟩
  | .ifc t x, v, hc => by
    rw [AV.closed1] at hc
    rw [VRel, concl]
    constructor
    · rintro ⟨y, rfl, h⟩
      rw [(closed1_eq hc).1 h]
    · intro e
      exact ⟨_, e, (closed1_eq hc).2 rfl⟩
  | .bool _, v, _ => by rw [concl]; exact scal_eq rfl; all_goals simp
  | .int _ _, v, _ => by rw [concl]; exact scal_eq rfl; all_goals simp
  | .str _, v, _ => by rw [concl]; exact scal_eq rfl; all_goals simp
  | .nilp, v, _ => by rw [concl]; exact scal_eq rfl; all_goals simp
  | .nils, v, _ => by rw [concl]; exact scal_eq rfl; all_goals simp
  | .nilm, v, _ => by rw [concl]; exact scal_eq rfl; all_goals simp
  | .nilf, v, _ => by rw [concl]; exact scal_eq rfl; all_goals simp
  | .nili, v, _ => by rw [concl]; exact scal_eq rfl; all_goals simp
  | .unk, v, hc => by simp [AV.closed1, AV.scal] at hc
  | .gh _, v, hc => by simp [AV.closed1, AV.scal] at hc
  | .ptr _ _, v, hc => by simp [AV.closed1, AV.scal] at hc
  | .eptr _ _ _, v, hc => by simp [AV.closed1, AV.scal] at hc
  | .rptr _ _ _, v, hc => by simp [AV.closed1, AV.scal] at hc
  | .own _, v, hc => by simp [AV.closed1, AV.scal] at hc
  | .sub _ _ _ _, v, hc => by simp [AV.closed1, AV.scal] at hc
  | .ro _ _, v, hc => by simp [AV.closed1, AV.scal] at hc
  | .map _, v, hc => by simp [AV.closed1, AV.scal] at hc
  | .fn _ _ _, v, hc => by simp [AV.closed1, AV.scal] at hc
theorem closeds_eq {C : Cx} : ∀ {l : List AV} {vs : List Value}, AV.closedL l = true → (VRels C l vs ↔ vs = conclL l)
  | [], vs, _ => by rw [VRels, conclL]
  | a :: r, vs, hc => by
    rw [AV.closedL, Bool.and_eq_true] at hc
    rw [VRels, conclL]
    constructor
    · rintro ⟨v, vs', rfl, h1, h2⟩
      rw [(closed1_eq hc.1).1 h1, (closeds_eq hc.2).1 h2]
    · intro e
      exact ⟨concl a, conclL r, e, (closed1_eq hc.1).2 rfl, (closeds_eq hc.2).2 rfl⟩
end

section
variable [BT] (hm : P.follows .mixedOrders = true) (hT : TabOk P T) (hE : EnvOk P E)
include hm hT hE
end

/-! ### Loops' summaries -/
/-- A part of a code: 0 the first, 1 the second. -/
def codeAt : List Nat → Code → Code
  | [], c => c
  | 0 :: r, .seq a _ => codeAt r a
  | _ :: r, .seq _ b => codeAt r b
  | 0 :: r, .cond _ a _ => codeAt r a
  | _ :: r, .cond _ _ b => codeAt r b
  | _ :: r, .block _ c => codeAt r c
  | _ :: r, .loop c => codeAt r c
  | _ :: r, .rangeFunc _ _ _ c => codeAt r c
  | _ :: _, c => c

theorem annOk_sum [BT] {nt : Nat} {c : Code} {G : (Ex → St → Ans) → St → Ans} (h : LSum P nt c G) : AnnOk P nt (.loop c) (.sum G) := ⟨annOk_none P nt c, fun G' e => by cases e; exact h⟩
theorem annOk_loop [BT] {nt : Nat} {c : Code} {x : Ann} (h : cutP P nt c x (AnnOk P nt c x)) : AnnOk P nt (.loop c) (.loop x) := ⟨h, fun G' e => by cases e⟩
theorem annOk_pack [BT] {nt : Nat} {c : Code} {x : Ann} {k0 : Nat} (h : AnnOk P nt (.loop c) x) : AnnOk P nt (.loop c) (.pack k0 x) := ⟨h.1, fun G' e => h.2 G' e⟩

section
variable [BT] (hm : P.follows .mixedOrders = true) (hT : TabOk P T) (hE : EnvOk P E)
include hm hT hE
/-- A summary out of the rounds. -/
theorem lsum_of {nt d : Nat} {c : Code} {x : Ann} (hx : AnnOk P nt (.loop c) x) {G : (Ex → St → Ans) → St → Ans}
    (h : ∀ K s res, G K s = some res → ∃ m n, codeI T E hint (codeD T E hint d m) n nt x (.loop c) K s = some res) : LSum P nt c G := by
  intro r F K s C a stk res hG hro hS hsz hd
  obtain ⟨m, n, hn⟩ := h K s res hG
  exact (codeI_sound (hint := hint) hm hT hE (codeD_sound (hint := hint) hm hT hE d m) n).2 hn hx hro hS hsz hd
end

/-- What stands behind a loop may be forgotten. -/
theorem LSum.forget [BT] {nt : Nat} {c : Code} {G : (Ex → St → Ans) → St → Ans} (h : LSum P nt c G) (keep : List Nat) : LSum P nt c (fun K s => G (fun e s' => K e (s'.head keep)) s) := by
  intro r F K s C a stk res hG hro hS hsz hd b k cs hb
  obtain ⟨e, a', w', ⟨F', e', s', C', hle, he, hK, hw, hS', hsz', hd'⟩, harr⟩ := h hG hro hS hsz hd b k cs hb
  obtain ⟨C'', hw', hS''⟩ := head_sound hS' keep
  exact ⟨e, a', w', ⟨F', e', _, C'', hle, he, hK, hw'.trans hw, hS'', hsz', hd'⟩, harr⟩

/-- A continuation that forgets. -/
def weak (keep : List Nat) (K : Ex → St → Ans) : Ex → St → Ans := fun e s => K e (s.head keep)

section
variable [BT] (hm : P.follows .mixedOrders = true) (hT : TabOk P T) (hE : EnvOk P E)
include hm hT hE
/-- A summary out of the rounds, what stands behind the loop forgotten. -/
theorem lsum_weak {nt d : Nat} (keep : List Nat) {c : Code} {x : Ann} (hx : AnnOk P nt (.loop c) x) {G : (Ex → St → Ans) → St → Ans}
    (h : ∀ K s res, G K s = some res → ∃ m n, codeI T E hint (codeD T E hint d m) n nt x (.loop c) (weak keep K) s = some res) : LSum P nt c G := by
  intro r F K s C a stk res hG hro hS hsz hd b k cs hb
  obtain ⟨m, n, hn⟩ := h K s res hG
  obtain ⟨e, a', w', ⟨F', e', s', C', hle, he, hK, hw, hS', hsz', hd'⟩, harr⟩ := (codeI_sound (hint := hint) hm hT hE (codeD_sound (hint := hint) hm hT hE d m) n).2 hn hx hro hS hsz hd b k cs hb
  obtain ⟨C'', hw', hS''⟩ := head_sound hS' keep
  exact ⟨e, a', w', ⟨F', e', _, C'', hle, he, hK, hw'.trans hw, hS'', hsz', hd'⟩, harr⟩
end
end Go.AE
namespace Go.AE
variable {P : Program} {T : Tab}

/-! ### Which data type a type of the program is -/
def fitC (T : Tab) (g : Ty → Nat → Bool) (y : Ty) (t : Nat) : Bool :=
  match Tab.get T t with
  | some i => cond i.isAgg (g (.st y) t) (g y t)
  | none => false
def isUnit : Ty → Bool
  | .unit => true
  | _ => false
def fitFs (T : Tab) (g : Ty → Nat → Bool) : Ty → List (Nat × Nat) → Nat → Bool
  | y, [], _ => isUnit y
  | y, [(t, off)], o => Nat.beq off o && fitC T g y t
  | .pair a b, (t, off) :: r, o => Nat.beq off o && fitC T g a t && fitFs T g b r (o + a.size)
  | _, _ :: _ :: _, _ => false
def fitAs (T : Tab) (g : Ty → Nat → Bool) (t : Nat) : Ty → Nat → Bool
  | y, 0 => isUnit y
  | y, 1 => fitC T g y t
  | .pair a b, n + 2 => fitC T g a t && fitAs T g t b (n + 1)
  | _, _ + 2 => false
def fit (T : Tab) : Nat → Ty → Nat → Bool
  | 0, _, _ => false
  | n + 1, y, t => match Tab.get T t with
    | none => false
    | some i => Nat.beq i.size y.size && (match y, i.k with
      | .int k, .sc => match kindOf i with
        | some k' => match decEq k' k with | isTrue _ => true | isFalse _ => false
        | none => false
      | .bool, .sc => match i.zero with
        | [.bool _] => true
        | _ => false
      | .str, .sc => isStr i
      | .list e, .slice e' => fit T n e e' && Nat.ble 1 e.size
      | .st f, .struct fs => fitFs T (fit T n) f fs 0
      | .st f, .array m e => fitAs T (fit T n) e f m
      | _, _ => false)

def Ty.wf : (t : Ty) → t.T → Prop
  | .int k, n => k.min ≤ n ∧ n ≤ k.max
  | .bool, _ => True
  | .str, s => s.length ≤ maxLen
  | .unit, _ => True
  | .st f, x => f.wf x
  | .pair a b, x => a.wf x.1 ∧ b.wf x.2
  | .list e, l => l.length ≤ maxLen ∧ ∀ x ∈ l, e.wf x

theorem fit_size [BT] {n : Nat} {y : Ty} {t : Nat} (hT : TabOk P T) (h : fit T n y t = true) : P.cellsOf t = y.size := by
  cases n with
  | zero => cases h
  | succ n =>
    rw [fit] at h
    split at h
    · cases h
    · rename_i i hi
      obtain ⟨d, info, z, hok⟩ := hT t i hi
      simp only [Bool.and_eq_true] at h
      have := Nat.eq_of_beq_eq_true h.1
      simp [Program.cellsOf, hok.inf, hok.size, this]

section
variable {H : Type} {enc : TypeId × Value → H} {w : World} {base : Nat} {spare : Nat → Bool} {held : Bool}

/-- All that may be read. -/
abbrev Whole (w : World) : Nat → Prop := fun b => b < w.heap.size

def Opens (P : Program) (enc : TypeId × Value → H) (w : World) (base : Nat) (spare : Nat → Bool) (held : Bool) (g : Ty → Nat → Bool) : Prop :=
  ∀ (y : Ty) (t : Nat) (m : Nat) (cs : List Value) (x : DataW H × List MemPlace), g y t = true → DataW.trod enc P w base spare held m t cs = some x → ∃ v : y.T, DRel (Whole w) w y v cs ∧ y.wf v

theorem open_fitC [BT] {g : Ty → Nat → Bool} (hT : TabOk P T) (hg : Opens P enc w base spare held g) (hs : ∀ y t, g y t = true → P.cellsOf t = y.size) {y : Ty} {t m : Nat} {cs : List Value} {x : DataW H × List MemPlace}
    (h : fitC T g y t = true) (hx : DataW.trod enc P w base spare held m t cs = some x) : P.cellsOf t = y.size ∧ ∃ v : y.T, DRel (Whole w) w y v cs ∧ y.wf v := by
  unfold fitC at h
  split at h
  · rename_i i hi
    cases ha : i.isAgg with
    | true =>
      rw [ha, cond_true] at h
      obtain ⟨v, hv, hw⟩ := hg (.st y) t m cs x h hx
      exact ⟨(hs (.st y) t h).trans rfl, v, hv, hw⟩
    | false =>
      rw [ha, cond_false] at h
      obtain ⟨v, hv, hw⟩ := hg y t m cs x h hx
      exact ⟨hs _ _ h, v, hv, hw⟩
  · cases h

theorem fitC_size {g : Ty → Nat → Bool} (hs : ∀ y t, g y t = true → P.cellsOf t = y.size) {y : Ty} {t : Nat} (h : fitC T g y t = true) : P.cellsOf t = y.size := by
  unfold fitC at h
  split at h
  · rename_i i hi
    cases ha : i.isAgg with
    | true => rw [ha, cond_true] at h; exact (hs (.st y) t h).trans rfl
    | false => rw [ha, cond_false] at h; exact hs _ _ h
  · cases h

theorem isUnit_eq {y : Ty} (h : isUnit y = true) : y = .unit := by
  cases y <;> first | rfl | cases h

theorem open_fitFs [BT] {g : Ty → Nat → Bool} (hT : TabOk P T) (hg : Opens P enc w base spare held g) (hs : ∀ y t, g y t = true → P.cellsOf t = y.size) {cs : List Value} {m : Nat} :
    ∀ (fs : List (Nat × Nat)) (y : Ty) (o : Nat), fitFs T g y fs o = true → cs.length = o + y.size →
      (∀ f ∈ fs, ∃ x, DataW.trod enc P w base spare held m f.1 ((cs.drop f.2).take (P.cellsOf f.1)) = some x) → ∃ v : y.T, DRel (Whole w) w y v (cs.drop o) ∧ y.wf v
  | [], y, o, h, hl, _ => by
    have hu : isUnit y = true := by rw [fitFs] at h; exact h
    obtain rfl := isUnit_eq hu
    refine ⟨(), ?_, trivial⟩
    rw [DRel]
    simp only [Ty.size] at hl
    rw [List.drop_eq_nil_iff]
    omega
  | [(t, off)], y, o, h, hl, hf => by
    rw [fitFs] at h
    simp only [Bool.and_eq_true] at h
    obtain rfl := Nat.eq_of_beq_eq_true h.1
    obtain ⟨x, hx⟩ := hf (t, off) (by simp)
    obtain ⟨h1, v, hv, hw⟩ := open_fitC hT hg hs h.2 hx
    refine ⟨v, ?_, hw⟩
    dsimp only at hv
    rw [h1, List.take_of_length_le (by simp; omega)] at hv
    exact hv
  | (t, off) :: q :: r, y, o, h, hl, hf => by
    cases y with
    | pair a b =>
      rw [fitFs] at h
      · simp only [Bool.and_eq_true] at h
        obtain ⟨⟨ho, ha⟩, hb⟩ := h
        obtain rfl := Nat.eq_of_beq_eq_true ho
        obtain ⟨x, hx⟩ := hf (t, off) (by simp)
        obtain ⟨h1, v, hv, hw⟩ := open_fitC hT hg hs ha hx
        obtain ⟨v', hv', hw'⟩ := open_fitFs hT hg hs (q :: r) b (off + a.size) hb (by rw [hl, Ty.size]; omega) (fun f hm => hf f (List.mem_cons_of_mem _ hm))
        refine ⟨(v, v'), ?_, hw, hw'⟩
        rw [DRel]
        dsimp only at hv
        rw [h1] at hv
        refine ⟨_, _, ?_, hv, hv'⟩
        rw [← List.drop_drop, List.take_append_drop]
      · simp
    | _ => simp [fitFs] at h

theorem open_fitAs [BT] {g : Ty → Nat → Bool} (hT : TabOk P T) (hg : Opens P enc w base spare held g) (hs : ∀ y t, g y t = true → P.cellsOf t = y.size) {t m : Nat} :
    ∀ (n : Nat) (y : Ty) (cs : List Value), fitAs T g t y n = true → cs.length = y.size →
      (∀ i, i < n → ∃ x, DataW.trod enc P w base spare held m t ((cs.drop (i * P.cellsOf t)).take (P.cellsOf t)) = some x) → ∃ v : y.T, DRel (Whole w) w y v cs ∧ y.wf v
  | 0, y, cs, h, hl, _ => by
    have hu : isUnit y = true := by rw [fitAs] at h; exact h
    obtain rfl := isUnit_eq hu
    refine ⟨(), ?_, trivial⟩
    rw [DRel]
    simp only [Ty.size] at hl
    exact List.length_eq_zero_iff.1 hl
  | 1, y, cs, h, hl, hf => by
    rw [fitAs] at h
    obtain ⟨x, hx⟩ := hf 0 (by omega)
    obtain ⟨h1, v, hv, hw⟩ := open_fitC hT hg hs h hx
    refine ⟨v, ?_, hw⟩
    rw [h1, Nat.zero_mul, List.drop_zero, List.take_of_length_le (by omega)] at hv
    exact hv
  | n + 2, y, cs, h, hl, hf => by
    cases y with
    | pair a b =>
      rw [fitAs] at h
      simp only [Bool.and_eq_true] at h
      obtain ⟨ha, hb⟩ := h
      obtain ⟨x, hx⟩ := hf 0 (by omega)
      obtain ⟨h1, v, hv, hw⟩ := open_fitC hT hg hs ha hx
      rw [Nat.zero_mul, List.drop_zero] at hv
      obtain ⟨v', hv', hw'⟩ := open_fitAs hT hg hs (n + 1) b (cs.drop (P.cellsOf t)) hb (by rw [List.length_drop, hl, Ty.size, h1]; omega) (fun i hi => by
        obtain ⟨x, hx⟩ := hf (i + 1) (by omega)
        refine ⟨x, ?_⟩
        rw [List.drop_drop, show P.cellsOf t + i * P.cellsOf t = (i + 1) * P.cellsOf t by rw [Nat.add_mul]; omega]
        exact hx)
      refine ⟨(v, v'), ?_, hw, hw'⟩
      rw [DRel]
      exact ⟨_, _, (List.take_append_drop _ _).symm, hv, hv'⟩
    | _ => simp [fitAs] at h

theorem addr_add {a : Addr} {n : Nat} (h : a.spot = none) : a.add n = ⟨a.block, a.off + n, none⟩ := by
  unfold Addr.add
  split
  · rename_i e; subst e; cases a; simp_all
  · rfl

theorem spot_none {a : Addr} {u : Value} (h : w.cell? a = some u) : a.spot = none := by
  unfold World.cell? at h
  split at h
  · split at h
    · cases h
    · rename_i hs; simpa using hs
  · cases h
theorem cell_lt {a : Addr} {u : Value} (h : w.cell? a = some u) : a.block < w.heap.size := by
  unfold World.cell? at h
  split at h
  · rename_i e; exact (Array.getElem?_eq_some_iff.1 e).1
  · cases h

/-- A choice for each place of a list. -/
theorem choose_list {α : Type} {p : Nat → α → Prop} : ∀ (n : Nat), (∀ i, i < n → ∃ a, p i a) → ∃ l : List α, l.length = n ∧ ∀ i a, l[i]? = some a → p i a
  | 0, _ => ⟨[], rfl, by simp⟩
  | n + 1, h => by
    obtain ⟨l, hl, hp⟩ := choose_list n fun i hi => h i (by omega)
    obtain ⟨a, ha⟩ := h n (by omega)
    refine ⟨l ++ [a], by simp [hl], fun i x hi => ?_⟩
    rcases Nat.lt_trichotomy i n with hlt | rfl | hgt
    · rw [List.getElem?_append_left (by omega)] at hi
      exact hp i x hi
    · rw [List.getElem?_append_right (by omega), hl] at hi
      simp at hi
      subst hi
      exact ha
    · rw [List.getElem?_eq_none (by simp; omega)] at hi
      cases hi

theorem open_fit [BT] (hT : TabOk P T) : ∀ n : Nat, Opens P enc w base spare held (fit T n)
  | 0 => fun y t m cs x h => by cases h
  | n + 1 => fun y t m cs x h hx => by
    have ih := open_fit hT n
    have hs : ∀ y t, fit T n y t = true → P.cellsOf t = y.size := fun y t h => fit_size hT h
    have hsz := fit_size hT h
    rw [fit] at h
    split at h
    · cases h
    · rename_i i hi
      obtain ⟨d, info, z, hok⟩ := hT t i hi
      simp only [Bool.and_eq_true] at h
      obtain ⟨hszb, h⟩ := h
      have hk := hok.kind
      split at h
      · rename_i k hkk
        split at h
        · rename_i k' hk'
          split at h
          · rename_i e _
            subst e
            have hd := kindOf_desc hok hk'
            obtain ⟨v, rfl, _, hw⟩ := DataW.trod_int (by rw [hok.under, hd]) hx
            refine ⟨v, by rw [DRel], ?_⟩
            rw [Ty.wf]
            simpa [Lit.wf] using hw
          · cases h
        · cases h
      · rename_i hkk
        split at h
        · rename_i b hz
          rw [hkk] at hk
          simp only [kindOk, hz] at hk
          have hd : d = .bool := by cases d <;> simp_all [scDesc]
          obtain ⟨v, rfl, _⟩ := DataW.trod_bool (by rw [hok.under, hd]) hx
          exact ⟨v, by rw [DRel], trivial⟩
        · cases h
      · rename_i hkk
        have hd := isStr_desc hok hkk h
        obtain ⟨v, rfl, _, hl⟩ := DataW.trod_string (by rw [hok.under, hd]) hx
        refine ⟨v.data.toList, by rw [DRel], ?_⟩
        rw [Ty.wf]
        rw [Array.length_toList]
        exact hl
      · rename_i e e' hkk
        rw [hkk] at hk
        obtain ⟨rfl, _⟩ := hk
        simp only [Bool.and_eq_true] at h
        have h1 := Nat.le_of_ble_eq_true h.2
        have hse := hs _ _ h.1
        rcases DataW.trod_slice hok.under hx with ⟨rfl, _⟩ | ⟨a, len, cap, elems, rest, m', _, rfl, _, hb, hl, hm, hlen, hel, _, _⟩
        · exact ⟨[], by rw [DRel]; exact ⟨none, 0, rfl, Nat.le_refl _, .inl rfl⟩, by rw [Ty.wf]; simp⟩
        · have key : ∀ i, i < len → ∃ v : e.T, (∃ us, us.length = e.size ∧ DRel (Whole w) w e v us ∧ ∀ j u, us[j]? = some u → w.cell? ((a.add (i * e.size)).add j) = some u) ∧ e.wf v := by
            intro i hi
            have := hel i hi
            rw [List.getElem?_eq_getElem (by omega)] at this
            obtain ⟨cs', hc, hy⟩ := Option.bind_eq_some_iff.1 this
            obtain ⟨v, hv, hw⟩ := ih e e' m' cs' _ h.1 hy
            obtain ⟨_, hcl, hcells⟩ := World.cells?_some hc
            rw [hse] at hcl hcells
            refine ⟨v, ⟨cs', hcl, hv, fun j u hj => ?_⟩, hw⟩
            have hjl := (List.getElem?_eq_some_iff.1 hj).1
            rw [hcells j (by omega)]
            exact hj
          obtain ⟨l, hll, hlp⟩ := choose_list len key
          refine ⟨l, ?_, by rw [Ty.wf]; exact ⟨by omega, fun x hx => by
            obtain ⟨i, hi, rfl⟩ := List.mem_iff_getElem.1 hx
            exact (hlp i _ (List.getElem?_eq_getElem hi)).2⟩⟩
          rw [DRel]
          refine ⟨some a, cap, by rw [hll], by omega, ?_⟩
          by_cases h0 : l = []
          · exact .inl h0
          · right
            have hpos : 0 < l.length := List.length_pos_iff.2 h0
            obtain ⟨⟨us, hul, _, hu⟩, _⟩ := hlp 0 _ (List.getElem?_eq_getElem hpos)
            have hc0 : w.cell? a = some (us[0]'(by omega)) := by
              have := hu 0 _ (List.getElem?_eq_getElem (by omega))
              simpa [Addr.add] using this
            have hsp := spot_none hc0
            refine ⟨a.block, a.off, ?_, cell_lt hc0, fun i x hi => ?_⟩
            · cases a; simp_all
            · obtain ⟨⟨us, _, hd, hu⟩, _⟩ := hlp i x hi
              refine ⟨us, hd, fun j u hj => ?_⟩
              have := hu j u hj
              rw [addr_add hsp, addr_add rfl] at this
              rw [← Nat.add_assoc]
              exact this
      · rename_i f fs hkk
        rw [hkk] at hk
        obtain ⟨fields, rfl, hfs, _⟩ := hk
        obtain ⟨xs, m', _, _, hl, hxl, hxf⟩ := DataW.trod_struct hok.under hx
        obtain ⟨v, hv, hw⟩ := open_fitFs (cs := cs) (m := m') hT ih hs fs f 0 h (by rw [hl, hsz]; simp [Ty.size]) (fun q hq => by
          rw [← hfs] at hq
          obtain ⟨fl, hfl, rfl⟩ := List.mem_map.1 hq
          obtain ⟨j, hj, rfl⟩ := List.mem_iff_getElem.1 hfl
          have hj' : j < fields.size := by simpa using hj
          have := hxf j fields[j] (by simp [hj'])
          rw [List.getElem?_eq_getElem (by omega)] at this
          exact ⟨_, by simpa using this⟩)
        exact ⟨v, by rw [DRel]; simpa using hv, hw⟩
      · rename_i f q e hkk
        rw [hkk] at hk
        simp only [kindOk] at hk
        subst hk
        obtain ⟨xs, m', _, _, hl, hxl, hxf⟩ := DataW.trod_array hok.under hx
        obtain ⟨v, hv, hw⟩ := open_fitAs (m := m') hT ih hs q f cs h (by rw [hl, hsz]; simp [Ty.size]) (fun i hi => by
          have := hxf i hi
          rw [List.getElem?_eq_getElem (by omega)] at this
          exact ⟨_, this⟩)
        exact ⟨v, by rw [DRel]; exact hv, hw⟩
      · cases h
end
end Go.AE
namespace Go.AE
open Go.RowKit (Below)
open Go.ChangeShapes Go.WideShapes Go.RowKit
variable {P : Program} {T : Tab} {E : Env} {hint : Hint}

/-- The arguments' types and values. -/
def TysT : List Ty → Type
  | [] => Unit
  | y :: r => y.T × TysT r
def TysEnc : (l : List Ty) → TysT l → List AV
  | [], _ => []
  | y :: r, x => AE.enc y x.1 :: TysEnc r x.2
def TysWf : (l : List Ty) → TysT l → Prop
  | [], _ => True
  | y :: r, x => y.wf x.1 ∧ TysWf r x.2
def Ty.argOk : Ty → Bool
  | .unit => false
  | .pair _ _ => false
  | _ => true
def fits (T : Tab) : List Ty → List Nat → Bool
  | [], [] => true
  | y :: r, t :: ts => y.argOk && fit T 100 y t && fits T r ts
  | _, _ => false

section
variable {H : Type} {enc : TypeId × Value → H} {W : World}

theorem enc_rel [BT] {ρ : Nat → Option Nat} {Hs : List Obj} (hT : TabOk P T) {y : Ty} {t : Nat} {v : Value} {d : DataW H} {p : List MemPlace} {r : Reach} {b0 base : Nat} {spare : Nat → Bool} {held : Bool} {n : Nat}
    (hu : y.argOk = true) (h : fit T n y t = true)
    (hval : Value.okWide P W r b0 t v) (hd : DataW.Trod enc P W base spare held t v d p) : ∃ x : y.T, VRel ⟨Whole W, ρ, Hs, W⟩ (AE.enc y x) v ∧ y.wf x := by
  obtain ⟨m, hm⟩ := hd
  obtain ⟨x, hx, hw⟩ := open_fit hT n y t m _ _ h hm
  refine ⟨x, ?_, hw⟩
  cases n with
  | zero => cases h
  | succ n =>
    rw [fit] at h
    split at h
    · cases h
    · rename_i i hi
      obtain ⟨dd, info, z, hok⟩ := hT t i hi
      simp only [Bool.and_eq_true] at h
      obtain ⟨hszb, h⟩ := h
      have hk := hok.kind
      split at h
      · rename_i k hkk
        split at h
        · rename_i k' hk'
          split at h
          · rename_i e _
            subst e
            obtain ⟨q, rfl⟩ := okWide_int (hok.under.trans (by rw [kindOf_desc hok hk'])) hval
            rw [DRel] at hx
            simp [Value.cells] at hx
            obtain ⟨_, rfl⟩ := hx
            rw [AE.enc, VRel]
          · cases h
        · cases h
      · rename_i hkk
        split at h
        · rename_i b hz
          rw [hkk] at hk
          simp only [kindOk, hz] at hk
          have hd : dd = .bool := by cases dd <;> simp_all [scDesc]
          obtain ⟨q, rfl⟩ := okWide_bool (hok.under.trans (by rw [hd])) hval
          rw [DRel] at hx
          simp [Value.cells] at hx
          subst hx
          rw [AE.enc, VRel]
        · cases h
      · rename_i hkk
        obtain ⟨q, rfl⟩ := okWide_string (hok.under.trans (by rw [isStr_desc hok hkk h])) hval
        rw [DRel] at hx
        simp [Value.cells] at hx
        subst hx
        rw [AE.enc, VRel]
      · rename_i e e' hkk
        rw [hkk] at hk
        obtain ⟨rfl, _⟩ := hk
        obtain ⟨a, len, cap, rfl⟩ := okWide_slice hok.under hval
        rw [AE.enc, VRel]
        exact hx
      · rename_i f fs hkk
        rw [hkk] at hk
        obtain ⟨fields, rfl, _⟩ := hk
        obtain ⟨cs, rfl, _⟩ := okWide_struct hok.under hval
        rw [AE.enc, VRel]
        rw [DRel] at hx
        exact ⟨cs, rfl, hx.cells⟩
      · rename_i f q e hkk
        rw [hkk] at hk
        simp only [kindOk] at hk
        subst hk
        have : ∃ cs, v = .agg cs := by
          unfold Value.okWide at hval
          rw [hok.under] at hval
          obtain ⟨cs, rfl, _⟩ := hval
          exact ⟨cs, rfl⟩
        obtain ⟨cs, rfl⟩ := this
        rw [AE.enc, VRel]
        rw [DRel] at hx
        exact ⟨cs, rfl, hx.cells⟩
      · cases h

theorem encs_rel [BT] {ρ : Nat → Option Nat} {Hs : List Obj} (hT : TabOk P T) {r : Reach} {b0 base : Nat} {spare : Nat → Bool} {held : Bool} : ∀ {ys : List Ty} {ts : List TypeId} {vs : List Value} {ds : List (DataW H)} {p : List MemPlace},
    fits T ys ts = true → (∀ (j : Nat) t v, ts[j]? = some t → vs[j]? = some v → Value.okWide P W r b0 t v) → DataW.TrodAll enc P W base spare held ts vs ds p →
    ∃ x : TysT ys, VRels ⟨Whole W, ρ, Hs, W⟩ (TysEnc ys x) vs ∧ TysWf ys x
  | [], [], vs, ds, p, _, _, h => by
    obtain ⟨rfl, _, _⟩ := trodAll_nil h
    exact ⟨(), (by show VRels _ [] [] ; rw [VRels]), trivial⟩
  | y :: ys, t :: ts, vs, ds, p, hf, hval, h => by
    obtain ⟨v, vs', d, ds', p, q, rfl, rfl, rfl, h1, h2⟩ := trodAll_cons h
    rw [fits] at hf
    simp only [Bool.and_eq_true] at hf
    obtain ⟨x, hx, hw⟩ := enc_rel (ρ := ρ) (Hs := Hs) hT hf.1.1 hf.1.2 (hval 0 t v rfl rfl) h1
    obtain ⟨x', hx', hw'⟩ := encs_rel (ρ := ρ) (Hs := Hs) hT hf.2 (fun j t v ht hv => hval (j + 1) t v (by simpa using ht) (by simpa using hv)) h2
    exact ⟨(x, x'), (by show VRels _ (AE.enc y x :: TysEnc ys x') _; rw [VRels]; exact ⟨v, vs', rfl, hx, hx'⟩), hw, hw'⟩
  | [], _ :: _, _, _, _, hf, _, _ => by cases hf
  | _ :: _, [], _, _, _, hf, _, _ => by cases hf

theorem trodAll_back (hl : laidOutB P = true) {W' : World} (hb : Below W.heap.size W W') : ∀ {ts : List TypeId} {vs : List Value} {ds : List (DataW H)} {p : List MemPlace},
    ts.all (fun t => P.readableRec t && decide (t < P.types.size)) = true → DataW.TrodAll enc P W 0 (fun _ => true) true ts vs ds p →
    DataW.TrodAll enc P W' 0 (fun b => decide (b < W.heap.size)) true ts vs ds p
  | [], vs, ds, p, _, h => by
    obtain ⟨rfl, rfl, rfl⟩ := trodAll_nil h
    rfl
  | t :: ts, vs, ds, p, hr, h => by
    obtain ⟨v, vs', d, ds', p, q, rfl, rfl, rfl, h1, h2⟩ := trodAll_cons h
    simp only [List.all_cons, Bool.and_eq_true, decide_eq_true_eq] at hr
    have hlt : ∀ x ∈ p, x.block < W.heap.size := by
      obtain ⟨m, hm⟩ := h1
      exact DataW.trod_lt m _ _ _ hm
    exact ⟨p, q, Below.trod hl hr.1.1 hr.1.2 h1 hb hlt, trodAll_back hl hb (by simpa using hr.2) h2, rfl⟩
end

theorem TrodAll.length {H : Type} {enc : TypeId × Value → H} {W : World} {base : Nat} {spare : Nat → Bool} {held : Bool} : ∀ {ts : List TypeId} {vs : List Value} {ds : List (DataW H)} {p : List MemPlace}, DataW.TrodAll enc P W base spare held ts vs ds p → ds.length = ts.length
  | [], vs, ds, p, h => by obtain ⟨rfl, rfl, rfl⟩ := trodAll_nil h; rfl
  | t :: ts, vs, ds, p, h => by
    obtain ⟨v, vs', d, ds', p, q, rfl, rfl, rfl, h1, h2⟩ := trodAll_cons h
    simp [TrodAll.length h2]

/-- The empty heap of a call whose arguments are read only. -/
def Cx.start (W : World) : Cx := ⟨Whole W, fun _ => none, [], W⟩
theorem start_heap [BT] (W : World) : HRel (Cx.start W) := ⟨fun _ => trivial, fun _ _ _ h => absurd rfl h, fun _ _ h => absurd rfl h, fun _ h => h⟩
def Fr.start (W : World) : Fr := ⟨W, fun _ => False, Whole W, 0⟩
theorem start_frame (W : World) : FrameOk (Fr.start W) (Cx.start W) :=
  ⟨rfl, rfl, rfl, Nat.le_refl _, fun _ _ _ => rfl, fun _ h => h, fun _ h => .inl h, fun _ _ h => absurd rfl h⟩
theorem frame_below {W : World} {C : Cx} (h : FrameOk (Fr.start W) C) : Below W.heap.size W C.w :=
  ⟨h.os, h.tape, h.output, h.size, fun k hk => h.keep k hk fun h => h⟩

/-- A law's contract: where AE finds true at every input. -/
theorem law_contract [BT] (hm : P.follows .mixedOrders = true) (hT : TabOk P T) (hE : EnvOk P E) (laid : laidOutB P = true) {g : Nat} {fn : Func} {c : Code} (hf : P.funcs[g]? = some fn) (hb : fn.body = some c)
    (hread : fn.params.toList.all (fun t => P.readableRec t && decide (t < P.types.size)) = true) {tb : TypeId} (hres : fn.resultTypes = #[tb]) (htb : P.underlying tb = some .bool)
    {ys : List Ty} (hfit : fits T ys fn.params.toList = true) {d : Nat} {ann : Ann} (hann : AnnOk P fn.ntmps c ann)
    (hev : ∀ x : TysT ys, TysWf ys x → ∃ n H', fnE T E hint d n g fn.ntmps fn.results.toList ann c (TysEnc ys x) [] (fun v H => some (v, H)) = some (.bool true, H'))
    {s : ChangeSpec} (hvars : s.vars = []) {H : Type} (hfn : ∀ ds : List (DataW H), ds.length = fn.params.size → s.fn H ds = { results := [.lit (.bool true)], args := ds })
    {enc : TypeId × Value → H} {W : World} {base : Nat} {args : Array Value} {ds gs : List (DataW H)} {before : List MemPlace}
    (hval : ∀ (j : Nat) t v, fn.params[j]? = some t → args[j]? = some v → Value.okWide P W .any base t v)
    (hW : DataW.Whole enc P fn.params.toList s.vars false W args.toList ds gs before) :
    Calls P g args W fun e W' => ∃ v, e = .returned v ∧ s.post enc P fn false true false false W args v W' := by
  have hW' := hW
  obtain ⟨p, q, hA, hV, rfl, hfz, hnd⟩ := hW
  rw [hvars] at hV
  obtain ⟨rfl, rfl⟩ := trodVars_none hV
  obtain ⟨x, hx, hw⟩ := encs_rel (ρ := fun _ => none) (Hs := []) hT hfit (fun j t v ht hv => hval j t v (by simpa using ht) (by simpa using hv)) hA
  obtain ⟨n, H', hn⟩ := hev x hw
  refine (fnE_sound (hint := hint) hm hT hE (C := Cx.start W) (start_heap W) (start_frame W) hf hb hx hann hn).mono ?_
  rintro e W' hw'
  cases e with
  | returned v =>
    obtain ⟨r, C', hK, rfl, _, hF, hv, _⟩ := hw'
    cases hK
    rw [VRel] at hv
    subst hv
    have bel := frame_below hF
    have hlen : (ds ++ []).length = fn.params.size := by rw [List.append_nil, TrodAll.length hA, Array.length_toList]
    refine ⟨_, rfl, ds, [], p ++ [], [], p, [], hW', ?_, ?_, ?_, bel.frame _, fun h => by cases h⟩
    · rw [hfn _ hlen, hres]
      exact trodAll_mk1 (shut_bool htb _)
    · rw [hfn _ hlen, List.append_nil]
      exact trodAll_back laid bel hread hA
    · rw [hvars]
      have : (s.fn H (ds ++ [])).vars = [] := by rw [hfn _ hlen]
      rw [this]
      rfl
  | panicked ch => exact hw'.elim
  | outgrown => exact hw'.elim
end Go.AE
namespace Go.AE
variable {P : Program} {T : Tab}

def valB : AV → Value → Bool
  | .bool a, .bool b => match a, b with
    | true, true => true
    | false, false => true
    | _, _ => false
  | .int k n, .int k' m => match decEq k k' with
    | isTrue _ => match decEq n m with
      | isTrue _ => true
      | isFalse _ => false
    | isFalse _ => false
  | .str [], .string b => match b.data.toList with
    | [] => true
    | _ => false
  | .nilp, .pointer none => true
  | .nils, .slice none 0 0 => true
  | .nilm, .map none => true
  | .nilf, .nilFunc => true
  | .nili, .nilIface => true
  | _, _ => false
def valsB : List AV → List Value → Bool
  | [], [] => true
  | a :: r, v :: s => valB a v && valsB r s
  | _, _ => false
theorem valB_eq {a : AV} {v : Value} (h : valB a v = true) : v = conc0 a ∧ a.isZero = true := by
  unfold valB at h
  split at h
  · rename_i x y
    cases x <;> cases y <;> first | exact ⟨rfl, rfl⟩ | cases h
  · split at h
    · rename_i e _
      split at h
      · rename_i e' _
        subst e; subst e'
        exact ⟨rfl, rfl⟩
      · cases h
    · cases h
  · rename_i b
    split at h
    · rename_i e
      refine ⟨?_, rfl⟩
      show Value.string b = .string ⟨[].toArray⟩
      congr 1
      apply ByteArray.ext
      rw [← e]
    · cases h
  all_goals first | exact ⟨rfl, rfl⟩ | cases h
theorem valsB_eq : ∀ {l : List AV} {vs : List Value}, valsB l vs = true → vs = l.map conc0 ∧ l.all AV.isZero = true
  | [], [], _ => ⟨rfl, rfl⟩
  | a :: r, v :: s, h => by
    rw [valsB, Bool.and_eq_true] at h
    obtain ⟨h1, h2⟩ := h
    obtain ⟨rfl, hz⟩ := valB_eq h1
    obtain ⟨rfl, hr⟩ := valsB_eq h2
    exact ⟨rfl, by simp [hz, hr]⟩
  | [], _ :: _, h => by cases h
  | _ :: _, [], h => by cases h

def fieldsB : List (Nat × Nat) → List Field → Bool
  | [], [] => true
  | (t, o) :: r, f :: s => Nat.beq f.type t && Nat.beq f.offset o && (f.name != "_") && fieldsB r s
  | _, _ => false
theorem fieldsB_eq : ∀ {fs : List (Nat × Nat)} {l : List Field}, fieldsB fs l = true → l.map (fun f => (f.type, f.offset)) = fs ∧ l.all (fun f => f.name != "_") = true
  | [], [], _ => ⟨rfl, rfl⟩
  | (t, o) :: r, f :: s, h => by
    rw [fieldsB] at h
    simp only [Bool.and_eq_true] at h
    obtain ⟨⟨⟨h1, h2⟩, h3⟩, h4⟩ := h
    obtain ⟨e, hr⟩ := fieldsB_eq h4
    have h1 := Nat.eq_of_beq_eq_true h1
    have h2 := Nat.eq_of_beq_eq_true h2
    exact ⟨by simp [e, h1, h2], by rw [List.all_cons, h3, hr]; rfl⟩
  | [], _ :: _, h => by cases h
  | _ :: _, [], h => by cases h

def kindB (zero : List AV) : TK → TypeDesc → Bool
  | .sc, d => scDesc zero d
  | .ptr e, .pointer e' => Nat.beq e e' && (match zero with | [.nilp] => true | _ => false)
  | .slice e, .slice e' => Nat.beq e e' && (match zero with | [.nils] => true | _ => false)
  | .array n e, .array n' e' => Nat.beq n n' && Nat.beq e e'
  | .map k e, .map k' e' => Nat.beq k k' && Nat.beq e e' && (match zero with | [.nilm] => true | _ => false)
  | .struct fs, .struct fields => fieldsB fs fields.toList
  | _, _ => false
theorem kindB_ok {zero : List AV} {k : TK} {d : TypeDesc} (h : kindB zero k d = true) : kindOk zero k d := by
  unfold kindB at h
  split at h
  · exact h
  · simp only [Bool.and_eq_true] at h
    obtain ⟨h1, h2⟩ := h
    rw [kindOk, Nat.eq_of_beq_eq_true h1]
    split at h2
    · exact ⟨rfl, rfl⟩
    · cases h2
  · simp only [Bool.and_eq_true] at h
    obtain ⟨h1, h2⟩ := h
    rw [kindOk, Nat.eq_of_beq_eq_true h1]
    split at h2
    · exact ⟨rfl, rfl⟩
    · cases h2
  · simp only [Bool.and_eq_true] at h
    rw [kindOk, Nat.eq_of_beq_eq_true h.1, Nat.eq_of_beq_eq_true h.2]
  · simp only [Bool.and_eq_true] at h
    obtain ⟨⟨h1, h2⟩, h3⟩ := h
    rw [kindOk, Nat.eq_of_beq_eq_true h1, Nat.eq_of_beq_eq_true h2]
    split at h3
    · exact ⟨rfl, rfl⟩
    · cases h3
  · rename_i fs fields
    obtain ⟨h1, h2⟩ := fieldsB_eq h
    exact ⟨fields, rfl, h1, h2⟩
  · cases h

def boolEq : Bool → Bool → Bool
  | true, true => true
  | false, false => true
  | _, _ => false
theorem boolEq_eq {a b : Bool} (h : boolEq a b = true) : a = b := by cases a <;> cases b <;> first | rfl | cases h

def tyB (i : TI) : Bool :=
  match i.ty with
  | none => true
  | some y => Nat.beq y.size i.size && boolEq y.isSt i.isAgg && !isUnit y

def byteB [BT] (t : Nat) (i : TI) : Bool :=
  match i.ty with
  | some (.int .u8) => Nat.beq t BT.byte
  | _ => true
theorem byteB_eq [BT] {t : Nat} {i : TI} (h : byteB t i = true) (e : i.ty = some (.int .u8)) : t = BT.byte := by
  unfold byteB at h
  rw [e] at h
  exact Nat.eq_of_beq_eq_true h
def entryB [BT] (P : Program) (t : Nat) (i : TI) : Bool :=
  match P.underlying t, P.info? t with
  | some d, some info => (match info.zero with
    | some z => Nat.beq info.size i.size && Nat.beq info.bytes i.bytes && valsB i.zero z.cells.toList && Nat.beq i.zero.length i.size && kindB i.zero i.k d &&
        cond i.isAgg ((!noIf i.zero || !P.stoodInHeld t && !P.eqGuardType P.depth t) && !plainV z) (Nat.beq i.size 1 && plainV z) && tyB i && byteB t i && (BT.meths.all fun q => !Nat.beq q.1 t || methB P t q.2.1 q.2.2)
    | none => false)
  | _, _ => false

theorem meths_all {t : Nat} {name : String} {g : Nat} : ∀ {l : List (Nat × String × Nat)}, methGo l t name = some g → (l.all fun q => !Nat.beq q.1 t || methB P t q.2.1 q.2.2) = true → methB P t name g = true
  | [], h, _ => by cases h
  | (t', n, g') :: r, h, ha => by
    rw [List.all_cons, Bool.and_eq_true] at ha
    rw [methGo] at h
    cases hb : Nat.beq t' t && n == name with
    | true =>
      rw [hb, cond_true] at h
      cases h
      simp only [Bool.and_eq_true, beq_iff_eq] at hb
      have h1 := ha.1
      simp only [hb.1, Bool.not_true, Bool.false_or] at h1
      rw [← hb.2]; exact h1
    | false =>
      rw [hb, cond_false] at h
      exact meths_all h ha.2
theorem entryB_ok [BT] {t : Nat} {i : TI} (h : entryB P t i = true) : ∃ d info z, TIok P t i d info z := by
  unfold entryB at h
  split at h
  · rename_i d info hd hinfo
    split at h
    · rename_i z hz
      simp only [Bool.and_eq_true] at h
      obtain ⟨⟨⟨⟨⟨⟨⟨⟨h1, h2⟩, h3⟩, h4⟩, h5⟩, h6⟩, h7⟩, h8⟩, h9⟩ := h
      obtain ⟨hv, hall⟩ := valsB_eq h3
      refine ⟨d, info, z, hd, hinfo, Nat.eq_of_beq_eq_true h1, Nat.eq_of_beq_eq_true h2, hz, hv, hall, Nat.eq_of_beq_eq_true h4, kindB_ok h5, ?_, byteB_eq h8, ?_, ?_, ?_, ?_, ?_⟩
      · intro ha
        rw [ha, cond_false, Bool.and_eq_true] at h6
        exact Nat.eq_of_beq_eq_true h6.1
      · intro y hy
        unfold tyB at h7
        rw [hy] at h7
        simp only [Bool.and_eq_true, Bool.not_eq_true'] at h7
        refine ⟨Nat.eq_of_beq_eq_true h7.1.1, boolEq_eq h7.1.2, ?_⟩
        intro e
        rw [e] at h7
        exact absurd h7.2 (by simp [isUnit])
      · intro ha hno
        rw [ha, cond_true, Bool.and_eq_true, hno] at h6
        simpa using h6.1
      · intro ha
        rw [ha, cond_false, Bool.and_eq_true] at h6
        exact h6.2
      · intro ha
        rw [ha, cond_true, Bool.and_eq_true] at h6
        simpa using h6.2
      · exact fun name g hg => meths_all hg h9
    · cases h
  · cases h

def tabB [BT] (P : Program) : Tab → Bool
  | [] => true
  | (t, i) :: r => entryB P t i && tabB P r
theorem tabOk_of_check [BT] : ∀ {T : Tab}, tabB P T = true → TabOk P T
  | [], _ => fun t i h => by cases h
  | (t, i) :: r, h => fun t' i' h' => by
    rw [tabB, Bool.and_eq_true] at h
    rw [Tab.get] at h'
    cases hb : Nat.beq t t' with
    | true =>
      rw [hb, cond_true] at h'
      cases h'
      rw [← Nat.eq_of_beq_eq_true hb]
      exact entryB_ok h.1
    | false =>
      rw [hb, cond_false] at h'
      exact tabOk_of_check h.2 t' i' h'

theorem EnvOk.nil [BT] : EnvOk P [] := fun g sp h => by cases h
theorem EnvOk.cons [BT] {g : Nat} {sp : FSpec} {E : Env} (h : SpecOk P g sp) (hE : EnvOk P E) : EnvOk P ((g, sp) :: E) := fun g' sp' h' => by
  rw [Env.get] at h'
  cases hb : Nat.beq g g' with
  | true =>
    rw [hb, cond_true] at h'
    cases h'
    rw [← Nat.eq_of_beq_eq_true hb]
    exact h
  | false =>
    rw [hb, cond_false] at h'
    exact hE g' sp' h'
end Go.AE
namespace Go.AE
variable {P : Program} {T : Tab} {E : Env} {hint : Hint}

/-- Arguments and heap. -/
def ah (a : List AV) (h : List Obj) : List AV × List Obj := (a, h)

/-- Rounds till an exit. -/
def iterK {X Y : Type} (step : X → (X → Ans) → (Y → Ans) → Ans) : Nat → X → (Y → Ans) → Ans
  | 0, _, _ => none
  | n + 1, x, k => step x (fun x' => iterK step n x' k) k

/-- A summary: the state is read, the answer is looked up, and told. -/
def sumG {I V Y : Type} (dec : St → Option (I × V)) (R : I → V → Option Y) (out : I → (Ex → St → Ans) → Y → Ans) : (Ex → St → Ans) → St → Ans :=
  fun K s => bindO (dec s) fun x => bindO (R x.1 x.2) fun y => out x.1 K y

theorem bindO_some' {α : Type} {o : Option α} {k : α → Ans} {r : AV × List Obj} (h : bindO o k = some r) : ∃ a, o = some a ∧ k a = some r := by
  cases o with
  | none => cases h
  | some a => exact ⟨a, rfl, h⟩

/-- Rounds whose states are told by their number. -/
theorem iterK_at {V Y : Type} {step : V → (V → Ans) → (Y → Ans) → Ans} (st : Nat → V) (N : Nat) (y : Y) (k : Y → Ans) (hs : ∀ j, j < N → ∀ next, step (st j) next k = next (st (j + 1)))
    (he : ∀ next, step (st N) next k = k y) : ∀ d j, j + d = N → iterK step (d + 1) (st j) k = k y
  | 0, j, h => by
    obtain rfl : j = N := by omega
    rw [iterK]; exact he _
  | d + 1, j, h => by
    rw [iterK, hs j (by omega)]
    exact iterK_at st N y k hs he d (j + 1) (by omega)
theorem iterK_up {V Y : Type} {step : V → (V → Ans) → (Y → Ans) → Ans} {v : V} {z : Y} (st : Nat → V) (N : Nat) (h0 : v = st 0) (hs : ∀ j, j < N → ∀ next (k : Y → Ans), step (st j) next k = next (st (j + 1)))
    (he : ∀ next (k : Y → Ans), step (st N) next k = k z) : ∃ n, ∀ k, iterK step n v k = k z :=
  ⟨N + 1, fun k => by rw [h0]; exact iterK_at st N z k (fun j h next => hs j h next k) (fun next => he next k) N 0 (by omega)⟩

theorem iterK_run {X Y : Type} {step : X → (X → Ans) → (Y → Ans) → Ans} {f : Nat → X → Ans} {k : Y → Ans} (h0 : ∀ x, f 0 x = none)
    (h : ∀ n x, f (n + 1) x = step x (fun x' => f n x') k) : ∀ n x, f n x = iterK step n x k
  | 0, x => h0 x
  | n + 1, x => by
    rw [h, iterK]
    congr 1
    funext x'
    exact iterK_run h0 h n x'

theorem lsum_iter [BT] (hm : P.follows .mixedOrders = true) (hT : TabOk P T) (hE : EnvOk P E) {nt d m : Nat} (keep : List Nat) {c : Code} {x : Ann} (hx : AnnOk P nt (.loop c) x)
    {I V Y : Type} {S : I → V → St} {dec : St → Option (I × V)} {step : I → V → (V → Ans) → (Y → Ans) → Ans} {R : I → V → Option Y} {out : I → (Ex → St → Ans) → Y → Ans}
    (hdec : ∀ s x, dec s = some x → s = S x.1 x.2)
    (hstep : ∀ n i v K, codeI T E hint (codeD T E hint d m) (n + 1) nt x (.loop c) (weak keep K) (S i v) =
      step i v (fun v' => codeI T E hint (codeD T E hint d m) n nt x (.loop c) (weak keep K) (S i v')) (fun z => out i K z))
    (hR : ∀ i v z, R i v = some z → ∃ n, ∀ k, iterK (step i) n v k = k z) : LSum P nt c (sumG dec R out) := by
  refine lsum_weak (hint := hint) (d := d) hm hT hE keep (x := x) hx ?_
  intro K s res h
  unfold sumG at h
  obtain ⟨⟨i, v⟩, hd, h⟩ := bindO_some' h
  obtain ⟨z, hr, h⟩ := bindO_some' h
  obtain ⟨n, hn⟩ := hR i v z hr
  refine ⟨m, n, ?_⟩
  rw [hdec s _ hd, iterK_run (step := step i) (f := fun n v => codeI T E hint (codeD T E hint d m) n nt x (.loop c) (weak keep K) (S i v)) (k := fun z => out i K z)
    (fun v => by rw [codeI]) (fun n v => hstep n i v K) n v, hn]
  exact h

theorem bodySome {f : Func} (hb : f.body.isSome = true) : f.body = some (f.body.getD .skip) := by
  cases h : f.body with
  | none => rw [h] at hb; cases hb
  | some c => rfl

/-- A function walked in place. -/
def inl (f : Func) : FSpec := .inline f.ntmps f.results.toList .none (f.body.getD .skip)
theorem specInl [BT] {g : Nat} {f : Func} (hf : P.funcs[g]? = some f) (hb : f.body.isSome = true) (hn : f.name ≠ "runtime.NumGoroutine") : SpecOk P g (inl f) := by
  refine ⟨f, hf, ?_, hn, rfl, rfl, annOk_none _ _ _⟩
  cases h : f.body with
  | none => rw [h] at hb; cases hb
  | some c => rfl

section
variable [BT] (hm : P.follows .mixedOrders = true) (hT : TabOk P T) (hE : EnvOk P E)
include hm hT hE
theorem pure_mk {g n : Nat} {fn : Func} {c : Code} (hf : P.funcs[g]? = some fn) (hb : fn.body = some c) (hn : fn.name ≠ "runtime.NumGoroutine") {d : Nat} {x : Ann} (hx : AnnOk P fn.ntmps c x)
    {A : Type} {dec : List AV → Option A} {argsOf : A → List AV} (hdec : ∀ l a, dec l = some a → l = argsOf a) {f v : A → (AV → Ans) → Ans}
    (hfn : ∀ a, fnE T E hint d n g fn.ntmps fn.results.toList x c (argsOf a) [] (fun v _ => some (v, [])) = f a (fun v => some (v, [])))
    (hv : ∀ a K res, v a K = some res → ∃ r, r.closed1 = true ∧ K r = some res ∧ f a (fun v => some (v, [])) = some (r, [])) :
    PureOk P g (fun l K => bindO (dec l) fun a => v a K) := by
  refine ⟨⟨fn, hf, by rw [hb]; rfl, hn⟩, fun C args us K res hh hH hargs hFp => ?_⟩
  obtain ⟨a, ha, hFp⟩ := bindO_some' hFp
  have hargsEq := hdec _ _ ha
  obtain ⟨r, hr, hK, hfa⟩ := hv a K res hFp
  subst hargsEq
  refine ⟨r, concl r, hK, fun C' => (closed1_eq hr).2 rfl, fun W hW => ?_⟩
  obtain ⟨hh', hat⟩ := at_pure hh hH hW
  have hargs' : VRels (C.at W) (argsOf a) us.toList := hat hargs
  let F : Fr := ⟨W, fun _ => False, C.R, 0⟩
  have hF : FrameOk F (C.at W) := ⟨rfl, rfl, rfl, Nat.le_refl _, fun _ _ _ => rfl, fun _ h => h, fun _ h => .inl h, fun i b hl => by
    exact absurd (by show getH C.H i = .dead; rw [hH]; rfl) hl⟩
  have hn' : fnE T E hint d n g fn.ntmps fn.results.toList x c (argsOf a) (C.at W).H (fun v _ => some (v, [])) = some (r, []) := by
    show fnE T E hint d n g fn.ntmps fn.results.toList x c (argsOf a) C.H _ = _
    rw [hH, hfn a]; exact hfa
  refine (fnE_sound (hint := hint) hm hT hE hh' hF hf hb hargs' hx hn').mono ?_
  intro e w' hw'
  cases e with
  | returned v =>
    obtain ⟨r', C', hK', rfl, _, hF', hv, _⟩ := hw'
    cases hK'
    refine ⟨by rw [(closed1_eq hr).1 hv], ⟨hF'.os, hF'.tape, hF'.output, hF'.size, fun k hk => hF'.keep k hk fun h => h⟩⟩
  | panicked ch => exact hw'.elim
  | outgrown => exact hw'.elim

theorem func_mk {g n : Nat} {fn : Func} {c : Code} (hf : P.funcs[g]? = some fn) (hb : fn.body = some c) (hn : fn.name ≠ "runtime.NumGoroutine") {d : Nat} {x : Ann} (hx : AnnOk P fn.ntmps c x)
    {A : Type} {dec : List AV → List Obj → Option A} {argsOf : A → List AV × List Obj} (hdec : ∀ l H a, dec l H = some a → (l, H) = argsOf a) {f v : A → (AV → List Obj → Ans) → Ans}
    (hfn : ∀ a K, fnE T E hint d n g fn.ntmps fn.results.toList x c (argsOf a).1 (argsOf a).2 K = f a K)
    (hv : ∀ a K res, v a K = some res → f a K = some res) :
    FuncOk P g (fun l H K => bindO (dec l H) fun a => v a K) := by
  refine funcOk_of (hint := hint) (d := d) hm hT hE hf hb hn hx ?_
  intro args H K res h
  obtain ⟨a, ha, h⟩ := bindO_some' h
  have e := hdec _ _ _ ha
  refine ⟨n, ?_⟩
  have e1 : args = (argsOf a).1 := by rw [← e]
  have e2 : H = (argsOf a).2 := by rw [← e]
  rw [e1, e2, hfn]
  exact hv a K res h
end

/-- One of two readings of a call's arguments. -/
def altO {A B : Type} (x : Option A) (y : Option B) (f : A → Ans) (g : B → Ans) : Ans :=
  match x with
  | some a => f a
  | none => bindO y g
theorem func_alt [BT] {g : Nat} {A B : Type} {d1 : List AV → List Obj → Option A} {d2 : List AV → List Obj → Option B} {v1 : A → (AV → List Obj → Ans) → Ans} {v2 : B → (AV → List Obj → Ans) → Ans}
    (h1 : FuncOk P g (fun l H K => bindO (d1 l H) fun a => v1 a K)) (h2 : FuncOk P g (fun l H K => bindO (d2 l H) fun a => v2 a K)) :
    FuncOk P g (fun l H K => altO (d1 l H) (d2 l H) (fun a => v1 a K) (fun a => v2 a K)) := by
  refine ⟨h1.1, fun C args us K res Fr hh hF hv h => ?_⟩
  dsimp only at h
  unfold altO at h
  split at h
  · rename_i a ha
    exact h1.2 C args us K res Fr hh hF hv (by dsimp only; rw [ha]; exact h)
  · exact h2.2 C args us K res Fr hh hF hv h
theorem func_alt' [BT] {g : Nat} {A : Type} {d1 : List AV → List Obj → Option A} {v1 : A → (AV → List Obj → Ans) → Ans} {F2 : List AV → List Obj → (AV → List Obj → Ans) → Ans}
    (h1 : FuncOk P g (fun l H K => bindO (d1 l H) fun a => v1 a K)) (h2 : FuncOk P g F2) :
    FuncOk P g (fun l H K => match d1 l H with | some a => v1 a K | none => F2 l H K) := by
  refine ⟨h1.1, fun C args us K res Fr hh hF hv h => ?_⟩
  dsimp only at h
  split at h
  · rename_i a ha
    exact h1.2 C args us K res Fr hh hF hv (by dsimp only; rw [ha]; exact h)
  · exact h2.2 C args us K res Fr hh hF hv h
end Go.AE
namespace Go.AE
theorem wrap64 {x : Int} (h : -9223372036854775808 ≤ x) (h' : x ≤ 9223372036854775807) : IntKind.wrap .i64 x = x := by
  simp [IntKind.wrap, IntKind.bits, IntKind.signed]
  omega
/-- A loop that counts up and appends. -/
theorem count_up {Y α : Type} {step : Int × List α → (Int × List α → Ans) → (Y → Ans) → Ans} {M : Int} {g : Int → α} {w : Nat} {l : List α} {z : Y} (e : List α → Y) (hM : 0 ≤ M) (hM' : M ≤ 100000) (hw : w ≤ 1000) (hl : l.length ≤ 100000)
    (h : ∀ t l next (k : Y → Ans), step (t, l) next k = bif decide (t < M) then (bif Nat.ble ((l.length + 1) * w) 140737488355328 then next (IntKind.wrap .i64 (t + 1), l ++ [g t]) else none) else k (e l))
    (hz : e (l ++ (List.range M.toNat).map fun j : Nat => g j) = z) : ∃ n, ∀ k, iterK step n (0, l) k = k z := by
  refine iterK_up (fun j => ((j : Int), l ++ (List.range j).map fun j : Nat => g j)) M.toNat (by simp) ?_ ?_
  · intro j hj next k
    have hb : Nat.ble (((l ++ (List.range j).map fun j : Nat => g j).length + 1) * w) 140737488355328 = true := by
      apply Nat.ble_eq_true_of_le
      have : ((l ++ (List.range j).map fun j : Nat => g j).length + 1) * w ≤ 300000 * 1000 := Nat.mul_le_mul (by simp; omega) hw
      omega
    have hlt : (j : Int) < M := by omega
    rw [h, hb, wrap64 (by omega) (by omega)]
    simp only [hlt, decide_true, cond_true]
    congr 2
    rw [List.range_succ]
    simp
  · intro next k
    have hlt : ¬ ((M.toNat : Int) < M) := by omega
    rw [h]
    simp only [hlt, decide_false, cond_false, hz]

theorem nth_nat {α : Type} (l : List α) (j : Nat) : nth l (j : Int) = l[j]? := by
  unfold nth
  rw [if_pos (by omega), Int.toNat_natCast]

/-- A loop that looks through a list for the first that ends it. -/
theorem iterK_scan {Y α : Type} {step : Int → (Int → Ans) → (Y → Ans) → Ans} (l : List α) (p : α → Option Y) (z0 : Y)
    (h : ∀ (j : Nat) (x : α), l[j]? = some x → ∀ next (k : Y → Ans), step (j : Int) next k = match p x with | some y => k y | none => next ((j + 1 : Nat) : Int))
    (he : ∀ next (k : Y → Ans), step (l.length : Int) next k = k z0) : ∃ n, ∀ k, iterK step n 0 k = k ((l.findSome? p).getD z0) := by
  have key : ∀ (r : List α) (j : Nat), l.drop j = r → j ≤ l.length → ∀ k, iterK step (r.length + 1) (j : Int) k = k ((r.findSome? p).getD z0) := by
    intro r
    induction r with
    | nil =>
      intro j hj hjl k
      have hj1 : l.length ≤ j := List.drop_eq_nil_iff.1 hj
      obtain rfl : j = l.length := by omega
      rw [List.length_nil, iterK, he]
      rfl
    | cons x r ih =>
      intro j hj hjl k
      have hx : l[j]? = some x := by
        have : (l.drop j)[0]? = some x := by rw [hj]; rfl
        simpa using this
      have hr : l.drop (j + 1) = r := by rw [← List.tail_drop, hj]; rfl
      rw [List.length_cons, iterK, h j x hx]
      cases hp : p x with
      | some y => simp [hp]
      | none =>
        simp only
        rw [ih (j + 1) hr (List.getElem?_eq_some_iff.1 hx).1 k]
        simp [hp]
  exact ⟨l.length + 1, fun k => key l 0 rfl (Nat.zero_le _) k⟩

/-- A loop that folds a list. -/
theorem iterK_fold {Y α β : Type} {step : Int × β → (Int × β → Ans) → (Y → Ans) → Ans} (l : List α) (f : β → α → β) (b0 : β) (e : β → Y) (Inv : Nat → β → Prop) (h0 : Inv 0 b0)
    (hi : ∀ (j : Nat) (x : α) (b : β), l[j]? = some x → Inv j b → Inv (j + 1) (f b x))
    (h : ∀ (j : Nat) (x : α) (b : β), l[j]? = some x → Inv j b → ∀ next (k : Y → Ans), step ((j : Int), b) next k = next (((j + 1 : Nat) : Int), f b x))
    (he : ∀ (b : β), Inv l.length b → ∀ next (k : Y → Ans), step ((l.length : Int), b) next k = k (e b)) : ∃ n, ∀ k, iterK step n (0, b0) k = k (e (l.foldl f b0)) := by
  have inv : ∀ j, j ≤ l.length → Inv j ((l.take j).foldl f b0) := by
    intro j
    induction j with
    | zero => intro _; simpa using h0
    | succ j ih =>
      intro hj
      have hx : l[j]? = some l[j] := List.getElem?_eq_getElem (by omega)
      rw [List.take_succ_eq_append_getElem (by omega), List.foldl_append]
      exact hi j _ _ hx (ih (by omega))
  refine iterK_up (fun j => ((j : Int), (l.take j).foldl f b0)) l.length (by simp) ?_ ?_
  · intro j hj next k
    have hx : l[j]? = some l[j] := List.getElem?_eq_getElem hj
    rw [h j _ _ hx (inv j (by omega)), List.take_succ_eq_append_getElem hj, List.foldl_append]
    rfl
  · intro next k
    have := inv l.length (Nat.le_refl _)
    rw [List.take_length] at this ⊢
    exact he _ this next k
theorem foldl_inv {α β : Type} (f : β → α → β) (P : β → Prop) : ∀ (l : List α) (b : β), P b → (∀ b x, x ∈ l → P b → P (f b x)) → P (l.foldl f b)
  | [], _, h, _ => h
  | x :: r, b, h, hf => foldl_inv f P r (f b x) (hf b x (List.mem_cons_self ..) h) (fun b y hy => hf b y (List.mem_cons_of_mem _ hy))
end Go.AE
namespace Go.AE
open Go.RowKit (Below)
variable {P : Program} {T : Tab} {E : Env} {hint : Hint}

/-! ### Data out of ways -/
theorem bindO_none {α β : Type} (f : α → Option β) : bindO none f = none := rfl
theorem bindO_pure {α β : Type} (a : α) (f : α → Option β) : bindO (some a) f = f a := rfl
theorem bindO_cond {α β : Type} (c : Bool) (a b : Option α) (f : α → Option β) : bindO (cond c a b) f = cond c (bindO a f) (bindO b f) := by cases c <;> rfl
theorem bindO_assoc {α β γ : Type} (o : Option α) (g : α → Option β) (f : β → Option γ) : bindO (bindO o g) f = bindO o fun a => bindO (g a) f := by cases o <;> rfl
theorem bindO_elim {α β γ δ : Type} (g : α → Option γ) (h : β → Option γ) (y : α ⊕ β) (f : γ → Option δ) : bindO (Sum.elim g h y) f = Sum.elim (fun a => bindO (g a) f) (fun b => bindO (h b) f) y := by cases y <;> rfl

theorem bindO_empty {α γ : Type} (y : Empty) (f : α → Option γ) : bindO (Empty.elim y : Option α) f = Empty.elim y := by cases y

/-- A function of a pair's parts. -/
def unP {α β γ : Type} (f : α → β → γ) (x : α × β) : γ := f x.1 x.2
theorem bindO_unP {α β γ δ : Type} (f : α → β → Option γ) (y : α × β) (k : γ → Option δ) : bindO (unP f y) k = unP (fun a b => bindO (f a b) k) y := rfl
theorem unP_mk {α β γ : Type} (f : α → β → γ) (a : α) (b : β) : unP f (a, b) = f a b := rfl

/-- Rounds of a loop, as data. -/
def loopD {V Y : Type} (f : V → Option (V ⊕ Y)) : Nat → V → Option Y
  | 0, _ => none
  | n + 1, v => bindO (f v) (Sum.elim (fun v' => loopD f n v') some)
/-- More rounds than anything takes. -/
def FUEL : Nat := 18446744073709551616

theorem iterK_loopD {V Y : Type} {step : V → (V → Ans) → (Y → Ans) → Ans} {f : V → Option (V ⊕ Y)} (h : ∀ v next exit, step v next exit = bindO (f v) (Sum.elim next exit)) :
    ∀ (n : Nat) (v : V) (y : Y), loopD f n v = some y → ∀ k, iterK step n v k = k y
  | 0, v, y, he, _ => by cases he
  | n + 1, v, y, he, k => by
    rw [iterK, h]
    rw [loopD] at he
    cases hf : f v with
    | none => rw [hf] at he; cases he
    | some x =>
      rw [hf] at he
      cases x with
      | inl v' => exact iterK_loopD h n v' y he k
      | inr z => cases he; rfl

theorem loopD_more {V Y : Type} {f : V → Option (V ⊕ Y)} : ∀ (n m : Nat) (v : V) (y : Y), n ≤ m → loopD f n v = some y → loopD f m v = some y
  | 0, _, _, _, _, he => by cases he
  | n + 1, 0, _, _, hle, _ => by omega
  | n + 1, m + 1, v, y, hle, he => by
    rw [loopD] at he ⊢
    cases hf : f v with
    | none => rw [hf] at he; cases he
    | some x =>
      rw [hf] at he
      cases x with
      | inl v' => exact loopD_more n m v' y (by omega) he
      | inr z => exact he

/-- A decoder that tells its own proof. -/
def pk {α : Type} {p : α → Prop} (o : Option {x : α // p x}) : Option α := match o with
  | some y => some y.1
  | none => none
theorem pk_ok {α : Type} {p : α → Prop} {o : Option {x : α // p x}} {x : α} (h : pk o = some x) : p x := by
  cases o with
  | none => cases h
  | some y => cases h; exact y.2
def sumL {I V Y : Type} (dec : St → Option (I × V)) (f : I → V → Option (V ⊕ Y)) (out : I → (Ex → St → Ans) → Y → Ans) : (Ex → St → Ans) → St → Ans :=
  fun K s => bindO (dec s) fun x => bindO (loopD (f x.1) FUEL x.2) fun y => out x.1 K y
def sumN {I Y : Type} (dec : St → Option I) (f : I → Option Y) (out : I → (Ex → St → Ans) → Y → Ans) : (Ex → St → Ans) → St → Ans :=
  fun K s => bindO (dec s) fun x => bindO (f x) fun y => out x K y

/-- One of two summaries, by the frame. -/
def altN {α : Type} (dec : St → Option α) (G1 G2 : (Ex → St → Ans) → St → Ans) : (Ex → St → Ans) → St → Ans :=
  fun K s => match dec s with
    | some _ => G1 K s
    | none => G2 K s
theorem csum_altN [BT] {nt : Nat} {c : Code} {α : Type} {dec : St → Option α} {G1 G2 : (Ex → St → Ans) → St → Ans} (h1 : CSum P nt c G1) (h2 : CSum P nt c G2) : CSum P nt c (altN dec G1 G2) := by
  intro r F K s C a stk res h hro hS hsz hd
  unfold altN at h
  split at h
  · exact h1 h hro hS hsz hd
  · exact h2 h hro hS hsz hd

/-! ### What stands behind a part is forgotten -/
def getX : List (Nat × List Nat) → Nat → List Nat
  | [], _ => []
  | (n, l) :: r, i => cond (Nat.beq n i) l (getX r i)
/-- Which temporaries are kept, by how a part is left. -/
def exk (n r : List Nat) (xs : List (Nat × List Nat)) : Ex → List Nat
  | .norm => n
  | .ret => r
  | .exit i => getX xs i
  | .goto _ => []
def weakP (k0 : Nat) (kp : Ex → List Nat) (K : Ex → St → Ans) : Ex → St → Ans :=
  fun e s => match e with
    | .norm => forceSt (s.head (kp .norm)) fun s => packSt k0 s fun s => K .norm s
    | .ret => forceSt (s.head (kp .ret)) fun s => packSt k0 s fun s => K .ret s
    | .exit i => forceSt (s.head (kp (.exit i))) fun s => packSt k0 s fun s => K (.exit i) s
    | .goto _ => none
def noHint : Hint := fun _ => []

theorem weakP_sound [BT] {F : Fr} {k0 : Nat} {kp : Ex → List Nat} {K : Ex → St → Ans} {stk : List (Array Value)} {nt : Nat} {res : AV × List Obj} {e : Exit} {a : Act} {w : World}
    (h : CPost F (weakP k0 kp K) stk nt res e a w) : CPost F K stk nt res e a w := by
  obtain ⟨F', e', s', C', hle, he, hK, hw, hS', hsz', hd'⟩ := h
  have key : ∀ e'', forceSt (s'.head (kp e'')) (fun s => packSt k0 s fun s => K e'' s) = some res → e''.toExit = e → CPost F K stk nt res e a w := by
    intro e'' h he
    rw [forceSt_eq] at h
    obtain ⟨C1, hw1, hS1⟩ := head_sound hS' (kp e'')
    obtain ⟨s2, C2, hw2, hS2, h⟩ := packSt_sound hS1 h
    exact ⟨F', e'', s2, C2, hle, he, h, hw2.trans (hw1.trans hw), hS2, hsz', hd'⟩
  cases e' with
  | norm => exact key _ hK he
  | ret => exact key _ hK he
  | exit i => exact key _ hK he
  | goto l => cases hK

section
variable [BT] (hm : P.follows .mixedOrders = true) (hT : TabOk P T) (hE : EnvOk P E)
include hm hT hE
theorem csum_of {nt d : Nat} (k0 : Nat) (kp : Ex → List Nat) {c : Code} {x : Ann} (hx : AnnOk P nt c x) {G : (Ex → St → Ans) → St → Ans}
    (h : ∀ K s res, G K s = some res → ∃ m n, codeI T E hint (codeD T E hint d m) n nt x c (weakP k0 kp K) s = some res) : CSum P nt c G := by
  intro r F K s C a stk res hG hro hS hsz hd
  obtain ⟨m, n, hn⟩ := h K s res hG
  exact wpIn_mono ((codeI_sound (hint := hint) hm hT hE (codeD_sound (hint := hint) hm hT hE d m) n).1 hn hx hro hS hsz hd) fun e a w hp => weakP_sound hp

theorem csum_node {nt d m n : Nat} (k0 : Nat) (kp : Ex → List Nat) {c : Code} {x : Ann} (hx : AnnOk P nt c x) {I Y : Type} {S : I → St} {dec : St → Option I} {f : I → Option Y} {p : I → (Y → Ans) → Ans} {out : I → (Ex → St → Ans) → Y → Ans}
    (hdec : ∀ s i, dec s = some i → s = S i) (hnode : ∀ i K, codeI T E hint (codeD T E hint d m) n nt x c (weakP k0 kp K) (S i) = p i (out i K)) (hnat : ∀ i k, p i k = bindO (f i) k) :
    CSum P nt c (sumN dec f out) := by
  refine csum_of (hint := hint) (d := d) hm hT hE k0 kp hx ?_
  intro K s res h
  obtain ⟨i, hi, h⟩ := bindO_some' h
  refine ⟨m, n, ?_⟩
  rw [hdec s i hi, hnode, hnat]
  exact h

theorem csum_loop {nt d m : Nat} (k0 : Nat) (kp : Ex → List Nat) {c : Code} {x : Ann} (hx : AnnOk P nt (.loop c) x)
    {I V Y : Type} {S : I → V → St} {dec : St → Option (I × V)} {step : I → V → (V → Ans) → (Y → Ans) → Ans} {f : I → V → Option (V ⊕ Y)} {out : I → (Ex → St → Ans) → Y → Ans}
    (hdec : ∀ s x, dec s = some x → s = S x.1 x.2)
    (hstep : ∀ n i v K, codeI T E hint (codeD T E hint d m) (n + 1) nt x (.loop c) (weakP k0 kp K) (S i v) =
      step i v (fun v' => codeI T E hint (codeD T E hint d m) n nt x (.loop c) (weakP k0 kp K) (S i v')) (fun z => out i K z))
    (hnat : ∀ i v next exit, step i v next exit = bindO (f i v) (Sum.elim next exit)) : CSum P nt (.loop c) (sumL dec f out) := by
  refine csum_of (hint := hint) (d := d) hm hT hE k0 kp hx ?_
  intro K s res h
  unfold sumL at h
  obtain ⟨⟨i, v⟩, hd, h⟩ := bindO_some' h
  obtain ⟨z, hr, h⟩ := bindO_some' h
  refine ⟨m, FUEL, ?_⟩
  rw [hdec s _ hd, iterK_run (step := step i) (f := fun n v => codeI T E hint (codeD T E hint d m) n nt x (.loop c) (weakP k0 kp K) (S i v)) (k := fun z => out i K z)
    (fun v => by rw [codeI]) (fun n v => hstep n i v K) FUEL v, iterK_loopD (f := f i) (fun v next exit => hnat i v next exit) FUEL v z hr]
  exact h

theorem lsum_of2 {nt d : Nat} (k0 : Nat) (kp : Ex → List Nat) {c : Code} {x : Ann} (hx : AnnOk P nt (.loop c) x) {G : (Ex → St → Ans) → St → Ans}
    (h : ∀ K s res, G K s = some res → ∃ m n, codeI T E hint (codeD T E hint d m) n nt x (.loop c) (weakP k0 kp K) s = some res) : LSum P nt c G := by
  intro r F K s C a stk res hG hro hS hsz hd
  obtain ⟨m, n, hn⟩ := h K s res hG
  exact LoopWp.mono ((codeI_sound (hint := hint) hm hT hE (codeD_sound (hint := hint) hm hT hE d m) n).2 hn hx hro hS hsz hd) fun e a w hp => weakP_sound hp
theorem lsum_node {nt d m n : Nat} (k0 : Nat) (kp : Ex → List Nat) {c : Code} {x : Ann} (hx : AnnOk P nt (.loop c) x) {I Y : Type} {S : I → St} {dec : St → Option I} {f : I → Option Y} {p : I → (Y → Ans) → Ans} {out : I → (Ex → St → Ans) → Y → Ans}
    (hdec : ∀ s i, dec s = some i → s = S i) (hnode : ∀ i K, codeI T E hint (codeD T E hint d m) n nt x (.loop c) (weakP k0 kp K) (S i) = p i (out i K)) (hnat : ∀ i k, p i k = bindO (f i) k) :
    LSum P nt c (sumN dec f out) := by
  refine lsum_of2 (hint := hint) (d := d) hm hT hE k0 kp hx ?_
  intro K s res h
  obtain ⟨i, hi, h⟩ := bindO_some' h
  refine ⟨m, n, ?_⟩
  rw [hdec s i hi, hnode, hnat]
  exact h
theorem lsum_loop {nt d m : Nat} (k0 : Nat) (kp : Ex → List Nat) {c : Code} {x : Ann} (hx : AnnOk P nt (.loop c) x)
    {I V Y : Type} {S : I → V → St} {dec : St → Option (I × V)} {step : I → V → (V → Ans) → (Y → Ans) → Ans} {f : I → V → Option (V ⊕ Y)} {out : I → (Ex → St → Ans) → Y → Ans}
    (hdec : ∀ s x, dec s = some x → s = S x.1 x.2)
    (hstep : ∀ n i v K, codeI T E hint (codeD T E hint d m) (n + 1) nt x (.loop c) (weakP k0 kp K) (S i v) =
      step i v (fun v' => codeI T E hint (codeD T E hint d m) n nt x (.loop c) (weakP k0 kp K) (S i v')) (fun z => out i K z))
    (hnat : ∀ i v next exit, step i v next exit = bindO (f i v) (Sum.elim next exit)) : LSum P nt c (sumL dec f out) := by
  refine lsum_of2 (hint := hint) (d := d) hm hT hE k0 kp hx ?_
  intro K s res h
  unfold sumL at h
  obtain ⟨⟨i, v⟩, hd, h⟩ := bindO_some' h
  obtain ⟨z, hr, h⟩ := bindO_some' h
  refine ⟨m, FUEL, ?_⟩
  rw [hdec s _ hd, iterK_run (step := step i) (f := fun n v => codeI T E hint (codeD T E hint d m) n nt x (.loop c) (weakP k0 kp K) (S i v)) (k := fun z => out i K z)
    (fun v => by rw [codeI]) (fun n v => hstep n i v K) FUEL v, iterK_loopD (f := f i) (fun v next exit => hnat i v next exit) FUEL v z hr]
  exact h

/-- A function that may turn what its arguments lead to. -/
theorem func_mkD {g n : Nat} {fn : Func} {c : Code} (hf : P.funcs[g]? = some fn) (hb : fn.body = some c) (hn : fn.name ≠ "runtime.NumGoroutine") {d : Nat} {x : Ann} (hx : AnnOk P fn.ntmps c x)
    {A Y : Type} {dec : List AV → List Obj → Option A} {argsOf : A → List AV × List Obj} (hdec : ∀ l H a, dec l H = some a → (l, H) = argsOf a) {p : A → (Y → Ans) → Ans} {f : A → Option Y} {out : A → (AV → List Obj → Ans) → Y → Ans}
    (hfn : ∀ a K, fnE T E hint d n g fn.ntmps fn.results.toList x c (argsOf a).1 (argsOf a).2 K = p a (out a K)) (hnat : ∀ a k, p a k = bindO (f a) k) :
    FuncOk P g (fun l H K => bindO (dec l H) fun a => bindO (f a) fun y => out a K y) :=
  func_mk (hint := hint) hm hT hE hf hb hn hx hdec (f := fun a K => p a (out a K)) (v := fun a K => bindO (f a) fun y => out a K y) hfn
    (fun a K res h => by rw [hnat]; exact h)

/-- A function that only reads. -/
theorem pure_mkD {g n : Nat} {fn : Func} {c : Code} (hf : P.funcs[g]? = some fn) (hb : fn.body = some c) (hn : fn.name ≠ "runtime.NumGoroutine") {d : Nat} {x : Ann} (hx : AnnOk P fn.ntmps c x)
    {A Y : Type} {dec : List AV → Option A} {argsOf : A → List AV} (hdec : ∀ l a, dec l = some a → l = argsOf a) {p : A → (Y → Ans) → Ans} {f : A → Option Y} {rend : A → Y → AV}
    (hfn : ∀ a, fnE T E hint d n g fn.ntmps fn.results.toList x c (argsOf a) [] (fun v _ => some (v, [])) = p a (fun y => some (rend a y, []))) (hnat : ∀ a k, p a k = bindO (f a) k) (hcl : ∀ a y, (rend a y).closed1 = true) :
    PureOk P g (fun l K => bindO (dec l) fun a => bindO (f a) fun y => K (rend a y)) :=
  pure_mk (hint := hint) hm hT hE hf hb hn hx hdec (f := fun a K => bindO (f a) fun y => K (rend a y)) (v := fun a K => bindO (f a) fun y => K (rend a y))
    (fun a => by rw [hfn, hnat])
    (fun a K res h => by
      obtain ⟨y, hy, h⟩ := bindO_some' h
      refine ⟨rend a y, hcl a y, h, ?_⟩
      dsimp only
      rw [hy]
      rfl)
end

theorem annOk_at [BT] {nt : Nat} {c : Code} {x : Ann} {k0 : Nat} {keep : List Nat} (h : cutP P nt c x (AnnOk P nt c x)) : AnnOk P nt (.loop c) (.at k0 keep (.loop x)) := ⟨h, fun G e => by cases e⟩

theorem annOk_peel [BT] {nt : Nat} {c : Code} {x : Ann} {k0 : Nat} {keep : List Nat} {G : (Ex → St → Ans) → St → Ans} (h : cutP P nt c x (AnnOk P nt c x)) (hG : LSum P nt c G) : AnnOk P nt (.loop c) (.peel k0 keep x G) := ⟨h, fun G' e => by cases e; exact hG⟩
theorem lsum_altN [BT] {nt : Nat} {c : Code} {α : Type} {dec : St → Option α} {G1 G2 : (Ex → St → Ans) → St → Ans} (h1 : LSum P nt c G1) (h2 : LSum P nt c G2) : LSum P nt c (altN dec G1 G2) := by
  intro r F K s C a stk res h hro hS hsz hd
  unfold altN at h
  split at h
  · exact h1 h hro hS hsz hd
  · exact h2 h hro hS hsz hd

/-! ### A function read in several ways -/
def altF {A : Type} (d : List AV → List Obj → Option A) (v : A → (AV → List Obj → Ans) → Ans) (F : List AV → List Obj → (AV → List Obj → Ans) → Ans) : List AV → List Obj → (AV → List Obj → Ans) → Ans :=
  fun l H K => match d l H with
    | some a => v a K
    | none => F l H K
theorem func_altF [BT] {g : Nat} {A : Type} {d : List AV → List Obj → Option A} {v : A → (AV → List Obj → Ans) → Ans} {F : List AV → List Obj → (AV → List Obj → Ans) → Ans}
    (h1 : FuncOk P g (fun l H K => bindO (d l H) fun a => v a K)) (h2 : FuncOk P g F) : FuncOk P g (altF d v F) := func_alt' h1 h2
def altP {A : Type} (d : List AV → Option A) (v : A → (AV → Ans) → Ans) (F : List AV → (AV → Ans) → Ans) : List AV → (AV → Ans) → Ans :=
  fun l K => match d l with
    | some a => v a K
    | none => F l K
theorem pure_altP [BT] {g : Nat} {A : Type} {d : List AV → Option A} {v : A → (AV → Ans) → Ans} {F : List AV → (AV → Ans) → Ans}
    (h1 : PureOk P g (fun l K => bindO (d l) fun a => v a K)) (h2 : PureOk P g F) : PureOk P g (altP d v F) := by
  refine ⟨h1.1, fun C args us K res hh hH hv h => ?_⟩
  unfold altP at h
  split at h
  · rename_i a ha
    exact h1.2 C args us K res hh hH hv (by dsimp only; rw [ha]; exact h)
  · exact h2.2 C args us K res hh hH hv h
theorem envOk_sub [BT] {E' : Env} (h : ∀ g sp, Env.get E g = some sp → SpecOk P g sp) : EnvOk P E := h
end Go.AE
namespace Go.AE

/-- A loop whose state keeps to something, by rounds. -/
theorem loopD_inv {V Y : Type} {f : V → Option (V ⊕ Y)} (Inv : Nat → V → Prop) (N : Nat) (Q : Y → Prop)
    (h : ∀ j v, Inv j v → (∃ v', f v = some (.inl v') ∧ j < N ∧ Inv (j + 1) v') ∨ ∃ y, f v = some (.inr y) ∧ Q y) {v : V} (h0 : Inv 0 v) (hN : N ≤ 18446744073709551000) :
    ∃ y, loopD f FUEL v = some y ∧ Q y := by
  have key : ∀ d j v, j + d = N → Inv j v → ∃ y, loopD f (d + 1) v = some y ∧ Q y := by
    intro d
    induction d with
    | zero =>
      intro j v hj hi
      rcases h j v hi with ⟨v', _, hlt, _⟩ | ⟨y, hf, hq⟩
      · omega
      · exact ⟨y, by rw [loopD, hf]; rfl, hq⟩
    | succ d ih =>
      intro j v hj hi
      rcases h j v hi with ⟨v', hf, hlt, hi'⟩ | ⟨y, hf, hq⟩
      · obtain ⟨y, hy, hq⟩ := ih (j + 1) v' (by omega) hi'
        exact ⟨y, by rw [loopD, hf]; exact hy, hq⟩
      · exact ⟨y, by rw [loopD, hf]; rfl, hq⟩
  obtain ⟨y, hy, hq⟩ := key N 0 v (by omega) h0
  exact ⟨y, loopD_more _ _ v y (by unfold FUEL; omega) hy, hq⟩

/-- A loop that goes through a list by its index: each round tells the next state, or an exit. -/
theorem loopD_each {α σ Y V : Type} {f : V → Option (V ⊕ Y)} (l : List α) (enc : Nat → σ → V) (Inv : Nat → σ → Prop) (Q : Y → Prop)
    (hs : ∀ j x s, l[j]? = some x → j < l.length → Inv j s → (∃ s', f (enc j s) = some (.inl (enc (j + 1) s')) ∧ Inv (j + 1) s') ∨ ∃ y, f (enc j s) = some (.inr y) ∧ Q y)
    (he : ∀ s, Inv l.length s → ∃ y, f (enc l.length s) = some (.inr y) ∧ Q y) {s0 : σ} (h0 : Inv 0 s0) (hl : l.length ≤ 18446744073709551000) :
    ∃ y, loopD f FUEL (enc 0 s0) = some y ∧ Q y := by
  refine loopD_inv (fun j v => j ≤ l.length ∧ ∃ s, v = enc j s ∧ Inv j s) l.length Q ?_ ⟨Nat.zero_le _, s0, rfl, h0⟩ hl
  rintro j v ⟨hj, s, rfl, hi⟩
  by_cases hlt : j < l.length
  · rcases hs j l[j] s (List.getElem?_eq_getElem hlt) hlt hi with ⟨s', h1, h2⟩ | h
    · exact .inl ⟨_, h1, hlt, hlt, s', rfl, h2⟩
    · exact .inr h
  · obtain rfl : j = l.length := by omega
    exact .inr (he s hi)

/-- A loop over what an iterator tells: each told, a step or a way out. -/
def foldX {σ Y : Type} (g : Int → σ → σ ⊕ Y) (e : σ → Y) : List Int → σ → Y
  | [], s => e s
  | k :: r, s => match g k s with
    | .inl s' => foldX g e r s'
    | .inr y => y
theorem loopD_told {σ Y : Type} {f : List Int × σ → Option ((List Int × σ) ⊕ Y)} (g : Int → σ → σ ⊕ Y) (e : σ → Y) (Inv : σ → Prop) (hnil : ∀ s, Inv s → f ([], s) = some (.inr (e s)))
    (hcons : ∀ k r s, Inv s → f (k :: r, s) = some (match g k s with | .inl s' => .inl (r, s') | .inr y => .inr y) ∧ ∀ s', g k s = .inl s' → Inv s') :
    ∀ (L : List Int) (s : σ), Inv s → L.length ≤ 18446744073709551000 → loopD f FUEL (L, s) = some (foldX g e L s) := by
  have key : ∀ (L : List Int) (s : σ), Inv s → loopD f (L.length + 1) (L, s) = some (foldX g e L s) := by
    intro L
    induction L with
    | nil => intro s hs; rw [List.length_nil, loopD, hnil s hs]; rfl
    | cons k r ih =>
      intro s hs
      obtain ⟨h1, h2⟩ := hcons k r s hs
      rw [List.length_cons, loopD, h1]
      cases hg : g k s with
      | inl s' => simp only [bindO, Sum.elim_inl, foldX, hg]; exact ih s' (h2 s' hg)
      | inr y => simp only [bindO, Sum.elim_inr, foldX, hg]
  intro L s hs hL
  exact loopD_more _ _ _ _ (by unfold FUEL; omega) (key L s hs)
theorem foldX_inl {σ Y : Type} (g : Int → σ → σ) (e : σ → Y) : ∀ (L : List Int) (s : σ), foldX (fun k s => .inl (g k s)) e L s = e (L.foldl (fun s k => g k s) s)
  | [], s => rfl
  | k :: r, s => by rw [foldX]; exact foldX_inl g e r _

theorem wrap64_self {x : Int} (h : -9223372036854775808 ≤ x ∧ x ≤ 9223372036854775807) : IntKind.wrap .i64 x = x := wrap64 h.1 h.2
theorem wrap64_nat {n : Nat} (h : n < 9223372036854775807) : IntKind.wrap .i64 ((n : Int) + 1) = ((n + 1 : Nat) : Int) := by rw [wrap64 (by omega) (by omega)]; rfl
theorem ble_true {a b : Nat} (h : a ≤ b) : Nat.ble a b = true := Nat.ble_eq_true_of_le h
theorem dec_true {p : Prop} [Decidable p] (h : p) : decide p = true := decide_eq_true h
theorem dec_false {p : Prop} [Decidable p] (h : ¬ p) : decide p = false := decide_eq_false h
theorem inR_true {i : Int} {n : Nat} (h : 0 ≤ i ∧ i < (n : Int)) : inR i n = true := by simp [inR, h]
theorem inR_false {i : Int} {n : Nat} (h : ¬ (0 ≤ i ∧ i < (n : Int))) : inR i n = false := by
  unfold inR
  by_cases h1 : 0 ≤ i
  · have : ¬ i < (n : Int) := fun h2 => h ⟨h1, h2⟩
    simp [this]
  · simp [h1]
theorem nth_of {α : Type} {l : List α} {j : Nat} {x : α} (h : l[j]? = some x) : nth l (j : Int) = some x := by rw [nth_nat, h]
theorem ibeq (a b : Int) : (a == b) = decide (a = b) := rfl
theorem ibne (a b : Int) : (a != b) = !decide (a = b) := rfl
theorem cond_if {α : Type} (p : Prop) [Decidable p] (a b : α) : (bif !decide p then some a else some b) = some (if p then b else a) := by
  by_cases h : p
  · rw [dec_true h, if_pos h]; rfl
  · rw [dec_false h, if_neg h]; rfl
end Go.AE
namespace Go.AE
open Go.RowKit (Below)
variable {P : Program} {T : Tab} {E : Env} {hint : Hint}

/-! ### The ghost stands -/
theorem keepT_or (env : Tmps) (n : Nat) : ∀ l : List Nat, getT (keepT env l) n = .unk ∨ getT (keepT env l) n = getT env n
  | [] => .inl rfl
  | d :: r => by
    rw [keepT, getT_cons]
    split
    · rename_i e; subst e; exact .inr rfl
    · exact keepT_or env n r
def GhOr (n : Nat) (L : List Int) (s : St) : Prop := getT s.env n = .gh L ∨ getT s.env n = .unk
theorem GhOr.map {n : Nat} {L : List Int} {env : Tmps} (g : AV → AV) (h : getT env n = .gh L ∨ getT env n = .unk) : getT (mapTmps g env) n = .gh L ∨ getT (mapTmps g env) n = .unk := by
  rw [getT_mapTmps]
  rcases h with h | h <;> rw [h]
  · exact .inl rfl
  · exact .inr rfl

theorem packed_gh {s s' : St} (h : Packed s s') {n : Nat} {L : List Int} : GhOr n L s → GhOr n L s' := by
  induction h with
  | refl => exact fun hg => hg
  | sel _ _ ih => exact fun hg => ih (GhOr.map _ hg)
  | loose _ _ ih => exact fun hg => ih (GhOr.map _ hg)
theorem packSt_at (k0 : Nat) (s : St) (n : Nat) (L : List Int) (h : GhOr n L s) : (∃ s', GhOr n L s' ∧ ∀ K, packSt k0 s K = K s') ∨ ∀ K, packSt k0 s K = none := by
  rcases packSt_or k0 s with ⟨s', hp, e⟩ | e
  · exact .inl ⟨s', packed_gh hp h, e⟩
  · exact .inr e
theorem head_gh (s : St) (n : Nat) (L : List Int) (keep : List Nat) (h : GhOr n L s) : GhOr n L (s.head keep) := by
  show getT (keepT s.env keep) n = _ ∨ getT (keepT s.env keep) n = _
  rcases keepT_or s.env n keep with e | e
  · exact .inr e
  · rw [e]; exact h
theorem headE_at (keep : List Nat) (x : Ann) (s : St) (n : Nat) (L : List Int) (h : GhOr n L s) : (∃ s', GhOr n L s' ∧ ∀ K, headE keep x s K = K s') ∨ ∀ K, headE keep x s K = none := by
  unfold headE
  cases x.at? with
  | some p =>
    obtain ⟨k0, keep'⟩ := p
    simp only [forceSt_eq]
    exact packSt_at k0 _ n L (head_gh s n L keep' h)
  | none =>
    simp only [forceSt_eq]
    cases x.pack? with
    | some k0 => exact packSt_at k0 _ n L (head_gh s n L keep h)
    | none => exact .inl ⟨_, head_gh s n L keep h, fun K => rfl⟩

open Classical in
theorem headE_gh [BT] {F : Fr} {C : Cx} {s : St} {tmps : Array Value} {stk : List (Array Value)} (hS : SRel F C s tmps stk) {keep : List Nat} {x : Ann} {K : St → Ans} {res : AV × List Obj} (h : headE keep x s K = some res) {n : Nat} {L : List Int} (hg : GhOr n L s) :
    ∃ s' C', C'.w = C.w ∧ SRel F C' s' tmps stk ∧ K s' = some res ∧ GhOr n L s' := by
  rcases headE_at keep x s n L hg with ⟨s0, h0, e⟩ | e
  · have h2 : headE keep x s (fun s' => if GhOr n L s' then K s' else none) = some res := by
      rw [e]
      rw [e] at h
      rw [if_pos h0]
      exact h
    obtain ⟨s', C', h3, h4, h5⟩ := headE_sound hS h2
    split at h5
    · rename_i hg'; exact ⟨s', C', h3, h4, h5, hg'⟩
    · cases h5
  · rw [e] at h; cases h
open Classical in
theorem packSt_gh [BT] {F : Fr} {C : Cx} {s : St} {tmps : Array Value} {stk : List (Array Value)} (hS : SRel F C s tmps stk) {k0 : Nat} {K : St → Ans} {res : AV × List Obj} (h : packSt k0 s K = some res) {n : Nat} {L : List Int} (hg : GhOr n L s) :
    ∃ s' C', C'.w = C.w ∧ SRel F C' s' tmps stk ∧ K s' = some res ∧ GhOr n L s' := by
  rcases packSt_at k0 s n L hg with ⟨s0, h0, e⟩ | e
  · have h2 : packSt k0 s (fun s' => if GhOr n L s' then K s' else none) = some res := by
      rw [e]
      rw [e] at h
      rw [if_pos h0]
      exact h
    obtain ⟨s', C', h3, h4, h5⟩ := packSt_sound hS h2
    split at h5
    · rename_i hg'; exact ⟨s', C', h3, h4, h5, hg'⟩
    · cases h5
  · rw [e] at h; cases h

/-! ### Small things -/
theorem getT_dropT (n t : Nat) : ∀ env : Tmps, getT (dropT n env) t = if t = n then .unk else getT env t
  | [] => by rw [dropT, getT_nil]; split <;> rfl
  | (d, v) :: r => by
    rw [dropT]
    cases hb : Nat.beq d n with
    | true =>
      have hd := Nat.eq_of_beq_eq_true hb
      rw [cond_true, getT_dropT n t r, getT_cons]
      by_cases e : t = n
      · rw [if_pos e, if_pos e]
      · rw [if_neg e, if_neg e, if_neg (by omega)]
    | false =>
      rw [cond_false, getT_cons, getT_cons, getT_dropT n t r]
      by_cases e : d = t
      · have : t ≠ n := by intro h; rw [← e] at h; rw [h, Nat.beq_refl] at hb; cases hb
        rw [if_pos e, if_neg this, if_pos e]
      · rw [if_neg e, if_neg e]
theorem ERel.drop {C : Cx} {env : Tmps} {tmps : Array Value} (h : ERel C env tmps) (n : Nat) : ERel C (dropT n env) tmps := by
  intro t
  rw [getT_dropT]
  split
  · rw [VRel]; trivial
  · exact h t
theorem ERel.gh {C : Cx} {env : Tmps} {tmps : Array Value} (h : ERel C env tmps) (n : Nat) (L : List Int) : ERel C ((n, .gh L) :: env) tmps := by
  intro t
  rw [getT_cons]
  split
  · rw [VRel]; trivial
  · exact h t

theorem putPs_sound {C : Cx} {nt : Nat} : ∀ {ps : List Nat} {xs : List AV} {env : Tmps} {K : Tmps → Ans} {res : AV × List Obj} {vs : List Value} {tmps : Array Value}, putPs nt ps xs env K = some res → VRels C xs vs → ERel C env tmps → nt ≤ tmps.size →
    ∃ env', K env' = some res ∧ ps.length = vs.length ∧ ERel C env' ((ps.zip vs).foldl (fun t (p : Nat × Value) => t.setIfInBounds p.1 p.2) tmps) ∧ nt ≤ ((ps.zip vs).foldl (fun t (p : Nat × Value) => t.setIfInBounds p.1 p.2) tmps).size
  | [], [], env, K, res, vs, tmps, h, hv, he, hn => by
    rw [putPs] at h
    rw [VRels] at hv
    subst hv
    exact ⟨env, h, rfl, he, hn⟩
  | p :: r, x :: xs, env, K, res, vs, tmps, h, hv, he, hn => by
    rw [putPs] at h
    replace h := cond_none h; obtain ⟨hp, h⟩ := h
    rw [forceV_eq] at h
    rw [VRels] at hv
    obtain ⟨v, vs', rfl, h1, h2⟩ := hv
    have hp : p < nt := Nat.lt_of_lt_of_le (Nat.lt_succ_self p) (Nat.le_of_ble_eq_true hp)
    obtain ⟨env', g1, g2, g3, g4⟩ := putPs_sound (tmps := tmps.setIfInBounds p v) h h2 (ERel.put he h1 (by omega)) (by simpa using hn)
    exact ⟨env', g1, by simp [g2], g3, g4⟩
  | [], _ :: _, _, _, _, _, _, h, _, _, _ => by simp [putPs] at h
  | _ :: _, [], _, _, _, _, _, h, _, _, _ => by simp [putPs] at h

theorem iterOf_spec {C : Cx} {s : St} {g : Operand} {it : (List AV → List Obj → (List Int → Ans) → Ans) × (List AV → List Obj → List Int → Ans → (List AV → List Int → Ans) → Ans) × List AV} {a : Act} (h : iterOf E s g = some it) (he : ERel C s.env a.tmps) :
    ∃ gf us, Env.get E (gf + 100000) = some (.iter it.1 it.2.1) ∧ a.eval g = .func (.func gf) #[] us ∧ VRels C it.2.2 us.toList := by
  unfold iterOf at h
  have hv := opd_rel (C := C) he g
  split at h
  · rename_i gf cap hf
    rw [hf, VRel] at hv
    obtain ⟨a', b', e, h1, h2⟩ := hv
    rw [VRels] at h1
    have h1 : a' = #[] := by
      cases a'
      simpa using h1
    subst h1
    split at h
    · rename_i st nx hg
      cases h
      exact ⟨gf, b', hg, e, h2⟩
    · cases h
  · cases h

/-! ### The loop's record -/
def recOf (fn : Nat) (a : Act) (ps : Array Nat) (as c : Code) (dd : Nat) (st : LoopState) (pe : Option Code) : Go.Loop :=
  { state := st, pending := pe, fn, tmps := a.tmps, params := ps, assign := as, body := c, defers := dd }

/-- Marks that a loop lays. -/
def MarkIn (C : Cx) (mark : List Deferred) (lo l : Nat) : Prop := mark = [] ∨ ∃ D, mark = [{ target := .collected D, args := #[] }] ∧ lo ≤ D ∧ D ≠ l ∧ C.w.heap[D]? = some (.deferred (some [])) ∧ C.Beside D

theorem Beside.new [BT] {C : Cx} (hh : HRel C) {b : Nat} (h : C.w.heap.size ≤ b) : C.Beside b :=
  ⟨fun hb => by have := hh.rlt b hb; omega, fun i hl hb => by have := hh.blk_lt hl hb; omega⟩

theorem enter_any [BT] {r : Option Nat} {F : Fr} {C : Cx} (hh : HRel C) (hro : RndOk r F) (hF : FrameOk F C) (fn : Nat) (a : Act) (ps : Array Nat) (as c : Code) :
    ∃ l mark W1 dd, (Instr.enterLoop fn a.tmps ps as c r).run P C.w = .ok (l, mark) W1 ∧ W1.heap[l]? = some (.loop (recOf fn a ps as c dd .ready none)) ∧ C.w.heap.size ≤ l ∧ Below C.w.heap.size C.w W1 ∧ l < W1.heap.size ∧
      ∀ C' : Cx, HRel C' → C'.w.heap.size = C.w.heap.size → MarkIn (C'.at W1) mark C.w.heap.size l := by
  cases r with
  | none =>
    refine ⟨C.w.heap.size + 1, _, _, C.w.heap.size, run_enterLoop_outer _ _ _ _ _, ?_, by omega, ?_, by simp, fun C' hh' hs' => .inr ⟨C.w.heap.size, rfl, Nat.le_refl _, by omega, ?_, ?_⟩⟩
    · have := World.alloc_heap_new (C.w.alloc (.deferred (some []))) (.loop (recOf fn a ps as c C.w.heap.size .ready none))
      rwa [World.size_alloc] at this
    · exact ((Below.refl _ C.w).alloc (Nat.le_refl _) _).alloc (by simp) _
    · exact (Below.heap_alloc _ _ _ (by simp)).trans (World.alloc_heap_new C.w _)
    · exact Beside.new hh' (Nat.le_of_eq hs')
  | some l0 =>
    obtain ⟨r0, h0⟩ := hro l0 rfl
    refine ⟨C.w.heap.size, _, _, r0.defers, run_enterLoop_inner (h0.at hF).1 _ _ _ _ _, ?_, Nat.le_refl _, ?_, by simp, fun _ _ _ => .inl rfl⟩
    · exact World.alloc_heap_new C.w _
    · exact (Below.refl _ C.w).alloc (Nat.le_refl _) _

def jumpOf : Ex → Option Code
  | .ret => some .ret
  | .exit i => some (.exit i)
  | _ => none

theorem weakP_goto {k0 : Nat} {kp : Ex → List Nat} {K : Ex → St → Ans} {l : Nat} {s : St} {res : AV × List Obj} (h : weakP k0 kp K (.goto l) s = some res) : False := by cases h

theorem below_priv [BT] {C : Cx} (hh : HRel C) {W : World} (h : Below C.w.heap.size C.w W) (n0 : Nat) : Priv n0 C W :=
  ⟨h.os, h.tape, h.output, h.size, fun b hb _ => h.block b hb, fun b hb => h.block b (hh.rlt b hb), fun i b hl hb => h.block b (hh.blk_lt hl hb)⟩

section
variable [BT] (hm : P.follows .mixedOrders = true) (hT : TabOk P T) (hE : EnvOk P E)
include hm hT hE
/-- **A range over a function, its rounds walked by AE.** -/
theorem csum_rounds {nt d m : Nat} (k0 : Nat) (kp : Ex → List Nat) (keep : List Nat) {g : Operand} {ps : Array Nat} {as c : Code} {x : Ann} (hx : cutP P nt c x.fst (AnnOk P nt c x.fst)) {G : (Ex → St → Ans) → St → Ans}
    (h : ∀ K s res, G K s = some res → ∃ n, codeI T E hint (codeD T E hint d m) n nt (.rnd x) (.rangeFunc g ps as c) (weakP k0 kp K) s = some res) :
    CSum P nt (.rangeFunc g ps as c) (startG E nt k0 keep g G) := by
  intro r F K0 s C a stk res hG hro hS hsz hd
  unfold startG at hG
  obtain ⟨it, hit, hG⟩ := bindO_some hG
  obtain ⟨start, next, cap⟩ := it
  dsimp only at hG
  obtain ⟨gf, us, hget, hev, hcap⟩ := iterOf_spec (a := a) hit hS.env
  dsimp only at hget hcap
  obtain ⟨start0, nx, hIt, hst0, hnx⟩ : SpecOk P (gf + 100000) (.iter start next) := hE _ _ hget
  rw [Nat.add_sub_cancel] at hIt
  rw [hst0] at hG
  obtain ⟨L, hL, hG⟩ := bindO_some hG
  obtain ⟨env, sk, H, blk⟩ := s
  dsimp only at hG
  rw [forceSt_eq] at hG
  have hS1 : SRel F C ⟨(nt, .gh L) :: env, sk, H, blk⟩ a.tmps stk := ⟨hS.H, hS.heap, ERel.gh hS.env nt L, hS.stk, hS.frame⟩
  obtain ⟨C2, hw2, hS2⟩ := head_sound hS1 keep
  have hg2 : GhOr nt L (St.head ⟨(nt, .gh L) :: env, sk, H, blk⟩ keep) := head_gh _ nt L keep (.inl (by show getT ((nt, .gh L) :: env) nt = _; rw [getT_cons, if_pos rfl]))
  obtain ⟨s3, C3, hw3, hS3, hG, hg3⟩ := packSt_gh hS2 hG hg2
  obtain ⟨n3, hn3⟩ := h K0 s3 res hG
  obtain ⟨K, hK⟩ : ∃ K, K = weakP k0 kp K0 := ⟨_, rfl⟩
  rw [← hK] at hn3
  refine wpIn_mono ?_ (fun e a w hp => weakP_sound (k0 := k0) (kp := kp) hp)
  rw [← hK]
  have hgoto : ∀ l s', K (.goto l) s' ≠ some res := fun l s' h' => by rw [hK] at h'; cases h'
  clear hG h
  -- a round's evaluation, unfolded
  have unf : ∀ {F' : Fr} {C' : Cx} {n : Nat} {s' : St} {L' : List Int} {stk' : List (Array Value)}, SRel F' C' s' a.tmps stk' → GhOr nt L' s' → codeI T E hint (codeD T E hint d m) n nt (.rnd x) (.rangeFunc g ps as c) K s' = some res →
      ∃ n' cap', n = n' + 1 ∧ getT s'.env nt = .gh L' ∧ iterOf E s' g = some (start, next, cap') ∧ VRels C' cap' us.toList ∧ ∃ o, nx cap' C'.H L' = some o ∧ (o = none → K .norm s' = some res) ∧
        ∀ xs L2, o = some (xs, L2) → (match s' with
       | ⟨env, stk, H, blk⟩ => putPs nt ps.toList xs (dropT nt env) fun env' =>
          codeW T E hint (codeD T E hint d m) nt (codeI T E hint (codeD T E hint d m) n') as .none (fun e s1 => match e with
            | .norm => cutOr (fun x K s => codeW T E hint (codeD T E hint d m) nt (codeI T E hint (codeD T E hint d m) n') c x K s) x.fst
                (popT blk fun e s => match e with
                  | .norm => match s with
                    | ⟨env, stk, H, blk⟩ => headE (hint blk) x ⟨(nt, .gh L2) :: env, stk, H, blk⟩ fun s => codeI T E hint (codeD T E hint d m) n' nt (.rnd x) (.rangeFunc g ps as c) K s
                  | e => K e s) s1
            | _ => none) ⟨env', dropT nt env :: stk, H, blk⟩) = some res := by
    intro F' C' n s' L' stk' hS' hg hev'
    cases n with
    | zero => rw [codeI] at hev'; cases hev'
    | succ n =>
      rw [codeI] at hev'
      unfold roundR at hev'
      rcases hg with hg | hg
      · rw [hg] at hev'
        simp only at hev'
        obtain ⟨it, hit, hev'⟩ := bindO_some hev'
        obtain ⟨gf', us', hget', hev2, hcap'⟩ := iterOf_spec (a := a) hit hS'.env
        rw [hev] at hev2
        cases hev2
        rw [hget] at hget'
        obtain ⟨st', nx', cap'⟩ := it
        dsimp only at hget' hev' hcap'
        cases hget'
        rw [hnx] at hev'
        obtain ⟨o, ho, hev'⟩ := bindO_some hev'
        refine ⟨n, cap', rfl, hg, hit, hcap', o, by rw [hS'.H]; exact ho, fun e => by subst e; exact hev', fun xs L2 e => by subst e; exact hev'⟩
      · rw [hg] at hev'
        cases hev'
  refine wpIn_rangeFunc ?_
  intro fn _
  obtain ⟨l, mark, W1, dd, hent, hrec, hl0, hbel, hl1, hmark⟩ := enter_any hS.heap hro hS.frame fn a ps as c
  refine ⟨l, mark, W1, { target := .fn (.func gf) us, args := #[.func (.yield l) #[] #[]] }, W1, gf, #[.func (.yield l) #[] #[]] ++ us, W1, hent, ?_, fun _ _ => trivial, ?_, WF_depth r 0, ?_⟩
  · simp only [resolve, hev]
    simp [go_sem]
  · have := fun w => hIt.1.run (#[.func (.yield l) #[] #[]] ++ us) w
    simp [invoke, go_sem] at this ⊢
    exact this W1
  have hw31 : C3.w = C.w := hw3.trans hw2
  have hs0 : F.w0.heap.size ≤ l := Nat.le_trans hS.frame.size hl0
  have hS31 : SRel F (C3.at W1) s3 a.tmps stk := at_sound hS3 (by rw [hw31]; exact hbel)
  -- what holds between rounds
  obtain ⟨J, hJ⟩ : ∃ J : List Int → Cx → List AV → Prop, J = fun L' C' cap' => ∃ n s', codeI T E hint (codeD T E hint d m) n nt (.rnd x) (.rangeFunc g ps as c) K s' = some res ∧ GhOr nt L' s' ∧ iterOf E s' g = some (start, next, cap') ∧ SRel F C' s' a.tmps stk ∧
      C'.w.heap[l]? = some (.loop (recOf fn a ps as c dd .ready none)) ∧ C'.Beside l ∧ MarkIn C' mark C.w.heap.size l := ⟨_, rfl⟩
  obtain ⟨Jx, hJx⟩ : ∃ Jx : Cx → Prop, Jx = fun C' => ∃ e code s', jumpOf e = some code ∧ K e s' = some res ∧ SRel F C' s' a.tmps stk ∧
      C'.w.heap[l]? = some (.loop (recOf fn a ps as c dd .done (some code))) ∧ C'.Beside l ∧ MarkIn C' mark C.w.heap.size l := ⟨_, rfl⟩
  have hD1 : ∀ D, mark = [{ target := .collected D, args := #[] }] → D < W1.heap.size := by
    intro D hD
    rcases hmark C hS.heap rfl with e | ⟨D', e, _, _, h1, _⟩
    · rw [e] at hD; cases hD
    · rw [e] at hD
      cases hD
      exact (Array.getElem?_eq_some_iff.1 h1).1
  have mark_priv : ∀ (C' : Cx) (W : World), MarkIn C' mark C.w.heap.size l → Priv W1.heap.size C' W → MarkIn (C'.at W) mark C.w.heap.size l := by
    intro C' W h hp
    rcases h with e | ⟨D, e, h1, h2, h3, h4⟩
    · exact .inl e
    · exact .inr ⟨D, e, h1, h2, (hp.low D (Array.getElem?_eq_some_iff.1 h3).1 (hD1 D e)).trans h3, h4⟩
  have mark_put : ∀ (C' : Cx) (o : Go.Obj), MarkIn C' mark C.w.heap.size l → MarkIn (C'.at (C'.w.putObj l o)) mark C.w.heap.size l := by
    intro C' o h
    rcases h with e | ⟨D, e, h1, h2, h3, h4⟩
    · exact .inl e
    · exact .inr ⟨D, e, h1, h2, (World.putObj_heap_other h2).trans h3, h4⟩
  have mark_re : ∀ (C' C'' : Cx), MarkIn C' mark C.w.heap.size l → FrameOk (F.re C') C'' → MarkIn C'' mark C.w.heap.size l := by
    intro C' C'' h hf
    rcases h with e | ⟨D, e, h1, h2, h3, h4⟩
    · exact .inl e
    · have := (re_safe (F := F) h3 h4).at hf
      exact .inr ⟨D, e, h1, h2, this.1, this.2⟩
  obtain ⟨_, cap3, _, _, hit3, _, _⟩ := unf hS31 hg3 hn3
  have J0 : J L (C3.at W1) cap3 := by
    rw [hJ]
    exact ⟨n3, s3, hn3, hg3, hit3, hS31, hrec, Beside.new hS3.heap (by rw [hw31]; exact hl0), hmark C3 hS3.heap (by rw [hw31])⟩
  have hrun := hIt.2 (.func (.yield l) #[] #[]) (C.at W1) cap us L J Jx (at_heap hS.heap hbel) (VRels.mono (at_ref hS.heap hbel) (at_R hS.heap hbel) hcap) (by show start0 cap C.H = some L; rw [hS.H]; exact hL) ⟨C3.at W1, cap3, rfl, J0⟩ ?_ ?_ ?_ ?_
  · -- behind the iterator
    refine CallsIn.mono (F := WF r) hrun ?_
    -- a way out
    have fin : ∀ (C' : Cx) (s' : St) (o : Go.Obj) (e : Ex), SRel F C' s' a.tmps stk → C'.Beside l → MarkIn C' mark C.w.heap.size l → K e s' = some res →
        CPost F K stk nt res e.toExit { a with defers := mark ++ a.defers } (C'.w.putObj l o) := by
      intro C' s' o e hS' hb hmk hK'
      obtain ⟨C6, hC6⟩ : ∃ C6, C6 = C'.at (C'.w.putObj l o) := ⟨_, rfl⟩
      have hp : Priv F.w0.heap.size C' (C'.w.putObj l o) := putObj_priv o hb hs0
      have hS6 : SRel F C6 s' a.tmps stk := by rw [hC6]; exact priv_sound hS' (Nat.le_refl _) hp
      have hmk6 : MarkIn C6 mark C.w.heap.size l := by rw [hC6]; exact mark_put C' o hmk
      have hw6 : C'.w.putObj l o = C6.w := by rw [hC6]; rfl
      rw [hw6]
      have hle := re_le hS6.frame
      have hdre := hd.le hle
      refine ⟨F.re C6, e, s', C6, hle, rfl, hK', rfl, ⟨hS6.H, hS6.heap, hS6.env, hS6.stk, re_ok F C6⟩, hsz, hdre.1, ?_⟩
      rcases hmk6 with e' | ⟨D, e', h1, h2, h3, h4⟩
      · rw [e']; exact hdre.2
      · rw [e']
        refine ⟨⟨D, ⟨rfl, Nat.le_trans hd.1 (Nat.le_trans hS.frame.size h1), re_safe h3 h4⟩, ?_⟩, hdre.2⟩
        exact hd.2.fresh (Nat.le_trans hS.frame.size h1)
    rintro e W' ⟨rfl, hcase⟩
    rcases hcase with ⟨L', C', cap', rfl, hj, hnone⟩ | ⟨C', rfl, hj⟩
    · rw [hJ] at hj
      obtain ⟨n, s', hev', hg', hit', hS', hl', hbl', hmk'⟩ := hj
      obtain ⟨n', cap2, rfl, _, hit2, _, o, ho, hn, _⟩ := unf hS' hg' hev'
      rw [hit'] at hit2
      cases hit2
      rw [hnone] at ho
      cases ho
      exact ⟨none, _, run_endLoop hl' (by simp [recOf]), fin C' s' _ .norm hS' hbl' hmk' (hn rfl)⟩
    · rw [hJx] at hj
      obtain ⟨e, code, s', hcode, hK', hS', hl', hbl', hmk'⟩ := hj
      refine ⟨some code, _, run_endLoop hl' (by simp [recOf]), ?_⟩
      cases e with
      | norm => cases hcode
      | goto l => cases hcode
      | ret =>
        cases hcode
        exact wpIn_ret (fin C' s' _ .ret hS' hbl' hmk' hK')
      | exit i =>
        cases hcode
        exact wpIn_exit (fin C' s' _ (.exit i) hS' hbl' hmk' hK')
  · intro L' C1 cap1 hj
    rw [hJ] at hj
    obtain ⟨n, s', hev', hg', hit', hS', hl', hbl', hmk'⟩ := hj
    obtain ⟨n', cap2, rfl, _, hit2, hcap2, o, ho, _, _⟩ := unf hS' hg' hev'
    rw [hit'] at hit2
    cases hit2
    exact ⟨hS'.heap, hcap2, o, ho⟩
  · intro L' C1 cap1 W hj hp
    rw [hJ] at hj ⊢
    obtain ⟨n, s', hev', hg', hit', hS', hl', hbl', hmk'⟩ := hj
    exact ⟨n, s', hev', hg', hit', priv_sound hS' (Nat.le_trans hs0 (Nat.le_of_lt hl1)) hp, (hp.low l (Array.getElem?_eq_some_iff.1 hl').1 hl1).trans hl', hbl', mark_priv C1 W hmk' hp⟩
  · intro C1 W hj hp
    rw [hJx] at hj ⊢
    obtain ⟨e, code, s', hcode, hK', hS', hl', hbl', hmk'⟩ := hj
    exact ⟨e, code, s', hcode, hK', priv_sound hS' (Nat.le_trans hs0 (Nat.le_of_lt hl1)) hp, (hp.low l (Array.getElem?_eq_some_iff.1 hl').1 hl1).trans hl', hbl', mark_priv C1 W hmk' hp⟩
  · -- one round
    intro L1 C1 cap1 xs L2 hj hnxv vs hvs
    rw [hJ] at hj
    obtain ⟨n, s', hev', hg', hit', hS', hl', hbl', hmk'⟩ := hj
    obtain ⟨n', cap2, rfl, _, hit2, hcap2, o, ho, _, hgo⟩ := unf hS' hg' hev'
    rw [hit'] at hit2
    cases hit2
    rw [hnxv] at ho
    cases ho
    replace hgo := hgo xs L2 rfl
    obtain ⟨env, sk, H, blk⟩ := s'
    simp only at hgo
    obtain ⟨env', hgo, hlen, henv', hszr⟩ := putPs_sound hgo hvs (ERel.drop hS'.env nt) hsz
    have hy := run_yield (P := P) (args := vs) hl' (by simpa [recOf] using hlen.symm)
    have htm : ((recOf fn a ps as c dd .ready none).params.zip vs).foldl (fun tmps (t, a) => tmps.setIfInBounds t a) (recOf fn a ps as c dd .ready none).tmps = (ps.toList.zip vs.toList).foldl (fun t (p : Nat × Value) => t.setIfInBounds p.1 p.2) a.tmps := by
      rw [← Array.foldl_toList, Array.toList_zip]
      rfl
    rw [htm] at hy
    refine ⟨.yield l, #[], _, rfl, by simpa [invoke] using hy, roundIn_of_wpIn trivial ?_⟩
    generalize (ps.toList.zip vs.toList).foldl (fun t (p : Nat × Value) => t.setIfInBounds p.1 p.2) a.tmps = tmpsR at henv' hszr
    have hSA : SRel (F.re C1) C1 ⟨env', dropT nt env :: sk, H, blk⟩ tmpsR (a.tmps :: stk) := ⟨hS'.H, hS'.heap, henv', by rw [SStk]; exact ⟨_, _, rfl, ERel.drop hS'.env nt, hS'.stk⟩, re_ok F C1⟩
    have hbase : F.base ≤ C1.w.heap.size := Nat.le_trans hd.1 hS'.frame.size
    obtain ⟨_, ih2⟩ := codeI_sound (hint := hint) hm hT hE (codeD_sound (hint := hint) hm hT hE d m) n'
    refine wpIn_mono (codeW_sound hm hT hE (codeD_sound (hint := hint) hm hT hE d m) ih2 as (r := some l) (a := { tmps := tmpsR, defers := [] }) hgo (annOk_none P nt as) (fun l' e => by cases e; exact ⟨_, re_safe hl' hbl'⟩) hSA hszr ⟨hbase, trivial⟩) ?_
    rintro e1 a1 w1 ⟨FA, e', s1, C2, hleA, rfl, hK1, rfl, hS2, hsz2, hmk2⟩
    cases e' with
    | exit i => cases hK1
    | ret => cases hK1
    | goto i => cases hK1
    | norm =>
    simp only at hK1
    obtain ⟨hl2, hb2⟩ := (hleA.safe _ _ (re_safe hl' hbl')).at hS2.frame
    have hlt2 := (Array.getElem?_eq_some_iff.1 hl2).1
    refine ⟨_, run_beginRound hl2 rfl, ?_⟩
    obtain ⟨C3', hC3⟩ : ∃ C3', C3' = C2.at (C2.w.putObj l (.loop { recOf fn a ps as c dd .ready none with state := .busy })) := ⟨_, rfl⟩
    have hw3' : C2.w.putObj l (.loop { recOf fn a ps as c dd .ready none with state := .busy }) = C3'.w := by rw [hC3]; rfl
    rw [hw3']
    have hp2 : Priv F.w0.heap.size C2 (C2.w.putObj l (.loop { recOf fn a ps as c dd .ready none with state := .busy })) := putObj_priv _ hb2 hs0
    have hF2 : FrameOk F C2 := (re_le hS'.frame).frame _ (hleA.frame _ hS2.frame)
    have hS2F : SRel F C2 s1 a1.tmps (a.tmps :: stk) := ⟨hS2.H, hS2.heap, hS2.env, hS2.stk, hF2⟩
    have hS3F : SRel F C3' s1 a1.tmps (a.tmps :: stk) := by rw [hC3]; exact priv_sound hS2F (Nat.le_refl _) hp2
    have hS3B : SRel (F.re C3') C3' s1 a1.tmps (a.tmps :: stk) := ⟨hS3F.H, hS3F.heap, hS3F.env, hS3F.stk, re_ok F C3'⟩
    have hl3 : C3'.w.heap[l]? = some (.loop (recOf fn a ps as c dd .busy none)) := by rw [← hw3']; exact World.putObj_heap_same hlt2
    have hb3 : C3'.Beside l := by rw [hC3]; exact hb2
    have hmB : MarksOk (F.re C3') a1.defers := by
      refine ⟨by show F.base ≤ C3'.w.heap.size; rw [← hw3', World.putObj_size]; exact Nat.le_trans hbase (hleA.frame _ hS2.frame).size, MarksAll.to (F := FA) (F' := F.re C3') (show F.base = FA.base from hleA.base.symm) (fun D hD => ?_) hmk2.2⟩
      obtain ⟨g1, g2⟩ := hD.at hS2.frame
      have hne : D ≠ l := by intro e; subst e; rw [hl2] at g1; cases g1
      refine re_safe ?_ ?_
      · rw [← hw3']; exact (World.putObj_heap_other hne).trans g1
      · rw [hC3]; exact g2
    refine wpIn_mono (cutOr_sound (r := some l) (fun h hx hro hS hsz hd => codeW_sound hm hT hE (codeD_sound (hint := hint) hm hT hE d m) ih2 c h hx hro hS hsz hd) hK1 hx (fun l' e => by cases e; exact ⟨_, re_safe hl3 hb3⟩) hS3B hsz2 hmB) ?_
    rintro e3 a3 w3 ⟨FB, e', s4, C4, hleB, rfl, hK4, rfl, hS4, hsz4, hmk4⟩
    obtain ⟨hl4, hb4⟩ := (hleB.safe _ _ (re_safe hl3 hb3)).at hS4.frame
    have hlt4 := (Array.getElem?_eq_some_iff.1 hl4).1
    obtain ⟨env4, sk4, H4, blk4⟩ := s4
    unfold popT at hK4
    simp only at hK4
    split at hK4
    case h_2 => cases hK4
    case h_1 _ env5 sk5 =>
    have hstk := hS4.stk
    rw [SStk] at hstk
    obtain ⟨_, _, he, henv5, hsk5⟩ := hstk
    cases he
    have hS5 : SRel FB C4 ⟨env5, sk5, H4, blk⟩ a.tmps stk := ⟨hS4.H, hS4.heap, henv5, hsk5, hS4.frame⟩
    have toF : ∀ C', FrameOk FB C' → FrameOk F C' := fun C' h => (re_le hS3F.frame).frame _ (hleB.frame _ h)
    have hmk3 : MarkIn C3' mark C.w.heap.size l := by rw [hC3]; exact mark_put C2 _ (mark_re C1 C2 hmk' (hleA.frame _ hS2.frame))
    have kept : ∀ C', FrameOk FB C' → KeptB W1.heap.size C1 C' := fun C' h =>
      (KeptB.of_re (hleA.frame _ hS2.frame)).trans (KeptB.trans (by rw [hC3]; exact KeptB.putObj C2 _ hl1) (KeptB.of_re (hleB.frame _ h)))
    cases e' with
    | goto i => exact absurd hK4 (hgoto _ _)
    | norm =>
      simp only at hK4
      have hS5' : SRel FB C4 ⟨(nt, .gh L2) :: env5, sk5, H4, blk⟩ a.tmps stk := ⟨hS5.H, hS5.heap, ERel.gh hS5.env nt L2, hS5.stk, hS5.frame⟩
      obtain ⟨s6, C6, hw6, hS6, hev6, hg6⟩ := headE_gh hS5' hK4 (n := nt) (L := L2) (.inl (by show getT ((nt, .gh L2) :: env5) nt = _; rw [getT_cons, if_pos rfl]))
      obtain ⟨_, cap6, _, _, hit6, _, _⟩ := unf hS6 hg6 hev6
      obtain ⟨hl6, hb6⟩ := (hleB.safe _ _ (re_safe hl3 hb3)).at hS6.frame
      have hlt6 := (Array.getElem?_eq_some_iff.1 hl6).1
      refine ⟨_, _, run_endRound none hl4, .inl ⟨rfl, C6.at (C6.w.putObj l (.loop (recOf fn a ps as c dd .ready none))), cap6, by rw [← hw6]; rfl, ?_, ?_⟩⟩
      · rw [hJ]
        refine ⟨n', s6, hev6, hg6, hit6, priv_sound ⟨hS6.H, hS6.heap, hS6.env, hS6.stk, toF _ hS6.frame⟩ (Nat.le_refl _) (putObj_priv _ hb6 hs0), World.putObj_heap_same hlt6, hb6, mark_put C6 _ (mark_re C3' C6 hmk3 (hleB.frame _ hS6.frame))⟩
      · exact (kept C6 hS6.frame).trans (KeptB.putObj C6 _ hl1)
    | ret =>
      simp only at hK4
      refine ⟨_, _, run_endRound (some .ret) hl4, .inr ⟨rfl, C4.at (C4.w.putObj l (.loop (recOf fn a ps as c dd .done (some .ret)))), rfl, ?_, (kept C4 hS4.frame).trans (KeptB.putObj C4 _ hl1)⟩⟩
      rw [hJx]
      exact ⟨.ret, .ret, _, rfl, hK4, priv_sound ⟨hS5.H, hS5.heap, hS5.env, hS5.stk, toF _ hS5.frame⟩ (Nat.le_refl _) (putObj_priv _ hb4 hs0), World.putObj_heap_same hlt4, hb4, mark_put C4 _ (mark_re C3' C4 hmk3 (hleB.frame _ hS4.frame))⟩
    | exit i =>
      simp only at hK4
      refine ⟨_, _, run_endRound (some (.exit i)) hl4, .inr ⟨rfl, C4.at (C4.w.putObj l (.loop (recOf fn a ps as c dd .done (some (.exit i))))), rfl, ?_, (kept C4 hS4.frame).trans (KeptB.putObj C4 _ hl1)⟩⟩
      rw [hJx]
      exact ⟨.exit i, .exit i, _, rfl, hK4, priv_sound ⟨hS5.H, hS5.heap, hS5.env, hS5.stk, toF _ hS5.frame⟩ (Nat.le_refl _) (putObj_priv _ hb4 hs0), World.putObj_heap_same hlt4, hb4, mark_put C4 _ (mark_re C3' C4 hmk3 (hleB.frame _ hS4.frame))⟩

/-- A summary of a range over a function, out of its rounds. -/
theorem csum_range {nt d m : Nat} (k0 : Nat) (kp : Ex → List Nat) (keep : List Nat) {g : Operand} {ps : Array Nat} {as c : Code} {x : Ann} (hx : cutP P nt c x.fst (AnnOk P nt c x.fst))
    {I V Y : Type} {S : I → V → St} {dec : St → Option (I × V)} {step : I → V → (V → Ans) → (Y → Ans) → Ans} {f : I → V → Option (V ⊕ Y)} {out : I → (Ex → St → Ans) → Y → Ans}
    (hdec : ∀ s x, dec s = some x → s = S x.1 x.2)
    (hstep : ∀ n i v K, codeI T E hint (codeD T E hint d m) (n + 1) nt (.rnd x) (.rangeFunc g ps as c) (weakP k0 kp K) (S i v) =
      step i v (fun v' => codeI T E hint (codeD T E hint d m) n nt (.rnd x) (.rangeFunc g ps as c) (weakP k0 kp K) (S i v')) (fun z => out i K z))
    (hnat : ∀ i v next exit, step i v next exit = bindO (f i v) (Sum.elim next exit)) : CSum P nt (.rangeFunc g ps as c) (startG E nt k0 keep g (sumL dec f out)) := by
  refine csum_rounds (hint := hint) (d := d) (m := m) hm hT hE k0 kp keep hx ?_
  intro K s res h
  unfold sumL at h
  obtain ⟨⟨i, v⟩, hd, h⟩ := bindO_some' h
  obtain ⟨z, hr, h⟩ := bindO_some' h
  refine ⟨FUEL, ?_⟩
  rw [hdec s _ hd, iterK_run (step := step i) (f := fun n v => codeI T E hint (codeD T E hint d m) n nt (.rnd x) (.rangeFunc g ps as c) (weakP k0 kp K) (S i v)) (k := fun z => out i K z)
    (fun v => by rw [codeI]) (fun n v => hstep n i v K) FUEL v, iterK_loopD (f := f i) (fun v next exit => hnat i v next exit) FUEL v z hr]
  exact h
end

/-! ### As it is printed -/
def rfG : Code → Operand | .rangeFunc g _ _ _ => g | _ => .tmp 0
def rfPs : Code → Array Nat | .rangeFunc _ ps _ _ => ps | _ => #[]
def rfAs : Code → Code | .rangeFunc _ _ as _ => as | _ => .skip
def rfC : Code → Code | .rangeFunc _ _ _ c => c | _ => .skip
/-- A summary of rounds leads back to the rounds. -/
def RH [BT] (T : Tab) (E : Env) (nt : Nat) (x : Ann) (c0 : Code) (k0 : Nat) (kp : Ex → List Nat) (G : (Ex → St → Ans) → St → Ans) : Prop :=
  ∀ K s res, G K s = some res → ∃ n, codeI T E noHint (codeD T E noHint 0 64) n nt (.rnd x) c0 (weakP k0 kp K) s = some res
theorem rh_loop [BT] {nt : Nat} {x : Ann} {L : Code} {k0 : Nat} {kp : Ex → List Nat} {I V Y : Type} {S : I → V → St} {dec : St → Option (I × V)} {step : I → V → (V → Ans) → (Y → Ans) → Ans} {f : I → V → Option (V ⊕ Y)} {out : I → (Ex → St → Ans) → Y → Ans}
    (hdec : ∀ s x, dec s = some x → s = S x.1 x.2)
    (hstep : ∀ n i v K, codeI T E noHint (codeD T E noHint 0 64) (n + 1) nt (.rnd x) (.rangeFunc (rfG L) (rfPs L) (rfAs L) (rfC L)) (weakP k0 kp K) (S i v) =
      step i v (fun v' => codeI T E noHint (codeD T E noHint 0 64) n nt (.rnd x) (.rangeFunc (rfG L) (rfPs L) (rfAs L) (rfC L)) (weakP k0 kp K) (S i v')) (fun z => out i K z))
    (hnat : ∀ i v next exit, step i v next exit = bindO (f i v) (Sum.elim next exit)) : RH T E nt x (.rangeFunc (rfG L) (rfPs L) (rfAs L) (rfC L)) k0 kp (sumL dec f out) := by
  intro K s res h
  unfold sumL at h
  obtain ⟨⟨i, v⟩, hd, h⟩ := bindO_some' h
  obtain ⟨z, hr, h⟩ := bindO_some' h
  refine ⟨FUEL, ?_⟩
  rw [hdec s _ hd, iterK_run (step := step i) (f := fun n v => codeI T E noHint (codeD T E noHint 0 64) n nt (.rnd x) (.rangeFunc (rfG L) (rfPs L) (rfAs L) (rfC L)) (weakP k0 kp K) (S i v)) (k := fun z => out i K z)
    (fun v => by rw [codeI]) (fun n v => hstep n i v K) FUEL v, iterK_loopD (f := f i) (fun v next exit => hnat i v next exit) FUEL v z hr]
  exact h
theorem rh_altN [BT] {nt : Nat} {x : Ann} {c0 : Code} {k0 : Nat} {kp : Ex → List Nat} {α : Type} {dec : St → Option α} {G1 G2 : (Ex → St → Ans) → St → Ans} (h1 : RH T E nt x c0 k0 kp G1) (h2 : RH T E nt x c0 k0 kp G2) : RH T E nt x c0 k0 kp (altN dec G1 G2) := by
  intro K s res h
  unfold altN at h
  split at h
  · exact h1 K s res h
  · exact h2 K s res h
theorem csum_rh [BT] (hm : P.follows .mixedOrders = true) (hT : TabOk P T) (hE : EnvOk P E) {nt : Nat} {x : Ann} {L : Code} {k0 : Nat} {kp : Ex → List Nat} (keep : List Nat) {G : (Ex → St → Ans) → St → Ans} (hL : L = .rangeFunc (rfG L) (rfPs L) (rfAs L) (rfC L))
    (hx : cutP P nt (rfC L) x.fst (AnnOk P nt (rfC L) x.fst)) (h : RH T E nt x (.rangeFunc (rfG L) (rfPs L) (rfAs L) (rfC L)) k0 kp G) : CSum P nt L (startG E nt k0 keep (rfG L) G) := by
  have key : CSum P nt (.rangeFunc (rfG L) (rfPs L) (rfAs L) (rfC L)) (startG E nt k0 keep (rfG L) G) := csum_rounds (hint := noHint) (d := 0) (m := 64) hm hT hE k0 kp keep hx h
  intro r F K s C a stk res h1 h2 h3 h4 h5
  rw [hL]
  exact key h1 h2 h3 h4 h5
#print axioms csum_rh
end Go.AE

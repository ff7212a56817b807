/- The abstract evaluator AE, proved: part 4. -/
import Derived.Test.YtjgghofdajambaaGreatDoorOwnSuperPutsCardSaid1
import Derived.Shelf.Strings.Builder1
set_option linter.unusedVariables false
set_option linter.unusedSimpArgs false
namespace Go.AE
open Go.RowKit (Below)
variable {P : Program} {T : Tab} {E : Env} {hint : Hint}

/-! ### The ghost stands -/
theorem keepT_or (env : Tmps) (n : Nat) : ∀ l : List Nat, getT (keepT env l) n = .unk ∨ getT (keepT env l) n = getT env n
  | [] => .inl rfl
  | d :: r => by
    rw [keepT, getT_cons]
    split
    · rename_i e; subst e; exact .inr rfl
    · exact keepT_or env n r
def GhOr (n : Nat) (L : List Int) (s : St) : Prop := getT s.env n = .gh L ∨ getT s.env n = .unk
theorem GhOr.map {n : Nat} {L : List Int} {env : Tmps} (g : AV → AV) (h : getT env n = .gh L ∨ getT env n = .unk) : getT (mapTmps g env) n = .gh L ∨ getT (mapTmps g env) n = .unk := by
  rw [getT_mapTmps]
  rcases h with h | h <;> rw [h]
  · exact .inl rfl
  · exact .inr rfl

theorem packSt_at (k0 : Nat) (s : St) (n : Nat) (L : List Int) (h : GhOr n L s) : (∃ s', GhOr n L s' ∧ ∀ K, packSt k0 s K = K s') ∨ ∀ K, packSt k0 s K = none := by
  unfold packSt
  simp only [forceN_eq, forceSt_eq]
  generalize reach s.H 400 _ [] = sel
  generalize selOk s.H _ sel = b
  cases b with
  | true => exact .inl ⟨⟨mapTmps (AV.reId (idxOf sel)) s.env, mapStk (AV.reId (idxOf sel)) s.stk, pickObjs s.H (idxOf sel) sel, s.blk⟩, GhOr.map _ h, fun K => rfl⟩
  | false => exact .inr fun K => rfl
theorem head_gh (s : St) (n : Nat) (L : List Int) (keep : List Nat) (h : GhOr n L s) : GhOr n L (s.head keep) := by
  show getT (keepT s.env keep) n = _ ∨ getT (keepT s.env keep) n = _
  rcases keepT_or s.env n keep with e | e
  · exact .inr e
  · rw [e]; exact h
theorem headE_at (keep : List Nat) (x : Ann) (s : St) (n : Nat) (L : List Int) (h : GhOr n L s) : (∃ s', GhOr n L s' ∧ ∀ K, headE keep x s K = K s') ∨ ∀ K, headE keep x s K = none := by
  unfold headE
  cases x.at? with
  | some p =>
    obtain ⟨k0, keep'⟩ := p
    simp only [forceSt_eq]
    exact packSt_at k0 _ n L (head_gh s n L keep' h)
  | none =>
    simp only [forceSt_eq]
    cases x.pack? with
    | some k0 => exact packSt_at k0 _ n L (head_gh s n L keep h)
    | none => exact .inl ⟨_, head_gh s n L keep h, fun K => rfl⟩

open Classical in
theorem headE_gh [BT] {F : Fr} {C : Cx} {s : St} {tmps : Array Value} {stk : List (Array Value)} (hS : SRel F C s tmps stk) {keep : List Nat} {x : Ann} {K : St → Ans} {res : AV × List Obj} (h : headE keep x s K = some res) {n : Nat} {L : List Int} (hg : GhOr n L s) :
    ∃ s' C', C'.w = C.w ∧ SRel F C' s' tmps stk ∧ K s' = some res ∧ GhOr n L s' := by
  rcases headE_at keep x s n L hg with ⟨s0, h0, e⟩ | e
  · have h2 : headE keep x s (fun s' => if GhOr n L s' then K s' else none) = some res := by
      rw [e]
      rw [e] at h
      rw [if_pos h0]
      exact h
    obtain ⟨s', C', h3, h4, h5⟩ := headE_sound hS h2
    split at h5
    · rename_i hg'; exact ⟨s', C', h3, h4, h5, hg'⟩
    · cases h5
  · rw [e] at h; cases h
open Classical in
theorem packSt_gh [BT] {F : Fr} {C : Cx} {s : St} {tmps : Array Value} {stk : List (Array Value)} (hS : SRel F C s tmps stk) {k0 : Nat} {K : St → Ans} {res : AV × List Obj} (h : packSt k0 s K = some res) {n : Nat} {L : List Int} (hg : GhOr n L s) :
    ∃ s' C', C'.w = C.w ∧ SRel F C' s' tmps stk ∧ K s' = some res ∧ GhOr n L s' := by
  rcases packSt_at k0 s n L hg with ⟨s0, h0, e⟩ | e
  · have h2 : packSt k0 s (fun s' => if GhOr n L s' then K s' else none) = some res := by
      rw [e]
      rw [e] at h
      rw [if_pos h0]
      exact h
    obtain ⟨s', C', h3, h4, h5⟩ := packSt_sound hS h2
    split at h5
    · rename_i hg'; exact ⟨s', C', h3, h4, h5, hg'⟩
    · cases h5
  · rw [e] at h; cases h

/-! ### Small things -/
theorem getT_dropT (n t : Nat) : ∀ env : Tmps, getT (dropT n env) t = if t = n then .unk else getT env t
  | [] => by rw [dropT, getT_nil]; split <;> rfl
  | (d, v) :: r => by
    rw [dropT]
    cases hb : Nat.beq d n with
    | true =>
      have hd := Nat.eq_of_beq_eq_true hb
      rw [cond_true, getT_dropT n t r, getT_cons]
      by_cases e : t = n
      · rw [if_pos e, if_pos e]
      · rw [if_neg e, if_neg e, if_neg (by omega)]
    | false =>
      rw [cond_false, getT_cons, getT_cons, getT_dropT n t r]
      by_cases e : d = t
      · have : t ≠ n := by intro h; rw [← e] at h; rw [h, Nat.beq_refl] at hb; cases hb
        rw [if_pos e, if_neg this, if_pos e]
      · rw [if_neg e, if_neg e]
theorem ERel.drop {C : Cx} {env : Tmps} {tmps : Array Value} (h : ERel C env tmps) (n : Nat) : ERel C (dropT n env) tmps := by
  intro t
  rw [getT_dropT]
  split
  · rw [VRel]; trivial
  · exact h t
theorem ERel.gh {C : Cx} {env : Tmps} {tmps : Array Value} (h : ERel C env tmps) (n : Nat) (L : List Int) : ERel C ((n, .gh L) :: env) tmps := by
  intro t
  rw [getT_cons]
  split
  · rw [VRel]; trivial
  · exact h t

theorem putPs_sound {C : Cx} {nt : Nat} : ∀ {ps : List Nat} {xs : List AV} {env : Tmps} {K : Tmps → Ans} {res : AV × List Obj} {vs : List Value} {tmps : Array Value}, putPs nt ps xs env K = some res → VRels C xs vs → ERel C env tmps → nt ≤ tmps.size →
    ∃ env', K env' = some res ∧ ps.length = vs.length ∧ ERel C env' ((ps.zip vs).foldl (fun t (p : Nat × Value) => t.setIfInBounds p.1 p.2) tmps) ∧ nt ≤ ((ps.zip vs).foldl (fun t (p : Nat × Value) => t.setIfInBounds p.1 p.2) tmps).size
  | [], [], env, K, res, vs, tmps, h, hv, he, hn => by
    rw [putPs] at h
    rw [VRels] at hv
    subst hv
    exact ⟨env, h, rfl, he, hn⟩
  | p :: r, x :: xs, env, K, res, vs, tmps, h, hv, he, hn => by
    rw [putPs] at h
    replace h := cond_none h; obtain ⟨hp, h⟩ := h
    rw [forceV_eq] at h
    rw [VRels] at hv
    obtain ⟨v, vs', rfl, h1, h2⟩ := hv
    have hp : p < nt := Nat.lt_of_lt_of_le (Nat.lt_succ_self p) (Nat.le_of_ble_eq_true hp)
    obtain ⟨env', g1, g2, g3, g4⟩ := putPs_sound (tmps := tmps.setIfInBounds p v) h h2 (ERel.put he h1 (by omega)) (by simpa using hn)
    exact ⟨env', g1, by simp [g2], g3, g4⟩
  | [], _ :: _, _, _, _, _, _, h, _, _, _ => by simp [putPs] at h
  | _ :: _, [], _, _, _, _, _, h, _, _, _ => by simp [putPs] at h

theorem iterOf_spec {C : Cx} {s : St} {g : Operand} {it : (List AV → List Obj → (List Int → Ans) → Ans) × (List AV → List Obj → List Int → Ans → (List AV → List Int → Ans) → Ans) × List AV} {a : Act} (h : iterOf E s g = some it) (he : ERel C s.env a.tmps) :
    ∃ gf us, Env.get E (gf + 100000) = some (.iter it.1 it.2.1) ∧ a.eval g = .func (.func gf) #[] us ∧ VRels C it.2.2 us.toList := by
  unfold iterOf at h
  have hv := opd_rel (C := C) he g
  split at h
  · rename_i gf cap hf
    rw [hf, VRel] at hv
    obtain ⟨a', b', e, h1, h2⟩ := hv
    rw [VRels] at h1
    have h1 : a' = #[] := by
      cases a'
      simpa using h1
    subst h1
    split at h
    · rename_i st nx hg
      cases h
      exact ⟨gf, b', hg, e, h2⟩
    · cases h
  · cases h

/-! ### The loop's record -/
def recOf (fn : Nat) (a : Act) (ps : Array Nat) (as c : Code) (dd : Nat) (st : LoopState) (pe : Option Code) : Go.Loop :=
  { state := st, pending := pe, fn, tmps := a.tmps, params := ps, assign := as, body := c, defers := dd }

/-- Marks that a loop lays. -/
def MarkIn (C : Cx) (mark : List Deferred) (lo l : Nat) : Prop := mark = [] ∨ ∃ D, mark = [{ target := .collected D, args := #[] }] ∧ lo ≤ D ∧ D ≠ l ∧ C.w.heap[D]? = some (.deferred (some [])) ∧ C.Beside D

theorem Beside.new [BT] {C : Cx} (hh : HRel C) {b : Nat} (h : C.w.heap.size ≤ b) : C.Beside b :=
  ⟨fun hb => by have := hh.rlt b hb; omega, fun i hl hb => by have := hh.blk_lt hl hb; omega⟩

theorem enter_any [BT] {r : Option Nat} {F : Fr} {C : Cx} (hh : HRel C) (hro : RndOk r F) (hF : FrameOk F C) (fn : Nat) (a : Act) (ps : Array Nat) (as c : Code) :
    ∃ l mark W1 dd, (Instr.enterLoop fn a.tmps ps as c r).run P C.w = .ok (l, mark) W1 ∧ W1.heap[l]? = some (.loop (recOf fn a ps as c dd .ready none)) ∧ C.w.heap.size ≤ l ∧ Below C.w.heap.size C.w W1 ∧ l < W1.heap.size ∧
      ∀ C' : Cx, HRel C' → C'.w.heap.size = C.w.heap.size → MarkIn (C'.at W1) mark C.w.heap.size l := by
  cases r with
  | none =>
    refine ⟨C.w.heap.size + 1, _, _, C.w.heap.size, run_enterLoop_outer _ _ _ _ _, ?_, by omega, ?_, by simp, fun C' hh' hs' => .inr ⟨C.w.heap.size, rfl, Nat.le_refl _, by omega, ?_, ?_⟩⟩
    · have := World.alloc_heap_new (C.w.alloc (.deferred (some []))) (.loop (recOf fn a ps as c C.w.heap.size .ready none))
      rwa [World.size_alloc] at this
    · exact ((Below.refl _ C.w).alloc (Nat.le_refl _) _).alloc (by simp) _
    · exact (Below.heap_alloc _ _ _ (by simp)).trans (World.alloc_heap_new C.w _)
    · exact Beside.new hh' (Nat.le_of_eq hs')
  | some l0 =>
    obtain ⟨r0, h0⟩ := hro l0 rfl
    refine ⟨C.w.heap.size, _, _, r0.defers, run_enterLoop_inner (h0.at hF).1 _ _ _ _ _, ?_, Nat.le_refl _, ?_, by simp, fun _ _ _ => .inl rfl⟩
    · exact World.alloc_heap_new C.w _
    · exact (Below.refl _ C.w).alloc (Nat.le_refl _) _

def jumpOf : Ex → Option Code
  | .ret => some .ret
  | .exit i => some (.exit i)
  | _ => none

theorem weakP_goto {k0 : Nat} {kp : Ex → List Nat} {K : Ex → St → Ans} {l : Nat} {s : St} {res : AV × List Obj} (h : weakP k0 kp K (.goto l) s = some res) : False := by cases h

theorem below_priv [BT] {C : Cx} (hh : HRel C) {W : World} (h : Below C.w.heap.size C.w W) (n0 : Nat) : Priv n0 C W :=
  ⟨h.os, h.tape, h.output, h.size, fun b hb _ => h.block b hb, fun b hb => h.block b (hh.rlt b hb), fun i b hl hb => h.block b (hh.blk_lt hl hb)⟩

section
variable [BT] (hm : P.follows .mixedOrders = true) (hT : TabOk P T) (hE : EnvOk P E)
include hm hT hE
/-- **A range over a function, its rounds walked by AE.** -/
theorem csum_rounds {nt d m : Nat} (k0 : Nat) (kp : Ex → List Nat) (keep : List Nat) {g : Operand} {ps : Array Nat} {as c : Code} {x : Ann} (hx : cutP P nt c x.fst (AnnOk P nt c x.fst)) {G : (Ex → St → Ans) → St → Ans}
    (h : ∀ K s res, G K s = some res → ∃ n, codeI T E hint (codeD T E hint d m) n nt (.rnd x) (.rangeFunc g ps as c) (weakP k0 kp K) s = some res) :
    CSum P nt (.rangeFunc g ps as c) (startG E nt k0 keep g G) := by
  intro r F K0 s C a stk res hG hro hS hsz hd
  unfold startG at hG
  obtain ⟨it, hit, hG⟩ := bindO_some hG
  obtain ⟨start, next, cap⟩ := it
  dsimp only at hG
  obtain ⟨gf, us, hget, hev, hcap⟩ := iterOf_spec (a := a) hit hS.env
  dsimp only at hget hcap
  obtain ⟨start0, nx, hIt, hst0, hnx⟩ : SpecOk P (gf + 100000) (.iter start next) := hE _ _ hget
  rw [Nat.add_sub_cancel] at hIt
  rw [hst0] at hG
  obtain ⟨L, hL, hG⟩ := bindO_some hG
  obtain ⟨env, sk, H, blk⟩ := s
  dsimp only at hG
  rw [forceSt_eq] at hG
  have hS1 : SRel F C ⟨(nt, .gh L) :: env, sk, H, blk⟩ a.tmps stk := ⟨hS.H, hS.heap, ERel.gh hS.env nt L, hS.stk, hS.frame⟩
  obtain ⟨C2, hw2, hS2⟩ := head_sound hS1 keep
  have hg2 : GhOr nt L (St.head ⟨(nt, .gh L) :: env, sk, H, blk⟩ keep) := head_gh _ nt L keep (.inl (by show getT ((nt, .gh L) :: env) nt = _; rw [getT_cons, if_pos rfl]))
  obtain ⟨s3, C3, hw3, hS3, hG, hg3⟩ := packSt_gh hS2 hG hg2
  obtain ⟨n3, hn3⟩ := h K0 s3 res hG
  obtain ⟨K, hK⟩ : ∃ K, K = weakP k0 kp K0 := ⟨_, rfl⟩
  rw [← hK] at hn3
  refine wpIn_mono ?_ (fun e a w hp => weakP_sound (k0 := k0) (kp := kp) hp)
  rw [← hK]
  have hgoto : ∀ l s', K (.goto l) s' ≠ some res := fun l s' h' => by rw [hK] at h'; cases h'
  clear hG h
  -- a round's evaluation, unfolded
  have unf : ∀ {F' : Fr} {C' : Cx} {n : Nat} {s' : St} {L' : List Int} {stk' : List (Array Value)}, SRel F' C' s' a.tmps stk' → GhOr nt L' s' → codeI T E hint (codeD T E hint d m) n nt (.rnd x) (.rangeFunc g ps as c) K s' = some res →
      ∃ n' cap', n = n' + 1 ∧ getT s'.env nt = .gh L' ∧ iterOf E s' g = some (start, next, cap') ∧ VRels C' cap' us.toList ∧ ∃ o, nx cap' C'.H L' = some o ∧ (o = none → K .norm s' = some res) ∧
        ∀ xs L2, o = some (xs, L2) → (match s' with
       | ⟨env, stk, H, blk⟩ => putPs nt ps.toList xs (dropT nt env) fun env' =>
          codeW T E hint (codeD T E hint d m) nt (codeI T E hint (codeD T E hint d m) n') as .none (fun e s1 => match e with
            | .norm => cutOr (fun x K s => codeW T E hint (codeD T E hint d m) nt (codeI T E hint (codeD T E hint d m) n') c x K s) x.fst
                (popT blk fun e s => match e with
                  | .norm => match s with
                    | ⟨env, stk, H, blk⟩ => headE (hint blk) x ⟨(nt, .gh L2) :: env, stk, H, blk⟩ fun s => codeI T E hint (codeD T E hint d m) n' nt (.rnd x) (.rangeFunc g ps as c) K s
                  | e => K e s) s1
            | _ => none) ⟨env', dropT nt env :: stk, H, blk⟩) = some res := by
    intro F' C' n s' L' stk' hS' hg hev'
    cases n with
    | zero => rw [codeI] at hev'; cases hev'
    | succ n =>
      rw [codeI] at hev'
      unfold roundR at hev'
      rcases hg with hg | hg
      · rw [hg] at hev'
        simp only at hev'
        obtain ⟨it, hit, hev'⟩ := bindO_some hev'
        obtain ⟨gf', us', hget', hev2, hcap'⟩ := iterOf_spec (a := a) hit hS'.env
        rw [hev] at hev2
        cases hev2
        rw [hget] at hget'
        obtain ⟨st', nx', cap'⟩ := it
        dsimp only at hget' hev' hcap'
        cases hget'
        rw [hnx] at hev'
        obtain ⟨o, ho, hev'⟩ := bindO_some hev'
        refine ⟨n, cap', rfl, hg, hit, hcap', o, by rw [hS'.H]; exact ho, fun e => by subst e; exact hev', fun xs L2 e => by subst e; exact hev'⟩
      · rw [hg] at hev'
        cases hev'
  refine wpIn_rangeFunc ?_
  intro fn _
  obtain ⟨l, mark, W1, dd, hent, hrec, hl0, hbel, hl1, hmark⟩ := enter_any hS.heap hro hS.frame fn a ps as c
  refine ⟨l, mark, W1, { target := .fn (.func gf) us, args := #[.func (.yield l) #[] #[]] }, W1, gf, #[.func (.yield l) #[] #[]] ++ us, W1, hent, ?_, fun _ _ => trivial, ?_, WF_depth r 0, ?_⟩
  · simp only [resolve, hev]
    simp [go_sem]
  · have := fun w => hIt.1.run (#[.func (.yield l) #[] #[]] ++ us) w
    simp [invoke, go_sem] at this ⊢
    exact this W1
  have hw31 : C3.w = C.w := hw3.trans hw2
  have hs0 : F.w0.heap.size ≤ l := Nat.le_trans hS.frame.size hl0
  have hS31 : SRel F (C3.at W1) s3 a.tmps stk := at_sound hS3 (by rw [hw31]; exact hbel)
  -- what holds between rounds
  obtain ⟨J, hJ⟩ : ∃ J : List Int → Cx → List AV → Prop, J = fun L' C' cap' => ∃ n s', codeI T E hint (codeD T E hint d m) n nt (.rnd x) (.rangeFunc g ps as c) K s' = some res ∧ GhOr nt L' s' ∧ iterOf E s' g = some (start, next, cap') ∧ SRel F C' s' a.tmps stk ∧
      C'.w.heap[l]? = some (.loop (recOf fn a ps as c dd .ready none)) ∧ C'.Beside l ∧ MarkIn C' mark C.w.heap.size l := ⟨_, rfl⟩
  obtain ⟨Jx, hJx⟩ : ∃ Jx : Cx → Prop, Jx = fun C' => ∃ e code s', jumpOf e = some code ∧ K e s' = some res ∧ SRel F C' s' a.tmps stk ∧
      C'.w.heap[l]? = some (.loop (recOf fn a ps as c dd .done (some code))) ∧ C'.Beside l ∧ MarkIn C' mark C.w.heap.size l := ⟨_, rfl⟩
  have hD1 : ∀ D, mark = [{ target := .collected D, args := #[] }] → D < W1.heap.size := by
    intro D hD
    rcases hmark C hS.heap rfl with e | ⟨D', e, _, _, h1, _⟩
    · rw [e] at hD; cases hD
    · rw [e] at hD
      cases hD
      exact (Array.getElem?_eq_some_iff.1 h1).1
  have mark_priv : ∀ (C' : Cx) (W : World), MarkIn C' mark C.w.heap.size l → Priv W1.heap.size C' W → MarkIn (C'.at W) mark C.w.heap.size l := by
    intro C' W h hp
    rcases h with e | ⟨D, e, h1, h2, h3, h4⟩
    · exact .inl e
    · exact .inr ⟨D, e, h1, h2, (hp.low D (Array.getElem?_eq_some_iff.1 h3).1 (hD1 D e)).trans h3, h4⟩
  have mark_put : ∀ (C' : Cx) (o : Go.Obj), MarkIn C' mark C.w.heap.size l → MarkIn (C'.at (C'.w.putObj l o)) mark C.w.heap.size l := by
    intro C' o h
    rcases h with e | ⟨D, e, h1, h2, h3, h4⟩
    · exact .inl e
    · exact .inr ⟨D, e, h1, h2, (World.putObj_heap_other h2).trans h3, h4⟩
  have mark_re : ∀ (C' C'' : Cx), MarkIn C' mark C.w.heap.size l → FrameOk (F.re C') C'' → MarkIn C'' mark C.w.heap.size l := by
    intro C' C'' h hf
    rcases h with e | ⟨D, e, h1, h2, h3, h4⟩
    · exact .inl e
    · have := (re_safe (F := F) h3 h4).at hf
      exact .inr ⟨D, e, h1, h2, this.1, this.2⟩
  obtain ⟨_, cap3, _, _, hit3, _, _⟩ := unf hS31 hg3 hn3
  have J0 : J L (C3.at W1) cap3 := by
    rw [hJ]
    exact ⟨n3, s3, hn3, hg3, hit3, hS31, hrec, Beside.new hS3.heap (by rw [hw31]; exact hl0), hmark C3 hS3.heap (by rw [hw31])⟩
  have hrun := hIt.2 (.func (.yield l) #[] #[]) (C.at W1) cap us L J Jx (at_heap hS.heap hbel) (VRels.mono (at_ref hS.heap hbel) (at_R hS.heap hbel) hcap) (by show start0 cap C.H = some L; rw [hS.H]; exact hL) ⟨C3.at W1, cap3, rfl, J0⟩ ?_ ?_ ?_ ?_
  · -- behind the iterator
    refine CallsIn.mono (F := WF r) hrun ?_
    -- a way out
    have fin : ∀ (C' : Cx) (s' : St) (o : Go.Obj) (e : Ex), SRel F C' s' a.tmps stk → C'.Beside l → MarkIn C' mark C.w.heap.size l → K e s' = some res →
        CPost F K stk nt res e.toExit { a with defers := mark ++ a.defers } (C'.w.putObj l o) := by
      intro C' s' o e hS' hb hmk hK'
      obtain ⟨C6, hC6⟩ : ∃ C6, C6 = C'.at (C'.w.putObj l o) := ⟨_, rfl⟩
      have hp : Priv F.w0.heap.size C' (C'.w.putObj l o) := putObj_priv o hb hs0
      have hS6 : SRel F C6 s' a.tmps stk := by rw [hC6]; exact priv_sound hS' (Nat.le_refl _) hp
      have hmk6 : MarkIn C6 mark C.w.heap.size l := by rw [hC6]; exact mark_put C' o hmk
      have hw6 : C'.w.putObj l o = C6.w := by rw [hC6]; rfl
      rw [hw6]
      have hle := re_le hS6.frame
      have hdre := hd.le hle
      refine ⟨F.re C6, e, s', C6, hle, rfl, hK', rfl, ⟨hS6.H, hS6.heap, hS6.env, hS6.stk, re_ok F C6⟩, hsz, hdre.1, ?_⟩
      rcases hmk6 with e' | ⟨D, e', h1, h2, h3, h4⟩
      · rw [e']; exact hdre.2
      · rw [e']
        refine ⟨⟨D, ⟨rfl, Nat.le_trans hd.1 (Nat.le_trans hS.frame.size h1), re_safe h3 h4⟩, ?_⟩, hdre.2⟩
        exact hd.2.fresh (Nat.le_trans hS.frame.size h1)
    rintro e W' ⟨rfl, hcase⟩
    rcases hcase with ⟨L', C', cap', rfl, hj, hnone⟩ | ⟨C', rfl, hj⟩
    · rw [hJ] at hj
      obtain ⟨n, s', hev', hg', hit', hS', hl', hbl', hmk'⟩ := hj
      obtain ⟨n', cap2, rfl, _, hit2, _, o, ho, hn, _⟩ := unf hS' hg' hev'
      rw [hit'] at hit2
      cases hit2
      rw [hnone] at ho
      cases ho
      exact ⟨none, _, run_endLoop hl' (by simp [recOf]), fin C' s' _ .norm hS' hbl' hmk' (hn rfl)⟩
    · rw [hJx] at hj
      obtain ⟨e, code, s', hcode, hK', hS', hl', hbl', hmk'⟩ := hj
      refine ⟨some code, _, run_endLoop hl' (by simp [recOf]), ?_⟩
      cases e with
      | norm => cases hcode
      | goto l => cases hcode
      | ret =>
        cases hcode
        exact wpIn_ret (fin C' s' _ .ret hS' hbl' hmk' hK')
      | exit i =>
        cases hcode
        exact wpIn_exit (fin C' s' _ (.exit i) hS' hbl' hmk' hK')
  · intro L' C1 cap1 hj
    rw [hJ] at hj
    obtain ⟨n, s', hev', hg', hit', hS', hl', hbl', hmk'⟩ := hj
    obtain ⟨n', cap2, rfl, _, hit2, hcap2, o, ho, _, _⟩ := unf hS' hg' hev'
    rw [hit'] at hit2
    cases hit2
    exact ⟨hS'.heap, hcap2, o, ho⟩
  · intro L' C1 cap1 W hj hp
    rw [hJ] at hj ⊢
    obtain ⟨n, s', hev', hg', hit', hS', hl', hbl', hmk'⟩ := hj
    exact ⟨n, s', hev', hg', hit', priv_sound hS' (Nat.le_trans hs0 (Nat.le_of_lt hl1)) hp, (hp.low l (Array.getElem?_eq_some_iff.1 hl').1 hl1).trans hl', hbl', mark_priv C1 W hmk' hp⟩
  · intro C1 W hj hp
    rw [hJx] at hj ⊢
    obtain ⟨e, code, s', hcode, hK', hS', hl', hbl', hmk'⟩ := hj
    exact ⟨e, code, s', hcode, hK', priv_sound hS' (Nat.le_trans hs0 (Nat.le_of_lt hl1)) hp, (hp.low l (Array.getElem?_eq_some_iff.1 hl').1 hl1).trans hl', hbl', mark_priv C1 W hmk' hp⟩
  · -- one round
    intro L1 C1 cap1 xs L2 hj hnxv vs hvs
    rw [hJ] at hj
    obtain ⟨n, s', hev', hg', hit', hS', hl', hbl', hmk'⟩ := hj
    obtain ⟨n', cap2, rfl, _, hit2, hcap2, o, ho, _, hgo⟩ := unf hS' hg' hev'
    rw [hit'] at hit2
    cases hit2
    rw [hnxv] at ho
    cases ho
    replace hgo := hgo xs L2 rfl
    obtain ⟨env, sk, H, blk⟩ := s'
    simp only at hgo
    obtain ⟨env', hgo, hlen, henv', hszr⟩ := putPs_sound hgo hvs (ERel.drop hS'.env nt) hsz
    have hy := run_yield (P := P) (args := vs) hl' (by simpa [recOf] using hlen.symm)
    have htm : ((recOf fn a ps as c dd .ready none).params.zip vs).foldl (fun tmps (t, a) => tmps.setIfInBounds t a) (recOf fn a ps as c dd .ready none).tmps = (ps.toList.zip vs.toList).foldl (fun t (p : Nat × Value) => t.setIfInBounds p.1 p.2) a.tmps := by
      rw [← Array.foldl_toList, Array.toList_zip]
      rfl
    rw [htm] at hy
    refine ⟨.yield l, #[], _, rfl, by simpa [invoke] using hy, roundIn_of_wpIn trivial ?_⟩
    generalize (ps.toList.zip vs.toList).foldl (fun t (p : Nat × Value) => t.setIfInBounds p.1 p.2) a.tmps = tmpsR at henv' hszr
    have hSA : SRel (F.re C1) C1 ⟨env', dropT nt env :: sk, H, blk⟩ tmpsR (a.tmps :: stk) := ⟨hS'.H, hS'.heap, henv', by rw [SStk]; exact ⟨_, _, rfl, ERel.drop hS'.env nt, hS'.stk⟩, re_ok F C1⟩
    have hbase : F.base ≤ C1.w.heap.size := Nat.le_trans hd.1 hS'.frame.size
    obtain ⟨_, ih2⟩ := codeI_sound (hint := hint) hm hT hE (codeD_sound (hint := hint) hm hT hE d m) n'
    refine wpIn_mono (codeW_sound hm hT hE (codeD_sound (hint := hint) hm hT hE d m) ih2 as (r := some l) (a := { tmps := tmpsR, defers := [] }) hgo (annOk_none P nt as) (fun l' e => by cases e; exact ⟨_, re_safe hl' hbl'⟩) hSA hszr ⟨hbase, trivial⟩) ?_
    rintro e1 a1 w1 ⟨FA, e', s1, C2, hleA, rfl, hK1, rfl, hS2, hsz2, hmk2⟩
    cases e' with
    | exit i => cases hK1
    | ret => cases hK1
    | goto i => cases hK1
    | norm =>
    simp only at hK1
    obtain ⟨hl2, hb2⟩ := (hleA.safe _ _ (re_safe hl' hbl')).at hS2.frame
    have hlt2 := (Array.getElem?_eq_some_iff.1 hl2).1
    refine ⟨_, run_beginRound hl2 rfl, ?_⟩
    obtain ⟨C3', hC3⟩ : ∃ C3', C3' = C2.at (C2.w.putObj l (.loop { recOf fn a ps as c dd .ready none with state := .busy })) := ⟨_, rfl⟩
    have hw3' : C2.w.putObj l (.loop { recOf fn a ps as c dd .ready none with state := .busy }) = C3'.w := by rw [hC3]; rfl
    rw [hw3']
    have hp2 : Priv F.w0.heap.size C2 (C2.w.putObj l (.loop { recOf fn a ps as c dd .ready none with state := .busy })) := putObj_priv _ hb2 hs0
    have hF2 : FrameOk F C2 := (re_le hS'.frame).frame _ (hleA.frame _ hS2.frame)
    have hS2F : SRel F C2 s1 a1.tmps (a.tmps :: stk) := ⟨hS2.H, hS2.heap, hS2.env, hS2.stk, hF2⟩
    have hS3F : SRel F C3' s1 a1.tmps (a.tmps :: stk) := by rw [hC3]; exact priv_sound hS2F (Nat.le_refl _) hp2
    have hS3B : SRel (F.re C3') C3' s1 a1.tmps (a.tmps :: stk) := ⟨hS3F.H, hS3F.heap, hS3F.env, hS3F.stk, re_ok F C3'⟩
    have hl3 : C3'.w.heap[l]? = some (.loop (recOf fn a ps as c dd .busy none)) := by rw [← hw3']; exact World.putObj_heap_same hlt2
    have hb3 : C3'.Beside l := by rw [hC3]; exact hb2
    have hmB : MarksOk (F.re C3') a1.defers := by
      refine ⟨by show F.base ≤ C3'.w.heap.size; rw [← hw3', World.putObj_size]; exact Nat.le_trans hbase (hleA.frame _ hS2.frame).size, MarksAll.to (F := FA) (F' := F.re C3') (show F.base = FA.base from hleA.base.symm) (fun D hD => ?_) hmk2.2⟩
      obtain ⟨g1, g2⟩ := hD.at hS2.frame
      have hne : D ≠ l := by intro e; subst e; rw [hl2] at g1; cases g1
      refine re_safe ?_ ?_
      · rw [← hw3']; exact (World.putObj_heap_other hne).trans g1
      · rw [hC3]; exact g2
    refine wpIn_mono (cutOr_sound (r := some l) (fun h hx hro hS hsz hd => codeW_sound hm hT hE (codeD_sound (hint := hint) hm hT hE d m) ih2 c h hx hro hS hsz hd) hK1 hx (fun l' e => by cases e; exact ⟨_, re_safe hl3 hb3⟩) hS3B hsz2 hmB) ?_
    rintro e3 a3 w3 ⟨FB, e', s4, C4, hleB, rfl, hK4, rfl, hS4, hsz4, hmk4⟩
    obtain ⟨hl4, hb4⟩ := (hleB.safe _ _ (re_safe hl3 hb3)).at hS4.frame
    have hlt4 := (Array.getElem?_eq_some_iff.1 hl4).1
    obtain ⟨env4, sk4, H4, blk4⟩ := s4
    unfold popT at hK4
    simp only at hK4
    split at hK4
    case h_2 => cases hK4
    case h_1 _ env5 sk5 =>
    have hstk := hS4.stk
    rw [SStk] at hstk
    obtain ⟨_, _, he, henv5, hsk5⟩ := hstk
    cases he
    have hS5 : SRel FB C4 ⟨env5, sk5, H4, blk⟩ a.tmps stk := ⟨hS4.H, hS4.heap, henv5, hsk5, hS4.frame⟩
    have toF : ∀ C', FrameOk FB C' → FrameOk F C' := fun C' h => (re_le hS3F.frame).frame _ (hleB.frame _ h)
    have hmk3 : MarkIn C3' mark C.w.heap.size l := by rw [hC3]; exact mark_put C2 _ (mark_re C1 C2 hmk' (hleA.frame _ hS2.frame))
    have kept : ∀ C', FrameOk FB C' → KeptB W1.heap.size C1 C' := fun C' h =>
      (KeptB.of_re (hleA.frame _ hS2.frame)).trans (KeptB.trans (by rw [hC3]; exact KeptB.putObj C2 _ hl1) (KeptB.of_re (hleB.frame _ h)))
    cases e' with
    | goto i => exact absurd hK4 (hgoto _ _)
    | norm =>
      simp only at hK4
      have hS5' : SRel FB C4 ⟨(nt, .gh L2) :: env5, sk5, H4, blk⟩ a.tmps stk := ⟨hS5.H, hS5.heap, ERel.gh hS5.env nt L2, hS5.stk, hS5.frame⟩
      obtain ⟨s6, C6, hw6, hS6, hev6, hg6⟩ := headE_gh hS5' hK4 (n := nt) (L := L2) (.inl (by show getT ((nt, .gh L2) :: env5) nt = _; rw [getT_cons, if_pos rfl]))
      obtain ⟨_, cap6, _, _, hit6, _, _⟩ := unf hS6 hg6 hev6
      obtain ⟨hl6, hb6⟩ := (hleB.safe _ _ (re_safe hl3 hb3)).at hS6.frame
      have hlt6 := (Array.getElem?_eq_some_iff.1 hl6).1
      refine ⟨_, _, run_endRound none hl4, .inl ⟨rfl, C6.at (C6.w.putObj l (.loop (recOf fn a ps as c dd .ready none))), cap6, by rw [← hw6]; rfl, ?_, ?_⟩⟩
      · rw [hJ]
        refine ⟨n', s6, hev6, hg6, hit6, priv_sound ⟨hS6.H, hS6.heap, hS6.env, hS6.stk, toF _ hS6.frame⟩ (Nat.le_refl _) (putObj_priv _ hb6 hs0), World.putObj_heap_same hlt6, hb6, mark_put C6 _ (mark_re C3' C6 hmk3 (hleB.frame _ hS6.frame))⟩
      · exact (kept C6 hS6.frame).trans (KeptB.putObj C6 _ hl1)
    | ret =>
      simp only at hK4
      refine ⟨_, _, run_endRound (some .ret) hl4, .inr ⟨rfl, C4.at (C4.w.putObj l (.loop (recOf fn a ps as c dd .done (some .ret)))), rfl, ?_, (kept C4 hS4.frame).trans (KeptB.putObj C4 _ hl1)⟩⟩
      rw [hJx]
      exact ⟨.ret, .ret, _, rfl, hK4, priv_sound ⟨hS5.H, hS5.heap, hS5.env, hS5.stk, toF _ hS5.frame⟩ (Nat.le_refl _) (putObj_priv _ hb4 hs0), World.putObj_heap_same hlt4, hb4, mark_put C4 _ (mark_re C3' C4 hmk3 (hleB.frame _ hS4.frame))⟩
    | exit i =>
      simp only at hK4
      refine ⟨_, _, run_endRound (some (.exit i)) hl4, .inr ⟨rfl, C4.at (C4.w.putObj l (.loop (recOf fn a ps as c dd .done (some (.exit i))))), rfl, ?_, (kept C4 hS4.frame).trans (KeptB.putObj C4 _ hl1)⟩⟩
      rw [hJx]
      exact ⟨.exit i, .exit i, _, rfl, hK4, priv_sound ⟨hS5.H, hS5.heap, hS5.env, hS5.stk, toF _ hS5.frame⟩ (Nat.le_refl _) (putObj_priv _ hb4 hs0), World.putObj_heap_same hlt4, hb4, mark_put C4 _ (mark_re C3' C4 hmk3 (hleB.frame _ hS4.frame))⟩

/-- A summary of a range over a function, out of its rounds. -/
theorem csum_range {nt d m : Nat} (k0 : Nat) (kp : Ex → List Nat) (keep : List Nat) {g : Operand} {ps : Array Nat} {as c : Code} {x : Ann} (hx : cutP P nt c x.fst (AnnOk P nt c x.fst))
    {I V Y : Type} {S : I → V → St} {dec : St → Option (I × V)} {step : I → V → (V → Ans) → (Y → Ans) → Ans} {f : I → V → Option (V ⊕ Y)} {out : I → (Ex → St → Ans) → Y → Ans}
    (hdec : ∀ s x, dec s = some x → s = S x.1 x.2)
    (hstep : ∀ n i v K, codeI T E hint (codeD T E hint d m) (n + 1) nt (.rnd x) (.rangeFunc g ps as c) (weakP k0 kp K) (S i v) =
      step i v (fun v' => codeI T E hint (codeD T E hint d m) n nt (.rnd x) (.rangeFunc g ps as c) (weakP k0 kp K) (S i v')) (fun z => out i K z))
    (hnat : ∀ i v next exit, step i v next exit = bindO (f i v) (Sum.elim next exit)) : CSum P nt (.rangeFunc g ps as c) (startG E nt k0 keep g (sumL dec f out)) := by
  refine csum_rounds (hint := hint) (d := d) (m := m) hm hT hE k0 kp keep hx ?_
  intro K s res h
  unfold sumL at h
  obtain ⟨⟨i, v⟩, hd, h⟩ := bindO_some' h
  obtain ⟨z, hr, h⟩ := bindO_some' h
  refine ⟨FUEL, ?_⟩
  rw [hdec s _ hd, iterK_run (step := step i) (f := fun n v => codeI T E hint (codeD T E hint d m) n nt (.rnd x) (.rangeFunc g ps as c) (weakP k0 kp K) (S i v)) (k := fun z => out i K z)
    (fun v => by rw [codeI]) (fun n v => hstep n i v K) FUEL v, iterK_loopD (f := f i) (fun v next exit => hnat i v next exit) FUEL v z hr]
  exact h
end

/-! ### As it is printed -/
def rfG : Code → Operand | .rangeFunc g _ _ _ => g | _ => .tmp 0
def rfPs : Code → Array Nat | .rangeFunc _ ps _ _ => ps | _ => #[]
def rfAs : Code → Code | .rangeFunc _ _ as _ => as | _ => .skip
def rfC : Code → Code | .rangeFunc _ _ _ c => c | _ => .skip
/-- A summary of rounds leads back to the rounds. -/
def RH [BT] (T : Tab) (E : Env) (nt : Nat) (x : Ann) (c0 : Code) (k0 : Nat) (kp : Ex → List Nat) (G : (Ex → St → Ans) → St → Ans) : Prop :=
  ∀ K s res, G K s = some res → ∃ n, codeI T E noHint (codeD T E noHint 0 64) n nt (.rnd x) c0 (weakP k0 kp K) s = some res
theorem rh_loop [BT] {nt : Nat} {x : Ann} {L : Code} {k0 : Nat} {kp : Ex → List Nat} {I V Y : Type} {S : I → V → St} {dec : St → Option (I × V)} {step : I → V → (V → Ans) → (Y → Ans) → Ans} {f : I → V → Option (V ⊕ Y)} {out : I → (Ex → St → Ans) → Y → Ans}
    (hdec : ∀ s x, dec s = some x → s = S x.1 x.2)
    (hstep : ∀ n i v K, codeI T E noHint (codeD T E noHint 0 64) (n + 1) nt (.rnd x) (.rangeFunc (rfG L) (rfPs L) (rfAs L) (rfC L)) (weakP k0 kp K) (S i v) =
      step i v (fun v' => codeI T E noHint (codeD T E noHint 0 64) n nt (.rnd x) (.rangeFunc (rfG L) (rfPs L) (rfAs L) (rfC L)) (weakP k0 kp K) (S i v')) (fun z => out i K z))
    (hnat : ∀ i v next exit, step i v next exit = bindO (f i v) (Sum.elim next exit)) : RH T E nt x (.rangeFunc (rfG L) (rfPs L) (rfAs L) (rfC L)) k0 kp (sumL dec f out) := by
  intro K s res h
  unfold sumL at h
  obtain ⟨⟨i, v⟩, hd, h⟩ := bindO_some' h
  obtain ⟨z, hr, h⟩ := bindO_some' h
  refine ⟨FUEL, ?_⟩
  rw [hdec s _ hd, iterK_run (step := step i) (f := fun n v => codeI T E noHint (codeD T E noHint 0 64) n nt (.rnd x) (.rangeFunc (rfG L) (rfPs L) (rfAs L) (rfC L)) (weakP k0 kp K) (S i v)) (k := fun z => out i K z)
    (fun v => by rw [codeI]) (fun n v => hstep n i v K) FUEL v, iterK_loopD (f := f i) (fun v next exit => hnat i v next exit) FUEL v z hr]
  exact h
theorem rh_altN [BT] {nt : Nat} {x : Ann} {c0 : Code} {k0 : Nat} {kp : Ex → List Nat} {α : Type} {dec : St → Option α} {G1 G2 : (Ex → St → Ans) → St → Ans} (h1 : RH T E nt x c0 k0 kp G1) (h2 : RH T E nt x c0 k0 kp G2) : RH T E nt x c0 k0 kp (altN dec G1 G2) := by
  intro K s res h
  unfold altN at h
  split at h
  · exact h1 K s res h
  · exact h2 K s res h
theorem csum_rh [BT] (hm : P.follows .mixedOrders = true) (hT : TabOk P T) (hE : EnvOk P E) {nt : Nat} {x : Ann} {L : Code} {k0 : Nat} {kp : Ex → List Nat} (keep : List Nat) {G : (Ex → St → Ans) → St → Ans} (hL : L = .rangeFunc (rfG L) (rfPs L) (rfAs L) (rfC L))
    (hx : cutP P nt (rfC L) x.fst (AnnOk P nt (rfC L) x.fst)) (h : RH T E nt x (.rangeFunc (rfG L) (rfPs L) (rfAs L) (rfC L)) k0 kp G) : CSum P nt L (startG E nt k0 keep (rfG L) G) := by
  have key : CSum P nt (.rangeFunc (rfG L) (rfPs L) (rfAs L) (rfC L)) (startG E nt k0 keep (rfG L) G) := csum_rounds (hint := noHint) (d := 0) (m := 64) hm hT hE k0 kp keep hx h
  intro r F K s C a stk res h1 h2 h3 h4 h5
  rw [hL]
  exact key h1 h2 h3 h4 h5
#print axioms csum_rh
end Go.AE
namespace Go.AE
variable {P : Program} {T : Tab}

def hintGo (n : Nat) : List (Nat × List Nat) → List Nat
  | [] => []
  | (m, k) :: r => cond (Nat.beq n m) k (hintGo n r)
/-- What is kept at the heads of a function's loops, by the block round them. -/
def hintOf (l : List (Nat × List Nat)) : Hint := fun b => hintGo (Nat.mod b 4096) l

/-- A function that is run: its number; does it only read; what its loops keep. -/
structure RunI where
  g : Nat
  pure : Bool
  hints : List (Nat × List Nat)

def runFuel : Nat := 20000
section
variable [BT] (T : Tab) (E : Env) (h : List (Nat × List Nat)) (nt k0 : Nat)
/-- Ranges over functions are run round by round. -/
noncomputable def annR : Nat → Code → Ann
  | b, .seq x y => .seq (annR b x) (annR b y)
  | b, .cond _ x y => .cond (annR b x) (annR b y)
  | _, .block id c => .block (annR id c)
  | b, .loop c => .loop (annR b c)
  | b, .rangeFunc g ps as c => .cut k0 (hintGo b h) (startG E nt k0 (hintGo b h) g fun K s =>
      codeI T E (hintOf h) (codeD T E (hintOf h) 0 1) runFuel nt (.rnd (.block (annR b c))) (.rangeFunc g ps as c) (weakP k0 (fun _ => hintGo b h) K) s)
  | _, _ => .none
end
/-- A function's call, run. -/
noncomputable def runC [BT] (T : Tab) (E : Env) (h : List (Nat × List Nat)) (g : Nat) (f : Func) (l : List AV) (H : List Obj) (K : AV → List Obj → Ans) : Ans :=
  fnE T E (hintOf h) 0 runFuel g f.ntmps f.results.toList (annR T E h f.ntmps H.length 0 (f.body.getD .skip)) (f.body.getD .skip) l H K
/-- A function that only reads, run. -/
noncomputable def runP [BT] (T : Tab) (E : Env) (h : List (Nat × List Nat)) (g : Nat) (f : Func) (l : List AV) (K : AV → Ans) : Ans :=
  match runC T E h g f l [] (fun v _ => some (v, [])) with
  | some (r, H) => cond (isNil H && r.closed1) (K r) none
  | none => none
noncomputable def runF [BT] (P : Program) (T : Tab) (E : Env) (i : RunI) : FSpec :=
  match P.funcs[i.g]? with
  | some f => cond i.pure (.pure (runP T E i.hints i.g f)) (.func (runC T E i.hints i.g f))
  | none => .func fun _ _ _ => none
def RunI.ok (P : Program) (i : RunI) : Bool :=
  match P.funcs[i.g]? with
  | some f => f.body.isSome && decide (f.name ≠ "runtime.NumGoroutine")
  | none => false
noncomputable def runL [BT] (P : Program) (T : Tab) (E : Env) : List RunI → Env → Env
  | [], b => b
  | i :: r, b => (i.g, runF P T E i) :: runL P T E r b
/-- Functions that are run, calls so deep. -/
noncomputable def runE [BT] (P : Program) (T : Tab) (base : Env) (L : List RunI) : Nat → Env
  | 0 => base
  | d + 1 => runL P T (runE P T base L d) L base

theorem annR_ok [BT] (hm : P.follows .mixedOrders = true) (hT : TabOk P T) {E : Env} (hE : EnvOk P E) (h : List (Nat × List Nat)) (nt k0 : Nat) :
    ∀ (c : Code) (b : Nat), cutP P nt c (annR T E h nt k0 b c) (AnnOk P nt c (annR T E h nt k0 b c)) ∧ AnnOk P nt c (annR T E h nt k0 b c) := by
  intro c
  induction c with
  | seq x y ihx ihy => intro b; rw [annR]; exact ⟨⟨(ihx b).1, (ihy b).1⟩, ⟨(ihx b).1, (ihy b).1⟩⟩
  | cond c x y ihx ihy => intro b; rw [annR]; exact ⟨⟨(ihx b).1, (ihy b).1⟩, ⟨(ihx b).1, (ihy b).1⟩⟩
  | block id c ih => intro b; rw [annR]; exact ⟨(ih id).1, (ih id).1⟩
  | loop c ih => intro b; rw [annR]; exact ⟨⟨(ih b).1, fun G e => by cases e⟩, ⟨(ih b).1, fun G e => by cases e⟩⟩
  | rangeFunc g ps as c iha ihc =>
    intro b
    rw [annR]
    refine ⟨?_, trivial⟩
    exact csum_rounds (hint := hintOf h) (d := 0) (m := 1) hm hT hE k0 (fun _ => hintGo b h) (hintGo b h) (x := .block (annR T E h nt k0 b c)) (ihc b).1 (fun K s res e => ⟨runFuel, e⟩)
  | _ => intro b; exact ⟨trivial, trivial⟩

theorem runC_ok [BT] (hm : P.follows .mixedOrders = true) (hT : TabOk P T) {E : Env} (hE : EnvOk P E) {h : List (Nat × List Nat)} {g : Nat} {f : Func} (hf : P.funcs[g]? = some f) (hb : f.body.isSome = true) (hn : f.name ≠ "runtime.NumGoroutine") :
    FuncOk P g (runC T E h g f) :=
  ⟨⟨f, hf, hb, hn⟩, fun C args us K res Fr hh hF hargs hFf => fnE_sound (hint := hintOf h) hm hT hE hh hF hf (bodySome hb) hargs (annR_ok hm hT hE h f.ntmps C.H.length _ 0).2 hFf⟩

theorem runP_ok [BT] (hm : P.follows .mixedOrders = true) (hT : TabOk P T) {E : Env} (hE : EnvOk P E) {h : List (Nat × List Nat)} {g : Nat} {f : Func} (hf : P.funcs[g]? = some f) (hb : f.body.isSome = true) (hn : f.name ≠ "runtime.NumGoroutine") :
    PureOk P g (runP T E h g f) :=
  pure_mk (hint := hintOf h) (n := runFuel) (d := 0) hm hT hE hf (bodySome hb) hn (annR_ok hm hT hE h f.ntmps 0 _ 0).2 (dec := fun l => some l) (argsOf := id) (fun l a e => by cases e; rfl)
    (f := fun a K => runC T E h g f a [] (fun v _ => K v))
    (v := fun a K => runP T E h g f a K)
    (fun a => rfl)
    (fun a K res e => by
      dsimp only [runP] at e
      cases hr : runC T E h g f a [] (fun v _ => some (v, [])) with
      | none => rw [hr] at e; cases e
      | some p =>
        obtain ⟨r, H⟩ := p
        rw [hr] at e
        dsimp only at e
        replace e := cond_none e
        simp only [Bool.and_eq_true] at e
        have hH : H = [] := by
          cases H with
          | nil => rfl
          | cons _ _ => exact absurd e.1.1 (by simp [isNil])
        exact ⟨r, e.1.2, e.2, by rw [hH]⟩)

theorem runF_ok [BT] (hm : P.follows .mixedOrders = true) (hT : TabOk P T) {E : Env} (hE : EnvOk P E) {i : RunI} (hi : i.ok P = true) : SpecOk P i.g (runF P T E i) := by
  unfold RunI.ok at hi
  unfold runF
  cases hf : P.funcs[i.g]? with
  | none => rw [hf] at hi; cases hi
  | some f =>
    rw [hf] at hi
    simp only [Bool.and_eq_true, decide_eq_true_eq] at hi
    dsimp only
    cases i.pure with
    | true => exact runP_ok hm hT hE hf hi.1 hi.2
    | false => exact runC_ok hm hT hE hf hi.1 hi.2

theorem runL_ok [BT] (hm : P.follows .mixedOrders = true) (hT : TabOk P T) {E : Env} (hE : EnvOk P E) {base : Env} (hB : EnvOk P base) : ∀ {L : List RunI}, L.all (RunI.ok P) = true → EnvOk P (runL P T E L base)
  | [], _ => hB
  | i :: r, h => by
    rw [List.all_cons, Bool.and_eq_true] at h
    exact EnvOk.cons (runF_ok hm hT hE h.1) (runL_ok hm hT hE hB h.2)

theorem runE_ok [BT] (hm : P.follows .mixedOrders = true) (hT : TabOk P T) {base : Env} (hB : EnvOk P base) {L : List RunI} (hL : L.all (RunI.ok P) = true) : ∀ d, EnvOk P (runE P T base L d)
  | 0 => hB
  | d + 1 => runL_ok hm hT (runE_ok hm hT hB hL d) hB hL

/-- A call without arguments that is seen to answer with a value. -/
def konst (v : AV) : List AV → List Obj → (AV → List Obj → Ans) → Ans := fun l H K => match l, H with
  | [], [] => K v []
  | _, _ => none
theorem konst_ok [BT] (hm : P.follows .mixedOrders = true) (hT : TabOk P T) {E : Env} (hE : EnvOk P E) {h : List (Nat × List Nat)} {g : Nat} {f : Func} (hf : P.funcs[g]? = some f) (hb : f.body.isSome = true) (hn : f.name ≠ "runtime.NumGoroutine") {v : AV}
    (hr : ∀ K, runC T E h g f [] [] K = K v []) : FuncOk P g (konst v) := by
  have hC := runC_ok (h := h) hm hT hE hf hb hn
  refine ⟨hC.1, fun C args us K res Fr hh hF hargs hFf => hC.2 C args us K res Fr hh hF hargs ?_⟩
  generalize C.H = H0 at hFf ⊢
  unfold konst at hFf
  split at hFf
  · exact (hr K).trans hFf
  · cases hFf
end Go.AE
namespace Go.AE
open Go.RowKit (Below)
variable {P : Program} {T : Tab} {E : Env}

/-! ### Forcing: each is 'K x' -/
noncomputable def fN (n : Nat) (K : Nat → Ans) : Ans := @Nat.rec (fun _ => Ans) (K 0) (fun m _ => K (Nat.succ m)) n
theorem fN_eq (n : Nat) (K : Nat → Ans) : fN n K = K n := by cases n <;> rfl
noncomputable def fI (n : Int) (K : Int → Ans) : Ans := @Int.rec (fun _ => Ans) (fun m => fN m fun m => K (Int.ofNat m)) (fun m => fN m fun m => K (Int.negSucc m)) n
theorem fI_eq (n : Int) (K : Int → Ans) : fI n K = K n := by cases n <;> simp only [fI, fN_eq]
noncomputable def fB (b : Bool) (K : Bool → Ans) : Ans := @Bool.rec (fun _ => Ans) (K false) (K true) b
theorem fB_eq (b : Bool) (K : Bool → Ans) : fB b K = K b := by cases b <;> rfl
mutual
noncomputable def fV (v : AV) (K : AV → Ans) : Ans :=
  match v with
  | .int k n => fI n fun n => K (.int k n)
  | .bool b => fB b fun b => K (.bool b)
  | .str s => K (.str s)
  | .ptr i o => fN i fun i => fN o fun o => K (.ptr i o)
  | .tup vs => fVs vs fun vs => K (.tup vs)
  | .own i => fN i fun i => K (.own i)
  | .agg cs => fVs cs fun cs => K (.agg cs)
  | .nilp => K .nilp
  | .map i => fN i fun i => K (.map i)
  | .ro t l => K (.ro t l)
  | .nils => K .nils
  | .nilm => K .nilm
  | .nilf => K .nilf
  | .nili => K .nili
  | .ifc t v => fV v fun v => K (.ifc t v)
  | .eptr i n o => fN i fun i => fN n fun n => fN o fun o => K (.eptr i n o)
  | .sub i o l e => fN i fun i => fN o fun o => fN l fun l => K (.sub i o l e)
  | .fn f a b => fVs a fun a => fVs b fun b => K (.fn f a b)
  | .rptr t x o => fN o fun o => K (.rptr t x o)
  | .gh l => K (.gh l)
  | .unk => K .unk
noncomputable def fVs (l : List AV) (K : List AV → Ans) : Ans :=
  match l with
  | [] => K []
  | v :: r => fV v fun v => fVs r fun r => K (v :: r)
end
mutual
theorem fV_eq (v : AV) (K : AV → Ans) : fV v K = K v := by
  cases v <;> simp only [fV, fN_eq, fI_eq, fB_eq]
  · rw [fVs_eq, fVs_eq]
  · rw [fV_eq]
  · rw [fVs_eq]
  · rw [fVs_eq]
theorem fVs_eq (l : List AV) (K : List AV → Ans) : fVs l K = K l := by
  cases l <;> simp only [fVs]
  rw [fV_eq, fVs_eq]
end
/-- A list's spine. -/
noncomputable def fL {α : Type} (l : List α) : (List α → Ans) → Ans := @List.rec α (fun _ => (List α → Ans) → Ans) (fun K => K []) (fun x _ ih K => ih fun r => K (x :: r)) l
theorem fL_eq {α : Type} (l : List α) : ∀ K : List α → Ans, fL l K = K l := by
  induction l with
  | nil => intro K; rfl
  | cons x r ih => intro K; exact ih _

/-! ### Looking up -/
noncomputable def getF (env : Tmps) (t : Nat) : AV := @List.rec (Nat × AV) (fun _ => AV) .unk (fun p _ ih => @Bool.rec (fun _ => AV) ih p.2 (Nat.beq p.1 t)) env
theorem getF_eq (env : Tmps) (t : Nat) : getF env t = getT env t := by
  induction env with
  | nil => rfl
  | cons p r ih =>
    obtain ⟨d, v⟩ := p
    rw [getT]
    show @Bool.rec (fun _ => AV) (getF r t) v (Nat.beq d t) = _
    cases Nat.beq d t <;> simp [ih]
noncomputable def getO (H : List Obj) : Nat → Obj := @List.rec Obj (fun _ => Nat → Obj) (fun _ => .dead) (fun o _ ih n => @Nat.rec (fun _ => Obj) o (fun m _ => ih m) n) H
theorem getO_eq (H : List Obj) : ∀ n, getO H n = getH H n := by
  induction H with
  | nil => intro n; rfl
  | cons o r ih => intro n; cases n with
    | zero => rfl
    | succ n => exact ih n
noncomputable def nthF {α : Type} (l : List α) : Nat → Option α := @List.rec α (fun _ => Nat → Option α) (fun _ => none) (fun o _ ih n => @Nat.rec (fun _ => Option α) (some o) (fun m _ => ih m) n) l
theorem nthF_eq {α : Type} (l : List α) : ∀ n, nthF l n = l[n]? := by
  induction l with
  | nil => intro n; rfl
  | cons o r ih => intro n; cases n with
    | zero => rfl
    | succ n => exact (ih n).trans (by simp)
/-- One element replaced. -/
noncomputable def setF {α : Type} (l : List α) : Nat → α → (List α → Ans) → Ans := @List.rec α (fun _ => Nat → α → (List α → Ans) → Ans) (fun _ _ K => K [])
  (fun o r ih n x K => @Nat.rec (fun _ => Ans) (K (x :: r)) (fun m _ => ih m x fun r' => K (o :: r')) n) l
theorem setF_eq {α : Type} (l : List α) : ∀ n x (K : List α → Ans), setF l n x K = K (l.set n x) := by
  induction l with
  | nil => intro n x K; rfl
  | cons o r ih => intro n x K; cases n with
    | zero => rfl
    | succ n => exact ih n x _
noncomputable def addF {α : Type} (l : List α) (x : α) : (List α → Ans) → Ans := @List.rec α (fun _ => (List α → Ans) → Ans) (fun K => K [x]) (fun o _ ih K => ih fun r => K (o :: r)) l
theorem addF_eq {α : Type} (l : List α) (x : α) : ∀ K : List α → Ans, addF l x K = K (l ++ [x]) := by
  induction l with
  | nil => intro K; rfl
  | cons o r ih => intro K; exact ih _
noncomputable def lenF {α : Type} (l : List α) : (Nat → Ans) → Ans := @List.rec α (fun _ => (Nat → Ans) → Ans) (fun K => K 0) (fun _ _ ih K => ih fun n => K (Nat.succ n)) l
theorem lenF_eq {α : Type} (l : List α) : ∀ K : Nat → Ans, lenF l K = K l.length := by
  induction l with
  | nil => intro K; rfl
  | cons o r ih => intro K; exact ih _

/-- An operand, turned. -/
structure CV where
  run : Tmps → AV
noncomputable def vOf : Operand → CV
  | .tmp t => ⟨fun env => getF env t⟩
  | .const v => ⟨fun _ => ofConst v⟩
  | .global _ => ⟨fun _ => .unk⟩
  | .func f => ⟨fun _ => .fn (.func f) [] []⟩
theorem vOf_eq (o : Operand) (env : Tmps) : (vOf o).run env = opd env o := by
  cases o <;> simp [vOf, opd, getF_eq]

/-! ### Memory -/
/-- An object turned. -/
noncomputable def updF (s : St) (i : Nat) (o : Obj) (K : St → Ans) : Ans :=
  @St.casesOn (fun _ => Ans) s fun env stk H blk => setF H i o fun H => K ⟨env, stk, H, blk⟩
theorem updF_eq (s : St) (i : Nat) (o : Obj) (K : St → Ans) : updF s i o K = updObj s i o K := by
  obtain ⟨env, stk, H, blk⟩ := s
  rw [updObj_eq]
  show setF H i o _ = _
  rw [setF_eq, setH_eq]
noncomputable def newF (s : St) (o : Obj) (K : Nat → St → Ans) : Ans :=
  @St.casesOn (fun _ => Ans) s fun env stk H blk => lenF H fun i => addF H o fun H => K i ⟨env, stk, H, blk⟩
theorem newF_eq (s : St) (o : Obj) (K : Nat → St → Ans) : newF s o K = newObj s o K := by
  obtain ⟨env, stk, H, blk⟩ := s
  rw [newObj_eq]
  show lenF H _ = _
  rw [lenF_eq, addF_eq]
noncomputable def putF (nt : Nat) (dst : Option Nat) (v : AV) (s : St) (K : St → Ans) : Ans :=
  match dst with
  | some d => cond (Nat.blt d nt) (fV v fun v => @St.casesOn (fun _ => Ans) s fun env stk H blk => K ⟨(d, v) :: env, stk, H, blk⟩) none
  | none => K s
theorem putF_eq (nt : Nat) (dst : Option Nat) (v : AV) (s : St) (K : St → Ans) : putF nt dst v s K = putT nt dst v s K := by
  obtain ⟨env, stk, H, blk⟩ := s
  cases dst with
  | none => rfl
  | some d => simp only [putF, putT, fV_eq, forceV_eq]

theorem putCells_one (cs : List AV) (v : AV) : ∀ off, putCells cs off [v] = bindO (cs[off]?) fun _ => some (cs.set off v) := by
  have key : ∀ (cs : List AV) (off : Nat) (x : AV), cs[off]? = some x → takeN off cs = some (cs.take off) ∧ takeN 1 (cs.drop off) = some [x] ∧ cs.take off ++ [v] ++ (cs.drop off).drop 1 = cs.set off v := by
    intro cs
    induction cs with
    | nil => intro off x h; simp at h
    | cons c r ih =>
      intro off x h
      cases off with
      | zero => simp at h; subst h; exact ⟨rfl, rfl, by simp⟩
      | succ off =>
        obtain ⟨h1, h2, h3⟩ := ih off x (by simpa using h)
        refine ⟨by rw [takeN, h1]; rfl, by simpa using h2, ?_⟩
        simpa using h3
  have no : ∀ (cs : List AV) (off : Nat), cs[off]? = none → takeN off cs = none ∨ takeN 1 (cs.drop off) = none := by
    intro cs
    induction cs with
    | nil =>
      intro off _
      cases off with
      | zero => exact .inr rfl
      | succ _ => exact .inl rfl
    | cons c r ih =>
      intro off h
      cases off with
      | zero => simp at h
      | succ off =>
        rcases ih off (by simpa using h) with h1 | h1
        · exact .inl (by rw [takeN, h1])
        · exact .inr (by simpa using h1)
  intro off
  cases hx : cs[off]? with
  | some x =>
    obtain ⟨h1, h2, h3⟩ := key cs off x hx
    rw [putCells, h1]
    show (match takeN 1 (cs.drop off) with | none => none | some _ => some (cs.take off ++ [v] ++ (cs.drop off).drop 1)) = _
    rw [h2, h3]
    rfl
  | none =>
    show _ = none
    rw [putCells]
    rcases no cs off hx with h1 | h1
    · rw [h1]
    · cases takeN off cs with
      | none => rfl
      | some a =>
        show (match takeN 1 (cs.drop off) with | none => none | some _ => some (a ++ [v] ++ (cs.drop off).drop 1)) = _
        rw [h1]

theorem cellsAt_one (cs : List AV) (off : Nat) : cellsAt cs off 1 = bindO (cs[off]?) fun v => some [v] := by
  unfold cellsAt
  induction cs generalizing off with
  | nil => cases off <;> rfl
  | cons c r ih => cases off with
    | zero => rfl
    | succ off => simpa using ih off

structure CL where
  run : St → AV → (AV → Ans) → Ans
noncomputable def loadC (T : Tab) (t : Nat) : CL :=
  match Tab.get T t with
  | none => ⟨fun _ _ _ => none⟩
  | some i => cond (Nat.beq i.size 1 && !i.isAgg)
      ⟨fun s p K => match p with
        | .ptr n off => (match getO s.H n with
          | .cells cs => bindO (nthF cs off) K
          | _ => load T s t (.ptr n off) K)
        | p => load T s t p K⟩
      ⟨fun s p K => load T s t p K⟩
theorem loadC_eq (t : Nat) (s : St) (p : AV) (K : AV → Ans) : (loadC T t).run s p K = load T s t p K := by
  unfold loadC
  cases hi : Tab.get T t with
  | none => simp only [load, hi]; rfl
  | some i =>
    dsimp only
    cases hc : Nat.beq i.size 1 && !i.isAgg with
    | false => rfl
    | true =>
      simp only [Bool.and_eq_true, Bool.not_eq_true'] at hc
      have h1 : i.size = 1 := Nat.eq_of_beq_eq_true hc.1
      simp only [cond_true]
      split
      · rename_i n off
        rw [getO_eq]
        split
        · rename_i cs hcs
          rw [nthF_eq, load, hi]
          simp only [bindO, hcs, hc.2, cond_false, h1, cellsAt_one]
          cases cs[off]? <;> rfl
        · rfl
      · rfl

structure CS where
  run : St → AV → AV → (St → Ans) → Ans
noncomputable def storeC (T : Tab) (t : Nat) : CS :=
  match Tab.get T t with
  | none => ⟨fun _ _ _ _ => none⟩
  | some i => ⟨fun s p v K => match p with
      | .ptr n off => (match getO s.H n with
        | .cells cs => match v with
          | .agg vs => cond (Nat.beq vs.length i.size && allOk vs) (bindO (putCells cs off vs) fun cs' => fL cs' fun cs' => updF s n (.cells cs') K) none
          | v => cond (Nat.beq 1 i.size && v.cellOk) (bindO (nthF cs off) fun _ => setF cs off v fun cs' => updF s n (.cells cs') K) none
        | _ => store T s t (.ptr n off) v K)
      | p => store T s t p v K⟩
theorem storeC_eq (t : Nat) (s : St) (p v : AV) (K : St → Ans) : (storeC T t).run s p v K = store T s t p v K := by
  unfold storeC
  cases hi : Tab.get T t with
  | none => simp only [store, hi]; rfl
  | some i =>
    dsimp only
    split
    · rename_i n off
      rw [getO_eq]
      split
      · rename_i cs hcs
        split
        · rename_i vs
          simp only [fL_eq, updF_eq, store, hi, bindO, hcs, AV.cellsOf]
        · rename_i hv
          have hco : v.cellsOf = [v] := by
            cases v <;> first | rfl | exact (hv _ rfl).elim
          simp only [setF_eq, updF_eq, nthF_eq, store, hi, bindO, hcs, hco, putCells_one, allOk, Bool.and_true, List.length_singleton]
          congr 1
          cases cs[off]? <;> rfl
      · rfl
    · rfl

structure CA where
  run : AV → (AV → Ans) → Ans
noncomputable def fieldAddrC (T : Tab) (t f : Nat) : CA :=
  match Tab.get T t with
  | none => ⟨fun _ _ => none⟩
  | some i => match i.k with
    | .struct fs => (match fs[f]? with
      | none => ⟨fun _ _ => none⟩
      | some q => match Tab.get T q.1 with
        | none => ⟨fun _ _ => none⟩
        | some j => cond (Nat.beq j.size 0) ⟨fun _ _ => none⟩ ⟨fun p K => match p with
          | .ptr n o => K (.ptr n (o + q.2))
          | .eptr n x o => K (.eptr n x (o + q.2))
          | .rptr ty x o => K (.rptr ty x (o + q.2))
          | _ => none⟩)
    | _ => ⟨fun _ _ => none⟩
theorem fieldAddrC_eq (t f : Nat) (p : AV) (K : AV → Ans) : (fieldAddrC T t f).run p K = fieldAddr T t p f K := by
  unfold fieldAddrC fieldAddr
  cases hi : Tab.get T t with
  | none => rfl
  | some i =>
    dsimp only [bindO]
    cases i.k with
    | struct fs =>
      dsimp only
      cases fs[f]? with
      | none => rfl
      | some q =>
        obtain ⟨ft, off⟩ := q
        dsimp only
        cases Tab.get T ft with
        | none => rfl
        | some j =>
          dsimp only
          cases Nat.beq j.size 0 <;> rfl
    | _ => rfl

/-! ### Integers -/
noncomputable def ltB (a b : Int) : Bool := @Int.rec (fun _ => Bool) (fun m => @Int.rec (fun _ => Bool) (fun n => Nat.blt m n) (fun _ => false) b) (fun m => @Int.rec (fun _ => Bool) (fun _ => true) (fun n => Nat.blt n m) b) a
theorem ltB_eq (a b : Int) : ltB a b = decide (a < b) := by
  cases a <;> cases b <;> simp only [ltB, Int.ofNat_eq_natCast]
  · rename_i m n
    rw [Bool.eq_iff_iff, Nat.blt_eq, decide_eq_true_eq]; omega
  · rename_i m n
    symm; rw [decide_eq_false_iff_not]; omega
  · rename_i m n
    symm; rw [decide_eq_true_eq]; omega
  · rename_i m n
    rw [Bool.eq_iff_iff, Nat.blt_eq, decide_eq_true_eq]; omega
noncomputable def eqB (a b : Int) : Bool := @Int.rec (fun _ => Bool) (fun m => @Int.rec (fun _ => Bool) (fun n => Nat.beq m n) (fun _ => false) b) (fun m => @Int.rec (fun _ => Bool) (fun _ => false) (fun n => Nat.beq m n) b) a
theorem eqB_eq (a b : Int) : eqB a b = (a == b) := by
  cases a <;> cases b <;> simp only [eqB, Int.ofNat_eq_natCast]
  · rename_i m n
    rw [Bool.eq_iff_iff, Nat.beq_eq, beq_iff_eq]; omega
  · rename_i m n
    symm; rw [beq_eq_false_iff_ne]; omega
  · rename_i m n
    symm; rw [beq_eq_false_iff_ne]; omega
  · rename_i m n
    rw [Bool.eq_iff_iff, Nat.beq_eq, beq_iff_eq]; omega
/-- The greatest of a kind. -/
noncomputable def kTop (k : IntKind) : Nat := match k with
  | .i64 => 9223372036854775807
  | .u8 => 255
  | .u32 => 4294967295
  | .u64 => 18446744073709551615
  | _ => 0
theorem kTop_wrap (k : IntKind) (m : Nat) (h : Nat.ble m (kTop k) = true) : k.wrap (Int.ofNat m) = Int.ofNat m := by
  have h := Nat.le_of_ble_eq_true h
  cases k <;> simp only [kTop] at h <;> simp [IntKind.wrap, IntKind.bits, IntKind.signed] <;> omega
/-- A number of a kind, as a value. -/
noncomputable def wrapF (k : IntKind) (x : Int) (K : AV → Ans) : Ans :=
  @Int.rec (fun _ => Ans) (fun m => @Bool.rec (fun _ => Ans) (fI (k.wrap (Int.ofNat m)) fun n => K (.int k n)) (fN m fun m => K (.int k (Int.ofNat m))) (Nat.ble m (kTop k))) (fun m => fI (k.wrap (Int.negSucc m)) fun n => K (.int k n)) x
theorem wrapF_eq (k : IntKind) (x : Int) (K : AV → Ans) : wrapF k x K = K (.int k (k.wrap x)) := by
  cases x with
  | ofNat m =>
    simp only [wrapF]
    cases h : Nat.ble m (kTop k) with
    | false => simp only [fI_eq]
    | true => simp only [fN_eq]; rw [kTop_wrap k m h]
  | negSucc m => simp only [wrapF, fI_eq]

structure CI where
  run : IntKind → Int → Int → (AV → Ans) → Ans
noncomputable def intC (op : BinOp) : CI :=
  match op with
  | .add => ⟨fun k a b K => wrapF k (Int.add a b) K⟩
  | .sub => ⟨fun k a b K => wrapF k (Int.sub a b) K⟩
  | .mul => ⟨fun k a b K => wrapF k (Int.mul a b) K⟩
  | .eql => ⟨fun _ a b K => fB (eqB a b) fun b => K (.bool b)⟩
  | .neq => ⟨fun _ a b K => fB (@Bool.rec (fun _ => Bool) true false (eqB a b)) fun b => K (.bool b)⟩
  | .lss => ⟨fun _ a b K => fB (ltB a b) fun b => K (.bool b)⟩
  | .gtr => ⟨fun _ a b K => fB (ltB b a) fun b => K (.bool b)⟩
  | .leq => ⟨fun _ a b K => fB (@Bool.rec (fun _ => Bool) true false (ltB b a)) fun b => K (.bool b)⟩
  | .geq => ⟨fun _ a b K => fB (@Bool.rec (fun _ => Bool) true false (ltB a b)) fun b => K (.bool b)⟩
  | op => ⟨fun k a b K => intBin op k a b K⟩
theorem intC_eq (op : BinOp) (k : IntKind) (a b : Int) (K : AV → Ans) : (intC op).run k a b K = intBin op k a b K := by
  cases op <;> simp only [intC, intBin, wrapF_eq, fB_eq, eqB_eq, ltB_eq] <;> try rfl
  · congr 2
    cases h : (a == b) <;> simp_all [bne]
  · congr 2
    rw [Bool.eq_iff_iff]
    by_cases h : b < a <;> simp [h] <;> omega
  · congr 2
    rw [Bool.eq_iff_iff]
    by_cases h : a < b <;> simp [h] <;> omega

noncomputable def kNo (k : IntKind) : Nat := match k with
  | .i64 => 0 | .u8 => 1 | .u32 => 2 | .u64 => 3 | .i8 => 4 | .i16 => 5 | .i32 => 6 | .u16 => 7
structure CB where
  run : AV → AV → (AV → Ans) → Ans
noncomputable def binC (T : Tab) (op : BinOp) (t : Nat) (c : Bool) : CB :=
  cond (isShift op) ⟨fun x y K => nilBin T op t c x y K⟩
    ⟨fun x y K => match x with
      | .int k a => (match y with
        | .int k' b => (match decEq k k' with | isTrue _ => (intC op).run k a b K | isFalse _ => none)
        | y => nilBin T op t c (.int k a) y K)
      | x => nilBin T op t c x y K⟩
theorem binC_eq (op : BinOp) (t : Nat) (c : Bool) (x y : AV) (K : AV → Ans) : (binC T op t c).run x y K = nilBin T op t c x y K := by
  unfold binC
  cases hs : isShift op with
  | true => rfl
  | false =>
    simp only [cond_false]
    cases x <;> try rfl
    rename_i k a
    cases y <;> try rfl
    rename_i k' b
    show (match decEq k k' with | isTrue _ => (intC op).run k a b K | isFalse _ => none) = binOp T op t (.int k a) (.int k' b) K
    simp only [binOp, hs, cond_false, intC_eq]
    cases decEq k k' <;> rfl

/-! ### Operations -/
def noInl : Nat → Ann → Code → (Ex → St → Ans) → St → Ans := fun _ _ _ _ _ => none
theorem noInl_ok [BT] : CodeOk P noInl := by
  intro r F nt x c K s C a stk res h _ _ _ _ _
  cases h

/-- A function's code, turned. -/
structure CF where
  nt : Nat
  res : List ResultVar
  run : (Ex → St → Ans) → St → Ans
/-- What calls lead to. -/
structure Lo where
  env : Env
  ca : Nat → Option CF

structure CO where
  run : St → KV → Ans
noncomputable def slowO [BT] (T : Tab) (E : Env) (o : Oper) : CO := ⟨fun s K => opE T E noInl o s K⟩

noncomputable def resG (T : Tab) (s : St) : List ResultVar → (List AV → Ans) → Ans
  | [], K => K []
  | .tmp t :: r, K => fV (getF s.env t) fun v => resG T s r fun vs => K (v :: vs)
  | .cell a t :: r, K => (loadC T t).run s (getF s.env a) fun v => resG T s r fun vs => K (v :: vs)
theorem resG_eq (s : St) : ∀ (l : List ResultVar) (acc : List AV) (K : List AV → Ans), resultsOf T s l acc K = resG T s l fun vs => K (acc ++ vs)
  | [], acc, K => by rw [resultsOf, resG, List.append_nil]
  | .tmp t :: r, acc, K => by
    rw [resultsOf, resG, fV_eq, getF_eq, resG_eq s r]
    simp only [List.append_assoc, List.cons_append, List.nil_append]
  | .cell a t :: r, acc, K => by
    rw [resultsOf, resG, loadC_eq, getF_eq]
    congr 1
    funext v
    rw [resG_eq s r]
    simp only [List.append_assoc, List.cons_append, List.nil_append]

/-- Behind a function's code. -/
noncomputable def backK (T : Tab) (res : List ResultVar) (blk : Nat) (K : KV) (e : Ex) (s' : St) : Ans :=
  match e with
  | .norm | .ret => @St.casesOn (fun _ => Ans) s' fun _ stk H _ => match stk with
    | env :: stk => resG T s' res fun vs => fV (tupled vs) fun v => K v ⟨env, stk, H, blk⟩
    | [] => none
  | _ => none
noncomputable def callF (T : Tab) (cf : CF) (args : List AV) (s : St) (K : KV) : Ans :=
  fVs args fun args => fL (argsEnv 0 args) fun env => @St.casesOn (fun _ => Ans) s fun env0 stk H blk => cf.run (backK T cf.res blk K) ⟨env, env0 :: stk, H, 0⟩

/-- An operand that is the literal nil of a slice of data may become a row. -/
noncomputable def isNilTy (T : Tab) (t : Nat) : Bool := (nilTy T t .nils).isSome
theorem typedNil_no {t : Nat} (h : isNilTy T t = false) (v : AV) (s : St) (K : KV) : typedNil T t v s K = K v s := by
  unfold typedNil
  unfold isNilTy at h
  have : nilTy T t v = none := by
    cases v <;> try rfl
    simpa using h
  rw [this]

noncomputable def kindAt (T : Tab) (src dst : Nat) : Option IntKind :=
  match Tab.get T src with
  | none => none
  | some _ => match Tab.get T dst with
    | none => none
    | some di => kindOf di

noncomputable def callC [BT] (T : Tab) (lo : Lo) (o : Oper) (c : Call) : CO :=
  match c.callee with
  | .value f => (match f with
    | .func g => (match lo.ca g with
      | some cf => ⟨fun s K => callF T cf (c.args.toList.map fun x => (vOf x).run s.env) s K⟩
      | none => slowO T lo.env o)
    | f => ⟨fun s K => match (vOf f).run s.env with
      | .fn (.func g) first cap => (match lo.ca g with
        | some cf => callF T cf (first ++ (c.args.toList.map fun x => (vOf x).run s.env) ++ cap) s K
        | none => opE T lo.env noInl o s K)
      | _ => none⟩)
  | _ => slowO T lo.env o

noncomputable def opC [BT] (T : Tab) (lo : Lo) (o : Oper) : CO :=
  match o.op with
  | .move x => ⟨fun s K => K ((vOf x).run s.env) s⟩
  | .assign x => (match x with
    | .const v => (match nilTy T o.type (ofConst v) with
      | none => ⟨fun s K => K (ofConst v) s⟩
      | some ty => ⟨fun s K => newF s (.arr ty []) fun i s' => K (.own i) s'⟩)
    | x => ⟨fun s K => K ((vOf x).run s.env) s⟩)
  | .load t a => ⟨fun s K => (loadC T t).run s ((vOf a).run s.env) fun v => K v s⟩
  | .store t a x => cond (isNilTy T t) (slowO T lo.env o) ⟨fun s K => (storeC T t).run s ((vOf a).run s.env) ((vOf x).run s.env) fun s => K .unk s⟩
  | .fieldAddr t x f => ⟨fun s K => (fieldAddrC T t f).run ((vOf x).run s.env) fun v => K v s⟩
  | .nilCheck x => ⟨fun s K => match (vOf x).run s.env with
    | .ptr i off => K (.ptr i off) s
    | .eptr i n off => K (.eptr i n off) s
    | .rptr t y off => K (.rptr t y off) s
    | _ => none⟩
  | .binOp op t x y _ => ⟨fun s K => (binC T op t (isConst x || isConst y)).run ((vOf x).run s.env) ((vOf y).run s.env) fun v => K v s⟩
  | .extract t i => ⟨fun s K => match (vOf t).run s.env with
    | .tup vs => bindO (nthF vs i) fun v => K v s
    | _ => none⟩
  | .pick c a b => ⟨fun s K => match (vOf c).run s.env with
    | .bool p => @Bool.rec (fun _ => Ans) (K ((vOf b).run s.env) s) (K ((vOf a).run s.env) s) p
    | _ => none⟩
  | .convert src dst x => (match kindAt T src dst with
    | some k => ⟨fun s K => match (vOf x).run s.env with
      | .int _ n => wrapF k n fun v => K v s
      | _ => opE T lo.env noInl o s K⟩
    | none => slowO T lo.env o)
  | .call c => callC T lo o c
  | _ => slowO T lo.env o

/-- What an operation's quick form is worth. -/
def OpSum [BT] (P : Program) (o : Oper) (R : St → KV → Ans) : Prop :=
  ∀ ⦃F : Fr⦄ ⦃C : Cx⦄ ⦃s : St⦄ ⦃a : Act⦄ ⦃stk : List (Array Value)⦄ ⦃K : KV⦄ ⦃res : AV × List Obj⦄, R s K = some res → SRel F C s a.tmps stk →
    clean P o a C.w fun u w' => ∃ r s' C', K r s' = some res ∧ C'.w = w' ∧ SRel F C' s' a.tmps stk ∧ VRel C' r u

theorem opSum_slow [BT] (hT : TabOk P T) (hE : EnvOk P E) {o : Oper} {R : St → KV → Ans} (h : ∀ s K, R s K = opE T E noInl o s K) : OpSum P o R := by
  intro F C s a stk K res hR hS
  rw [h] at hR
  exact clean_mono (fun u w' ⟨r, s', C', h1, h2, h3, h4, _⟩ => ⟨r, s', C', h1, h2, h3, h4⟩) (opE_clean hT hE noInl_ok hS hR)

/-- What calls lead to holds of the program. -/
structure LoOk [BT] (P : Program) (lo : Lo) : Prop where
  env : EnvOk P lo.env
  ca : ∀ g cf, lo.ca g = some cf → ∃ fn c, P.funcs[g]? = some fn ∧ fn.body = some c ∧ fn.name ≠ "runtime.NumGoroutine" ∧ cf.nt = fn.ntmps ∧ cf.res = fn.results.toList ∧ CSum P fn.ntmps c cf.run

theorem callF_sound [BT] (hT : TabOk P T) {lo : Lo} (hL : LoOk P lo) {g : Nat} {cf : CF} (hcf : lo.ca g = some cf) {F : Fr} {C : Cx} {s : St} {a : Act} {stk : List (Array Value)} (hS : SRel F C s a.tmps stk)
    {args : List AV} {us : Array Value} (hargs : VRels C args us.toList) {K : KV} {res : AV × List Obj} (h : callF T cf args s K = some res) :
    (∃ w, (Go.callFunc g us).run P C.w = .ok (.enter g us) w ∧ w = C.w) ∧
    Calls P g us C.w fun
      | .returned v, w' => ∃ r s' C', K r s' = some res ∧ C'.w = w' ∧ SRel F C' s' a.tmps stk ∧ VRel C' r v
      | _, _ => False := by
  obtain ⟨fn, c, hf, hb, hn, hnt, hres, hG⟩ := hL.ca g cf hcf
  obtain ⟨env0, stk0, H0, blk0⟩ := s
  unfold callF at h
  rw [fVs_eq, fL_eq] at h
  dsimp only at h
  rw [hres] at h
  refine ⟨⟨C.w, ?_, rfl⟩, ?_⟩
  · have hne : (fn.name == "runtime.NumGoroutine") = false := by simpa using hn
    simp [Go.callFunc, hf, hb, hn]
  · obtain ⟨F1, hF1⟩ : ∃ F1 : Fr, F1 = { F.re C with base := C.w.heap.size } := ⟨_, rfl⟩
    have hF1C : FrameOk F1 C := by rw [hF1]; exact ⟨rfl, rfl, rfl, Nat.le_refl _, fun _ _ _ => rfl, fun _ h => h, fun _ h => .inl h, fun i b hl hb => .inl ⟨i, hl, hb⟩⟩
    have hback : ∀ C', FrameOk F1 C' → FrameOk F C' := fun C' h => (re_le hS.frame).frame C' (by rw [hF1] at h; exact ⟨h.os, h.tape, h.output, h.size, h.keep, h.r0, h.rN, h.own⟩)
    have hb1 : F1.base = C.w.heap.size := by rw [hF1]
    have hw1 : F.w0.heap.size ≤ C.w.heap.size := hS.frame.size
    have hS' : SRel F1 C { env := argsEnv 0 args, stk := env0 :: stk0, H := H0, blk := 0 } (us ++ Array.replicate (fn.ntmps - us.size) undef) (a.tmps :: stk) :=
      ⟨hS.H, hS.heap, args_env hargs _, by rw [SStk]; exact ⟨_, _, rfl, hS.env, hS.stk⟩, hF1C⟩
    refine (callsIn_wide (n := 0)).1 (callsIn_of_wp_marks hf hb trivial (wpIn_mono (hG (r := none) (a := { tmps := us ++ Array.replicate (fn.ntmps - us.size) undef, defers := [] }) h (RndOk.none _) hS' (by simp; omega) ⟨by rw [hF1]; exact Nat.le_refl _, trivial⟩) ?_))
    rintro e a' w' ⟨F2, e', s', C', hle, rfl, hK, rfl, hS'', hsz, hd⟩
    have fin : ∀ {stk' env'}, s'.stk = env' :: stk' → (resultsOf T s' fn.results.toList [] fun vs => forceV (tupled vs) fun v => K v ⟨env', stk', s'.H, blk0⟩) = some res →
        ∀ W, Priv F2.base C' W → ∃ v, (results fn a'.tmps).run P W = .ok v W ∧ ∃ r s'' C'', K r s'' = some res ∧ C''.w = W ∧ SRel F C'' s'' a.tmps stk ∧ VRel C'' r v := by
      intro stk' env' hst hr W hW
      have hSF : SRel F C' s' a'.tmps (a.tmps :: stk) := ⟨hS''.H, hS''.heap, hS''.env, hS''.stk, hback _ (hle.frame _ hS''.frame)⟩
      have hSW : SRel F (C'.at W) s' a'.tmps (a.tmps :: stk) := priv_sound hSF (by rw [hle.base, hb1]; exact hw1) hW
      obtain ⟨rs, v, h1, h2, h3⟩ := results_sound hT hSW hr
      rw [forceV_eq] at h1
      have hstk := hSW.stk
      rw [hst, SStk] at hstk
      obtain ⟨t', ts', he, henv, hstk⟩ := hstk
      cases he
      exact ⟨v, h2, _, _, C'.at W, h1, rfl, ⟨hSW.H, hSW.heap, henv, hstk, hSW.frame⟩, h3⟩
    have same : ∀ {stk' env'}, s'.stk = env' :: stk' → (resG T s' fn.results.toList fun vs => fV (tupled vs) fun v => K v ⟨env', stk', s'.H, blk0⟩) = (resultsOf T s' fn.results.toList [] fun vs => forceV (tupled vs) fun v => K v ⟨env', stk', s'.H, blk0⟩) := by
      intro stk' env' _
      rw [resG_eq]
      simp only [fV_eq, forceV_eq, List.nil_append]
    obtain ⟨env1, stk1, H1, blk1⟩ := s'
    cases e' with
    | norm =>
      simp only [backK] at hK
      split at hK
      · rename_i env' stk'
        exact leaves_marks _ F2 C' hd.2 hS''.frame (fun W hW => fin rfl ((same rfl).symm.trans hK) W hW)
      · cases hK
    | ret =>
      simp only [backK] at hK
      split at hK
      · rename_i env' stk'
        exact leaves_marks _ F2 C' hd.2 hS''.frame (fun W hW => fin rfl ((same rfl).symm.trans hK) W hW)
      · cases hK
    | exit i => cases hK
    | goto l => cases hK

theorem map_vOf (l : List Operand) (env : Tmps) : (l.map fun x => (vOf x).run env) = l.map (opd env) := by
  congr 1
  funext x
  exact vOf_eq x env

theorem callC_sound [BT] (hT : TabOk P T) {lo : Lo} (hL : LoOk P lo) {o : Oper} {c : Call} (ho : o.op = .call c) : OpSum P o (callC T lo o c).run := by
  have slow : OpSum P o (slowO T lo.env o).run := opSum_slow hT hL.env fun _ _ => rfl
  have quick : ∀ {g : Nat} {cf : CF} {args : List AV}, lo.ca g = some cf → ∀ {F : Fr} {C : Cx} {s : St} {a : Act} {stk : List (Array Value)} {K : KV} {res : AV × List Obj}, SRel F C s a.tmps stk → fnOf s c = some (g, args) → callF T cf args s K = some res →
      clean P o a C.w fun u w' => ∃ r s' C', K r s' = some res ∧ C'.w = w' ∧ SRel F C' s' a.tmps stk ∧ VRel C' r u := by
    intro g cf args hcf F C s a stk K res hS hfn hR
    obtain ⟨us, hus, hex⟩ := fnOf_sound hS.env hfn
    obtain ⟨⟨w, hr, rfl⟩, hcall⟩ := callF_sound hT hL hcf hS hus hR
    unfold clean
    rw [hex o ho, hr]
    refine hcall.mono ?_
    intro e w' hw'
    cases e with
    | returned v =>
      obtain ⟨r, s', C', g1, g2, g3, g4⟩ := hw'
      exact ⟨v, rfl, r, s', C', g1, g2, g3, g4⟩
    | panicked ch => exact hw'.elim
    | outgrown => exact hw'.elim
  unfold callC
  split
  · rename_i f hcal
    split
    · rename_i g
      split
      · rename_i cf hcf
        intro F C s a stk K res hR hS
        refine quick hcf hS ?_ hR
        unfold fnOf
        rw [hcal]
        simp only [opd, map_vOf, List.nil_append, List.append_nil]
      · exact slow
    · rename_i hne
      intro F C s a stk K res hR hS
      dsimp only at hR
      rw [vOf_eq] at hR
      split at hR
      · rename_i g first cap hf
        split at hR
        · rename_i cf hcf
          refine quick hcf hS ?_ hR
          unfold fnOf
          rw [hcal]
          simp only [hf, map_vOf]
        · exact clean_mono (fun u w' ⟨r, s', C', h1, h2, h3, h4, _⟩ => ⟨r, s', C', h1, h2, h3, h4⟩) (opE_clean hT hL.env noInl_ok hS hR)
      · cases hR
  · exact slow

theorem opC_sound [BT] (hT : TabOk P T) {lo : Lo} (hL : LoOk P lo) (o : Oper) : OpSum P o (opC T lo o).run := by
  have slow : OpSum P o (slowO T lo.env o).run := opSum_slow hT hL.env fun _ _ => rfl
  have same : ∀ {R : St → KV → Ans}, (∀ s K, R s K = opE T lo.env noInl o s K) → OpSum P o R := fun h => opSum_slow hT hL.env h
  unfold opC
  split
  · rename_i x ho
    refine same fun s K => ?_
    simp only [opE, ho, quietOp, vOf_eq]
  · rename_i x ho
    split
    · rename_i v
      split
      · rename_i hn
        refine same fun s K => ?_
        simp only [opE, ho, loudOp, opd]
        unfold typedNil
        rw [hn]
      · rename_i ty hn
        refine same fun s K => ?_
        simp only [opE, ho, loudOp, opd]
        unfold typedNil
        rw [hn]
        exact newF_eq _ _ _
    · rename_i hne
      refine same fun s K => ?_
      cases x with
      | const v => exact (hne v rfl).elim
      | _ => simp only [opE, ho, quietOp, vOf_eq]
  · rename_i t x ho
    refine same fun s K => ?_
    simp only [opE, ho, quietOp, vOf_eq, loadC_eq]
  · rename_i t x y ho
    cases hn : isNilTy T t with
    | true => exact slow
    | false =>
      refine same fun s K => ?_
      simp only [opE, ho, quietOp, loudOp, vOf_eq, storeC_eq, cond_false, typedNil_no hn]
  · rename_i t x f ho
    refine same fun s K => ?_
    simp only [opE, ho, quietOp, vOf_eq, fieldAddrC_eq]
  · rename_i x ho
    refine same fun s K => ?_
    simp only [opE, ho, quietOp, vOf_eq]
    cases opd s.env x <;> rfl
  · rename_i op t x y t2 ho
    refine same fun s K => ?_
    simp only [opE, ho, quietOp, vOf_eq, binC_eq]
  · rename_i t i ho
    refine same fun s K => ?_
    simp only [opE, ho, quietOp, vOf_eq, extract, nthF_eq]
    cases opd s.env t <;> rfl
  · rename_i c x y ho
    refine same fun s K => ?_
    simp only [opE, ho, quietOp, vOf_eq]
    cases opd s.env c <;> try rfl
    rename_i b
    cases b <;> rfl
  · rename_i src dst x ho
    split
    · rename_i k hk
      refine same fun s K => ?_
      dsimp only
      rw [vOf_eq]
      split
      · rename_i q n hx
        simp only [opE, ho, quietOp, hx, wrapF_eq, convert]
        unfold kindAt at hk
        cases h1 : Tab.get T src with
        | none => rw [h1] at hk; cases hk
        | some si =>
          rw [h1] at hk
          dsimp only at hk
          cases h2 : Tab.get T dst with
          | none => rw [h2] at hk; cases hk
          | some di =>
            rw [h2] at hk
            dsimp only at hk
            simp only [bindO, hk]
      · rfl
    · exact slow
  · rename_i c ho
    exact callC_sound hT hL ho
  · exact slow

/-! ### Code -/
structure CW where
  run : St → (St → Ans) → (St → Ans) → Ans
noncomputable def wantC (all : Array Oper) (nt : Nat) (o : Oper) : CW :=
  match o.guard with
  | none => ⟨fun s run _ => run s⟩
  | some jw => match guardT all jw.1 with
    | none => ⟨fun _ _ _ => none⟩
    | some g => cond (Nat.blt g nt)
      (cond jw.2
        ⟨fun s run skip => match getF s.env g with
          | .bool b => @St.casesOn (fun _ => Ans) s fun env stk H blk => @Bool.rec (fun _ => Ans) (skip ⟨(g, .bool false) :: env, stk, H, blk⟩) (run ⟨(g, .bool true) :: env, stk, H, blk⟩) b
          | .tup _ => skip s
          | _ => none⟩
        ⟨fun s run skip => match getF s.env g with
          | .bool b => @St.casesOn (fun _ => Ans) s fun env stk H blk => @Bool.rec (fun _ => Ans) (run ⟨(g, .bool false) :: env, stk, H, blk⟩) (skip ⟨(g, .bool true) :: env, stk, H, blk⟩) b
          | .tup _ => skip s
          | _ => none⟩)
      ⟨fun _ _ _ => none⟩
theorem wantC_eq (all : Array Oper) (nt : Nat) (o : Oper) (s : St) (run skip : St → Ans) : (wantC all nt o).run s run skip = wantedT all nt o s run skip := by
  unfold wantC wantedT
  cases o.guard with
  | none => rfl
  | some jw =>
    obtain ⟨j, want⟩ := jw
    dsimp only
    cases guardT all j with
    | none => rfl
    | some g =>
      obtain ⟨env, stk, H, blk⟩ := s
      dsimp only [bindO]
      cases hb : Nat.blt g nt with
      | false =>
        simp only [cond_false]
        cases getT env g <;> rfl
      | true =>
        cases want with
        | true =>
          simp only [cond_true, getF_eq]
          cases getT env g <;> try rfl
          rename_i b
          cases b <;> rfl
        | false =>
          simp only [cond_true, cond_false, getF_eq]
          cases getT env g <;> try rfl
          rename_i b
          cases b <;> rfl

structure CR where
  run : (St → Ans) → St → Ans
noncomputable def opsC [BT] (T : Tab) (lo : Lo) (all : Array Oper) (nt : Nat) : List Oper → CR
  | [] => ⟨fun K s => K s⟩
  | o :: r => match o.guard with
    | none => ⟨fun K s => (opC T lo o).run s fun v s' => putF nt o.dst v s' ((opsC T lo all nt r).run K)⟩
    | some _ => ⟨fun K s => (wantC all nt o).run s (fun s => (opC T lo o).run s fun v s' => putF nt o.dst v s' ((opsC T lo all nt r).run K)) (fun s => putF nt o.dst (.tup []) s ((opsC T lo all nt r).run K))⟩
theorem opsC_eq [BT] (lo : Lo) (all : Array Oper) (nt : Nat) (o : Oper) (r : List Oper) (K : St → Ans) (s : St) :
    (opsC T lo all nt (o :: r)).run K s = wantedT all nt o s (fun s => (opC T lo o).run s fun v s' => putT nt o.dst v s' ((opsC T lo all nt r).run K)) (fun s => putT nt o.dst (.tup []) s ((opsC T lo all nt r).run K)) := by
  rw [opsC]
  split
  · rename_i h
    simp only [wantedT, h, putF_eq]
  · simp only [putF_eq, wantC_eq]

/-! ### Regions that draw their order: the order is found once -/
structure CQ where
  run : St → (AV → Ans) → Ans
noncomputable def opQC [BT] (T : Tab) (E : Env) (o : Oper) : CQ :=
  match o.op with
  | .move x => ⟨fun s K => K ((vOf x).run s.env)⟩
  | .assign x => ⟨fun s K => K ((vOf x).run s.env)⟩
  | .load t a => ⟨fun s K => (loadC T t).run s ((vOf a).run s.env) K⟩
  | .fieldAddr t x f => ⟨fun s K => (fieldAddrC T t f).run ((vOf x).run s.env) K⟩
  | .nilCheck x => ⟨fun s K => match (vOf x).run s.env with
    | .ptr i off => K (.ptr i off)
    | .eptr i n off => K (.eptr i n off)
    | .rptr t y off => K (.rptr t y off)
    | _ => none⟩
  | .binOp op t x y _ => ⟨fun s K => (binC T op t (isConst x || isConst y)).run ((vOf x).run s.env) ((vOf y).run s.env) K⟩
  | .extract t i => ⟨fun s K => match (vOf t).run s.env with
    | .tup vs => bindO (nthF vs i) K
    | _ => none⟩
  | .pick c a b => ⟨fun s K => match (vOf c).run s.env with
    | .bool p => @Bool.rec (fun _ => Ans) (K ((vOf b).run s.env)) (K ((vOf a).run s.env)) p
    | _ => none⟩
  | _ => ⟨fun s K => opQ T E o s K⟩
theorem opQC_eq [BT] (o : Oper) (s : St) (K : AV → Ans) : (opQC T E o).run s K = opQ T E o s K := by
  unfold opQC
  split
  · rename_i x ho; simp only [opQ, ho, quietOp, vOf_eq]
  · rename_i x ho; simp only [opQ, ho, quietOp, vOf_eq]
  · rename_i t x ho; simp only [opQ, ho, quietOp, vOf_eq, loadC_eq]
  · rename_i t x f ho; simp only [opQ, ho, quietOp, vOf_eq, fieldAddrC_eq]
  · rename_i x ho
    simp only [opQ, ho, quietOp, vOf_eq]
    cases opd s.env x <;> rfl
  · rename_i op t x y t2 ho; simp only [opQ, ho, quietOp, vOf_eq, binC_eq]
  · rename_i t i ho
    simp only [opQ, ho, quietOp, vOf_eq, extract, nthF_eq]
    cases opd s.env t <;> rfl
  · rename_i c x y ho
    simp only [opQ, ho, quietOp, vOf_eq]
    cases opd s.env c <;> try rfl
    rename_i b
    cases b <;> rfl
  · rfl

/-- What it read is noted. -/
structure CAcc where
  run : St → List (Nat × Option (List Nat)) → List (Nat × Option (List Nat))
noncomputable def accC (j : Nat) (o : Oper) : CAcc :=
  match o.op with
  | .load _ x => ⟨fun s acc => (j, some ((vOf x).run s.env).refs) :: acc⟩
  | .call _ => ⟨fun s acc => addAcc j (readsOf s o) acc⟩
  | _ => ⟨fun _ acc => acc⟩
theorem accC_eq (j : Nat) (o : Oper) (s : St) (acc : List (Nat × Option (List Nat))) : (accC j o).run s acc = addAcc j (readsOf s o) acc := by
  unfold accC
  split
  · rename_i t x ho
    simp only [readsOf, ho, addAcc, vOf_eq]
  · rfl
  · rename_i h1 h2
    have : readsOf s o = none := by
      unfold readsOf
      split
      · rename_i t x ho; exact (h1 t x ho).elim
      · rename_i c ho; exact (h2 c ho).elim
      · rfl
    rw [this]; rfl

structure COL where
  run : List (Nat × Option (List Nat)) → St → (Option (List Nat) → KV) → Ans
noncomputable def slowL [BT] (T : Tab) (E : Env) (o : Oper) : COL := ⟨fun _ s K => opL T E noInl o s K⟩
noncomputable def callL [BT] (T : Tab) (lo : Lo) (ms : List Nat) (i : Nat) (o : Oper) (c : Call) : COL :=
  match c.callee with
  | .value f => (match f with
    | .func g => (match lo.ca g with
      | some cf => ⟨fun acc s K => cond (accOk ms i none acc) (callF T cf (c.args.toList.map fun x => (vOf x).run s.env) s (K none)) (opL T lo.env noInl o s K)⟩
      | none => slowL T lo.env o)
    | f => ⟨fun acc s K => match (vOf f).run s.env with
      | .fn (.func g) first cap => (match lo.ca g with
        | some cf => cond (accOk ms i none acc) (callF T cf (first ++ (c.args.toList.map fun x => (vOf x).run s.env) ++ cap) s (K none)) (opL T lo.env noInl o s K)
        | none => opL T lo.env noInl o s K)
      | _ => none⟩)
  | _ => slowL T lo.env o
noncomputable def opLC [BT] (T : Tab) (lo : Lo) (ms : List Nat) (i : Nat) (o : Oper) : COL :=
  match o.op with
  | .store t a x => cond (isNilTy T t) (slowL T lo.env o) ⟨fun _ s K => (storeC T t).run s ((vOf a).run s.env) ((vOf x).run s.env) fun s' => K (footOf s o) .unk s'⟩
  | .call c => callL T lo ms i o c
  | _ => slowL T lo.env o
def OpLSum [BT] (P : Program) (o : Oper) (R : List (Nat × Option (List Nat)) → St → (Option (List Nat) → KV) → Ans) : Prop :=
  ∀ ⦃acc : List (Nat × Option (List Nat))⦄ ⦃F : Fr⦄ ⦃C : Cx⦄ ⦃s : St⦄ ⦃a : Act⦄ ⦃stk : List (Array Value)⦄ ⦃K : Option (List Nat) → KV⦄ ⦃res : AV × List Obj⦄, R acc s K = some res → SRel F C s a.tmps stk →
    clean P o a C.w fun u w' => ∃ foot r s' C', K foot r s' = some res ∧ C'.w = w' ∧ SRel F C' s' a.tmps stk ∧ VRel C' r u ∧ FootOk C C' foot
theorem opLC_sound [BT] (hT : TabOk P T) {lo : Lo} (hL : LoOk P lo) (ms : List Nat) (i : Nat) (o : Oper) : OpLSum P o (opLC T lo ms i o).run := by
  have slow : OpLSum P o (slowL T lo.env o).run := fun acc F C s a stk K res h hS => opL_sound hT hL.env noInl_ok hS h
  unfold opLC
  split
  · rename_i t x y ho
    cases hn : isNilTy T t with
    | true => exact slow
    | false =>
      intro acc F C s a stk K res h hS
      refine opL_sound hT hL.env noInl_ok hS (o := o) ?_
      rw [← h]
      simp only [opL, ho, opE, quietOp, loudOp, vOf_eq, storeC_eq, cond_false, typedNil_no hn]
  · rename_i c ho
    have quick : ∀ {g : Nat} {cf : CF} {args : List AV}, lo.ca g = some cf → ∀ {F : Fr} {C : Cx} {s : St} {a : Act} {stk : List (Array Value)} {K : Option (List Nat) → KV} {res : AV × List Obj}, SRel F C s a.tmps stk → fnOf s c = some (g, args) → callF T cf args s (K none) = some res →
        clean P o a C.w fun u w' => ∃ foot r s' C', K foot r s' = some res ∧ C'.w = w' ∧ SRel F C' s' a.tmps stk ∧ VRel C' r u ∧ FootOk C C' foot := by
      intro g cf args hcf F C s a stk K res hS hfn hR
      obtain ⟨us, hus, hex⟩ := fnOf_sound hS.env hfn
      obtain ⟨⟨w, hr, rfl⟩, hcall⟩ := callF_sound hT hL hcf hS hus hR
      unfold clean
      rw [hex o ho, hr]
      refine hcall.mono ?_
      intro e w' hw'
      cases e with
      | returned v =>
        obtain ⟨r, s', C', g1, g2, g3, g4⟩ := hw'
        exact ⟨v, rfl, none, r, s', C', g1, g2, g3, g4, trivial⟩
      | panicked ch => exact hw'.elim
      | outgrown => exact hw'.elim
    unfold callL
    split
    · rename_i f hcal
      split
      · rename_i g
        split
        · rename_i cf hcf
          intro acc F C s a stk K res hR hS
          dsimp only at hR
          cases hacc : accOk ms i none acc with
          | true =>
            rw [hacc, cond_true] at hR
            refine quick hcf hS ?_ hR
            unfold fnOf
            rw [hcal]
            simp only [opd, map_vOf, List.nil_append, List.append_nil]
          | false =>
            rw [hacc, cond_false] at hR
            exact opL_sound hT hL.env noInl_ok hS hR
        · exact slow
      · intro acc F C s a stk K res hR hS
        dsimp only at hR
        rw [vOf_eq] at hR
        split at hR
        · rename_i g first cap hf
          split at hR
          · rename_i cf hcf
            cases hacc : accOk ms i none acc with
            | true =>
              rw [hacc, cond_true] at hR
              refine quick hcf hS ?_ hR
              unfold fnOf
              rw [hcal]
              simp only [hf, map_vOf]
            | false =>
              rw [hacc, cond_false] at hR
              exact opL_sound hT hL.env noInl_ok hS hR
          · exact opL_sound hT hL.env noInl_ok hS hR
        · cases hR
    · exact slow
  · exact slow

structure CY where
  run : (St → Ans) → List (Nat × Option (List Nat)) → St → Ans
noncomputable def yC [BT] (T : Tab) (lo : Lo) (all : Array Oper) (q : Nat → Bool) (ms : List Nat) (nt : Nat) : Nat → Array Bool → CY
  | 0, listed => match Region.ready .any all listed with
    | [] => ⟨fun K _ s => K s⟩
    | _ :: _ => ⟨fun _ _ _ => none⟩
  | f + 1, listed => match Region.ready .any all listed with
    | [] => ⟨fun K _ s => K s⟩
    | i :: r => match firstQ q (i :: r) with
      | some j => cond (Region.free .any all listed j) (match all[j]? with
        | some o => ⟨fun K acc s => (wantC all nt o).run s
            (fun s => (opQC T lo.env o).run s fun v => putF nt o.dst v s ((yC T lo all q ms nt f (listed.setIfInBounds j true)).run K ((accC j o).run s acc)))
            (fun s => putF nt o.dst (.tup []) s ((yC T lo all q ms nt f (listed.setIfInBounds j true)).run K acc))⟩
        | none => ⟨fun _ _ _ => none⟩) ⟨fun _ _ _ => none⟩
      | none => match r with
        | [] => (match all[i]? with
          | some o => ⟨fun K acc s => (wantC all nt o).run s
              (fun s => (opLC T lo ms i o).run acc s fun foot v s' => cond (accOk ms i foot acc) (putF nt o.dst v s' ((yC T lo all q ms nt f (listed.setIfInBounds i true)).run K (accNext foot acc))) none)
              (fun s => putF nt o.dst (.tup []) s ((yC T lo all q ms nt f (listed.setIfInBounds i true)).run K acc))⟩
          | none => ⟨fun _ _ _ => none⟩)
        | _ :: _ => ⟨fun _ _ _ => none⟩
theorem wantedT_mono {all : Array Oper} {nt : Nat} {o : Oper} {s : St} {r1 r2 k1 k2 : St → Ans} {res : AV × List Obj} (hr : ∀ s, r1 s = some res → r2 s = some res) (hk : ∀ s, k1 s = some res → k2 s = some res) (h : wantedT all nt o s r1 k1 = some res) : wantedT all nt o s r2 k2 = some res := by
  obtain ⟨env, stk, H, blk⟩ := s
  unfold wantedT at h ⊢
  cases hg : o.guard with
  | none => rw [hg] at h; exact hr _ h
  | some jw =>
    obtain ⟨j, want⟩ := jw
    rw [hg] at h
    dsimp only at h ⊢
    cases hgt : guardT all j with
    | none => rw [hgt] at h; cases h
    | some g =>
      rw [hgt] at h
      dsimp only [bindO] at h ⊢
      cases hv : getT env g <;> rw [hv] at h <;> try (cases h; done)
      · rename_i b
        dsimp only at h ⊢
        replace h := cond_none h
        rw [h.1]
        replace h := h.2
        cases b <;> cases want <;> simp only [cond_true, cond_false] at h ⊢ <;> first | exact hr _ h | exact hk _ h
      · dsimp only at h ⊢
        replace h := cond_none h
        rw [h.1]
        exact hk _ h.2

theorem yC_sound [BT] (hT : TabOk P T) {lo : Lo} (hL : LoOk P lo) {F : Fr} {stk : List (Array Value)} {all : Array Oper} {nt : Nat} {K : St → Ans} {res : AV × List Obj} {Q : Act → World → Prop} {ds : List Deferred}
    {q : Nat → Bool} (hsel : Region.noSelect all = true)
    (hQ : ∀ s C a, K s = some res → SRel F C s a.tmps stk → nt ≤ a.tmps.size → a.defers = ds → Q a C.w) :
    ∀ (f : Nat) (listed : Array Bool) (acc : List (Nat × Option (List Nat))) (es : List Ent) {s : St} {C : Cx} {a : Act}, ClosedL .any all listed → EntsOk C acc es →
      (yC T lo all q (masks all all.size) nt f listed).run K acc s = some res → SRel F C s a.tmps stk → nt ≤ a.tmps.size → a.defers = ds →
      wpAnyE P .any all (ancB (masks all all.size)) Q es f listed a C.w
  | 0, listed, acc, es, s, C, a, hcl, hes, h, hS, hsz, hd => by
    rw [yC] at h
    split at h
    · rename_i hr
      intro w' hq
      exact ⟨hr, hQ s (C.at w') a h (at_sound hS hq) hsz hd⟩
    · cases h
  | f + 1, listed, acc, es, s, C, a, hcl, hes, h, hS, hsz, hd => by
    rw [yC] at h
    split at h
    · rename_i hr
      intro w' hq
      refine ⟨fun _ => hQ s (C.at w') a h (at_sound hS hq) hsz hd, fun i hi => ?_⟩
      rw [hr] at hi
      cases hi
    · rename_i i0 r0 hr
      split at h
      · rename_i j hj
        cases hfree : Region.free .any all listed j with
        | false => rw [hfree] at h; cases h
        | true =>
        rw [hfree, cond_true] at h
        have hjr : j ∈ Region.ready .any all listed := by rw [hr]; exact firstQ_mem hj
        obtain ⟨_, o, ho, _⟩ := mem_ready.1 hjr
        rw [ho] at h
        dsimp only at h
        rw [wantC_eq] at h
        obtain ⟨s', hS', h⟩ := wantedT_sound hS hsz h
        rcases h with ⟨hw, h⟩ | ⟨hw, h⟩
        · rw [opQC_eq] at h
          simp only [putF_eq, accC_eq] at h
          obtain ⟨r', v, hK, hv, hsees⟩ := opQ_sees hT hL.env hS' h
          obtain ⟨s3, h3, hS3, hsz3, hd3⟩ := putT_sound hS' hsz hv hK
          cases hrd : readsOf s' o with
          | none =>
            have := yC_sound hT hL hsel hQ f _ acc es (hcl.set hjr) hes (by rw [hrd] at h3; exact h3) hS3 hsz3 (hd3.trans hd)
            refine wpAnyE_first (ancB_ok all) (B := fun _ => False) (w0 := C.w) ho (Region.noSelect_spec hsel) f listed a C.w hcl (Region.free_spec ho hfree) hjr (.inl ⟨hw, fun W _ => hsees W (fun l hl => by rw [hrd] at hl; cases hl)⟩) (fun b hb => hb.elim) ?_
            exact more_ents this
          | some rd =>
          let B : Nat → Prop := fun b => C.R b ∨ ∃ i ∈ rd, Live C.H i ∧ C.ρ i = some b
          have hB : Keeps B C.w C.w := by
            rintro b (hb | ⟨i, _, hl, hb⟩)
            · exact ⟨hS.heap.rlt b hb, rfl⟩
            · exact ⟨hS.heap.blk_lt hl hb, rfl⟩
          refine wpAnyE_first (ancB_ok all) (B := B) (w0 := C.w) ho (Region.noSelect_spec hsel) f listed a C.w hcl (Region.free_spec ho hfree) hjr (.inl ⟨hw, fun W hW => hsees W (fun l hl b hb => by
            rw [hrd] at hl
            cases hl
            exact (hW b hb).2)⟩) hB ?_
          refine yC_sound hT hL hsel hQ f _ _ _ (hcl.set hjr) ?_ (by rw [hrd] at h3; exact h3) hS3 hsz3 (hd3.trans hd)
          unfold addAcc
          rw [EntsOk]
          refine ⟨_, es, rfl, rfl, ⟨fun l hl => ?_⟩, hes⟩
          cases hl
          refine ⟨hB, ?_⟩
          rintro b (hb | ⟨k, hk, hlk, hbk⟩) i hl hbi
          · exact absurd hb (hS.heap.ro i b hl hbi)
          · rw [hS.heap.inj i k b hl hlk hbi hbk]; exact hk
        · rw [putF_eq] at h
          obtain ⟨s3, h3, hS3, hsz3, hd3⟩ := putT_sound (v := .tup []) (u := undef) hS' hsz (by rw [VRel]; exact ⟨#[], rfl, by rw [VRels]⟩) h
          have := yC_sound hT hL hsel hQ f _ acc es (hcl.set hjr) hes h3 hS3 hsz3 (hd3.trans hd)
          refine wpAnyE_first (ancB_ok all) (B := fun _ => False) (w0 := C.w) ho (Region.noSelect_spec hsel) f listed a C.w hcl (Region.free_spec ho hfree) hjr (.inr ⟨hw, rfl⟩) (fun b hb => hb.elim) ?_
          exact more_ents this
      · split at h
        rotate_left
        · cases h
        intro w' hq
        refine ⟨fun h0 => (by rw [hr] at h0; cases h0), fun i hi => ?_⟩
        obtain rfl : i = i0 := by rw [hr] at hi; exact List.mem_singleton.1 hi
        obtain ⟨_, o, ho, _⟩ := mem_ready.1 hi
        have hSw := at_sound hS hq
        have hesw := hes.later hq
        generalize hC : C.at w' = C2 at hSw hesw
        have hw : w' = C2.w := by rw [← hC]; rfl
        clear hC hS hes hq
        subst hw
        rename_i C0 _
        clear C0
        obtain ⟨C, hC⟩ : ∃ C, C = C2 := ⟨_, rfl⟩
        subst hC
        rw [ho] at h
        dsimp only at h
        rw [wantC_eq] at h
        obtain ⟨s', hS', h⟩ := wantedT_sound hSw hsz h
        unfold clOp
        simp only [ho]
        rcases h with ⟨hw, h⟩ | ⟨hw, h⟩
        · rw [if_pos hw]
          refine clean_mono ?_ (opLC_sound hT hL (masks all all.size) i o h hS')
          rintro u w'' ⟨foot, r', s'', C', hK, rfl, hS'', hv, hf⟩
          replace hK := cond_none hK; obtain ⟨hacc, hK⟩ := hK
          rw [putF_eq] at hK
          obtain ⟨s3, h3, hS3, hsz3, hd3⟩ := putT_sound hS'' hsz hv hK
          obtain ⟨g1, g2⟩ := EntsOk.foot hf hesw hacc
          exact ⟨g2, yC_sound hT hL hsel hQ f _ _ _ (hcl.set hi) g1 h3 hS3 hsz3 (hd3.trans hd)⟩
        · rw [if_neg (by rw [hw]; decide)]
          rw [putF_eq] at h
          obtain ⟨s3, h3, hS3, hsz3, hd3⟩ := putT_sound (v := .tup []) (u := undef) hS' hsz (by rw [VRel]; exact ⟨#[], rfl, by rw [VRels]⟩) h
          exact ⟨fun e _ _ hke => hke, yC_sound hT hL hsel hQ f _ acc es (hcl.set hi) hesw h3 hS3 hsz3 (hd3.trans hd)⟩
where
  more_ents {f : Nat} {listed : Array Bool} {a : Act} {w : World} {es : List Ent} {an : Nat → Nat → Bool} {k : Nat} {w0 : World} {all : Array Oper} {Q : Act → World → Prop} (h : wpAnyE P .any all an Q es f listed a w) :
      wpAnyE P .any all an Q (⟨k, fun _ => False, w0⟩ :: es) f listed a w := by
    induction f generalizing listed a w with
    | zero => exact h
    | succ f ih =>
      intro w' hq
      refine ⟨(h w' hq).1, fun i hi => clOp_mono (fun a' w'' hk => ⟨fun e he => ?_, ih hk.2⟩) ((h w' hq).2 i hi)⟩
      rcases List.mem_cons.1 he with rfl | he
      · exact fun _ _ b hb => hb.elim
      · exact hk.1 e he

theorem opsC_sound [BT] (hT : TabOk P T) {lo : Lo} (hL : LoOk P lo) {F : Fr} {stk : List (Array Value)} {all : Array Oper} {nt : Nat} {K : St → Ans} {res : AV × List Obj} {Q : Exit → Act → World → Prop} {ds : List Deferred} {rn : Option Nat}
    (hQ : ∀ s C a, K s = some res → SRel F C s a.tmps stk → nt ≤ a.tmps.size → a.defers = ds → Q .normal a C.w) :
    ∀ (l : List Oper) (n : Nat), all.toList.drop n = l → ∀ {s : St} {C : Cx} {a : Act}, (opsC T lo all nt l).run K s = some res → SRel F C s a.tmps stk → nt ≤ a.tmps.size → a.defers = ds →
      wpOpsIn (WF rn) 0 P all Q (List.range' n l.length) a C.w
  | [], n, hl, s, C, a, h, hS, hsz, hd => hQ s C a h hS hsz hd
  | o :: r, n, hl, s, C, a, h, hS, hsz, hd => by
    rw [opsC_eq] at h
    have hlr : all.toList.drop (n + 1) = r := by rw [← List.tail_drop, hl]; rfl
    have ho : all[n]? = some o := by
      have : (all.toList.drop n)[0]? = some o := by rw [hl]; rfl
      simpa using this
    rw [List.length_cons, List.range'_succ, wpOpsIn, ho]
    dsimp only
    obtain ⟨s', hS', h⟩ := wantedT_sound hS hsz h
    rcases h with ⟨hw, h⟩ | ⟨hw, h⟩
    · rw [if_pos hw]
      refine wpIn_of_clean (clean_mono ?_ (opC_sound hT hL o h hS'))
      rintro u w' ⟨r', s'', C', hK, rfl, hS'', hv⟩
      obtain ⟨s3, h3, hS3, hsz3, hd3⟩ := putT_sound hS'' hsz hv hK
      exact opsC_sound hT hL hQ r (n + 1) hlr h3 hS3 hsz3 (hd3.trans hd)
    · rw [if_neg (by rw [hw]; decide)]
      refine ⟨fun f _ => WF_fn rn f, ?_⟩
      obtain ⟨s3, h3, hS3, hsz3, hd3⟩ := putT_sound (v := .tup []) (u := undef) hS' hsz (by rw [VRel]; exact ⟨#[], rfl, by rw [VRels]⟩) h
      exact opsC_sound hT hL hQ r (n + 1) hlr h3 hS3 hsz3 (hd3.trans hd)

/-- What is kept, forced. -/
noncomputable def keepF (env : Tmps) (keep : List Nat) : (Tmps → Ans) → Ans := @List.rec Nat (fun _ => (Tmps → Ans) → Ans) (fun K => K []) (fun d _ ih K => fV (getF env d) fun v => ih fun r => K ((d, v) :: r)) keep
theorem keepF_eq (env : Tmps) (keep : List Nat) : ∀ K : Tmps → Ans, keepF env keep K = K (keepT env keep) := by
  induction keep with
  | nil => intro K; rfl
  | cons d r ih =>
    intro K
    show fV (getF env d) _ = _
    rw [fV_eq, getF_eq]
    exact ih _
noncomputable def headF (keep : List Nat) (s : St) (K : St → Ans) : Ans :=
  @St.casesOn (fun _ => Ans) s fun env stk H blk => keepF env keep fun env => fL (trimH (refsT env ++ refsS stk) H.length H) fun H => K ⟨env, stk, H, blk⟩
theorem headF_eq (keep : List Nat) (s : St) (K : St → Ans) : headF keep s K = K (s.head keep) := by
  obtain ⟨env, stk, H, blk⟩ := s
  show keepF env keep _ = _
  rw [keepF_eq, fL_eq]
  rfl

/-- Rounds of a loop. -/
noncomputable def loopF (keep : List Nat) (run : (Ex → St → Ans) → St → Ans) (K : Ex → St → Ans) : Nat → St → Ans :=
  @Nat.rec (fun _ => St → Ans) (fun _ => none) (fun _ ih s => headF keep s fun s => run (fun e s' => match e with
    | .norm => ih s'
    | e => K e s') s)

structure CC where
  run : (Ex → St → Ans) → St → Ans
noncomputable def seqK (G : (Ex → St → Ans) → St → Ans) (K : Ex → St → Ans) (e : Ex) (s : St) : Ans :=
  match e with
  | .norm => G K s
  | e => K e s
noncomputable def blkK (id : Nat) (K : Ex → St → Ans) (e : Ex) (s : St) : Ans :=
  match e with
  | .exit i => @Bool.rec (fun _ => Ans) (K (.exit i) s) (K .norm s) (Nat.beq i id)
  | e => K e s
noncomputable def codeC [BT] (T : Tab) (lo : Lo) (h : List (Nat × List Nat)) (nt : Nat) : Nat → Code → CC
  | _, .skip => ⟨fun K s => K .norm s⟩
  | _, .region _ ops draw => cond draw
      (cond (Region.noSelect ops)
        ⟨fun K s => (yC T lo ops (quietAt T lo.env ops) (masks ops ops.size) nt ops.size (Array.replicate ops.size false)).run (fun s => K .norm s) [] s⟩ ⟨fun _ _ => none⟩)
      ⟨fun K s => (opsC T lo ops nt ops.toList).run (fun s => K .norm s) s⟩
  | b, .seq x y => ⟨fun K s => (codeC T lo h nt b x).run (seqK (codeC T lo h nt b y).run K) s⟩
  | b, .cond c x y => ⟨fun K s => match (vOf c).run s.env with
      | .bool p => @Bool.rec (fun _ => Ans) ((codeC T lo h nt b y).run K s) ((codeC T lo h nt b x).run K s) p
      | _ => none⟩
  | _, .block id c => ⟨fun K s => (codeC T lo h nt id c).run (blkK id K) s⟩
  | b, .loop c => ⟨fun K s => loopF (hintGo b h) (codeC T lo h nt b c).run K runFuel s⟩
  | _, .exit id => ⟨fun K s => K (.exit id) s⟩
  | _, .ret => ⟨fun K s => K .ret s⟩
  | _, .label _ => ⟨fun K s => K .norm s⟩
  | b, .rangeFunc g ps as c => ⟨fun K s => headF (hintGo b h) s fun s => lenF s.H fun k0 => startG lo.env nt k0 (hintGo b h) g (fun K s =>
      codeI T lo.env (hintOf h) (codeD T lo.env (hintOf h) 0 1) runFuel nt (.rnd (.block (annR T lo.env h nt k0 b c))) (.rangeFunc g ps as c) (weakP k0 (fun _ => hintGo b h) K) s) K s⟩
  | _, _ => ⟨fun _ _ => none⟩

theorem loopF_sound [BT] {nt : Nat} {c : Code} {G : (Ex → St → Ans) → St → Ans} (hG : CSum P nt c G) (keep : List Nat) {r : Option Nat} {stk : List (Array Value)} {res : AV × List Obj} {K : Ex → St → Ans} :
    ∀ (n : Nat) {F : Fr} {s : St} {C : Cx} {a : Act}, loopF keep G K n s = some res → RndOk r F → SRel F C s a.tmps stk → nt ≤ a.tmps.size → MarksOk F a.defers → LoopWp r P c (CPost F K stk nt res) a C.w
  | 0, F, s, C, a, h, hro, hS, hsz, hd => by cases h
  | n + 1, F, s, C, a, h, hro, hS, hsz, hd => by
    replace h : headF keep s (fun s => G (fun e s' => match e with
      | .norm => loopF keep G K n s'
      | e => K e s') s) = some res := h
    rw [headF_eq] at h
    obtain ⟨C', hw, hS'⟩ := head_sound hS keep
    rw [← hw]
    refine loopWp_of_wp (wpIn_mono (hG h hro hS' hsz hd) ?_)
    rintro e a' w' ⟨F', e', s', C'', hle, rfl, hK, rfl, hS'', hsz', hd'⟩
    cases e' with
    | norm => exact LoopWp.mono (loopF_sound hG keep n hK (hro.le hle) hS'' hsz' hd') (fun _ _ _ h => CPost.of_le hle h)
    | exit i => exact ⟨F', .exit i, s', C'', hle, rfl, hK, rfl, hS'', hsz', hd'⟩
    | ret => exact ⟨F', .ret, s', C'', hle, rfl, hK, rfl, hS'', hsz', hd'⟩
    | goto l => exact ⟨F', .goto l, s', C'', hle, rfl, hK, rfl, hS'', hsz', hd'⟩

theorem codeC_sound [BT] (hm : P.follows .mixedOrders = true) (hT : TabOk P T) {lo : Lo} (hL : LoOk P lo) (h : List (Nat × List Nat)) (nt : Nat) : ∀ (c : Code) (b : Nat), CSum P nt c (codeC T lo h nt b c).run := by
  intro c
  induction c with
  | skip =>
    intro b r F K s C a stk res hG hro hS hsz hd
    exact wpIn_skip ⟨F, .norm, s, C, FLe.refl F, rfl, hG, rfl, hS, hsz, hd⟩
  | region id ops draw =>
    intro b r F K s C a stk res hG hro hS hsz hd
    rw [codeC] at hG
    cases draw with
    | false =>
      refine wpIn_region ?_
      have := opsC_sound hT hL (Q := CPost F K stk nt res) (all := ops) (ds := a.defers) (rn := r) (fun s C a' hK hS hsz hd' => ⟨F, .norm, s, C, FLe.refl F, rfl, hK, rfl, hS, hsz, by rw [hd']; exact hd⟩) ops.toList 0 (by simp) hG hS hsz rfl
      rw [List.range_eq_range']
      simpa using this
    | true =>
      simp only [cond_true] at hG
      have hW : Below C.w.heap.size C.w { C.w with drawn := C.w.drawn + 1 } := ⟨rfl, rfl, rfl, Nat.le_refl _, fun _ _ => rfl⟩
      have hS1 := at_sound hS hW
      cases hsel : Region.noSelect ops with
      | false => rw [hsel] at hG; cases hG
      | true =>
      rw [hsel] at hG
      refine wpIn_region_any hm ?_
      refine wpAnyIn_of_E (ents := []) (an := ancB (masks ops ops.size)) (Q := fun a' w' => CPost F K stk nt res .normal a' w') (fun a' w' h => h) _ _ _ _ ?_
      refine yC_sound hT hL hsel (ds := a.defers) (fun s C a' hK hS hsz hd' => ?_) ops.size _ [] [] ?_ (by rw [EntsOk]) hG hS1 hsz rfl
      · exact ⟨F, .norm, s, C, FLe.refl F, rfl, hK, rfl, hS, hsz, by rw [hd']; exact hd⟩
      intro j oj _ hl
      rw [getD_replicate_false] at hl
      cases hl
  | seq p q ihx ihy =>
    intro b r F K s C a stk res hG hro hS hsz hd
    rw [codeC] at hG
    refine wpIn_seq (wpIn_mono (ihx b hG hro hS hsz hd) ?_)
    rintro e a' w' ⟨F', e', s', C', hle, rfl, hK, rfl, hS', hsz', hd'⟩
    cases e' with
    | norm => exact wpIn_mono (ihy b hK (hro.le hle) hS' hsz' hd') fun _ _ _ h => h.of_le hle
    | exit i => exact ⟨F', .exit i, s', C', hle, rfl, hK, rfl, hS', hsz', hd'⟩
    | ret => exact ⟨F', .ret, s', C', hle, rfl, hK, rfl, hS', hsz', hd'⟩
    | goto l => exact ⟨F', .goto l, s', C', hle, rfl, hK, rfl, hS', hsz', hd'⟩
  | cond c p q ihx ihy =>
    intro b r F K s C a stk res hG hro hS hsz hd
    rw [codeC] at hG
    dsimp only at hG
    rw [vOf_eq] at hG
    split at hG
    · rename_i p hp
      have hv := opd_rel (C := C) hS.env c
      rw [hp, VRel] at hv
      refine wpIn_cond hv ?_
      cases p with
      | true => exact ihx b hG hro hS hsz hd
      | false => exact ihy b hG hro hS hsz hd
    · cases hG
  | block id c ih =>
    intro b r F K s C a stk res hG hro hS hsz hd
    rw [codeC] at hG
    refine wpIn_block (wpIn_mono (ih id hG hro hS hsz hd) ?_)
    rintro e a' w' ⟨F', e', s', C', hle, rfl, hK, rfl, hS', hsz', hd'⟩
    cases e' with
    | norm => exact ⟨F', .norm, s', C', hle, rfl, hK, rfl, hS', hsz', hd'⟩
    | exit i =>
      simp only [blkK] at hK
      show if i = id then _ else _
      by_cases hi : i = id
      · subst hi
        rw [if_pos rfl]
        rw [Nat.beq_refl] at hK
        exact ⟨F', .norm, s', C', hle, rfl, hK, rfl, hS', hsz', hd'⟩
      · rw [if_neg hi]
        rw [beq_ne hi] at hK
        exact ⟨F', .exit i, s', C', hle, rfl, hK, rfl, hS', hsz', hd'⟩
    | ret => exact ⟨F', .ret, s', C', hle, rfl, hK, rfl, hS', hsz', hd'⟩
    | goto l => exact ⟨F', .goto l, s', C', hle, rfl, hK, rfl, hS', hsz', hd'⟩
  | loop c ih =>
    intro b r F K s C a stk res hG hro hS hsz hd
    rw [codeC] at hG
    exact wp_of_loopWp (loopF_sound (G := (codeC T lo h nt b c).run) (ih b) (hintGo b h) runFuel hG hro hS hsz hd)
  | exit id =>
    intro b r F K s C a stk res hG hro hS hsz hd
    exact wpIn_exit ⟨F, .exit id, s, C, FLe.refl F, rfl, hG, rfl, hS, hsz, hd⟩
  | ret =>
    intro b r F K s C a stk res hG hro hS hsz hd
    exact wpIn_ret ⟨F, .ret, s, C, FLe.refl F, rfl, hG, rfl, hS, hsz, hd⟩
  | label l =>
    intro b r F K s C a stk res hG hro hS hsz hd
    exact wpIn_label ⟨F, .norm, s, C, FLe.refl F, rfl, hG, rfl, hS, hsz, hd⟩
  | rangeFunc g ps as c iha ihc =>
    intro b r F K s C a stk res hG hro hS hsz hd
    rw [codeC] at hG
    dsimp only at hG
    rw [headF_eq, lenF_eq] at hG
    obtain ⟨C', hw, hS'⟩ := head_sound hS (hintGo b h)
    rw [← hw]
    exact csum_rounds (hint := hintOf h) (d := 0) (m := 1) hm hT hL.env (s.head (hintGo b h)).H.length (fun _ => hintGo b h) (hintGo b h) (x := .block (annR T lo.env h nt (s.head (hintGo b h)).H.length b c)) (annR_ok hm hT hL.env h nt _ c b).1 (fun K s res e => ⟨runFuel, e⟩) hG hro hS' hsz hd
  | _ => intro b r F K s C a stk res hG hro hS hsz hd; cases hG

/-! ### Functions -/
noncomputable def funF [BT] (T : Tab) (lo : Lo) (i : RunI) (f : Func) : CF := ⟨f.ntmps, f.results.toList, (codeC T lo i.hints f.ntmps 0 (f.body.getD .skip)).run⟩
/-- As a specification: what it leads to is numbered anew. -/
noncomputable def runQ [BT] (T : Tab) (lo : Lo) (i : RunI) (f : Func) (l : List AV) (H : List Obj) (K : AV → List Obj → Ans) : Ans :=
  (codeC T lo i.hints f.ntmps 0 (f.body.getD .skip)).run (retK T H f.results.toList K) { env := argsEnv 0 l, stk := [rootsT 0 H], H := H, blk := 0 }
noncomputable def runQP [BT] (T : Tab) (lo : Lo) (i : RunI) (f : Func) (l : List AV) (K : AV → Ans) : Ans :=
  match runQ T lo i f l [] (fun v _ => some (v, [])) with
  | some (r, H) => cond (isNil H && r.closed1) (fV r K) none
  | none => none

theorem retK_sum [BT] (hT : TabOk P T) {g : Nat} {fn : Func} {c : Code} (hf : P.funcs[g]? = some fn) (hb : fn.body = some c) {G : (Ex → St → Ans) → St → Ans} (hG : CSum P fn.ntmps c G) {F : Fr} {C : Cx} (hh : HRel C) (hF : FrameOk F C) {args : List AV} {us : Array Value} (hargs : VRels C args us.toList)
    {K : AV → List Obj → Ans} {res : AV × List Obj} (h : G (retK T C.H fn.results.toList K) { env := argsEnv 0 args, stk := [rootsT 0 C.H], H := C.H, blk := 0 } = some res) :
    Calls P g us C.w fun
      | .returned v, w' => ∃ r C', K r C'.H = some res ∧ C'.w = w' ∧ HRel C' ∧ FrameOk F C' ∧ VRel C' r v ∧ (∀ j b, (getH C.H j).isBlk = true → C.ρ j = some b → C'.ρ j = some b ∧ Live C'.H j)
      | _, _ => False := by
  obtain ⟨F1, hF1⟩ : ∃ F1 : Fr, F1 = { F.re C with base := C.w.heap.size } := ⟨_, rfl⟩
  have hF1C : FrameOk F1 C := by rw [hF1]; exact ⟨rfl, rfl, rfl, Nat.le_refl _, fun _ _ _ => rfl, fun _ h => h, fun _ h => .inl h, fun i b hl hb => .inl ⟨i, hl, hb⟩⟩
  have hback : ∀ C', FrameOk F1 C' → FrameOk F C' := fun C' h => (re_le hF).frame C' (by rw [hF1] at h; exact ⟨h.os, h.tape, h.output, h.size, h.keep, h.r0, h.rN, h.own⟩)
  have hb1 : F1.base = C.w.heap.size := by rw [hF1]
  have hw1 : F.w0.heap.size ≤ C.w.heap.size := hF.size
  have hS : SRel F1 C { env := argsEnv 0 args, stk := [rootsT 0 C.H], H := C.H, blk := 0 } (us ++ Array.replicate (fn.ntmps - us.size) undef) [rootVals C] :=
    ⟨rfl, hh, args_env hargs _, by rw [SStk]; exact ⟨_, [], rfl, roots_env hh, by rw [SStk]⟩, hF1C⟩
  refine (callsIn_wide (n := 0)).1 (callsIn_of_wp_marks hf hb trivial (wpIn_mono (hG (r := none) (a := { tmps := us ++ Array.replicate (fn.ntmps - us.size) undef, defers := [] }) h (RndOk.none _) hS (by simp; omega) ⟨by rw [hF1]; exact Nat.le_refl _, trivial⟩) ?_))
  rintro e a' w' ⟨F2, e', s', C0, hle, rfl, hK, rfl, hS0, hsz, hd⟩
  have fin : (match s'.stk with
      | [env] => cond (rootsOk env 0 C.H) (resultsOf T s' fn.results.toList [] fun vs => packV C.H.length (tupled vs) s'.H K) none
      | _ => none) = some res → ∀ W, Priv F2.base C0 W →
      ∃ v, (results fn a'.tmps).run P W = .ok v W ∧ ∃ r C'', K r C''.H = some res ∧ C''.w = W ∧ HRel C'' ∧ FrameOk F C'' ∧ VRel C'' r v ∧ (∀ j b, (getH C.H j).isBlk = true → C.ρ j = some b → C''.ρ j = some b ∧ Live C''.H j) := by
    intro hr W hW
    obtain ⟨C', hC'⟩ : ∃ C', C' = C0.at W := ⟨_, rfl⟩
    have hS' : SRel F C' s' a'.tmps [rootVals C] := by
      rw [hC']
      exact priv_sound (F := F) ⟨hS0.H, hS0.heap, hS0.env, hS0.stk, hback _ (hle.frame _ hS0.frame)⟩ (by rw [hle.base, hb1]; exact hw1) hW
    have hCw : C'.w = W := by rw [hC']; rfl
    rw [← hCw]
    split at hr
    · rename_i env hst
      replace hr := cond_none hr; obtain ⟨hro, hr⟩ := hr
      obtain ⟨rs, v, h1, h2, h3⟩ := results_sound hT hS' hr
      rw [← hS'.H] at h1
      obtain ⟨r', C'', hw'', hh'', hF'', hv'', hK'', hkeep⟩ := packV_sound hS'.heap hS'.frame h3 h1
      refine ⟨v, h2, r', C'', hK'', hw'', hh'', hF'', hv'', ?_⟩
      intro j b hg hbj
      have hl : Live C.H j := isBlk_live hg
      have hlt := live_lt hl
      have hst' := hS'.stk
      rw [hst, SStk] at hst'
      obtain ⟨v', vs', he, henv, _⟩ := hst'
      cases he
      have hv := henv j
      have hroot := rootsOk_spec C.H 0 hro j hg
      rw [Nat.zero_add] at hroot
      rw [hroot, rootVals_get hlt hbj] at hv
      obtain ⟨hb', hlv⟩ := rootAV_back hv
      exact hkeep j hlt b hb' hlv
    · cases hr
  cases e' with
  | norm => exact leaves_marks _ F2 C0 hd.2 hS0.frame (fun W hW => fin hK W hW)
  | ret => exact leaves_marks _ F2 C0 hd.2 hS0.frame (fun W hW => fin hK W hW)
  | exit i => cases hK
  | goto l => cases hK

theorem runQ_ok [BT] (hm : P.follows .mixedOrders = true) (hT : TabOk P T) {lo : Lo} (hL : LoOk P lo) {i : RunI} {f : Func} (hf : P.funcs[i.g]? = some f) (hb : f.body.isSome = true) (hn : f.name ≠ "runtime.NumGoroutine") :
    FuncOk P i.g (runQ T lo i f) :=
  ⟨⟨f, hf, hb, hn⟩, fun C args us K res Fr hh hF hargs h => retK_sum hT hf (bodySome hb) (codeC_sound hm hT hL i.hints f.ntmps _ 0) hh hF hargs h⟩

theorem runQP_ok [BT] (hm : P.follows .mixedOrders = true) (hT : TabOk P T) {lo : Lo} (hL : LoOk P lo) {i : RunI} {f : Func} (hf : P.funcs[i.g]? = some f) (hb : f.body.isSome = true) (hn : f.name ≠ "runtime.NumGoroutine") :
    PureOk P i.g (runQP T lo i f) := by
  refine ⟨⟨f, hf, hb, hn⟩, fun C args us K res hh hH hargs hFp => ?_⟩
  unfold runQP at hFp
  cases hr : runQ T lo i f args [] (fun v _ => some (v, [])) with
  | none => rw [hr] at hFp; cases hFp
  | some p =>
    obtain ⟨r, H⟩ := p
    rw [hr] at hFp
    dsimp only at hFp
    replace hFp := cond_none hFp
    simp only [Bool.and_eq_true] at hFp
    rw [fV_eq] at hFp
    obtain ⟨⟨hnil, hcl⟩, hK⟩ := hFp
    refine ⟨r, concl r, hK, fun C' => (closed1_eq hcl).2 rfl, fun W hW => ?_⟩
    obtain ⟨hh', hat⟩ := at_pure hh hH hW
    have hargs' : VRels (C.at W) args us.toList := hat hargs
    let F : Fr := ⟨W, fun _ => False, C.R, 0⟩
    have hF : FrameOk F (C.at W) := ⟨rfl, rfl, rfl, Nat.le_refl _, fun _ _ _ => rfl, fun _ h => h, fun _ h => .inl h, fun i b hl => by
      exact absurd (by show getH C.H i = .dead; rw [hH]; rfl) hl⟩
    have hn' : runQ T lo i f args (C.at W).H (fun v _ => some (v, [])) = some (r, H) := by
      show runQ T lo i f args C.H _ = _
      rw [hH]; exact hr
    refine ((runQ_ok hm hT hL hf hb hn).2 (C.at W) args us _ _ F hh' hF hargs' hn').mono ?_
    intro e w' hw'
    cases e with
    | returned v =>
      obtain ⟨r', C', hK', rfl, _, hF', hv, _⟩ := hw'
      cases hK'
      refine ⟨by rw [(closed1_eq hcl).1 hv], ⟨hF'.os, hF'.tape, hF'.output, hF'.size, fun k hk => hF'.keep k hk fun h => h⟩⟩
    | panicked ch => exact hw'.elim
    | outgrown => exact hw'.elim

noncomputable def specQ [BT] (P : Program) (T : Tab) (lo : Lo) (i : RunI) : FSpec :=
  match P.funcs[i.g]? with
  | some f => cond i.pure (.pure (runQP T lo i f)) (.func (runQ T lo i f))
  | none => .func fun _ _ _ => none
noncomputable def envQ [BT] (P : Program) (T : Tab) (lo : Lo) : List RunI → Env → Env
  | [], b => b
  | i :: r, b => (i.g, specQ P T lo i) :: envQ P T lo r b
noncomputable def caQ [BT] (P : Program) (T : Tab) (lo : Lo) : List RunI → Nat → Option CF
  | [], _ => none
  | i :: r, g => cond (Nat.beq i.g g) (match P.funcs[i.g]? with
    | some f => some (funF T lo i f)
    | none => none) (caQ P T lo r g)
/-- Functions that are run, calls so deep. -/
noncomputable def loQ [BT] (P : Program) (T : Tab) (base : Env) (L : List RunI) : Nat → Lo
  | 0 => ⟨base, fun _ => none⟩
  | d + 1 => ⟨envQ P T (loQ P T base L d) L base, caQ P T (loQ P T base L d) L⟩

theorem specQ_ok [BT] (hm : P.follows .mixedOrders = true) (hT : TabOk P T) {lo : Lo} (hL : LoOk P lo) {i : RunI} (hi : i.ok P = true) : SpecOk P i.g (specQ P T lo i) := by
  unfold RunI.ok at hi
  unfold specQ
  cases hf : P.funcs[i.g]? with
  | none => rw [hf] at hi; cases hi
  | some f =>
    rw [hf] at hi
    simp only [Bool.and_eq_true, decide_eq_true_eq] at hi
    dsimp only
    cases i.pure with
    | true => exact runQP_ok hm hT hL hf hi.1 hi.2
    | false => exact runQ_ok hm hT hL hf hi.1 hi.2
theorem envQ_ok [BT] (hm : P.follows .mixedOrders = true) (hT : TabOk P T) {lo : Lo} (hL : LoOk P lo) {base : Env} (hB : EnvOk P base) : ∀ {L : List RunI}, L.all (RunI.ok P) = true → EnvOk P (envQ P T lo L base)
  | [], _ => hB
  | i :: r, h => by
    rw [List.all_cons, Bool.and_eq_true] at h
    exact EnvOk.cons (specQ_ok hm hT hL h.1) (envQ_ok hm hT hL hB h.2)
theorem caQ_ok [BT] (hm : P.follows .mixedOrders = true) (hT : TabOk P T) {lo : Lo} (hL : LoOk P lo) : ∀ {L : List RunI}, L.all (RunI.ok P) = true → ∀ g cf, caQ P T lo L g = some cf →
    ∃ fn c, P.funcs[g]? = some fn ∧ fn.body = some c ∧ fn.name ≠ "runtime.NumGoroutine" ∧ cf.nt = fn.ntmps ∧ cf.res = fn.results.toList ∧ CSum P fn.ntmps c cf.run
  | [], _, g, cf, e => by cases e
  | i :: r, h, g, cf, e => by
    rw [List.all_cons, Bool.and_eq_true] at h
    rw [caQ] at e
    cases hb : Nat.beq i.g g with
    | false => rw [hb] at e; exact caQ_ok hm hT hL h.2 g cf e
    | true =>
      obtain rfl := Nat.eq_of_beq_eq_true hb
      rw [hb, cond_true] at e
      have hi := h.1
      unfold RunI.ok at hi
      cases hf : P.funcs[i.g]? with
      | none => rw [hf] at e; cases e
      | some f =>
        rw [hf] at e hi
        cases e
        simp only [Bool.and_eq_true, decide_eq_true_eq] at hi
        exact ⟨f, _, rfl, bodySome hi.1, hi.2, rfl, rfl, codeC_sound hm hT hL i.hints f.ntmps _ 0⟩
theorem loQ_ok [BT] (hm : P.follows .mixedOrders = true) (hT : TabOk P T) {base : Env} (hB : EnvOk P base) {L : List RunI} (hL : L.all (RunI.ok P) = true) : ∀ d, LoOk P (loQ P T base L d)
  | 0 => ⟨hB, fun g cf e => by cases e⟩
  | d + 1 => ⟨envQ_ok hm hT (loQ_ok hm hT hB hL d) hB hL, caQ_ok hm hT (loQ_ok hm hT hB hL d) hL⟩

theorem konstQ [BT] (hm : P.follows .mixedOrders = true) (hT : TabOk P T) {lo : Lo} (hL : LoOk P lo) {i : RunI} {f : Func} (hf : P.funcs[i.g]? = some f) (hb : f.body.isSome = true) (hn : f.name ≠ "runtime.NumGoroutine") {v : AV}
    (hr : ∀ K, runQ T lo i f [] [] K = K v []) : FuncOk P i.g (konst v) := by
  have hC := runQ_ok hm hT hL hf hb hn
  refine ⟨hC.1, fun C args us K res Fr hh hF hargs hFf => hC.2 C args us K res Fr hh hF hargs ?_⟩
  generalize C.H = H0 at hFf ⊢
  unfold konst at hFf
  split at hFf
  · exact (hr K).trans hFf
  · cases hFf
/-- The same of a function that only reads. -/
theorem konstQP [BT] (hm : P.follows .mixedOrders = true) (hT : TabOk P T) {lo : Lo} (hL : LoOk P lo) {i : RunI} {f : Func} (hf : P.funcs[i.g]? = some f) (hb : f.body.isSome = true) (hn : f.name ≠ "runtime.NumGoroutine") {v : AV} (hv : v.closed1 = true)
    {F : List AV → (AV → Ans) → Ans} (hF : ∀ l K res, F l K = some res → l = [] ∧ K v = some res) (hr : ∀ K, runQ T lo i f [] [] K = K v []) : PureOk P i.g F := by
  have hC := runQP_ok hm hT hL hf hb hn
  refine ⟨hC.1, fun C args us K res hh hH hargs hFf => hC.2 C args us K res hh hH hargs ?_⟩
  obtain ⟨rfl, hK⟩ := hF _ _ _ hFf
  unfold runQP
  rw [hr]
  simp only [isNil, hv, Bool.and_self, cond_true, fV_eq]
  exact hK
#print axioms konstQ
#print axioms konstQP
end Go.AE
namespace Go.AE
open Go.Shelf Go.RowKit Go.Proofs

section
variable {P : Program} (w : World)
theorem run_loadBytesI : ∀ (l : List Int) (a : Addr) (acc : ByteArray), (∀ j x, l[j]? = some x → w.cell? (a.add j) = some (.int .u8 x)) →
    (loadBytes a acc l.length).run P w = .ok ⟨acc.data ++ (bytesOf l).toArray⟩ w
  | [], a, acc, _ => by simp [loadBytes, bytesOf]
  | x :: l, a, acc, h => by
    have h0 : w.cell? a = some (.int .u8 x) := by
      have := h 0 x rfl
      simpa [Addr.add] using this
    have ih := run_loadBytesI l (a.add 1) (acc.push x.toNat.toUInt8) (fun j y hy => by
      have := h (j + 1) y (by simpa using hy)
      have e : (a.add 1).add j = a.add (j + 1) := by
        unfold Addr.add
        by_cases hj : j = 0
        · subst hj; simp
        · simp [hj]; omega
      rw [e]; exact this)
    simp only [List.length_cons, loadBytes, Sem.run_bind, run_load, h0, Result.andThen]
    rw [ih]
    congr 1
    apply ByteArray.ext
    simp [ByteArray.push, bytesOf]

theorem run_unsafeString_rowI (pt it ty e : TypeId) (hp : P.underlying pt = some (.pointer e)) (hc : P.cellsOf e = 1) (g cells : Nat) (hsh : w.shape? g = some (e, cells)) (l : List Int) (h0 : l ≠ []) (hn : l.length ≤ cells) (h63 : l.length ≤ 9223372036854775807)
    (hcell : ∀ j x, l[j]? = some x → w.cell? ((⟨g, 0, none⟩ : Addr).add j) = some (.int .u8 x)) :
    (Builtin.unsafeString_ #[pt, it] ty #[.pointer (some ⟨g, 0, none⟩), .int .i64 l.length]).run P w = .ok (.string ⟨(bytesOf l).toArray⟩) (w.freeze ⟨g, 0, none⟩ l.length) := by
  have hl : l.length ≠ 0 := by simpa using h0
  have hlb := run_loadBytesI (P := P) w l ⟨g, 0, none⟩ .empty hcell
  have hlies := Lib.liesAt_bytes (P := P) hc (cells / P.cellsOf e) l.length (by rw [hc]; simpa using hn)
  have h63' : ¬ (9223372036854775807 : Int) < (l.length : Int) := by omega
  have hdef : Builtin.unsafeString_ #[pt, it] ty #[.pointer (some ⟨g, 0, none⟩), .int .i64 l.length] =
      (do
        let n ← Go.asInt (.int .i64 l.length)
        if n < 0 then runtimePanic (.error "unsafe.String: len out of range")
        if n > IntKind.i64.max then unsupported (.unsafePointer "String: a length above the largest int")
        if n = 0 then pure (.string .empty)
        else if ← variablesAt ⟨g, 0, none⟩ (← elemOf pt) n.toNat then do
          let s ← loadBytes ⟨g, 0, none⟩ .empty n.toNat
          freeze ⟨g, 0, none⟩ n.toNat
          pure (.string s)
        else unsupported (.unsafePointer "String: not so many bytes at ptr")) := rfl
  rw [hdef]
  have hmax : IntKind.i64.max = 9223372036854775807 := rfl
  have hneg : ¬ (l.length : Int) < 0 := by omega
  simp [Go.asInt, asIntOf, hmax, h63', hneg, hl, variablesAt, hsh, elemOf, run_underlying hp, hlies, hlb]
end

section
variable {P : Program} {ρ : Ren}
set_option maxHeartbeats 1000000 in
set_option maxRecDepth 100000 in
theorem bld_String_row (L : Lays.n169 P ρ) (X : Builder.Extra P ρ) (b g cap : Nat) (p : Value) (cur : Array Value) (T : TypeId) (fr : Nat × Nat) (l : List Int) (w : World) (h0 : l ≠ []) (hc0 : cap ≠ 0) (hle : l.length ≤ cur.size) (h63 : l.length ≤ 9223372036854775807)
    (hbk : w.heap[b]? = some (.cells #[p, .slice (some ⟨g, 0, none⟩) l.length cap] T (0, 0))) (hg : w.heap[g]? = some (.cells cur (ρ.t 5) fr)) (hcell : ∀ (j : Nat) (x : Int), l[j]? = some x → cur[j]? = some (Value.int .u8 x)) :
    Calls P (ρ.f 169) #[.pointer (some ⟨b, 0, none⟩)] w fun e w' => e = .returned (.string ⟨(bytesOf l).toArray⟩) ∧ w' = w.drew.freeze ⟨g, 0, none⟩ l.length := by
  have c1 : w.drew.cell? ⟨b, 1, none⟩ = some (.slice (some ⟨g, 0, none⟩) l.length cap) := by
    have : w.drew.heap[b]? = some (.cells #[p, .slice (some ⟨g, 0, none⟩) l.length cap] T (0, 0)) := hbk
    rw [Lib.cell_of_heap this]; rfl
  have hSD : (Builtin.unsafeSliceData_ #[(ρ.t 37)] (ρ.t 127) #[.slice (some ⟨g, 0, none⟩) l.length cap]).run P w.drew = .ok (.pointer (some ⟨g, 0, none⟩)) w.drew :=
    Lib.run_unsafeSliceData_row _ _ _ _ _ _ hc0
  have hUS : (Builtin.unsafeString_ #[(ρ.t 127), (ρ.t 3)] (ρ.t 9) #[.pointer (some ⟨g, 0, none⟩), .int .i64 l.length]).run P w.drew = .ok (.string ⟨(bytesOf l).toArray⟩) (w.drew.freeze ⟨g, 0, none⟩ l.length) := by
    have hg' : w.drew.heap[g]? = some (.cells cur (ρ.t 5) fr) := hg
    refine run_unsafeString_rowI w.drew (ρ.t 127) (ρ.t 3) (ρ.t 9) (ρ.t 5) L.t127 X.cellsByte g cur.size (by simp [World.shape?, hg']) l h0 hle h63 ?_
    intro j x hx
    have : (⟨g, 0, none⟩ : Addr).add j = ⟨g, j, none⟩ := by
      unfold Addr.add
      by_cases hj : j = 0
      · subst hj; simp
      · simp [hj]
    rw [this, Lib.cell_of_heap hg']
    exact hcell j x hx
  have mixed := L.mixed
  have t72 := L.t72; have a72 := L.a72; have z72 := L.z72; have v72 := L.v72; have u72 := run_underlying L.t72
  have t70 := L.t70; have a70 := L.a70; have z70 := L.z70; have v70 := L.v70; have u70 := run_underlying L.t70
  have t37 := L.t37; have a37 := L.a37; have z37 := L.z37; have v37 := L.v37; have u37 := run_underlying L.t37
  have t127 := L.t127; have a127 := L.a127; have z127 := L.z127; have v127 := L.v127; have u127 := run_underlying L.t127
  have t3 := L.t3; have a3 := L.a3; have z3 := L.z3; have v3 := L.v3; have u3 := run_underlying L.t3
  have t9 := L.t9; have a9 := L.a9; have z9 := L.z9; have v9 := L.v9; have u9 := run_underlying L.t9
  have t5 := X.t5; have a5 := X.a5; have z5 := X.z5; have v5 := X.v5; have u5 := run_underlying X.t5
  go_enter L.f169, Body.n169_ntmps ρ
  go_wp2
  go_region_o
  all_goals (go_wp2; go_ret; exact ⟨rfl, rfl⟩)

/-- .. of a builder without a byte. -/
theorem bld_unsafeString_none (W : World) (q : Option Addr) : (Builtin.unsafeString_ #[(ρ.t 127), (ρ.t 3)] (ρ.t 9) #[.pointer q, .int .i64 0]).run P W = .ok (.string .empty) W :=
  Lib.run_unsafeString_none W _ _ _ q

set_option maxHeartbeats 2000000 in
set_option maxRecDepth 100000 in
theorem bld_String_nil (L : Lays.n169 P ρ) (X : Builder.Extra P ρ) (b : Nat) (p : Value) (T : TypeId) (w : World) (hbk : w.heap[b]? = some (.cells #[p, .slice none 0 0] T (0, 0))) :
    Calls P (ρ.f 169) #[.pointer (some ⟨b, 0, none⟩)] w fun e w' => e = .returned (.string ⟨#[]⟩) ∧ w' = w.drew := by
  have hUS := bld_unsafeString_none (P := P) (ρ := ρ)
  have c1 : w.drew.cell? ⟨b, 1, none⟩ = some (.slice none 0 0) := by
    have : w.drew.heap[b]? = some (.cells #[p, .slice none 0 0] T (0, 0)) := hbk
    rw [Lib.cell_of_heap this]; rfl
  have hSD : (Builtin.unsafeSliceData_ #[(ρ.t 37)] (ρ.t 127) #[.slice none 0 0]).run P w.drew = .ok (.pointer none) w.drew := rfl
  have mixed := L.mixed
  have t72 := L.t72; have a72 := L.a72; have z72 := L.z72; have v72 := L.v72; have u72 := run_underlying L.t72
  have t70 := L.t70; have a70 := L.a70; have z70 := L.z70; have v70 := L.v70; have u70 := run_underlying L.t70
  have t37 := L.t37; have a37 := L.a37; have z37 := L.z37; have v37 := L.v37; have u37 := run_underlying L.t37
  have t127 := L.t127; have a127 := L.a127; have z127 := L.z127; have v127 := L.v127; have u127 := run_underlying L.t127
  have t3 := L.t3; have a3 := L.a3; have z3 := L.z3; have v3 := L.v3; have u3 := run_underlying L.t3
  have t9 := L.t9; have a9 := L.a9; have z9 := L.z9; have v9 := L.v9; have u9 := run_underlying L.t9
  have t5 := X.t5; have a5 := X.a5; have z5 := X.z5; have v5 := X.v5; have u5 := run_underlying X.t5
  go_enter L.f169, Body.n169_ntmps ρ
  go_wp2
  go_region_o
  all_goals (go_wp2; go_ret; exact ⟨rfl, rfl⟩)

set_option maxHeartbeats 2000000 in
set_option maxRecDepth 100000 in
theorem bld_String_room (L : Lays.n169 P ρ) (X : Builder.Extra P ρ) (b g cap : Nat) (p : Value) (T : TypeId) (w : World) (hc0 : cap ≠ 0) (hbk : w.heap[b]? = some (.cells #[p, .slice (some ⟨g, 0, none⟩) 0 cap] T (0, 0))) :
    Calls P (ρ.f 169) #[.pointer (some ⟨b, 0, none⟩)] w fun e w' => e = .returned (.string ⟨#[]⟩) ∧ w' = w.drew := by
  have hUS := bld_unsafeString_none (P := P) (ρ := ρ)
  have c1 : w.drew.cell? ⟨b, 1, none⟩ = some (.slice (some ⟨g, 0, none⟩) 0 cap) := by
    have : w.drew.heap[b]? = some (.cells #[p, .slice (some ⟨g, 0, none⟩) 0 cap] T (0, 0)) := hbk
    rw [Lib.cell_of_heap this]; rfl
  have hSD : (Builtin.unsafeSliceData_ #[(ρ.t 37)] (ρ.t 127) #[.slice (some ⟨g, 0, none⟩) 0 cap]).run P w.drew = .ok (.pointer (some ⟨g, 0, none⟩)) w.drew :=
    Lib.run_unsafeSliceData_row _ _ _ _ _ _ hc0
  clear hc0
  have mixed := L.mixed
  have t72 := L.t72; have a72 := L.a72; have z72 := L.z72; have v72 := L.v72; have u72 := run_underlying L.t72
  have t70 := L.t70; have a70 := L.a70; have z70 := L.z70; have v70 := L.v70; have u70 := run_underlying L.t70
  have t37 := L.t37; have a37 := L.a37; have z37 := L.z37; have v37 := L.v37; have u37 := run_underlying L.t37
  have t127 := L.t127; have a127 := L.a127; have z127 := L.z127; have v127 := L.v127; have u127 := run_underlying L.t127
  have t3 := L.t3; have a3 := L.a3; have z3 := L.z3; have v3 := L.v3; have u3 := run_underlying L.t3
  have t9 := L.t9; have a9 := L.a9; have z9 := L.z9; have v9 := L.v9; have u9 := run_underlying L.t9
  have t5 := X.t5; have a5 := X.a5; have z5 := X.z5; have v5 := X.v5; have u5 := run_underlying X.t5
  go_enter L.f169, Body.n169_ntmps ρ
  go_wp2
  go_region_o
  all_goals (go_wp2; go_ret; exact ⟨rfl, rfl⟩)

set_option maxHeartbeats 2000000 in
set_option maxRecDepth 100000 in
theorem bld_String_noroom (L : Lays.n169 P ρ) (X : Builder.Extra P ρ) (b g : Nat) (p : Value) (T : TypeId) (cur : Array Value) (fr : Nat × Nat) (w : World) (hbk : w.heap[b]? = some (.cells #[p, .slice (some ⟨g, 0, none⟩) 0 0] T (0, 0))) (hg : w.heap[g]? = some (.cells cur (ρ.t 5) fr)) :
    Calls P (ρ.f 169) #[.pointer (some ⟨b, 0, none⟩)] w fun e w' => e = .returned (.string ⟨#[]⟩) ∧ (w' = w.drew.alloc (.view ⟨g, 0, none⟩ (ρ.t 5)) ∨ w' = (w.alloc (.view ⟨g, 0, none⟩ (ρ.t 5))).drew) := by
  have hUS := bld_unsafeString_none (P := P) (ρ := ρ)
  have hlt : b < w.heap.size := by
    rcases Nat.lt_or_ge b w.heap.size with h' | h'
    · exact h'
    · simp [Array.getElem?_eq_none h'] at hbk
  have c1 : w.drew.cell? ⟨b, 1, none⟩ = some (.slice (some ⟨g, 0, none⟩) 0 0) := by
    have : w.drew.heap[b]? = some (.cells #[p, .slice (some ⟨g, 0, none⟩) 0 0] T (0, 0)) := hbk
    rw [Lib.cell_of_heap this]; rfl
  have hSD : (Builtin.unsafeSliceData_ #[(ρ.t 37)] (ρ.t 127) #[.slice (some ⟨g, 0, none⟩) 0 0]).run P w.drew = .ok (.pointer (some ⟨w.drew.heap.size, 0, none⟩)) (w.drew.alloc (.view ⟨g, 0, none⟩ (ρ.t 5))) :=
    Lib.run_unsafeSliceData_zero w.drew _ _ (ρ.t 5) L.t127 ⟨g, 0, none⟩ 0 ((ρ.t 5), cur.size) (by have hg' : w.drew.heap[g]? = some (.cells cur (ρ.t 5) fr) := hg; simp [World.shape?, hg'])
  have c2 : (w.drew.alloc (.view ⟨g, 0, none⟩ (ρ.t 5))).cell? ⟨b, 1, none⟩ = some (.slice (some ⟨g, 0, none⟩) 0 0) := by
    have : (w.drew.alloc (.view ⟨g, 0, none⟩ (ρ.t 5))).heap[b]? = _ := (Lib.alloc_old w.drew _ b hlt).trans hbk
    rw [Lib.cell_of_heap this]; rfl
  have c3 : (w.alloc (.view ⟨g, 0, none⟩ (ρ.t 5))).drew.cell? ⟨b, 1, none⟩ = some (.slice (some ⟨g, 0, none⟩) 0 0) := c2
  have c0 : w.cell? ⟨b, 1, none⟩ = some (.slice (some ⟨g, 0, none⟩) 0 0) := c1
  have mixed := L.mixed
  have t72 := L.t72; have a72 := L.a72; have z72 := L.z72; have v72 := L.v72; have u72 := run_underlying L.t72
  have t70 := L.t70; have a70 := L.a70; have z70 := L.z70; have v70 := L.v70; have u70 := run_underlying L.t70
  have t37 := L.t37; have a37 := L.a37; have z37 := L.z37; have v37 := L.v37; have u37 := run_underlying L.t37
  have t127 := L.t127; have a127 := L.a127; have z127 := L.z127; have v127 := L.v127; have u127 := run_underlying L.t127
  have t3 := L.t3; have a3 := L.a3; have z3 := L.z3; have v3 := L.v3; have u3 := run_underlying L.t3
  have t9 := L.t9; have a9 := L.a9; have z9 := L.z9; have v9 := L.v9; have u9 := run_underlying L.t9
  have t5 := X.t5; have a5 := X.a5; have z5 := X.z5; have v5 := X.v5; have u5 := run_underlying X.t5
  go_enter L.f169, Body.n169_ntmps ρ
  go_wp2
  go_region_o
  all_goals (go_wp2; go_ret; first | exact ⟨rfl, .inl rfl⟩ | exact ⟨rfl, .inr rfl⟩)

/-! ### As AE's specifications -/
theorem vrels0 {C : Cx} {l : List Value} (h : VRels C [] l) : l = [] := by rw [VRels] at h; exact h
def decBld (l : List AV) (H : List AE.Obj) : Option (List Int) := match l, H with
  | [AV.ptr 0 0], [AE.Obj.bcells [AV.own 1], AE.Obj.arr (Ty.int IntKind.u8) o1] => some o1
  | _, _ => none
theorem decBld_ok {l : List AV} {H : List AE.Obj} {a : List Int} (h : decBld l H = some a) : l = [.ptr 0 0] ∧ H = [.bcells [.own 1], .arr (.int .u8) a] := by
  unfold decBld at h
  split at h
  · cases h; exact ⟨rfl, rfl⟩
  · cases h
abbrev ABuilder_copyCheck := List Int
abbrev YBuilder_copyCheck := List Int
def decABuilder_copyCheck (l : List AV) (H : List AE.Obj) : Option ABuilder_copyCheck := decBld l H
def fnDBuilder_copyCheck (a : ABuilder_copyCheck) : Option YBuilder_copyCheck := some a
def outBuilder_copyCheck : ABuilder_copyCheck → (AV → List AE.Obj → Ans) → YBuilder_copyCheck → Ans := fun _ K y => K (.tup []) [.bcells [.own 1], .arr (.int .u8) y]
def vFBuilder_copyCheck (a : ABuilder_copyCheck) (K : AV → List AE.Obj → Ans) : Ans := bindO (fnDBuilder_copyCheck a) fun y => outBuilder_copyCheck a K y
def FBuilder_copyCheck : List AV → List AE.Obj → (AV → List AE.Obj → Ans) → Ans := fun l H K => bindO (decABuilder_copyCheck l H) fun a => vFBuilder_copyCheck a K
abbrev ABuilder_String := List Int
abbrev YBuilder_String := List UInt8 × List Int
def decABuilder_String (l : List AV) (H : List AE.Obj) : Option ABuilder_String := decBld l H
def fnDBuilder_String (a : ABuilder_String) : Option YBuilder_String := cond (Nat.ble a.length 9223372036854775807) (some (bytesOf a, a)) none
def outBuilder_String : ABuilder_String → (AV → List AE.Obj → Ans) → YBuilder_String → Ans := fun _ K => unP fun r o => K (.str r) [.btold o, .dead]
def vFBuilder_String (a : ABuilder_String) (K : AV → List AE.Obj → Ans) : Ans := bindO (fnDBuilder_String a) fun y => outBuilder_String a K y
def FBuilder_String : List AV → List AE.Obj → (AV → List AE.Obj → Ans) → Ans := fun l H K => bindO (decABuilder_String l H) fun a => vFBuilder_String a K

theorem bld_args [BT] {C : Cx} (hh : HRel C) {us : Array Value} {a : List Int} (hH : C.H = [.bcells [.own 1], .arr (.int .u8) a]) (hargs : VRels C [.ptr 0 0] us.toList) :
    ∃ b v0 u, us = #[.pointer (some ⟨b, 0, none⟩)] ∧ C.ρ 0 = some b ∧ C.w.heap[b]? = some (.cells #[v0, u] BT.bld (0, 0)) ∧ VRel C (.own 1) u ∧ (∀ x ∈ (#[v0, u] : Array Value).toList, x.oneCell' = true) ∧ (v0 = .pointer none ∨ v0 = .pointer (some ⟨b, 0, none⟩)) := by
  obtain ⟨v, hl, h1⟩ := vrels1 hargs
  rw [VRel] at h1
  obtain ⟨b, hb, rfl, _⟩ := h1
  obtain ⟨b', c, v0, hb', hw, ⟨vs, hc, hv⟩, hone, hv0⟩ := obj_bcells (cs := [.own 1]) (i := 0) hh (by rw [hH]; rfl)
  obtain rfl : b = b' := Option.some.inj (hb.symm.trans hb')
  obtain ⟨u, rfl, hu⟩ := vrels1 hv
  obtain rfl : c = #[v0, u] := arr_of_list hc
  exact ⟨b, v0, u, arr_of_list hl, hb, hw, hu, hone, hv0⟩

theorem FBuilder_copyCheck_of [BT] (L : Lays.n240 P ρ) (X : Builder.X72 P ρ) (h72 : ρ.t 72 = BT.bld) (he : Entered P (ρ.f 240)) : FuncOk P (ρ.f 240) FBuilder_copyCheck := by
  refine ⟨he, fun C args us K res Fr hh hF hargs hFf => ?_⟩
  obtain ⟨a, ha, hF1⟩ := bindO_some' hFf
  clear hFf
  obtain ⟨rfl, hH⟩ := decBld_ok ha
  have hK : K (.tup []) C.H = some res := by rw [hH]; exact hF1
  obtain ⟨b, v0, u, rfl, hb, hw, hu, hone, hv0⟩ := bld_args hh hH hargs
  rcases hv0 with rfl | rfl
  · refine (Any.Builder_copyCheck_fresh L X b C.w (Lib.cell_of_heap hw 0) (by simp [World.shape?, hw, h72]) (Lib.frozen_of_heap hw 0)).mono ?_
    rintro e w' ⟨rfl, rfl⟩
    have hg : getH C.H 0 = .bcells [.own 1] := by rw [hH]; rfl
    have hsame : setH C.H 0 (.bcells [.own 1]) = C.H := by rw [hH]; rfl
    have htn : World.Turned C.w (C.w.setCell ⟨b, 0, none⟩ (.pointer (some ⟨b, 0, none⟩))) b #[.pointer (some ⟨b, 0, none⟩), u] := by
      refine ⟨rfl, rfl, rfl, by simp [World.setCell], fun k hk => setCell_heap_other hk _, fun c e fr h => ?_⟩
      rw [hw] at h
      cases h
      exact ⟨(setCell_heap_same hw _).trans rfl, rfl⟩
    have hS : SRel Fr C ⟨[], [], C.H, 0⟩ #[] [] := ⟨rfl, hh, fun t => by rw [getT_nil, VRel]; trivial, by rw [SStk], hF⟩
    have hsh : SameShape (.bcells [.own 1]) (.bcells [.own 1]) := .bcells _ _
    have hln : Live C.H 0 := by unfold Live; rw [hg]; simp
    have hup := upd_sound (C := C) (n := 0) (o' := .bcells [.own 1]) hS hg hb hsh htn (by
      refine ⟨b, _, .pointer (some ⟨b, 0, none⟩), rfl, (setCell_heap_same hw _).trans rfl, ⟨[u], rfl, ?_⟩, ?_, .inr rfl⟩
      · have : VRels C [.own 1] [u] := by rw [VRels]; exact ⟨u, [], rfl, hu, by rw [VRels]⟩
        exact VRels.mono (upd_ref hg hsh htn C.R) (turned_R hS hln hb htn) this
      · intro x hx
        simp at hx
        rcases hx with rfl | rfl
        · rfl
        · exact hone x (by simp))
    refine ⟨.tup [], _, ?_, rfl, hup.heap, hup.frame, ?_, fun j b' hj hbj => ⟨hbj, ?_⟩⟩
    · show K (.tup []) (setH C.H 0 (.bcells [.own 1])) = some res
      rw [hsame]; exact hK
    · rw [VRel]; exact ⟨#[], rfl, by rw [VRels]⟩
    · show Live (setH C.H 0 (.bcells [.own 1])) j
      rw [hsame]; exact isBlk_live hj
  · refine (Any.Builder_copyCheck_used L X b C.w (Lib.cell_of_heap hw 0)).mono ?_
    rintro e w' ⟨rfl, rfl⟩
    exact ⟨.tup [], C, hK, rfl, hh, hF, by rw [VRel]; exact ⟨#[], rfl, by rw [VRels]⟩, fun j b' hj hbj => ⟨hbj, isBlk_live hj⟩⟩

/-- The row of a builder whose bytes are told is read only. -/
theorem bld_after [BT] {Fr : Fr} {C : Cx} (hh : HRel C) (hF : FrameOk Fr C) {a : List Int} (hH : C.H = [.bcells [.own 1], .arr (.int .u8) a]) {b : Nat} {v0 v : Value} (hb : C.ρ 0 = some b) (hw0 : C.w.heap[b]? = some (.cells #[v0, v] BT.bld (0, 0)))
    (hone : ∀ x ∈ (#[v0, v] : Array Value).toList, x.oneCell' = true) (hv0 : v0 = .pointer none ∨ v0 = .pointer (some ⟨b, 0, none⟩)) {w' : World} (hos : w'.os = C.w.os) (htape : w'.tape = C.w.tape) (hout : w'.output = C.w.output)
    (hsz : C.w.heap.size ≤ w'.heap.size) (hkeep : ∀ k, k < C.w.heap.size → C.ρ 1 ≠ some k → w'.heap[k]? = C.w.heap[k]?)
    (hv : (a = [] ∧ v = .slice none 0 0 ∧ C.ρ 1 = none) ∨ ∃ g cap cur fr, v = .slice (some ⟨g, 0, none⟩) a.length cap ∧ a.length ≤ cap ∧ C.ρ 1 = some g ∧ w'.heap[g]? = some (.cells cur BT.byte fr) ∧ (a = [] ∨ fr.1 = 0 ∧ fr.2 ≠ 0 ∧ a.length ≤ fr.2) ∧ a.length ≤ cur.size ∧ ∀ (j : Nat) (x : Int), a[j]? = some x → cur[j]? = some (Value.int .u8 x)) :
    HRel ⟨fun k => C.R k ∨ C.ρ 1 = some k, C.ρ, [.btold a, .dead], w'⟩ ∧ FrameOk Fr ⟨fun k => C.R k ∨ C.ρ 1 = some k, C.ρ, [.btold a, .dead], w'⟩ := by
  have hg0 : getH C.H 0 = .bcells [.own 1] := by rw [hH]; rfl
  have hg1 : getH C.H 1 = .arr (.int .u8) a := by rw [hH]; rfl
  have hl0 : Live C.H 0 := by unfold Live; rw [hg0]; simp
  have hl1 : Live C.H 1 := by unfold Live; rw [hg1]; simp
  have hdead : ∀ i, i ≠ 0 → getH [AE.Obj.btold a, .dead] i = .dead := by
    intro i hi
    match i, hi with
    | 1, _ => rfl
    | i + 2, _ => rfl
  have hlv : ∀ i, Live [AE.Obj.btold a, .dead] i → i = 0 := fun i h => Classical.byContradiction fun e => h (hdead i e)
  have hne : ∀ k, C.ρ 1 = some k → k ≠ b := fun k h e => absurd (hh.inj 0 1 b hl0 hl1 hb (e ▸ h)) (by decide)
  refine ⟨⟨fun i => ?_, fun i j b hi hj _ _ => (hlv i hi).trans (hlv j hj).symm, fun i b' hi hb' => ?_, fun k hk => ?_⟩,
    ⟨hos.trans hF.os, htape.trans hF.tape, hout.trans hF.output, Nat.le_trans hF.size hsz, fun k hk hno => ?_, fun k hk => .inl (hF.r0 k hk), fun k hk => ?_, fun i b hi hb => by rw [hlv i hi] at hb; exact hF.own 0 b hl0 hb⟩⟩
  · by_cases hi : i = 0
    · subst hi
      refine ⟨b, v0, v, hb, (hkeep b (hh.blk_lt hl0 hb) fun e => hne b e rfl).trans hw0, hone, hv0, ?_⟩
      rcases hv with ⟨h1, h2, _⟩ | ⟨g, cap, cur, fr, h1, h2, h3, h4, h5⟩
      · exact .inl ⟨h1, h2⟩
      · exact .inr ⟨g, cap, cur, fr, h1, h2, .inr h3, h4, h5⟩
    · show ORel _ (getH [AE.Obj.btold a, .dead] i) _
      rw [hdead i hi]; trivial
  · rw [hlv i hi] at hb'
    rintro (h | h)
    · exact hh.ro 0 b' hl0 hb' h
    · exact hne b' h (Option.some.inj (hb'.symm.trans hb))
  · rcases hk with hk | hk
    · exact Nat.lt_of_lt_of_le (hh.rlt k hk) hsz
    · exact Nat.lt_of_lt_of_le (hh.blk_lt hl1 hk) hsz
  · refine (hkeep k (Nat.lt_of_lt_of_le hk hF.size) fun e => ?_).trans (hF.keep k hk hno)
    rcases hF.own 1 k hl1 e with h | h
    · exact hno h
    · omega
  · rcases hk with hk | hk
    · exact hF.rN k hk
    · exact .inr (hF.own 1 k hl1 hk)

theorem FBuilder_String_of [BT] (L : Lays.n169 P ρ) (X : Builder.Extra P ρ) (h5 : ρ.t 5 = BT.byte) (he : Entered P (ρ.f 169)) : FuncOk P (ρ.f 169) FBuilder_String := by
  refine ⟨he, fun C args us K res Fr hh hF hargs hFf => ?_⟩
  obtain ⟨a, ha, hF1⟩ := bindO_some' hFf
  clear hFf
  obtain ⟨rfl, hH⟩ := decBld_ok ha
  obtain ⟨y, hy, hFf⟩ := bindO_some' hF1
  clear hF1
  unfold fnDBuilder_String at hy
  obtain ⟨h63, hy⟩ := cond_noneO hy
  have h63 := Nat.le_of_ble_eq_true h63
  cases hy
  obtain ⟨b, v0, u, rfl, hb, hw, hu, hone, hv0⟩ := bld_args hh hH hargs
  have hg0 : getH C.H 0 = .bcells [.own 1] := by rw [hH]; rfl
  have hl0 : Live C.H 0 := by unfold Live; rw [hg0]; simp
  have hg1 : getH C.H 1 = .arr (.int .u8) a := by rw [hH]; rfl
  have hl1 : Live C.H 1 := by unfold Live; rw [hg1]; simp
  have fin : ∀ (s : List UInt8) (w' : World), s = bytesOf a → w'.os = C.w.os → w'.tape = C.w.tape → w'.output = C.w.output → C.w.heap.size ≤ w'.heap.size → (∀ k, k < C.w.heap.size → C.ρ 1 ≠ some k → w'.heap[k]? = C.w.heap[k]?) →
      ((a = [] ∧ u = .slice none 0 0 ∧ C.ρ 1 = none) ∨ ∃ g cap cur fr, u = .slice (some ⟨g, 0, none⟩) a.length cap ∧ a.length ≤ cap ∧ C.ρ 1 = some g ∧ w'.heap[g]? = some (.cells cur BT.byte fr) ∧ (a = [] ∨ fr.1 = 0 ∧ fr.2 ≠ 0 ∧ a.length ≤ fr.2) ∧ a.length ≤ cur.size ∧ ∀ (j : Nat) (x : Int), a[j]? = some x → cur[j]? = some (Value.int .u8 x)) →
      ∃ r C', K r C'.H = some res ∧ C'.w = w' ∧ HRel C' ∧ FrameOk Fr C' ∧ VRel C' r (.string ⟨s.toArray⟩) ∧ (∀ j b, (getH C.H j).isBlk = true → C.ρ j = some b → C'.ρ j = some b ∧ Live C'.H j) := by
    rintro s w' rfl h1 h2 h3 h4 h5 h6
    obtain ⟨g1, g2⟩ := bld_after hh hF hH hb hw hone hv0 h1 h2 h3 h4 h5 h6
    refine ⟨.str (bytesOf a), ⟨fun k => C.R k ∨ C.ρ 1 = some k, C.ρ, [.btold a, .dead], w'⟩, hFf, rfl, g1, g2, by rw [VRel], fun j b' hj hbj => ⟨hbj, ?_⟩⟩
    have : j = 0 := by
      rw [hH] at hj
      match j, hj with
      | 0, _ => rfl
      | 1, hj => cases hj
      | j + 2, hj => cases hj
    subst this
    exact fun e => by cases e
  rw [VRel] at hu
  obtain ⟨t, l, hg, hu⟩ := hu
  rw [hg1] at hg
  cases hg
  rcases hu with ⟨hρ0, rfl, rfl⟩ | ⟨g, c, cap, hρ, hc, hcap, hcs, rfl⟩
  · refine (bld_String_nil L X b v0 BT.bld C.w hw).mono ?_
    rintro e w' ⟨rfl, rfl⟩
    exact fin [] _ rfl rfl rfl rfl (Nat.le_refl _) (fun k _ _ => rfl) (.inl ⟨rfl, rfl, hρ0⟩)
  · obtain ⟨b', c', e', fr, hb', hw', hfr, hl, hel, hby⟩ : ∃ b c e fr, C.ρ 1 = some b ∧ C.w.heap[b]? = some (.cells c e fr) ∧ Free fr c.size ∧ a.length * 1 ≤ c.size ∧
        (∀ (k : Nat) (x : Int), a[k]? = some x → ∃ us, DRel C.R C.w (.int .u8) x us ∧ ∀ j u, us[j]? = some u → c[k * 1 + j]? = some u) ∧ (Ty.int .u8 = .int .u8 → e = BT.byte) := by
      rcases obj_arrB hh hg1 with ⟨h, _⟩ | h
      · rw [hρ] at h; cases h
      · exact h
    obtain rfl : g = b' := Option.some.inj (hρ.symm.trans hb')
    obtain rfl : c' = c := by rw [blkOf_cells hw'] at hc; exact Option.some.inj hc
    obtain rfl : e' = BT.byte := hby rfl
    have hcell : ∀ (j : Nat) (x : Int), a[j]? = some x → c'[j]? = some (Value.int .u8 x) := by
      intro j x hx
      obtain ⟨us, hd, hu⟩ := hel j x hx
      rw [DRel] at hd
      subst hd
      have := hu 0 _ rfl
      simpa using this
    have hwB := hw'
    rw [← h5] at hw'
    by_cases hc0 : cap = 0
    · subst hc0
      obtain rfl : a = [] := List.eq_nil_of_length_eq_zero (by omega)
      refine (bld_String_noroom L X b g v0 BT.bld c' fr C.w hw hw').mono ?_
      have hlt := hh.blk_lt hl1 hρ
      rintro e w' ⟨rfl, rfl | rfl⟩
      · exact fin [] _ rfl rfl rfl rfl (by show C.w.heap.size ≤ (C.w.heap.push _).size; rw [Array.size_push]; omega) (fun k hk _ => by
          show (C.w.drew.alloc _).heap[k]? = _
          exact Lib.alloc_old C.w.drew _ k hk) (.inr ⟨g, 0, c', fr, rfl, Nat.le_refl _, hρ, (Lib.alloc_old C.w.drew _ g hlt).trans hwB, .inl rfl, Nat.zero_le _, fun j x hx => by cases hx⟩)
      · exact fin [] _ rfl rfl rfl rfl (by show C.w.heap.size ≤ (C.w.heap.push _).size; rw [Array.size_push]; omega) (fun k hk _ => by
          show (C.w.alloc _).heap[k]? = _
          exact Lib.alloc_old C.w _ k hk) (.inr ⟨g, 0, c', fr, rfl, Nat.le_refl _, hρ, (Lib.alloc_old C.w _ g hlt).trans hwB, .inl rfl, Nat.zero_le _, fun j x hx => by cases hx⟩)
    · by_cases h0 : a = []
      · subst h0
        refine (bld_String_room L X b g cap v0 BT.bld C.w hc0 hw).mono ?_
        rintro e w' ⟨rfl, rfl⟩
        exact fin [] _ rfl rfl rfl rfl (Nat.le_refl _) (fun k _ _ => rfl) (.inr ⟨g, cap, c', fr, rfl, hcap, hρ, hwB, .inl rfl, Nat.zero_le _, fun j x hx => by cases hx⟩)
      · refine (bld_String_row L X b g cap v0 c' BT.bld fr a C.w h0 hc0 (by omega) h63 hw hw' hcell).mono ?_
        rintro e w' ⟨rfl, rfl⟩
        have hn : a.length ≠ 0 := by simpa using h0
        have hfz : (C.w.drew.freeze ⟨g, 0, none⟩ a.length).heap[g]? = some (.cells c' BT.byte (if fr.1 == fr.2 then (0, 0 + a.length) else (min fr.1 0, max fr.2 (0 + a.length)))) := by
          unfold World.freeze; rw [if_neg hn]
          show (Array.modify C.w.heap _ _)[g]? = _
          rw [Array.getElem?_modify, if_pos rfl, hwB]
          rfl
        refine fin _ _ rfl ?_ ?_ ?_ ?_ ?_ (.inr ⟨g, cap, c', _, rfl, hcap, hρ, hfz, .inr ?_, by omega, hcell⟩)
        · unfold World.freeze; rw [if_neg hn]; rfl
        · unfold World.freeze; rw [if_neg hn]; rfl
        · unfold World.freeze; rw [if_neg hn]; rfl
        · unfold World.freeze; rw [if_neg hn]; show C.w.heap.size ≤ (Array.modify C.w.heap _ _).size; rw [Array.size_modify]; exact Nat.le_refl _
        · intro k hk hne
          have hkg : g ≠ k := fun e => hne (e ▸ hρ)
          unfold World.freeze; rw [if_neg hn]
          show (Array.modify _ _ _)[k]? = _
          rw [Array.getElem?_modify, if_neg hkg]; rfl
        · split
          · refine ⟨rfl, ?_, ?_⟩
            · show 0 + a.length ≠ 0; omega
            · show a.length ≤ 0 + a.length; omega
          · refine ⟨?_, ?_, ?_⟩
            · show min fr.1 0 = 0; omega
            · show max fr.2 (0 + a.length) ≠ 0; omega
            · show a.length ≤ max fr.2 (0 + a.length); omega

/-! ### String, once more -/
abbrev ABuilder_StringAgain := List Int
abbrev YBuilder_StringAgain := List UInt8 × List Int
def decABuilder_StringAgain (l : List AV) (H : List AE.Obj) : Option ABuilder_StringAgain := match l, H with
  | [AV.ptr 0 0], [AE.Obj.btold a] => some a
  | _, _ => none
def fnDBuilder_StringAgain (a : ABuilder_StringAgain) : Option YBuilder_StringAgain := cond (Nat.ble a.length 9223372036854775807) (some (bytesOf a, a)) none
def outBuilder_StringAgain : ABuilder_StringAgain → (AV → List AE.Obj → Ans) → YBuilder_StringAgain → Ans := fun _ K => unP fun r o => K (.str r) [.btold o]
def vFBuilder_StringAgain (a : ABuilder_StringAgain) (K : AV → List AE.Obj → Ans) : Ans := bindO (fnDBuilder_StringAgain a) fun y => outBuilder_StringAgain a K y
def FBuilder_StringAgain : List AV → List AE.Obj → (AV → List AE.Obj → Ans) → Ans := fun l H K => bindO (decABuilder_StringAgain l H) fun a => vFBuilder_StringAgain a K

theorem FBuilder_StringAgain_of [BT] (L : Lays.n169 P ρ) (X : Builder.Extra P ρ) (h5 : ρ.t 5 = BT.byte) (he : Entered P (ρ.f 169)) : FuncOk P (ρ.f 169) FBuilder_StringAgain := by
  refine ⟨he, fun C args us K res Fr hh hF hargs hFf => ?_⟩
  obtain ⟨a, ha, hF1⟩ := bindO_some' hFf
  clear hFf
  obtain ⟨rfl, hH⟩ : args = [.ptr 0 0] ∧ C.H = [.btold a] := by
    unfold decABuilder_StringAgain at ha
    split at ha
    · rename_i e; cases ha; exact ⟨rfl, e⟩
    · cases ha
  obtain ⟨y, hy, hFf⟩ := bindO_some' hF1
  clear hF1
  unfold fnDBuilder_StringAgain at hy
  obtain ⟨h63, hy⟩ := cond_noneO hy
  have h63 := Nat.le_of_ble_eq_true h63
  cases hy
  have hg0 : getH C.H 0 = .btold a := by rw [hH]; rfl
  have hl0 : Live C.H 0 := by unfold Live; rw [hg0]; simp
  obtain ⟨b, v0, v, hb, hw, hone, hv0, hv⟩ := obj_btold hh hg0
  obtain ⟨v1, hl, h1⟩ := vrels1 hargs
  rw [VRel] at h1
  obtain ⟨b', hb', rfl, _⟩ := h1
  obtain rfl : b = b' := Option.some.inj (hb.symm.trans hb')
  obtain rfl : us = _ := arr_of_list hl
  have hdead : ∀ i, i ≠ 0 → getH C.H i = .dead := by
    rw [hH]
    intro i hi
    match i, hi with
    | i + 1, _ => rfl
  have hlv : ∀ i, Live C.H i → i = 0 := fun i h => Classical.byContradiction fun e => h (hdead i e)
  have fin : ∀ (s : List UInt8) (w' : World), s = bytesOf a → w'.os = C.w.os → w'.tape = C.w.tape → w'.output = C.w.output → C.w.heap.size ≤ w'.heap.size → (∀ k, k < C.w.heap.size → w'.heap[k]? = C.w.heap[k]?) →
      ∃ r C', K r C'.H = some res ∧ C'.w = w' ∧ HRel C' ∧ FrameOk Fr C' ∧ VRel C' r (.string ⟨s.toArray⟩) ∧ (∀ j b, (getH C.H j).isBlk = true → C.ρ j = some b → C'.ρ j = some b ∧ Live C'.H j) := by
    rintro s w' rfl h1 h2 h3 h4 h5
    have hR : ∀ k, C.R k → C.R k ∧ w'.heap[k]? = C.w.heap[k]? := fun k hk => ⟨hk, h5 k (hh.rlt k hk)⟩
    refine ⟨.str (bytesOf a), ⟨C.R, C.ρ, C.H, w'⟩, by show K _ C.H = _; rw [hH]; exact hFf, rfl, ⟨fun i => ?_, hh.inj, hh.ro, fun k hk => Nat.lt_of_lt_of_le (hh.rlt k hk) h4⟩,
      ⟨h1.trans hF.os, h2.trans hF.tape, h3.trans hF.output, Nat.le_trans hF.size h4, fun k hk hno => (h5 k (Nat.lt_of_lt_of_le hk hF.size)).trans (hF.keep k hk hno), hF.r0, hF.rN, hF.own⟩, by rw [VRel], fun j b' hj hbj => ⟨hbj, isBlk_live hj⟩⟩
    by_cases hi : i = 0
    · subst hi
      show ORel _ (getH C.H 0) _
      rw [hg0]
      refine ⟨b, v0, v, hb, (h5 b (hh.blk_lt hl0 hb)).trans hw, hone, hv0, ?_⟩
      rcases hv with hv | ⟨g, cap, cur, fr, g1, g2, g3, g4, g5⟩
      · exact .inl hv
      · exact .inr ⟨g, cap, cur, fr, g1, g2, g3, (h5 g (hh.rlt g g3)).trans g4, g5⟩
    · show ORel _ (getH C.H i) _
      rw [hdead i hi]; trivial
  rcases hv with ⟨rfl, rfl⟩ | ⟨g, cap, cur, fr, rfl, hcap, hgR, hwg, hfz, hsz, hcell⟩
  · refine (bld_String_nil L X b v0 BT.bld C.w hw).mono ?_
    rintro e w' ⟨rfl, rfl⟩
    exact fin [] _ rfl rfl rfl rfl (Nat.le_refl _) fun k _ => rfl
  · have hwg' := hwg
    rw [← h5] at hwg'
    by_cases h0 : a = []
    · subst h0
      by_cases hc0 : cap = 0
      · subst hc0
        refine (bld_String_noroom L X b g v0 BT.bld cur fr C.w hw hwg').mono ?_
        rintro e w' ⟨rfl, rfl | rfl⟩
        · exact fin [] _ rfl rfl rfl rfl (by show C.w.heap.size ≤ (C.w.heap.push _).size; rw [Array.size_push]; omega) fun k hk => by
            show (C.w.drew.alloc _).heap[k]? = _
            exact Lib.alloc_old C.w.drew _ k hk
        · exact fin [] _ rfl rfl rfl rfl (by show C.w.heap.size ≤ (C.w.heap.push _).size; rw [Array.size_push]; omega) fun k hk => by
            show (C.w.alloc _).heap[k]? = _
            exact Lib.alloc_old C.w _ k hk
      · refine (bld_String_room L X b g cap v0 BT.bld C.w hc0 hw).mono ?_
        rintro e w' ⟨rfl, rfl⟩
        exact fin [] _ rfl rfl rfl rfl (Nat.le_refl _) fun k _ => rfl
    · have hn : a.length ≠ 0 := by simpa using h0
      refine (bld_String_row L X b g cap v0 cur BT.bld fr a C.w h0 (by omega) hsz h63 hw hwg' hcell).mono ?_
      rintro e w' ⟨rfl, rfl⟩
      rcases hfz with h | ⟨f1, f2, f3⟩
      · exact absurd h h0
      refine fin _ _ rfl ?_ ?_ ?_ ?_ ?_
      · unfold World.freeze; rw [if_neg hn]; rfl
      · unfold World.freeze; rw [if_neg hn]; rfl
      · unfold World.freeze; rw [if_neg hn]; rfl
      · unfold World.freeze; rw [if_neg hn]; show C.w.heap.size ≤ (Array.modify C.w.heap _ _).size; rw [Array.size_modify]; exact Nat.le_refl _
      · intro k hk
        unfold World.freeze; rw [if_neg hn]
        show (Array.modify C.w.heap _ _)[k]? = _
        rw [Array.getElem?_modify]
        by_cases hkg : g = k
        · subst hkg
          rw [if_pos rfl, hwg]
          obtain ⟨lo, hi⟩ := fr
          simp only at f1 f2 f3
          subst f1
          have e1 : ((0 : Nat) == hi) = false := by rw [beq_eq_false_iff_ne]; omega
          simp only [Option.map_some, e1, Nat.zero_add]
          rw [show max hi a.length = hi by omega]
          rfl
        · rw [if_neg hkg]
end
end Go.AE

/- The abstract evaluator AE, proved: part 3. -/
import Derived.Test.YtjgghofdajambaaGreatDoorAe2
import Derived.OpenShut
import Derived.WalkKit
import Derived.ProofKit
import Derived.ShutString
import Derived.ChangeOld
import Derived.SizedLaws
import Derived.Carry
set_option linter.unusedVariables false
set_option linter.unusedSimpArgs false
namespace Go.AE
variable {P : Program} {T : Tab}
def fitC (T : Tab) (g : Ty → Nat → Bool) (y : Ty) (t : Nat) : Bool :=
  match Tab.get T t with
  | some i => cond i.isAgg (g (.st y) t) (g y t)
  | none => false
def isUnit : Ty → Bool
  | .unit => true
  | _ => false
def fitFs (T : Tab) (g : Ty → Nat → Bool) : Ty → List (Nat × Nat) → Nat → Bool
  | y, [], _ => isUnit y
  | y, [(t, off)], o => Nat.beq off o && fitC T g y t
  | .pair a b, (t, off) :: r, o => Nat.beq off o && fitC T g a t && fitFs T g b r (o + a.size)
  | _, _ :: _ :: _, _ => false
def fitAs (T : Tab) (g : Ty → Nat → Bool) (t : Nat) : Ty → Nat → Bool
  | y, 0 => isUnit y
  | y, 1 => fitC T g y t
  | .pair a b, n + 2 => fitC T g a t && fitAs T g t b (n + 1)
  | _, _ + 2 => false
def fit (T : Tab) : Nat → Ty → Nat → Bool
  | 0, _, _ => false
  | n + 1, y, t => match Tab.get T t with
    | none => false
    | some i => Nat.beq i.size y.size && (match y, i.k with
      | .int k, .sc => match kindOf i with
        | some k' => match decEq k' k with | isTrue _ => true | isFalse _ => false
        | none => false
      | .bool, .sc => match i.zero with
        | [.bool _] => true
        | _ => false
      | .str, .sc => isStr i
      | .list e, .slice e' => fit T n e e' && Nat.ble 1 e.size
      | .st f, .struct fs => fitFs T (fit T n) f fs 0
      | .st f, .array m e => fitAs T (fit T n) e f m
      | _, _ => false)
def Ty.wf : (t : Ty) → t.T → Prop
  | .int k, n => k.min ≤ n ∧ n ≤ k.max
  | .bool, _ => True
  | .str, s => s.length ≤ maxLen
  | .unit, _ => True
  | .st f, x => f.wf x
  | .pair a b, x => a.wf x.1 ∧ b.wf x.2
  | .list e, l => l.length ≤ maxLen ∧ ∀ x ∈ l, e.wf x
theorem fit_size [BT] {n : Nat} {y : Ty} {t : Nat} (hT : TabOk P T) (h : fit T n y t = true) : P.cellsOf t = y.size := by
  cases n with
  | zero => cases h
  | succ n =>
    rw [fit] at h
    split at h
    · cases h
    · rename_i i hi
      obtain ⟨d, info, z, hok⟩ := hT t i hi
      simp only [Bool.and_eq_true] at h
      have := Nat.eq_of_beq_eq_true h.1
      simp [Program.cellsOf, hok.inf, hok.size, this]
section
variable {H : Type} {enc : TypeId × Value → H} {w : World} {base : Nat} {spare : Nat → Bool} {held : Bool}
abbrev Whole (w : World) : Nat → Prop := fun b => b < w.heap.size
def Opens (P : Program) (enc : TypeId × Value → H) (w : World) (base : Nat) (spare : Nat → Bool) (held : Bool) (g : Ty → Nat → Bool) : Prop :=
  ∀ (y : Ty) (t : Nat) (m : Nat) (cs : List Value) (x : DataW H × List MemPlace), g y t = true → DataW.trod enc P w base spare held m t cs = some x → ∃ v : y.T, DRel (Whole w) w y v cs ∧ y.wf v
theorem open_fitC [BT] {g : Ty → Nat → Bool} (hT : TabOk P T) (hg : Opens P enc w base spare held g) (hs : ∀ y t, g y t = true → P.cellsOf t = y.size) {y : Ty} {t m : Nat} {cs : List Value} {x : DataW H × List MemPlace}
    (h : fitC T g y t = true) (hx : DataW.trod enc P w base spare held m t cs = some x) : P.cellsOf t = y.size ∧ ∃ v : y.T, DRel (Whole w) w y v cs ∧ y.wf v := by
  unfold fitC at h
  split at h
  · rename_i i hi
    cases ha : i.isAgg with
    | true =>
      rw [ha, cond_true] at h
      obtain ⟨v, hv, hw⟩ := hg (.st y) t m cs x h hx
      exact ⟨(hs (.st y) t h).trans rfl, v, hv, hw⟩
    | false =>
      rw [ha, cond_false] at h
      obtain ⟨v, hv, hw⟩ := hg y t m cs x h hx
      exact ⟨hs _ _ h, v, hv, hw⟩
  · cases h
theorem isUnit_eq {y : Ty} (h : isUnit y = true) : y = .unit := by
  cases y <;> first | rfl | cases h
theorem open_fitFs [BT] {g : Ty → Nat → Bool} (hT : TabOk P T) (hg : Opens P enc w base spare held g) (hs : ∀ y t, g y t = true → P.cellsOf t = y.size) {cs : List Value} {m : Nat} :
    ∀ (fs : List (Nat × Nat)) (y : Ty) (o : Nat), fitFs T g y fs o = true → cs.length = o + y.size →
      (∀ f ∈ fs, ∃ x, DataW.trod enc P w base spare held m f.1 ((cs.drop f.2).take (P.cellsOf f.1)) = some x) → ∃ v : y.T, DRel (Whole w) w y v (cs.drop o) ∧ y.wf v
  | [], y, o, h, hl, _ => by
    have hu : isUnit y = true := by rw [fitFs] at h; exact h
    obtain rfl := isUnit_eq hu
    refine ⟨(), ?_, trivial⟩
    rw [DRel]
    simp only [Ty.size] at hl
    rw [List.drop_eq_nil_iff]
    omega
  | [(t, off)], y, o, h, hl, hf => by
    rw [fitFs] at h
    simp only [Bool.and_eq_true] at h
    obtain rfl := Nat.eq_of_beq_eq_true h.1
    obtain ⟨x, hx⟩ := hf (t, off) (by simp)
    obtain ⟨h1, v, hv, hw⟩ := open_fitC hT hg hs h.2 hx
    refine ⟨v, ?_, hw⟩
    dsimp only at hv
    rw [h1, List.take_of_length_le (by simp; omega)] at hv
    exact hv
  | (t, off) :: q :: r, y, o, h, hl, hf => by
    cases y with
    | pair a b =>
      rw [fitFs] at h
      · simp only [Bool.and_eq_true] at h
        obtain ⟨⟨ho, ha⟩, hb⟩ := h
        obtain rfl := Nat.eq_of_beq_eq_true ho
        obtain ⟨x, hx⟩ := hf (t, off) (by simp)
        obtain ⟨h1, v, hv, hw⟩ := open_fitC hT hg hs ha hx
        obtain ⟨v', hv', hw'⟩ := open_fitFs hT hg hs (q :: r) b (off + a.size) hb (by rw [hl, Ty.size]; omega) (fun f hm => hf f (List.mem_cons_of_mem _ hm))
        refine ⟨(v, v'), ?_, hw, hw'⟩
        rw [DRel]
        dsimp only at hv
        rw [h1] at hv
        refine ⟨_, _, ?_, hv, hv'⟩
        rw [← List.drop_drop, List.take_append_drop]
      · simp
    | _ => simp [fitFs] at h
theorem open_fitAs [BT] {g : Ty → Nat → Bool} (hT : TabOk P T) (hg : Opens P enc w base spare held g) (hs : ∀ y t, g y t = true → P.cellsOf t = y.size) {t m : Nat} :
    ∀ (n : Nat) (y : Ty) (cs : List Value), fitAs T g t y n = true → cs.length = y.size →
      (∀ i, i < n → ∃ x, DataW.trod enc P w base spare held m t ((cs.drop (i * P.cellsOf t)).take (P.cellsOf t)) = some x) → ∃ v : y.T, DRel (Whole w) w y v cs ∧ y.wf v
  | 0, y, cs, h, hl, _ => by
    have hu : isUnit y = true := by rw [fitAs] at h; exact h
    obtain rfl := isUnit_eq hu
    refine ⟨(), ?_, trivial⟩
    rw [DRel]
    simp only [Ty.size] at hl
    exact List.length_eq_zero_iff.1 hl
  | 1, y, cs, h, hl, hf => by
    rw [fitAs] at h
    obtain ⟨x, hx⟩ := hf 0 (by omega)
    obtain ⟨h1, v, hv, hw⟩ := open_fitC hT hg hs h hx
    refine ⟨v, ?_, hw⟩
    rw [h1, Nat.zero_mul, List.drop_zero, List.take_of_length_le (by omega)] at hv
    exact hv
  | n + 2, y, cs, h, hl, hf => by
    cases y with
    | pair a b =>
      rw [fitAs] at h
      simp only [Bool.and_eq_true] at h
      obtain ⟨ha, hb⟩ := h
      obtain ⟨x, hx⟩ := hf 0 (by omega)
      obtain ⟨h1, v, hv, hw⟩ := open_fitC hT hg hs ha hx
      rw [Nat.zero_mul, List.drop_zero] at hv
      obtain ⟨v', hv', hw'⟩ := open_fitAs hT hg hs (n + 1) b (cs.drop (P.cellsOf t)) hb (by rw [List.length_drop, hl, Ty.size, h1]; omega) (fun i hi => by
        obtain ⟨x, hx⟩ := hf (i + 1) (by omega)
        refine ⟨x, ?_⟩
        rw [List.drop_drop, show P.cellsOf t + i * P.cellsOf t = (i + 1) * P.cellsOf t by rw [Nat.add_mul]; omega]
        exact hx)
      refine ⟨(v, v'), ?_, hw, hw'⟩
      rw [DRel]
      exact ⟨_, _, (List.take_append_drop _ _).symm, hv, hv'⟩
    | _ => simp [fitAs] at h
theorem addr_add {a : Addr} {n : Nat} (h : a.spot = none) : a.add n = ⟨a.block, a.off + n, none⟩ := by
  unfold Addr.add
  split
  · rename_i e; subst e; cases a; simp_all
  · rfl
theorem spot_none {a : Addr} {u : Value} (h : w.cell? a = some u) : a.spot = none := by
  unfold World.cell? at h
  split at h
  · split at h
    · cases h
    · rename_i hs; simpa using hs
  · cases h
theorem cell_lt {a : Addr} {u : Value} (h : w.cell? a = some u) : a.block < w.heap.size := by
  unfold World.cell? at h
  split at h
  · rename_i e; exact (Array.getElem?_eq_some_iff.1 e).1
  · cases h
theorem choose_list {α : Type} {p : Nat → α → Prop} : ∀ (n : Nat), (∀ i, i < n → ∃ a, p i a) → ∃ l : List α, l.length = n ∧ ∀ i a, l[i]? = some a → p i a
  | 0, _ => ⟨[], rfl, by simp⟩
  | n + 1, h => by
    obtain ⟨l, hl, hp⟩ := choose_list n fun i hi => h i (by omega)
    obtain ⟨a, ha⟩ := h n (by omega)
    refine ⟨l ++ [a], by simp [hl], fun i x hi => ?_⟩
    rcases Nat.lt_trichotomy i n with hlt | rfl | hgt
    · rw [List.getElem?_append_left (by omega)] at hi
      exact hp i x hi
    · rw [List.getElem?_append_right (by omega), hl] at hi
      simp at hi
      subst hi
      exact ha
    · rw [List.getElem?_eq_none (by simp; omega)] at hi
      cases hi
theorem open_fit [BT] (hT : TabOk P T) : ∀ n : Nat, Opens P enc w base spare held (fit T n)
  | 0 => fun y t m cs x h => by cases h
  | n + 1 => fun y t m cs x h hx => by
    have ih := open_fit hT n
    have hs : ∀ y t, fit T n y t = true → P.cellsOf t = y.size := fun y t h => fit_size hT h
    have hsz := fit_size hT h
    rw [fit] at h
    split at h
    · cases h
    · rename_i i hi
      obtain ⟨d, info, z, hok⟩ := hT t i hi
      simp only [Bool.and_eq_true] at h
      obtain ⟨hszb, h⟩ := h
      have hk := hok.kind
      split at h
      · rename_i k hkk
        split at h
        · rename_i k' hk'
          split at h
          · rename_i e _
            subst e
            have hd := kindOf_desc hok hk'
            obtain ⟨v, rfl, _, hw⟩ := DataW.trod_int (by rw [hok.under, hd]) hx
            refine ⟨v, by rw [DRel], ?_⟩
            rw [Ty.wf]
            simpa [Lit.wf] using hw
          · cases h
        · cases h
      · rename_i hkk
        split at h
        · rename_i b hz
          rw [hkk] at hk
          simp only [kindOk, hz] at hk
          have hd : d = .bool := by cases d <;> simp_all [scDesc]
          obtain ⟨v, rfl, _⟩ := DataW.trod_bool (by rw [hok.under, hd]) hx
          exact ⟨v, by rw [DRel], trivial⟩
        · cases h
      · rename_i hkk
        have hd := isStr_desc hok hkk h
        obtain ⟨v, rfl, _, hl⟩ := DataW.trod_string (by rw [hok.under, hd]) hx
        refine ⟨v.data.toList, by rw [DRel], ?_⟩
        rw [Ty.wf]
        rw [Array.length_toList]
        exact hl
      · rename_i e e' hkk
        rw [hkk] at hk
        obtain ⟨rfl, _⟩ := hk
        simp only [Bool.and_eq_true] at h
        have h1 := Nat.le_of_ble_eq_true h.2
        have hse := hs _ _ h.1
        rcases DataW.trod_slice hok.under hx with ⟨rfl, _⟩ | ⟨a, len, cap, elems, rest, m', _, rfl, _, hb, hl, hm, hlen, hel, _, _⟩
        · exact ⟨[], by rw [DRel]; exact ⟨none, 0, rfl, Nat.le_refl _, .inl rfl⟩, by rw [Ty.wf]; simp⟩
        · have key : ∀ i, i < len → ∃ v : e.T, (∃ us, us.length = e.size ∧ DRel (Whole w) w e v us ∧ ∀ j u, us[j]? = some u → w.cell? ((a.add (i * e.size)).add j) = some u) ∧ e.wf v := by
            intro i hi
            have := hel i hi
            rw [List.getElem?_eq_getElem (by omega)] at this
            obtain ⟨cs', hc, hy⟩ := Option.bind_eq_some_iff.1 this
            obtain ⟨v, hv, hw⟩ := ih e e' m' cs' _ h.1 hy
            obtain ⟨_, hcl, hcells⟩ := World.cells?_some hc
            rw [hse] at hcl hcells
            refine ⟨v, ⟨cs', hcl, hv, fun j u hj => ?_⟩, hw⟩
            have hjl := (List.getElem?_eq_some_iff.1 hj).1
            rw [hcells j (by omega)]
            exact hj
          obtain ⟨l, hll, hlp⟩ := choose_list len key
          refine ⟨l, ?_, by rw [Ty.wf]; exact ⟨by omega, fun x hx => by
            obtain ⟨i, hi, rfl⟩ := List.mem_iff_getElem.1 hx
            exact (hlp i _ (List.getElem?_eq_getElem hi)).2⟩⟩
          rw [DRel]
          refine ⟨some a, cap, by rw [hll], by omega, ?_⟩
          by_cases h0 : l = []
          · exact .inl h0
          · right
            have hpos : 0 < l.length := List.length_pos_iff.2 h0
            obtain ⟨⟨us, hul, _, hu⟩, _⟩ := hlp 0 _ (List.getElem?_eq_getElem hpos)
            have hc0 : w.cell? a = some (us[0]'(by omega)) := by
              have := hu 0 _ (List.getElem?_eq_getElem (by omega))
              simpa [Addr.add] using this
            have hsp := spot_none hc0
            refine ⟨a.block, a.off, ?_, cell_lt hc0, fun i x hi => ?_⟩
            · cases a; simp_all
            · obtain ⟨⟨us, _, hd, hu⟩, _⟩ := hlp i x hi
              refine ⟨us, hd, fun j u hj => ?_⟩
              have := hu j u hj
              rw [addr_add hsp, addr_add rfl] at this
              rw [← Nat.add_assoc]
              exact this
      · rename_i f fs hkk
        rw [hkk] at hk
        obtain ⟨fields, rfl, hfs, _⟩ := hk
        obtain ⟨xs, m', _, _, hl, hxl, hxf⟩ := DataW.trod_struct hok.under hx
        obtain ⟨v, hv, hw⟩ := open_fitFs (cs := cs) (m := m') hT ih hs fs f 0 h (by rw [hl, hsz]; simp [Ty.size]) (fun q hq => by
          rw [← hfs] at hq
          obtain ⟨fl, hfl, rfl⟩ := List.mem_map.1 hq
          obtain ⟨j, hj, rfl⟩ := List.mem_iff_getElem.1 hfl
          have hj' : j < fields.size := by simpa using hj
          have := hxf j fields[j] (by simp [hj'])
          rw [List.getElem?_eq_getElem (by omega)] at this
          exact ⟨_, by simpa using this⟩)
        exact ⟨v, by rw [DRel]; simpa using hv, hw⟩
      · rename_i f q e hkk
        rw [hkk] at hk
        simp only [kindOk] at hk
        subst hk
        obtain ⟨xs, m', _, _, hl, hxl, hxf⟩ := DataW.trod_array hok.under hx
        obtain ⟨v, hv, hw⟩ := open_fitAs (m := m') hT ih hs q f cs h (by rw [hl, hsz]; simp [Ty.size]) (fun i hi => by
          have := hxf i hi
          rw [List.getElem?_eq_getElem (by omega)] at this
          exact ⟨_, this⟩)
        exact ⟨v, by rw [DRel]; exact hv, hw⟩
      · cases h
end
end Go.AE
namespace Go.AE
open Go.RowKit (Below)
open Go.ChangeShapes Go.WideShapes Go.RowKit
variable {P : Program} {T : Tab} {E : Env} {hint : Hint}
def TysT : List Ty → Type
  | [] => Unit
  | y :: r => y.T × TysT r
def TysEnc : (l : List Ty) → TysT l → List AV
  | [], _ => []
  | y :: r, x => AE.enc y x.1 :: TysEnc r x.2
def TysWf : (l : List Ty) → TysT l → Prop
  | [], _ => True
  | y :: r, x => y.wf x.1 ∧ TysWf r x.2
def Ty.argOk : Ty → Bool
  | .unit => false
  | .pair _ _ => false
  | _ => true
def fits (T : Tab) : List Ty → List Nat → Bool
  | [], [] => true
  | y :: r, t :: ts => y.argOk && fit T 100 y t && fits T r ts
  | _, _ => false
section
variable {H : Type} {enc : TypeId × Value → H} {W : World}
theorem enc_rel [BT] {ρ : Nat → Option Nat} {Hs : List Obj} (hT : TabOk P T) {y : Ty} {t : Nat} {v : Value} {d : DataW H} {p : List MemPlace} {r : Reach} {b0 base : Nat} {spare : Nat → Bool} {held : Bool} {n : Nat}
    (hu : y.argOk = true) (h : fit T n y t = true)
    (hval : Value.okWide P W r b0 t v) (hd : DataW.Trod enc P W base spare held t v d p) : ∃ x : y.T, VRel ⟨Whole W, ρ, Hs, W⟩ (AE.enc y x) v ∧ y.wf x := by
  obtain ⟨m, hm⟩ := hd
  obtain ⟨x, hx, hw⟩ := open_fit hT n y t m _ _ h hm
  refine ⟨x, ?_, hw⟩
  cases n with
  | zero => cases h
  | succ n =>
    rw [fit] at h
    split at h
    · cases h
    · rename_i i hi
      obtain ⟨dd, info, z, hok⟩ := hT t i hi
      simp only [Bool.and_eq_true] at h
      obtain ⟨hszb, h⟩ := h
      have hk := hok.kind
      split at h
      · rename_i k hkk
        split at h
        · rename_i k' hk'
          split at h
          · rename_i e _
            subst e
            obtain ⟨q, rfl⟩ := okWide_int (hok.under.trans (by rw [kindOf_desc hok hk'])) hval
            rw [DRel] at hx
            simp [Value.cells] at hx
            obtain ⟨_, rfl⟩ := hx
            rw [AE.enc, VRel]
          · cases h
        · cases h
      · rename_i hkk
        split at h
        · rename_i b hz
          rw [hkk] at hk
          simp only [kindOk, hz] at hk
          have hd : dd = .bool := by cases dd <;> simp_all [scDesc]
          obtain ⟨q, rfl⟩ := okWide_bool (hok.under.trans (by rw [hd])) hval
          rw [DRel] at hx
          simp [Value.cells] at hx
          subst hx
          rw [AE.enc, VRel]
        · cases h
      · rename_i hkk
        obtain ⟨q, rfl⟩ := okWide_string (hok.under.trans (by rw [isStr_desc hok hkk h])) hval
        rw [DRel] at hx
        simp [Value.cells] at hx
        subst hx
        rw [AE.enc, VRel]
      · rename_i e e' hkk
        rw [hkk] at hk
        obtain ⟨rfl, _⟩ := hk
        obtain ⟨a, len, cap, rfl⟩ := okWide_slice hok.under hval
        rw [AE.enc, VRel]
        exact hx
      · rename_i f fs hkk
        rw [hkk] at hk
        obtain ⟨fields, rfl, _⟩ := hk
        obtain ⟨cs, rfl, _⟩ := okWide_struct hok.under hval
        rw [AE.enc, VRel]
        rw [DRel] at hx
        exact ⟨cs, rfl, hx.cells⟩
      · rename_i f q e hkk
        rw [hkk] at hk
        simp only [kindOk] at hk
        subst hk
        have : ∃ cs, v = .agg cs := by
          unfold Value.okWide at hval
          rw [hok.under] at hval
          obtain ⟨cs, rfl, _⟩ := hval
          exact ⟨cs, rfl⟩
        obtain ⟨cs, rfl⟩ := this
        rw [AE.enc, VRel]
        rw [DRel] at hx
        exact ⟨cs, rfl, hx.cells⟩
      · cases h
theorem encs_rel [BT] {ρ : Nat → Option Nat} {Hs : List Obj} (hT : TabOk P T) {r : Reach} {b0 base : Nat} {spare : Nat → Bool} {held : Bool} : ∀ {ys : List Ty} {ts : List TypeId} {vs : List Value} {ds : List (DataW H)} {p : List MemPlace},
    fits T ys ts = true → (∀ (j : Nat) t v, ts[j]? = some t → vs[j]? = some v → Value.okWide P W r b0 t v) → DataW.TrodAll enc P W base spare held ts vs ds p →
    ∃ x : TysT ys, VRels ⟨Whole W, ρ, Hs, W⟩ (TysEnc ys x) vs ∧ TysWf ys x
  | [], [], vs, ds, p, _, _, h => by
    obtain ⟨rfl, _, _⟩ := trodAll_nil h
    exact ⟨(), (by show VRels _ [] [] ; rw [VRels]), trivial⟩
  | y :: ys, t :: ts, vs, ds, p, hf, hval, h => by
    obtain ⟨v, vs', d, ds', p, q, rfl, rfl, rfl, h1, h2⟩ := trodAll_cons h
    rw [fits] at hf
    simp only [Bool.and_eq_true] at hf
    obtain ⟨x, hx, hw⟩ := enc_rel (ρ := ρ) (Hs := Hs) hT hf.1.1 hf.1.2 (hval 0 t v rfl rfl) h1
    obtain ⟨x', hx', hw'⟩ := encs_rel (ρ := ρ) (Hs := Hs) hT hf.2 (fun j t v ht hv => hval (j + 1) t v (by simpa using ht) (by simpa using hv)) h2
    exact ⟨(x, x'), (by show VRels _ (AE.enc y x :: TysEnc ys x') _; rw [VRels]; exact ⟨v, vs', rfl, hx, hx'⟩), hw, hw'⟩
  | [], _ :: _, _, _, _, hf, _, _ => by cases hf
  | _ :: _, [], _, _, _, hf, _, _ => by cases hf
theorem trodAll_back (hl : laidOutB P = true) {W' : World} (hb : Below W.heap.size W W') : ∀ {ts : List TypeId} {vs : List Value} {ds : List (DataW H)} {p : List MemPlace},
    ts.all (fun t => P.readableRec t && decide (t < P.types.size)) = true → DataW.TrodAll enc P W 0 (fun _ => true) true ts vs ds p →
    DataW.TrodAll enc P W' 0 (fun b => decide (b < W.heap.size)) true ts vs ds p
  | [], vs, ds, p, _, h => by
    obtain ⟨rfl, rfl, rfl⟩ := trodAll_nil h
    rfl
  | t :: ts, vs, ds, p, hr, h => by
    obtain ⟨v, vs', d, ds', p, q, rfl, rfl, rfl, h1, h2⟩ := trodAll_cons h
    simp only [List.all_cons, Bool.and_eq_true, decide_eq_true_eq] at hr
    have hlt : ∀ x ∈ p, x.block < W.heap.size := by
      obtain ⟨m, hm⟩ := h1
      exact DataW.trod_lt m _ _ _ hm
    exact ⟨p, q, Below.trod hl hr.1.1 hr.1.2 h1 hb hlt, trodAll_back hl hb (by simpa using hr.2) h2, rfl⟩
end
theorem TrodAll.length {H : Type} {enc : TypeId × Value → H} {W : World} {base : Nat} {spare : Nat → Bool} {held : Bool} : ∀ {ts : List TypeId} {vs : List Value} {ds : List (DataW H)} {p : List MemPlace}, DataW.TrodAll enc P W base spare held ts vs ds p → ds.length = ts.length
  | [], vs, ds, p, h => by obtain ⟨rfl, rfl, rfl⟩ := trodAll_nil h; rfl
  | t :: ts, vs, ds, p, h => by
    obtain ⟨v, vs', d, ds', p, q, rfl, rfl, rfl, h1, h2⟩ := trodAll_cons h
    simp [TrodAll.length h2]
def Cx.start (W : World) : Cx := ⟨Whole W, fun _ => none, [], W⟩
theorem start_heap [BT] (W : World) : HRel (Cx.start W) := ⟨fun _ => trivial, fun _ _ _ h => absurd rfl h, fun _ _ h => absurd rfl h, fun _ h => h⟩
def Fr.start (W : World) : Fr := ⟨W, fun _ => False, Whole W, 0⟩
theorem start_frame (W : World) : FrameOk (Fr.start W) (Cx.start W) :=
  ⟨rfl, rfl, rfl, Nat.le_refl _, fun _ _ _ => rfl, fun _ h => h, fun _ h => .inl h, fun _ _ h => absurd rfl h⟩
theorem frame_below {W : World} {C : Cx} (h : FrameOk (Fr.start W) C) : Below W.heap.size W C.w :=
  ⟨h.os, h.tape, h.output, h.size, fun k hk => h.keep k hk fun h => h⟩
theorem law_contract [BT] (hm : P.follows .mixedOrders = true) (hT : TabOk P T) (hE : EnvOk P E) (laid : laidOutB P = true) {g : Nat} {fn : Func} {c : Code} (hf : P.funcs[g]? = some fn) (hb : fn.body = some c)
    (hread : fn.params.toList.all (fun t => P.readableRec t && decide (t < P.types.size)) = true) {tb : TypeId} (hres : fn.resultTypes = #[tb]) (htb : P.underlying tb = some .bool)
    {ys : List Ty} (hfit : fits T ys fn.params.toList = true) {d : Nat} {ann : Ann} (hann : AnnOk P fn.ntmps c ann)
    (hev : ∀ x : TysT ys, TysWf ys x → ∃ n H', fnE T E hint d n g fn.ntmps fn.results.toList ann c (TysEnc ys x) [] (fun v H => some (v, H)) = some (.bool true, H'))
    {s : ChangeSpec} (hvars : s.vars = []) {H : Type} (hfn : ∀ ds : List (DataW H), ds.length = fn.params.size → s.fn H ds = { results := [.lit (.bool true)], args := ds })
    {enc : TypeId × Value → H} {W : World} {base : Nat} {args : Array Value} {ds gs : List (DataW H)} {before : List MemPlace}
    (hval : ∀ (j : Nat) t v, fn.params[j]? = some t → args[j]? = some v → Value.okWide P W .any base t v)
    (hW : DataW.Whole enc P fn.params.toList s.vars false W args.toList ds gs before) :
    Calls P g args W fun e W' => ∃ v, e = .returned v ∧ s.post enc P fn false true false false W args v W' := by
  have hW' := hW
  obtain ⟨p, q, hA, hV, rfl, hfz, hnd⟩ := hW
  rw [hvars] at hV
  obtain ⟨rfl, rfl⟩ := trodVars_none hV
  obtain ⟨x, hx, hw⟩ := encs_rel (ρ := fun _ => none) (Hs := []) hT hfit (fun j t v ht hv => hval j t v (by simpa using ht) (by simpa using hv)) hA
  obtain ⟨n, H', hn⟩ := hev x hw
  refine (fnE_sound (hint := hint) hm hT hE (C := Cx.start W) (start_heap W) (start_frame W) hf hb hx hann hn).mono ?_
  rintro e W' hw'
  cases e with
  | returned v =>
    obtain ⟨r, C', hK, rfl, _, hF, hv, _⟩ := hw'
    cases hK
    rw [VRel] at hv
    subst hv
    have bel := frame_below hF
    have hlen : (ds ++ []).length = fn.params.size := by rw [List.append_nil, TrodAll.length hA, Array.length_toList]
    refine ⟨_, rfl, ds, [], p ++ [], [], p, [], hW', ?_, ?_, ?_, bel.frame _, fun h => by cases h⟩
    · rw [hfn _ hlen, hres]
      exact trodAll_mk1 (shut_bool htb _)
    · rw [hfn _ hlen, List.append_nil]
      exact trodAll_back laid bel hread hA
    · rw [hvars]
      have : (s.fn H (ds ++ [])).vars = [] := by rw [hfn _ hlen]
      rw [this]
      rfl
  | panicked ch => exact hw'.elim
  | outgrown => exact hw'.elim
end Go.AE
namespace Go.AE
variable {P : Program} {T : Tab}
def valB : AV → Value → Bool
  | .bool a, .bool b => match a, b with
    | true, true => true
    | false, false => true
    | _, _ => false
  | .int k n, .int k' m => match decEq k k' with
    | isTrue _ => match decEq n m with
      | isTrue _ => true
      | isFalse _ => false
    | isFalse _ => false
  | .str [], .string b => match b.data.toList with
    | [] => true
    | _ => false
  | .nilp, .pointer none => true
  | .nils, .slice none 0 0 => true
  | .nilm, .map none => true
  | .nilf, .nilFunc => true
  | .nili, .nilIface => true
  | _, _ => false
def valsB : List AV → List Value → Bool
  | [], [] => true
  | a :: r, v :: s => valB a v && valsB r s
  | _, _ => false
theorem valB_eq {a : AV} {v : Value} (h : valB a v = true) : v = conc0 a ∧ a.isZero = true := by
  unfold valB at h
  split at h
  · rename_i x y
    cases x <;> cases y <;> first | exact ⟨rfl, rfl⟩ | cases h
  · split at h
    · rename_i e _
      split at h
      · rename_i e' _
        subst e; subst e'
        exact ⟨rfl, rfl⟩
      · cases h
    · cases h
  · rename_i b
    split at h
    · rename_i e
      refine ⟨?_, rfl⟩
      show Value.string b = .string ⟨[].toArray⟩
      congr 1
      apply ByteArray.ext
      rw [← e]
    · cases h
  all_goals first | exact ⟨rfl, rfl⟩ | cases h
theorem valsB_eq : ∀ {l : List AV} {vs : List Value}, valsB l vs = true → vs = l.map conc0 ∧ l.all AV.isZero = true
  | [], [], _ => ⟨rfl, rfl⟩
  | a :: r, v :: s, h => by
    rw [valsB, Bool.and_eq_true] at h
    obtain ⟨h1, h2⟩ := h
    obtain ⟨rfl, hz⟩ := valB_eq h1
    obtain ⟨rfl, hr⟩ := valsB_eq h2
    exact ⟨rfl, by simp [hz, hr]⟩
  | [], _ :: _, h => by cases h
  | _ :: _, [], h => by cases h
def fieldsB : List (Nat × Nat) → List Field → Bool
  | [], [] => true
  | (t, o) :: r, f :: s => Nat.beq f.type t && Nat.beq f.offset o && (f.name != "_") && fieldsB r s
  | _, _ => false
theorem fieldsB_eq : ∀ {fs : List (Nat × Nat)} {l : List Field}, fieldsB fs l = true → l.map (fun f => (f.type, f.offset)) = fs ∧ l.all (fun f => f.name != "_") = true
  | [], [], _ => ⟨rfl, rfl⟩
  | (t, o) :: r, f :: s, h => by
    rw [fieldsB] at h
    simp only [Bool.and_eq_true] at h
    obtain ⟨⟨⟨h1, h2⟩, h3⟩, h4⟩ := h
    obtain ⟨e, hr⟩ := fieldsB_eq h4
    have h1 := Nat.eq_of_beq_eq_true h1
    have h2 := Nat.eq_of_beq_eq_true h2
    exact ⟨by simp [e, h1, h2], by rw [List.all_cons, h3, hr]; rfl⟩
  | [], _ :: _, h => by cases h
  | _ :: _, [], h => by cases h
def kindB (zero : List AV) : TK → TypeDesc → Bool
  | .sc, d => scDesc zero d
  | .ptr e, .pointer e' => Nat.beq e e' && (match zero with | [.nilp] => true | _ => false)
  | .slice e, .slice e' => Nat.beq e e' && (match zero with | [.nils] => true | _ => false)
  | .array n e, .array n' e' => Nat.beq n n' && Nat.beq e e'
  | .map k e, .map k' e' => Nat.beq k k' && Nat.beq e e' && (match zero with | [.nilm] => true | _ => false)
  | .struct fs, .struct fields => fieldsB fs fields.toList
  | _, _ => false
theorem kindB_ok {zero : List AV} {k : TK} {d : TypeDesc} (h : kindB zero k d = true) : kindOk zero k d := by
  unfold kindB at h
  split at h
  · exact h
  · simp only [Bool.and_eq_true] at h
    obtain ⟨h1, h2⟩ := h
    rw [kindOk, Nat.eq_of_beq_eq_true h1]
    split at h2
    · exact ⟨rfl, rfl⟩
    · cases h2
  · simp only [Bool.and_eq_true] at h
    obtain ⟨h1, h2⟩ := h
    rw [kindOk, Nat.eq_of_beq_eq_true h1]
    split at h2
    · exact ⟨rfl, rfl⟩
    · cases h2
  · simp only [Bool.and_eq_true] at h
    rw [kindOk, Nat.eq_of_beq_eq_true h.1, Nat.eq_of_beq_eq_true h.2]
  · simp only [Bool.and_eq_true] at h
    obtain ⟨⟨h1, h2⟩, h3⟩ := h
    rw [kindOk, Nat.eq_of_beq_eq_true h1, Nat.eq_of_beq_eq_true h2]
    split at h3
    · exact ⟨rfl, rfl⟩
    · cases h3
  · rename_i fs fields
    obtain ⟨h1, h2⟩ := fieldsB_eq h
    exact ⟨fields, rfl, h1, h2⟩
  · cases h
def boolEq : Bool → Bool → Bool
  | true, true => true
  | false, false => true
  | _, _ => false
theorem boolEq_eq {a b : Bool} (h : boolEq a b = true) : a = b := by cases a <;> cases b <;> first | rfl | cases h
def tyB (i : TI) : Bool :=
  match i.ty with
  | none => true
  | some y => Nat.beq y.size i.size && boolEq y.isSt i.isAgg && !isUnit y
def byteB [BT] (t : Nat) (i : TI) : Bool :=
  match i.ty with
  | some (.int .u8) => Nat.beq t BT.byte
  | _ => true
theorem byteB_eq [BT] {t : Nat} {i : TI} (h : byteB t i = true) (e : i.ty = some (.int .u8)) : t = BT.byte := by
  unfold byteB at h
  rw [e] at h
  exact Nat.eq_of_beq_eq_true h
def entryB [BT] (P : Program) (t : Nat) (i : TI) : Bool :=
  match P.underlying t, P.info? t with
  | some d, some info => (match info.zero with
    | some z => Nat.beq info.size i.size && Nat.beq info.bytes i.bytes && valsB i.zero z.cells.toList && Nat.beq i.zero.length i.size && kindB i.zero i.k d &&
        cond i.isAgg (!P.stoodInHeld t && !P.eqGuardType P.depth t && !plainV z) (Nat.beq i.size 1 && plainV z) && tyB i && byteB t i && (BT.meths.all fun q => !Nat.beq q.1 t || methB P t q.2.1 q.2.2)
    | none => false)
  | _, _ => false
theorem meths_all {t : Nat} {name : String} {g : Nat} : ∀ {l : List (Nat × String × Nat)}, methGo l t name = some g → (l.all fun q => !Nat.beq q.1 t || methB P t q.2.1 q.2.2) = true → methB P t name g = true
  | [], h, _ => by cases h
  | (t', n, g') :: r, h, ha => by
    rw [List.all_cons, Bool.and_eq_true] at ha
    rw [methGo] at h
    cases hb : Nat.beq t' t && n == name with
    | true =>
      rw [hb, cond_true] at h
      cases h
      simp only [Bool.and_eq_true, beq_iff_eq] at hb
      have h1 := ha.1
      simp only [hb.1, Bool.not_true, Bool.false_or] at h1
      rw [← hb.2]; exact h1
    | false =>
      rw [hb, cond_false] at h
      exact meths_all h ha.2
theorem entryB_ok [BT] {t : Nat} {i : TI} (h : entryB P t i = true) : ∃ d info z, TIok P t i d info z := by
  unfold entryB at h
  split at h
  · rename_i d info hd hinfo
    split at h
    · rename_i z hz
      simp only [Bool.and_eq_true] at h
      obtain ⟨⟨⟨⟨⟨⟨⟨⟨h1, h2⟩, h3⟩, h4⟩, h5⟩, h6⟩, h7⟩, h8⟩, h9⟩ := h
      obtain ⟨hv, hall⟩ := valsB_eq h3
      refine ⟨d, info, z, hd, hinfo, Nat.eq_of_beq_eq_true h1, Nat.eq_of_beq_eq_true h2, hz, hv, hall, Nat.eq_of_beq_eq_true h4, kindB_ok h5, ?_, byteB_eq h8, ?_, ?_, ?_, ?_, ?_⟩
      · intro ha
        rw [ha, cond_false, Bool.and_eq_true] at h6
        exact Nat.eq_of_beq_eq_true h6.1
      · intro y hy
        unfold tyB at h7
        rw [hy] at h7
        simp only [Bool.and_eq_true, Bool.not_eq_true'] at h7
        refine ⟨Nat.eq_of_beq_eq_true h7.1.1, boolEq_eq h7.1.2, ?_⟩
        intro e
        rw [e] at h7
        exact absurd h7.2 (by simp [isUnit])
      · intro ha
        rw [ha, cond_true, Bool.and_eq_true] at h6
        simpa using h6.1
      · intro ha
        rw [ha, cond_false, Bool.and_eq_true] at h6
        exact h6.2
      · intro ha
        rw [ha, cond_true, Bool.and_eq_true] at h6
        simpa using h6.2
      · exact fun name g hg => meths_all hg h9
    · cases h
  · cases h
def tabB [BT] (P : Program) : Tab → Bool
  | [] => true
  | (t, i) :: r => entryB P t i && tabB P r
theorem tabOk_of_check [BT] : ∀ {T : Tab}, tabB P T = true → TabOk P T
  | [], _ => fun t i h => by cases h
  | (t, i) :: r, h => fun t' i' h' => by
    rw [tabB, Bool.and_eq_true] at h
    rw [Tab.get] at h'
    cases hb : Nat.beq t t' with
    | true =>
      rw [hb, cond_true] at h'
      cases h'
      rw [← Nat.eq_of_beq_eq_true hb]
      exact entryB_ok h.1
    | false =>
      rw [hb, cond_false] at h'
      exact tabOk_of_check h.2 t' i' h'
theorem EnvOk.nil [BT] : EnvOk P [] := fun g sp h => by cases h
theorem EnvOk.cons [BT] {g : Nat} {sp : FSpec} {E : Env} (h : SpecOk P g sp) (hE : EnvOk P E) : EnvOk P ((g, sp) :: E) := fun g' sp' h' => by
  rw [Env.get] at h'
  cases hb : Nat.beq g g' with
  | true =>
    rw [hb, cond_true] at h'
    cases h'
    rw [← Nat.eq_of_beq_eq_true hb]
    exact h
  | false =>
    rw [hb, cond_false] at h'
    exact hE g' sp' h'
end Go.AE
namespace Go.AE
variable {P : Program} {T : Tab} {E : Env} {hint : Hint}
def iterK {X Y : Type} (step : X → (X → Ans) → (Y → Ans) → Ans) : Nat → X → (Y → Ans) → Ans
  | 0, _, _ => none
  | n + 1, x, k => step x (fun x' => iterK step n x' k) k
theorem bindO_some' {α : Type} {o : Option α} {k : α → Ans} {r : AV × List Obj} (h : bindO o k = some r) : ∃ a, o = some a ∧ k a = some r := by
  cases o with
  | none => cases h
  | some a => exact ⟨a, rfl, h⟩
theorem iterK_run {X Y : Type} {step : X → (X → Ans) → (Y → Ans) → Ans} {f : Nat → X → Ans} {k : Y → Ans} (h0 : ∀ x, f 0 x = none)
    (h : ∀ n x, f (n + 1) x = step x (fun x' => f n x') k) : ∀ n x, f n x = iterK step n x k
  | 0, x => h0 x
  | n + 1, x => by
    rw [h, iterK]
    congr 1
    funext x'
    exact iterK_run h0 h n x'
theorem bodySome {f : Func} (hb : f.body.isSome = true) : f.body = some (f.body.getD .skip) := by
  cases h : f.body with
  | none => rw [h] at hb; cases hb
  | some c => rfl
def inl (f : Func) : FSpec := .inline f.ntmps f.results.toList .none (f.body.getD .skip)
section
variable [BT] (hm : P.follows .mixedOrders = true) (hT : TabOk P T) (hE : EnvOk P E)
include hm hT hE
theorem pure_mk {g n : Nat} {fn : Func} {c : Code} (hf : P.funcs[g]? = some fn) (hb : fn.body = some c) (hn : fn.name ≠ "runtime.NumGoroutine") {d : Nat} {x : Ann} (hx : AnnOk P fn.ntmps c x)
    {A : Type} {dec : List AV → Option A} {argsOf : A → List AV} (hdec : ∀ l a, dec l = some a → l = argsOf a) {f v : A → (AV → Ans) → Ans}
    (hfn : ∀ a, fnE T E hint d n g fn.ntmps fn.results.toList x c (argsOf a) [] (fun v _ => some (v, [])) = f a (fun v => some (v, [])))
    (hv : ∀ a K res, v a K = some res → ∃ r, r.closed1 = true ∧ K r = some res ∧ f a (fun v => some (v, [])) = some (r, [])) :
    PureOk P g (fun l K => bindO (dec l) fun a => v a K) := by
  refine ⟨⟨fn, hf, by rw [hb]; rfl, hn⟩, fun C args us K res hh hH hargs hFp => ?_⟩
  obtain ⟨a, ha, hFp⟩ := bindO_some' hFp
  have hargsEq := hdec _ _ ha
  obtain ⟨r, hr, hK, hfa⟩ := hv a K res hFp
  subst hargsEq
  refine ⟨r, concl r, hK, fun C' => (closed1_eq hr).2 rfl, fun W hW => ?_⟩
  obtain ⟨hh', hat⟩ := at_pure hh hH hW
  have hargs' : VRels (C.at W) (argsOf a) us.toList := hat hargs
  let F : Fr := ⟨W, fun _ => False, C.R, 0⟩
  have hF : FrameOk F (C.at W) := ⟨rfl, rfl, rfl, Nat.le_refl _, fun _ _ _ => rfl, fun _ h => h, fun _ h => .inl h, fun i b hl => by
    exact absurd (by show getH C.H i = .dead; rw [hH]; rfl) hl⟩
  have hn' : fnE T E hint d n g fn.ntmps fn.results.toList x c (argsOf a) (C.at W).H (fun v _ => some (v, [])) = some (r, []) := by
    show fnE T E hint d n g fn.ntmps fn.results.toList x c (argsOf a) C.H _ = _
    rw [hH, hfn a]; exact hfa
  refine (fnE_sound (hint := hint) hm hT hE hh' hF hf hb hargs' hx hn').mono ?_
  intro e w' hw'
  cases e with
  | returned v =>
    obtain ⟨r', C', hK', rfl, _, hF', hv, _⟩ := hw'
    cases hK'
    refine ⟨by rw [(closed1_eq hr).1 hv], ⟨hF'.os, hF'.tape, hF'.output, hF'.size, fun k hk => hF'.keep k hk fun h => h⟩⟩
  | panicked ch => exact hw'.elim
  | outgrown => exact hw'.elim
theorem func_mk {g n : Nat} {fn : Func} {c : Code} (hf : P.funcs[g]? = some fn) (hb : fn.body = some c) (hn : fn.name ≠ "runtime.NumGoroutine") {d : Nat} {x : Ann} (hx : AnnOk P fn.ntmps c x)
    {A : Type} {dec : List AV → List Obj → Option A} {argsOf : A → List AV × List Obj} (hdec : ∀ l H a, dec l H = some a → (l, H) = argsOf a) {f v : A → (AV → List Obj → Ans) → Ans}
    (hfn : ∀ a K, fnE T E hint d n g fn.ntmps fn.results.toList x c (argsOf a).1 (argsOf a).2 K = f a K)
    (hv : ∀ a K res, v a K = some res → f a K = some res) :
    FuncOk P g (fun l H K => bindO (dec l H) fun a => v a K) := by
  refine funcOk_of (hint := hint) (d := d) hm hT hE hf hb hn hx ?_
  intro args H K res h
  obtain ⟨a, ha, h⟩ := bindO_some' h
  have e := hdec _ _ _ ha
  refine ⟨n, ?_⟩
  have e1 : args = (argsOf a).1 := by rw [← e]
  have e2 : H = (argsOf a).2 := by rw [← e]
  rw [e1, e2, hfn]
  exact hv a K res h
end
theorem func_alt' [BT] {g : Nat} {A : Type} {d1 : List AV → List Obj → Option A} {v1 : A → (AV → List Obj → Ans) → Ans} {F2 : List AV → List Obj → (AV → List Obj → Ans) → Ans}
    (h1 : FuncOk P g (fun l H K => bindO (d1 l H) fun a => v1 a K)) (h2 : FuncOk P g F2) :
    FuncOk P g (fun l H K => match d1 l H with | some a => v1 a K | none => F2 l H K) := by
  refine ⟨h1.1, fun C args us K res Fr hh hF hv h => ?_⟩
  dsimp only at h
  split at h
  · rename_i a ha
    exact h1.2 C args us K res Fr hh hF hv (by dsimp only; rw [ha]; exact h)
  · exact h2.2 C args us K res Fr hh hF hv h
end Go.AE
namespace Go.AE
theorem wrap64 {x : Int} (h : -9223372036854775808 ≤ x) (h' : x ≤ 9223372036854775807) : IntKind.wrap .i64 x = x := by
  simp [IntKind.wrap, IntKind.bits, IntKind.signed]
  omega
theorem nth_nat {α : Type} (l : List α) (j : Nat) : nth l (j : Int) = l[j]? := by
  unfold nth
  rw [if_pos (by omega), Int.toNat_natCast]
end Go.AE
namespace Go.AE
open Go.RowKit (Below)
variable {P : Program} {T : Tab} {E : Env} {hint : Hint}
theorem bindO_none {α β : Type} (f : α → Option β) : bindO none f = none := rfl
theorem bindO_pure {α β : Type} (a : α) (f : α → Option β) : bindO (some a) f = f a := rfl
theorem bindO_cond {α β : Type} (c : Bool) (a b : Option α) (f : α → Option β) : bindO (cond c a b) f = cond c (bindO a f) (bindO b f) := by cases c <;> rfl
theorem bindO_assoc {α β γ : Type} (o : Option α) (g : α → Option β) (f : β → Option γ) : bindO (bindO o g) f = bindO o fun a => bindO (g a) f := by cases o <;> rfl
theorem bindO_elim {α β γ δ : Type} (g : α → Option γ) (h : β → Option γ) (y : α ⊕ β) (f : γ → Option δ) : bindO (Sum.elim g h y) f = Sum.elim (fun a => bindO (g a) f) (fun b => bindO (h b) f) y := by cases y <;> rfl
theorem bindO_empty {α γ : Type} (y : Empty) (f : α → Option γ) : bindO (Empty.elim y : Option α) f = Empty.elim y := by cases y
def unP {α β γ : Type} (f : α → β → γ) (x : α × β) : γ := f x.1 x.2
theorem bindO_unP {α β γ δ : Type} (f : α → β → Option γ) (y : α × β) (k : γ → Option δ) : bindO (unP f y) k = unP (fun a b => bindO (f a b) k) y := rfl
def loopD {V Y : Type} (f : V → Option (V ⊕ Y)) : Nat → V → Option Y
  | 0, _ => none
  | n + 1, v => bindO (f v) (Sum.elim (fun v' => loopD f n v') some)
def FUEL : Nat := 18446744073709551616
theorem iterK_loopD {V Y : Type} {step : V → (V → Ans) → (Y → Ans) → Ans} {f : V → Option (V ⊕ Y)} (h : ∀ v next exit, step v next exit = bindO (f v) (Sum.elim next exit)) :
    ∀ (n : Nat) (v : V) (y : Y), loopD f n v = some y → ∀ k, iterK step n v k = k y
  | 0, v, y, he, _ => by cases he
  | n + 1, v, y, he, k => by
    rw [iterK, h]
    rw [loopD] at he
    cases hf : f v with
    | none => rw [hf] at he; cases he
    | some x =>
      rw [hf] at he
      cases x with
      | inl v' => exact iterK_loopD h n v' y he k
      | inr z => cases he; rfl
theorem loopD_more {V Y : Type} {f : V → Option (V ⊕ Y)} : ∀ (n m : Nat) (v : V) (y : Y), n ≤ m → loopD f n v = some y → loopD f m v = some y
  | 0, _, _, _, _, he => by cases he
  | n + 1, 0, _, _, hle, _ => by omega
  | n + 1, m + 1, v, y, hle, he => by
    rw [loopD] at he ⊢
    cases hf : f v with
    | none => rw [hf] at he; cases he
    | some x =>
      rw [hf] at he
      cases x with
      | inl v' => exact loopD_more n m v' y (by omega) he
      | inr z => exact he
def pk {α : Type} {p : α → Prop} (o : Option {x : α // p x}) : Option α := match o with
  | some y => some y.1
  | none => none
theorem pk_ok {α : Type} {p : α → Prop} {o : Option {x : α // p x}} {x : α} (h : pk o = some x) : p x := by
  cases o with
  | none => cases h
  | some y => cases h; exact y.2
def sumL {I V Y : Type} (dec : St → Option (I × V)) (f : I → V → Option (V ⊕ Y)) (out : I → (Ex → St → Ans) → Y → Ans) : (Ex → St → Ans) → St → Ans :=
  fun K s => bindO (dec s) fun x => bindO (loopD (f x.1) FUEL x.2) fun y => out x.1 K y
def sumN {I Y : Type} (dec : St → Option I) (f : I → Option Y) (out : I → (Ex → St → Ans) → Y → Ans) : (Ex → St → Ans) → St → Ans :=
  fun K s => bindO (dec s) fun x => bindO (f x) fun y => out x K y
def altN {α : Type} (dec : St → Option α) (G1 G2 : (Ex → St → Ans) → St → Ans) : (Ex → St → Ans) → St → Ans :=
  fun K s => match dec s with
    | some _ => G1 K s
    | none => G2 K s
theorem csum_altN [BT] {nt : Nat} {c : Code} {α : Type} {dec : St → Option α} {G1 G2 : (Ex → St → Ans) → St → Ans} (h1 : CSum P nt c G1) (h2 : CSum P nt c G2) : CSum P nt c (altN dec G1 G2) := by
  intro r F K s C a stk res h hro hS hsz hd
  unfold altN at h
  split at h
  · exact h1 h hro hS hsz hd
  · exact h2 h hro hS hsz hd
def getX : List (Nat × List Nat) → Nat → List Nat
  | [], _ => []
  | (n, l) :: r, i => cond (Nat.beq n i) l (getX r i)
def exk (n r : List Nat) (xs : List (Nat × List Nat)) : Ex → List Nat
  | .norm => n
  | .ret => r
  | .exit i => getX xs i
  | .goto _ => []
def weakP (k0 : Nat) (kp : Ex → List Nat) (K : Ex → St → Ans) : Ex → St → Ans :=
  fun e s => match e with
    | .norm => forceSt (s.head (kp .norm)) fun s => packSt k0 s fun s => K .norm s
    | .ret => forceSt (s.head (kp .ret)) fun s => packSt k0 s fun s => K .ret s
    | .exit i => forceSt (s.head (kp (.exit i))) fun s => packSt k0 s fun s => K (.exit i) s
    | .goto _ => none
def noHint : Hint := fun _ => []
theorem weakP_sound [BT] {F : Fr} {k0 : Nat} {kp : Ex → List Nat} {K : Ex → St → Ans} {stk : List (Array Value)} {nt : Nat} {res : AV × List Obj} {e : Exit} {a : Act} {w : World}
    (h : CPost F (weakP k0 kp K) stk nt res e a w) : CPost F K stk nt res e a w := by
  obtain ⟨F', e', s', C', hle, he, hK, hw, hS', hsz', hd'⟩ := h
  have key : ∀ e'', forceSt (s'.head (kp e'')) (fun s => packSt k0 s fun s => K e'' s) = some res → e''.toExit = e → CPost F K stk nt res e a w := by
    intro e'' h he
    rw [forceSt_eq] at h
    obtain ⟨C1, hw1, hS1⟩ := head_sound hS' (kp e'')
    obtain ⟨s2, C2, hw2, hS2, h⟩ := packSt_sound hS1 h
    exact ⟨F', e'', s2, C2, hle, he, h, hw2.trans (hw1.trans hw), hS2, hsz', hd'⟩
  cases e' with
  | norm => exact key _ hK he
  | ret => exact key _ hK he
  | exit i => exact key _ hK he
  | goto l => cases hK
section
variable [BT] (hm : P.follows .mixedOrders = true) (hT : TabOk P T) (hE : EnvOk P E)
include hm hT hE
theorem csum_of {nt d : Nat} (k0 : Nat) (kp : Ex → List Nat) {c : Code} {x : Ann} (hx : AnnOk P nt c x) {G : (Ex → St → Ans) → St → Ans}
    (h : ∀ K s res, G K s = some res → ∃ m n, codeI T E hint (codeD T E hint d m) n nt x c (weakP k0 kp K) s = some res) : CSum P nt c G := by
  intro r F K s C a stk res hG hro hS hsz hd
  obtain ⟨m, n, hn⟩ := h K s res hG
  exact wpIn_mono ((codeI_sound (hint := hint) hm hT hE (codeD_sound (hint := hint) hm hT hE d m) n).1 hn hx hro hS hsz hd) fun e a w hp => weakP_sound hp
theorem csum_node {nt d m n : Nat} (k0 : Nat) (kp : Ex → List Nat) {c : Code} {x : Ann} (hx : AnnOk P nt c x) {I Y : Type} {S : I → St} {dec : St → Option I} {f : I → Option Y} {p : I → (Y → Ans) → Ans} {out : I → (Ex → St → Ans) → Y → Ans}
    (hdec : ∀ s i, dec s = some i → s = S i) (hnode : ∀ i K, codeI T E hint (codeD T E hint d m) n nt x c (weakP k0 kp K) (S i) = p i (out i K)) (hnat : ∀ i k, p i k = bindO (f i) k) :
    CSum P nt c (sumN dec f out) := by
  refine csum_of (hint := hint) (d := d) hm hT hE k0 kp hx ?_
  intro K s res h
  obtain ⟨i, hi, h⟩ := bindO_some' h
  refine ⟨m, n, ?_⟩
  rw [hdec s i hi, hnode, hnat]
  exact h
theorem csum_loop {nt d m : Nat} (k0 : Nat) (kp : Ex → List Nat) {c : Code} {x : Ann} (hx : AnnOk P nt (.loop c) x)
    {I V Y : Type} {S : I → V → St} {dec : St → Option (I × V)} {step : I → V → (V → Ans) → (Y → Ans) → Ans} {f : I → V → Option (V ⊕ Y)} {out : I → (Ex → St → Ans) → Y → Ans}
    (hdec : ∀ s x, dec s = some x → s = S x.1 x.2)
    (hstep : ∀ n i v K, codeI T E hint (codeD T E hint d m) (n + 1) nt x (.loop c) (weakP k0 kp K) (S i v) =
      step i v (fun v' => codeI T E hint (codeD T E hint d m) n nt x (.loop c) (weakP k0 kp K) (S i v')) (fun z => out i K z))
    (hnat : ∀ i v next exit, step i v next exit = bindO (f i v) (Sum.elim next exit)) : CSum P nt (.loop c) (sumL dec f out) := by
  refine csum_of (hint := hint) (d := d) hm hT hE k0 kp hx ?_
  intro K s res h
  unfold sumL at h
  obtain ⟨⟨i, v⟩, hd, h⟩ := bindO_some' h
  obtain ⟨z, hr, h⟩ := bindO_some' h
  refine ⟨m, FUEL, ?_⟩
  rw [hdec s _ hd, iterK_run (step := step i) (f := fun n v => codeI T E hint (codeD T E hint d m) n nt x (.loop c) (weakP k0 kp K) (S i v)) (k := fun z => out i K z)
    (fun v => by rw [codeI]) (fun n v => hstep n i v K) FUEL v, iterK_loopD (f := f i) (fun v next exit => hnat i v next exit) FUEL v z hr]
  exact h
theorem func_mkD {g n : Nat} {fn : Func} {c : Code} (hf : P.funcs[g]? = some fn) (hb : fn.body = some c) (hn : fn.name ≠ "runtime.NumGoroutine") {d : Nat} {x : Ann} (hx : AnnOk P fn.ntmps c x)
    {A Y : Type} {dec : List AV → List Obj → Option A} {argsOf : A → List AV × List Obj} (hdec : ∀ l H a, dec l H = some a → (l, H) = argsOf a) {p : A → (Y → Ans) → Ans} {f : A → Option Y} {out : A → (AV → List Obj → Ans) → Y → Ans}
    (hfn : ∀ a K, fnE T E hint d n g fn.ntmps fn.results.toList x c (argsOf a).1 (argsOf a).2 K = p a (out a K)) (hnat : ∀ a k, p a k = bindO (f a) k) :
    FuncOk P g (fun l H K => bindO (dec l H) fun a => bindO (f a) fun y => out a K y) :=
  func_mk (hint := hint) hm hT hE hf hb hn hx hdec (f := fun a K => p a (out a K)) (v := fun a K => bindO (f a) fun y => out a K y) hfn
    (fun a K res h => by rw [hnat]; exact h)
theorem pure_mkD {g n : Nat} {fn : Func} {c : Code} (hf : P.funcs[g]? = some fn) (hb : fn.body = some c) (hn : fn.name ≠ "runtime.NumGoroutine") {d : Nat} {x : Ann} (hx : AnnOk P fn.ntmps c x)
    {A Y : Type} {dec : List AV → Option A} {argsOf : A → List AV} (hdec : ∀ l a, dec l = some a → l = argsOf a) {p : A → (Y → Ans) → Ans} {f : A → Option Y} {rend : A → Y → AV}
    (hfn : ∀ a, fnE T E hint d n g fn.ntmps fn.results.toList x c (argsOf a) [] (fun v _ => some (v, [])) = p a (fun y => some (rend a y, []))) (hnat : ∀ a k, p a k = bindO (f a) k) (hcl : ∀ a y, (rend a y).closed1 = true) :
    PureOk P g (fun l K => bindO (dec l) fun a => bindO (f a) fun y => K (rend a y)) :=
  pure_mk (hint := hint) hm hT hE hf hb hn hx hdec (f := fun a K => bindO (f a) fun y => K (rend a y)) (v := fun a K => bindO (f a) fun y => K (rend a y))
    (fun a => by rw [hfn, hnat])
    (fun a K res h => by
      obtain ⟨y, hy, h⟩ := bindO_some' h
      refine ⟨rend a y, hcl a y, h, ?_⟩
      dsimp only
      rw [hy]
      rfl)
end
theorem annOk_at [BT] {nt : Nat} {c : Code} {x : Ann} {k0 : Nat} {keep : List Nat} (h : cutP P nt c x (AnnOk P nt c x)) : AnnOk P nt (.loop c) (.at k0 keep (.loop x)) := ⟨h, fun G e => by cases e⟩
def altF {A : Type} (d : List AV → List Obj → Option A) (v : A → (AV → List Obj → Ans) → Ans) (F : List AV → List Obj → (AV → List Obj → Ans) → Ans) : List AV → List Obj → (AV → List Obj → Ans) → Ans :=
  fun l H K => match d l H with
    | some a => v a K
    | none => F l H K
theorem func_altF [BT] {g : Nat} {A : Type} {d : List AV → List Obj → Option A} {v : A → (AV → List Obj → Ans) → Ans} {F : List AV → List Obj → (AV → List Obj → Ans) → Ans}
    (h1 : FuncOk P g (fun l H K => bindO (d l H) fun a => v a K)) (h2 : FuncOk P g F) : FuncOk P g (altF d v F) := func_alt' h1 h2
end Go.AE
namespace Go.AE
theorem loopD_inv {V Y : Type} {f : V → Option (V ⊕ Y)} (Inv : Nat → V → Prop) (N : Nat) (Q : Y → Prop)
    (h : ∀ j v, Inv j v → (∃ v', f v = some (.inl v') ∧ j < N ∧ Inv (j + 1) v') ∨ ∃ y, f v = some (.inr y) ∧ Q y) {v : V} (h0 : Inv 0 v) (hN : N ≤ 18446744073709551000) :
    ∃ y, loopD f FUEL v = some y ∧ Q y := by
  have key : ∀ d j v, j + d = N → Inv j v → ∃ y, loopD f (d + 1) v = some y ∧ Q y := by
    intro d
    induction d with
    | zero =>
      intro j v hj hi
      rcases h j v hi with ⟨v', _, hlt, _⟩ | ⟨y, hf, hq⟩
      · omega
      · exact ⟨y, by rw [loopD, hf]; rfl, hq⟩
    | succ d ih =>
      intro j v hj hi
      rcases h j v hi with ⟨v', hf, hlt, hi'⟩ | ⟨y, hf, hq⟩
      · obtain ⟨y, hy, hq⟩ := ih (j + 1) v' (by omega) hi'
        exact ⟨y, by rw [loopD, hf]; exact hy, hq⟩
      · exact ⟨y, by rw [loopD, hf]; rfl, hq⟩
  obtain ⟨y, hy, hq⟩ := key N 0 v (by omega) h0
  exact ⟨y, loopD_more _ _ v y (by unfold FUEL; omega) hy, hq⟩
theorem loopD_each {α σ Y V : Type} {f : V → Option (V ⊕ Y)} (l : List α) (enc : Nat → σ → V) (Inv : Nat → σ → Prop) (Q : Y → Prop)
    (hs : ∀ j x s, l[j]? = some x → j < l.length → Inv j s → (∃ s', f (enc j s) = some (.inl (enc (j + 1) s')) ∧ Inv (j + 1) s') ∨ ∃ y, f (enc j s) = some (.inr y) ∧ Q y)
    (he : ∀ s, Inv l.length s → ∃ y, f (enc l.length s) = some (.inr y) ∧ Q y) {s0 : σ} (h0 : Inv 0 s0) (hl : l.length ≤ 18446744073709551000) :
    ∃ y, loopD f FUEL (enc 0 s0) = some y ∧ Q y := by
  refine loopD_inv (fun j v => j ≤ l.length ∧ ∃ s, v = enc j s ∧ Inv j s) l.length Q ?_ ⟨Nat.zero_le _, s0, rfl, h0⟩ hl
  rintro j v ⟨hj, s, rfl, hi⟩
  by_cases hlt : j < l.length
  · rcases hs j l[j] s (List.getElem?_eq_getElem hlt) hlt hi with ⟨s', h1, h2⟩ | h
    · exact .inl ⟨_, h1, hlt, hlt, s', rfl, h2⟩
    · exact .inr h
  · obtain rfl : j = l.length := by omega
    exact .inr (he s hi)
theorem wrap64_self {x : Int} (h : -9223372036854775808 ≤ x ∧ x ≤ 9223372036854775807) : IntKind.wrap .i64 x = x := wrap64 h.1 h.2
theorem wrap64_nat {n : Nat} (h : n < 9223372036854775807) : IntKind.wrap .i64 ((n : Int) + 1) = ((n + 1 : Nat) : Int) := by rw [wrap64 (by omega) (by omega)]; rfl
theorem ble_true {a b : Nat} (h : a ≤ b) : Nat.ble a b = true := Nat.ble_eq_true_of_le h
theorem dec_true {p : Prop} [Decidable p] (h : p) : decide p = true := decide_eq_true h
theorem dec_false {p : Prop} [Decidable p] (h : ¬ p) : decide p = false := decide_eq_false h
theorem inR_true {i : Int} {n : Nat} (h : 0 ≤ i ∧ i < (n : Int)) : inR i n = true := by simp [inR, h]
theorem nth_of {α : Type} {l : List α} {j : Nat} {x : α} (h : l[j]? = some x) : nth l (j : Int) = some x := by rw [nth_nat, h]
theorem ibeq (a b : Int) : (a == b) = decide (a = b) := rfl
theorem ibne (a b : Int) : (a != b) = !decide (a = b) := rfl
end Go.AE
namespace Go.AE
open Go.RowKit (Below)
variable {P : Program} {T : Tab} {E : Env} {hint : Hint}
theorem keepT_or (env : Tmps) (n : Nat) : ∀ l : List Nat, getT (keepT env l) n = .unk ∨ getT (keepT env l) n = getT env n
  | [] => .inl rfl
  | d :: r => by
    rw [keepT, getT_cons]
    split
    · rename_i e; subst e; exact .inr rfl
    · exact keepT_or env n r
def GhOr (n : Nat) (L : List Int) (s : St) : Prop := getT s.env n = .gh L ∨ getT s.env n = .unk
theorem GhOr.map {n : Nat} {L : List Int} {env : Tmps} (g : AV → AV) (h : getT env n = .gh L ∨ getT env n = .unk) : getT (mapTmps g env) n = .gh L ∨ getT (mapTmps g env) n = .unk := by
  rw [getT_mapTmps]
  rcases h with h | h <;> rw [h]
  · exact .inl rfl
  · exact .inr rfl
theorem packSt_at (k0 : Nat) (s : St) (n : Nat) (L : List Int) (h : GhOr n L s) : (∃ s', GhOr n L s' ∧ ∀ K, packSt k0 s K = K s') ∨ ∀ K, packSt k0 s K = none := by
  unfold packSt
  simp only [forceN_eq, forceSt_eq]
  generalize reach s.H 400 _ [] = sel
  generalize selOk s.H _ sel = b
  cases b with
  | true => exact .inl ⟨⟨mapTmps (AV.reId (idxOf sel)) s.env, mapStk (AV.reId (idxOf sel)) s.stk, pickObjs s.H (idxOf sel) sel, s.blk⟩, GhOr.map _ h, fun K => rfl⟩
  | false => exact .inr fun K => rfl
theorem head_gh (s : St) (n : Nat) (L : List Int) (keep : List Nat) (h : GhOr n L s) : GhOr n L (s.head keep) := by
  show getT (keepT s.env keep) n = _ ∨ getT (keepT s.env keep) n = _
  rcases keepT_or s.env n keep with e | e
  · exact .inr e
  · rw [e]; exact h
theorem headE_at (keep : List Nat) (x : Ann) (s : St) (n : Nat) (L : List Int) (h : GhOr n L s) : (∃ s', GhOr n L s' ∧ ∀ K, headE keep x s K = K s') ∨ ∀ K, headE keep x s K = none := by
  unfold headE
  cases x.at? with
  | some p =>
    obtain ⟨k0, keep'⟩ := p
    simp only [forceSt_eq]
    exact packSt_at k0 _ n L (head_gh s n L keep' h)
  | none =>
    simp only [forceSt_eq]
    cases x.pack? with
    | some k0 => exact packSt_at k0 _ n L (head_gh s n L keep h)
    | none => exact .inl ⟨_, head_gh s n L keep h, fun K => rfl⟩
open Classical in
theorem headE_gh [BT] {F : Fr} {C : Cx} {s : St} {tmps : Array Value} {stk : List (Array Value)} (hS : SRel F C s tmps stk) {keep : List Nat} {x : Ann} {K : St → Ans} {res : AV × List Obj} (h : headE keep x s K = some res) {n : Nat} {L : List Int} (hg : GhOr n L s) :
    ∃ s' C', C'.w = C.w ∧ SRel F C' s' tmps stk ∧ K s' = some res ∧ GhOr n L s' := by
  rcases headE_at keep x s n L hg with ⟨s0, h0, e⟩ | e
  · have h2 : headE keep x s (fun s' => if GhOr n L s' then K s' else none) = some res := by
      rw [e]
      rw [e] at h
      rw [if_pos h0]
      exact h
    obtain ⟨s', C', h3, h4, h5⟩ := headE_sound hS h2
    split at h5
    · rename_i hg'; exact ⟨s', C', h3, h4, h5, hg'⟩
    · cases h5
  · rw [e] at h; cases h
open Classical in
theorem packSt_gh [BT] {F : Fr} {C : Cx} {s : St} {tmps : Array Value} {stk : List (Array Value)} (hS : SRel F C s tmps stk) {k0 : Nat} {K : St → Ans} {res : AV × List Obj} (h : packSt k0 s K = some res) {n : Nat} {L : List Int} (hg : GhOr n L s) :
    ∃ s' C', C'.w = C.w ∧ SRel F C' s' tmps stk ∧ K s' = some res ∧ GhOr n L s' := by
  rcases packSt_at k0 s n L hg with ⟨s0, h0, e⟩ | e
  · have h2 : packSt k0 s (fun s' => if GhOr n L s' then K s' else none) = some res := by
      rw [e]
      rw [e] at h
      rw [if_pos h0]
      exact h
    obtain ⟨s', C', h3, h4, h5⟩ := packSt_sound hS h2
    split at h5
    · rename_i hg'; exact ⟨s', C', h3, h4, h5, hg'⟩
    · cases h5
  · rw [e] at h; cases h
theorem getT_dropT (n t : Nat) : ∀ env : Tmps, getT (dropT n env) t = if t = n then .unk else getT env t
  | [] => by rw [dropT, getT_nil]; split <;> rfl
  | (d, v) :: r => by
    rw [dropT]
    cases hb : Nat.beq d n with
    | true =>
      have hd := Nat.eq_of_beq_eq_true hb
      rw [cond_true, getT_dropT n t r, getT_cons]
      by_cases e : t = n
      · rw [if_pos e, if_pos e]
      · rw [if_neg e, if_neg e, if_neg (by omega)]
    | false =>
      rw [cond_false, getT_cons, getT_cons, getT_dropT n t r]
      by_cases e : d = t
      · have : t ≠ n := by intro h; rw [← e] at h; rw [h, Nat.beq_refl] at hb; cases hb
        rw [if_pos e, if_neg this, if_pos e]
      · rw [if_neg e, if_neg e]
theorem ERel.drop {C : Cx} {env : Tmps} {tmps : Array Value} (h : ERel C env tmps) (n : Nat) : ERel C (dropT n env) tmps := by
  intro t
  rw [getT_dropT]
  split
  · rw [VRel]; trivial
  · exact h t
theorem ERel.gh {C : Cx} {env : Tmps} {tmps : Array Value} (h : ERel C env tmps) (n : Nat) (L : List Int) : ERel C ((n, .gh L) :: env) tmps := by
  intro t
  rw [getT_cons]
  split
  · rw [VRel]; trivial
  · exact h t
theorem putPs_sound {C : Cx} {nt : Nat} : ∀ {ps : List Nat} {xs : List AV} {env : Tmps} {K : Tmps → Ans} {res : AV × List Obj} {vs : List Value} {tmps : Array Value}, putPs nt ps xs env K = some res → VRels C xs vs → ERel C env tmps → nt ≤ tmps.size →
    ∃ env', K env' = some res ∧ ps.length = vs.length ∧ ERel C env' ((ps.zip vs).foldl (fun t (p : Nat × Value) => t.setIfInBounds p.1 p.2) tmps) ∧ nt ≤ ((ps.zip vs).foldl (fun t (p : Nat × Value) => t.setIfInBounds p.1 p.2) tmps).size
  | [], [], env, K, res, vs, tmps, h, hv, he, hn => by
    rw [putPs] at h
    rw [VRels] at hv
    subst hv
    exact ⟨env, h, rfl, he, hn⟩
  | p :: r, x :: xs, env, K, res, vs, tmps, h, hv, he, hn => by
    rw [putPs] at h
    replace h := cond_none h; obtain ⟨hp, h⟩ := h
    rw [forceV_eq] at h
    rw [VRels] at hv
    obtain ⟨v, vs', rfl, h1, h2⟩ := hv
    have hp : p < nt := Nat.lt_of_lt_of_le (Nat.lt_succ_self p) (Nat.le_of_ble_eq_true hp)
    obtain ⟨env', g1, g2, g3, g4⟩ := putPs_sound (tmps := tmps.setIfInBounds p v) h h2 (ERel.put he h1 (by omega)) (by simpa using hn)
    exact ⟨env', g1, by simp [g2], g3, g4⟩
  | [], _ :: _, _, _, _, _, _, h, _, _, _ => by simp [putPs] at h
  | _ :: _, [], _, _, _, _, _, h, _, _, _ => by simp [putPs] at h
theorem iterOf_spec {C : Cx} {s : St} {g : Operand} {it : (List AV → List Obj → (List Int → Ans) → Ans) × (List AV → List Obj → List Int → Ans → (List AV → List Int → Ans) → Ans) × List AV} {a : Act} (h : iterOf E s g = some it) (he : ERel C s.env a.tmps) :
    ∃ gf us, Env.get E (gf + 100000) = some (.iter it.1 it.2.1) ∧ a.eval g = .func (.func gf) #[] us ∧ VRels C it.2.2 us.toList := by
  unfold iterOf at h
  have hv := opd_rel (C := C) he g
  split at h
  · rename_i gf cap hf
    rw [hf, VRel] at hv
    obtain ⟨a', b', e, h1, h2⟩ := hv
    rw [VRels] at h1
    have h1 : a' = #[] := by
      cases a'
      simpa using h1
    subst h1
    split at h
    · rename_i st nx hg
      cases h
      exact ⟨gf, b', hg, e, h2⟩
    · cases h
  · cases h
def recOf (fn : Nat) (a : Act) (ps : Array Nat) (as c : Code) (dd : Nat) (st : LoopState) (pe : Option Code) : Go.Loop :=
  { state := st, pending := pe, fn, tmps := a.tmps, params := ps, assign := as, body := c, defers := dd }
def MarkIn (C : Cx) (mark : List Deferred) (lo l : Nat) : Prop := mark = [] ∨ ∃ D, mark = [{ target := .collected D, args := #[] }] ∧ lo ≤ D ∧ D ≠ l ∧ C.w.heap[D]? = some (.deferred (some [])) ∧ C.Beside D
theorem Beside.new [BT] {C : Cx} (hh : HRel C) {b : Nat} (h : C.w.heap.size ≤ b) : C.Beside b :=
  ⟨fun hb => by have := hh.rlt b hb; omega, fun i hl hb => by have := hh.blk_lt hl hb; omega⟩
theorem enter_any [BT] {r : Option Nat} {F : Fr} {C : Cx} (hh : HRel C) (hro : RndOk r F) (hF : FrameOk F C) (fn : Nat) (a : Act) (ps : Array Nat) (as c : Code) :
    ∃ l mark W1 dd, (Instr.enterLoop fn a.tmps ps as c r).run P C.w = .ok (l, mark) W1 ∧ W1.heap[l]? = some (.loop (recOf fn a ps as c dd .ready none)) ∧ C.w.heap.size ≤ l ∧ Below C.w.heap.size C.w W1 ∧ l < W1.heap.size ∧
      ∀ C' : Cx, HRel C' → C'.w.heap.size = C.w.heap.size → MarkIn (C'.at W1) mark C.w.heap.size l := by
  cases r with
  | none =>
    refine ⟨C.w.heap.size + 1, _, _, C.w.heap.size, run_enterLoop_outer _ _ _ _ _, ?_, by omega, ?_, by simp, fun C' hh' hs' => .inr ⟨C.w.heap.size, rfl, Nat.le_refl _, by omega, ?_, ?_⟩⟩
    · have := World.alloc_heap_new (C.w.alloc (.deferred (some []))) (.loop (recOf fn a ps as c C.w.heap.size .ready none))
      rwa [World.size_alloc] at this
    · exact ((Below.refl _ C.w).alloc (Nat.le_refl _) _).alloc (by simp) _
    · exact (Below.heap_alloc _ _ _ (by simp)).trans (World.alloc_heap_new C.w _)
    · exact Beside.new hh' (Nat.le_of_eq hs')
  | some l0 =>
    obtain ⟨r0, h0⟩ := hro l0 rfl
    refine ⟨C.w.heap.size, _, _, r0.defers, run_enterLoop_inner (h0.at hF).1 _ _ _ _ _, ?_, Nat.le_refl _, ?_, by simp, fun _ _ _ => .inl rfl⟩
    · exact World.alloc_heap_new C.w _
    · exact (Below.refl _ C.w).alloc (Nat.le_refl _) _
def jumpOf : Ex → Option Code
  | .ret => some .ret
  | .exit i => some (.exit i)
  | _ => none
theorem below_priv [BT] {C : Cx} (hh : HRel C) {W : World} (h : Below C.w.heap.size C.w W) (n0 : Nat) : Priv n0 C W :=
  ⟨h.os, h.tape, h.output, h.size, fun b hb _ => h.block b hb, fun b hb => h.block b (hh.rlt b hb), fun i b hl hb => h.block b (hh.blk_lt hl hb)⟩
section
variable [BT] (hm : P.follows .mixedOrders = true) (hT : TabOk P T) (hE : EnvOk P E)
include hm hT hE
theorem csum_rounds {nt d m : Nat} (k0 : Nat) (kp : Ex → List Nat) (keep : List Nat) {g : Operand} {ps : Array Nat} {as c : Code} {x : Ann} (hx : cutP P nt c x.fst (AnnOk P nt c x.fst)) {G : (Ex → St → Ans) → St → Ans}
    (h : ∀ K s res, G K s = some res → ∃ n, codeI T E hint (codeD T E hint d m) n nt (.rnd x) (.rangeFunc g ps as c) (weakP k0 kp K) s = some res) :
    CSum P nt (.rangeFunc g ps as c) (startG E nt k0 keep g G) := by
  intro r F K0 s C a stk res hG hro hS hsz hd
  unfold startG at hG
  obtain ⟨it, hit, hG⟩ := bindO_some hG
  obtain ⟨start, next, cap⟩ := it
  dsimp only at hG
  obtain ⟨gf, us, hget, hev, hcap⟩ := iterOf_spec (a := a) hit hS.env
  dsimp only at hget hcap
  obtain ⟨start0, nx, hIt, hst0, hnx⟩ : SpecOk P (gf + 100000) (.iter start next) := hE _ _ hget
  rw [Nat.add_sub_cancel] at hIt
  rw [hst0] at hG
  obtain ⟨L, hL, hG⟩ := bindO_some hG
  obtain ⟨env, sk, H, blk⟩ := s
  dsimp only at hG
  rw [forceSt_eq] at hG
  have hS1 : SRel F C ⟨(nt, .gh L) :: env, sk, H, blk⟩ a.tmps stk := ⟨hS.H, hS.heap, ERel.gh hS.env nt L, hS.stk, hS.frame⟩
  obtain ⟨C2, hw2, hS2⟩ := head_sound hS1 keep
  have hg2 : GhOr nt L (St.head ⟨(nt, .gh L) :: env, sk, H, blk⟩ keep) := head_gh _ nt L keep (.inl (by show getT ((nt, .gh L) :: env) nt = _; rw [getT_cons, if_pos rfl]))
  obtain ⟨s3, C3, hw3, hS3, hG, hg3⟩ := packSt_gh hS2 hG hg2
  obtain ⟨n3, hn3⟩ := h K0 s3 res hG
  obtain ⟨K, hK⟩ : ∃ K, K = weakP k0 kp K0 := ⟨_, rfl⟩
  rw [← hK] at hn3
  refine wpIn_mono ?_ (fun e a w hp => weakP_sound (k0 := k0) (kp := kp) hp)
  rw [← hK]
  have hgoto : ∀ l s', K (.goto l) s' ≠ some res := fun l s' h' => by rw [hK] at h'; cases h'
  clear hG h
  -- a round's evaluation, unfolded
  have unf : ∀ {F' : Fr} {C' : Cx} {n : Nat} {s' : St} {L' : List Int} {stk' : List (Array Value)}, SRel F' C' s' a.tmps stk' → GhOr nt L' s' → codeI T E hint (codeD T E hint d m) n nt (.rnd x) (.rangeFunc g ps as c) K s' = some res →
      ∃ n' cap', n = n' + 1 ∧ getT s'.env nt = .gh L' ∧ iterOf E s' g = some (start, next, cap') ∧ VRels C' cap' us.toList ∧ ∃ o, nx cap' C'.H L' = some o ∧ (o = none → K .norm s' = some res) ∧
        ∀ xs L2, o = some (xs, L2) → (match s' with
       | ⟨env, stk, H, blk⟩ => putPs nt ps.toList xs (dropT nt env) fun env' =>
          codeW T E hint (codeD T E hint d m) nt (codeI T E hint (codeD T E hint d m) n') as .none (fun e s1 => match e with
            | .norm => cutOr (fun x K s => codeW T E hint (codeD T E hint d m) nt (codeI T E hint (codeD T E hint d m) n') c x K s) x.fst
                (popT blk fun e s => match e with
                  | .norm => match s with
                    | ⟨env, stk, H, blk⟩ => headE (hint blk) x ⟨(nt, .gh L2) :: env, stk, H, blk⟩ fun s => codeI T E hint (codeD T E hint d m) n' nt (.rnd x) (.rangeFunc g ps as c) K s
                  | e => K e s) s1
            | _ => none) ⟨env', dropT nt env :: stk, H, blk⟩) = some res := by
    intro F' C' n s' L' stk' hS' hg hev'
    cases n with
    | zero => rw [codeI] at hev'; cases hev'
    | succ n =>
      rw [codeI] at hev'
      unfold roundR at hev'
      rcases hg with hg | hg
      · rw [hg] at hev'
        simp only at hev'
        obtain ⟨it, hit, hev'⟩ := bindO_some hev'
        obtain ⟨gf', us', hget', hev2, hcap'⟩ := iterOf_spec (a := a) hit hS'.env
        rw [hev] at hev2
        cases hev2
        rw [hget] at hget'
        obtain ⟨st', nx', cap'⟩ := it
        dsimp only at hget' hev' hcap'
        cases hget'
        rw [hnx] at hev'
        obtain ⟨o, ho, hev'⟩ := bindO_some hev'
        refine ⟨n, cap', rfl, hg, hit, hcap', o, by rw [hS'.H]; exact ho, fun e => by subst e; exact hev', fun xs L2 e => by subst e; exact hev'⟩
      · rw [hg] at hev'
        cases hev'
  refine wpIn_rangeFunc ?_
  intro fn _
  obtain ⟨l, mark, W1, dd, hent, hrec, hl0, hbel, hl1, hmark⟩ := enter_any hS.heap hro hS.frame fn a ps as c
  refine ⟨l, mark, W1, { target := .fn (.func gf) us, args := #[.func (.yield l) #[] #[]] }, W1, gf, #[.func (.yield l) #[] #[]] ++ us, W1, hent, ?_, fun _ _ => trivial, ?_, WF_depth r 0, ?_⟩
  · simp only [resolve, hev]
    simp [go_sem]
  · have := fun w => hIt.1.run (#[.func (.yield l) #[] #[]] ++ us) w
    simp [invoke, go_sem] at this ⊢
    exact this W1
  have hw31 : C3.w = C.w := hw3.trans hw2
  have hs0 : F.w0.heap.size ≤ l := Nat.le_trans hS.frame.size hl0
  have hS31 : SRel F (C3.at W1) s3 a.tmps stk := at_sound hS3 (by rw [hw31]; exact hbel)
  -- what holds between rounds
  obtain ⟨J, hJ⟩ : ∃ J : List Int → Cx → List AV → Prop, J = fun L' C' cap' => ∃ n s', codeI T E hint (codeD T E hint d m) n nt (.rnd x) (.rangeFunc g ps as c) K s' = some res ∧ GhOr nt L' s' ∧ iterOf E s' g = some (start, next, cap') ∧ SRel F C' s' a.tmps stk ∧
      C'.w.heap[l]? = some (.loop (recOf fn a ps as c dd .ready none)) ∧ C'.Beside l ∧ MarkIn C' mark C.w.heap.size l := ⟨_, rfl⟩
  obtain ⟨Jx, hJx⟩ : ∃ Jx : Cx → Prop, Jx = fun C' => ∃ e code s', jumpOf e = some code ∧ K e s' = some res ∧ SRel F C' s' a.tmps stk ∧
      C'.w.heap[l]? = some (.loop (recOf fn a ps as c dd .done (some code))) ∧ C'.Beside l ∧ MarkIn C' mark C.w.heap.size l := ⟨_, rfl⟩
  have hD1 : ∀ D, mark = [{ target := .collected D, args := #[] }] → D < W1.heap.size := by
    intro D hD
    rcases hmark C hS.heap rfl with e | ⟨D', e, _, _, h1, _⟩
    · rw [e] at hD; cases hD
    · rw [e] at hD
      cases hD
      exact (Array.getElem?_eq_some_iff.1 h1).1
  have mark_priv : ∀ (C' : Cx) (W : World), MarkIn C' mark C.w.heap.size l → Priv W1.heap.size C' W → MarkIn (C'.at W) mark C.w.heap.size l := by
    intro C' W h hp
    rcases h with e | ⟨D, e, h1, h2, h3, h4⟩
    · exact .inl e
    · exact .inr ⟨D, e, h1, h2, (hp.low D (Array.getElem?_eq_some_iff.1 h3).1 (hD1 D e)).trans h3, h4⟩
  have mark_put : ∀ (C' : Cx) (o : Go.Obj), MarkIn C' mark C.w.heap.size l → MarkIn (C'.at (C'.w.putObj l o)) mark C.w.heap.size l := by
    intro C' o h
    rcases h with e | ⟨D, e, h1, h2, h3, h4⟩
    · exact .inl e
    · exact .inr ⟨D, e, h1, h2, (World.putObj_heap_other h2).trans h3, h4⟩
  have mark_re : ∀ (C' C'' : Cx), MarkIn C' mark C.w.heap.size l → FrameOk (F.re C') C'' → MarkIn C'' mark C.w.heap.size l := by
    intro C' C'' h hf
    rcases h with e | ⟨D, e, h1, h2, h3, h4⟩
    · exact .inl e
    · have := (re_safe (F := F) h3 h4).at hf
      exact .inr ⟨D, e, h1, h2, this.1, this.2⟩
  obtain ⟨_, cap3, _, _, hit3, _, _⟩ := unf hS31 hg3 hn3
  have J0 : J L (C3.at W1) cap3 := by
    rw [hJ]
    exact ⟨n3, s3, hn3, hg3, hit3, hS31, hrec, Beside.new hS3.heap (by rw [hw31]; exact hl0), hmark C3 hS3.heap (by rw [hw31])⟩
  have hrun := hIt.2 (.func (.yield l) #[] #[]) (C.at W1) cap us L J Jx (at_heap hS.heap hbel) (VRels.mono (at_ref hS.heap hbel) (at_R hS.heap hbel) hcap) (by show start0 cap C.H = some L; rw [hS.H]; exact hL) ⟨C3.at W1, cap3, rfl, J0⟩ ?_ ?_ ?_ ?_
  · -- behind the iterator
    refine CallsIn.mono (F := WF r) hrun ?_
    -- a way out
    have fin : ∀ (C' : Cx) (s' : St) (o : Go.Obj) (e : Ex), SRel F C' s' a.tmps stk → C'.Beside l → MarkIn C' mark C.w.heap.size l → K e s' = some res →
        CPost F K stk nt res e.toExit { a with defers := mark ++ a.defers } (C'.w.putObj l o) := by
      intro C' s' o e hS' hb hmk hK'
      obtain ⟨C6, hC6⟩ : ∃ C6, C6 = C'.at (C'.w.putObj l o) := ⟨_, rfl⟩
      have hp : Priv F.w0.heap.size C' (C'.w.putObj l o) := putObj_priv o hb hs0
      have hS6 : SRel F C6 s' a.tmps stk := by rw [hC6]; exact priv_sound hS' (Nat.le_refl _) hp
      have hmk6 : MarkIn C6 mark C.w.heap.size l := by rw [hC6]; exact mark_put C' o hmk
      have hw6 : C'.w.putObj l o = C6.w := by rw [hC6]; rfl
      rw [hw6]
      have hle := re_le hS6.frame
      have hdre := hd.le hle
      refine ⟨F.re C6, e, s', C6, hle, rfl, hK', rfl, ⟨hS6.H, hS6.heap, hS6.env, hS6.stk, re_ok F C6⟩, hsz, hdre.1, ?_⟩
      rcases hmk6 with e' | ⟨D, e', h1, h2, h3, h4⟩
      · rw [e']; exact hdre.2
      · rw [e']
        refine ⟨⟨D, ⟨rfl, Nat.le_trans hd.1 (Nat.le_trans hS.frame.size h1), re_safe h3 h4⟩, ?_⟩, hdre.2⟩
        exact hd.2.fresh (Nat.le_trans hS.frame.size h1)
    rintro e W' ⟨rfl, hcase⟩
    rcases hcase with ⟨L', C', cap', rfl, hj, hnone⟩ | ⟨C', rfl, hj⟩
    · rw [hJ] at hj
      obtain ⟨n, s', hev', hg', hit', hS', hl', hbl', hmk'⟩ := hj
      obtain ⟨n', cap2, rfl, _, hit2, _, o, ho, hn, _⟩ := unf hS' hg' hev'
      rw [hit'] at hit2
      cases hit2
      rw [hnone] at ho
      cases ho
      exact ⟨none, _, run_endLoop hl' (by simp [recOf]), fin C' s' _ .norm hS' hbl' hmk' (hn rfl)⟩
    · rw [hJx] at hj
      obtain ⟨e, code, s', hcode, hK', hS', hl', hbl', hmk'⟩ := hj
      refine ⟨some code, _, run_endLoop hl' (by simp [recOf]), ?_⟩
      cases e with
      | norm => cases hcode
      | goto l => cases hcode
      | ret =>
        cases hcode
        exact wpIn_ret (fin C' s' _ .ret hS' hbl' hmk' hK')
      | exit i =>
        cases hcode
        exact wpIn_exit (fin C' s' _ (.exit i) hS' hbl' hmk' hK')
  · intro L' C1 cap1 hj
    rw [hJ] at hj
    obtain ⟨n, s', hev', hg', hit', hS', hl', hbl', hmk'⟩ := hj
    obtain ⟨n', cap2, rfl, _, hit2, hcap2, o, ho, _, _⟩ := unf hS' hg' hev'
    rw [hit'] at hit2
    cases hit2
    exact ⟨hS'.heap, hcap2, o, ho⟩
  · intro L' C1 cap1 W hj hp
    rw [hJ] at hj ⊢
    obtain ⟨n, s', hev', hg', hit', hS', hl', hbl', hmk'⟩ := hj
    exact ⟨n, s', hev', hg', hit', priv_sound hS' (Nat.le_trans hs0 (Nat.le_of_lt hl1)) hp, (hp.low l (Array.getElem?_eq_some_iff.1 hl').1 hl1).trans hl', hbl', mark_priv C1 W hmk' hp⟩
  · intro C1 W hj hp
    rw [hJx] at hj ⊢
    obtain ⟨e, code, s', hcode, hK', hS', hl', hbl', hmk'⟩ := hj
    exact ⟨e, code, s', hcode, hK', priv_sound hS' (Nat.le_trans hs0 (Nat.le_of_lt hl1)) hp, (hp.low l (Array.getElem?_eq_some_iff.1 hl').1 hl1).trans hl', hbl', mark_priv C1 W hmk' hp⟩
  · -- one round
    intro L1 C1 cap1 xs L2 hj hnxv vs hvs
    rw [hJ] at hj
    obtain ⟨n, s', hev', hg', hit', hS', hl', hbl', hmk'⟩ := hj
    obtain ⟨n', cap2, rfl, _, hit2, hcap2, o, ho, _, hgo⟩ := unf hS' hg' hev'
    rw [hit'] at hit2
    cases hit2
    rw [hnxv] at ho
    cases ho
    replace hgo := hgo xs L2 rfl
    obtain ⟨env, sk, H, blk⟩ := s'
    simp only at hgo
    obtain ⟨env', hgo, hlen, henv', hszr⟩ := putPs_sound hgo hvs (ERel.drop hS'.env nt) hsz
    have hy := run_yield (P := P) (args := vs) hl' (by simpa [recOf] using hlen.symm)
    have htm : ((recOf fn a ps as c dd .ready none).params.zip vs).foldl (fun tmps (t, a) => tmps.setIfInBounds t a) (recOf fn a ps as c dd .ready none).tmps = (ps.toList.zip vs.toList).foldl (fun t (p : Nat × Value) => t.setIfInBounds p.1 p.2) a.tmps := by
      rw [← Array.foldl_toList, Array.toList_zip]
      rfl
    rw [htm] at hy
    refine ⟨.yield l, #[], _, rfl, by simpa [invoke] using hy, roundIn_of_wpIn trivial ?_⟩
    generalize (ps.toList.zip vs.toList).foldl (fun t (p : Nat × Value) => t.setIfInBounds p.1 p.2) a.tmps = tmpsR at henv' hszr
    have hSA : SRel (F.re C1) C1 ⟨env', dropT nt env :: sk, H, blk⟩ tmpsR (a.tmps :: stk) := ⟨hS'.H, hS'.heap, henv', by rw [SStk]; exact ⟨_, _, rfl, ERel.drop hS'.env nt, hS'.stk⟩, re_ok F C1⟩
    have hbase : F.base ≤ C1.w.heap.size := Nat.le_trans hd.1 hS'.frame.size
    obtain ⟨_, ih2⟩ := codeI_sound (hint := hint) hm hT hE (codeD_sound (hint := hint) hm hT hE d m) n'
    refine wpIn_mono (codeW_sound hm hT hE (codeD_sound (hint := hint) hm hT hE d m) ih2 as (r := some l) (a := { tmps := tmpsR, defers := [] }) hgo (annOk_none P nt as) (fun l' e => by cases e; exact ⟨_, re_safe hl' hbl'⟩) hSA hszr ⟨hbase, trivial⟩) ?_
    rintro e1 a1 w1 ⟨FA, e', s1, C2, hleA, rfl, hK1, rfl, hS2, hsz2, hmk2⟩
    cases e' with
    | exit i => cases hK1
    | ret => cases hK1
    | goto i => cases hK1
    | norm =>
    simp only at hK1
    obtain ⟨hl2, hb2⟩ := (hleA.safe _ _ (re_safe hl' hbl')).at hS2.frame
    have hlt2 := (Array.getElem?_eq_some_iff.1 hl2).1
    refine ⟨_, run_beginRound hl2 rfl, ?_⟩
    obtain ⟨C3', hC3⟩ : ∃ C3', C3' = C2.at (C2.w.putObj l (.loop { recOf fn a ps as c dd .ready none with state := .busy })) := ⟨_, rfl⟩
    have hw3' : C2.w.putObj l (.loop { recOf fn a ps as c dd .ready none with state := .busy }) = C3'.w := by rw [hC3]; rfl
    rw [hw3']
    have hp2 : Priv F.w0.heap.size C2 (C2.w.putObj l (.loop { recOf fn a ps as c dd .ready none with state := .busy })) := putObj_priv _ hb2 hs0
    have hF2 : FrameOk F C2 := (re_le hS'.frame).frame _ (hleA.frame _ hS2.frame)
    have hS2F : SRel F C2 s1 a1.tmps (a.tmps :: stk) := ⟨hS2.H, hS2.heap, hS2.env, hS2.stk, hF2⟩
    have hS3F : SRel F C3' s1 a1.tmps (a.tmps :: stk) := by rw [hC3]; exact priv_sound hS2F (Nat.le_refl _) hp2
    have hS3B : SRel (F.re C3') C3' s1 a1.tmps (a.tmps :: stk) := ⟨hS3F.H, hS3F.heap, hS3F.env, hS3F.stk, re_ok F C3'⟩
    have hl3 : C3'.w.heap[l]? = some (.loop (recOf fn a ps as c dd .busy none)) := by rw [← hw3']; exact World.putObj_heap_same hlt2
    have hb3 : C3'.Beside l := by rw [hC3]; exact hb2
    have hmB : MarksOk (F.re C3') a1.defers := by
      refine ⟨by show F.base ≤ C3'.w.heap.size; rw [← hw3', World.putObj_size]; exact Nat.le_trans hbase (hleA.frame _ hS2.frame).size, MarksAll.to (F := FA) (F' := F.re C3') (show F.base = FA.base from hleA.base.symm) (fun D hD => ?_) hmk2.2⟩
      obtain ⟨g1, g2⟩ := hD.at hS2.frame
      have hne : D ≠ l := by intro e; subst e; rw [hl2] at g1; cases g1
      refine re_safe ?_ ?_
      · rw [← hw3']; exact (World.putObj_heap_other hne).trans g1
      · rw [hC3]; exact g2
    refine wpIn_mono (cutOr_sound (r := some l) (fun h hx hro hS hsz hd => codeW_sound hm hT hE (codeD_sound (hint := hint) hm hT hE d m) ih2 c h hx hro hS hsz hd) hK1 hx (fun l' e => by cases e; exact ⟨_, re_safe hl3 hb3⟩) hS3B hsz2 hmB) ?_
    rintro e3 a3 w3 ⟨FB, e', s4, C4, hleB, rfl, hK4, rfl, hS4, hsz4, hmk4⟩
    obtain ⟨hl4, hb4⟩ := (hleB.safe _ _ (re_safe hl3 hb3)).at hS4.frame
    have hlt4 := (Array.getElem?_eq_some_iff.1 hl4).1
    obtain ⟨env4, sk4, H4, blk4⟩ := s4
    unfold popT at hK4
    simp only at hK4
    split at hK4
    case h_2 => cases hK4
    case h_1 _ env5 sk5 =>
    have hstk := hS4.stk
    rw [SStk] at hstk
    obtain ⟨_, _, he, henv5, hsk5⟩ := hstk
    cases he
    have hS5 : SRel FB C4 ⟨env5, sk5, H4, blk⟩ a.tmps stk := ⟨hS4.H, hS4.heap, henv5, hsk5, hS4.frame⟩
    have toF : ∀ C', FrameOk FB C' → FrameOk F C' := fun C' h => (re_le hS3F.frame).frame _ (hleB.frame _ h)
    have hmk3 : MarkIn C3' mark C.w.heap.size l := by rw [hC3]; exact mark_put C2 _ (mark_re C1 C2 hmk' (hleA.frame _ hS2.frame))
    have kept : ∀ C', FrameOk FB C' → KeptB W1.heap.size C1 C' := fun C' h =>
      (KeptB.of_re (hleA.frame _ hS2.frame)).trans (KeptB.trans (by rw [hC3]; exact KeptB.putObj C2 _ hl1) (KeptB.of_re (hleB.frame _ h)))
    cases e' with
    | goto i => exact absurd hK4 (hgoto _ _)
    | norm =>
      simp only at hK4
      have hS5' : SRel FB C4 ⟨(nt, .gh L2) :: env5, sk5, H4, blk⟩ a.tmps stk := ⟨hS5.H, hS5.heap, ERel.gh hS5.env nt L2, hS5.stk, hS5.frame⟩
      obtain ⟨s6, C6, hw6, hS6, hev6, hg6⟩ := headE_gh hS5' hK4 (n := nt) (L := L2) (.inl (by show getT ((nt, .gh L2) :: env5) nt = _; rw [getT_cons, if_pos rfl]))
      obtain ⟨_, cap6, _, _, hit6, _, _⟩ := unf hS6 hg6 hev6
      obtain ⟨hl6, hb6⟩ := (hleB.safe _ _ (re_safe hl3 hb3)).at hS6.frame
      have hlt6 := (Array.getElem?_eq_some_iff.1 hl6).1
      refine ⟨_, _, run_endRound none hl4, .inl ⟨rfl, C6.at (C6.w.putObj l (.loop (recOf fn a ps as c dd .ready none))), cap6, by rw [← hw6]; rfl, ?_, ?_⟩⟩
      · rw [hJ]
        refine ⟨n', s6, hev6, hg6, hit6, priv_sound ⟨hS6.H, hS6.heap, hS6.env, hS6.stk, toF _ hS6.frame⟩ (Nat.le_refl _) (putObj_priv _ hb6 hs0), World.putObj_heap_same hlt6, hb6, mark_put C6 _ (mark_re C3' C6 hmk3 (hleB.frame _ hS6.frame))⟩
      · exact (kept C6 hS6.frame).trans (KeptB.putObj C6 _ hl1)
    | ret =>
      simp only at hK4
      refine ⟨_, _, run_endRound (some .ret) hl4, .inr ⟨rfl, C4.at (C4.w.putObj l (.loop (recOf fn a ps as c dd .done (some .ret)))), rfl, ?_, (kept C4 hS4.frame).trans (KeptB.putObj C4 _ hl1)⟩⟩
      rw [hJx]
      exact ⟨.ret, .ret, _, rfl, hK4, priv_sound ⟨hS5.H, hS5.heap, hS5.env, hS5.stk, toF _ hS5.frame⟩ (Nat.le_refl _) (putObj_priv _ hb4 hs0), World.putObj_heap_same hlt4, hb4, mark_put C4 _ (mark_re C3' C4 hmk3 (hleB.frame _ hS4.frame))⟩
    | exit i =>
      simp only at hK4
      refine ⟨_, _, run_endRound (some (.exit i)) hl4, .inr ⟨rfl, C4.at (C4.w.putObj l (.loop (recOf fn a ps as c dd .done (some (.exit i))))), rfl, ?_, (kept C4 hS4.frame).trans (KeptB.putObj C4 _ hl1)⟩⟩
      rw [hJx]
      exact ⟨.exit i, .exit i, _, rfl, hK4, priv_sound ⟨hS5.H, hS5.heap, hS5.env, hS5.stk, toF _ hS5.frame⟩ (Nat.le_refl _) (putObj_priv _ hb4 hs0), World.putObj_heap_same hlt4, hb4, mark_put C4 _ (mark_re C3' C4 hmk3 (hleB.frame _ hS4.frame))⟩
end
def rfG : Code → Operand | .rangeFunc g _ _ _ => g | _ => .tmp 0
def rfPs : Code → Array Nat | .rangeFunc _ ps _ _ => ps | _ => #[]
def rfAs : Code → Code | .rangeFunc _ _ as _ => as | _ => .skip
def rfC : Code → Code | .rangeFunc _ _ _ c => c | _ => .skip
def RH [BT] (T : Tab) (E : Env) (nt : Nat) (x : Ann) (c0 : Code) (k0 : Nat) (kp : Ex → List Nat) (G : (Ex → St → Ans) → St → Ans) : Prop :=
  ∀ K s res, G K s = some res → ∃ n, codeI T E noHint (codeD T E noHint 0 64) n nt (.rnd x) c0 (weakP k0 kp K) s = some res
theorem csum_rh [BT] (hm : P.follows .mixedOrders = true) (hT : TabOk P T) (hE : EnvOk P E) {nt : Nat} {x : Ann} {L : Code} {k0 : Nat} {kp : Ex → List Nat} (keep : List Nat) {G : (Ex → St → Ans) → St → Ans} (hL : L = .rangeFunc (rfG L) (rfPs L) (rfAs L) (rfC L))
    (hx : cutP P nt (rfC L) x.fst (AnnOk P nt (rfC L) x.fst)) (h : RH T E nt x (.rangeFunc (rfG L) (rfPs L) (rfAs L) (rfC L)) k0 kp G) : CSum P nt L (startG E nt k0 keep (rfG L) G) := by
  have key : CSum P nt (.rangeFunc (rfG L) (rfPs L) (rfAs L) (rfC L)) (startG E nt k0 keep (rfG L) G) := csum_rounds (hint := noHint) (d := 0) (m := 64) hm hT hE k0 kp keep hx h
  intro r F K s C a stk res h1 h2 h3 h4 h5
  rw [hL]
  exact key h1 h2 h3 h4 h5
#print axioms csum_rh
end Go.AE
namespace Go.AE
variable {P : Program} {T : Tab}
def hintGo (n : Nat) : List (Nat × List Nat) → List Nat
  | [] => []
  | (m, k) :: r => cond (Nat.beq n m) k (hintGo n r)
def hintOf (l : List (Nat × List Nat)) : Hint := fun b => hintGo (Nat.mod b 4096) l
structure RunI where
  g : Nat
  pure : Bool
  hints : List (Nat × List Nat)
def runFuel : Nat := 20000
section
variable [BT] (T : Tab) (E : Env) (h : List (Nat × List Nat)) (nt k0 : Nat)
noncomputable def annR : Nat → Code → Ann
  | b, .seq x y => .seq (annR b x) (annR b y)
  | b, .cond _ x y => .cond (annR b x) (annR b y)
  | _, .block id c => .block (annR id c)
  | b, .loop c => .loop (annR b c)
  | b, .rangeFunc g ps asn c => .cut k0 (hintGo b h) (startG E nt k0 (hintGo b h) g fun K s =>
      codeI T E (hintOf h) (codeD T E (hintOf h) 0 1) runFuel nt (.rnd (.block (annR b c))) (.rangeFunc g ps asn c) (weakP k0 (fun _ => hintGo b h) K) s)
  | _, _ => .none
end
def RunI.ok (P : Program) (i : RunI) : Bool :=
  match P.funcs[i.g]? with
  | some f => f.body.isSome && decide (f.name ≠ "runtime.NumGoroutine")
  | none => false
theorem annR_ok [BT] (hm : P.follows .mixedOrders = true) (hT : TabOk P T) {E : Env} (hE : EnvOk P E) (h : List (Nat × List Nat)) (nt k0 : Nat) :
    ∀ (c : Code) (b : Nat), cutP P nt c (annR T E h nt k0 b c) (AnnOk P nt c (annR T E h nt k0 b c)) ∧ AnnOk P nt c (annR T E h nt k0 b c) := by
  intro c
  induction c with
  | seq x y ihx ihy => intro b; rw [annR]; exact ⟨⟨(ihx b).1, (ihy b).1⟩, ⟨(ihx b).1, (ihy b).1⟩⟩
  | cond c x y ihx ihy => intro b; rw [annR]; exact ⟨⟨(ihx b).1, (ihy b).1⟩, ⟨(ihx b).1, (ihy b).1⟩⟩
  | block id c ih => intro b; rw [annR]; exact ⟨(ih id).1, (ih id).1⟩
  | loop c ih => intro b; rw [annR]; exact ⟨⟨(ih b).1, fun G e => by cases e⟩, ⟨(ih b).1, fun G e => by cases e⟩⟩
  | rangeFunc g ps asn c iha ihc =>
    intro b
    rw [annR]
    refine ⟨?_, trivial⟩
    exact csum_rounds (hint := hintOf h) (d := 0) (m := 1) hm hT hE k0 (fun _ => hintGo b h) (hintGo b h) (x := .block (annR T E h nt k0 b c)) (ihc b).1 (fun K s res e => ⟨runFuel, e⟩)
  | _ => intro b; exact ⟨trivial, trivial⟩
def konst (v : AV) : List AV → List Obj → (AV → List Obj → Ans) → Ans := fun l H K => match l, H with
  | [], [] => K v []
  | _, _ => none
end Go.AE
namespace Go.AE
open Go.RowKit (Below)
variable {P : Program} {T : Tab} {E : Env}
noncomputable def fN (n : Nat) (K : Nat → Ans) : Ans := @Nat.rec (fun _ => Ans) (K 0) (fun m _ => K (Nat.succ m)) n
theorem fN_eq (n : Nat) (K : Nat → Ans) : fN n K = K n := by cases n <;> rfl
noncomputable def fI (n : Int) (K : Int → Ans) : Ans := @Int.rec (fun _ => Ans) (fun m => fN m fun m => K (Int.ofNat m)) (fun m => fN m fun m => K (Int.negSucc m)) n
theorem fI_eq (n : Int) (K : Int → Ans) : fI n K = K n := by cases n <;> simp only [fI, fN_eq]
noncomputable def fB (b : Bool) (K : Bool → Ans) : Ans := @Bool.rec (fun _ => Ans) (K false) (K true) b
theorem fB_eq (b : Bool) (K : Bool → Ans) : fB b K = K b := by cases b <;> rfl
mutual
noncomputable def fV (v : AV) (K : AV → Ans) : Ans :=
  match v with
  | .int k n => fI n fun n => K (.int k n)
  | .bool b => fB b fun b => K (.bool b)
  | .str s => K (.str s)
  | .ptr i o => fN i fun i => fN o fun o => K (.ptr i o)
  | .tup vs => fVs vs fun vs => K (.tup vs)
  | .own i => fN i fun i => K (.own i)
  | .agg cs => fVs cs fun cs => K (.agg cs)
  | .nilp => K .nilp
  | .map i => fN i fun i => K (.map i)
  | .ro t l => K (.ro t l)
  | .nils => K .nils
  | .nilm => K .nilm
  | .nilf => K .nilf
  | .nili => K .nili
  | .ifc t v => fV v fun v => K (.ifc t v)
  | .eptr i n o => fN i fun i => fN n fun n => fN o fun o => K (.eptr i n o)
  | .sub i o l e => fN i fun i => fN o fun o => fN l fun l => K (.sub i o l e)
  | .fn f a b => fVs a fun a => fVs b fun b => K (.fn f a b)
  | .rptr t x o => fN o fun o => K (.rptr t x o)
  | .gh l => K (.gh l)
  | .unk => K .unk
noncomputable def fVs (l : List AV) (K : List AV → Ans) : Ans :=
  match l with
  | [] => K []
  | v :: r => fV v fun v => fVs r fun r => K (v :: r)
end
mutual
theorem fV_eq (v : AV) (K : AV → Ans) : fV v K = K v := by
  cases v <;> simp only [fV, fN_eq, fI_eq, fB_eq]
  · rw [fVs_eq, fVs_eq]
  · rw [fV_eq]
  · rw [fVs_eq]
  · rw [fVs_eq]
theorem fVs_eq (l : List AV) (K : List AV → Ans) : fVs l K = K l := by
  cases l <;> simp only [fVs]
  rw [fV_eq, fVs_eq]
end
noncomputable def fL {α : Type} (l : List α) : (List α → Ans) → Ans := @List.rec α (fun _ => (List α → Ans) → Ans) (fun K => K []) (fun x _ ih K => ih fun r => K (x :: r)) l
theorem fL_eq {α : Type} (l : List α) : ∀ K : List α → Ans, fL l K = K l := by
  induction l with
  | nil => intro K; rfl
  | cons x r ih => intro K; exact ih _
noncomputable def getF (env : Tmps) (t : Nat) : AV := @List.rec (Nat × AV) (fun _ => AV) .unk (fun p _ ih => @Bool.rec (fun _ => AV) ih p.2 (Nat.beq p.1 t)) env
theorem getF_eq (env : Tmps) (t : Nat) : getF env t = getT env t := by
  induction env with
  | nil => rfl
  | cons p r ih =>
    obtain ⟨d, v⟩ := p
    rw [getT]
    show @Bool.rec (fun _ => AV) (getF r t) v (Nat.beq d t) = _
    cases Nat.beq d t <;> simp [ih]
noncomputable def getO (H : List Obj) : Nat → Obj := @List.rec Obj (fun _ => Nat → Obj) (fun _ => .dead) (fun o _ ih n => @Nat.rec (fun _ => Obj) o (fun m _ => ih m) n) H
theorem getO_eq (H : List Obj) : ∀ n, getO H n = getH H n := by
  induction H with
  | nil => intro n; rfl
  | cons o r ih => intro n; cases n with
    | zero => rfl
    | succ n => exact ih n
noncomputable def nthF {α : Type} (l : List α) : Nat → Option α := @List.rec α (fun _ => Nat → Option α) (fun _ => none) (fun o _ ih n => @Nat.rec (fun _ => Option α) (some o) (fun m _ => ih m) n) l
theorem nthF_eq {α : Type} (l : List α) : ∀ n, nthF l n = l[n]? := by
  induction l with
  | nil => intro n; rfl
  | cons o r ih => intro n; cases n with
    | zero => rfl
    | succ n => exact (ih n).trans (by simp)
noncomputable def setF {α : Type} (l : List α) : Nat → α → (List α → Ans) → Ans := @List.rec α (fun _ => Nat → α → (List α → Ans) → Ans) (fun _ _ K => K [])
  (fun o r ih n x K => @Nat.rec (fun _ => Ans) (K (x :: r)) (fun m _ => ih m x fun r' => K (o :: r')) n) l
theorem setF_eq {α : Type} (l : List α) : ∀ n x (K : List α → Ans), setF l n x K = K (l.set n x) := by
  induction l with
  | nil => intro n x K; rfl
  | cons o r ih => intro n x K; cases n with
    | zero => rfl
    | succ n => exact ih n x _
noncomputable def addF {α : Type} (l : List α) (x : α) : (List α → Ans) → Ans := @List.rec α (fun _ => (List α → Ans) → Ans) (fun K => K [x]) (fun o _ ih K => ih fun r => K (o :: r)) l
theorem addF_eq {α : Type} (l : List α) (x : α) : ∀ K : List α → Ans, addF l x K = K (l ++ [x]) := by
  induction l with
  | nil => intro K; rfl
  | cons o r ih => intro K; exact ih _
noncomputable def lenF {α : Type} (l : List α) : (Nat → Ans) → Ans := @List.rec α (fun _ => (Nat → Ans) → Ans) (fun K => K 0) (fun _ _ ih K => ih fun n => K (Nat.succ n)) l
theorem lenF_eq {α : Type} (l : List α) : ∀ K : Nat → Ans, lenF l K = K l.length := by
  induction l with
  | nil => intro K; rfl
  | cons o r ih => intro K; exact ih _
structure CV where
  run : Tmps → AV
noncomputable def vOf : Operand → CV
  | .tmp t => ⟨fun env => getF env t⟩
  | .const v => ⟨fun _ => ofConst v⟩
  | .global _ => ⟨fun _ => .unk⟩
  | .func f => ⟨fun _ => .fn (.func f) [] []⟩
theorem vOf_eq (o : Operand) (env : Tmps) : (vOf o).run env = opd env o := by
  cases o <;> simp [vOf, opd, getF_eq]
noncomputable def updF (s : St) (i : Nat) (o : Obj) (K : St → Ans) : Ans :=
  @St.casesOn (fun _ => Ans) s fun env stk H blk => setF H i o fun H => K ⟨env, stk, H, blk⟩
theorem updF_eq (s : St) (i : Nat) (o : Obj) (K : St → Ans) : updF s i o K = updObj s i o K := by
  obtain ⟨env, stk, H, blk⟩ := s
  rw [updObj_eq]
  show setF H i o _ = _
  rw [setF_eq, setH_eq]
noncomputable def newF (s : St) (o : Obj) (K : Nat → St → Ans) : Ans :=
  @St.casesOn (fun _ => Ans) s fun env stk H blk => lenF H fun i => addF H o fun H => K i ⟨env, stk, H, blk⟩
theorem newF_eq (s : St) (o : Obj) (K : Nat → St → Ans) : newF s o K = newObj s o K := by
  obtain ⟨env, stk, H, blk⟩ := s
  rw [newObj_eq]
  show lenF H _ = _
  rw [lenF_eq, addF_eq]
noncomputable def putF (nt : Nat) (dst : Option Nat) (v : AV) (s : St) (K : St → Ans) : Ans :=
  match dst with
  | some d => cond (Nat.blt d nt) (fV v fun v => @St.casesOn (fun _ => Ans) s fun env stk H blk => K ⟨(d, v) :: env, stk, H, blk⟩) none
  | none => K s
theorem putF_eq (nt : Nat) (dst : Option Nat) (v : AV) (s : St) (K : St → Ans) : putF nt dst v s K = putT nt dst v s K := by
  obtain ⟨env, stk, H, blk⟩ := s
  cases dst with
  | none => rfl
  | some d => simp only [putF, putT, fV_eq, forceV_eq]
theorem putCells_one (cs : List AV) (v : AV) : ∀ off, putCells cs off [v] = bindO (cs[off]?) fun _ => some (cs.set off v) := by
  have key : ∀ (cs : List AV) (off : Nat) (x : AV), cs[off]? = some x → takeN off cs = some (cs.take off) ∧ takeN 1 (cs.drop off) = some [x] ∧ cs.take off ++ [v] ++ (cs.drop off).drop 1 = cs.set off v := by
    intro cs
    induction cs with
    | nil => intro off x h; simp at h
    | cons c r ih =>
      intro off x h
      cases off with
      | zero => simp at h; subst h; exact ⟨rfl, rfl, by simp⟩
      | succ off =>
        obtain ⟨h1, h2, h3⟩ := ih off x (by simpa using h)
        refine ⟨by rw [takeN, h1]; rfl, by simpa using h2, ?_⟩
        simpa using h3
  have no : ∀ (cs : List AV) (off : Nat), cs[off]? = none → takeN off cs = none ∨ takeN 1 (cs.drop off) = none := by
    intro cs
    induction cs with
    | nil =>
      intro off _
      cases off with
      | zero => exact .inr rfl
      | succ _ => exact .inl rfl
    | cons c r ih =>
      intro off h
      cases off with
      | zero => simp at h
      | succ off =>
        rcases ih off (by simpa using h) with h1 | h1
        · exact .inl (by rw [takeN, h1])
        · exact .inr (by simpa using h1)
  intro off
  cases hx : cs[off]? with
  | some x =>
    obtain ⟨h1, h2, h3⟩ := key cs off x hx
    rw [putCells, h1]
    show (match takeN 1 (cs.drop off) with | none => none | some _ => some (cs.take off ++ [v] ++ (cs.drop off).drop 1)) = _
    rw [h2, h3]
    rfl
  | none =>
    show _ = none
    rw [putCells]
    rcases no cs off hx with h1 | h1
    · rw [h1]
    · cases takeN off cs with
      | none => rfl
      | some a =>
        show (match takeN 1 (cs.drop off) with | none => none | some _ => some (a ++ [v] ++ (cs.drop off).drop 1)) = _
        rw [h1]
theorem cellsAt_one (cs : List AV) (off : Nat) : cellsAt cs off 1 = bindO (cs[off]?) fun v => some [v] := by
  unfold cellsAt
  induction cs generalizing off with
  | nil => cases off <;> rfl
  | cons c r ih => cases off with
    | zero => rfl
    | succ off => simpa using ih off
structure CL where
  run : St → AV → (AV → Ans) → Ans
noncomputable def loadC (T : Tab) (t : Nat) : CL :=
  match Tab.get T t with
  | none => ⟨fun _ _ _ => none⟩
  | some i => cond (Nat.beq i.size 1 && !i.isAgg)
      ⟨fun s p K => match p with
        | .ptr n off => (match getO s.H n with
          | .cells cs => bindO (nthF cs off) K
          | _ => load T s t (.ptr n off) K)
        | p => load T s t p K⟩
      ⟨fun s p K => load T s t p K⟩
theorem loadC_eq (t : Nat) (s : St) (p : AV) (K : AV → Ans) : (loadC T t).run s p K = load T s t p K := by
  unfold loadC
  cases hi : Tab.get T t with
  | none => simp only [load, hi]; rfl
  | some i =>
    dsimp only
    cases hc : Nat.beq i.size 1 && !i.isAgg with
    | false => rfl
    | true =>
      simp only [Bool.and_eq_true, Bool.not_eq_true'] at hc
      have h1 : i.size = 1 := Nat.eq_of_beq_eq_true hc.1
      simp only [cond_true]
      split
      · rename_i n off
        rw [getO_eq]
        split
        · rename_i cs hcs
          rw [nthF_eq, load, hi]
          simp only [bindO, hcs, hc.2, cond_false, h1, cellsAt_one]
          cases cs[off]? <;> rfl
        · rfl
      · rfl
structure CS where
  run : St → AV → AV → (St → Ans) → Ans
noncomputable def storeC (T : Tab) (t : Nat) : CS :=
  match Tab.get T t with
  | none => ⟨fun _ _ _ _ => none⟩
  | some i => ⟨fun s p v K => match p with
      | .ptr n off => (match getO s.H n with
        | .cells cs => match v with
          | .agg vs => cond (Nat.beq vs.length i.size && allOk vs) (bindO (putCells cs off vs) fun cs' => fL cs' fun cs' => updF s n (.cells cs') K) none
          | v => cond (Nat.beq 1 i.size && v.cellOk) (bindO (nthF cs off) fun _ => setF cs off v fun cs' => updF s n (.cells cs') K) none
        | _ => store T s t (.ptr n off) v K)
      | .eptr n idx off => (match getO s.H n with
        | .arr ty l => cond (Nat.beq v.cellsOf.length i.size && allOk v.cellsOf) (bindO (nthF l idx) fun x => bindO (putCells (cells ty x) off v.cellsOf) fun cs' => bindO (decAll ty cs') fun x' => setF l idx x' fun l' => updF s n (.arr ty l') K) none
        | _ => store T s t (.eptr n idx off) v K)
      | p => store T s t p v K⟩
theorem storeC_eq (t : Nat) (s : St) (p v : AV) (K : St → Ans) : (storeC T t).run s p v K = store T s t p v K := by
  unfold storeC
  cases hi : Tab.get T t with
  | none => simp only [store, hi]; rfl
  | some i =>
    dsimp only
    split
    · rename_i n off
      rw [getO_eq]
      split
      · rename_i cs hcs
        split
        · rename_i vs
          simp only [fL_eq, updF_eq, store, hi, bindO, hcs, AV.cellsOf]
        · rename_i hv
          have hco : v.cellsOf = [v] := by
            cases v <;> first | rfl | exact (hv _ rfl).elim
          simp only [setF_eq, updF_eq, nthF_eq, store, hi, bindO, hcs, hco, putCells_one, allOk, Bool.and_true, List.length_singleton]
          congr 1
          cases cs[off]? <;> rfl
      · rfl
    · rename_i n idx off
      rw [getO_eq]
      split
      · rename_i ty l hl
        simp only [setF_eq, updF_eq, nthF_eq, store, hi, bindO, hl]
      · rfl
    · rfl
structure CA where
  run : AV → (AV → Ans) → Ans
noncomputable def fieldAddrC (T : Tab) (t f : Nat) : CA :=
  match Tab.get T t with
  | none => ⟨fun _ _ => none⟩
  | some i => match i.k with
    | .struct fs => (match fs[f]? with
      | none => ⟨fun _ _ => none⟩
      | some q => match Tab.get T q.1 with
        | none => ⟨fun _ _ => none⟩
        | some j => cond (Nat.beq j.size 0) ⟨fun _ _ => none⟩ ⟨fun p K => match p with
          | .ptr n o => K (.ptr n (o + q.2))
          | .eptr n x o => K (.eptr n x (o + q.2))
          | .rptr ty x o => K (.rptr ty x (o + q.2))
          | _ => none⟩)
    | _ => ⟨fun _ _ => none⟩
theorem fieldAddrC_eq (t f : Nat) (p : AV) (K : AV → Ans) : (fieldAddrC T t f).run p K = fieldAddr T t p f K := by
  unfold fieldAddrC fieldAddr
  cases hi : Tab.get T t with
  | none => rfl
  | some i =>
    dsimp only [bindO]
    cases i.k with
    | struct fs =>
      dsimp only
      cases fs[f]? with
      | none => rfl
      | some q =>
        obtain ⟨ft, off⟩ := q
        dsimp only
        cases Tab.get T ft with
        | none => rfl
        | some j =>
          dsimp only
          cases Nat.beq j.size 0 <;> rfl
    | _ => rfl
noncomputable def ltB (a b : Int) : Bool := @Int.rec (fun _ => Bool) (fun m => @Int.rec (fun _ => Bool) (fun n => Nat.blt m n) (fun _ => false) b) (fun m => @Int.rec (fun _ => Bool) (fun _ => true) (fun n => Nat.blt n m) b) a
theorem ltB_eq (a b : Int) : ltB a b = decide (a < b) := by
  cases a <;> cases b <;> simp only [ltB, Int.ofNat_eq_natCast]
  · rename_i m n
    rw [Bool.eq_iff_iff, Nat.blt_eq, decide_eq_true_eq]; omega
  · rename_i m n
    symm; rw [decide_eq_false_iff_not]; omega
  · rename_i m n
    symm; rw [decide_eq_true_eq]; omega
  · rename_i m n
    rw [Bool.eq_iff_iff, Nat.blt_eq, decide_eq_true_eq]; omega
noncomputable def eqB (a b : Int) : Bool := @Int.rec (fun _ => Bool) (fun m => @Int.rec (fun _ => Bool) (fun n => Nat.beq m n) (fun _ => false) b) (fun m => @Int.rec (fun _ => Bool) (fun _ => false) (fun n => Nat.beq m n) b) a
theorem eqB_eq (a b : Int) : eqB a b = (a == b) := by
  cases a <;> cases b <;> simp only [eqB, Int.ofNat_eq_natCast]
  · rename_i m n
    rw [Bool.eq_iff_iff, Nat.beq_eq, beq_iff_eq]; omega
  · rename_i m n
    symm; rw [beq_eq_false_iff_ne]; omega
  · rename_i m n
    symm; rw [beq_eq_false_iff_ne]; omega
  · rename_i m n
    rw [Bool.eq_iff_iff, Nat.beq_eq, beq_iff_eq]; omega
noncomputable def kTop (k : IntKind) : Nat := match k with
  | .i64 => 9223372036854775807
  | .u8 => 255
  | .u32 => 4294967295
  | .u64 => 18446744073709551615
  | _ => 0
theorem kTop_wrap (k : IntKind) (m : Nat) (h : Nat.ble m (kTop k) = true) : k.wrap (Int.ofNat m) = Int.ofNat m := by
  have h := Nat.le_of_ble_eq_true h
  cases k <;> simp only [kTop] at h <;> simp [IntKind.wrap, IntKind.bits, IntKind.signed] <;> omega
noncomputable def wrapF (k : IntKind) (x : Int) (K : AV → Ans) : Ans :=
  @Int.rec (fun _ => Ans) (fun m => @Bool.rec (fun _ => Ans) (fI (k.wrap (Int.ofNat m)) fun n => K (.int k n)) (fN m fun m => K (.int k (Int.ofNat m))) (Nat.ble m (kTop k))) (fun m => fI (k.wrap (Int.negSucc m)) fun n => K (.int k n)) x
theorem wrapF_eq (k : IntKind) (x : Int) (K : AV → Ans) : wrapF k x K = K (.int k (k.wrap x)) := by
  cases x with
  | ofNat m =>
    simp only [wrapF]
    cases h : Nat.ble m (kTop k) with
    | false => simp only [fI_eq]
    | true => simp only [fN_eq]; rw [kTop_wrap k m h]
  | negSucc m => simp only [wrapF, fI_eq]
structure CI where
  run : IntKind → Int → Int → (AV → Ans) → Ans
noncomputable def intC (op : BinOp) : CI :=
  match op with
  | .add => ⟨fun k a b K => wrapF k (Int.add a b) K⟩
  | .sub => ⟨fun k a b K => wrapF k (Int.sub a b) K⟩
  | .mul => ⟨fun k a b K => wrapF k (Int.mul a b) K⟩
  | .eql => ⟨fun _ a b K => fB (eqB a b) fun b => K (.bool b)⟩
  | .neq => ⟨fun _ a b K => fB (@Bool.rec (fun _ => Bool) true false (eqB a b)) fun b => K (.bool b)⟩
  | .lss => ⟨fun _ a b K => fB (ltB a b) fun b => K (.bool b)⟩
  | .gtr => ⟨fun _ a b K => fB (ltB b a) fun b => K (.bool b)⟩
  | .leq => ⟨fun _ a b K => fB (@Bool.rec (fun _ => Bool) true false (ltB b a)) fun b => K (.bool b)⟩
  | .geq => ⟨fun _ a b K => fB (@Bool.rec (fun _ => Bool) true false (ltB a b)) fun b => K (.bool b)⟩
  | op => ⟨fun k a b K => intBin op k a b K⟩
theorem intC_eq (op : BinOp) (k : IntKind) (a b : Int) (K : AV → Ans) : (intC op).run k a b K = intBin op k a b K := by
  cases op <;> simp only [intC, intBin, wrapF_eq, fB_eq, eqB_eq, ltB_eq] <;> try rfl
  · congr 2
    cases h : (a == b) <;> simp_all [bne]
  · congr 2
    rw [Bool.eq_iff_iff]
    by_cases h : b < a <;> simp [h] <;> omega
  · congr 2
    rw [Bool.eq_iff_iff]
    by_cases h : a < b <;> simp [h] <;> omega
structure CB where
  run : AV → AV → (AV → Ans) → Ans
noncomputable def binC (T : Tab) (op : BinOp) (t : Nat) (c : Bool) : CB :=
  cond (isShift op) ⟨fun x y K => nilBin T op t c x y K⟩
    ⟨fun x y K => match x with
      | .int k a => (match y with
        | .int k' b => (match decEq k k' with | isTrue _ => (intC op).run k a b K | isFalse _ => none)
        | y => nilBin T op t c (.int k a) y K)
      | x => nilBin T op t c x y K⟩
theorem binC_eq (op : BinOp) (t : Nat) (c : Bool) (x y : AV) (K : AV → Ans) : (binC T op t c).run x y K = nilBin T op t c x y K := by
  unfold binC
  cases hs : isShift op with
  | true => rfl
  | false =>
    simp only [cond_false]
    cases x <;> try rfl
    rename_i k a
    cases y <;> try rfl
    rename_i k' b
    show (match decEq k k' with | isTrue _ => (intC op).run k a b K | isFalse _ => none) = binOp T op t (.int k a) (.int k' b) K
    simp only [binOp, hs, cond_false, intC_eq]
    cases decEq k k' <;> rfl
noncomputable def sliceF (T : Tab) (s : St) (t : Nat) (x : AV) (lo hi mx : Option AV) (K : AV → Ans) : Ans :=
  match x, lo, hi, mx with
  | .str a, some l, none, none => bindO (Tab.get T t) fun ti => match ti.k with
    | .sc => cond (isStr ti) (asInt l fun n => cond (inR n (a.length + 1)) (fN n.toNat fun n => K (.str (a.drop n))) none) none
    | _ => slice T s t x lo hi mx K
  | .str a, none, some h, none => bindO (Tab.get T t) fun ti => match ti.k with
    | .sc => cond (isStr ti) (asInt h fun n => cond (inR n (a.length + 1)) (fN n.toNat fun n => K (.str (a.take n))) none) none
    | _ => slice T s t x lo hi mx K
  | _, _, _, _ => slice T s t x lo hi mx K
theorem sliceF_eq (s : St) (t : Nat) (x : AV) (lo hi mx : Option AV) (K : AV → Ans) : sliceF T s t x lo hi mx K = slice T s t x lo hi mx K := by
  unfold sliceF
  split
  · rename_i a l
    unfold slice
    cases Tab.get T t with
    | none => rfl
    | some ti =>
      dsimp only [bindO]
      cases ti.k <;> try rfl
      dsimp only
      cases isStr ti <;> try rfl
      simp only [cond_true, bounds, fN_eq, cutL]
  · rename_i a h
    unfold slice
    cases Tab.get T t with
    | none => rfl
    | some ti =>
      dsimp only [bindO]
      cases ti.k <;> try rfl
      dsimp only
      cases isStr ti <;> try rfl
      simp only [cond_true, bounds, fN_eq, cutL]
  · rfl
noncomputable def killK (i : Nat) (v : AV) (K : AV → Ans) : Ans :=
  match v with
  | .int k n => K (.int k n)
  | .own j => @Bool.rec (fun _ => Ans) (K (.own j)) (K .unk) (Nat.beq i j)
  | .ptr j o => @Bool.rec (fun _ => Ans) (K (.ptr j o)) (K .unk) (Nat.beq i j)
  | .bool b => K (.bool b)
  | .str s => K (.str s)
  | .unk => K .unk
  | .nilp => K .nilp
  | v => fV (v.mapR (killR i)) K
theorem killK_eq (i : Nat) (v : AV) (K : AV → Ans) : killK i v K = K (v.mapR (killR i)) := by
  unfold killK
  split
  · rw [AV.mapR]
  · rename_i j
    rw [AV.mapR, killR]
    cases Nat.beq i j <;> rfl
  · rename_i j o
    rw [AV.mapR, killR]
    cases Nat.beq i j <;> rfl
  · rw [AV.mapR]
  · rw [AV.mapR]
  · rw [AV.mapR]
  · rw [AV.mapR]
  · rw [fV_eq]
noncomputable def killE (i : Nat) (env : Tmps) : (Tmps → Ans) → Ans := @List.rec (Nat × AV) (fun _ => (Tmps → Ans) → Ans) (fun K => K []) (fun p _ ih K => @Prod.rec Nat AV (fun _ => Ans) (fun d v => killK i v fun v => ih fun r => K ((d, v) :: r)) p) env
theorem killE_eq (i : Nat) (env : Tmps) : ∀ K : Tmps → Ans, killE i env K = K (mapTmps (killR i) env) := by
  induction env with
  | nil => intro K; rfl
  | cons p r ih =>
    obtain ⟨d, v⟩ := p
    intro K
    have e : killE i ((d, v) :: r) K = killK i v (fun v => killE i r fun r => K ((d, v) :: r)) := rfl
    rw [e, killK_eq]
    exact ih _
noncomputable def killT (i : Nat) (stk : List Tmps) : (List Tmps → Ans) → Ans := @List.rec Tmps (fun _ => (List Tmps → Ans) → Ans) (fun K => K []) (fun e _ ih K => killE i e fun e => ih fun r => K (e :: r)) stk
theorem killT_eq (i : Nat) (stk : List Tmps) : ∀ K : List Tmps → Ans, killT i stk K = K (mapStk (killR i) stk) := by
  induction stk with
  | nil => intro K; rfl
  | cons e r ih =>
    intro K
    have e' : killT i (e :: r) K = killE i e (fun e => killT i r fun r => K (e :: r)) := rfl
    rw [e', killE_eq]
    exact ih _
noncomputable def killVs (i : Nat) (l : List AV) : (List AV → Ans) → Ans := @List.rec AV (fun _ => (List AV → Ans) → Ans) (fun K => K []) (fun e _ ih K => killK i e fun e => ih fun r => K (e :: r)) l
theorem killVs_eq (i : Nat) (l : List AV) : ∀ K : List AV → Ans, killVs i l K = K (AV.mapRs (killR i) l) := by
  induction l with
  | nil => intro K; show K [] = _; rw [AV.mapRs]
  | cons e r ih =>
    intro K
    have e' : killVs i (e :: r) K = killK i e (fun e => killVs i r fun r => K (e :: r)) := rfl
    rw [e', killK_eq, AV.mapRs]
    exact ih _
noncomputable def killO (i : Nat) (o : Obj) (K : Obj → Ans) : Ans :=
  match o with
  | .cells cs => killVs i cs fun cs => K (.cells cs)
  | .bcells cs => killVs i cs fun cs => K (.bcells cs)
  | .arr t l => K (.arr t l)
  | .mp k v l => K (.mp k v l)
  | .dead => K .dead
  | .btold s => K (.btold s)
theorem killO_eq (i : Nat) (o : Obj) (K : Obj → Ans) : killO i o K = K (o.mapR (killR i)) := by
  cases o <;> simp only [killO, killVs_eq, Obj.mapR]
noncomputable def killH (i : Nat) (H : List Obj) : (List Obj → Ans) → Ans := @List.rec Obj (fun _ => (List Obj → Ans) → Ans) (fun K => K []) (fun e _ ih K => killO i e fun e => ih fun r => K (e :: r)) H
theorem killH_eq (i : Nat) (H : List Obj) : ∀ K : List Obj → Ans, killH i H K = K (mapObjs (killR i) H) := by
  induction H with
  | nil => intro K; rfl
  | cons e r ih =>
    intro K
    have e' : killH i (e :: r) K = killO i e (fun e => killH i r fun r => K (e :: r)) := rfl
    rw [e', killO_eq]
    exact ih _
noncomputable def killSt (i : Nat) (s : St) (K : St → Ans) : Ans :=
  @St.casesOn (fun _ => Ans) s fun env stk H blk => killE i env fun env => killT i stk fun stk => killH i H fun H => K ⟨env, stk, H, blk⟩
theorem killSt_eq (i : Nat) (s : St) (K : St → Ans) : killSt i s K = K (s.mapR (killR i)) := by
  obtain ⟨env, stk, H, blk⟩ := s
  show killE i env _ = _
  rw [killE_eq, killT_eq, killH_eq]
  rfl
noncomputable def appF (T : Tab) (t t2 : Nat) (x y : AV) (s : St) (K : KV) : Ans :=
  bindO (Tab.get T t2) fun i2 => cond (notInt i2) (bindO (elemTy T t) fun (_, j) => cond (Nat.beq j.bytes 0) none (bindO j.ty fun ty =>
    let news : Option (List ty.T) := match y with
      | .str a => castL ty (.int .u8) (intsOf a)
      | y => dataOf s ty y
    bindO news fun b =>
      let put (i : Nat) (a : List ty.T) (s : St) : Ans := cond (Nat.ble ((a.length + b.length) * j.bytes) 140737488355328)
        (killSt i s fun s' => fL (a ++ b) fun ab => updF s' i (.arr ty ab) fun s' => K (.own i) s') none
      match x with
      | .own i => match getO s.H i with
        | .arr t' l => bindO (castL ty t' l) fun a => put i a s
        | _ => none
      | .sub i off len _ => match getO s.H i with
        | .arr t' l => cond (Nat.beq off 0 && Nat.ble len l.length) (bindO (castL ty t' l) fun a => put i (a.take len) s) none
        | _ => none
      | _ => none)) none
theorem appF_eq (t t2 : Nat) (x y : AV) (s : St) (K : KV) : appF T t t2 x y s K = append T t t2 x y s K := by
  simp only [appF, append, killSt_eq, fL_eq, updF_eq, forceSt_eq, getO_eq]
  rfl
noncomputable def buildSliceF (T : Tab) (t len : Nat) (parts : List (Nat × AV)) (s : St) (K : KV) : Ans :=
  bindO (elemTy T t) fun (_, j) => cond (Nat.ble (len * j.size) 16777216)
    (bindO (fillCells (fun i => some (i * j.size, j.size)) (repCells j.zero len) parts) fun cs =>
      match j.ty with
      | some ty =>
        freezeK (AV.refsL cs) cs s fun cs s =>
        bindO (decRow ty len cs) fun l => newF s (.arr ty l) fun i s => K (.own i) s
      | none => fVs cs fun cs => newF s (.cells cs) fun i s => K (.sub i 0 len j.size) s)
    none
theorem buildSliceF_eq (t len : Nat) (parts : List (Nat × AV)) (s : St) (K : KV) : buildSliceF T t len parts s K = buildSlice T t len parts s K := by
  simp only [buildSliceF, buildSlice, newF_eq, fVs_eq]
  rfl
noncomputable def makeSliceF (T : Tab) (t : Nat) (l c : AV) (s : St) (K : KV) : Ans :=
  bindO (elemTy T t) fun (_, j) => bindO j.ty fun ty => bindO (decAll ty j.zero) fun z => asInt l fun a => asInt c fun b =>
    cond (decide (0 ≤ a) && decide (a ≤ b) && decide (j.bytes * b ≤ 281474976710656) && decide (b ≤ 9223372036854775807))
      (newF s (.arr ty (List.replicate a.toNat z)) fun i s => K (.own i) s) none
theorem makeSliceF_eq (t : Nat) (l c : AV) (s : St) (K : KV) : makeSliceF T t l c s K = makeSlice T t l c s K := by
  simp only [makeSliceF, makeSlice, newF_eq]
noncomputable def mapPutF (T : Tab) (t : Nat) (x ix y : AV) (s : St) (K : KV) : Ans :=
  match x with
  | .map i => bindO (mapTy T t) fun (kk, _, ty) => bindO (asKey kk ix) fun n => bindO (mapOf s kk ty (.map i)) fun l => bindO (decAll ty [y]) fun z =>
      fL (mput n z l) fun l => updF s i (.mp kk ty l) fun s => K .unk s
  | _ => none
theorem mapPutF_eq (t : Nat) (x ix y : AV) (s : St) (K : KV) : mapPutF T t x ix y s K = mapPut T t x ix y s K := by
  simp only [mapPutF, mapPut, updF_eq, fL_eq]
  rfl
noncomputable def pruneT (m : Nat) (env : Tmps) : (Tmps → Ans) → Ans := @List.rec (Nat × AV) (fun _ => (Tmps → Ans) → Ans) (fun K => K []) (fun p _ ih K => @Bool.rec (fun _ => Ans) (ih K) (ih fun r => K (p :: r)) (Nat.beq (Nat.land (Nat.shiftRight m p.1) 1) 1)) env
def inM (m t : Nat) : Bool := Nat.beq (Nat.land (Nat.shiftRight m t) 1) 1
theorem pruneT_spec (m : Nat) : ∀ env : Tmps, ∃ env', (∀ t, getT env' t = cond (inM m t) (getT env t) .unk) ∧ ∀ K : Tmps → Ans, pruneT m env K = K env' := by
  intro env
  induction env with
  | nil => exact ⟨[], fun t => by cases inM m t <;> rfl, fun K => rfl⟩
  | cons p r ih =>
    obtain ⟨d, v⟩ := p
    obtain ⟨env', h1, h2⟩ := ih
    have e : ∀ K : Tmps → Ans, pruneT m ((d, v) :: r) K = @Bool.rec (fun _ => Ans) (pruneT m r K) (pruneT m r fun r => K ((d, v) :: r)) (inM m d) := fun K => rfl
    cases hb : inM m d with
    | true =>
      refine ⟨(d, v) :: env', fun t => ?_, fun K => by rw [e, hb]; exact h2 _⟩
      rw [getT_cons, getT_cons]
      by_cases hd : d = t
      · subst hd; rw [if_pos rfl, hb, if_pos rfl]; rfl
      · rw [if_neg hd, if_neg hd]; exact h1 t
    | false =>
      refine ⟨env', fun t => ?_, fun K => by rw [e, hb]; exact h2 _⟩
      rw [h1 t, getT_cons]
      by_cases hd : d = t
      · subst hd; rw [hb]; rfl
      · rw [if_neg hd]
theorem pruneT_rel {C : Cx} {tmps : Array Value} {m : Nat} {env : Tmps} (h : ERel C env tmps) : ∃ env', ERel C env' tmps ∧ ∀ K : Tmps → Ans, pruneT m env K = K env' := by
  obtain ⟨env', h1, h2⟩ := pruneT_spec m env
  refine ⟨env', fun t => ?_, h2⟩
  rw [h1 t]
  cases inM m t with
  | true => exact h t
  | false => rw [cond_false, VRel]; trivial
noncomputable def pruneF (m : Nat) (s : St) (K : St → Ans) : Ans :=
  @St.casesOn (fun _ => Ans) s fun env stk H blk => pruneT m env fun env => K ⟨env, stk, H, blk⟩
theorem pruneF_sound [BT] {F : Fr} {C : Cx} {s : St} {tmps : Array Value} {stk : List (Array Value)} (hS : SRel F C s tmps stk) {m : Nat} {K : St → Ans} {res : AV × List Obj} (h : pruneF m s K = some res) :
    ∃ s', SRel F C s' tmps stk ∧ K s' = some res := by
  obtain ⟨env, stk0, H, blk⟩ := s
  obtain ⟨env', h1, h2⟩ := pruneT_rel (m := m) hS.env
  have e : pruneF m ⟨env, stk0, H, blk⟩ K = pruneT m env fun env => K ⟨env, stk0, H, blk⟩ := rfl
  rw [e, h2] at h
  exact ⟨⟨env', stk0, H, blk⟩, ⟨hS.H, hS.heap, h1, hS.stk, hS.frame⟩, h⟩
def bitM (d : Nat) : Nat := Nat.shiftLeft 1 d
def delM (m d : Nat) : Nat := Nat.sub m (Nat.land m (bitM d))
def useO : Operand → Nat
  | .tmp t => bitM t
  | _ => 0
def usesOf (o : Oper) : Nat := o.op.operands.toList.foldl (fun m x => Nat.lor m (useO x)) 0
def guardM (all : Array Oper) (o : Oper) : Nat :=
  match o.guard with
  | some jw => (match guardT all jw.1 with
    | some g => bitM g
    | none => 0)
  | none => 0
def liveOps (all : Array Oper) : List Oper → Nat → Nat
  | [], m => m
  | o :: r, m => Nat.lor (Nat.lor (match o.dst with
    | some d => delM (liveOps all r m) d
    | none => liveOps all r m) (usesOf o)) (guardM all o)
def usesAll (all : Array Oper) : List Oper → Nat
  | [] => 0
  | o :: r => Nat.lor (Nat.lor (Nat.lor (usesOf o) (guardM all o)) (match o.dst with | some d => bitM d | none => 0)) (usesAll all r)
def exM (i : Nat) : List (Nat × Nat) → Nat
  | [] => 0
  | (j, m) :: r => cond (Nat.beq i j) m (exM i r)
def liveC (nt res : Nat) : List (Nat × Nat) → Code → Nat → Nat
  | _, .region _ ops draw, m => cond draw (Nat.lor m (usesAll ops ops.toList)) (liveOps ops ops.toList m)
  | ex, .seq a b, m => liveC nt res ex a (liveC nt res ex b m)
  | ex, .cond c a b, m => Nat.lor (useO c) (Nat.lor (liveC nt res ex a m) (liveC nt res ex b m))
  | ex, .block id c, m => liveC nt res ((id, m) :: ex) c m
  | ex, .loop c, _ => liveC nt res ex c 0
  | ex, .exit id, _ => exM id ex
  | _, .ret, _ => res
  | _, .rangeFunc _ _ _ _, _ => Nat.sub (Nat.shiftLeft 1 (Nat.succ nt)) 1
  | _, _, m => m
def resM : List ResultVar → Nat
  | [] => 0
  | .tmp t :: r => Nat.lor (bitM t) (resM r)
  | .cell a _ :: r => Nat.lor (bitM a) (resM r)
def noInl : Nat → Ann → Code → (Ex → St → Ans) → St → Ans := fun _ _ _ _ _ => none
theorem noInl_ok [BT] : CodeOk P noInl := by
  intro r F nt x c K s C a stk res h _ _ _ _ _
  cases h
structure CF where
  nt : Nat
  res : List ResultVar
  run : (Ex → St → Ans) → St → Ans
structure Lo where
  env : Env
  ca : Nat → Option CF
structure CO where
  run : St → KV → Ans
noncomputable def slowO [BT] (T : Tab) (E : Env) (o : Oper) : CO := ⟨fun s K => opE T E noInl o s K⟩
noncomputable def resG (T : Tab) (s : St) : List ResultVar → (List AV → Ans) → Ans
  | [], K => K []
  | .tmp t :: r, K => fV (getF s.env t) fun v => resG T s r fun vs => K (v :: vs)
  | .cell a t :: r, K => (loadC T t).run s (getF s.env a) fun v => resG T s r fun vs => K (v :: vs)
theorem resG_eq (s : St) : ∀ (l : List ResultVar) (acc : List AV) (K : List AV → Ans), resultsOf T s l acc K = resG T s l fun vs => K (acc ++ vs)
  | [], acc, K => by rw [resultsOf, resG, List.append_nil]
  | .tmp t :: r, acc, K => by
    rw [resultsOf, resG, fV_eq, getF_eq, resG_eq s r]
    simp only [List.append_assoc, List.cons_append, List.nil_append]
  | .cell a t :: r, acc, K => by
    rw [resultsOf, resG, loadC_eq, getF_eq]
    congr 1
    funext v
    rw [resG_eq s r]
    simp only [List.append_assoc, List.cons_append, List.nil_append]
noncomputable def backK (T : Tab) (res : List ResultVar) (blk : Nat) (K : KV) (e : Ex) (s' : St) : Ans :=
  match e with
  | .norm | .ret => @St.casesOn (fun _ => Ans) s' fun _ stk H _ => match stk with
    | env :: stk => resG T s' res fun vs => fV (tupled vs) fun v => K v ⟨env, stk, H, blk⟩
    | [] => none
  | _ => none
noncomputable def callF (T : Tab) (m : Nat) (cf : CF) (args : List AV) (s : St) (K : KV) : Ans :=
  fVs args fun args => fL (argsEnv 0 args) fun env => pruneF m s fun s => @St.casesOn (fun _ => Ans) s fun env0 stk H blk => cf.run (backK T cf.res blk K) ⟨env, env0 :: stk, H, 0⟩
noncomputable def isNilTy (T : Tab) (t : Nat) : Bool := (nilTy T t .nils).isSome
theorem typedNil_no {t : Nat} (h : isNilTy T t = false) (v : AV) (s : St) (K : KV) : typedNil T t v s K = K v s := by
  unfold typedNil
  unfold isNilTy at h
  have : nilTy T t v = none := by
    cases v <;> try rfl
    simpa using h
  rw [this]
noncomputable def kindAt (T : Tab) (src dst : Nat) : Option IntKind :=
  match Tab.get T src with
  | none => none
  | some _ => match Tab.get T dst with
    | none => none
    | some di => kindOf di
noncomputable def callC [BT] (T : Tab) (lo : Lo) (m : Nat) (o : Oper) (c : Call) : CO :=
  match c.callee with
  | .value f => (match f with
    | .func g => (match lo.ca g with
      | some cf => ⟨fun s K => callF T m cf (c.args.toList.map fun x => (vOf x).run s.env) s K⟩
      | none => slowO T lo.env o)
    | f => ⟨fun s K => match (vOf f).run s.env with
      | .fn (.func g) first cap => (match lo.ca g with
        | some cf => callF T m cf (first ++ (c.args.toList.map fun x => (vOf x).run s.env) ++ cap) s K
        | none => opE T lo.env noInl o s K)
      | _ => none⟩)
  | .invoke _ _ => ⟨fun s K => match fnOf T s c with
    | some ga => (match lo.ca ga.1 with
      | some cf => callF T m cf ga.2 s K
      | none => opE T lo.env noInl o s K)
    | none => none⟩
  | _ => slowO T lo.env o
noncomputable def opC [BT] (T : Tab) (lo : Lo) (m : Nat) (o : Oper) : CO :=
  match o.op with
  | .move x => ⟨fun s K => K ((vOf x).run s.env) s⟩
  | .assign x => (match x with
    | .const v => (match nilTy T o.type (ofConst v) with
      | none => ⟨fun s K => K (ofConst v) s⟩
      | some ty => ⟨fun s K => newF s (.arr ty []) fun i s' => K (.own i) s'⟩)
    | x => ⟨fun s K => K ((vOf x).run s.env) s⟩)
  | .load t a => ⟨fun s K => (loadC T t).run s ((vOf a).run s.env) fun v => K v s⟩
  | .store t a x => cond (isNilTy T t) (slowO T lo.env o) ⟨fun s K => (storeC T t).run s ((vOf a).run s.env) ((vOf x).run s.env) fun s => K .unk s⟩
  | .fieldAddr t x f => ⟨fun s K => (fieldAddrC T t f).run ((vOf x).run s.env) fun v => K v s⟩
  | .nilCheck x => ⟨fun s K => match (vOf x).run s.env with
    | .ptr i off => K (.ptr i off) s
    | .eptr i n off => K (.eptr i n off) s
    | .rptr t y off => K (.rptr t y off) s
    | _ => none⟩
  | .binOp op t x y _ => ⟨fun s K => (binC T op t (isConst x || isConst y)).run ((vOf x).run s.env) ((vOf y).run s.env) fun v => K v s⟩
  | .extract t i => ⟨fun s K => match (vOf t).run s.env with
    | .tup vs => bindO (nthF vs i) fun v => K v s
    | _ => none⟩
  | .pick c a b => ⟨fun s K => match (vOf c).run s.env with
    | .bool p => @Bool.rec (fun _ => Ans) (K ((vOf b).run s.env) s) (K ((vOf a).run s.env) s) p
    | _ => none⟩
  | .convert src dst x => (match kindAt T src dst with
    | some k => ⟨fun s K => match (vOf x).run s.env with
      | .int _ n => wrapF k n fun v => K v s
      | _ => opE T lo.env noInl o s K⟩
    | none => slowO T lo.env o)
  | .field t x f => ⟨fun s K => field T t ((vOf x).run s.env) f fun v => K v s⟩
  | .indexAddr t x i => ⟨fun s K => indexAddr T s t ((vOf x).run s.env) ((vOf i).run s.env) fun v => K v s⟩
  | .index t x i => ⟨fun s K => index T t ((vOf x).run s.env) ((vOf i).run s.env) fun v => K v s⟩
  | .unOp op _ x => ⟨fun s K => unOp op ((vOf x).run s.env) fun v => K v s⟩
  | .slice t x lo hi mx => ⟨fun s K => sliceF T s t ((vOf x).run s.env) (lo.map fun x => (vOf x).run s.env) (hi.map fun x => (vOf x).run s.env) (mx.map fun x => (vOf x).run s.env) fun v => K v s⟩
  | .typeAssert x _ t ok => ⟨fun s K => assertOp T t ok ((vOf x).run s.env) fun v => K v s⟩
  | .makeFunc f a b => ⟨fun s K => K (.fn f (a.toList.map fun x => (vOf x).run s.env) (b.toList.map fun x => (vOf x).run s.env)) s⟩
  | .alloc t => ⟨fun s K => zeroCells T t s fun z s' => newF s' (varObj T t z) fun i s' => K (.ptr i 0) s'⟩
  | .buildSlice t len parts => ⟨fun s K => buildSliceF T t len (parts.toList.map fun q => (q.1, (vOf q.2).run s.env)) s K⟩
  | .makeSlice t l c => ⟨fun s K => makeSliceF T t ((vOf l).run s.env) ((vOf c).run s.env) s K⟩
  | .lookup t x i ok => ⟨fun s K => lookupOp T t ((vOf x).run s.env) ((vOf i).run s.env) ok s fun r => K r s⟩
  | .mapUpdate t x i y => ⟨fun s K => mapPutF T t ((vOf x).run s.env) ((vOf i).run s.env) ((vOf y).run s.env) s K⟩
  | .call c => (match c.callee with
    | .builtin b => (match b with
      | .append => (match c.args.toList with
        | [x, y] => (match c.argTypes.toList with
          | [t, t2] => ⟨fun s K => typedNil T t ((vOf x).run s.env) s fun r s' => appF T t t2 r ((vOf y).run s.env) s' K⟩
          | _ => slowO T lo.env o)
        | _ => slowO T lo.env o)
      | _ => slowO T lo.env o)
    | _ => callC T lo m o c)
  | _ => slowO T lo.env o
def OpSum [BT] (P : Program) (o : Oper) (R : St → KV → Ans) : Prop :=
  ∀ ⦃F : Fr⦄ ⦃C : Cx⦄ ⦃s : St⦄ ⦃a : Act⦄ ⦃stk : List (Array Value)⦄ ⦃K : KV⦄ ⦃res : AV × List Obj⦄, R s K = some res → SRel F C s a.tmps stk →
    clean P o a C.w fun u w' => ∃ r s' C', K r s' = some res ∧ C'.w = w' ∧ SRel F C' s' a.tmps stk ∧ VRel C' r u
theorem opSum_slow [BT] (hT : TabOk P T) (hE : EnvOk P E) {o : Oper} {R : St → KV → Ans} (h : ∀ s K, R s K = opE T E noInl o s K) : OpSum P o R := by
  intro F C s a stk K res hR hS
  rw [h] at hR
  exact clean_mono (fun u w' ⟨r, s', C', h1, h2, h3, h4, _⟩ => ⟨r, s', C', h1, h2, h3, h4⟩) (opE_clean hT hE noInl_ok hS hR)
structure LoOk [BT] (P : Program) (lo : Lo) : Prop where
  env : EnvOk P lo.env
  ca : ∀ g cf, lo.ca g = some cf → ∃ fn c, P.funcs[g]? = some fn ∧ fn.body = some c ∧ fn.name ≠ "runtime.NumGoroutine" ∧ cf.nt = fn.ntmps ∧ cf.res = fn.results.toList ∧ CSum P fn.ntmps c cf.run
theorem callF_sound [BT] (hT : TabOk P T) {lo : Lo} (hL : LoOk P lo) {g : Nat} {cf : CF} (hcf : lo.ca g = some cf) {F : Fr} {C : Cx} {s : St} {a : Act} {stk : List (Array Value)} (hS : SRel F C s a.tmps stk)
    {args : List AV} {us : Array Value} (hargs : VRels C args us.toList) {m : Nat} {K : KV} {res : AV × List Obj} (h : callF T m cf args s K = some res) :
    (∃ w, (Go.callFunc g us).run P C.w = .ok (.enter g us) w ∧ w = C.w) ∧
    Calls P g us C.w fun
      | .returned v, w' => ∃ r s' C', K r s' = some res ∧ C'.w = w' ∧ SRel F C' s' a.tmps stk ∧ VRel C' r v
      | _, _ => False := by
  obtain ⟨fn, c, hf, hb, hn, hnt, hres, hG⟩ := hL.ca g cf hcf
  unfold callF at h
  rw [fVs_eq, fL_eq] at h
  obtain ⟨s1, hS, h⟩ := pruneF_sound hS h
  obtain ⟨env0, stk0, H0, blk0⟩ := s1
  dsimp only at h
  rw [hres] at h
  refine ⟨⟨C.w, ?_, rfl⟩, ?_⟩
  · have hne : (fn.name == "runtime.NumGoroutine") = false := by simpa using hn
    simp [Go.callFunc, hf, hb, hn]
  · obtain ⟨F1, hF1⟩ : ∃ F1 : Fr, F1 = { F.re C with base := C.w.heap.size } := ⟨_, rfl⟩
    have hF1C : FrameOk F1 C := by rw [hF1]; exact ⟨rfl, rfl, rfl, Nat.le_refl _, fun _ _ _ => rfl, fun _ h => h, fun _ h => .inl h, fun i b hl hb => .inl ⟨i, hl, hb⟩⟩
    have hback : ∀ C', FrameOk F1 C' → FrameOk F C' := fun C' h => (re_le hS.frame).frame C' (by rw [hF1] at h; exact ⟨h.os, h.tape, h.output, h.size, h.keep, h.r0, h.rN, h.own⟩)
    have hb1 : F1.base = C.w.heap.size := by rw [hF1]
    have hw1 : F.w0.heap.size ≤ C.w.heap.size := hS.frame.size
    have hS' : SRel F1 C { env := argsEnv 0 args, stk := env0 :: stk0, H := H0, blk := 0 } (us ++ Array.replicate (fn.ntmps - us.size) undef) (a.tmps :: stk) :=
      ⟨hS.H, hS.heap, args_env hargs _, by rw [SStk]; exact ⟨_, _, rfl, hS.env, hS.stk⟩, hF1C⟩
    refine (callsIn_wide (n := 0)).1 (callsIn_of_wp_marks hf hb trivial (wpIn_mono (hG (r := none) (a := { tmps := us ++ Array.replicate (fn.ntmps - us.size) undef, defers := [] }) h (RndOk.none _) hS' (by simp; omega) ⟨by rw [hF1]; exact Nat.le_refl _, trivial⟩) ?_))
    rintro e a' w' ⟨F2, e', s', C', hle, rfl, hK, rfl, hS'', hsz, hd⟩
    have fin : ∀ {stk' env'}, s'.stk = env' :: stk' → (resultsOf T s' fn.results.toList [] fun vs => forceV (tupled vs) fun v => K v ⟨env', stk', s'.H, blk0⟩) = some res →
        ∀ W, Priv F2.base C' W → ∃ v, (results fn a'.tmps).run P W = .ok v W ∧ ∃ r s'' C'', K r s'' = some res ∧ C''.w = W ∧ SRel F C'' s'' a.tmps stk ∧ VRel C'' r v := by
      intro stk' env' hst hr W hW
      have hSF : SRel F C' s' a'.tmps (a.tmps :: stk) := ⟨hS''.H, hS''.heap, hS''.env, hS''.stk, hback _ (hle.frame _ hS''.frame)⟩
      have hSW : SRel F (C'.at W) s' a'.tmps (a.tmps :: stk) := priv_sound hSF (by rw [hle.base, hb1]; exact hw1) hW
      obtain ⟨rs, v, h1, h2, h3⟩ := results_sound hT hSW hr
      rw [forceV_eq] at h1
      have hstk := hSW.stk
      rw [hst, SStk] at hstk
      obtain ⟨t', ts', he, henv, hstk⟩ := hstk
      cases he
      exact ⟨v, h2, _, _, C'.at W, h1, rfl, ⟨hSW.H, hSW.heap, henv, hstk, hSW.frame⟩, h3⟩
    have same : ∀ {stk' env'}, s'.stk = env' :: stk' → (resG T s' fn.results.toList fun vs => fV (tupled vs) fun v => K v ⟨env', stk', s'.H, blk0⟩) = (resultsOf T s' fn.results.toList [] fun vs => forceV (tupled vs) fun v => K v ⟨env', stk', s'.H, blk0⟩) := by
      intro stk' env' _
      rw [resG_eq]
      simp only [fV_eq, forceV_eq, List.nil_append]
    obtain ⟨env1, stk1, H1, blk1⟩ := s'
    cases e' with
    | norm =>
      simp only [backK] at hK
      split at hK
      · rename_i env' stk'
        exact leaves_marks _ F2 C' hd.2 hS''.frame (fun W hW => fin rfl ((same rfl).symm.trans hK) W hW)
      · cases hK
    | ret =>
      simp only [backK] at hK
      split at hK
      · rename_i env' stk'
        exact leaves_marks _ F2 C' hd.2 hS''.frame (fun W hW => fin rfl ((same rfl).symm.trans hK) W hW)
      · cases hK
    | exit i => cases hK
    | goto l => cases hK
theorem map_vOf (l : List Operand) (env : Tmps) : (l.map fun x => (vOf x).run env) = l.map (opd env) := by
  congr 1
  funext x
  exact vOf_eq x env
theorem callC_sound [BT] (hT : TabOk P T) {lo : Lo} (hL : LoOk P lo) (m : Nat) {o : Oper} {c : Call} (ho : o.op = .call c) : OpSum P o (callC T lo m o c).run := by
  have slow : OpSum P o (slowO T lo.env o).run := opSum_slow hT hL.env fun _ _ => rfl
  have quick : ∀ {g : Nat} {cf : CF} {args : List AV}, lo.ca g = some cf → ∀ {F : Fr} {C : Cx} {s : St} {a : Act} {stk : List (Array Value)} {K : KV} {res : AV × List Obj}, SRel F C s a.tmps stk → fnOf T s c = some (g, args) → callF T m cf args s K = some res →
      clean P o a C.w fun u w' => ∃ r s' C', K r s' = some res ∧ C'.w = w' ∧ SRel F C' s' a.tmps stk ∧ VRel C' r u := by
    intro g cf args hcf F C s a stk K res hS hfn hR
    obtain ⟨us, hus, hex⟩ := fnOf_sound hT hS.env hfn
    obtain ⟨⟨w, hr, rfl⟩, hcall⟩ := callF_sound hT hL hcf hS hus hR
    unfold clean
    rw [hex o ho, hr]
    refine hcall.mono ?_
    intro e w' hw'
    cases e with
    | returned v =>
      obtain ⟨r, s', C', g1, g2, g3, g4⟩ := hw'
      exact ⟨v, rfl, r, s', C', g1, g2, g3, g4⟩
    | panicked ch => exact hw'.elim
    | outgrown => exact hw'.elim
  unfold callC
  split
  · rename_i f hcal
    split
    · rename_i g
      split
      · rename_i cf hcf
        intro F C s a stk K res hR hS
        refine quick hcf hS ?_ hR
        unfold fnOf
        rw [hcal]
        simp only [opd, map_vOf, List.nil_append, List.append_nil]
      · exact slow
    · rename_i hne
      intro F C s a stk K res hR hS
      dsimp only at hR
      rw [vOf_eq] at hR
      split at hR
      · rename_i g first cap hf
        split at hR
        · rename_i cf hcf
          refine quick hcf hS ?_ hR
          unfold fnOf
          rw [hcal]
          simp only [hf, map_vOf]
        · exact clean_mono (fun u w' ⟨r, s', C', h1, h2, h3, h4, _⟩ => ⟨r, s', C', h1, h2, h3, h4⟩) (opE_clean hT hL.env noInl_ok hS hR)
      · cases hR
  · intro F C s a stk K res hR hS
    dsimp only at hR
    split at hR
    · rename_i ga hga
      obtain ⟨g, args⟩ := ga
      dsimp only at hR
      split at hR
      · rename_i cf hcf
        exact quick hcf hS hga hR
      · exact clean_mono (fun u w' ⟨r, s', C', h1, h2, h3, h4, _⟩ => ⟨r, s', C', h1, h2, h3, h4⟩) (opE_clean hT hL.env noInl_ok hS hR)
    · cases hR
  · exact slow
theorem opC_sound [BT] (hT : TabOk P T) {lo : Lo} (hL : LoOk P lo) (m : Nat) (o : Oper) : OpSum P o (opC T lo m o).run := by
  have slow : OpSum P o (slowO T lo.env o).run := opSum_slow hT hL.env fun _ _ => rfl
  have same : ∀ {R : St → KV → Ans}, (∀ s K, R s K = opE T lo.env noInl o s K) → OpSum P o R := fun h => opSum_slow hT hL.env h
  unfold opC
  split
  · rename_i x ho
    refine same fun s K => ?_
    simp only [opE, ho, quietOp, vOf_eq]
  · rename_i x ho
    split
    · rename_i v
      split
      · rename_i hn
        refine same fun s K => ?_
        simp only [opE, ho, loudOp, opd]
        unfold typedNil
        rw [hn]
      · rename_i ty hn
        refine same fun s K => ?_
        simp only [opE, ho, loudOp, opd]
        unfold typedNil
        rw [hn]
        exact newF_eq _ _ _
    · rename_i hne
      refine same fun s K => ?_
      cases x with
      | const v => exact (hne v rfl).elim
      | _ => simp only [opE, ho, quietOp, vOf_eq]
  · rename_i t x ho
    refine same fun s K => ?_
    simp only [opE, ho, quietOp, vOf_eq, loadC_eq]
  · rename_i t x y ho
    cases hn : isNilTy T t with
    | true => exact slow
    | false =>
      refine same fun s K => ?_
      simp only [opE, ho, quietOp, loudOp, vOf_eq, storeC_eq, cond_false, typedNil_no hn]
  · rename_i t x f ho
    refine same fun s K => ?_
    simp only [opE, ho, quietOp, vOf_eq, fieldAddrC_eq]
  · rename_i x ho
    refine same fun s K => ?_
    simp only [opE, ho, quietOp, vOf_eq]
    cases opd s.env x <;> rfl
  · rename_i op t x y t2 ho
    refine same fun s K => ?_
    simp only [opE, ho, quietOp, vOf_eq, binC_eq]
  · rename_i t i ho
    refine same fun s K => ?_
    simp only [opE, ho, quietOp, vOf_eq, extract, nthF_eq]
    cases opd s.env t <;> rfl
  · rename_i c x y ho
    refine same fun s K => ?_
    simp only [opE, ho, quietOp, vOf_eq]
    cases opd s.env c <;> try rfl
    rename_i b
    cases b <;> rfl
  · rename_i src dst x ho
    split
    · rename_i k hk
      refine same fun s K => ?_
      dsimp only
      rw [vOf_eq]
      split
      · rename_i q n hx
        simp only [opE, ho, quietOp, hx, wrapF_eq, convert]
        unfold kindAt at hk
        cases h1 : Tab.get T src with
        | none => rw [h1] at hk; cases hk
        | some si =>
          rw [h1] at hk
          dsimp only at hk
          cases h2 : Tab.get T dst with
          | none => rw [h2] at hk; cases hk
          | some di =>
            rw [h2] at hk
            dsimp only at hk
            simp only [bindO, hk]
      · rfl
    · exact slow
  · rename_i t x f ho
    refine same fun s K => ?_
    simp only [opE, ho, quietOp, vOf_eq]
  · rename_i t x i ho
    refine same fun s K => ?_
    simp only [opE, ho, quietOp, vOf_eq]
  · rename_i t x i ho
    refine same fun s K => ?_
    simp only [opE, ho, quietOp, vOf_eq]
  · rename_i op t x ho
    refine same fun s K => ?_
    simp only [opE, ho, quietOp, vOf_eq]
  · rename_i t x lo hi mx ho
    refine same fun s K => ?_
    simp only [opE, ho, quietOp, vOf_eq, sliceF_eq]
  · rename_i x xt t ok ho
    refine same fun s K => ?_
    simp only [opE, ho, quietOp, vOf_eq]
  · rename_i f a b ho
    refine same fun s K => ?_
    simp only [opE, ho, quietOp, map_vOf]
  · rename_i t ho
    refine same fun s K => ?_
    simp only [opE, ho, quietOp, loudOp, newF_eq]
  · rename_i t len parts ho
    refine same fun s K => ?_
    simp only [opE, ho, quietOp, loudOp, buildSliceF_eq, vOf_eq]
  · rename_i t l c ho
    refine same fun s K => ?_
    simp only [opE, ho, quietOp, loudOp, makeSliceF_eq, vOf_eq]
  · rename_i t x i ok ho
    refine same fun s K => ?_
    simp only [opE, ho, quietOp, loudOp, vOf_eq]
  · rename_i t x i y ho
    refine same fun s K => ?_
    simp only [opE, ho, quietOp, loudOp, mapPutF_eq, vOf_eq]
  · rename_i c ho
    split
    · rename_i b hb
      split
      · split
        · rename_i x y hxy
          split
          · rename_i t t2 htt
            refine same fun s K => ?_
            simp only [opE, ho, hb, hxy, htt, quietOp, loudOp, appF_eq, vOf_eq]
          · exact slow
        · exact slow
      · exact slow
    · exact callC_sound hT hL m ho
  · exact slow
structure CW where
  run : St → (St → Ans) → (St → Ans) → Ans
noncomputable def wantC (all : Array Oper) (nt : Nat) (o : Oper) : CW :=
  match o.guard with
  | none => ⟨fun s run _ => run s⟩
  | some jw => match guardT all jw.1 with
    | none => ⟨fun _ _ _ => none⟩
    | some g => cond (Nat.blt g nt)
      (cond jw.2
        ⟨fun s run skip => match getF s.env g with
          | .bool b => @St.casesOn (fun _ => Ans) s fun env stk H blk => @Bool.rec (fun _ => Ans) (skip ⟨(g, .bool false) :: env, stk, H, blk⟩) (run ⟨(g, .bool true) :: env, stk, H, blk⟩) b
          | .tup _ => skip s
          | _ => none⟩
        ⟨fun s run skip => match getF s.env g with
          | .bool b => @St.casesOn (fun _ => Ans) s fun env stk H blk => @Bool.rec (fun _ => Ans) (run ⟨(g, .bool false) :: env, stk, H, blk⟩) (skip ⟨(g, .bool true) :: env, stk, H, blk⟩) b
          | .tup _ => skip s
          | _ => none⟩)
      ⟨fun _ _ _ => none⟩
theorem wantC_eq (all : Array Oper) (nt : Nat) (o : Oper) (s : St) (run skip : St → Ans) : (wantC all nt o).run s run skip = wantedT all nt o s run skip := by
  unfold wantC wantedT
  cases o.guard with
  | none => rfl
  | some jw =>
    obtain ⟨j, want⟩ := jw
    dsimp only
    cases guardT all j with
    | none => rfl
    | some g =>
      obtain ⟨env, stk, H, blk⟩ := s
      dsimp only [bindO]
      cases hb : Nat.blt g nt with
      | false =>
        simp only [cond_false]
        cases getT env g <;> rfl
      | true =>
        cases want with
        | true =>
          simp only [cond_true, getF_eq]
          cases getT env g <;> try rfl
          rename_i b
          cases b <;> rfl
        | false =>
          simp only [cond_true, cond_false, getF_eq]
          cases getT env g <;> try rfl
          rename_i b
          cases b <;> rfl
structure CR where
  run : (St → Ans) → St → Ans
noncomputable def opsC [BT] (T : Tab) (lo : Lo) (out : Nat) (all : Array Oper) (nt : Nat) : List Oper → CR
  | [] => ⟨fun K s => K s⟩
  | o :: r => match o.guard with
    | none => ⟨fun K s => (opC T lo (liveOps all r out) o).run s fun v s' => putF nt o.dst v s' ((opsC T lo out all nt r).run K)⟩
    | some _ => ⟨fun K s => (wantC all nt o).run s (fun s => (opC T lo (liveOps all r out) o).run s fun v s' => putF nt o.dst v s' ((opsC T lo out all nt r).run K)) (fun s => putF nt o.dst (.tup []) s ((opsC T lo out all nt r).run K))⟩
theorem opsC_eq [BT] (lo : Lo) (out : Nat) (all : Array Oper) (nt : Nat) (o : Oper) (r : List Oper) (K : St → Ans) (s : St) :
    (opsC T lo out all nt (o :: r)).run K s = wantedT all nt o s (fun s => (opC T lo (liveOps all r out) o).run s fun v s' => putT nt o.dst v s' ((opsC T lo out all nt r).run K)) (fun s => putT nt o.dst (.tup []) s ((opsC T lo out all nt r).run K)) := by
  rw [opsC]
  split
  · rename_i h
    simp only [wantedT, h, putF_eq]
  · simp only [putF_eq, wantC_eq]
structure CQ where
  run : St → (AV → Ans) → Ans
noncomputable def opQC [BT] (T : Tab) (E : Env) (o : Oper) : CQ :=
  match o.op with
  | .move x => ⟨fun s K => K ((vOf x).run s.env)⟩
  | .assign x => ⟨fun s K => K ((vOf x).run s.env)⟩
  | .load t a => ⟨fun s K => (loadC T t).run s ((vOf a).run s.env) K⟩
  | .fieldAddr t x f => ⟨fun s K => (fieldAddrC T t f).run ((vOf x).run s.env) K⟩
  | .nilCheck x => ⟨fun s K => match (vOf x).run s.env with
    | .ptr i off => K (.ptr i off)
    | .eptr i n off => K (.eptr i n off)
    | .rptr t y off => K (.rptr t y off)
    | _ => none⟩
  | .binOp op t x y _ => ⟨fun s K => (binC T op t (isConst x || isConst y)).run ((vOf x).run s.env) ((vOf y).run s.env) K⟩
  | .extract t i => ⟨fun s K => match (vOf t).run s.env with
    | .tup vs => bindO (nthF vs i) K
    | _ => none⟩
  | .pick c a b => ⟨fun s K => match (vOf c).run s.env with
    | .bool p => @Bool.rec (fun _ => Ans) (K ((vOf b).run s.env)) (K ((vOf a).run s.env)) p
    | _ => none⟩
  | _ => ⟨fun s K => opQ T E o s K⟩
theorem opQC_eq [BT] (o : Oper) (s : St) (K : AV → Ans) : (opQC T E o).run s K = opQ T E o s K := by
  unfold opQC
  split
  · rename_i x ho; simp only [opQ, ho, quietOp, vOf_eq]
  · rename_i x ho; simp only [opQ, ho, quietOp, vOf_eq]
  · rename_i t x ho; simp only [opQ, ho, quietOp, vOf_eq, loadC_eq]
  · rename_i t x f ho; simp only [opQ, ho, quietOp, vOf_eq, fieldAddrC_eq]
  · rename_i x ho
    simp only [opQ, ho, quietOp, vOf_eq]
    cases opd s.env x <;> rfl
  · rename_i op t x y t2 ho; simp only [opQ, ho, quietOp, vOf_eq, binC_eq]
  · rename_i t i ho
    simp only [opQ, ho, quietOp, vOf_eq, extract, nthF_eq]
    cases opd s.env t <;> rfl
  · rename_i c x y ho
    simp only [opQ, ho, quietOp, vOf_eq]
    cases opd s.env c <;> try rfl
    rename_i b
    cases b <;> rfl
  · rfl
structure CAcc where
  run : St → List (Nat × Option (List Nat)) → List (Nat × Option (List Nat))
noncomputable def accC [BT] (T : Tab) (j : Nat) (o : Oper) : CAcc :=
  match o.op with
  | .load _ x => ⟨fun s acc => (j, some ((vOf x).run s.env).refs) :: acc⟩
  | .call _ => ⟨fun s acc => addAcc j (readsOf T s o) acc⟩
  | _ => ⟨fun _ acc => acc⟩
theorem accC_eq [BT] (j : Nat) (o : Oper) (s : St) (acc : List (Nat × Option (List Nat))) : (accC T j o).run s acc = addAcc j (readsOf T s o) acc := by
  unfold accC
  split
  · rename_i t x ho
    simp only [readsOf, ho, addAcc, vOf_eq]
  · rfl
  · rename_i h1 h2
    have : readsOf T s o = none := by
      unfold readsOf
      split
      · rename_i t x ho; exact (h1 t x ho).elim
      · rename_i c ho; exact (h2 c ho).elim
      · rfl
    rw [this]; rfl
structure COL where
  run : List (Nat × Option (List Nat)) → St → (Option (List Nat) → KV) → Ans
noncomputable def slowL [BT] (T : Tab) (E : Env) (o : Oper) : COL := ⟨fun _ s K => opL T E noInl o s K⟩
noncomputable def callL [BT] (T : Tab) (lo : Lo) (m : Nat) (ms : List Nat) (i : Nat) (o : Oper) (c : Call) : COL :=
  match c.callee with
  | .value f => (match f with
    | .func g => (match lo.ca g with
      | some cf => ⟨fun acc s K => cond (accOk ms i none acc) (callF T m cf (c.args.toList.map fun x => (vOf x).run s.env) s (K none)) (opL T lo.env noInl o s K)⟩
      | none => slowL T lo.env o)
    | f => ⟨fun acc s K => match (vOf f).run s.env with
      | .fn (.func g) first cap => (match lo.ca g with
        | some cf => cond (accOk ms i none acc) (callF T m cf (first ++ (c.args.toList.map fun x => (vOf x).run s.env) ++ cap) s (K none)) (opL T lo.env noInl o s K)
        | none => opL T lo.env noInl o s K)
      | _ => none⟩)
  | _ => slowL T lo.env o
noncomputable def opLC [BT] (T : Tab) (lo : Lo) (m : Nat) (ms : List Nat) (i : Nat) (o : Oper) : COL :=
  match o.op with
  | .store t a x => cond (isNilTy T t) (slowL T lo.env o) ⟨fun _ s K => (storeC T t).run s ((vOf a).run s.env) ((vOf x).run s.env) fun s' => K (footOf s o) .unk s'⟩
  | .call c => callL T lo m ms i o c
  | _ => slowL T lo.env o
def OpLSum [BT] (P : Program) (o : Oper) (R : List (Nat × Option (List Nat)) → St → (Option (List Nat) → KV) → Ans) : Prop :=
  ∀ ⦃acc : List (Nat × Option (List Nat))⦄ ⦃F : Fr⦄ ⦃C : Cx⦄ ⦃s : St⦄ ⦃a : Act⦄ ⦃stk : List (Array Value)⦄ ⦃K : Option (List Nat) → KV⦄ ⦃res : AV × List Obj⦄, R acc s K = some res → SRel F C s a.tmps stk →
    clean P o a C.w fun u w' => ∃ foot r s' C', K foot r s' = some res ∧ C'.w = w' ∧ SRel F C' s' a.tmps stk ∧ VRel C' r u ∧ FootOk C C' foot
theorem opLC_sound [BT] (hT : TabOk P T) {lo : Lo} (hL : LoOk P lo) (m : Nat) (ms : List Nat) (i : Nat) (o : Oper) : OpLSum P o (opLC T lo m ms i o).run := by
  have slow : OpLSum P o (slowL T lo.env o).run := fun acc F C s a stk K res h hS => opL_sound hT hL.env noInl_ok hS h
  unfold opLC
  split
  · rename_i t x y ho
    cases hn : isNilTy T t with
    | true => exact slow
    | false =>
      intro acc F C s a stk K res h hS
      refine opL_sound hT hL.env noInl_ok hS (o := o) ?_
      rw [← h]
      simp only [opL, ho, opE, quietOp, loudOp, vOf_eq, storeC_eq, cond_false, typedNil_no hn]
  · rename_i c ho
    have quick : ∀ {g : Nat} {cf : CF} {args : List AV}, lo.ca g = some cf → ∀ {F : Fr} {C : Cx} {s : St} {a : Act} {stk : List (Array Value)} {K : Option (List Nat) → KV} {res : AV × List Obj}, SRel F C s a.tmps stk → fnOf T s c = some (g, args) → callF T m cf args s (K none) = some res →
        clean P o a C.w fun u w' => ∃ foot r s' C', K foot r s' = some res ∧ C'.w = w' ∧ SRel F C' s' a.tmps stk ∧ VRel C' r u ∧ FootOk C C' foot := by
      intro g cf args hcf F C s a stk K res hS hfn hR
      obtain ⟨us, hus, hex⟩ := fnOf_sound hT hS.env hfn
      obtain ⟨⟨w, hr, rfl⟩, hcall⟩ := callF_sound hT hL hcf hS hus hR
      unfold clean
      rw [hex o ho, hr]
      refine hcall.mono ?_
      intro e w' hw'
      cases e with
      | returned v =>
        obtain ⟨r, s', C', g1, g2, g3, g4⟩ := hw'
        exact ⟨v, rfl, none, r, s', C', g1, g2, g3, g4, trivial⟩
      | panicked ch => exact hw'.elim
      | outgrown => exact hw'.elim
    unfold callL
    split
    · rename_i f hcal
      split
      · rename_i g
        split
        · rename_i cf hcf
          intro acc F C s a stk K res hR hS
          dsimp only at hR
          cases hacc : accOk ms i none acc with
          | true =>
            rw [hacc, cond_true] at hR
            refine quick hcf hS ?_ hR
            unfold fnOf
            rw [hcal]
            simp only [opd, map_vOf, List.nil_append, List.append_nil]
          | false =>
            rw [hacc, cond_false] at hR
            exact opL_sound hT hL.env noInl_ok hS hR
        · exact slow
      · intro acc F C s a stk K res hR hS
        dsimp only at hR
        rw [vOf_eq] at hR
        split at hR
        · rename_i g first cap hf
          split at hR
          · rename_i cf hcf
            cases hacc : accOk ms i none acc with
            | true =>
              rw [hacc, cond_true] at hR
              refine quick hcf hS ?_ hR
              unfold fnOf
              rw [hcal]
              simp only [hf, map_vOf]
            | false =>
              rw [hacc, cond_false] at hR
              exact opL_sound hT hL.env noInl_ok hS hR
          · exact opL_sound hT hL.env noInl_ok hS hR
        · cases hR
    · exact slow
  · exact slow
structure CY where
  run : (St → Ans) → List (Nat × Option (List Nat)) → St → Ans
noncomputable def yC [BT] (T : Tab) (lo : Lo) (m : Nat) (all : Array Oper) (q : Nat → Bool) (ms : List Nat) (nt : Nat) : Nat → Array Bool → CY
  | 0, listed => match Region.ready .any all listed with
    | [] => ⟨fun K _ s => K s⟩
    | _ :: _ => ⟨fun _ _ _ => none⟩
  | f + 1, listed => match Region.ready .any all listed with
    | [] => ⟨fun K _ s => K s⟩
    | i :: r => match firstQ q (i :: r) with
      | some j => cond (Region.free .any all listed j) (match all[j]? with
        | some o => ⟨fun K acc s => (wantC all nt o).run s
            (fun s => (opQC T lo.env o).run s fun v => putF nt o.dst v s ((yC T lo m all q ms nt f (listed.setIfInBounds j true)).run K ((accC T j o).run s acc)))
            (fun s => putF nt o.dst (.tup []) s ((yC T lo m all q ms nt f (listed.setIfInBounds j true)).run K acc))⟩
        | none => ⟨fun _ _ _ => none⟩) ⟨fun _ _ _ => none⟩
      | none => match r with
        | [] => (match all[i]? with
          | some o => ⟨fun K acc s => (wantC all nt o).run s
              (fun s => (opLC T lo m ms i o).run acc s fun foot v s' => cond (accOk ms i foot acc) (putF nt o.dst v s' ((yC T lo m all q ms nt f (listed.setIfInBounds i true)).run K (accNext foot acc))) none)
              (fun s => putF nt o.dst (.tup []) s ((yC T lo m all q ms nt f (listed.setIfInBounds i true)).run K acc))⟩
          | none => ⟨fun _ _ _ => none⟩)
        | _ :: _ => ⟨fun _ _ _ => none⟩
theorem yC_sound [BT] (hT : TabOk P T) {lo : Lo} (hL : LoOk P lo) (m : Nat) {F : Fr} {stk : List (Array Value)} {all : Array Oper} {nt : Nat} {K : St → Ans} {res : AV × List Obj} {Q : Act → World → Prop} {ds : List Deferred}
    {q : Nat → Bool} (hsel : Region.noSelect all = true)
    (hQ : ∀ s C a, K s = some res → SRel F C s a.tmps stk → nt ≤ a.tmps.size → a.defers = ds → Q a C.w) :
    ∀ (f : Nat) (listed : Array Bool) (acc : List (Nat × Option (List Nat))) (es : List Ent) {s : St} {C : Cx} {a : Act}, ClosedL .any all listed → EntsOk C acc es →
      (yC T lo m all q (masks all all.size) nt f listed).run K acc s = some res → SRel F C s a.tmps stk → nt ≤ a.tmps.size → a.defers = ds →
      wpAnyE P .any all (ancB (masks all all.size)) Q es f listed a C.w
  | 0, listed, acc, es, s, C, a, hcl, hes, h, hS, hsz, hd => by
    rw [yC] at h
    split at h
    · rename_i hr
      intro w' hq
      exact ⟨hr, hQ s (C.at w') a h (at_sound hS hq) hsz hd⟩
    · cases h
  | f + 1, listed, acc, es, s, C, a, hcl, hes, h, hS, hsz, hd => by
    rw [yC] at h
    split at h
    · rename_i hr
      intro w' hq
      refine ⟨fun _ => hQ s (C.at w') a h (at_sound hS hq) hsz hd, fun i hi => ?_⟩
      rw [hr] at hi
      cases hi
    · rename_i i0 r0 hr
      split at h
      · rename_i j hj
        cases hfree : Region.free .any all listed j with
        | false => rw [hfree] at h; cases h
        | true =>
        rw [hfree, cond_true] at h
        have hjr : j ∈ Region.ready .any all listed := by rw [hr]; exact firstQ_mem hj
        obtain ⟨_, o, ho, _⟩ := mem_ready.1 hjr
        rw [ho] at h
        dsimp only at h
        rw [wantC_eq] at h
        obtain ⟨s', hS', h⟩ := wantedT_sound hS hsz h
        rcases h with ⟨hw, h⟩ | ⟨hw, h⟩
        · rw [opQC_eq] at h
          simp only [putF_eq, accC_eq] at h
          obtain ⟨r', v, hK, hv, hsees⟩ := opQ_sees hT hL.env hS' h
          obtain ⟨s3, h3, hS3, hsz3, hd3⟩ := putT_sound hS' hsz hv hK
          cases hrd : readsOf T s' o with
          | none =>
            have := yC_sound hT hL m hsel hQ f _ acc es (hcl.set hjr) hes (by rw [hrd] at h3; exact h3) hS3 hsz3 (hd3.trans hd)
            refine wpAnyE_first (ancB_ok all) (B := fun _ => False) (w0 := C.w) ho (Region.noSelect_spec hsel) f listed a C.w hcl (Region.free_spec ho hfree) hjr (.inl ⟨hw, fun W _ => hsees W (fun l hl => by rw [hrd] at hl; cases hl)⟩) (fun b hb => hb.elim) ?_
            exact more_ents this
          | some rd =>
          let B : Nat → Prop := fun b => C.R b ∨ ∃ i ∈ rd, Live C.H i ∧ C.ρ i = some b
          have hB : Keeps B C.w C.w := by
            rintro b (hb | ⟨i, _, hl, hb⟩)
            · exact ⟨hS.heap.rlt b hb, rfl⟩
            · exact ⟨hS.heap.blk_lt hl hb, rfl⟩
          refine wpAnyE_first (ancB_ok all) (B := B) (w0 := C.w) ho (Region.noSelect_spec hsel) f listed a C.w hcl (Region.free_spec ho hfree) hjr (.inl ⟨hw, fun W hW => hsees W (fun l hl b hb => by
            rw [hrd] at hl
            cases hl
            exact (hW b hb).2)⟩) hB ?_
          refine yC_sound hT hL m hsel hQ f _ _ _ (hcl.set hjr) ?_ (by rw [hrd] at h3; exact h3) hS3 hsz3 (hd3.trans hd)
          unfold addAcc
          rw [EntsOk]
          refine ⟨_, es, rfl, rfl, ⟨fun l hl => ?_⟩, hes⟩
          cases hl
          refine ⟨hB, ?_⟩
          rintro b (hb | ⟨k, hk, hlk, hbk⟩) i hl hbi
          · exact absurd hb (hS.heap.ro i b hl hbi)
          · rw [hS.heap.inj i k b hl hlk hbi hbk]; exact hk
        · rw [putF_eq] at h
          obtain ⟨s3, h3, hS3, hsz3, hd3⟩ := putT_sound (v := .tup []) (u := undef) hS' hsz (by rw [VRel]; exact ⟨#[], rfl, by rw [VRels]⟩) h
          have := yC_sound hT hL m hsel hQ f _ acc es (hcl.set hjr) hes h3 hS3 hsz3 (hd3.trans hd)
          refine wpAnyE_first (ancB_ok all) (B := fun _ => False) (w0 := C.w) ho (Region.noSelect_spec hsel) f listed a C.w hcl (Region.free_spec ho hfree) hjr (.inr ⟨hw, rfl⟩) (fun b hb => hb.elim) ?_
          exact more_ents this
      · split at h
        rotate_left
        · cases h
        intro w' hq
        refine ⟨fun h0 => (by rw [hr] at h0; cases h0), fun i hi => ?_⟩
        obtain rfl : i = i0 := by rw [hr] at hi; exact List.mem_singleton.1 hi
        obtain ⟨_, o, ho, _⟩ := mem_ready.1 hi
        have hSw := at_sound hS hq
        have hesw := hes.later hq
        generalize hC : C.at w' = C2 at hSw hesw
        have hw : w' = C2.w := by rw [← hC]; rfl
        clear hC hS hes hq
        subst hw
        rename_i C0 _
        clear C0
        obtain ⟨C, hC⟩ : ∃ C, C = C2 := ⟨_, rfl⟩
        subst hC
        rw [ho] at h
        dsimp only at h
        rw [wantC_eq] at h
        obtain ⟨s', hS', h⟩ := wantedT_sound hSw hsz h
        unfold clOp
        simp only [ho]
        rcases h with ⟨hw, h⟩ | ⟨hw, h⟩
        · rw [if_pos hw]
          refine clean_mono ?_ (opLC_sound hT hL m (masks all all.size) i o h hS')
          rintro u w'' ⟨foot, r', s'', C', hK, rfl, hS'', hv, hf⟩
          replace hK := cond_none hK; obtain ⟨hacc, hK⟩ := hK
          rw [putF_eq] at hK
          obtain ⟨s3, h3, hS3, hsz3, hd3⟩ := putT_sound hS'' hsz hv hK
          obtain ⟨g1, g2⟩ := EntsOk.foot hf hesw hacc
          exact ⟨g2, yC_sound hT hL m hsel hQ f _ _ _ (hcl.set hi) g1 h3 hS3 hsz3 (hd3.trans hd)⟩
        · rw [if_neg (by rw [hw]; decide)]
          rw [putF_eq] at h
          obtain ⟨s3, h3, hS3, hsz3, hd3⟩ := putT_sound (v := .tup []) (u := undef) hS' hsz (by rw [VRel]; exact ⟨#[], rfl, by rw [VRels]⟩) h
          exact ⟨fun e _ _ hke => hke, yC_sound hT hL m hsel hQ f _ acc es (hcl.set hi) hesw h3 hS3 hsz3 (hd3.trans hd)⟩
where
  more_ents {f : Nat} {listed : Array Bool} {a : Act} {w : World} {es : List Ent} {an : Nat → Nat → Bool} {k : Nat} {w0 : World} {all : Array Oper} {Q : Act → World → Prop} (h : wpAnyE P .any all an Q es f listed a w) :
      wpAnyE P .any all an Q (⟨k, fun _ => False, w0⟩ :: es) f listed a w := by
    induction f generalizing listed a w with
    | zero => exact h
    | succ f ih =>
      intro w' hq
      refine ⟨(h w' hq).1, fun i hi => clOp_mono (fun a' w'' hk => ⟨fun e he => ?_, ih hk.2⟩) ((h w' hq).2 i hi)⟩
      rcases List.mem_cons.1 he with rfl | he
      · exact fun _ _ b hb => hb.elim
      · exact hk.1 e he
theorem opsC_sound [BT] (hT : TabOk P T) {lo : Lo} (hL : LoOk P lo) (out : Nat) {F : Fr} {stk : List (Array Value)} {all : Array Oper} {nt : Nat} {K : St → Ans} {res : AV × List Obj} {Q : Exit → Act → World → Prop} {ds : List Deferred} {rn : Option Nat}
    (hQ : ∀ s C a, K s = some res → SRel F C s a.tmps stk → nt ≤ a.tmps.size → a.defers = ds → Q .normal a C.w) :
    ∀ (l : List Oper) (n : Nat), all.toList.drop n = l → ∀ {s : St} {C : Cx} {a : Act}, (opsC T lo out all nt l).run K s = some res → SRel F C s a.tmps stk → nt ≤ a.tmps.size → a.defers = ds →
      wpOpsIn (WF rn) 0 P all Q (List.range' n l.length) a C.w
  | [], n, hl, s, C, a, h, hS, hsz, hd => hQ s C a h hS hsz hd
  | o :: r, n, hl, s, C, a, h, hS, hsz, hd => by
    rw [opsC_eq] at h
    have hlr : all.toList.drop (n + 1) = r := by rw [← List.tail_drop, hl]; rfl
    have ho : all[n]? = some o := by
      have : (all.toList.drop n)[0]? = some o := by rw [hl]; rfl
      simpa using this
    rw [List.length_cons, List.range'_succ, wpOpsIn, ho]
    dsimp only
    obtain ⟨s', hS', h⟩ := wantedT_sound hS hsz h
    rcases h with ⟨hw, h⟩ | ⟨hw, h⟩
    · rw [if_pos hw]
      refine wpIn_of_clean (clean_mono ?_ (opC_sound hT hL _ o h hS'))
      rintro u w' ⟨r', s'', C', hK, rfl, hS'', hv⟩
      obtain ⟨s3, h3, hS3, hsz3, hd3⟩ := putT_sound hS'' hsz hv hK
      exact opsC_sound hT hL out hQ r (n + 1) hlr h3 hS3 hsz3 (hd3.trans hd)
    · rw [if_neg (by rw [hw]; decide)]
      refine ⟨fun f _ => WF_fn rn f, ?_⟩
      obtain ⟨s3, h3, hS3, hsz3, hd3⟩ := putT_sound (v := .tup []) (u := undef) hS' hsz (by rw [VRel]; exact ⟨#[], rfl, by rw [VRels]⟩) h
      exact opsC_sound hT hL out hQ r (n + 1) hlr h3 hS3 hsz3 (hd3.trans hd)
noncomputable def keepF (env : Tmps) (keep : List Nat) : (Tmps → Ans) → Ans := @List.rec Nat (fun _ => (Tmps → Ans) → Ans) (fun K => K []) (fun d _ ih K => fV (getF env d) fun v => ih fun r => K ((d, v) :: r)) keep
theorem keepF_eq (env : Tmps) (keep : List Nat) : ∀ K : Tmps → Ans, keepF env keep K = K (keepT env keep) := by
  induction keep with
  | nil => intro K; rfl
  | cons d r ih =>
    intro K
    show fV (getF env d) _ = _
    rw [fV_eq, getF_eq]
    exact ih _
noncomputable def headF (keep : List Nat) (s : St) (K : St → Ans) : Ans :=
  @St.casesOn (fun _ => Ans) s fun env stk H blk => keepF env keep fun env => fL (trimH (refsT env ++ refsS stk) H.length H) fun H => K ⟨env, stk, H, blk⟩
theorem headF_eq (keep : List Nat) (s : St) (K : St → Ans) : headF keep s K = K (s.head keep) := by
  obtain ⟨env, stk, H, blk⟩ := s
  show keepF env keep _ = _
  rw [keepF_eq, fL_eq]
  rfl
noncomputable def loopF (keep : List Nat) (run : (Ex → St → Ans) → St → Ans) (K : Ex → St → Ans) : Nat → St → Ans :=
  @Nat.rec (fun _ => St → Ans) (fun _ => none) (fun _ ih s => headF keep s fun s => run (fun e s' => match e with
    | .norm => ih s'
    | e => K e s') s)
structure CC where
  run : (Ex → St → Ans) → St → Ans
noncomputable def seqK (G : St → Ans) (K : Ex → St → Ans) (e : Ex) (s : St) : Ans :=
  match e with
  | .norm => G s
  | e => K e s
noncomputable def blkK (id : Nat) (K : Ex → St → Ans) (e : Ex) (s : St) : Ans :=
  match e with
  | .exit i => @Bool.rec (fun _ => Ans) (K (.exit i) s) (K .norm s) (Nat.beq i id)
  | e => K e s
noncomputable def codeC [BT] (T : Tab) (lo : Lo) (h : List (Nat × List Nat)) (nt rs : Nat) : List (Nat × Nat) → Nat → Nat → Code → CC
  | _, _, _, .skip => ⟨fun K s => K .norm s⟩
  | _, out, _, .region _ ops draw => cond draw
      (cond (Region.noSelect ops)
        ⟨fun K s => (yC T lo (Nat.lor out (usesAll ops ops.toList)) ops (quietAt T lo.env ops) (masks ops ops.size) nt ops.size (Array.replicate ops.size false)).run (fun s => K .norm s) [] s⟩ ⟨fun _ _ => none⟩)
      ⟨fun K s => (opsC T lo out ops nt ops.toList).run (fun s => K .norm s) s⟩
  | ex, out, b, .seq x y => ⟨fun K s => (codeC T lo h nt rs ex (liveC nt rs ex y out) b x).run (seqK (fun s => pruneF (liveC nt rs ex y out) s fun s => (codeC T lo h nt rs ex out b y).run K s) K) s⟩
  | ex, out, b, .cond c x y => ⟨fun K s => match (vOf c).run s.env with
      | .bool p => @Bool.rec (fun _ => Ans) ((codeC T lo h nt rs ex out b y).run K s) ((codeC T lo h nt rs ex out b x).run K s) p
      | _ => none⟩
  | ex, out, _, .block id c => ⟨fun K s => (codeC T lo h nt rs ((id, out) :: ex) out id c).run (blkK id K) s⟩
  | ex, _, b, .loop c => ⟨fun K s => loopF (hintGo b h) (codeC T lo h nt rs ex (liveC nt rs ex c 0) b c).run K runFuel s⟩
  | _, _, _, .exit id => ⟨fun K s => K (.exit id) s⟩
  | _, _, _, .ret => ⟨fun K s => K .ret s⟩
  | _, _, _, .label _ => ⟨fun K s => K .norm s⟩
  | _, _, b, .rangeFunc g ps asn c => ⟨fun K s => headF (hintGo b h) s fun s => lenF s.H fun k0 => startG lo.env nt k0 (hintGo b h) g (fun K s =>
      codeI T lo.env (hintOf h) (codeD T lo.env (hintOf h) 0 1) runFuel nt (.rnd (.block (annR T lo.env h nt k0 b c))) (.rangeFunc g ps asn c) (weakP k0 (fun _ => hintGo b h) K) s) K s⟩
  | _, _, _, _ => ⟨fun _ _ => none⟩
theorem loopF_sound [BT] {nt : Nat} {c : Code} {G : (Ex → St → Ans) → St → Ans} (hG : CSum P nt c G) (keep : List Nat) {r : Option Nat} {stk : List (Array Value)} {res : AV × List Obj} {K : Ex → St → Ans} :
    ∀ (n : Nat) {F : Fr} {s : St} {C : Cx} {a : Act}, loopF keep G K n s = some res → RndOk r F → SRel F C s a.tmps stk → nt ≤ a.tmps.size → MarksOk F a.defers → LoopWp r P c (CPost F K stk nt res) a C.w
  | 0, F, s, C, a, h, hro, hS, hsz, hd => by cases h
  | n + 1, F, s, C, a, h, hro, hS, hsz, hd => by
    replace h : headF keep s (fun s => G (fun e s' => match e with
      | .norm => loopF keep G K n s'
      | e => K e s') s) = some res := h
    rw [headF_eq] at h
    obtain ⟨C', hw, hS'⟩ := head_sound hS keep
    rw [← hw]
    refine loopWp_of_wp (wpIn_mono (hG h hro hS' hsz hd) ?_)
    rintro e a' w' ⟨F', e', s', C'', hle, rfl, hK, rfl, hS'', hsz', hd'⟩
    cases e' with
    | norm => exact LoopWp.mono (loopF_sound hG keep n hK (hro.le hle) hS'' hsz' hd') (fun _ _ _ h => CPost.of_le hle h)
    | exit i => exact ⟨F', .exit i, s', C'', hle, rfl, hK, rfl, hS'', hsz', hd'⟩
    | ret => exact ⟨F', .ret, s', C'', hle, rfl, hK, rfl, hS'', hsz', hd'⟩
    | goto l => exact ⟨F', .goto l, s', C'', hle, rfl, hK, rfl, hS'', hsz', hd'⟩
theorem codeC_sound [BT] (hm : P.follows .mixedOrders = true) (hT : TabOk P T) {lo : Lo} (hL : LoOk P lo) (h : List (Nat × List Nat)) (nt rs : Nat) : ∀ (c : Code) (ex : List (Nat × Nat)) (out b : Nat), CSum P nt c (codeC T lo h nt rs ex out b c).run := by
  intro c
  induction c with
  | skip =>
    intro ex out b r F K s C a stk res hG hro hS hsz hd
    exact wpIn_skip ⟨F, .norm, s, C, FLe.refl F, rfl, hG, rfl, hS, hsz, hd⟩
  | region id ops draw =>
    intro ex out b r F K s C a stk res hG hro hS hsz hd
    rw [codeC] at hG
    cases draw with
    | false =>
      refine wpIn_region ?_
      have := opsC_sound hT hL _ (Q := CPost F K stk nt res) (all := ops) (ds := a.defers) (rn := r) (fun s C a' hK hS hsz hd' => ⟨F, .norm, s, C, FLe.refl F, rfl, hK, rfl, hS, hsz, by rw [hd']; exact hd⟩) ops.toList 0 (by simp) hG hS hsz rfl
      rw [List.range_eq_range']
      simpa using this
    | true =>
      simp only [cond_true] at hG
      have hW : Below C.w.heap.size C.w { C.w with drawn := C.w.drawn + 1 } := ⟨rfl, rfl, rfl, Nat.le_refl _, fun _ _ => rfl⟩
      have hS1 := at_sound hS hW
      cases hsel : Region.noSelect ops with
      | false => rw [hsel] at hG; cases hG
      | true =>
      rw [hsel] at hG
      refine wpIn_region_any hm ?_
      refine wpAnyIn_of_E (ents := []) (an := ancB (masks ops ops.size)) (Q := fun a' w' => CPost F K stk nt res .normal a' w') (fun a' w' h => h) _ _ _ _ ?_
      refine yC_sound hT hL _ hsel (ds := a.defers) (fun s C a' hK hS hsz hd' => ?_) ops.size _ [] [] ?_ (by rw [EntsOk]) hG hS1 hsz rfl
      · exact ⟨F, .norm, s, C, FLe.refl F, rfl, hK, rfl, hS, hsz, by rw [hd']; exact hd⟩
      intro j oj _ hl
      rw [getD_replicate_false] at hl
      cases hl
  | seq p q ihx ihy =>
    intro ex out b r F K s C a stk res hG hro hS hsz hd
    rw [codeC] at hG
    refine wpIn_seq (wpIn_mono (ihx _ _ _ hG hro hS hsz hd) ?_)
    rintro e a' w' ⟨F', e', s', C', hle, rfl, hK, rfl, hS', hsz', hd'⟩
    cases e' with
    | norm =>
      obtain ⟨s2, hS2, hK⟩ := pruneF_sound hS' (show pruneF _ s' _ = some res from hK)
      exact wpIn_mono (ihy _ _ _ hK (hro.le hle) hS2 hsz' hd') fun _ _ _ h => h.of_le hle
    | exit i => exact ⟨F', .exit i, s', C', hle, rfl, hK, rfl, hS', hsz', hd'⟩
    | ret => exact ⟨F', .ret, s', C', hle, rfl, hK, rfl, hS', hsz', hd'⟩
    | goto l => exact ⟨F', .goto l, s', C', hle, rfl, hK, rfl, hS', hsz', hd'⟩
  | cond c p q ihx ihy =>
    intro ex out b r F K s C a stk res hG hro hS hsz hd
    rw [codeC] at hG
    dsimp only at hG
    rw [vOf_eq] at hG
    split at hG
    · rename_i p hp
      have hv := opd_rel (C := C) hS.env c
      rw [hp, VRel] at hv
      refine wpIn_cond hv ?_
      cases p with
      | true => exact ihx _ _ _ hG hro hS hsz hd
      | false => exact ihy _ _ _ hG hro hS hsz hd
    · cases hG
  | block id c ih =>
    intro ex out b r F K s C a stk res hG hro hS hsz hd
    rw [codeC] at hG
    refine wpIn_block (wpIn_mono (ih _ _ id hG hro hS hsz hd) ?_)
    rintro e a' w' ⟨F', e', s', C', hle, rfl, hK, rfl, hS', hsz', hd'⟩
    cases e' with
    | norm => exact ⟨F', .norm, s', C', hle, rfl, hK, rfl, hS', hsz', hd'⟩
    | exit i =>
      simp only [blkK] at hK
      show if i = id then _ else _
      by_cases hi : i = id
      · subst hi
        rw [if_pos rfl]
        rw [Nat.beq_refl] at hK
        exact ⟨F', .norm, s', C', hle, rfl, hK, rfl, hS', hsz', hd'⟩
      · rw [if_neg hi]
        rw [beq_ne hi] at hK
        exact ⟨F', .exit i, s', C', hle, rfl, hK, rfl, hS', hsz', hd'⟩
    | ret => exact ⟨F', .ret, s', C', hle, rfl, hK, rfl, hS', hsz', hd'⟩
    | goto l => exact ⟨F', .goto l, s', C', hle, rfl, hK, rfl, hS', hsz', hd'⟩
  | loop c ih =>
    intro ex out b r F K s C a stk res hG hro hS hsz hd
    rw [codeC] at hG
    exact wp_of_loopWp (loopF_sound (G := (codeC T lo h nt rs ex (liveC nt rs ex c 0) b c).run) (ih _ _ b) (hintGo b h) runFuel hG hro hS hsz hd)
  | exit id =>
    intro ex out b r F K s C a stk res hG hro hS hsz hd
    exact wpIn_exit ⟨F, .exit id, s, C, FLe.refl F, rfl, hG, rfl, hS, hsz, hd⟩
  | ret =>
    intro ex out b r F K s C a stk res hG hro hS hsz hd
    exact wpIn_ret ⟨F, .ret, s, C, FLe.refl F, rfl, hG, rfl, hS, hsz, hd⟩
  | label l =>
    intro ex out b r F K s C a stk res hG hro hS hsz hd
    exact wpIn_label ⟨F, .norm, s, C, FLe.refl F, rfl, hG, rfl, hS, hsz, hd⟩
  | rangeFunc g ps asn c iha ihc =>
    intro ex out b r F K s C a stk res hG hro hS hsz hd
    rw [codeC] at hG
    dsimp only at hG
    rw [headF_eq, lenF_eq] at hG
    obtain ⟨C', hw, hS'⟩ := head_sound hS (hintGo b h)
    rw [← hw]
    exact csum_rounds (hint := hintOf h) (d := 0) (m := 1) hm hT hL.env (s.head (hintGo b h)).H.length (fun _ => hintGo b h) (hintGo b h) (x := .block (annR T lo.env h nt (s.head (hintGo b h)).H.length b c)) (annR_ok hm hT hL.env h nt _ c b).1 (fun K s res e => ⟨runFuel, e⟩) hG hro hS' hsz hd
  | _ => intro ex out b r F K s C a stk res hG hro hS hsz hd; cases hG
noncomputable def funF [BT] (T : Tab) (lo : Lo) (i : RunI) (f : Func) : CF := ⟨f.ntmps, f.results.toList, (codeC T lo i.hints f.ntmps (resM f.results.toList) [] (resM f.results.toList) 0 (f.body.getD .skip)).run⟩
noncomputable def runQ [BT] (T : Tab) (lo : Lo) (i : RunI) (f : Func) (l : List AV) (H : List Obj) (K : AV → List Obj → Ans) : Ans :=
  (codeC T lo i.hints f.ntmps (resM f.results.toList) [] (resM f.results.toList) 0 (f.body.getD .skip)).run (retK T H f.results.toList K) { env := argsEnv 0 l, stk := [rootsT 0 H], H := H, blk := 0 }
noncomputable def runQP [BT] (T : Tab) (lo : Lo) (i : RunI) (f : Func) (l : List AV) (K : AV → Ans) : Ans :=
  match runQ T lo i f l [] (fun v _ => some (v, [])) with
  | some (r, H) => cond (isNil H && r.closed1) (fV r K) none
  | none => none
theorem retK_sum [BT] (hT : TabOk P T) {g : Nat} {fn : Func} {c : Code} (hf : P.funcs[g]? = some fn) (hb : fn.body = some c) {G : (Ex → St → Ans) → St → Ans} (hG : CSum P fn.ntmps c G) {F : Fr} {C : Cx} (hh : HRel C) (hF : FrameOk F C) {args : List AV} {us : Array Value} (hargs : VRels C args us.toList)
    {K : AV → List Obj → Ans} {res : AV × List Obj} (h : G (retK T C.H fn.results.toList K) { env := argsEnv 0 args, stk := [rootsT 0 C.H], H := C.H, blk := 0 } = some res) :
    Calls P g us C.w fun
      | .returned v, w' => ∃ r C', K r C'.H = some res ∧ C'.w = w' ∧ HRel C' ∧ FrameOk F C' ∧ VRel C' r v ∧ (∀ j b, (getH C.H j).isBlk = true → C.ρ j = some b → C'.ρ j = some b ∧ Live C'.H j)
      | _, _ => False := by
  obtain ⟨F1, hF1⟩ : ∃ F1 : Fr, F1 = { F.re C with base := C.w.heap.size } := ⟨_, rfl⟩
  have hF1C : FrameOk F1 C := by rw [hF1]; exact ⟨rfl, rfl, rfl, Nat.le_refl _, fun _ _ _ => rfl, fun _ h => h, fun _ h => .inl h, fun i b hl hb => .inl ⟨i, hl, hb⟩⟩
  have hback : ∀ C', FrameOk F1 C' → FrameOk F C' := fun C' h => (re_le hF).frame C' (by rw [hF1] at h; exact ⟨h.os, h.tape, h.output, h.size, h.keep, h.r0, h.rN, h.own⟩)
  have hb1 : F1.base = C.w.heap.size := by rw [hF1]
  have hw1 : F.w0.heap.size ≤ C.w.heap.size := hF.size
  have hS : SRel F1 C { env := argsEnv 0 args, stk := [rootsT 0 C.H], H := C.H, blk := 0 } (us ++ Array.replicate (fn.ntmps - us.size) undef) [rootVals C] :=
    ⟨rfl, hh, args_env hargs _, by rw [SStk]; exact ⟨_, [], rfl, roots_env hh, by rw [SStk]⟩, hF1C⟩
  refine (callsIn_wide (n := 0)).1 (callsIn_of_wp_marks hf hb trivial (wpIn_mono (hG (r := none) (a := { tmps := us ++ Array.replicate (fn.ntmps - us.size) undef, defers := [] }) h (RndOk.none _) hS (by simp; omega) ⟨by rw [hF1]; exact Nat.le_refl _, trivial⟩) ?_))
  rintro e a' w' ⟨F2, e', s', C0, hle, rfl, hK, rfl, hS0, hsz, hd⟩
  have fin : (match s'.stk with
      | [env] => cond (rootsOk env 0 C.H) (resultsOf T s' fn.results.toList [] fun vs => packV C.H.length (tupled vs) s'.H K) none
      | _ => none) = some res → ∀ W, Priv F2.base C0 W →
      ∃ v, (results fn a'.tmps).run P W = .ok v W ∧ ∃ r C'', K r C''.H = some res ∧ C''.w = W ∧ HRel C'' ∧ FrameOk F C'' ∧ VRel C'' r v ∧ (∀ j b, (getH C.H j).isBlk = true → C.ρ j = some b → C''.ρ j = some b ∧ Live C''.H j) := by
    intro hr W hW
    obtain ⟨C', hC'⟩ : ∃ C', C' = C0.at W := ⟨_, rfl⟩
    have hS' : SRel F C' s' a'.tmps [rootVals C] := by
      rw [hC']
      exact priv_sound (F := F) ⟨hS0.H, hS0.heap, hS0.env, hS0.stk, hback _ (hle.frame _ hS0.frame)⟩ (by rw [hle.base, hb1]; exact hw1) hW
    have hCw : C'.w = W := by rw [hC']; rfl
    rw [← hCw]
    split at hr
    · rename_i env hst
      replace hr := cond_none hr; obtain ⟨hro, hr⟩ := hr
      obtain ⟨rs, v, h1, h2, h3⟩ := results_sound hT hS' hr
      rw [← hS'.H] at h1
      obtain ⟨r', C'', hw'', hh'', hF'', hv'', hK'', hkeep⟩ := packV_sound hS'.heap hS'.frame h3 h1
      refine ⟨v, h2, r', C'', hK'', hw'', hh'', hF'', hv'', ?_⟩
      intro j b hg hbj
      have hl : Live C.H j := isBlk_live hg
      have hlt := live_lt hl
      have hst' := hS'.stk
      rw [hst, SStk] at hst'
      obtain ⟨v', vs', he, henv, _⟩ := hst'
      cases he
      have hv := henv j
      have hroot := rootsOk_spec C.H 0 hro j hg
      rw [Nat.zero_add] at hroot
      rw [hroot, rootVals_get hlt hbj] at hv
      obtain ⟨hb', hlv⟩ := rootAV_back hv
      exact hkeep j hlt b hb' hlv
    · cases hr
  cases e' with
  | norm => exact leaves_marks _ F2 C0 hd.2 hS0.frame (fun W hW => fin hK W hW)
  | ret => exact leaves_marks _ F2 C0 hd.2 hS0.frame (fun W hW => fin hK W hW)
  | exit i => cases hK
  | goto l => cases hK
theorem runQ_ok [BT] (hm : P.follows .mixedOrders = true) (hT : TabOk P T) {lo : Lo} (hL : LoOk P lo) {i : RunI} {f : Func} (hf : P.funcs[i.g]? = some f) (hb : f.body.isSome = true) (hn : f.name ≠ "runtime.NumGoroutine") :
    FuncOk P i.g (runQ T lo i f) :=
  ⟨⟨f, hf, hb, hn⟩, fun C args us K res Fr hh hF hargs h => retK_sum hT hf (bodySome hb) (codeC_sound hm hT hL i.hints f.ntmps _ _ _ _ 0) hh hF hargs h⟩
theorem runQP_ok [BT] (hm : P.follows .mixedOrders = true) (hT : TabOk P T) {lo : Lo} (hL : LoOk P lo) {i : RunI} {f : Func} (hf : P.funcs[i.g]? = some f) (hb : f.body.isSome = true) (hn : f.name ≠ "runtime.NumGoroutine") :
    PureOk P i.g (runQP T lo i f) := by
  refine ⟨⟨f, hf, hb, hn⟩, fun C args us K res hh hH hargs hFp => ?_⟩
  unfold runQP at hFp
  cases hr : runQ T lo i f args [] (fun v _ => some (v, [])) with
  | none => rw [hr] at hFp; cases hFp
  | some p =>
    obtain ⟨r, H⟩ := p
    rw [hr] at hFp
    dsimp only at hFp
    replace hFp := cond_none hFp
    simp only [Bool.and_eq_true] at hFp
    rw [fV_eq] at hFp
    obtain ⟨⟨hnil, hcl⟩, hK⟩ := hFp
    refine ⟨r, concl r, hK, fun C' => (closed1_eq hcl).2 rfl, fun W hW => ?_⟩
    obtain ⟨hh', hat⟩ := at_pure hh hH hW
    have hargs' : VRels (C.at W) args us.toList := hat hargs
    let F : Fr := ⟨W, fun _ => False, C.R, 0⟩
    have hF : FrameOk F (C.at W) := ⟨rfl, rfl, rfl, Nat.le_refl _, fun _ _ _ => rfl, fun _ h => h, fun _ h => .inl h, fun i b hl => by
      exact absurd (by show getH C.H i = .dead; rw [hH]; rfl) hl⟩
    have hn' : runQ T lo i f args (C.at W).H (fun v _ => some (v, [])) = some (r, H) := by
      show runQ T lo i f args C.H _ = _
      rw [hH]; exact hr
    refine ((runQ_ok hm hT hL hf hb hn).2 (C.at W) args us _ _ F hh' hF hargs' hn').mono ?_
    intro e w' hw'
    cases e with
    | returned v =>
      obtain ⟨r', C', hK', rfl, _, hF', hv, _⟩ := hw'
      cases hK'
      refine ⟨by rw [(closed1_eq hcl).1 hv], ⟨hF'.os, hF'.tape, hF'.output, hF'.size, fun k hk => hF'.keep k hk fun h => h⟩⟩
    | panicked ch => exact hw'.elim
    | outgrown => exact hw'.elim
noncomputable def specQ [BT] (P : Program) (T : Tab) (lo : Lo) (i : RunI) : FSpec :=
  match P.funcs[i.g]? with
  | some f => cond i.pure (.pure (runQP T lo i f)) (.func (runQ T lo i f))
  | none => .func fun _ _ _ => none
noncomputable def envQ [BT] (P : Program) (T : Tab) (lo : Lo) : List RunI → Env → Env
  | [], b => b
  | i :: r, b => (i.g, specQ P T lo i) :: envQ P T lo r b
noncomputable def caQ [BT] (P : Program) (T : Tab) (lo : Lo) : List RunI → Nat → Option CF
  | [], _ => none
  | i :: r, g => cond (Nat.beq i.g g) (match P.funcs[i.g]? with
    | some f => some (funF T lo i f)
    | none => none) (caQ P T lo r g)
noncomputable def loQ [BT] (P : Program) (T : Tab) (base : Env) (L : List RunI) : Nat → Lo
  | 0 => ⟨base, fun _ => none⟩
  | d + 1 => ⟨envQ P T (loQ P T base L d) L base, caQ P T (loQ P T base L d) L⟩
theorem specQ_ok [BT] (hm : P.follows .mixedOrders = true) (hT : TabOk P T) {lo : Lo} (hL : LoOk P lo) {i : RunI} (hi : i.ok P = true) : SpecOk P i.g (specQ P T lo i) := by
  unfold RunI.ok at hi
  unfold specQ
  cases hf : P.funcs[i.g]? with
  | none => rw [hf] at hi; cases hi
  | some f =>
    rw [hf] at hi
    simp only [Bool.and_eq_true, decide_eq_true_eq] at hi
    dsimp only
    cases i.pure with
    | true => exact runQP_ok hm hT hL hf hi.1 hi.2
    | false => exact runQ_ok hm hT hL hf hi.1 hi.2
theorem envQ_ok [BT] (hm : P.follows .mixedOrders = true) (hT : TabOk P T) {lo : Lo} (hL : LoOk P lo) {base : Env} (hB : EnvOk P base) : ∀ {L : List RunI}, L.all (RunI.ok P) = true → EnvOk P (envQ P T lo L base)
  | [], _ => hB
  | i :: r, h => by
    rw [List.all_cons, Bool.and_eq_true] at h
    exact EnvOk.cons (specQ_ok hm hT hL h.1) (envQ_ok hm hT hL hB h.2)
theorem caQ_ok [BT] (hm : P.follows .mixedOrders = true) (hT : TabOk P T) {lo : Lo} (hL : LoOk P lo) : ∀ {L : List RunI}, L.all (RunI.ok P) = true → ∀ g cf, caQ P T lo L g = some cf →
    ∃ fn c, P.funcs[g]? = some fn ∧ fn.body = some c ∧ fn.name ≠ "runtime.NumGoroutine" ∧ cf.nt = fn.ntmps ∧ cf.res = fn.results.toList ∧ CSum P fn.ntmps c cf.run
  | [], _, g, cf, e => by cases e
  | i :: r, h, g, cf, e => by
    rw [List.all_cons, Bool.and_eq_true] at h
    rw [caQ] at e
    cases hb : Nat.beq i.g g with
    | false => rw [hb] at e; exact caQ_ok hm hT hL h.2 g cf e
    | true =>
      obtain rfl := Nat.eq_of_beq_eq_true hb
      rw [hb, cond_true] at e
      have hi := h.1
      unfold RunI.ok at hi
      cases hf : P.funcs[i.g]? with
      | none => rw [hf] at e; cases e
      | some f =>
        rw [hf] at e hi
        cases e
        simp only [Bool.and_eq_true, decide_eq_true_eq] at hi
        exact ⟨f, _, rfl, bodySome hi.1, hi.2, rfl, rfl, codeC_sound hm hT hL i.hints f.ntmps _ _ _ _ 0⟩
theorem loQ_ok [BT] (hm : P.follows .mixedOrders = true) (hT : TabOk P T) {base : Env} (hB : EnvOk P base) {L : List RunI} (hL : L.all (RunI.ok P) = true) : ∀ d, LoOk P (loQ P T base L d)
  | 0 => ⟨hB, fun g cf e => by cases e⟩
  | d + 1 => ⟨envQ_ok hm hT (loQ_ok hm hT hB hL d) hB hL, caQ_ok hm hT (loQ_ok hm hT hB hL d) hL⟩
theorem konstQ [BT] (hm : P.follows .mixedOrders = true) (hT : TabOk P T) {lo : Lo} (hL : LoOk P lo) {i : RunI} {f : Func} (hf : P.funcs[i.g]? = some f) (hb : f.body.isSome = true) (hn : f.name ≠ "runtime.NumGoroutine") {v : AV}
    (hr : ∀ K, runQ T lo i f [] [] K = K v []) : FuncOk P i.g (konst v) := by
  have hC := runQ_ok hm hT hL hf hb hn
  refine ⟨hC.1, fun C args us K res Fr hh hF hargs hFf => hC.2 C args us K res Fr hh hF hargs ?_⟩
  generalize C.H = H0 at hFf ⊢
  unfold konst at hFf
  split at hFf
  · exact (hr K).trans hFf
  · cases hFf
theorem konstQP [BT] (hm : P.follows .mixedOrders = true) (hT : TabOk P T) {lo : Lo} (hL : LoOk P lo) {i : RunI} {f : Func} (hf : P.funcs[i.g]? = some f) (hb : f.body.isSome = true) (hn : f.name ≠ "runtime.NumGoroutine") {v : AV} (hv : v.closed1 = true)
    {F : List AV → (AV → Ans) → Ans} (hF : ∀ l K res, F l K = some res → l = [] ∧ K v = some res) (hr : ∀ K, runQ T lo i f [] [] K = K v []) : PureOk P i.g F := by
  have hC := runQP_ok hm hT hL hf hb hn
  refine ⟨hC.1, fun C args us K res hh hH hargs hFf => hC.2 C args us K res hh hH hargs ?_⟩
  obtain ⟨rfl, hK⟩ := hF _ _ _ hFf
  unfold runQP
  rw [hr]
  simp only [isNil, hv, Bool.and_self, cond_true, fV_eq]
  exact hK
theorem konstHQ [BT] (hm : P.follows .mixedOrders = true) (hT : TabOk P T) {lo : Lo} (hL : LoOk P lo) {i : RunI} {f : Func} (hf : P.funcs[i.g]? = some f) (hb : f.body.isSome = true) (hn : f.name ≠ "runtime.NumGoroutine") {args : List AV} {H0 H1 : List Obj} {v : AV}
    {F : List AV → List Obj → (AV → List Obj → Ans) → Ans} (hF : ∀ l H K res, F l H K = some res → l = args ∧ H = H0 ∧ K v H1 = some res) (hr : ∀ K, runQ T lo i f args H0 K = K v H1) : FuncOk P i.g F := by
  have hC := runQ_ok hm hT hL hf hb hn
  refine ⟨hC.1, fun C args us K res Fr hh hF' hargs hFf => hC.2 C args us K res Fr hh hF' hargs ?_⟩
  generalize C.H = Hc at hFf ⊢
  obtain ⟨rfl, rfl, hK⟩ := hF _ _ _ _ hFf
  rw [hr]
  exact hK
#print axioms konstQ
#print axioms konstQP
end Go.AE

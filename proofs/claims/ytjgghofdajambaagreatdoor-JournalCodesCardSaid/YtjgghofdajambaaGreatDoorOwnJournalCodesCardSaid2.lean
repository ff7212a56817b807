/- What the functions that JournalCodesCardSaid reaches compute: part 2. -/
import Derived.Test.YtjgghofdajambaaGreatDoorOwnJournalCodesCardSaid1
set_option linter.unusedVariables false
set_option linter.unusedSimpArgs false
namespace Go.Proofs.R7
open Go Go.AE
set_option maxRecDepth 100000
--@ loghead_Head_may
noncomputable def envq31 : Env := [(238,.pure Fq34)]
theorem envq31Ok : EnvOk Tryz.prog envq31 := EnvOk.cons Fq34_ok (EnvOk.nil)
noncomputable def bq31 : Code := Tryz.f211.body.getD .skip
noncomputable def Lq31_n0 : Code := codeAt [1,0] bq31
noncomputable def annLq31_n0 : Ann := .none
theorem annLq31_n0_ok : AnnOk Tryz.prog 16 Lq31_n0 annLq31_n0 := (annOk_none _ _ _)
abbrev Iq31_n0 := (Int) × (Int) × (Int)
abbrev Yq31_n0 := (Bool)
def Sq31_n0 : Iq31_n0 → St := fun (o0_0,o0_1,o0_2) => { env := [(1,.ptr 0 0)],stk := [[]],H := [.cells [.int .i64 o0_0,.int .i64 o0_1,.int .i64 o0_2]],blk := 864256 }
def decPq31_n0 (s : St) : Option {x : Iq31_n0 // s = Sq31_n0 x} := match s with
  | { env := [(1,.ptr 0 0)],stk := [[]],H := [.cells [.int .i64 o0_0,.int .i64 o0_1,.int .i64 o0_2]],blk := 864256 } => some ⟨(o0_0,o0_1,o0_2),rfl⟩
  | _ => none
def decq31_n0 (s : St) : Option Iq31_n0 := pk (decPq31_n0 s)
theorem decq31_n0_ok (s : St) (x : Iq31_n0) (h : decq31_n0 s = some x) : s = Sq31_n0 x := pk_ok (o := decPq31_n0 s) h
def outq31_n0 : Iq31_n0 → (Ex → St → Ans) → Yq31_n0 → Ans := fun (o0_0,o0_1,o0_2) K => fun t2_y => K (Ex.norm) { env := [(2,.bool t2_y)],stk := [[]],H := [],blk := 864256 }
def nodeq31_n0 {β : Type} : Iq31_n0 → (Yq31_n0 → Option β) → Option β := fun (o0_0,o0_1,o0_2) exit => (bindO (fnDq34 (o0_0,(281474976710656 : Int))) fun r => (bif r then (bindO (fnDq34 (o0_1,(281474976710656 : Int))) fun r_2 => (bif r_2 then (bindO (fnDq34 (o0_2,(201 : Int))) fun r_3 => (exit (r_3))) else (exit (false)))) else (exit (false))))
def nodeDq31_n0 (i : Iq31_n0) : Option Yq31_n0 := nodeq31_n0 i some
theorem nodeq31_n0_nat (i : Iq31_n0) (k : Yq31_n0 → Ans) : nodeq31_n0 i k = bindO (nodeDq31_n0 i) k := by
  obtain ⟨o0_0,o0_1,o0_2⟩ := i
  simp only [nodeDq31_n0,nodeq31_n0,bindO_cond,bindO_assoc,bindO_none,bindO_pure,bindO_elim,bindO_unP,bindO_empty]
theorem nodeq31_n0_ok (i : Iq31_n0) (K : Ex → St → Ans) : codeI Tryz.tab envq31 noHint (codeD Tryz.tab envq31 noHint 0 64) 70 16 annLq31_n0 Lq31_n0 (weakP 0 (exk [2] [2] []) K) (Sq31_n0 i) = nodeq31_n0 i (outq31_n0 i K) := by kernel_rfl
theorem GNq31_n0_ok : CSum Tryz.prog 16 Lq31_n0 (sumN decq31_n0 nodeDq31_n0 outq31_n0) := csum_node mixed tabOk envq31Ok 0 (exk [2] [2] []) annLq31_n0_ok decq31_n0_ok nodeq31_n0_ok nodeq31_n0_nat
noncomputable def Gq31_n0 : (Ex → St → Ans) → St → Ans := (sumN decq31_n0 nodeDq31_n0 outq31_n0)
theorem Gq31_n0_ok : CSum Tryz.prog 16 Lq31_n0 Gq31_n0 := GNq31_n0_ok
noncomputable def annq31 : Ann := (.seq .none (.seq (.cut 0 [1] Gq31_n0) .none))
theorem annq31_ok : AnnOk Tryz.prog 16 bq31 annq31 := ⟨(annOk_none _ _ _),⟨Gq31_n0_ok,(annOk_none _ _ _)⟩⟩
abbrev Aq31 := (Int) × (Int) × (Int)
abbrev Yq31 := (Bool)
def fnq31 {β : Type} : Aq31 → (Yq31 → Option β) → Option β := fun (a0_0,a0_1,a0_2) exit => (bindO (nodeDq31_n0 (a0_0,a0_1,a0_2)) fun t2 => (exit (t2)))
def fnDq31 (a : Aq31) : Option Yq31 := fnq31 a some
theorem fnq31_nat (a : Aq31) (k : Yq31 → Ans) : fnq31 a k = bindO (fnDq31 a) k := by
  obtain ⟨a0_0,a0_1,a0_2⟩ := a
  simp only [fnDq31,fnq31,bindO_cond,bindO_assoc,bindO_none,bindO_pure,bindO_elim,bindO_unP,bindO_empty]
def argsq31 : Aq31 → List AV := fun (a0_0,a0_1,a0_2) => [.agg [.int .i64 a0_0,.int .i64 a0_1,.int .i64 a0_2]]
def decPAq31 (l : List AV) : Option {a : Aq31 // l = argsq31 a} := match l with
  | [.agg [.int .i64 a0_0,.int .i64 a0_1,.int .i64 a0_2]] => some ⟨(a0_0,a0_1,a0_2),rfl⟩
  | _ => none
def decAq31 (l : List AV) : Option Aq31 := pk (decPAq31 l)
theorem decAq31_ok (l : List AV) (a : Aq31) (h : decAq31 l = some a) : l = argsq31 a := pk_ok (o := decPAq31 l) h
def rendq31 : Aq31 → Yq31 → AV := fun (a0_0,a0_1,a0_2) => fun r_y => .bool r_y
theorem rendq31_ok : ∀ (a : Aq31) (y : Yq31),(rendq31 a y).closed1 = true := by
  rintro ⟨a0_0,a0_1,a0_2⟩ y <;> first | rfl | exact Empty.elim y
theorem fnq31_ok (a : Aq31) : fnE Tryz.tab envq31 noHint 0 70 211 Tryz.f211.ntmps Tryz.f211.results.toList annq31 bq31 (argsq31 a) [] (fun v _ => some (v,[])) = fnq31 a (fun y => some (rendq31 a y,[])) := by kernel_rfl
def vFq31 (a : Aq31) (K : AV → Ans) : Ans := bindO (fnDq31 a) fun y => K (rendq31 a y)
def Fq31 : List AV → (AV → Ans) → Ans := fun l K => bindO (decAq31 l) fun a => vFq31 a K
theorem Fq31_ok : PureOk Tryz.prog 211 Fq31 := pure_mkD (hint := noHint) (d := 0) (n := 70) mixed tabOk envq31Ok Tryz.func211 (bodySome (by kernel_rfl)) (by decide +kernel) annq31_ok decAq31_ok fnq31_ok fnq31_nat rendq31_ok
--@ field_width
noncomputable def envq20 : Env := []
theorem envq20Ok : EnvOk Tryz.prog envq20 := EnvOk.nil
noncomputable def bq20 : Code := Tryz.f189.body.getD .skip
noncomputable def Lq20_n0 : Code := codeAt [1,0] bq20
noncomputable def annLq20_n0 : Ann := .none
theorem annLq20_n0_ok : AnnOk Tryz.prog 9 Lq20_n0 annLq20_n0 := (annOk_none _ _ _)
abbrev Iq20_n0 := (Int)
abbrev Yq20_n0 := (Bool)
def Sq20_n0 : Iq20_n0 → St := fun t0 => { env := [(0,.int .i64 t0)],stk := [[]],H := [],blk := 774144 }
def decPq20_n0 (s : St) : Option {x : Iq20_n0 // s = Sq20_n0 x} := match s with
  | { env := [(0,.int .i64 t0)],stk := [[]],H := [],blk := 774144 } => some ⟨(t0),rfl⟩
  | _ => none
def decq20_n0 (s : St) : Option Iq20_n0 := pk (decPq20_n0 s)
theorem decq20_n0_ok (s : St) (x : Iq20_n0) (h : decq20_n0 s = some x) : s = Sq20_n0 x := pk_ok (o := decPq20_n0 s) h
def outq20_n0 : Iq20_n0 → (Ex → St → Ans) → Yq20_n0 → Ans := fun t0 K => fun t2_y => K (Ex.norm) { env := [(2,.bool t2_y)],stk := [[]],H := [],blk := 774144 }
def nodeq20_n0 {β : Type} : Iq20_n0 → (Yq20_n0 → Option β) → Option β := fun t0 exit => (bif decide (t0 ≥ (1 : Int)) then (exit (decide (t0 ≤ (7 : Int)))) else (exit (false)))
def nodeDq20_n0 (i : Iq20_n0) : Option Yq20_n0 := nodeq20_n0 i some
theorem nodeq20_n0_nat (i : Iq20_n0) (k : Yq20_n0 → Ans) : nodeq20_n0 i k = bindO (nodeDq20_n0 i) k := by
  obtain z := i
  simp only [nodeDq20_n0,nodeq20_n0,bindO_cond,bindO_assoc,bindO_none,bindO_pure,bindO_elim,bindO_unP,bindO_empty]
theorem nodeq20_n0_ok (i : Iq20_n0) (K : Ex → St → Ans) : codeI Tryz.tab envq20 noHint (codeD Tryz.tab envq20 noHint 0 64) 70 9 annLq20_n0 Lq20_n0 (weakP 0 (exk [2] [2] []) K) (Sq20_n0 i) = nodeq20_n0 i (outq20_n0 i K) := by kernel_rfl
theorem GNq20_n0_ok : CSum Tryz.prog 9 Lq20_n0 (sumN decq20_n0 nodeDq20_n0 outq20_n0) := csum_node mixed tabOk envq20Ok 0 (exk [2] [2] []) annLq20_n0_ok decq20_n0_ok nodeq20_n0_ok nodeq20_n0_nat
noncomputable def Gq20_n0 : (Ex → St → Ans) → St → Ans := (sumN decq20_n0 nodeDq20_n0 outq20_n0)
theorem Gq20_n0_ok : CSum Tryz.prog 9 Lq20_n0 Gq20_n0 := GNq20_n0_ok
noncomputable def annq20 : Ann := (.seq .none (.seq (.cut 0 [0] Gq20_n0) .none))
theorem annq20_ok : AnnOk Tryz.prog 9 bq20 annq20 := ⟨(annOk_none _ _ _),⟨Gq20_n0_ok,(annOk_none _ _ _)⟩⟩
abbrev Aq20 := (Int)
abbrev Yq20 := (Bool)
def fnq20 {β : Type} : Aq20 → (Yq20 → Option β) → Option β := fun a0 exit => (bindO (nodeDq20_n0 (a0)) fun t2 => (exit (t2)))
def fnDq20 (a : Aq20) : Option Yq20 := fnq20 a some
theorem fnq20_nat (a : Aq20) (k : Yq20 → Ans) : fnq20 a k = bindO (fnDq20 a) k := by
  obtain z := a
  simp only [fnDq20,fnq20,bindO_cond,bindO_assoc,bindO_none,bindO_pure,bindO_elim,bindO_unP,bindO_empty]
def argsq20 : Aq20 → List AV := fun a0 => [.int .i64 a0]
def decPAq20 (l : List AV) : Option {a : Aq20 // l = argsq20 a} := match l with
  | [.int .i64 a0] => some ⟨(a0),rfl⟩
  | _ => none
def decAq20 (l : List AV) : Option Aq20 := pk (decPAq20 l)
theorem decAq20_ok (l : List AV) (a : Aq20) (h : decAq20 l = some a) : l = argsq20 a := pk_ok (o := decPAq20 l) h
def rendq20 : Aq20 → Yq20 → AV := fun a0 => fun r_y => .bool r_y
theorem rendq20_ok : ∀ (a : Aq20) (y : Yq20),(rendq20 a y).closed1 = true := by
  rintro z y <;> first | rfl | exact Empty.elim y
theorem fnq20_ok (a : Aq20) : fnE Tryz.tab envq20 noHint 0 70 189 Tryz.f189.ntmps Tryz.f189.results.toList annq20 bq20 (argsq20 a) [] (fun v _ => some (v,[])) = fnq20 a (fun y => some (rendq20 a y,[])) := by kernel_rfl
def vFq20 (a : Aq20) (K : AV → Ans) : Ans := bindO (fnDq20 a) fun y => K (rendq20 a y)
def Fq20 : List AV → (AV → Ans) → Ans := fun l K => bindO (decAq20 l) fun a => vFq20 a K
theorem Fq20_ok : PureOk Tryz.prog 189 Fq20 := pure_mkD (hint := noHint) (d := 0) (n := 70) mixed tabOk envq20Ok Tryz.func189 (bodySome (by kernel_rfl)) (by decide +kernel) annq20_ok decAq20_ok fnq20_ok fnq20_nat rendq20_ok
--@ field_Fits
noncomputable def envq14 : Env := [(189,.pure Fq20)]
theorem envq14Ok : EnvOk Tryz.prog envq14 := EnvOk.cons Fq20_ok (EnvOk.nil)
noncomputable def bq14 : Code := Tryz.f184.body.getD .skip
noncomputable def Lq14_n0 : Code := codeAt [1,0] bq14
noncomputable def annLq14_n0 : Ann := .none
theorem annLq14_n0_ok : AnnOk Tryz.prog 18 Lq14_n0 annLq14_n0 := (annOk_none _ _ _)
abbrev Iq14_n0 := (Int) × (Int)
abbrev Yq14_n0 := (Bool)
def Sq14_n0 : Iq14_n0 → St := fun (t0,t1) => { env := [(0,.int .i64 t0),(1,.int .i64 t1)],stk := [[]],H := [],blk := 753664 }
def decPq14_n0 (s : St) : Option {x : Iq14_n0 // s = Sq14_n0 x} := match s with
  | { env := [(0,.int .i64 t0),(1,.int .i64 t1)],stk := [[]],H := [],blk := 753664 } => some ⟨(t0,t1),rfl⟩
  | _ => none
def decq14_n0 (s : St) : Option Iq14_n0 := pk (decPq14_n0 s)
theorem decq14_n0_ok (s : St) (x : Iq14_n0) (h : decq14_n0 s = some x) : s = Sq14_n0 x := pk_ok (o := decPq14_n0 s) h
def outq14_n0 : Iq14_n0 → (Ex → St → Ans) → Yq14_n0 → Ans := fun (t0,t1) K => fun t4_y => K (Ex.norm) { env := [(4,.bool t4_y)],stk := [[]],H := [],blk := 753664 }
def nodeq14_n0 {β : Type} : Iq14_n0 → (Yq14_n0 → Option β) → Option β := fun (t0,t1) exit => (bindO (fnDq20 (t1)) fun r => (bif r then (bif decide (t0 ≥ (0 : Int)) then (bif decide (IntKind.wrap .i64 ((8 : Int) * t1) < (0 : Int)) then none else (exit (Int.fdiv t0 ((2 : Int) ^ min (Int.toNat (IntKind.wrap .i64 ((8 : Int) * t1))) (64 : Nat)) == (0 : Int)))) else (exit (false))) else (exit (false))))
def nodeDq14_n0 (i : Iq14_n0) : Option Yq14_n0 := nodeq14_n0 i some
theorem nodeq14_n0_nat (i : Iq14_n0) (k : Yq14_n0 → Ans) : nodeq14_n0 i k = bindO (nodeDq14_n0 i) k := by
  obtain ⟨t0,t1⟩ := i
  simp only [nodeDq14_n0,nodeq14_n0,bindO_cond,bindO_assoc,bindO_none,bindO_pure,bindO_elim,bindO_unP,bindO_empty]
theorem nodeq14_n0_ok (i : Iq14_n0) (K : Ex → St → Ans) : codeI Tryz.tab envq14 noHint (codeD Tryz.tab envq14 noHint 0 64) 70 18 annLq14_n0 Lq14_n0 (weakP 0 (exk [4] [4] []) K) (Sq14_n0 i) = nodeq14_n0 i (outq14_n0 i K) := by kernel_rfl
theorem GNq14_n0_ok : CSum Tryz.prog 18 Lq14_n0 (sumN decq14_n0 nodeDq14_n0 outq14_n0) := csum_node mixed tabOk envq14Ok 0 (exk [4] [4] []) annLq14_n0_ok decq14_n0_ok nodeq14_n0_ok nodeq14_n0_nat
noncomputable def Gq14_n0 : (Ex → St → Ans) → St → Ans := (sumN decq14_n0 nodeDq14_n0 outq14_n0)
theorem Gq14_n0_ok : CSum Tryz.prog 18 Lq14_n0 Gq14_n0 := GNq14_n0_ok
noncomputable def annq14 : Ann := (.seq .none (.seq (.cut 0 [0,1] Gq14_n0) .none))
theorem annq14_ok : AnnOk Tryz.prog 18 bq14 annq14 := ⟨(annOk_none _ _ _),⟨Gq14_n0_ok,(annOk_none _ _ _)⟩⟩
abbrev Aq14 := (Int) × (Int)
abbrev Yq14 := (Bool)
def fnq14 {β : Type} : Aq14 → (Yq14 → Option β) → Option β := fun (a0,a1) exit => (bindO (nodeDq14_n0 (a0,a1)) fun t4 => (exit (t4)))
def fnDq14 (a : Aq14) : Option Yq14 := fnq14 a some
theorem fnq14_nat (a : Aq14) (k : Yq14 → Ans) : fnq14 a k = bindO (fnDq14 a) k := by
  obtain ⟨a0,a1⟩ := a
  simp only [fnDq14,fnq14,bindO_cond,bindO_assoc,bindO_none,bindO_pure,bindO_elim,bindO_unP,bindO_empty]
def argsq14 : Aq14 → List AV := fun (a0,a1) => [.int .i64 a0,.int .i64 a1]
def decPAq14 (l : List AV) : Option {a : Aq14 // l = argsq14 a} := match l with
  | [.int .i64 a0,.int .i64 a1] => some ⟨(a0,a1),rfl⟩
  | _ => none
def decAq14 (l : List AV) : Option Aq14 := pk (decPAq14 l)
theorem decAq14_ok (l : List AV) (a : Aq14) (h : decAq14 l = some a) : l = argsq14 a := pk_ok (o := decPAq14 l) h
def rendq14 : Aq14 → Yq14 → AV := fun (a0,a1) => fun r_y => .bool r_y
theorem rendq14_ok : ∀ (a : Aq14) (y : Yq14),(rendq14 a y).closed1 = true := by
  rintro ⟨a0,a1⟩ y <;> first | rfl | exact Empty.elim y
theorem fnq14_ok (a : Aq14) : fnE Tryz.tab envq14 noHint 0 70 184 Tryz.f184.ntmps Tryz.f184.results.toList annq14 bq14 (argsq14 a) [] (fun v _ => some (v,[])) = fnq14 a (fun y => some (rendq14 a y,[])) := by kernel_rfl
def vFq14 (a : Aq14) (K : AV → Ans) : Ans := bindO (fnDq14 a) fun y => K (rendq14 a y)
def Fq14 : List AV → (AV → Ans) → Ans := fun l K => bindO (decAq14 l) fun a => vFq14 a K
theorem Fq14_ok : PureOk Tryz.prog 184 Fq14 := pure_mkD (hint := noHint) (d := 0) (n := 70) mixed tabOk envq14Ok Tryz.func184 (bodySome (by kernel_rfl)) (by decide +kernel) annq14_ok decAq14_ok fnq14_ok fnq14_nat rendq14_ok
--@ field_Put
noncomputable def envq16 : Env := [(184,.pure Fq14)]
theorem envq16Ok : EnvOk Tryz.prog envq16 := EnvOk.cons Fq14_ok (EnvOk.nil)
noncomputable def bq16 : Code := Tryz.f121.body.getD .skip
noncomputable def Lq16_n0 : Code := codeAt [1,1,1,0,1,0,0] bq16
noncomputable def annLq16_n0 : Ann := .at 0 [0,1,2,7,17,18] (.loop .none)
theorem annLq16_n0_ok : AnnOk Tryz.prog 37 (.loop Lq16_n0) annLq16_n0 := annOk_at (annOk_none _ _ _)
abbrev Iq16_n0 := (List UInt8) × (Int) × (Int) × (Int)
abbrev Yq16_n0 := (List Int)
abbrev Vq16_n0 := (Int) × (List Int)
def Sq16_n0 : Iq16_n0 → Vq16_n0 → St := fun (t0,t1,t2,t17) (t18,o0) => { env := [(0,.str t0),(1,.int .i64 t1),(2,.int .i64 t2),(7,.own 0),(17,.int .i64 t17),(18,.int .i64 t18)],stk := [[]],H := [.arr (.int .u8) o0],blk := 495616 }
def decPq16_n0 (s : St) : Option {x : Iq16_n0 × Vq16_n0 // s = Sq16_n0 x.1 x.2} := match s with
  | { env := [(0,.str t0),(1,.int .i64 t1),(2,.int .i64 t2),(7,.own 0),(17,.int .i64 t17),(18,.int .i64 t18)],stk := [[]],H := [.arr (.int .u8) o0],blk := 495616 } => some ⟨((t0,t1,t2,t17),(t18,o0)),rfl⟩
  | _ => none
def decq16_n0 (s : St) : Option (Iq16_n0 × Vq16_n0) := pk (decPq16_n0 s)
theorem decq16_n0_ok (s : St) (x : Iq16_n0 × Vq16_n0) (h : decq16_n0 s = some x) : s = Sq16_n0 x.1 x.2 := pk_ok (o := decPq16_n0 s) h
def outq16_n0 : Iq16_n0 → (Ex → St → Ans) → Yq16_n0 → Ans := fun (t0,t1,t2,t17) K => fun o0_y => K (Ex.exit 0) { env := [(0,.str t0),(7,.own 0)],stk := [[]],H := [.arr (.int .u8) o0_y],blk := 495616 }
def stepq16_n0 {β : Type} : Iq16_n0 → Vq16_n0 → (Vq16_n0 → Option β) → (Yq16_n0 → Option β) → Option β := fun (t0,t1,t2,t17) (t18,o0) next exit => (bif decide (t18 < t17) then (bif decide (IntKind.wrap .i64 ((8 : Int) * IntKind.wrap .i64 (IntKind.wrap .i64 (t2 - (1 : Int)) - t18)) < (0 : Int)) then none else (bif inR t18 (List.length o0) then (bindO (o0[Int.toNat t18]?) fun x => (next (IntKind.wrap .i64 (t18 + (1 : Int)),List.set o0 (Int.toNat t18) (IntKind.wrap .u8 (Int.fdiv t1 ((2 : Int) ^ min (Int.toNat (IntKind.wrap .i64 ((8 : Int) * IntKind.wrap .i64 (IntKind.wrap .i64 (t2 - (1 : Int)) - t18)))) (64 : Nat))))))) else none)) else (exit (o0)))
def stepDq16_n0 (i : Iq16_n0) (v : Vq16_n0) : Option (Vq16_n0 ⊕ Yq16_n0) := stepq16_n0 i v (fun v => some (.inl v)) (fun y => some (.inr y))
theorem stepq16_n0_nat (i : Iq16_n0) (v : Vq16_n0) (next : Vq16_n0 → Ans) (exit : Yq16_n0 → Ans) : stepq16_n0 i v next exit = bindO (stepDq16_n0 i v) (Sum.elim next exit) := by
  obtain ⟨t0,t1,t2,t17⟩ := i
  obtain ⟨t18,o0⟩ := v
  simp only [stepDq16_n0,stepq16_n0,bindO_cond,bindO_assoc,bindO_none,bindO_pure,bindO_elim,bindO_unP,bindO_empty,Sum.elim_inl,Sum.elim_inr]
theorem stepq16_n0_ok (n : Nat) (i : Iq16_n0) (v : Vq16_n0) (K : Ex → St → Ans) : codeI Tryz.tab envq16 noHint (codeD Tryz.tab envq16 noHint 0 64) (n+1) 37 annLq16_n0 (.loop Lq16_n0) (weakP 0 (exk [0,7] [6] [(0,[0,7])]) K) (Sq16_n0 i v) = stepq16_n0 i v (fun v' => codeI Tryz.tab envq16 noHint (codeD Tryz.tab envq16 noHint 0 64) n 37 annLq16_n0 (.loop Lq16_n0) (weakP 0 (exk [0,7] [6] [(0,[0,7])]) K) (Sq16_n0 i v')) (fun y => outq16_n0 i K y) := by kernel_rfl
theorem GNq16_n0_ok : CSum Tryz.prog 37 (.loop Lq16_n0) (sumL decq16_n0 stepDq16_n0 outq16_n0) := csum_loop mixed tabOk envq16Ok 0 (exk [0,7] [6] [(0,[0,7])]) annLq16_n0_ok decq16_n0_ok stepq16_n0_ok stepq16_n0_nat
noncomputable def Gq16_n0 : (Ex → St → Ans) → St → Ans := (sumL decq16_n0 stepDq16_n0 outq16_n0)
theorem Gq16_n0_ok : CSum Tryz.prog 37 (.loop Lq16_n0) Gq16_n0 := GNq16_n0_ok
noncomputable def annq16 : Ann := (.seq .none (.seq .none (.seq .none (.seq (.seq .none (.block (.cut 0 [0,1,2,7,17,18] Gq16_n0))) .none))))
theorem annq16_ok : AnnOk Tryz.prog 37 bq16 annq16 := ⟨(annOk_none _ _ _),⟨(annOk_none _ _ _),⟨(annOk_none _ _ _),⟨⟨(annOk_none _ _ _),Gq16_n0_ok⟩,(annOk_none _ _ _)⟩⟩⟩⟩
abbrev Aq16 := (List UInt8) × (Int) × (Int)
abbrev Yq16 := (List UInt8)
def fnq16 {β : Type} : Aq16 → (Yq16 → Option β) → Option β := fun (a0,a1,a2) exit => (bindO (fnDq14 (a1,a2)) fun r => (bif !r then (exit (a0)) else (bif decide ((0 : Int) ≤ a2) && decide (a2 ≤ a2) && decide ((1 : Int) * a2 ≤ (281474976710656 : Int)) && decide (a2 ≤ (9223372036854775807 : Int)) then (bindO (loopD (stepDq16_n0 (a0,a1,a2,(↑(List.length (List.replicate (Int.toNat a2) (0 : Int))) : Int))) FUEL ((0 : Int),List.replicate (Int.toNat a2) (0 : Int))) fun o0 => (bif Nat.ble (List.length a0 + List.length (bytesOf o0)) (9223372036854775807 : Nat) then (exit (a0 ++ bytesOf o0)) else none)) else none)))
def fnDq16 (a : Aq16) : Option Yq16 := fnq16 a some
theorem fnq16_nat (a : Aq16) (k : Yq16 → Ans) : fnq16 a k = bindO (fnDq16 a) k := by
  obtain ⟨a0,a1,a2⟩ := a
  simp only [fnDq16,fnq16,bindO_cond,bindO_assoc,bindO_none,bindO_pure,bindO_elim,bindO_unP,bindO_empty]
def argsq16 : Aq16 → List AV := fun (a0,a1,a2) => [.str a0,.int .i64 a1,.int .i64 a2]
def decPAq16 (l : List AV) : Option {a : Aq16 // l = argsq16 a} := match l with
  | [.str a0,.int .i64 a1,.int .i64 a2] => some ⟨(a0,a1,a2),rfl⟩
  | _ => none
def decAq16 (l : List AV) : Option Aq16 := pk (decPAq16 l)
theorem decAq16_ok (l : List AV) (a : Aq16) (h : decAq16 l = some a) : l = argsq16 a := pk_ok (o := decPAq16 l) h
def rendq16 : Aq16 → Yq16 → AV := fun (a0,a1,a2) => fun r_y => .str r_y
theorem rendq16_ok : ∀ (a : Aq16) (y : Yq16),(rendq16 a y).closed1 = true := by
  rintro ⟨a0,a1,a2⟩ y <;> first | rfl | exact Empty.elim y
theorem fnq16_ok (a : Aq16) : fnE Tryz.tab envq16 noHint 0 70 121 Tryz.f121.ntmps Tryz.f121.results.toList annq16 bq16 (argsq16 a) [] (fun v _ => some (v,[])) = fnq16 a (fun y => some (rendq16 a y,[])) := by kernel_rfl
def vFq16 (a : Aq16) (K : AV → Ans) : Ans := bindO (fnDq16 a) fun y => K (rendq16 a y)
def Fq16 : List AV → (AV → Ans) → Ans := fun l K => bindO (decAq16 l) fun a => vFq16 a K
theorem Fq16_ok : PureOk Tryz.prog 121 Fq16 := pure_mkD (hint := noHint) (d := 0) (n := 70) mixed tabOk envq16Ok Tryz.func121 (bodySome (by kernel_rfl)) (by decide +kernel) annq16_ok decAq16_ok fnq16_ok fnq16_nat rendq16_ok
--@ cyclic_New
noncomputable def envq0 : Env := []
theorem envq0Ok : EnvOk Tryz.prog envq0 := EnvOk.nil
noncomputable def bq0 : Code := Tryz.f220.body.getD .skip
noncomputable def annq0 : Ann := .none
theorem annq0_ok : AnnOk Tryz.prog 3 bq0 annq0 := (annOk_none _ _ _)
abbrev Aq0 := Unit
abbrev Yq0 := Unit
def fnq0 {β : Type} : Aq0 → (Yq0 → Option β) → Option β := fun _ exit => (exit ())
def fnDq0 (a : Aq0) : Option Yq0 := fnq0 a some
theorem fnq0_nat (a : Aq0) (k : Yq0 → Ans) : fnq0 a k = bindO (fnDq0 a) k := by
  obtain z := a
  simp only [fnDq0,fnq0,bindO_cond,bindO_assoc,bindO_none,bindO_pure,bindO_elim,bindO_unP,bindO_empty]
def argsq0 : Aq0 → List AV × List AE.Obj := fun _ => ([],[])
def decPAq0 (l : List AV) (H : List AE.Obj) : Option {a : Aq0 // (l,H) = argsq0 a} := match l,H with
  | [],[] => some ⟨(),rfl⟩
  | _,_ => none
def decAq0 (l : List AV) (H : List AE.Obj) : Option Aq0 := pk (decPAq0 l H)
theorem decAq0_ok (l : List AV) (H : List AE.Obj) (a : Aq0) (h : decAq0 l H = some a) : (l,H) = argsq0 a := pk_ok (o := decPAq0 l H) h
def outq0 : Aq0 → (AV → List AE.Obj → Ans) → Yq0 → Ans := fun _ K => fun _ => K (.ptr 0 0) [.cells [.int .u32 (0)]]
theorem fnq0_ok (a : Aq0) (K : AV → List AE.Obj → Ans) : fnE Tryz.tab envq0 noHint 0 70 220 Tryz.f220.ntmps Tryz.f220.results.toList annq0 bq0 (argsq0 a).1 (argsq0 a).2 K = fnq0 a (outq0 a K) := by kernel_rfl
def vFq0 (a : Aq0) (K : AV → List AE.Obj → Ans) : Ans := bindO (fnDq0 a) fun y => outq0 a K y
def Fq0 : List AV → List AE.Obj → (AV → List AE.Obj → Ans) → Ans := fun l H K => bindO (decAq0 l H) fun a => vFq0 a K
theorem Fq0_ok : FuncOk Tryz.prog 220 Fq0 := func_mkD (hint := noHint) (d := 0) (n := 70) mixed tabOk envq0Ok Tryz.func220 (bodySome (by kernel_rfl)) (by decide +kernel) annq0_ok decAq0_ok fnq0_ok fnq0_nat
--@ cyclic_step
noncomputable def envq5 : Env := []
theorem envq5Ok : EnvOk Tryz.prog envq5 := EnvOk.nil
noncomputable def bq5 : Code := Tryz.f242.body.getD .skip
noncomputable def Lq5_n0 : Code := codeAt [1,1,0,1,0,0] bq5
noncomputable def annLq5_n0 : Ann := .at 0 [0,9] (.loop .none)
theorem annLq5_n0_ok : AnnOk Tryz.prog 20 (.loop Lq5_n0) annLq5_n0 := annOk_at (annOk_none _ _ _)
abbrev Iq5_n0 := Unit
abbrev Yq5_n0 := (Int)
abbrev Vq5_n0 := (Int) × (Int)
def Sq5_n0 : Iq5_n0 → Vq5_n0 → St := fun _ (t0,t9) => { env := [(0,.int .u32 t0),(9,.int .i64 t9)],stk := [[]],H := [],blk := 991232 }
def decPq5_n0 (s : St) : Option {x : Iq5_n0 × Vq5_n0 // s = Sq5_n0 x.1 x.2} := match s with
  | { env := [(0,.int .u32 t0),(9,.int .i64 t9)],stk := [[]],H := [],blk := 991232 } => some ⟨((),(t0,t9)),rfl⟩
  | _ => none
def decq5_n0 (s : St) : Option (Iq5_n0 × Vq5_n0) := pk (decPq5_n0 s)
theorem decq5_n0_ok (s : St) (x : Iq5_n0 × Vq5_n0) (h : decq5_n0 s = some x) : s = Sq5_n0 x.1 x.2 := pk_ok (o := decPq5_n0 s) h
def outq5_n0 : Iq5_n0 → (Ex → St → Ans) → Yq5_n0 → Ans := fun _ K => fun t0_y => K (Ex.exit 0) { env := [(0,.int .u32 t0_y)],stk := [[]],H := [],blk := 991232 }
def stepq5_n0 {β : Type} : Iq5_n0 → Vq5_n0 → (Vq5_n0 → Option β) → (Yq5_n0 → Option β) → Option β := fun _ (t0,t9) next exit => (bif decide (t9 < (8 : Int)) then (next (IntKind.wrap .u32 (↑(Int.toNat (Int.fdiv t0 (2 : Int) % (4294967296 : Int)) ^^^ Int.toNat (IntKind.wrap .u32 (↑((3988292384 : Nat) &&& Int.toNat (IntKind.wrap .u32 ((0 : Int) - IntKind.wrap .u32 (↑(Int.toNat (t0 % (4294967296 : Int)) &&& (1 : Nat)) : Int)) % (4294967296 : Int))) : Int) % (4294967296 : Int))) : Int),IntKind.wrap .i64 (t9 + (1 : Int)))) else (exit (t0)))
def stepDq5_n0 (i : Iq5_n0) (v : Vq5_n0) : Option (Vq5_n0 ⊕ Yq5_n0) := stepq5_n0 i v (fun v => some (.inl v)) (fun y => some (.inr y))
theorem stepq5_n0_nat (i : Iq5_n0) (v : Vq5_n0) (next : Vq5_n0 → Ans) (exit : Yq5_n0 → Ans) : stepq5_n0 i v next exit = bindO (stepDq5_n0 i v) (Sum.elim next exit) := by
  obtain z := i
  obtain ⟨t0,t9⟩ := v
  simp only [stepDq5_n0,stepq5_n0,bindO_cond,bindO_assoc,bindO_none,bindO_pure,bindO_elim,bindO_unP,bindO_empty,Sum.elim_inl,Sum.elim_inr]
theorem stepq5_n0_ok (n : Nat) (i : Iq5_n0) (v : Vq5_n0) (K : Ex → St → Ans) : codeI Tryz.tab envq5 noHint (codeD Tryz.tab envq5 noHint 0 64) (n+1) 20 annLq5_n0 (.loop Lq5_n0) (weakP 0 (exk [0] [4] [(0,[0])]) K) (Sq5_n0 i v) = stepq5_n0 i v (fun v' => codeI Tryz.tab envq5 noHint (codeD Tryz.tab envq5 noHint 0 64) n 20 annLq5_n0 (.loop Lq5_n0) (weakP 0 (exk [0] [4] [(0,[0])]) K) (Sq5_n0 i v')) (fun y => outq5_n0 i K y) := by kernel_rfl
theorem GNq5_n0_ok : CSum Tryz.prog 20 (.loop Lq5_n0) (sumL decq5_n0 stepDq5_n0 outq5_n0) := csum_loop mixed tabOk envq5Ok 0 (exk [0] [4] [(0,[0])]) annLq5_n0_ok decq5_n0_ok stepq5_n0_ok stepq5_n0_nat
noncomputable def Gq5_n0 : (Ex → St → Ans) → St → Ans := (sumL decq5_n0 stepDq5_n0 outq5_n0)
theorem Gq5_n0_ok : CSum Tryz.prog 20 (.loop Lq5_n0) Gq5_n0 := GNq5_n0_ok
noncomputable def annq5 : Ann := (.seq .none (.seq .none (.seq (.seq .none (.block (.cut 0 [0,9] Gq5_n0))) .none)))
theorem annq5_ok : AnnOk Tryz.prog 20 bq5 annq5 := ⟨(annOk_none _ _ _),⟨(annOk_none _ _ _),⟨⟨(annOk_none _ _ _),Gq5_n0_ok⟩,(annOk_none _ _ _)⟩⟩⟩
abbrev Aq5 := (Int) × (Int)
abbrev Yq5 := (Int)
def fnq5 {β : Type} : Aq5 → (Yq5 → Option β) → Option β := fun (a0,a1) exit => (bindO (loopD (stepDq5_n0 ()) FUEL (IntKind.wrap .u32 (↑(Int.toNat (a0 % (4294967296 : Int)) ^^^ Int.toNat (IntKind.wrap .u32 a1 % (4294967296 : Int))) : Int),(0 : Int))) fun t0 => (exit (t0)))
def fnDq5 (a : Aq5) : Option Yq5 := fnq5 a some
theorem fnq5_nat (a : Aq5) (k : Yq5 → Ans) : fnq5 a k = bindO (fnDq5 a) k := by
  obtain ⟨a0,a1⟩ := a
  simp only [fnDq5,fnq5,bindO_cond,bindO_assoc,bindO_none,bindO_pure,bindO_elim,bindO_unP,bindO_empty]
def argsq5 : Aq5 → List AV := fun (a0,a1) => [.int .u32 a0,.int .u8 a1]
def decPAq5 (l : List AV) : Option {a : Aq5 // l = argsq5 a} := match l with
  | [.int .u32 a0,.int .u8 a1] => some ⟨(a0,a1),rfl⟩
  | _ => none
def decAq5 (l : List AV) : Option Aq5 := pk (decPAq5 l)
theorem decAq5_ok (l : List AV) (a : Aq5) (h : decAq5 l = some a) : l = argsq5 a := pk_ok (o := decPAq5 l) h
def rendq5 : Aq5 → Yq5 → AV := fun (a0,a1) => fun r_y => .int .u32 r_y
theorem rendq5_ok : ∀ (a : Aq5) (y : Yq5),(rendq5 a y).closed1 = true := by
  rintro ⟨a0,a1⟩ y <;> first | rfl | exact Empty.elim y
theorem fnq5_ok (a : Aq5) : fnE Tryz.tab envq5 noHint 0 70 242 Tryz.f242.ntmps Tryz.f242.results.toList annq5 bq5 (argsq5 a) [] (fun v _ => some (v,[])) = fnq5 a (fun y => some (rendq5 a y,[])) := by kernel_rfl
def vFq5 (a : Aq5) (K : AV → Ans) : Ans := bindO (fnDq5 a) fun y => K (rendq5 a y)
def Fq5 : List AV → (AV → Ans) → Ans := fun l K => bindO (decAq5 l) fun a => vFq5 a K
theorem Fq5_ok : PureOk Tryz.prog 242 Fq5 := pure_mkD (hint := noHint) (d := 0) (n := 70) mixed tabOk envq5Ok Tryz.func242 (bodySome (by kernel_rfl)) (by decide +kernel) annq5_ok decAq5_ok fnq5_ok fnq5_nat rendq5_ok
--@ cyclic_State_Add
noncomputable def envq2 : Env := [(242,.pure Fq5)]
theorem envq2Ok : EnvOk Tryz.prog envq2 := EnvOk.cons Fq5_ok (EnvOk.nil)
noncomputable def bq2 : Code := Tryz.f221.body.getD .skip
noncomputable def Lq2_n0 : Code := codeAt [1,1,0,1,0,0] bq2
noncomputable def annLq2_n0 : Ann := .at 1 [0,1,4,14,15] (.loop .none)
theorem annLq2_n0_ok : AnnOk Tryz.prog 29 (.loop Lq2_n0) annLq2_n0 := annOk_at (annOk_none _ _ _)
abbrev Iq2_n0 := (List UInt8) × (Int) × (Int)
abbrev Yq2_n0 := (Int)
abbrev Vq2_n0 := (Int) × (Int)
def Sq2_n0 : Iq2_n0 → Vq2_n0 → St := fun (t1,t14,o0_0) (t4,t15) => { env := [(0,.ptr 0 0),(1,.str t1),(4,.int .u32 t4),(14,.int .i64 t14),(15,.int .i64 t15)],stk := [[(0,.ptr 0 0)]],H := [.cells [.int .u32 o0_0]],blk := 905216 }
def decPq2_n0 (s : St) : Option {x : Iq2_n0 × Vq2_n0 // s = Sq2_n0 x.1 x.2} := match s with
  | { env := [(0,.ptr 0 0),(1,.str t1),(4,.int .u32 t4),(14,.int .i64 t14),(15,.int .i64 t15)],stk := [[(0,.ptr 0 0)]],H := [.cells [.int .u32 o0_0]],blk := 905216 } => some ⟨((t1,t14,o0_0),(t4,t15)),rfl⟩
  | _ => none
def decq2_n0 (s : St) : Option (Iq2_n0 × Vq2_n0) := pk (decPq2_n0 s)
theorem decq2_n0_ok (s : St) (x : Iq2_n0 × Vq2_n0) (h : decq2_n0 s = some x) : s = Sq2_n0 x.1 x.2 := pk_ok (o := decPq2_n0 s) h
def outq2_n0 : Iq2_n0 → (Ex → St → Ans) → Yq2_n0 → Ans := fun (t1,t14,o0_0) K => fun t4_y => K (Ex.exit 0) { env := [(0,.ptr 0 0),(4,.int .u32 t4_y)],stk := [[(0,.ptr 0 0)]],H := [.cells [.int .u32 o0_0]],blk := 905216 }
def stepq2_n0 {β : Type} : Iq2_n0 → Vq2_n0 → (Vq2_n0 → Option β) → (Yq2_n0 → Option β) → Option β := fun (t1,t14,o0_0) (t4,t15) next exit => (bif decide (t15 < t14) then (bindO (nth t1 t15) fun x => (bindO (fnDq5 (t4,(↑(UInt8.toNat x) : Int))) fun r => (next (r,IntKind.wrap .i64 (t15 + (1 : Int)))))) else (exit (t4)))
def stepDq2_n0 (i : Iq2_n0) (v : Vq2_n0) : Option (Vq2_n0 ⊕ Yq2_n0) := stepq2_n0 i v (fun v => some (.inl v)) (fun y => some (.inr y))
theorem stepq2_n0_nat (i : Iq2_n0) (v : Vq2_n0) (next : Vq2_n0 → Ans) (exit : Yq2_n0 → Ans) : stepq2_n0 i v next exit = bindO (stepDq2_n0 i v) (Sum.elim next exit) := by
  obtain ⟨t1,t14,o0_0⟩ := i
  obtain ⟨t4,t15⟩ := v
  simp only [stepDq2_n0,stepq2_n0,bindO_cond,bindO_assoc,bindO_none,bindO_pure,bindO_elim,bindO_unP,bindO_empty,Sum.elim_inl,Sum.elim_inr]
theorem stepq2_n0_ok (n : Nat) (i : Iq2_n0) (v : Vq2_n0) (K : Ex → St → Ans) : codeI Tryz.tab envq2 noHint (codeD Tryz.tab envq2 noHint 0 64) (n+1) 29 annLq2_n0 (.loop Lq2_n0) (weakP 1 (exk [0,4] [] [(0,[0,4])]) K) (Sq2_n0 i v) = stepq2_n0 i v (fun v' => codeI Tryz.tab envq2 noHint (codeD Tryz.tab envq2 noHint 0 64) n 29 annLq2_n0 (.loop Lq2_n0) (weakP 1 (exk [0,4] [] [(0,[0,4])]) K) (Sq2_n0 i v')) (fun y => outq2_n0 i K y) := by kernel_rfl
theorem GNq2_n0_ok : CSum Tryz.prog 29 (.loop Lq2_n0) (sumL decq2_n0 stepDq2_n0 outq2_n0) := csum_loop mixed tabOk envq2Ok 1 (exk [0,4] [] [(0,[0,4])]) annLq2_n0_ok decq2_n0_ok stepq2_n0_ok stepq2_n0_nat
noncomputable def Gq2_n0 : (Ex → St → Ans) → St → Ans := (sumL decq2_n0 stepDq2_n0 outq2_n0)
theorem Gq2_n0_ok : CSum Tryz.prog 29 (.loop Lq2_n0) Gq2_n0 := GNq2_n0_ok
noncomputable def annq2 : Ann := (.seq .none (.seq .none (.seq (.seq .none (.block (.cut 1 [0,1,4,14,15] Gq2_n0))) .none)))
theorem annq2_ok : AnnOk Tryz.prog 29 bq2 annq2 := ⟨(annOk_none _ _ _),⟨(annOk_none _ _ _),⟨⟨(annOk_none _ _ _),Gq2_n0_ok⟩,(annOk_none _ _ _)⟩⟩⟩
abbrev Aq2 := (List UInt8) × (Int)
abbrev Yq2 := (Int)
def fnq2 {β : Type} : Aq2 → (Yq2 → Option β) → Option β := fun (a1,o0_0) exit => (bindO (loopD (stepDq2_n0 (a1,(↑(List.length a1) : Int),o0_0)) FUEL (IntKind.wrap .u32 (↑(Int.toNat (o0_0 % (4294967296 : Int)) ^^^ (4294967295 : Nat)) : Int),(0 : Int))) fun t4 => (exit (IntKind.wrap .u32 (↑(Int.toNat (t4 % (4294967296 : Int)) ^^^ (4294967295 : Nat)) : Int))))
def fnDq2 (a : Aq2) : Option Yq2 := fnq2 a some
theorem fnq2_nat (a : Aq2) (k : Yq2 → Ans) : fnq2 a k = bindO (fnDq2 a) k := by
  obtain ⟨a1,o0_0⟩ := a
  simp only [fnDq2,fnq2,bindO_cond,bindO_assoc,bindO_none,bindO_pure,bindO_elim,bindO_unP,bindO_empty]
def argsq2 : Aq2 → List AV × List AE.Obj := fun (a1,o0_0) => ([.ptr 0 0,.str a1],[.cells [.int .u32 o0_0]])
def decPAq2 (l : List AV) (H : List AE.Obj) : Option {a : Aq2 // (l,H) = argsq2 a} := match l,H with
  | [.ptr 0 0,.str a1],[.cells [.int .u32 o0_0]] => some ⟨(a1,o0_0),rfl⟩
  | _,_ => none
def decAq2 (l : List AV) (H : List AE.Obj) : Option Aq2 := pk (decPAq2 l H)
theorem decAq2_ok (l : List AV) (H : List AE.Obj) (a : Aq2) (h : decAq2 l H = some a) : (l,H) = argsq2 a := pk_ok (o := decPAq2 l H) h
def outq2 : Aq2 → (AV → List AE.Obj → Ans) → Yq2 → Ans := fun (a1,o0_0) K => fun o0_0_y => K (.tup []) [.cells [.int .u32 o0_0_y]]
theorem fnq2_ok (a : Aq2) (K : AV → List AE.Obj → Ans) : fnE Tryz.tab envq2 noHint 0 70 221 Tryz.f221.ntmps Tryz.f221.results.toList annq2 bq2 (argsq2 a).1 (argsq2 a).2 K = fnq2 a (outq2 a K) := by kernel_rfl
def vFq2 (a : Aq2) (K : AV → List AE.Obj → Ans) : Ans := bindO (fnDq2 a) fun y => outq2 a K y
def Fq2 : List AV → List AE.Obj → (AV → List AE.Obj → Ans) → Ans := fun l H K => bindO (decAq2 l H) fun a => vFq2 a K
theorem Fq2_ok : FuncOk Tryz.prog 221 Fq2 := func_mkD (hint := noHint) (d := 0) (n := 70) mixed tabOk envq2Ok Tryz.func221 (bodySome (by kernel_rfl)) (by decide +kernel) annq2_ok decAq2_ok fnq2_ok fnq2_nat
--@ cyclic_State_Sum
noncomputable def envq3 : Env := []
theorem envq3Ok : EnvOk Tryz.prog envq3 := EnvOk.nil
noncomputable def bq3 : Code := Tryz.f222.body.getD .skip
noncomputable def annq3 : Ann := .none
theorem annq3_ok : AnnOk Tryz.prog 10 bq3 annq3 := (annOk_none _ _ _)
abbrev Aq3 := (Int)
abbrev Yq3 := (Int)
def fnq3 {β : Type} : Aq3 → (Yq3 → Option β) → Option β := fun o0_0 exit => (exit (IntKind.wrap .i64 o0_0))
def fnDq3 (a : Aq3) : Option Yq3 := fnq3 a some
theorem fnq3_nat (a : Aq3) (k : Yq3 → Ans) : fnq3 a k = bindO (fnDq3 a) k := by
  obtain z := a
  simp only [fnDq3,fnq3,bindO_cond,bindO_assoc,bindO_none,bindO_pure,bindO_elim,bindO_unP,bindO_empty]
def argsq3 : Aq3 → List AV × List AE.Obj := fun o0_0 => ([.ptr 0 0],[.cells [.int .u32 o0_0]])
def decPAq3 (l : List AV) (H : List AE.Obj) : Option {a : Aq3 // (l,H) = argsq3 a} := match l,H with
  | [.ptr 0 0],[.cells [.int .u32 o0_0]] => some ⟨(o0_0),rfl⟩
  | _,_ => none
def decAq3 (l : List AV) (H : List AE.Obj) : Option Aq3 := pk (decPAq3 l H)
theorem decAq3_ok (l : List AV) (H : List AE.Obj) (a : Aq3) (h : decAq3 l H = some a) : (l,H) = argsq3 a := pk_ok (o := decPAq3 l H) h
def outq3 : Aq3 → (AV → List AE.Obj → Ans) → Yq3 → Ans := fun o0_0 K => fun r_y => K (.int .i64 r_y) [.cells [.int .u32 o0_0]]
theorem fnq3_ok (a : Aq3) (K : AV → List AE.Obj → Ans) : fnE Tryz.tab envq3 noHint 0 70 222 Tryz.f222.ntmps Tryz.f222.results.toList annq3 bq3 (argsq3 a).1 (argsq3 a).2 K = fnq3 a (outq3 a K) := by kernel_rfl
def vFq3 (a : Aq3) (K : AV → List AE.Obj → Ans) : Ans := bindO (fnDq3 a) fun y => outq3 a K y
def Fq3 : List AV → List AE.Obj → (AV → List AE.Obj → Ans) → Ans := fun l H K => bindO (decAq3 l H) fun a => vFq3 a K
theorem Fq3_ok : FuncOk Tryz.prog 222 Fq3 := func_mkD (hint := noHint) (d := 0) (n := 70) mixed tabOk envq3Ok Tryz.func222 (bodySome (by kernel_rfl)) (by decide +kernel) annq3_ok decAq3_ok fnq3_ok fnq3_nat
--@ cyclic_Of
noncomputable def envq1 : Env := [(220,.func Fq0),(221,.func Fq2),(222,.func Fq3)]
theorem envq1Ok : EnvOk Tryz.prog envq1 := EnvOk.cons Fq0_ok (EnvOk.cons Fq2_ok (EnvOk.cons Fq3_ok (EnvOk.nil)))
noncomputable def bq1 : Code := Tryz.f185.body.getD .skip
noncomputable def annq1 : Ann := .none
theorem annq1_ok : AnnOk Tryz.prog 10 bq1 annq1 := (annOk_none _ _ _)
abbrev Aq1 := (List UInt8)
abbrev Yq1 := (Int)
def fnq1 {β : Type} : Aq1 → (Yq1 → Option β) → Option β := fun a0 exit => (bindO (fnDq0 ()) fun _ => (bindO (fnDq2 (a0,(0 : Int))) fun o0_0 => (bindO (fnDq3 (o0_0)) fun r => (exit (r)))))
def fnDq1 (a : Aq1) : Option Yq1 := fnq1 a some
theorem fnq1_nat (a : Aq1) (k : Yq1 → Ans) : fnq1 a k = bindO (fnDq1 a) k := by
  obtain z := a
  simp only [fnDq1,fnq1,bindO_cond,bindO_assoc,bindO_none,bindO_pure,bindO_elim,bindO_unP,bindO_empty]
def argsq1 : Aq1 → List AV := fun a0 => [.str a0]
def decPAq1 (l : List AV) : Option {a : Aq1 // l = argsq1 a} := match l with
  | [.str a0] => some ⟨(a0),rfl⟩
  | _ => none
def decAq1 (l : List AV) : Option Aq1 := pk (decPAq1 l)
theorem decAq1_ok (l : List AV) (a : Aq1) (h : decAq1 l = some a) : l = argsq1 a := pk_ok (o := decPAq1 l) h
def rendq1 : Aq1 → Yq1 → AV := fun a0 => fun r_y => .int .i64 r_y
theorem rendq1_ok : ∀ (a : Aq1) (y : Yq1),(rendq1 a y).closed1 = true := by
  rintro z y <;> first | rfl | exact Empty.elim y
theorem fnq1_ok (a : Aq1) : fnE Tryz.tab envq1 noHint 0 70 185 Tryz.f185.ntmps Tryz.f185.results.toList annq1 bq1 (argsq1 a) [] (fun v _ => some (v,[])) = fnq1 a (fun y => some (rendq1 a y,[])) := by kernel_rfl
def vFq1 (a : Aq1) (K : AV → Ans) : Ans := bindO (fnDq1 a) fun y => K (rendq1 a y)
def Fq1 : List AV → (AV → Ans) → Ans := fun l K => bindO (decAq1 l) fun a => vFq1 a K
theorem Fq1_ok : PureOk Tryz.prog 185 Fq1 := pure_mkD (hint := noHint) (d := 0) (n := 70) mixed tabOk envq1Ok Tryz.func185 (bodySome (by kernel_rfl)) (by decide +kernel) annq1_ok decAq1_ok fnq1_ok fnq1_nat rendq1_ok
--@ cyclic_Tail
noncomputable def envq4 : Env := [(185,.pure Fq1)]
theorem envq4Ok : EnvOk Tryz.prog envq4 := EnvOk.cons Fq1_ok (EnvOk.nil)
noncomputable def bq4 : Code := Tryz.f123.body.getD .skip
noncomputable def Lq4_n1 : Code := codeAt [1,1,1,0,1,0,0] bq4
noncomputable def annLq4_n1 : Ann := .none
theorem annLq4_n1_ok : AnnOk Tryz.prog 21 Lq4_n1 annLq4_n1 := (annOk_none _ _ _)
abbrev Iq4_n1 := (Int) × (Int) × (Int) × (Int) × (Int)
abbrev Yq4_n1 := Unit
def Sq4_n1 : Iq4_n1 → St := fun (t3,o0_0,o0_1,o0_2,o0_3) => { env := [(3,.int .i64 t3),(4,.ptr 0 0),(8,.int .i64 (4))],stk := [[]],H := [.cells [.int .u8 o0_0,.int .u8 o0_1,.int .u8 o0_2,.int .u8 o0_3]],blk := 503808 }
def decPq4_n1 (s : St) : Option {x : Iq4_n1 // s = Sq4_n1 x} := match s with
  | { env := [(3,.int .i64 t3),(4,.ptr 0 0),(8,.int .i64 r1)],stk := [[]],H := [.cells [.int .u8 o0_0,.int .u8 o0_1,.int .u8 o0_2,.int .u8 o0_3]],blk := 503808 } => if h1 : r1 = 4 then some ⟨(t3,o0_0,o0_1,o0_2,o0_3),by subst h1; rfl⟩ else none
  | _ => none
def decq4_n1 (s : St) : Option Iq4_n1 := pk (decPq4_n1 s)
theorem decq4_n1_ok (s : St) (x : Iq4_n1) (h : decq4_n1 s = some x) : s = Sq4_n1 x := pk_ok (o := decPq4_n1 s) h
def outq4_n1 : Iq4_n1 → (Ex → St → Ans) → Yq4_n1 → Ans := fun (t3,o0_0,o0_1,o0_2,o0_3) K => fun _ => K (Ex.exit 0) { env := [(4,.ptr 0 0)],stk := [[]],H := [.cells [.int .u8 o0_0,.int .u8 o0_1,.int .u8 o0_2,.int .u8 o0_3]],blk := 503808 }
def nodeq4_n1 {β : Type} : Iq4_n1 → (Yq4_n1 → Option β) → Option β := fun (t3,o0_0,o0_1,o0_2,o0_3) exit => (exit ())
def nodeDq4_n1 (i : Iq4_n1) : Option Yq4_n1 := nodeq4_n1 i some
theorem nodeq4_n1_nat (i : Iq4_n1) (k : Yq4_n1 → Ans) : nodeq4_n1 i k = bindO (nodeDq4_n1 i) k := by
  obtain ⟨t3,o0_0,o0_1,o0_2,o0_3⟩ := i
  simp only [nodeDq4_n1,nodeq4_n1,bindO_cond,bindO_assoc,bindO_none,bindO_pure,bindO_elim,bindO_unP,bindO_empty]
theorem nodeq4_n1_ok (i : Iq4_n1) (K : Ex → St → Ans) : codeI Tryz.tab envq4 noHint (codeD Tryz.tab envq4 noHint 0 64) 70 21 annLq4_n1 Lq4_n1 (weakP 0 (exk [3,4,8] [2] [(0,[4])]) K) (Sq4_n1 i) = nodeq4_n1 i (outq4_n1 i K) := by kernel_rfl
theorem GNq4_n1_ok : CSum Tryz.prog 21 Lq4_n1 (sumN decq4_n1 nodeDq4_n1 outq4_n1) := csum_node mixed tabOk envq4Ok 0 (exk [3,4,8] [2] [(0,[4])]) annLq4_n1_ok decq4_n1_ok nodeq4_n1_ok nodeq4_n1_nat
abbrev Iq4_n1v1 := (Int) × (Int) × (Int) × (Int) × (Int)
abbrev Yq4_n1v1 := (Int)
def Sq4_n1v1 : Iq4_n1v1 → St := fun (t3,o0_0,o0_1,o0_2,o0_3) => { env := [(3,.int .i64 t3),(4,.ptr 0 0),(8,.int .i64 (0))],stk := [[]],H := [.cells [.int .u8 o0_0,.int .u8 o0_1,.int .u8 o0_2,.int .u8 o0_3]],blk := 503808 }
def decPq4_n1v1 (s : St) : Option {x : Iq4_n1v1 // s = Sq4_n1v1 x} := match s with
  | { env := [(3,.int .i64 t3),(4,.ptr 0 0),(8,.int .i64 r1)],stk := [[]],H := [.cells [.int .u8 o0_0,.int .u8 o0_1,.int .u8 o0_2,.int .u8 o0_3]],blk := 503808 } => if h1 : r1 = 0 then some ⟨(t3,o0_0,o0_1,o0_2,o0_3),by subst h1; rfl⟩ else none
  | _ => none
def decq4_n1v1 (s : St) : Option Iq4_n1v1 := pk (decPq4_n1v1 s)
theorem decq4_n1v1_ok (s : St) (x : Iq4_n1v1) (h : decq4_n1v1 s = some x) : s = Sq4_n1v1 x := pk_ok (o := decPq4_n1v1 s) h
def outq4_n1v1 : Iq4_n1v1 → (Ex → St → Ans) → Yq4_n1v1 → Ans := fun (t3,o0_0,o0_1,o0_2,o0_3) K => fun o0_0_y => K (Ex.norm) { env := [(3,.int .i64 t3),(4,.ptr 0 0),(8,.int .i64 (1))],stk := [[]],H := [.cells [.int .u8 o0_0_y,.int .u8 o0_1,.int .u8 o0_2,.int .u8 o0_3]],blk := 503809 }
def nodeq4_n1v1 {β : Type} : Iq4_n1v1 → (Yq4_n1v1 → Option β) → Option β := fun (t3,o0_0,o0_1,o0_2,o0_3) exit => (exit (IntKind.wrap .u8 (Int.fdiv t3 (1 : Int))))
def nodeDq4_n1v1 (i : Iq4_n1v1) : Option Yq4_n1v1 := nodeq4_n1v1 i some
theorem nodeq4_n1v1_nat (i : Iq4_n1v1) (k : Yq4_n1v1 → Ans) : nodeq4_n1v1 i k = bindO (nodeDq4_n1v1 i) k := by
  obtain ⟨t3,o0_0,o0_1,o0_2,o0_3⟩ := i
  simp only [nodeDq4_n1v1,nodeq4_n1v1,bindO_cond,bindO_assoc,bindO_none,bindO_pure,bindO_elim,bindO_unP,bindO_empty]
theorem nodeq4_n1v1_ok (i : Iq4_n1v1) (K : Ex → St → Ans) : codeI Tryz.tab envq4 noHint (codeD Tryz.tab envq4 noHint 0 64) 70 21 annLq4_n1 Lq4_n1 (weakP 0 (exk [3,4,8] [2] [(0,[4])]) K) (Sq4_n1v1 i) = nodeq4_n1v1 i (outq4_n1v1 i K) := by kernel_rfl
theorem GNq4_n1v1_ok : CSum Tryz.prog 21 Lq4_n1 (sumN decq4_n1v1 nodeDq4_n1v1 outq4_n1v1) := csum_node mixed tabOk envq4Ok 0 (exk [3,4,8] [2] [(0,[4])]) annLq4_n1_ok decq4_n1v1_ok nodeq4_n1v1_ok nodeq4_n1v1_nat
abbrev Iq4_n1v2 := (Int) × (Int) × (Int) × (Int) × (Int)
abbrev Yq4_n1v2 := (Int)
def Sq4_n1v2 : Iq4_n1v2 → St := fun (t3,o0_0,o0_1,o0_2,o0_3) => { env := [(3,.int .i64 t3),(4,.ptr 0 0),(8,.int .i64 (1))],stk := [[]],H := [.cells [.int .u8 o0_0,.int .u8 o0_1,.int .u8 o0_2,.int .u8 o0_3]],blk := 503808 }
def decPq4_n1v2 (s : St) : Option {x : Iq4_n1v2 // s = Sq4_n1v2 x} := match s with
  | { env := [(3,.int .i64 t3),(4,.ptr 0 0),(8,.int .i64 r1)],stk := [[]],H := [.cells [.int .u8 o0_0,.int .u8 o0_1,.int .u8 o0_2,.int .u8 o0_3]],blk := 503808 } => if h1 : r1 = 1 then some ⟨(t3,o0_0,o0_1,o0_2,o0_3),by subst h1; rfl⟩ else none
  | _ => none
def decq4_n1v2 (s : St) : Option Iq4_n1v2 := pk (decPq4_n1v2 s)
theorem decq4_n1v2_ok (s : St) (x : Iq4_n1v2) (h : decq4_n1v2 s = some x) : s = Sq4_n1v2 x := pk_ok (o := decPq4_n1v2 s) h
def outq4_n1v2 : Iq4_n1v2 → (Ex → St → Ans) → Yq4_n1v2 → Ans := fun (t3,o0_0,o0_1,o0_2,o0_3) K => fun o0_1_y => K (Ex.norm) { env := [(3,.int .i64 t3),(4,.ptr 0 0),(8,.int .i64 (2))],stk := [[]],H := [.cells [.int .u8 o0_0,.int .u8 o0_1_y,.int .u8 o0_2,.int .u8 o0_3]],blk := 503809 }
def nodeq4_n1v2 {β : Type} : Iq4_n1v2 → (Yq4_n1v2 → Option β) → Option β := fun (t3,o0_0,o0_1,o0_2,o0_3) exit => (exit (IntKind.wrap .u8 (Int.fdiv t3 (256 : Int))))
def nodeDq4_n1v2 (i : Iq4_n1v2) : Option Yq4_n1v2 := nodeq4_n1v2 i some
theorem nodeq4_n1v2_nat (i : Iq4_n1v2) (k : Yq4_n1v2 → Ans) : nodeq4_n1v2 i k = bindO (nodeDq4_n1v2 i) k := by
  obtain ⟨t3,o0_0,o0_1,o0_2,o0_3⟩ := i
  simp only [nodeDq4_n1v2,nodeq4_n1v2,bindO_cond,bindO_assoc,bindO_none,bindO_pure,bindO_elim,bindO_unP,bindO_empty]
theorem nodeq4_n1v2_ok (i : Iq4_n1v2) (K : Ex → St → Ans) : codeI Tryz.tab envq4 noHint (codeD Tryz.tab envq4 noHint 0 64) 70 21 annLq4_n1 Lq4_n1 (weakP 0 (exk [3,4,8] [2] [(0,[4])]) K) (Sq4_n1v2 i) = nodeq4_n1v2 i (outq4_n1v2 i K) := by kernel_rfl
theorem GNq4_n1v2_ok : CSum Tryz.prog 21 Lq4_n1 (sumN decq4_n1v2 nodeDq4_n1v2 outq4_n1v2) := csum_node mixed tabOk envq4Ok 0 (exk [3,4,8] [2] [(0,[4])]) annLq4_n1_ok decq4_n1v2_ok nodeq4_n1v2_ok nodeq4_n1v2_nat
abbrev Iq4_n1v3 := (Int) × (Int) × (Int) × (Int) × (Int)
abbrev Yq4_n1v3 := (Int)
def Sq4_n1v3 : Iq4_n1v3 → St := fun (t3,o0_0,o0_1,o0_2,o0_3) => { env := [(3,.int .i64 t3),(4,.ptr 0 0),(8,.int .i64 (2))],stk := [[]],H := [.cells [.int .u8 o0_0,.int .u8 o0_1,.int .u8 o0_2,.int .u8 o0_3]],blk := 503808 }
def decPq4_n1v3 (s : St) : Option {x : Iq4_n1v3 // s = Sq4_n1v3 x} := match s with
  | { env := [(3,.int .i64 t3),(4,.ptr 0 0),(8,.int .i64 r1)],stk := [[]],H := [.cells [.int .u8 o0_0,.int .u8 o0_1,.int .u8 o0_2,.int .u8 o0_3]],blk := 503808 } => if h1 : r1 = 2 then some ⟨(t3,o0_0,o0_1,o0_2,o0_3),by subst h1; rfl⟩ else none
  | _ => none
def decq4_n1v3 (s : St) : Option Iq4_n1v3 := pk (decPq4_n1v3 s)
theorem decq4_n1v3_ok (s : St) (x : Iq4_n1v3) (h : decq4_n1v3 s = some x) : s = Sq4_n1v3 x := pk_ok (o := decPq4_n1v3 s) h
def outq4_n1v3 : Iq4_n1v3 → (Ex → St → Ans) → Yq4_n1v3 → Ans := fun (t3,o0_0,o0_1,o0_2,o0_3) K => fun o0_2_y => K (Ex.norm) { env := [(3,.int .i64 t3),(4,.ptr 0 0),(8,.int .i64 (3))],stk := [[]],H := [.cells [.int .u8 o0_0,.int .u8 o0_1,.int .u8 o0_2_y,.int .u8 o0_3]],blk := 503809 }
def nodeq4_n1v3 {β : Type} : Iq4_n1v3 → (Yq4_n1v3 → Option β) → Option β := fun (t3,o0_0,o0_1,o0_2,o0_3) exit => (exit (IntKind.wrap .u8 (Int.fdiv t3 (65536 : Int))))
def nodeDq4_n1v3 (i : Iq4_n1v3) : Option Yq4_n1v3 := nodeq4_n1v3 i some
theorem nodeq4_n1v3_nat (i : Iq4_n1v3) (k : Yq4_n1v3 → Ans) : nodeq4_n1v3 i k = bindO (nodeDq4_n1v3 i) k := by
  obtain ⟨t3,o0_0,o0_1,o0_2,o0_3⟩ := i
  simp only [nodeDq4_n1v3,nodeq4_n1v3,bindO_cond,bindO_assoc,bindO_none,bindO_pure,bindO_elim,bindO_unP,bindO_empty]
theorem nodeq4_n1v3_ok (i : Iq4_n1v3) (K : Ex → St → Ans) : codeI Tryz.tab envq4 noHint (codeD Tryz.tab envq4 noHint 0 64) 70 21 annLq4_n1 Lq4_n1 (weakP 0 (exk [3,4,8] [2] [(0,[4])]) K) (Sq4_n1v3 i) = nodeq4_n1v3 i (outq4_n1v3 i K) := by kernel_rfl
theorem GNq4_n1v3_ok : CSum Tryz.prog 21 Lq4_n1 (sumN decq4_n1v3 nodeDq4_n1v3 outq4_n1v3) := csum_node mixed tabOk envq4Ok 0 (exk [3,4,8] [2] [(0,[4])]) annLq4_n1_ok decq4_n1v3_ok nodeq4_n1v3_ok nodeq4_n1v3_nat
abbrev Iq4_n1v4 := (Int) × (Int) × (Int) × (Int) × (Int)
abbrev Yq4_n1v4 := (Int)
def Sq4_n1v4 : Iq4_n1v4 → St := fun (t3,o0_0,o0_1,o0_2,o0_3) => { env := [(3,.int .i64 t3),(4,.ptr 0 0),(8,.int .i64 (3))],stk := [[]],H := [.cells [.int .u8 o0_0,.int .u8 o0_1,.int .u8 o0_2,.int .u8 o0_3]],blk := 503808 }
def decPq4_n1v4 (s : St) : Option {x : Iq4_n1v4 // s = Sq4_n1v4 x} := match s with
  | { env := [(3,.int .i64 t3),(4,.ptr 0 0),(8,.int .i64 r1)],stk := [[]],H := [.cells [.int .u8 o0_0,.int .u8 o0_1,.int .u8 o0_2,.int .u8 o0_3]],blk := 503808 } => if h1 : r1 = 3 then some ⟨(t3,o0_0,o0_1,o0_2,o0_3),by subst h1; rfl⟩ else none
  | _ => none
def decq4_n1v4 (s : St) : Option Iq4_n1v4 := pk (decPq4_n1v4 s)
theorem decq4_n1v4_ok (s : St) (x : Iq4_n1v4) (h : decq4_n1v4 s = some x) : s = Sq4_n1v4 x := pk_ok (o := decPq4_n1v4 s) h
def outq4_n1v4 : Iq4_n1v4 → (Ex → St → Ans) → Yq4_n1v4 → Ans := fun (t3,o0_0,o0_1,o0_2,o0_3) K => fun o0_3_y => K (Ex.norm) { env := [(3,.int .i64 t3),(4,.ptr 0 0),(8,.int .i64 (4))],stk := [[]],H := [.cells [.int .u8 o0_0,.int .u8 o0_1,.int .u8 o0_2,.int .u8 o0_3_y]],blk := 503809 }
def nodeq4_n1v4 {β : Type} : Iq4_n1v4 → (Yq4_n1v4 → Option β) → Option β := fun (t3,o0_0,o0_1,o0_2,o0_3) exit => (exit (IntKind.wrap .u8 (Int.fdiv t3 (16777216 : Int))))
def nodeDq4_n1v4 (i : Iq4_n1v4) : Option Yq4_n1v4 := nodeq4_n1v4 i some
theorem nodeq4_n1v4_nat (i : Iq4_n1v4) (k : Yq4_n1v4 → Ans) : nodeq4_n1v4 i k = bindO (nodeDq4_n1v4 i) k := by
  obtain ⟨t3,o0_0,o0_1,o0_2,o0_3⟩ := i
  simp only [nodeDq4_n1v4,nodeq4_n1v4,bindO_cond,bindO_assoc,bindO_none,bindO_pure,bindO_elim,bindO_unP,bindO_empty]
theorem nodeq4_n1v4_ok (i : Iq4_n1v4) (K : Ex → St → Ans) : codeI Tryz.tab envq4 noHint (codeD Tryz.tab envq4 noHint 0 64) 70 21 annLq4_n1 Lq4_n1 (weakP 0 (exk [3,4,8] [2] [(0,[4])]) K) (Sq4_n1v4 i) = nodeq4_n1v4 i (outq4_n1v4 i K) := by kernel_rfl
theorem GNq4_n1v4_ok : CSum Tryz.prog 21 Lq4_n1 (sumN decq4_n1v4 nodeDq4_n1v4 outq4_n1v4) := csum_node mixed tabOk envq4Ok 0 (exk [3,4,8] [2] [(0,[4])]) annLq4_n1_ok decq4_n1v4_ok nodeq4_n1v4_ok nodeq4_n1v4_nat
noncomputable def Gq4_n1 : (Ex → St → Ans) → St → Ans := (altN decq4_n1 (sumN decq4_n1 nodeDq4_n1 outq4_n1) (altN decq4_n1v1 (sumN decq4_n1v1 nodeDq4_n1v1 outq4_n1v1) (altN decq4_n1v2 (sumN decq4_n1v2 nodeDq4_n1v2 outq4_n1v2) (altN decq4_n1v3 (sumN decq4_n1v3 nodeDq4_n1v3 outq4_n1v3) (sumN decq4_n1v4 nodeDq4_n1v4 outq4_n1v4)))))
theorem Gq4_n1_ok : CSum Tryz.prog 21 Lq4_n1 Gq4_n1 := (csum_altN GNq4_n1_ok (csum_altN GNq4_n1v1_ok (csum_altN GNq4_n1v2_ok (csum_altN GNq4_n1v3_ok GNq4_n1v4_ok))))
noncomputable def Lq4_n0 : Code := codeAt [1,1,1,0,1] bq4
noncomputable def annLq4_n0 : Ann := (.block (.at 0 [3,4,8] (.loop (.cut 0 [3,4,8] Gq4_n1))))
theorem annLq4_n0_ok : AnnOk Tryz.prog 21 Lq4_n0 annLq4_n0 := (annOk_at Gq4_n1_ok)
abbrev Iq4_n0 := (Int)
abbrev Yq4_n0 := (Int) × (Int) × (Int) × (Int)
def Sq4_n0 : Iq4_n0 → St := fun t3 => { env := [(3,.int .i64 t3),(4,.ptr 0 0),(8,.int .i64 (0))],stk := [[]],H := [.cells [.int .u8 (0),.int .u8 (0),.int .u8 (0),.int .u8 (0)]],blk := 503808 }
def decPq4_n0 (s : St) : Option {x : Iq4_n0 // s = Sq4_n0 x} := match s with
  | { env := [(3,.int .i64 t3),(4,.ptr 0 0),(8,.int .i64 r1)],stk := [[]],H := [.cells [.int .u8 r2,.int .u8 r3,.int .u8 r4,.int .u8 r5]],blk := 503808 } => if h1 : r1 = 0 then if h2 : r2 = 0 then if h3 : r3 = 0 then if h4 : r4 = 0 then if h5 : r5 = 0 then some ⟨(t3),by subst h1 h2 h3 h4 h5; rfl⟩ else none else none else none else none else none
  | _ => none
def decq4_n0 (s : St) : Option Iq4_n0 := pk (decPq4_n0 s)
theorem decq4_n0_ok (s : St) (x : Iq4_n0) (h : decq4_n0 s = some x) : s = Sq4_n0 x := pk_ok (o := decPq4_n0 s) h
def outq4_n0 : Iq4_n0 → (Ex → St → Ans) → Yq4_n0 → Ans := fun t3 K => unP fun o0_0_y => unP fun o0_1_y => unP fun o0_2_y o0_3_y => K (Ex.norm) { env := [(4,.ptr 0 0)],stk := [[]],H := [.cells [.int .u8 o0_0_y,.int .u8 o0_1_y,.int .u8 o0_2_y,.int .u8 o0_3_y]],blk := 503808 }
def nodeq4_n0 {β : Type} : Iq4_n0 → (Yq4_n0 → Option β) → Option β := fun t3 exit => (bindO (nodeDq4_n1v1 (t3,(0 : Int),(0 : Int),(0 : Int),(0 : Int))) fun o0_0 => (bindO (nodeDq4_n1v2 (t3,o0_0,(0 : Int),(0 : Int),(0 : Int))) fun o0_1 => (bindO (nodeDq4_n1v3 (t3,o0_0,o0_1,(0 : Int),(0 : Int))) fun o0_2 => (bindO (nodeDq4_n1v4 (t3,o0_0,o0_1,o0_2,(0 : Int))) fun o0_3 => (bindO (nodeDq4_n1 (t3,o0_0,o0_1,o0_2,o0_3)) fun _ => (exit (o0_0,o0_1,o0_2,o0_3)))))))
def nodeDq4_n0 (i : Iq4_n0) : Option Yq4_n0 := nodeq4_n0 i some
theorem nodeq4_n0_nat (i : Iq4_n0) (k : Yq4_n0 → Ans) : nodeq4_n0 i k = bindO (nodeDq4_n0 i) k := by
  obtain z := i
  simp only [nodeDq4_n0,nodeq4_n0,bindO_cond,bindO_assoc,bindO_none,bindO_pure,bindO_elim,bindO_unP,bindO_empty]
theorem nodeq4_n0_ok (i : Iq4_n0) (K : Ex → St → Ans) : codeI Tryz.tab envq4 noHint (codeD Tryz.tab envq4 noHint 0 64) 70 21 annLq4_n0 Lq4_n0 (weakP 0 (exk [4] [2] []) K) (Sq4_n0 i) = nodeq4_n0 i (outq4_n0 i K) := by kernel_rfl
theorem GNq4_n0_ok : CSum Tryz.prog 21 Lq4_n0 (sumN decq4_n0 nodeDq4_n0 outq4_n0) := csum_node mixed tabOk envq4Ok 0 (exk [4] [2] []) annLq4_n0_ok decq4_n0_ok nodeq4_n0_ok nodeq4_n0_nat
noncomputable def Gq4_n0 : (Ex → St → Ans) → St → Ans := (sumN decq4_n0 nodeDq4_n0 outq4_n0)
theorem Gq4_n0_ok : CSum Tryz.prog 21 Lq4_n0 Gq4_n0 := GNq4_n0_ok
noncomputable def annq4 : Ann := (.seq .none (.seq .none (.seq .none (.seq (.seq .none (.cut 0 [3,4,8] Gq4_n0)) .none))))
theorem annq4_ok : AnnOk Tryz.prog 21 bq4 annq4 := ⟨(annOk_none _ _ _),⟨(annOk_none _ _ _),⟨(annOk_none _ _ _),⟨⟨(annOk_none _ _ _),Gq4_n0_ok⟩,(annOk_none _ _ _)⟩⟩⟩⟩
abbrev Aq4 := (List UInt8)
abbrev Yq4 := (List UInt8)
def fnq4 {β : Type} : Aq4 → (Yq4 → Option β) → Option β := fun a0 exit => (bindO (fnDq1 (a0)) fun r => (bindO (nodeDq4_n0 (r)) (unP fun o0_0 => unP fun o0_1 => unP fun o0_2 o0_3 => (exit (bytesOf [o0_0,o0_1,o0_2,o0_3])))))
def fnDq4 (a : Aq4) : Option Yq4 := fnq4 a some
theorem fnq4_nat (a : Aq4) (k : Yq4 → Ans) : fnq4 a k = bindO (fnDq4 a) k := by
  obtain z := a
  simp only [fnDq4,fnq4,bindO_cond,bindO_assoc,bindO_none,bindO_pure,bindO_elim,bindO_unP,bindO_empty]
def argsq4 : Aq4 → List AV := fun a0 => [.str a0]
def decPAq4 (l : List AV) : Option {a : Aq4 // l = argsq4 a} := match l with
  | [.str a0] => some ⟨(a0),rfl⟩
  | _ => none
def decAq4 (l : List AV) : Option Aq4 := pk (decPAq4 l)
theorem decAq4_ok (l : List AV) (a : Aq4) (h : decAq4 l = some a) : l = argsq4 a := pk_ok (o := decPAq4 l) h
def rendq4 : Aq4 → Yq4 → AV := fun a0 => fun r_y => .str r_y
theorem rendq4_ok : ∀ (a : Aq4) (y : Yq4),(rendq4 a y).closed1 = true := by
  rintro z y <;> first | rfl | exact Empty.elim y
theorem fnq4_ok (a : Aq4) : fnE Tryz.tab envq4 noHint 0 70 123 Tryz.f123.ntmps Tryz.f123.results.toList annq4 bq4 (argsq4 a) [] (fun v _ => some (v,[])) = fnq4 a (fun y => some (rendq4 a y,[])) := by kernel_rfl
def vFq4 (a : Aq4) (K : AV → Ans) : Ans := bindO (fnDq4 a) fun y => K (rendq4 a y)
def Fq4 : List AV → (AV → Ans) → Ans := fun l K => bindO (decAq4 l) fun a => vFq4 a K
theorem Fq4_ok : PureOk Tryz.prog 123 Fq4 := pure_mkD (hint := noHint) (d := 0) (n := 70) mixed tabOk envq4Ok Tryz.func123 (bodySome (by kernel_rfl)) (by decide +kernel) annq4_ok decAq4_ok fnq4_ok fnq4_nat rendq4_ok
--@ region_Pad
noncomputable def envq70 : Env := [(109,.pure Fstrings_Repeat)]
theorem envq70Ok : EnvOk Tryz.prog envq70 := EnvOk.cons Fstrings_Repeat_ok (EnvOk.nil)
noncomputable def bq70 : Code := Tryz.f122.body.getD .skip
noncomputable def annq70 : Ann := .none
theorem annq70_ok : AnnOk Tryz.prog 15 bq70 annq70 := (annOk_none _ _ _)
abbrev Aq70 := (List UInt8)
abbrev Yq70 := (List UInt8)
def fnq70 {β : Type} : Aq70 → (Yq70 → Option β) → Option β := fun a0 exit => (bif decide (Int.tmod (↑(List.length a0) : Int) (64 : Int) > (0 : Int)) then (bindO (fnDstrings_Repeat ([(0 : UInt8)],IntKind.wrap .i64 ((64 : Int) - Int.tmod (↑(List.length a0) : Int) (64 : Int)))) fun r => (bif Nat.ble (List.length a0 + List.length r) (9223372036854775807 : Nat) then (exit (a0 ++ r)) else none)) else (exit (a0)))
def fnDq70 (a : Aq70) : Option Yq70 := fnq70 a some
theorem fnq70_nat (a : Aq70) (k : Yq70 → Ans) : fnq70 a k = bindO (fnDq70 a) k := by
  obtain z := a
  simp only [fnDq70,fnq70,bindO_cond,bindO_assoc,bindO_none,bindO_pure,bindO_elim,bindO_unP,bindO_empty]
def argsq70 : Aq70 → List AV := fun a0 => [.str a0]
def decPAq70 (l : List AV) : Option {a : Aq70 // l = argsq70 a} := match l with
  | [.str a0] => some ⟨(a0),rfl⟩
  | _ => none
def decAq70 (l : List AV) : Option Aq70 := pk (decPAq70 l)
theorem decAq70_ok (l : List AV) (a : Aq70) (h : decAq70 l = some a) : l = argsq70 a := pk_ok (o := decPAq70 l) h
def rendq70 : Aq70 → Yq70 → AV := fun a0 => fun r_y => .str r_y
theorem rendq70_ok : ∀ (a : Aq70) (y : Yq70),(rendq70 a y).closed1 = true := by
  rintro z y <;> first | rfl | exact Empty.elim y
theorem fnq70_ok (a : Aq70) : fnE Tryz.tab envq70 noHint 0 70 122 Tryz.f122.ntmps Tryz.f122.results.toList annq70 bq70 (argsq70 a) [] (fun v _ => some (v,[])) = fnq70 a (fun y => some (rendq70 a y,[])) := by kernel_rfl
def vFq70 (a : Aq70) (K : AV → Ans) : Ans := bindO (fnDq70 a) fun y => K (rendq70 a y)
def Fq70 : List AV → (AV → Ans) → Ans := fun l K => bindO (decAq70 l) fun a => vFq70 a K
theorem Fq70_ok : PureOk Tryz.prog 122 Fq70 := pure_mkD (hint := noHint) (d := 0) (n := 70) mixed tabOk envq70Ok Tryz.func122 (bodySome (by kernel_rfl)) (by decide +kernel) annq70_ok decAq70_ok fnq70_ok fnq70_nat rendq70_ok
--@ loghead_Put
noncomputable def envq33 : Env := [(211,.pure Fq31),(121,.pure Fq16),(123,.pure Fq4),(122,.pure Fq70)]
theorem envq33Ok : EnvOk Tryz.prog envq33 := EnvOk.cons Fq31_ok (EnvOk.cons Fq16_ok (EnvOk.cons Fq4_ok (EnvOk.cons Fq70_ok (EnvOk.nil))))
noncomputable def bq33 : Code := Tryz.f172.body.getD .skip
noncomputable def annq33 : Ann := .none
theorem annq33_ok : AnnOk Tryz.prog 22 bq33 annq33 := (annOk_none _ _ _)
abbrev Aq33 := (Int) × (Int) × (Int)
abbrev Yq33 := (List UInt8) × (Int)
def fnq33 {β : Type} : Aq33 → (Yq33 → Option β) → Option β := fun (a0_0,a0_1,a0_2) exit => (bindO (fnDq31 (a0_0,a0_1,a0_2)) fun r => (bif !r then (exit ([],(3 : Int))) else (bindO (fnDq16 ([(76 : UInt8)],a0_0,(6 : Int))) fun r_2 => (bindO (fnDq16 (r_2,a0_1,(6 : Int))) fun r_3 => (bindO (fnDq16 (r_3,a0_2,(2 : Int))) fun r_4 => (bindO (fnDq4 (r_4)) fun r_5 => (bif Nat.ble (List.length r_4 + List.length r_5) (9223372036854775807 : Nat) then (bindO (fnDq70 (r_4 ++ r_5)) fun r_6 => (exit (r_6,(0 : Int)))) else none)))))))
def fnDq33 (a : Aq33) : Option Yq33 := fnq33 a some
theorem fnq33_nat (a : Aq33) (k : Yq33 → Ans) : fnq33 a k = bindO (fnDq33 a) k := by
  obtain ⟨a0_0,a0_1,a0_2⟩ := a
  simp only [fnDq33,fnq33,bindO_cond,bindO_assoc,bindO_none,bindO_pure,bindO_elim,bindO_unP,bindO_empty]
def argsq33 : Aq33 → List AV := fun (a0_0,a0_1,a0_2) => [.agg [.int .i64 a0_0,.int .i64 a0_1,.int .i64 a0_2]]
def decPAq33 (l : List AV) : Option {a : Aq33 // l = argsq33 a} := match l with
  | [.agg [.int .i64 a0_0,.int .i64 a0_1,.int .i64 a0_2]] => some ⟨(a0_0,a0_1,a0_2),rfl⟩
  | _ => none
def decAq33 (l : List AV) : Option Aq33 := pk (decPAq33 l)
theorem decAq33_ok (l : List AV) (a : Aq33) (h : decAq33 l = some a) : l = argsq33 a := pk_ok (o := decPAq33 l) h
def rendq33 : Aq33 → Yq33 → AV := fun (a0_0,a0_1,a0_2) => unP fun r_0_y r_1_y => .tup [.str r_0_y,.int .i64 r_1_y]
theorem rendq33_ok : ∀ (a : Aq33) (y : Yq33),(rendq33 a y).closed1 = true := by
  rintro ⟨a0_0,a0_1,a0_2⟩ y <;> first | rfl | exact Empty.elim y
theorem fnq33_ok (a : Aq33) : fnE Tryz.tab envq33 noHint 0 70 172 Tryz.f172.ntmps Tryz.f172.results.toList annq33 bq33 (argsq33 a) [] (fun v _ => some (v,[])) = fnq33 a (fun y => some (rendq33 a y,[])) := by kernel_rfl
def vFq33 (a : Aq33) (K : AV → Ans) : Ans := bindO (fnDq33 a) fun y => K (rendq33 a y)
def Fq33 : List AV → (AV → Ans) → Ans := fun l K => bindO (decAq33 l) fun a => vFq33 a K
theorem Fq33_ok : PureOk Tryz.prog 172 Fq33 := pure_mkD (hint := noHint) (d := 0) (n := 70) mixed tabOk envq33Ok Tryz.func172 (bodySome (by kernel_rfl)) (by decide +kernel) annq33_ok decAq33_ok fnq33_ok fnq33_nat rendq33_ok
--@ disk_Disk_settle
noncomputable def envq11 : Env := []
theorem envq11Ok : EnvOk Tryz.prog envq11 := EnvOk.nil
noncomputable def bq11 : Code := Tryz.f141.body.getD .skip
noncomputable def Lq11_n0 : Code := codeAt [0,1,0,0] bq11
noncomputable def annLq11_n0 : Ann := .at 4 [0,6,7,8] (.loop .none)
theorem annLq11_n0_ok : AnnOk Tryz.prog 29 (.loop Lq11_n0) annLq11_n0 := annOk_at (annOk_none _ _ _)
abbrev Iq11_n0 := (List (Int × List UInt8)) × (Int) × (List (Int × List UInt8)) × (Int) × (Int) × (Bool) × (List (Int × List UInt8)) × (List Int)
abbrev Yq11_n0 := (List (List UInt8))
abbrev Vq11_n0 := (Int) × (List (List UInt8))
def Sq11_n0 : Iq11_n0 → Vq11_n0 → St := fun (t6,t7,o0_2,o0_3,o0_5,o0_6,o2,o3) (t8,o1) => { env := [(0,.ptr 0 0),(6,.ro (.st (.pair (.int .i64) .str)) t6),(7,.int .i64 t7),(8,.int .i64 t8)],stk := [[(0,.ptr 0 0),(2,.map 2)]],H := [.cells [.own 1,.map 2,.ro (.st (.pair (.int .i64) .str)) o0_2,.int .i64 o0_3,.own 3,.int .i64 o0_5,.bool o0_6],.arr .str o1,.mp .i64 .str o2,.arr (.int .i64) o3],blk := 577536 }
def decPq11_n0 (s : St) : Option {x : Iq11_n0 × Vq11_n0 // s = Sq11_n0 x.1 x.2} := match s with
  | { env := [(0,.ptr 0 0),(6,.ro (.st (.pair (.int .i64) .str)) t6),(7,.int .i64 t7),(8,.int .i64 t8)],stk := [[(0,.ptr 0 0),(2,.map 2)]],H := [.cells [.own 1,.map 2,.ro (.st (.pair (.int .i64) .str)) o0_2,.int .i64 o0_3,.own 3,.int .i64 o0_5,.bool o0_6],.arr .str o1,.mp .i64 .str o2,.arr (.int .i64) o3],blk := 577536 } => some ⟨((t6,t7,o0_2,o0_3,o0_5,o0_6,o2,o3),(t8,o1)),rfl⟩
  | _ => none
def decq11_n0 (s : St) : Option (Iq11_n0 × Vq11_n0) := pk (decPq11_n0 s)
theorem decq11_n0_ok (s : St) (x : Iq11_n0 × Vq11_n0) (h : decq11_n0 s = some x) : s = Sq11_n0 x.1 x.2 := pk_ok (o := decPq11_n0 s) h
def outq11_n0 : Iq11_n0 → (Ex → St → Ans) → Yq11_n0 → Ans := fun (t6,t7,o0_2,o0_3,o0_5,o0_6,o2,o3) K => fun o1_y => K (Ex.exit 0) { env := [(0,.ptr 0 0)],stk := [[(0,.ptr 0 0),(2,.map 2)]],H := [.cells [.own 1,.map 2,.ro (.st (.pair (.int .i64) .str)) o0_2,.int .i64 o0_3,.own 3,.int .i64 o0_5,.bool o0_6],.arr .str o1_y,.mp .i64 .str o2,.arr (.int .i64) o3],blk := 577536 }
def stepq11_n0 {β : Type} : Iq11_n0 → Vq11_n0 → (Vq11_n0 → Option β) → (Yq11_n0 → Option β) → Option β := fun (t6,t7,o0_2,o0_3,o0_5,o0_6,o2,o3) (t8,o1) next exit => (bif decide (t8 < t7) then (bindO (nth t6 t8) fun x => (bif inR x.fst (List.length o1) then (bindO (o1[Int.toNat x.fst]?) fun x_2 => (next (IntKind.wrap .i64 (t8 + (1 : Int)),List.set o1 (Int.toNat x.fst) x.snd))) else none)) else (exit (o1)))
def stepDq11_n0 (i : Iq11_n0) (v : Vq11_n0) : Option (Vq11_n0 ⊕ Yq11_n0) := stepq11_n0 i v (fun v => some (.inl v)) (fun y => some (.inr y))
theorem stepq11_n0_nat (i : Iq11_n0) (v : Vq11_n0) (next : Vq11_n0 → Ans) (exit : Yq11_n0 → Ans) : stepq11_n0 i v next exit = bindO (stepDq11_n0 i v) (Sum.elim next exit) := by
  obtain ⟨t6,t7,o0_2,o0_3,o0_5,o0_6,o2,o3⟩ := i
  obtain ⟨t8,o1⟩ := v
  simp only [stepDq11_n0,stepq11_n0,bindO_cond,bindO_assoc,bindO_none,bindO_pure,bindO_elim,bindO_unP,bindO_empty,Sum.elim_inl,Sum.elim_inr]
theorem stepq11_n0_ok (n : Nat) (i : Iq11_n0) (v : Vq11_n0) (K : Ex → St → Ans) : codeI Tryz.tab envq11 noHint (codeD Tryz.tab envq11 noHint 0 64) (n+1) 29 annLq11_n0 (.loop Lq11_n0) (weakP 4 (exk [0] [] [(0,[0])]) K) (Sq11_n0 i v) = stepq11_n0 i v (fun v' => codeI Tryz.tab envq11 noHint (codeD Tryz.tab envq11 noHint 0 64) n 29 annLq11_n0 (.loop Lq11_n0) (weakP 4 (exk [0] [] [(0,[0])]) K) (Sq11_n0 i v')) (fun y => outq11_n0 i K y) := by kernel_rfl
theorem GNq11_n0_ok : CSum Tryz.prog 29 (.loop Lq11_n0) (sumL decq11_n0 stepDq11_n0 outq11_n0) := csum_loop mixed tabOk envq11Ok 4 (exk [0] [] [(0,[0])]) annLq11_n0_ok decq11_n0_ok stepq11_n0_ok stepq11_n0_nat
noncomputable def Gq11_n0 : (Ex → St → Ans) → St → Ans := (sumL decq11_n0 stepDq11_n0 outq11_n0)
theorem Gq11_n0_ok : CSum Tryz.prog 29 (.loop Lq11_n0) Gq11_n0 := GNq11_n0_ok
noncomputable def annq11 : Ann := (.seq (.seq .none (.block (.cut 4 [0,6,7,8] Gq11_n0))) .none)
theorem annq11_ok : AnnOk Tryz.prog 29 bq11 annq11 := ⟨⟨(annOk_none _ _ _),Gq11_n0_ok⟩,(annOk_none _ _ _)⟩
abbrev Aq11 := (List (Int × List UInt8)) × (List (Int × List UInt8)) × (Int) × (Int) × (Bool) × (List (List UInt8)) × (List (Int × List UInt8)) × (List Int)
abbrev Yq11 := (List (List UInt8))
def fnq11 {β : Type} : Aq11 → (Yq11 → Option β) → Option β := fun (a1,o0_2,o0_3,o0_5,o0_6,o1,o2,o3) exit => (bindO (loopD (stepDq11_n0 (a1,(↑(List.length a1) : Int),o0_2,o0_3,o0_5,o0_6,o2,o3)) FUEL ((0 : Int),o1)) fun o1_2 => (exit (o1_2)))
def fnDq11 (a : Aq11) : Option Yq11 := fnq11 a some
theorem fnq11_nat (a : Aq11) (k : Yq11 → Ans) : fnq11 a k = bindO (fnDq11 a) k := by
  obtain ⟨a1,o0_2,o0_3,o0_5,o0_6,o1,o2,o3⟩ := a
  simp only [fnDq11,fnq11,bindO_cond,bindO_assoc,bindO_none,bindO_pure,bindO_elim,bindO_unP,bindO_empty]
def argsq11 : Aq11 → List AV × List AE.Obj := fun (a1,o0_2,o0_3,o0_5,o0_6,o1,o2,o3) => ([.ptr 0 0,.ro (.st (.pair (.int .i64) .str)) a1],[.cells [.own 1,.map 2,.ro (.st (.pair (.int .i64) .str)) o0_2,.int .i64 o0_3,.own 3,.int .i64 o0_5,.bool o0_6],.arr .str o1,.mp .i64 .str o2,.arr (.int .i64) o3])
def decPAq11 (l : List AV) (H : List AE.Obj) : Option {a : Aq11 // (l,H) = argsq11 a} := match l,H with
  | [.ptr 0 0,.ro (.st (.pair (.int .i64) .str)) a1],[.cells [.own 1,.map 2,.ro (.st (.pair (.int .i64) .str)) o0_2,.int .i64 o0_3,.own 3,.int .i64 o0_5,.bool o0_6],.arr .str o1,.mp .i64 .str o2,.arr (.int .i64) o3] => some ⟨(a1,o0_2,o0_3,o0_5,o0_6,o1,o2,o3),rfl⟩
  | _,_ => none
def decAq11 (l : List AV) (H : List AE.Obj) : Option Aq11 := pk (decPAq11 l H)
theorem decAq11_ok (l : List AV) (H : List AE.Obj) (a : Aq11) (h : decAq11 l H = some a) : (l,H) = argsq11 a := pk_ok (o := decPAq11 l H) h
def outq11 : Aq11 → (AV → List AE.Obj → Ans) → Yq11 → Ans := fun (a1,o0_2,o0_3,o0_5,o0_6,o1,o2,o3) K => fun o1_y => K (.tup []) [.cells [.own 1,.map 2,.own 4,.int .i64 o0_3,.own 3,.int .i64 o0_5,.bool o0_6],.arr .str o1_y,.mp .i64 .str ([]),.arr (.int .i64) o3,.arr (.st (.pair (.int .i64) .str)) ([])]
theorem fnq11_ok (a : Aq11) (K : AV → List AE.Obj → Ans) : fnE Tryz.tab envq11 noHint 0 70 141 Tryz.f141.ntmps Tryz.f141.results.toList annq11 bq11 (argsq11 a).1 (argsq11 a).2 K = fnq11 a (outq11 a K) := by kernel_rfl
def vFq11 (a : Aq11) (K : AV → List AE.Obj → Ans) : Ans := bindO (fnDq11 a) fun y => outq11 a K y
def Fq11 : List AV → List AE.Obj → (AV → List AE.Obj → Ans) → Ans := fun l H K => bindO (decAq11 l H) fun a => vFq11 a K
theorem Fq11_ok : FuncOk Tryz.prog 141 Fq11 := func_mkD (hint := noHint) (d := 0) (n := 70) mixed tabOk envq11Ok Tryz.func141 (bodySome (by kernel_rfl)) (by decide +kernel) annq11_ok decAq11_ok fnq11_ok fnq11_nat
--@ disk_Disk_Flush
noncomputable def envq6 : Env := [(181,.func Fq10),(141,.func Fq11)]
theorem envq6Ok : EnvOk Tryz.prog envq6 := EnvOk.cons Fq10_ok (EnvOk.cons Fq11_ok (EnvOk.nil))
noncomputable def bq6 : Code := Tryz.f115.body.getD .skip
noncomputable def Lq6_n0 : Code := codeAt [1,1,0,1] bq6
noncomputable def annLq6_n0 : Ann := .none
theorem annLq6_n0_ok : AnnOk Tryz.prog 19 Lq6_n0 annLq6_n0 := (annOk_none _ _ _)
abbrev Iq6_n0 := (Int) × (Bool) × (Int) × (Int) × (Bool) × (List (List UInt8)) × (List (Int × List UInt8)) × (List (Int × List UInt8)) × (List Int)
abbrev Yq6_n0 := ((List (List UInt8))) ⊕ (Unit)
def Sq6_n0 : Iq6_n0 → St := fun (t3,t11,o0_3,o0_5,o0_6,o1,o2,o3,o4) => { env := [(0,.ptr 0 0),(3,.int .i64 t3),(11,.bool t11)],stk := [[(0,.ptr 0 0),(2,.map 2)]],H := [.cells [.own 1,.map 2,.own 3,.int .i64 o0_3,.own 4,.int .i64 o0_5,.bool o0_6],.arr .str o1,.mp .i64 .str o2,.arr (.st (.pair (.int .i64) .str)) o3,.arr (.int .i64) o4],blk := 471040 }
def decPq6_n0 (s : St) : Option {x : Iq6_n0 // s = Sq6_n0 x} := match s with
  | { env := [(0,.ptr 0 0),(3,.int .i64 t3),(11,.bool t11)],stk := [[(0,.ptr 0 0),(2,.map 2)]],H := [.cells [.own 1,.map 2,.own 3,.int .i64 o0_3,.own 4,.int .i64 o0_5,.bool o0_6],.arr .str o1,.mp .i64 .str o2,.arr (.st (.pair (.int .i64) .str)) o3,.arr (.int .i64) o4],blk := 471040 } => some ⟨(t3,t11,o0_3,o0_5,o0_6,o1,o2,o3,o4),rfl⟩
  | _ => none
def decq6_n0 (s : St) : Option Iq6_n0 := pk (decPq6_n0 s)
theorem decq6_n0_ok (s : St) (x : Iq6_n0) (h : decq6_n0 s = some x) : s = Sq6_n0 x := pk_ok (o := decPq6_n0 s) h
def outq6_n0 : Iq6_n0 → (Ex → St → Ans) → Yq6_n0 → Ans := fun (t3,t11,o0_3,o0_5,o0_6,o1,o2,o3,o4) K => (Sum.elim (fun o1_y => K (Ex.norm) { env := [(3,.int .i64 t3)],stk := [[(0,.ptr 0 0),(2,.map 2)]],H := [.cells [.own 1,.map 2,.own 5,.int .i64 o0_3,.own 4,.int .i64 o0_5,.bool o0_6],.arr .str o1_y,.mp .i64 .str ([]),.dead,.arr (.int .i64) o4,.arr (.st (.pair (.int .i64) .str)) ([])],blk := 471040 }) (fun _ => K (Ex.norm) { env := [(3,.int .i64 t3)],stk := [[(0,.ptr 0 0),(2,.map 2)]],H := [.cells [.own 1,.map 2,.own 3,.int .i64 o0_3,.own 4,.int .i64 o0_5,.bool o0_6],.arr .str o1,.mp .i64 .str o2,.arr (.st (.pair (.int .i64) .str)) o3,.arr (.int .i64) o4],blk := 471040 }))
def nodeq6_n0 {β : Type} : Iq6_n0 → (Yq6_n0 → Option β) → Option β := fun (t3,t11,o0_3,o0_5,o0_6,o1,o2,o3,o4) exit => (bif t11 then (bindO (fnDq11 (o3,o3,o0_3,o0_5,o0_6,o1,o2,o4)) fun o1_2 => (exit (Sum.inl (o1_2)))) else (exit (Sum.inr ())))
def nodeDq6_n0 (i : Iq6_n0) : Option Yq6_n0 := nodeq6_n0 i some
theorem nodeq6_n0_nat (i : Iq6_n0) (k : Yq6_n0 → Ans) : nodeq6_n0 i k = bindO (nodeDq6_n0 i) k := by
  obtain ⟨t3,t11,o0_3,o0_5,o0_6,o1,o2,o3,o4⟩ := i
  simp only [nodeDq6_n0,nodeq6_n0,bindO_cond,bindO_assoc,bindO_none,bindO_pure,bindO_elim,bindO_unP,bindO_empty]
theorem nodeq6_n0_ok (i : Iq6_n0) (K : Ex → St → Ans) : codeI Tryz.tab envq6 noHint (codeD Tryz.tab envq6 noHint 0 64) 70 19 annLq6_n0 Lq6_n0 (weakP 5 (exk [3] [2] []) K) (Sq6_n0 i) = nodeq6_n0 i (outq6_n0 i K) := by kernel_rfl
theorem GNq6_n0_ok : CSum Tryz.prog 19 Lq6_n0 (sumN decq6_n0 nodeDq6_n0 outq6_n0) := csum_node mixed tabOk envq6Ok 5 (exk [3] [2] []) annLq6_n0_ok decq6_n0_ok nodeq6_n0_ok nodeq6_n0_nat
noncomputable def Gq6_n0 : (Ex → St → Ans) → St → Ans := (sumN decq6_n0 nodeDq6_n0 outq6_n0)
theorem Gq6_n0_ok : CSum Tryz.prog 19 Lq6_n0 Gq6_n0 := GNq6_n0_ok
noncomputable def annq6 : Ann := (.seq .none (.seq .none (.seq (.seq .none (.cut 5 [0,3,11] Gq6_n0)) .none)))
theorem annq6_ok : AnnOk Tryz.prog 19 bq6 annq6 := ⟨(annOk_none _ _ _),⟨(annOk_none _ _ _),⟨⟨(annOk_none _ _ _),Gq6_n0_ok⟩,(annOk_none _ _ _)⟩⟩⟩
abbrev Aq6 := (Int) × (Int) × (Bool) × (List (List UInt8)) × (List (Int × List UInt8)) × (List (Int × List UInt8)) × (List Int)
abbrev Yq6 := ((Int) × (Int) × (Bool) × (List (List UInt8))) ⊕ ((Int) × (Int) × (Bool))
def fnq6 {β : Type} : Aq6 → (Yq6 → Option β) → Option β := fun (o0_3,o0_5,o0_6,o1,o2,o3,o4) exit => (bindO (fnDq10 (o0_3,o0_5,o0_6,o1,o2,o3,o4)) (unP fun r_0 => unP fun r_1 => unP fun o0_3_2 o0_6_2 => (bindO (nodeDq6_n0 (r_0,r_0 == (0 : Int),o0_3_2,o0_5,o0_6_2,o1,o2,o3,o4)) (Sum.elim (fun o1_2 => (exit (Sum.inl (r_0,o0_3_2,o0_6_2,o1_2)))) (fun _ => (exit (Sum.inr (r_0,o0_3_2,o0_6_2))))))))
def fnDq6 (a : Aq6) : Option Yq6 := fnq6 a some
theorem fnq6_nat (a : Aq6) (k : Yq6 → Ans) : fnq6 a k = bindO (fnDq6 a) k := by
  obtain ⟨o0_3,o0_5,o0_6,o1,o2,o3,o4⟩ := a
  simp only [fnDq6,fnq6,bindO_cond,bindO_assoc,bindO_none,bindO_pure,bindO_elim,bindO_unP,bindO_empty]
def argsq6 : Aq6 → List AV × List AE.Obj := fun (o0_3,o0_5,o0_6,o1,o2,o3,o4) => ([.ptr 0 0],[.cells [.own 1,.map 2,.own 3,.int .i64 o0_3,.own 4,.int .i64 o0_5,.bool o0_6],.arr .str o1,.mp .i64 .str o2,.arr (.st (.pair (.int .i64) .str)) o3,.arr (.int .i64) o4])
def decPAq6 (l : List AV) (H : List AE.Obj) : Option {a : Aq6 // (l,H) = argsq6 a} := match l,H with
  | [.ptr 0 0],[.cells [.own 1,.map 2,.own 3,.int .i64 o0_3,.own 4,.int .i64 o0_5,.bool o0_6],.arr .str o1,.mp .i64 .str o2,.arr (.st (.pair (.int .i64) .str)) o3,.arr (.int .i64) o4] => some ⟨(o0_3,o0_5,o0_6,o1,o2,o3,o4),rfl⟩
  | _,_ => none
def decAq6 (l : List AV) (H : List AE.Obj) : Option Aq6 := pk (decPAq6 l H)
theorem decAq6_ok (l : List AV) (H : List AE.Obj) (a : Aq6) (h : decAq6 l H = some a) : (l,H) = argsq6 a := pk_ok (o := decPAq6 l H) h
def outq6 : Aq6 → (AV → List AE.Obj → Ans) → Yq6 → Ans := fun (o0_3,o0_5,o0_6,o1,o2,o3,o4) K => (Sum.elim (unP fun r_y => unP fun o0_3_y => unP fun o0_6_y o1_y => K (.int .i64 r_y) [.cells [.own 1,.map 2,.own 5,.int .i64 o0_3_y,.own 4,.int .i64 o0_5,.bool o0_6_y],.arr .str o1_y,.mp .i64 .str ([]),.dead,.arr (.int .i64) o4,.arr (.st (.pair (.int .i64) .str)) ([])]) (unP fun r_y => unP fun o0_3_y o0_6_y => K (.int .i64 r_y) [.cells [.own 1,.map 2,.own 3,.int .i64 o0_3_y,.own 4,.int .i64 o0_5,.bool o0_6_y],.arr .str o1,.mp .i64 .str o2,.arr (.st (.pair (.int .i64) .str)) o3,.arr (.int .i64) o4]))
theorem fnq6_ok (a : Aq6) (K : AV → List AE.Obj → Ans) : fnE Tryz.tab envq6 noHint 0 70 115 Tryz.f115.ntmps Tryz.f115.results.toList annq6 bq6 (argsq6 a).1 (argsq6 a).2 K = fnq6 a (outq6 a K) := by kernel_rfl
def vFq6 (a : Aq6) (K : AV → List AE.Obj → Ans) : Ans := bindO (fnDq6 a) fun y => outq6 a K y
def Fq6 : List AV → List AE.Obj → (AV → List AE.Obj → Ans) → Ans := fun l H K => bindO (decAq6 l H) fun a => vFq6 a K
theorem Fq6_ok : FuncOk Tryz.prog 115 Fq6 := func_mkD (hint := noHint) (d := 0) (n := 70) mixed tabOk envq6Ok Tryz.func115 (bodySome (by kernel_rfl)) (by decide +kernel) annq6_ok decAq6_ok fnq6_ok fnq6_nat
--@ disk_Disk_Read
noncomputable def envq7 : Env := [(181,.func Fq10),(182,.func Fq12)]
theorem envq7Ok : EnvOk Tryz.prog envq7 := EnvOk.cons Fq10_ok (EnvOk.cons Fq12_ok (EnvOk.nil))
noncomputable def bq7 : Code := Tryz.f114.body.getD .skip
noncomputable def annq7 : Ann := .none
theorem annq7_ok : AnnOk Tryz.prog 42 bq7 annq7 := (annOk_none _ _ _)
abbrev Aq7 := (Int) × (Int) × (Int) × (Bool) × (List (List UInt8)) × (List (Int × List UInt8)) × (List (Int × List UInt8)) × (List Int)
abbrev Yq7 := (List UInt8) × (Int) × (Int) × (Bool)
def fnq7 {β : Type} : Aq7 → (Yq7 → Option β) → Option β := fun (a1,o0_3,o0_5,o0_6,o1,o2,o3,o4) exit => (bindO (fnDq10 (o0_3,o0_5,o0_6,o1,o2,o3,o4)) (unP fun r_0 => unP fun r_1 => unP fun o0_3_2 o0_6_2 => (bif r_0 != (0 : Int) then (exit ([],r_0,o0_3_2,o0_6_2)) else (bindO (fnDq12 (a1,o0_3_2,o0_5,o0_6_2,o1,o2,o3,o4)) fun r => (bif !r then (exit ([],(3 : Int),o0_3_2,o0_6_2)) else (bif mhas a1 o2 then (exit (mget a1 [] o2,(0 : Int),o0_3_2,o0_6_2)) else (bif inR a1 (List.length o1) then (bindO (o1[Int.toNat a1]?) fun x => (exit (x,(0 : Int),o0_3_2,o0_6_2))) else none)))))))
def fnDq7 (a : Aq7) : Option Yq7 := fnq7 a some
theorem fnq7_nat (a : Aq7) (k : Yq7 → Ans) : fnq7 a k = bindO (fnDq7 a) k := by
  obtain ⟨a1,o0_3,o0_5,o0_6,o1,o2,o3,o4⟩ := a
  simp only [fnDq7,fnq7,bindO_cond,bindO_assoc,bindO_none,bindO_pure,bindO_elim,bindO_unP,bindO_empty]
def argsq7 : Aq7 → List AV × List AE.Obj := fun (a1,o0_3,o0_5,o0_6,o1,o2,o3,o4) => ([.ptr 0 0,.int .i64 a1],[.cells [.own 1,.map 2,.own 3,.int .i64 o0_3,.own 4,.int .i64 o0_5,.bool o0_6],.arr .str o1,.mp .i64 .str o2,.arr (.st (.pair (.int .i64) .str)) o3,.arr (.int .i64) o4])
def decPAq7 (l : List AV) (H : List AE.Obj) : Option {a : Aq7 // (l,H) = argsq7 a} := match l,H with
  | [.ptr 0 0,.int .i64 a1],[.cells [.own 1,.map 2,.own 3,.int .i64 o0_3,.own 4,.int .i64 o0_5,.bool o0_6],.arr .str o1,.mp .i64 .str o2,.arr (.st (.pair (.int .i64) .str)) o3,.arr (.int .i64) o4] => some ⟨(a1,o0_3,o0_5,o0_6,o1,o2,o3,o4),rfl⟩
  | _,_ => none
def decAq7 (l : List AV) (H : List AE.Obj) : Option Aq7 := pk (decPAq7 l H)
theorem decAq7_ok (l : List AV) (H : List AE.Obj) (a : Aq7) (h : decAq7 l H = some a) : (l,H) = argsq7 a := pk_ok (o := decPAq7 l H) h
def outq7 : Aq7 → (AV → List AE.Obj → Ans) → Yq7 → Ans := fun (a1,o0_3,o0_5,o0_6,o1,o2,o3,o4) K => unP fun r_0_y => unP fun r_1_y => unP fun o0_3_y o0_6_y => K (.tup [.str r_0_y,.int .i64 r_1_y]) [.cells [.own 1,.map 2,.own 3,.int .i64 o0_3_y,.own 4,.int .i64 o0_5,.bool o0_6_y],.arr .str o1,.mp .i64 .str o2,.arr (.st (.pair (.int .i64) .str)) o3,.arr (.int .i64) o4]
theorem fnq7_ok (a : Aq7) (K : AV → List AE.Obj → Ans) : fnE Tryz.tab envq7 noHint 0 70 114 Tryz.f114.ntmps Tryz.f114.results.toList annq7 bq7 (argsq7 a).1 (argsq7 a).2 K = fnq7 a (outq7 a K) := by kernel_rfl
def vFq7 (a : Aq7) (K : AV → List AE.Obj → Ans) : Ans := bindO (fnDq7 a) fun y => outq7 a K y
def Fq7 : List AV → List AE.Obj → (AV → List AE.Obj → Ans) → Ans := fun l H K => bindO (decAq7 l H) fun a => vFq7 a K
theorem Fq7_ok : FuncOk Tryz.prog 114 Fq7 := func_mkD (hint := noHint) (d := 0) (n := 70) mixed tabOk envq7Ok Tryz.func114 (bodySome (by kernel_rfl)) (by decide +kernel) annq7_ok decAq7_ok fnq7_ok fnq7_nat
--@ strings_Builder_WriteString
noncomputable def envq93 : Env := [(183,.func FBuilder_copyCheck)]
theorem envq93Ok : EnvOk Tryz.prog envq93 := EnvOk.cons FBuilder_copyCheck_ok (EnvOk.nil)
noncomputable def bq93 : Code := Tryz.f118.body.getD .skip
noncomputable def annq93 : Ann := .none
theorem annq93_ok : AnnOk Tryz.prog 19 bq93 annq93 := (annOk_none _ _ _)
abbrev Aq93 := (List UInt8) × (List Int)
abbrev Yq93 := (Int) × (List Int)
def fnq93 {β : Type} : Aq93 → (Yq93 → Option β) → Option β := fun (a1,o1) exit => (bindO (fnDBuilder_copyCheck (o1)) fun o1_2 => (bif Nat.ble ((List.length o1_2 + List.length (intsOf a1)) * (1 : Nat)) (140737488355328 : Nat) then (exit ((↑(List.length a1) : Int),o1_2 ++ intsOf a1)) else none))
def fnDq93 (a : Aq93) : Option Yq93 := fnq93 a some
theorem fnq93_nat (a : Aq93) (k : Yq93 → Ans) : fnq93 a k = bindO (fnDq93 a) k := by
  obtain ⟨a1,o1⟩ := a
  simp only [fnDq93,fnq93,bindO_cond,bindO_assoc,bindO_none,bindO_pure,bindO_elim,bindO_unP,bindO_empty]
def argsq93 : Aq93 → List AV × List AE.Obj := fun (a1,o1) => ([.ptr 0 0,.str a1],[.bcells [.own 1],.arr (.int .u8) o1])
def decPAq93 (l : List AV) (H : List AE.Obj) : Option {a : Aq93 // (l,H) = argsq93 a} := match l,H with
  | [.ptr 0 0,.str a1],[.bcells [.own 1],.arr (.int .u8) o1] => some ⟨(a1,o1),rfl⟩
  | _,_ => none
def decAq93 (l : List AV) (H : List AE.Obj) : Option Aq93 := pk (decPAq93 l H)
theorem decAq93_ok (l : List AV) (H : List AE.Obj) (a : Aq93) (h : decAq93 l H = some a) : (l,H) = argsq93 a := pk_ok (o := decPAq93 l H) h
def outq93 : Aq93 → (AV → List AE.Obj → Ans) → Yq93 → Ans := fun (a1,o1) K => unP fun r_0_y o1_y => K (.tup [.int .i64 r_0_y,.nili]) [.bcells [.own 1],.arr (.int .u8) o1_y]
theorem fnq93_ok (a : Aq93) (K : AV → List AE.Obj → Ans) : fnE Tryz.tab envq93 noHint 0 70 118 Tryz.f118.ntmps Tryz.f118.results.toList annq93 bq93 (argsq93 a).1 (argsq93 a).2 K = fnq93 a (outq93 a K) := by kernel_rfl
def vFq93 (a : Aq93) (K : AV → List AE.Obj → Ans) : Ans := bindO (fnDq93 a) fun y => outq93 a K y
def Fq93 : List AV → List AE.Obj → (AV → List AE.Obj → Ans) → Ans := fun l H K => bindO (decAq93 l H) fun a => vFq93 a K
theorem Fq93_ok : FuncOk Tryz.prog 118 Fq93 := func_mkD (hint := noHint) (d := 0) (n := 70) mixed tabOk envq93Ok Tryz.func118 (bodySome (by kernel_rfl)) (by decide +kernel) annq93_ok decAq93_ok fnq93_ok fnq93_nat
--@ region_Region_Read
noncomputable def envq73 : Env := [(119,.func FBuilder_String),(210,.pure Fq76),(114,.func Fq7),(118,.func Fq93)]
theorem envq73Ok : EnvOk Tryz.prog envq73 := EnvOk.cons FBuilder_String_ok (EnvOk.cons Fq76_ok (EnvOk.cons Fq7_ok (EnvOk.cons Fq93_ok (EnvOk.nil))))
noncomputable def bq73 : Code := Tryz.f177.body.getD .skip
noncomputable def Lq73_n0 : Code := codeAt [1,1,1,0,1,0,0] bq73
noncomputable def annLq73_n0 : Ann := .at 6 [0,1,8,24,25] (.loop .none)
theorem annLq73_n0_ok : AnnOk Tryz.prog 51 (.loop Lq73_n0) annLq73_n0 := annOk_at (annOk_none _ _ _)
abbrev Iq73_n0 := (Int) × (Int) × (Int) × (Int) × (Int) × (List (List UInt8)) × (List (Int × List UInt8)) × (List (Int × List UInt8)) × (List Int)
abbrev Yq73_n0 := ((Int) × (Int) × (Bool)) ⊕ ((Int) × (Bool) × (List Int))
abbrev Vq73_n0 := (Int) × (Int) × (Bool) × (List Int)
def Sq73_n0 : Iq73_n0 → Vq73_n0 → St := fun (t1,t24,o0_1,o0_2,o1_5,o2,o3,o4,o5) (t25,o1_3,o1_6,o7) => { env := [(0,.ptr 0 0),(1,.int .i64 t1),(8,.ptr 6 0),(24,.int .i64 t24),(25,.int .i64 t25)],stk := [[(0,.ptr 0 0),(1,.ptr 1 0),(3,.map 3)]],H := [.cells [.ptr 1 0,.int .i64 o0_1,.int .i64 o0_2],.cells [.own 2,.map 3,.own 4,.int .i64 o1_3,.own 5,.int .i64 o1_5,.bool o1_6],.arr .str o2,.mp .i64 .str o3,.arr (.st (.pair (.int .i64) .str)) o4,.arr (.int .i64) o5,.bcells [.own 7],.arr (.int .u8) o7],blk := 724993 }
def decPq73_n0 (s : St) : Option {x : Iq73_n0 × Vq73_n0 // s = Sq73_n0 x.1 x.2} := match s with
  | { env := [(0,.ptr 0 0),(1,.int .i64 t1),(8,.ptr 6 0),(24,.int .i64 t24),(25,.int .i64 t25)],stk := [[(0,.ptr 0 0),(1,.ptr 1 0),(3,.map 3)]],H := [.cells [.ptr 1 0,.int .i64 o0_1,.int .i64 o0_2],.cells [.own 2,.map 3,.own 4,.int .i64 o1_3,.own 5,.int .i64 o1_5,.bool o1_6],.arr .str o2,.mp .i64 .str o3,.arr (.st (.pair (.int .i64) .str)) o4,.arr (.int .i64) o5,.bcells [.own 7],.arr (.int .u8) o7],blk := 724993 } => some ⟨((t1,t24,o0_1,o0_2,o1_5,o2,o3,o4,o5),(t25,o1_3,o1_6,o7)),rfl⟩
  | _ => none
def decq73_n0 (s : St) : Option (Iq73_n0 × Vq73_n0) := pk (decPq73_n0 s)
theorem decq73_n0_ok (s : St) (x : Iq73_n0 × Vq73_n0) (h : decq73_n0 s = some x) : s = Sq73_n0 x.1 x.2 := pk_ok (o := decPq73_n0 s) h
def outq73_n0 : Iq73_n0 → (Ex → St → Ans) → Yq73_n0 → Ans := fun (t1,t24,o0_1,o0_2,o1_5,o2,o3,o4,o5) K => (Sum.elim (unP fun t7_y => unP fun o1_3_y o1_6_y => K (Ex.ret) { env := [(6,.str ([])),(7,.int .i64 t7_y)],stk := [[(0,.ptr 0 0),(1,.ptr 1 0),(3,.map 3)]],H := [.cells [.ptr 1 0,.int .i64 o0_1,.int .i64 o0_2],.cells [.own 2,.map 3,.own 4,.int .i64 o1_3_y,.own 5,.int .i64 o1_5,.bool o1_6_y],.arr .str o2,.mp .i64 .str o3,.arr (.st (.pair (.int .i64) .str)) o4,.arr (.int .i64) o5],blk := 724994 }) (unP fun o1_3_y => unP fun o1_6_y o7_y => K (Ex.exit 1) { env := [(8,.ptr 6 0)],stk := [[(0,.ptr 0 0),(1,.ptr 1 0),(3,.map 3)]],H := [.cells [.ptr 1 0,.int .i64 o0_1,.int .i64 o0_2],.cells [.own 2,.map 3,.own 4,.int .i64 o1_3_y,.own 5,.int .i64 o1_5,.bool o1_6_y],.arr .str o2,.mp .i64 .str o3,.arr (.st (.pair (.int .i64) .str)) o4,.arr (.int .i64) o5,.bcells [.own 7],.arr (.int .u8) o7_y],blk := 724993 }))
def stepq73_n0 {β : Type} : Iq73_n0 → Vq73_n0 → (Vq73_n0 → Option β) → (Yq73_n0 → Option β) → Option β := fun (t1,t24,o0_1,o0_2,o1_5,o2,o3,o4,o5) (t25,o1_3,o1_6,o7) next exit => (bif decide (t25 < t24) then (bindO (fnDq7 (IntKind.wrap .i64 (IntKind.wrap .i64 (o0_1 + t1) + t25),o1_3,o1_5,o1_6,o2,o3,o4,o5)) (unP fun r_0 => unP fun r_1 => unP fun o0_3 o0_6 => (bif r_1 != (0 : Int) then (exit (Sum.inl (r_1,o0_3,o0_6))) else (bindO (fnDq93 (r_0,o7)) (unP fun r_0_2 o1 => (next (IntKind.wrap .i64 (t25 + (1 : Int)),o0_3,o0_6,o1))))))) else (exit (Sum.inr (o1_3,o1_6,o7))))
def stepDq73_n0 (i : Iq73_n0) (v : Vq73_n0) : Option (Vq73_n0 ⊕ Yq73_n0) := stepq73_n0 i v (fun v => some (.inl v)) (fun y => some (.inr y))
theorem stepq73_n0_nat (i : Iq73_n0) (v : Vq73_n0) (next : Vq73_n0 → Ans) (exit : Yq73_n0 → Ans) : stepq73_n0 i v next exit = bindO (stepDq73_n0 i v) (Sum.elim next exit) := by
  obtain ⟨t1,t24,o0_1,o0_2,o1_5,o2,o3,o4,o5⟩ := i
  obtain ⟨t25,o1_3,o1_6,o7⟩ := v
  simp only [stepDq73_n0,stepq73_n0,bindO_cond,bindO_assoc,bindO_none,bindO_pure,bindO_elim,bindO_unP,bindO_empty,Sum.elim_inl,Sum.elim_inr]
theorem stepq73_n0_ok (n : Nat) (i : Iq73_n0) (v : Vq73_n0) (K : Ex → St → Ans) : codeI Tryz.tab envq73 noHint (codeD Tryz.tab envq73 noHint 0 64) (n+1) 51 annLq73_n0 (.loop Lq73_n0) (weakP 6 (exk [8] [6,7] [(1,[8])]) K) (Sq73_n0 i v) = stepq73_n0 i v (fun v' => codeI Tryz.tab envq73 noHint (codeD Tryz.tab envq73 noHint 0 64) n 51 annLq73_n0 (.loop Lq73_n0) (weakP 6 (exk [8] [6,7] [(1,[8])]) K) (Sq73_n0 i v')) (fun y => outq73_n0 i K y) := by kernel_rfl
theorem GNq73_n0_ok : CSum Tryz.prog 51 (.loop Lq73_n0) (sumL decq73_n0 stepDq73_n0 outq73_n0) := csum_loop mixed tabOk envq73Ok 6 (exk [8] [6,7] [(1,[8])]) annLq73_n0_ok decq73_n0_ok stepq73_n0_ok stepq73_n0_nat
noncomputable def Gq73_n0 : (Ex → St → Ans) → St → Ans := (sumL decq73_n0 stepDq73_n0 outq73_n0)
theorem Gq73_n0_ok : CSum Tryz.prog 51 (.loop Lq73_n0) Gq73_n0 := GNq73_n0_ok
noncomputable def annq73 : Ann := (.seq .none (.seq .none (.seq .none (.seq (.seq .none (.block (.cut 6 [0,1,8,24,25] Gq73_n0))) .none))))
theorem annq73_ok : AnnOk Tryz.prog 51 bq73 annq73 := ⟨(annOk_none _ _ _),⟨(annOk_none _ _ _),⟨(annOk_none _ _ _),⟨⟨(annOk_none _ _ _),Gq73_n0_ok⟩,(annOk_none _ _ _)⟩⟩⟩⟩
abbrev Aq73 := (Int) × (Int) × (Int) × (Int) × (Int) × (Int) × (Bool) × (List (List UInt8)) × (List (Int × List UInt8)) × (List (Int × List UInt8)) × (List Int)
abbrev Yq73 := (List UInt8) × (Int) × (Int) × (Bool)
def fnq73 {β : Type} : Aq73 → (Yq73 → Option β) → Option β := fun (a1,a2,o0_1,o0_2,o1_3,o1_5,o1_6,o2,o3,o4,o5) exit => (bindO (fnDq76 (a1,a2,o0_2)) fun r => (bif !r then (exit ([],(3 : Int),o1_3,o1_6)) else (bindO (loopD (stepDq73_n0 (a1,a2,o0_1,o0_2,o1_5,o2,o3,o4,o5)) FUEL ((0 : Int),o1_3,o1_6,[])) (Sum.elim (unP fun t7 => unP fun o1_3_2 o1_6_2 => (exit ([],t7,o1_3_2,o1_6_2))) (unP fun o1_3_2 => unP fun o1_6_2 o7 => (bindO (fnDBuilder_String (o7)) (unP fun r_2 o0 => (exit (r_2,(0 : Int),o1_3_2,o1_6_2)))))))))
def fnDq73 (a : Aq73) : Option Yq73 := fnq73 a some
theorem fnq73_nat (a : Aq73) (k : Yq73 → Ans) : fnq73 a k = bindO (fnDq73 a) k := by
  obtain ⟨a1,a2,o0_1,o0_2,o1_3,o1_5,o1_6,o2,o3,o4,o5⟩ := a
  simp only [fnDq73,fnq73,bindO_cond,bindO_assoc,bindO_none,bindO_pure,bindO_elim,bindO_unP,bindO_empty]
def argsq73 : Aq73 → List AV × List AE.Obj := fun (a1,a2,o0_1,o0_2,o1_3,o1_5,o1_6,o2,o3,o4,o5) => ([.ptr 0 0,.int .i64 a1,.int .i64 a2],[.cells [.ptr 1 0,.int .i64 o0_1,.int .i64 o0_2],.cells [.own 2,.map 3,.own 4,.int .i64 o1_3,.own 5,.int .i64 o1_5,.bool o1_6],.arr .str o2,.mp .i64 .str o3,.arr (.st (.pair (.int .i64) .str)) o4,.arr (.int .i64) o5])
def decPAq73 (l : List AV) (H : List AE.Obj) : Option {a : Aq73 // (l,H) = argsq73 a} := match l,H with
  | [.ptr 0 0,.int .i64 a1,.int .i64 a2],[.cells [.ptr 1 0,.int .i64 o0_1,.int .i64 o0_2],.cells [.own 2,.map 3,.own 4,.int .i64 o1_3,.own 5,.int .i64 o1_5,.bool o1_6],.arr .str o2,.mp .i64 .str o3,.arr (.st (.pair (.int .i64) .str)) o4,.arr (.int .i64) o5] => some ⟨(a1,a2,o0_1,o0_2,o1_3,o1_5,o1_6,o2,o3,o4,o5),rfl⟩
  | _,_ => none
def decAq73 (l : List AV) (H : List AE.Obj) : Option Aq73 := pk (decPAq73 l H)
theorem decAq73_ok (l : List AV) (H : List AE.Obj) (a : Aq73) (h : decAq73 l H = some a) : (l,H) = argsq73 a := pk_ok (o := decPAq73 l H) h
def outq73 : Aq73 → (AV → List AE.Obj → Ans) → Yq73 → Ans := fun (a1,a2,o0_1,o0_2,o1_3,o1_5,o1_6,o2,o3,o4,o5) K => unP fun r_0_y => unP fun r_1_y => unP fun o1_3_y o1_6_y => K (.tup [.str r_0_y,.int .i64 r_1_y]) [.cells [.ptr 1 0,.int .i64 o0_1,.int .i64 o0_2],.cells [.own 2,.map 3,.own 4,.int .i64 o1_3_y,.own 5,.int .i64 o1_5,.bool o1_6_y],.arr .str o2,.mp .i64 .str o3,.arr (.st (.pair (.int .i64) .str)) o4,.arr (.int .i64) o5]
theorem fnq73_ok (a : Aq73) (K : AV → List AE.Obj → Ans) : fnE Tryz.tab envq73 noHint 0 70 177 Tryz.f177.ntmps Tryz.f177.results.toList annq73 bq73 (argsq73 a).1 (argsq73 a).2 K = fnq73 a (outq73 a K) := by kernel_rfl
def vFq73 (a : Aq73) (K : AV → List AE.Obj → Ans) : Ans := bindO (fnDq73 a) fun y => outq73 a K y
def Fq73 : List AV → List AE.Obj → (AV → List AE.Obj → Ans) → Ans := fun l H K => bindO (decAq73 l H) fun a => vFq73 a K
theorem Fq73_ok : FuncOk Tryz.prog 177 Fq73 := func_mkD (hint := noHint) (d := 0) (n := 70) mixed tabOk envq73Ok Tryz.func177 (bodySome (by kernel_rfl)) (by decide +kernel) annq73_ok decAq73_ok fnq73_ok fnq73_nat
--@ field_New
noncomputable def envq15 : Env := []
theorem envq15Ok : EnvOk Tryz.prog envq15 := EnvOk.nil
noncomputable def bq15 : Code := Tryz.f129.body.getD .skip
noncomputable def annq15 : Ann := .none
theorem annq15_ok : AnnOk Tryz.prog 6 bq15 annq15 := (annOk_none _ _ _)
abbrev Aq15 := (List UInt8)
abbrev Yq15 := Unit
def fnq15 {β : Type} : Aq15 → (Yq15 → Option β) → Option β := fun a0 exit => (exit ())
def fnDq15 (a : Aq15) : Option Yq15 := fnq15 a some
theorem fnq15_nat (a : Aq15) (k : Yq15 → Ans) : fnq15 a k = bindO (fnDq15 a) k := by
  obtain z := a
  simp only [fnDq15,fnq15,bindO_cond,bindO_assoc,bindO_none,bindO_pure,bindO_elim,bindO_unP,bindO_empty]
def argsq15 : Aq15 → List AV × List AE.Obj := fun a0 => ([.str a0],[])
def decPAq15 (l : List AV) (H : List AE.Obj) : Option {a : Aq15 // (l,H) = argsq15 a} := match l,H with
  | [.str a0],[] => some ⟨(a0),rfl⟩
  | _,_ => none
def decAq15 (l : List AV) (H : List AE.Obj) : Option Aq15 := pk (decPAq15 l H)
theorem decAq15_ok (l : List AV) (H : List AE.Obj) (a : Aq15) (h : decAq15 l H = some a) : (l,H) = argsq15 a := pk_ok (o := decPAq15 l H) h
def outq15 : Aq15 → (AV → List AE.Obj → Ans) → Yq15 → Ans := fun a0 K => fun _ => K (.ptr 0 0) [.cells [.str a0,.int .i64 (0)]]
theorem fnq15_ok (a : Aq15) (K : AV → List AE.Obj → Ans) : fnE Tryz.tab envq15 noHint 0 70 129 Tryz.f129.ntmps Tryz.f129.results.toList annq15 bq15 (argsq15 a).1 (argsq15 a).2 K = fnq15 a (outq15 a K) := by kernel_rfl
def vFq15 (a : Aq15) (K : AV → List AE.Obj → Ans) : Ans := bindO (fnDq15 a) fun y => outq15 a K y
def Fq15 : List AV → List AE.Obj → (AV → List AE.Obj → Ans) → Ans := fun l H K => bindO (decAq15 l H) fun a => vFq15 a K
theorem Fq15_ok : FuncOk Tryz.prog 129 Fq15 := func_mkD (hint := noHint) (d := 0) (n := 70) mixed tabOk envq15Ok Tryz.func129 (bodySome (by kernel_rfl)) (by decide +kernel) annq15_ok decAq15_ok fnq15_ok fnq15_nat
--@ field_Reader_fail
noncomputable def envq19 : Env := []
theorem envq19Ok : EnvOk Tryz.prog envq19 := EnvOk.nil
noncomputable def bq19 : Code := Tryz.f188.body.getD .skip
noncomputable def annq19 : Ann := .none
theorem annq19_ok : AnnOk Tryz.prog 13 bq19 annq19 := (annOk_none _ _ _)
abbrev Aq19 := (Int) × (List UInt8) × (Int)
abbrev Yq19 := (Int)
def fnq19 {β : Type} : Aq19 → (Yq19 → Option β) → Option β := fun (a1,o0_0,o0_1) exit => (bif o0_1 == (0 : Int) then (exit (a1)) else (exit (o0_1)))
def fnDq19 (a : Aq19) : Option Yq19 := fnq19 a some
theorem fnq19_nat (a : Aq19) (k : Yq19 → Ans) : fnq19 a k = bindO (fnDq19 a) k := by
  obtain ⟨a1,o0_0,o0_1⟩ := a
  simp only [fnDq19,fnq19,bindO_cond,bindO_assoc,bindO_none,bindO_pure,bindO_elim,bindO_unP,bindO_empty]
def argsq19 : Aq19 → List AV × List AE.Obj := fun (a1,o0_0,o0_1) => ([.ptr 0 0,.int .i64 a1],[.cells [.str o0_0,.int .i64 o0_1]])
def decPAq19 (l : List AV) (H : List AE.Obj) : Option {a : Aq19 // (l,H) = argsq19 a} := match l,H with
  | [.ptr 0 0,.int .i64 a1],[.cells [.str o0_0,.int .i64 o0_1]] => some ⟨(a1,o0_0,o0_1),rfl⟩
  | _,_ => none
def decAq19 (l : List AV) (H : List AE.Obj) : Option Aq19 := pk (decPAq19 l H)
theorem decAq19_ok (l : List AV) (H : List AE.Obj) (a : Aq19) (h : decAq19 l H = some a) : (l,H) = argsq19 a := pk_ok (o := decPAq19 l H) h
def outq19 : Aq19 → (AV → List AE.Obj → Ans) → Yq19 → Ans := fun (a1,o0_0,o0_1) K => fun o0_1_y => K (.tup []) [.cells [.str o0_0,.int .i64 o0_1_y]]
theorem fnq19_ok (a : Aq19) (K : AV → List AE.Obj → Ans) : fnE Tryz.tab envq19 noHint 0 70 188 Tryz.f188.ntmps Tryz.f188.results.toList annq19 bq19 (argsq19 a).1 (argsq19 a).2 K = fnq19 a (outq19 a K) := by kernel_rfl
def vFq19 (a : Aq19) (K : AV → List AE.Obj → Ans) : Ans := bindO (fnDq19 a) fun y => outq19 a K y
def Fq19 : List AV → List AE.Obj → (AV → List AE.Obj → Ans) → Ans := fun l H K => bindO (decAq19 l H) fun a => vFq19 a K
theorem Fq19_ok : FuncOk Tryz.prog 188 Fq19 := func_mkD (hint := noHint) (d := 0) (n := 70) mixed tabOk envq19Ok Tryz.func188 (bodySome (by kernel_rfl)) (by decide +kernel) annq19_ok decAq19_ok fnq19_ok fnq19_nat
--@ field_Reader_Bytes
noncomputable def envq17 : Env := [(188,.func Fq19)]
theorem envq17Ok : EnvOk Tryz.prog envq17 := EnvOk.cons Fq19_ok (EnvOk.nil)
noncomputable def bq17 : Code := Tryz.f130.body.getD .skip
noncomputable def Lq17_n0 : Code := codeAt [1,1,0,1] bq17
noncomputable def annLq17_n0 : Ann := .none
theorem annLq17_n0_ok : AnnOk Tryz.prog 42 Lq17_n0 annLq17_n0 := (annOk_none _ _ _)
abbrev Iq17_n0 := (Int) × (Bool) × (List UInt8) × (Int)
abbrev Yq17_n0 := (Int)
def Sq17_n0 : Iq17_n0 → St := fun (t1,t9,o0_0,o0_1) => { env := [(0,.ptr 0 0),(1,.int .i64 t1),(9,.bool t9)],stk := [[(0,.ptr 0 0)]],H := [.cells [.str o0_0,.int .i64 o0_1]],blk := 532480 }
def decPq17_n0 (s : St) : Option {x : Iq17_n0 // s = Sq17_n0 x} := match s with
  | { env := [(0,.ptr 0 0),(1,.int .i64 t1),(9,.bool t9)],stk := [[(0,.ptr 0 0)]],H := [.cells [.str o0_0,.int .i64 o0_1]],blk := 532480 } => some ⟨(t1,t9,o0_0,o0_1),rfl⟩
  | _ => none
def decq17_n0 (s : St) : Option Iq17_n0 := pk (decPq17_n0 s)
theorem decq17_n0_ok (s : St) (x : Iq17_n0) (h : decq17_n0 s = some x) : s = Sq17_n0 x := pk_ok (o := decPq17_n0 s) h
def outq17_n0 : Iq17_n0 → (Ex → St → Ans) → Yq17_n0 → Ans := fun (t1,t9,o0_0,o0_1) K => fun o0_1_y => K (Ex.norm) { env := [(0,.ptr 0 0),(1,.int .i64 t1)],stk := [[(0,.ptr 0 0)]],H := [.cells [.str o0_0,.int .i64 o0_1_y]],blk := 532480 }
def nodeq17_n0 {β : Type} : Iq17_n0 → (Yq17_n0 → Option β) → Option β := fun (t1,t9,o0_0,o0_1) exit => (bif t9 then (bindO (fnDq19 ((3 : Int),o0_0,o0_1)) fun o0_1_2 => (exit (o0_1_2))) else (bif decide (t1 > (↑(List.length o0_0) : Int)) then (bindO (fnDq19 ((1 : Int),o0_0,o0_1)) fun o0_1_2 => (exit (o0_1_2))) else (exit (o0_1))))
def nodeDq17_n0 (i : Iq17_n0) : Option Yq17_n0 := nodeq17_n0 i some
theorem nodeq17_n0_nat (i : Iq17_n0) (k : Yq17_n0 → Ans) : nodeq17_n0 i k = bindO (nodeDq17_n0 i) k := by
  obtain ⟨t1,t9,o0_0,o0_1⟩ := i
  simp only [nodeDq17_n0,nodeq17_n0,bindO_cond,bindO_assoc,bindO_none,bindO_pure,bindO_elim,bindO_unP,bindO_empty]
theorem nodeq17_n0_ok (i : Iq17_n0) (K : Ex → St → Ans) : codeI Tryz.tab envq17 noHint (codeD Tryz.tab envq17 noHint 0 64) 70 42 annLq17_n0 Lq17_n0 (weakP 1 (exk [0,1] [4] []) K) (Sq17_n0 i) = nodeq17_n0 i (outq17_n0 i K) := by kernel_rfl
theorem GNq17_n0_ok : CSum Tryz.prog 42 Lq17_n0 (sumN decq17_n0 nodeDq17_n0 outq17_n0) := csum_node mixed tabOk envq17Ok 1 (exk [0,1] [4] []) annLq17_n0_ok decq17_n0_ok nodeq17_n0_ok nodeq17_n0_nat
noncomputable def Gq17_n0 : (Ex → St → Ans) → St → Ans := (sumN decq17_n0 nodeDq17_n0 outq17_n0)
theorem Gq17_n0_ok : CSum Tryz.prog 42 Lq17_n0 Gq17_n0 := GNq17_n0_ok
noncomputable def annq17 : Ann := (.seq .none (.seq .none (.seq (.seq .none (.cut 1 [0,1,9] Gq17_n0)) .none)))
theorem annq17_ok : AnnOk Tryz.prog 42 bq17 annq17 := ⟨(annOk_none _ _ _),⟨(annOk_none _ _ _),⟨⟨(annOk_none _ _ _),Gq17_n0_ok⟩,(annOk_none _ _ _)⟩⟩⟩
abbrev Aq17 := (Int) × (List UInt8) × (Int)
abbrev Yq17 := (List UInt8) × (List UInt8) × (Int)
def fnq17 {β : Type} : Aq17 → (Yq17 → Option β) → Option β := fun (a1,o0_0,o0_1) exit => (bindO (nodeDq17_n0 (a1,decide (a1 < (0 : Int)),o0_0,o0_1)) fun o0_1_2 => (bif o0_1_2 != (0 : Int) then (exit ([],o0_0,o0_1_2)) else (bif inR a1 (List.length o0_0 + (1 : Nat)) then (bif inR a1 (List.length o0_0 + (1 : Nat)) then (exit (List.take (Int.toNat a1) o0_0,List.drop (Int.toNat a1) o0_0,o0_1_2)) else none) else none)))
def fnDq17 (a : Aq17) : Option Yq17 := fnq17 a some
theorem fnq17_nat (a : Aq17) (k : Yq17 → Ans) : fnq17 a k = bindO (fnDq17 a) k := by
  obtain ⟨a1,o0_0,o0_1⟩ := a
  simp only [fnDq17,fnq17,bindO_cond,bindO_assoc,bindO_none,bindO_pure,bindO_elim,bindO_unP,bindO_empty]
def argsq17 : Aq17 → List AV × List AE.Obj := fun (a1,o0_0,o0_1) => ([.ptr 0 0,.int .i64 a1],[.cells [.str o0_0,.int .i64 o0_1]])
def decPAq17 (l : List AV) (H : List AE.Obj) : Option {a : Aq17 // (l,H) = argsq17 a} := match l,H with
  | [.ptr 0 0,.int .i64 a1],[.cells [.str o0_0,.int .i64 o0_1]] => some ⟨(a1,o0_0,o0_1),rfl⟩
  | _,_ => none
def decAq17 (l : List AV) (H : List AE.Obj) : Option Aq17 := pk (decPAq17 l H)
theorem decAq17_ok (l : List AV) (H : List AE.Obj) (a : Aq17) (h : decAq17 l H = some a) : (l,H) = argsq17 a := pk_ok (o := decPAq17 l H) h
def outq17 : Aq17 → (AV → List AE.Obj → Ans) → Yq17 → Ans := fun (a1,o0_0,o0_1) K => unP fun r_y => unP fun o0_0_y o0_1_y => K (.str r_y) [.cells [.str o0_0_y,.int .i64 o0_1_y]]
theorem fnq17_ok (a : Aq17) (K : AV → List AE.Obj → Ans) : fnE Tryz.tab envq17 noHint 0 70 130 Tryz.f130.ntmps Tryz.f130.results.toList annq17 bq17 (argsq17 a).1 (argsq17 a).2 K = fnq17 a (outq17 a K) := by kernel_rfl
def vFq17 (a : Aq17) (K : AV → List AE.Obj → Ans) : Ans := bindO (fnDq17 a) fun y => outq17 a K y
def Fq17 : List AV → List AE.Obj → (AV → List AE.Obj → Ans) → Ans := fun l H K => bindO (decAq17 l H) fun a => vFq17 a K
theorem Fq17_ok : FuncOk Tryz.prog 130 Fq17 := func_mkD (hint := noHint) (d := 0) (n := 70) mixed tabOk envq17Ok Tryz.func130 (bodySome (by kernel_rfl)) (by decide +kernel) annq17_ok decAq17_ok fnq17_ok fnq17_nat
--@ field_Reader_Num
noncomputable def envq18 : Env := [(189,.pure Fq20),(188,.func Fq19),(130,.func Fq17)]
theorem envq18Ok : EnvOk Tryz.prog envq18 := EnvOk.cons Fq20_ok (EnvOk.cons Fq19_ok (EnvOk.cons Fq17_ok (EnvOk.nil)))
noncomputable def bq18 : Code := Tryz.f131.body.getD .skip
noncomputable def Lq18_n0 : Code := codeAt [1,1,1,1,0,1,0,0] bq18
noncomputable def annLq18_n0 : Ann := .at 1 [5,18,19,20] (.loop .none)
theorem annLq18_n0_ok : AnnOk Tryz.prog 31 (.loop Lq18_n0) annLq18_n0 := annOk_at (annOk_none _ _ _)
abbrev Iq18_n0 := (Int) × (List UInt8) × (Int) × (List Int)
abbrev Yq18_n0 := (Int)
abbrev Vq18_n0 := (Int) × (Int)
def Sq18_n0 : Iq18_n0 → Vq18_n0 → St := fun (t19,o0_0,o0_1,o1) (t5,t20) => { env := [(5,.int .i64 t5),(18,.own 1),(19,.int .i64 t19),(20,.int .i64 t20)],stk := [[(0,.ptr 0 0)]],H := [.cells [.str o0_0,.int .i64 o0_1],.arr (.int .u8) o1],blk := 536576 }
def decPq18_n0 (s : St) : Option {x : Iq18_n0 × Vq18_n0 // s = Sq18_n0 x.1 x.2} := match s with
  | { env := [(5,.int .i64 t5),(18,.own 1),(19,.int .i64 t19),(20,.int .i64 t20)],stk := [[(0,.ptr 0 0)]],H := [.cells [.str o0_0,.int .i64 o0_1],.arr (.int .u8) o1],blk := 536576 } => some ⟨((t19,o0_0,o0_1,o1),(t5,t20)),rfl⟩
  | _ => none
def decq18_n0 (s : St) : Option (Iq18_n0 × Vq18_n0) := pk (decPq18_n0 s)
theorem decq18_n0_ok (s : St) (x : Iq18_n0 × Vq18_n0) (h : decq18_n0 s = some x) : s = Sq18_n0 x.1 x.2 := pk_ok (o := decPq18_n0 s) h
def outq18_n0 : Iq18_n0 → (Ex → St → Ans) → Yq18_n0 → Ans := fun (t19,o0_0,o0_1,o1) K => fun t5_y => K (Ex.exit 0) { env := [(5,.int .i64 t5_y)],stk := [[(0,.ptr 0 0)]],H := [.cells [.str o0_0,.int .i64 o0_1]],blk := 536576 }
def stepq18_n0 {β : Type} : Iq18_n0 → Vq18_n0 → (Vq18_n0 → Option β) → (Yq18_n0 → Option β) → Option β := fun (t19,o0_0,o0_1,o1) (t5,t20) next exit => (bif decide (t20 < t19) then (bif inR t20 (List.length o1) then (bindO (o1[Int.toNat t20]?) fun x => (next (IntKind.wrap .i64 (↑(Int.toNat (IntKind.wrap .i64 (t5 * (256 : Int)) % (18446744073709551616 : Int)) ||| Int.toNat (IntKind.wrap .i64 x % (18446744073709551616 : Int))) : Int),IntKind.wrap .i64 (t20 + (1 : Int))))) else none) else (exit (t5)))
def stepDq18_n0 (i : Iq18_n0) (v : Vq18_n0) : Option (Vq18_n0 ⊕ Yq18_n0) := stepq18_n0 i v (fun v => some (.inl v)) (fun y => some (.inr y))
theorem stepq18_n0_nat (i : Iq18_n0) (v : Vq18_n0) (next : Vq18_n0 → Ans) (exit : Yq18_n0 → Ans) : stepq18_n0 i v next exit = bindO (stepDq18_n0 i v) (Sum.elim next exit) := by
  obtain ⟨t19,o0_0,o0_1,o1⟩ := i
  obtain ⟨t5,t20⟩ := v
  simp only [stepDq18_n0,stepq18_n0,bindO_cond,bindO_assoc,bindO_none,bindO_pure,bindO_elim,bindO_unP,bindO_empty,Sum.elim_inl,Sum.elim_inr]
theorem stepq18_n0_ok (n : Nat) (i : Iq18_n0) (v : Vq18_n0) (K : Ex → St → Ans) : codeI Tryz.tab envq18 noHint (codeD Tryz.tab envq18 noHint 0 64) (n+1) 31 annLq18_n0 (.loop Lq18_n0) (weakP 1 (exk [5] [4] [(0,[5])]) K) (Sq18_n0 i v) = stepq18_n0 i v (fun v' => codeI Tryz.tab envq18 noHint (codeD Tryz.tab envq18 noHint 0 64) n 31 annLq18_n0 (.loop Lq18_n0) (weakP 1 (exk [5] [4] [(0,[5])]) K) (Sq18_n0 i v')) (fun y => outq18_n0 i K y) := by kernel_rfl
theorem GNq18_n0_ok : CSum Tryz.prog 31 (.loop Lq18_n0) (sumL decq18_n0 stepDq18_n0 outq18_n0) := csum_loop mixed tabOk envq18Ok 1 (exk [5] [4] [(0,[5])]) annLq18_n0_ok decq18_n0_ok stepq18_n0_ok stepq18_n0_nat
noncomputable def Gq18_n0 : (Ex → St → Ans) → St → Ans := (sumL decq18_n0 stepDq18_n0 outq18_n0)
theorem Gq18_n0_ok : CSum Tryz.prog 31 (.loop Lq18_n0) Gq18_n0 := GNq18_n0_ok
noncomputable def annq18 : Ann := (.seq .none (.seq .none (.seq .none (.seq .none (.seq (.seq .none (.block (.cut 1 [5,18,19,20] Gq18_n0))) .none)))))
theorem annq18_ok : AnnOk Tryz.prog 31 bq18 annq18 := ⟨(annOk_none _ _ _),⟨(annOk_none _ _ _),⟨(annOk_none _ _ _),⟨(annOk_none _ _ _),⟨⟨(annOk_none _ _ _),Gq18_n0_ok⟩,(annOk_none _ _ _)⟩⟩⟩⟩⟩
abbrev Aq18 := (Int) × (List UInt8) × (Int)
abbrev Yq18 := (Int) × (List UInt8) × (Int)
def fnq18 {β : Type} : Aq18 → (Yq18 → Option β) → Option β := fun (a1,o0_0,o0_1) exit => (bindO (fnDq20 (a1)) fun r => (bif !r then (bindO (fnDq19 ((3 : Int),o0_0,o0_1)) fun o0_1_2 => (exit ((0 : Int),o0_0,o0_1_2))) else (bindO (fnDq17 (a1,o0_0,o0_1)) (unP fun r_2 => unP fun o0_0_2 o0_1_2 => (bif Nat.ble (List.length r_2) (140737488355328 : Nat) then (bindO (loopD (stepDq18_n0 ((↑(List.length (intsOf r_2)) : Int),o0_0_2,o0_1_2,intsOf r_2)) FUEL ((0 : Int),(0 : Int))) fun t5 => (exit (t5,o0_0_2,o0_1_2))) else none)))))
def fnDq18 (a : Aq18) : Option Yq18 := fnq18 a some
theorem fnq18_nat (a : Aq18) (k : Yq18 → Ans) : fnq18 a k = bindO (fnDq18 a) k := by
  obtain ⟨a1,o0_0,o0_1⟩ := a
  simp only [fnDq18,fnq18,bindO_cond,bindO_assoc,bindO_none,bindO_pure,bindO_elim,bindO_unP,bindO_empty]
def argsq18 : Aq18 → List AV × List AE.Obj := fun (a1,o0_0,o0_1) => ([.ptr 0 0,.int .i64 a1],[.cells [.str o0_0,.int .i64 o0_1]])
def decPAq18 (l : List AV) (H : List AE.Obj) : Option {a : Aq18 // (l,H) = argsq18 a} := match l,H with
  | [.ptr 0 0,.int .i64 a1],[.cells [.str o0_0,.int .i64 o0_1]] => some ⟨(a1,o0_0,o0_1),rfl⟩
  | _,_ => none
def decAq18 (l : List AV) (H : List AE.Obj) : Option Aq18 := pk (decPAq18 l H)
theorem decAq18_ok (l : List AV) (H : List AE.Obj) (a : Aq18) (h : decAq18 l H = some a) : (l,H) = argsq18 a := pk_ok (o := decPAq18 l H) h
def outq18 : Aq18 → (AV → List AE.Obj → Ans) → Yq18 → Ans := fun (a1,o0_0,o0_1) K => unP fun r_y => unP fun o0_0_y o0_1_y => K (.int .i64 r_y) [.cells [.str o0_0_y,.int .i64 o0_1_y]]
theorem fnq18_ok (a : Aq18) (K : AV → List AE.Obj → Ans) : fnE Tryz.tab envq18 noHint 0 70 131 Tryz.f131.ntmps Tryz.f131.results.toList annq18 bq18 (argsq18 a).1 (argsq18 a).2 K = fnq18 a (outq18 a K) := by kernel_rfl
def vFq18 (a : Aq18) (K : AV → List AE.Obj → Ans) : Ans := bindO (fnDq18 a) fun y => outq18 a K y
def Fq18 : List AV → List AE.Obj → (AV → List AE.Obj → Ans) → Ans := fun l H K => bindO (decAq18 l H) fun a => vFq18 a K
theorem Fq18_ok : FuncOk Tryz.prog 131 Fq18 := func_mkD (hint := noHint) (d := 0) (n := 70) mixed tabOk envq18Ok Tryz.func131 (bodySome (by kernel_rfl)) (by decide +kernel) annq18_ok decAq18_ok fnq18_ok fnq18_nat
--@ loghead_Get
noncomputable def envq30 : Env := [(123,.pure Fq4),(172,.pure Fq33),(129,.func Fq15),(130,.func Fq17),(131,.func Fq18)]
theorem envq30Ok : EnvOk Tryz.prog envq30 := EnvOk.cons Fq4_ok (EnvOk.cons Fq33_ok (EnvOk.cons Fq15_ok (EnvOk.cons Fq17_ok (EnvOk.cons Fq18_ok (EnvOk.nil)))))
noncomputable def bq30 : Code := Tryz.f216.body.getD .skip
noncomputable def Lq30_n0 : Code := codeAt [1,1,1,1,1,1,0,1,0] bq30
noncomputable def annLq30_n0 : Ann := .none
theorem annLq30_n0_ok : AnnOk Tryz.prog 50 Lq30_n0 annLq30_n0 := (annOk_none _ _ _)
abbrev Iq30_n0 := (List UInt8) × (List UInt8) × (Int) × (Int) × (Int) × (Int)
abbrev Yq30_n0 := (Bool)
def Sq30_n0 : Iq30_n0 → St := fun (t0,t7,t8,o1_0,o1_1,o1_2) => { env := [(0,.str t0),(2,.ptr 0 0),(5,.ptr 1 0),(7,.str t7),(8,.int .i64 t8)],stk := [[]],H := [.cells [.int .i64 (0),.int .i64 (0),.int .i64 (0)],.cells [.int .i64 o1_0,.int .i64 o1_1,.int .i64 o1_2]],blk := 884736 }
def decPq30_n0 (s : St) : Option {x : Iq30_n0 // s = Sq30_n0 x} := match s with
  | { env := [(0,.str t0),(2,.ptr 0 0),(5,.ptr 1 0),(7,.str t7),(8,.int .i64 t8)],stk := [[]],H := [.cells [.int .i64 r3,.int .i64 r4,.int .i64 r5],.cells [.int .i64 o1_0,.int .i64 o1_1,.int .i64 o1_2]],blk := 884736 } => if h3 : r3 = 0 then if h4 : r4 = 0 then if h5 : r5 = 0 then some ⟨(t0,t7,t8,o1_0,o1_1,o1_2),by subst h3 h4 h5; rfl⟩ else none else none else none
  | _ => none
def decq30_n0 (s : St) : Option Iq30_n0 := pk (decPq30_n0 s)
theorem decq30_n0_ok (s : St) (x : Iq30_n0) (h : decq30_n0 s = some x) : s = Sq30_n0 x := pk_ok (o := decPq30_n0 s) h
def outq30_n0 : Iq30_n0 → (Ex → St → Ans) → Yq30_n0 → Ans := fun (t0,t7,t8,o1_0,o1_1,o1_2) K => fun t47_y => K (Ex.norm) { env := [(2,.ptr 0 0),(5,.ptr 1 0),(47,.bool t47_y)],stk := [[]],H := [.cells [.int .i64 (0),.int .i64 (0),.int .i64 (0)],.cells [.int .i64 o1_0,.int .i64 o1_1,.int .i64 o1_2]],blk := 884736 }
def nodeq30_n0 {β : Type} : Iq30_n0 → (Yq30_n0 → Option β) → Option β := fun (t0,t7,t8,o1_0,o1_1,o1_2) exit => (bif t8 != (0 : Int) then (exit (true)) else (exit (!t7 == t0)))
def nodeDq30_n0 (i : Iq30_n0) : Option Yq30_n0 := nodeq30_n0 i some
theorem nodeq30_n0_nat (i : Iq30_n0) (k : Yq30_n0 → Ans) : nodeq30_n0 i k = bindO (nodeDq30_n0 i) k := by
  obtain ⟨t0,t7,t8,o1_0,o1_1,o1_2⟩ := i
  simp only [nodeDq30_n0,nodeq30_n0,bindO_cond,bindO_assoc,bindO_none,bindO_pure,bindO_elim,bindO_unP,bindO_empty]
theorem nodeq30_n0_ok (i : Iq30_n0) (K : Ex → St → Ans) : codeI Tryz.tab envq30 noHint (codeD Tryz.tab envq30 noHint 0 64) 70 50 annLq30_n0 Lq30_n0 (weakP 0 (exk [2,5,47] [2,3] []) K) (Sq30_n0 i) = nodeq30_n0 i (outq30_n0 i K) := by kernel_rfl
theorem GNq30_n0_ok : CSum Tryz.prog 50 Lq30_n0 (sumN decq30_n0 nodeDq30_n0 outq30_n0) := csum_node mixed tabOk envq30Ok 0 (exk [2,5,47] [2,3] []) annLq30_n0_ok decq30_n0_ok nodeq30_n0_ok nodeq30_n0_nat
noncomputable def Gq30_n0 : (Ex → St → Ans) → St → Ans := (sumN decq30_n0 nodeDq30_n0 outq30_n0)
theorem Gq30_n0_ok : CSum Tryz.prog 50 Lq30_n0 Gq30_n0 := GNq30_n0_ok
noncomputable def annq30 : Ann := (.seq .none (.seq .none (.seq .none (.seq .none (.seq .none (.seq .none (.seq (.seq .none (.seq (.cut 0 [0,2,5,7,8] Gq30_n0) .none)) .none)))))))
theorem annq30_ok : AnnOk Tryz.prog 50 bq30 annq30 := ⟨(annOk_none _ _ _),⟨(annOk_none _ _ _),⟨(annOk_none _ _ _),⟨(annOk_none _ _ _),⟨(annOk_none _ _ _),⟨(annOk_none _ _ _),⟨⟨(annOk_none _ _ _),⟨Gq30_n0_ok,(annOk_none _ _ _)⟩⟩,(annOk_none _ _ _)⟩⟩⟩⟩⟩⟩⟩
abbrev Aq30 := (List UInt8)
abbrev Yq30 := (Int) × (Int) × (Int) × (Int)
def fnq30 {β : Type} : Aq30 → (Yq30 → Option β) → Option β := fun a0 exit => (bif (↑(List.length a0) : Int) != (64 : Int) then (exit ((0 : Int),(0 : Int),(0 : Int),(12 : Int))) else (bindO (fnDq15 (a0)) fun _ => (bindO (fnDq17 ((1 : Int),a0,(0 : Int))) (unP fun r => unP fun o0_0 o0_1 => (bif !r == [(76 : UInt8)] then (exit ((0 : Int),(0 : Int),(0 : Int),(4 : Int))) else (bindO (fnDq18 ((6 : Int),o0_0,o0_1)) (unP fun r_2 => unP fun o0_0_2 o0_1_2 => (bindO (fnDq18 ((6 : Int),o0_0_2,o0_1_2)) (unP fun r_3 => unP fun o0_0_3 o0_1_3 => (bindO (fnDq18 ((2 : Int),o0_0_3,o0_1_3)) (unP fun r_4 => unP fun o0_0_4 o0_1_4 => (bif inR (15 : Int) (List.length a0 + (1 : Nat)) then (bindO (fnDq4 (List.take (15 : Nat) a0)) fun r_5 => (bindO (fnDq17 ((↑(List.length r_5) : Int),o0_0_4,o0_1_4)) (unP fun r_6 => unP fun o0_0_5 o0_1_5 => (bif !r_6 == r_5 then (exit ((0 : Int),(0 : Int),(0 : Int),(5 : Int))) else (bindO (fnDq33 (r_2,r_3,r_4)) (unP fun r_0 r_1 => (bindO (nodeDq30_n0 (a0,r_0,r_1,r_2,r_3,r_4)) fun t47 => (bif t47 then (exit ((0 : Int),(0 : Int),(0 : Int),(4 : Int))) else (exit (r_2,r_3,r_4,(0 : Int))))))))))) else none))))))))))))
def fnDq30 (a : Aq30) : Option Yq30 := fnq30 a some
theorem fnq30_nat (a : Aq30) (k : Yq30 → Ans) : fnq30 a k = bindO (fnDq30 a) k := by
  obtain z := a
  simp only [fnDq30,fnq30,bindO_cond,bindO_assoc,bindO_none,bindO_pure,bindO_elim,bindO_unP,bindO_empty]
def argsq30 : Aq30 → List AV := fun a0 => [.str a0]
def decPAq30 (l : List AV) : Option {a : Aq30 // l = argsq30 a} := match l with
  | [.str a0] => some ⟨(a0),rfl⟩
  | _ => none
def decAq30 (l : List AV) : Option Aq30 := pk (decPAq30 l)
theorem decAq30_ok (l : List AV) (a : Aq30) (h : decAq30 l = some a) : l = argsq30 a := pk_ok (o := decPAq30 l) h
def rendq30 : Aq30 → Yq30 → AV := fun a0 => unP fun r_0_0_y => unP fun r_0_1_y => unP fun r_0_2_y r_1_y => .tup [.agg [.int .i64 r_0_0_y,.int .i64 r_0_1_y,.int .i64 r_0_2_y],.int .i64 r_1_y]
theorem rendq30_ok : ∀ (a : Aq30) (y : Yq30),(rendq30 a y).closed1 = true := by
  rintro z y <;> first | rfl | exact Empty.elim y
theorem fnq30_ok (a : Aq30) : fnE Tryz.tab envq30 noHint 0 70 216 Tryz.f216.ntmps Tryz.f216.results.toList annq30 bq30 (argsq30 a) [] (fun v _ => some (v,[])) = fnq30 a (fun y => some (rendq30 a y,[])) := by kernel_rfl
def vFq30 (a : Aq30) (K : AV → Ans) : Ans := bindO (fnDq30 a) fun y => K (rendq30 a y)
def Fq30 : List AV → (AV → Ans) → Ans := fun l K => bindO (decAq30 l) fun a => vFq30 a K
theorem Fq30_ok : PureOk Tryz.prog 216 Fq30 := pure_mkD (hint := noHint) (d := 0) (n := 70) mixed tabOk envq30Ok Tryz.func216 (bodySome (by kernel_rfl)) (by decide +kernel) annq30_ok decAq30_ok fnq30_ok fnq30_nat rendq30_ok
end Go.Proofs.R7

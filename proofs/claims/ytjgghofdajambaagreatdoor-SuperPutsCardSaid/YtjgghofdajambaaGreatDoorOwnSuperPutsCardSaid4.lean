/- What the functions that SuperPutsCardSaid reaches compute: part 4. -/
import Derived.Test.YtjgghofdajambaaGreatDoorOwnSuperPutsCardSaid3
set_option linter.unusedVariables false
set_option linter.unusedSimpArgs false
namespace Go.Proofs.R7
open Go Go.AE
set_option maxRecDepth 100000
--@ super_within
noncomputable def envq78 : Env := []
theorem envq78Ok : EnvOk Tryz.prog envq78 := EnvOk.nil
noncomputable def bq78 : Code := Tryz.f127.body.getD .skip
noncomputable def Lq78_n0 : Code := codeAt [1,0] bq78
noncomputable def annLq78_n0 : Ann := .none
theorem annLq78_n0_ok : AnnOk Tryz.prog 12 Lq78_n0 annLq78_n0 := (annOk_none _ _ _)
abbrev Iq78_n0 := (Int) × (Int)
abbrev Yq78_n0 := (Bool)
def Sq78_n0 : Iq78_n0 → St := fun (t0,t1) => { env := [(0,.int .i64 t0),(1,.int .i64 t1)],stk := [[]],H := [],blk := 520192 }
def decPq78_n0 (s : St) : Option {x : Iq78_n0 // s = Sq78_n0 x} := match s with
  | { env := [(0,.int .i64 t0),(1,.int .i64 t1)],stk := [[]],H := [],blk := 520192 } => some ⟨(t0,t1),rfl⟩
  | _ => none
def decq78_n0 (s : St) : Option Iq78_n0 := pk (decPq78_n0 s)
theorem decq78_n0_ok (s : St) (x : Iq78_n0) (h : decq78_n0 s = some x) : s = Sq78_n0 x := pk_ok (o := decPq78_n0 s) h
def outq78_n0 : Iq78_n0 → (Ex → St → Ans) → Yq78_n0 → Ans := fun (t0,t1) K => fun t4_y => K (Ex.norm) { env := [(4,.bool t4_y)],stk := [[]],H := [],blk := 520192 }
def nodeq78_n0 {β : Type} : Iq78_n0 → (Yq78_n0 → Option β) → Option β := fun (t0,t1) exit => (bif decide (t0 ≥ (0 : Int)) then (exit (decide (t0 ≤ t1))) else (exit (false)))
def nodeDq78_n0 (i : Iq78_n0) : Option Yq78_n0 := nodeq78_n0 i some
theorem nodeq78_n0_nat (i : Iq78_n0) (k : Yq78_n0 → Ans) : nodeq78_n0 i k = bindO (nodeDq78_n0 i) k := by
  obtain ⟨t0,t1⟩ := i
  simp only [nodeDq78_n0,nodeq78_n0,bindO_cond,bindO_assoc,bindO_none,bindO_pure,bindO_elim,bindO_unP,bindO_empty]
theorem nodeq78_n0_ok (i : Iq78_n0) (K : Ex → St → Ans) : codeI Tryz.tab envq78 noHint (codeD Tryz.tab envq78 noHint 0 64) 70 12 annLq78_n0 Lq78_n0 (weakP 0 (exk [4] [4] []) K) (Sq78_n0 i) = nodeq78_n0 i (outq78_n0 i K) := by kernel_rfl
theorem GNq78_n0_ok : CSum Tryz.prog 12 Lq78_n0 (sumN decq78_n0 nodeDq78_n0 outq78_n0) := csum_node mixed tabOk envq78Ok 0 (exk [4] [4] []) annLq78_n0_ok decq78_n0_ok nodeq78_n0_ok nodeq78_n0_nat
noncomputable def Gq78_n0 : (Ex → St → Ans) → St → Ans := (sumN decq78_n0 nodeDq78_n0 outq78_n0)
theorem Gq78_n0_ok : CSum Tryz.prog 12 Lq78_n0 Gq78_n0 := GNq78_n0_ok
noncomputable def annq78 : Ann := (.seq .none (.seq (.cut 0 [0,1] Gq78_n0) .none))
theorem annq78_ok : AnnOk Tryz.prog 12 bq78 annq78 := ⟨(annOk_none _ _ _),⟨Gq78_n0_ok,(annOk_none _ _ _)⟩⟩
abbrev Aq78 := (Int) × (Int)
abbrev Yq78 := (Bool)
def fnq78 {β : Type} : Aq78 → (Yq78 → Option β) → Option β := fun (a0,a1) exit => (bindO (nodeDq78_n0 (a0,a1)) fun t4 => (exit (t4)))
def fnDq78 (a : Aq78) : Option Yq78 := fnq78 a some
theorem fnq78_nat (a : Aq78) (k : Yq78 → Ans) : fnq78 a k = bindO (fnDq78 a) k := by
  obtain ⟨a0,a1⟩ := a
  simp only [fnDq78,fnq78,bindO_cond,bindO_assoc,bindO_none,bindO_pure,bindO_elim,bindO_unP,bindO_empty]
def argsq78 : Aq78 → List AV := fun (a0,a1) => [.int .i64 a0,.int .i64 a1]
def decPAq78 (l : List AV) : Option {a : Aq78 // l = argsq78 a} := match l with
  | [.int .i64 a0,.int .i64 a1] => some ⟨(a0,a1),rfl⟩
  | _ => none
def decAq78 (l : List AV) : Option Aq78 := pk (decPAq78 l)
theorem decAq78_ok (l : List AV) (a : Aq78) (h : decAq78 l = some a) : l = argsq78 a := pk_ok (o := decPAq78 l) h
def rendq78 : Aq78 → Yq78 → AV := fun (a0,a1) => fun r_y => .bool r_y
theorem rendq78_ok : ∀ (a : Aq78) (y : Yq78),(rendq78 a y).closed1 = true := by
  rintro ⟨a0,a1⟩ y <;> first | rfl | exact Empty.elim y
theorem fnq78_ok (a : Aq78) : fnE Tryz.tab envq78 noHint 0 70 127 Tryz.f127.ntmps Tryz.f127.results.toList annq78 bq78 (argsq78 a) [] (fun v _ => some (v,[])) = fnq78 a (fun y => some (rendq78 a y,[])) := by kernel_rfl
def vFq78 (a : Aq78) (K : AV → Ans) : Ans := bindO (fnDq78 a) fun y => K (rendq78 a y)
def Fq78 : List AV → (AV → Ans) → Ans := fun l K => bindO (decAq78 l) fun a => vFq78 a K
theorem Fq78_ok : PureOk Tryz.prog 127 Fq78 := pure_mkD (hint := noHint) (d := 0) (n := 70) mixed tabOk envq78Ok Tryz.func127 (bodySome (by kernel_rfl)) (by decide +kernel) annq78_ok decAq78_ok fnq78_ok fnq78_nat rendq78_ok
--@ super_Check
noncomputable def envq75 : Env := [(68,.pure Fq23),(127,.pure Fq78)]
theorem envq75Ok : EnvOk Tryz.prog envq75 := EnvOk.cons Fq23_ok (EnvOk.cons Fq78_ok (EnvOk.nil))
noncomputable def bq75 : Code := Tryz.f45.body.getD .skip
noncomputable def Lq75_n0 : Code := codeAt [1,1,0,0] bq75
noncomputable def annLq75_n0 : Ann := .none
theorem annLq75_n0_ok : AnnOk Tryz.prog 36 Lq75_n0 annLq75_n0 := (annOk_none _ _ _)
abbrev Iq75_n0 := (Int) × (Int) × (Int) × (Int) × (Int) × (Int) × (Int)
abbrev Yq75_n0 := (Bool)
def Sq75_n0 : Iq75_n0 → St := fun (o0_0,o0_1,o0_2,o0_3,o0_4,o0_5,o0_6) => { env := [(1,.ptr 0 0)],stk := [[]],H := [.cells [.int .i64 o0_0,.int .i64 o0_1,.int .i64 o0_2,.int .i64 o0_3,.int .i64 o0_4,.int .i64 o0_5,.int .i64 o0_6]],blk := 184320 }
def decPq75_n0 (s : St) : Option {x : Iq75_n0 // s = Sq75_n0 x} := match s with
  | { env := [(1,.ptr 0 0)],stk := [[]],H := [.cells [.int .i64 o0_0,.int .i64 o0_1,.int .i64 o0_2,.int .i64 o0_3,.int .i64 o0_4,.int .i64 o0_5,.int .i64 o0_6]],blk := 184320 } => some ⟨(o0_0,o0_1,o0_2,o0_3,o0_4,o0_5,o0_6),rfl⟩
  | _ => none
def decq75_n0 (s : St) : Option Iq75_n0 := pk (decPq75_n0 s)
theorem decq75_n0_ok (s : St) (x : Iq75_n0) (h : decq75_n0 s = some x) : s = Sq75_n0 x := pk_ok (o := decPq75_n0 s) h
def outq75_n0 : Iq75_n0 → (Ex → St → Ans) → Yq75_n0 → Ans := fun (o0_0,o0_1,o0_2,o0_3,o0_4,o0_5,o0_6) K => fun t35_y => K (Ex.norm) { env := [(35,.bool t35_y)],stk := [[]],H := [],blk := 184320 }
def nodeq75_n0 {β : Type} : Iq75_n0 → (Yq75_n0 → Option β) → Option β := fun (o0_0,o0_1,o0_2,o0_3,o0_4,o0_5,o0_6) exit => (bindO (fnDq78 (o0_0,(1 : Int))) fun r => (bif !r then (exit (true)) else (bindO (fnDq78 (o0_1,(1 : Int))) fun r_2 => (bif !r_2 then (exit (true)) else (bindO (fnDq78 (o0_2,(16777216 : Int))) fun r_3 => (bif !r_3 then (exit (true)) else (bindO (fnDq78 (o0_3,IntKind.wrap .i64 (o0_4 - (1 : Int)))) fun r_4 => (exit (!r_4)))))))))
def nodeDq75_n0 (i : Iq75_n0) : Option Yq75_n0 := nodeq75_n0 i some
theorem nodeq75_n0_nat (i : Iq75_n0) (k : Yq75_n0 → Ans) : nodeq75_n0 i k = bindO (nodeDq75_n0 i) k := by
  obtain ⟨o0_0,o0_1,o0_2,o0_3,o0_4,o0_5,o0_6⟩ := i
  simp only [nodeDq75_n0,nodeq75_n0,bindO_cond,bindO_assoc,bindO_none,bindO_pure,bindO_elim,bindO_unP,bindO_empty]
theorem nodeq75_n0_ok (i : Iq75_n0) (K : Ex → St → Ans) : codeI Tryz.tab envq75 noHint (codeD Tryz.tab envq75 noHint 0 64) 70 36 annLq75_n0 Lq75_n0 (weakP 0 (exk [35] [2] []) K) (Sq75_n0 i) = nodeq75_n0 i (outq75_n0 i K) := by kernel_rfl
theorem GNq75_n0_ok : CSum Tryz.prog 36 Lq75_n0 (sumN decq75_n0 nodeDq75_n0 outq75_n0) := csum_node mixed tabOk envq75Ok 0 (exk [35] [2] []) annLq75_n0_ok decq75_n0_ok nodeq75_n0_ok nodeq75_n0_nat
noncomputable def Gq75_n0 : (Ex → St → Ans) → St → Ans := (sumN decq75_n0 nodeDq75_n0 outq75_n0)
theorem Gq75_n0_ok : CSum Tryz.prog 36 Lq75_n0 Gq75_n0 := GNq75_n0_ok
noncomputable def annq75 : Ann := (.seq .none (.seq .none (.seq (.seq (.cut 0 [1] Gq75_n0) .none) .none)))
theorem annq75_ok : AnnOk Tryz.prog 36 bq75 annq75 := ⟨(annOk_none _ _ _),⟨(annOk_none _ _ _),⟨⟨Gq75_n0_ok,(annOk_none _ _ _)⟩,(annOk_none _ _ _)⟩⟩⟩
abbrev Aq75 := (Int) × (Int) × (Int) × (Int) × (Int) × (Int) × (Int)
abbrev Yq75 := (Int)
def fnq75 {β : Type} : Aq75 → (Yq75 → Option β) → Option β := fun (a0_0,a0_1,a0_2,a0_3,a0_4,a0_5,a0_6) exit => (bindO (fnDq23 (a0_4,a0_5,a0_6)) fun r => (bif r != (0 : Int) then (exit (r)) else (bindO (nodeDq75_n0 (a0_0,a0_1,a0_2,a0_3,a0_4,a0_5,a0_6)) fun t35 => (bif t35 then (exit ((3 : Int))) else (exit ((0 : Int)))))))
def fnDq75 (a : Aq75) : Option Yq75 := fnq75 a some
theorem fnq75_nat (a : Aq75) (k : Yq75 → Ans) : fnq75 a k = bindO (fnDq75 a) k := by
  obtain ⟨a0_0,a0_1,a0_2,a0_3,a0_4,a0_5,a0_6⟩ := a
  simp only [fnDq75,fnq75,bindO_cond,bindO_assoc,bindO_none,bindO_pure,bindO_elim,bindO_unP,bindO_empty]
def argsq75 : Aq75 → List AV := fun (a0_0,a0_1,a0_2,a0_3,a0_4,a0_5,a0_6) => [.agg [.int .i64 a0_0,.int .i64 a0_1,.int .i64 a0_2,.int .i64 a0_3,.int .i64 a0_4,.int .i64 a0_5,.int .i64 a0_6]]
def decPAq75 (l : List AV) : Option {a : Aq75 // l = argsq75 a} := match l with
  | [.agg [.int .i64 a0_0,.int .i64 a0_1,.int .i64 a0_2,.int .i64 a0_3,.int .i64 a0_4,.int .i64 a0_5,.int .i64 a0_6]] => some ⟨(a0_0,a0_1,a0_2,a0_3,a0_4,a0_5,a0_6),rfl⟩
  | _ => none
def decAq75 (l : List AV) : Option Aq75 := pk (decPAq75 l)
theorem decAq75_ok (l : List AV) (a : Aq75) (h : decAq75 l = some a) : l = argsq75 a := pk_ok (o := decPAq75 l) h
def rendq75 : Aq75 → Yq75 → AV := fun (a0_0,a0_1,a0_2,a0_3,a0_4,a0_5,a0_6) => fun r_y => .int .i64 r_y
theorem rendq75_ok : ∀ (a : Aq75) (y : Yq75),(rendq75 a y).closed1 = true := by
  rintro ⟨a0_0,a0_1,a0_2,a0_3,a0_4,a0_5,a0_6⟩ y <;> first | rfl | exact Empty.elim y
theorem fnq75_ok (a : Aq75) : fnE Tryz.tab envq75 noHint 0 70 45 Tryz.f45.ntmps Tryz.f45.results.toList annq75 bq75 (argsq75 a) [] (fun v _ => some (v,[])) = fnq75 a (fun y => some (rendq75 a y,[])) := by kernel_rfl
def vFq75 (a : Aq75) (K : AV → Ans) : Ans := bindO (fnDq75 a) fun y => K (rendq75 a y)
def Fq75 : List AV → (AV → Ans) → Ans := fun l K => bindO (decAq75 l) fun a => vFq75 a K
theorem Fq75_ok : PureOk Tryz.prog 45 Fq75 := pure_mkD (hint := noHint) (d := 0) (n := 70) mixed tabOk envq75Ok Tryz.func45 (bodySome (by kernel_rfl)) (by decide +kernel) annq75_ok decAq75_ok fnq75_ok fnq75_nat rendq75_ok
--@ super_Put
noncomputable def envq77 : Env := [(121,.pure Fq16),(123,.pure Fq4),(122,.pure Fq51),(45,.pure Fq75)]
theorem envq77Ok : EnvOk Tryz.prog envq77 := EnvOk.cons Fq16_ok (EnvOk.cons Fq4_ok (EnvOk.cons Fq51_ok (EnvOk.cons Fq75_ok (EnvOk.nil))))
noncomputable def bq77 : Code := Tryz.f43.body.getD .skip
noncomputable def Lq77_n0 : Code := codeAt [1,1,1,1,0,1,0,0] bq77
noncomputable def annLq77_n0 : Ann := .at 0 [1,5,31,32,33] (.loop .none)
theorem annLq77_n0_ok : AnnOk Tryz.prog 51 (.loop Lq77_n0) annLq77_n0 := annOk_at (annOk_none _ _ _)
abbrev Iq77_n0 := (Int) × (Int) × (Int) × (Int) × (Int) × (Int) × (Int) × (Int) × (List Int)
abbrev Yq77_n0 := (List UInt8)
abbrev Vq77_n0 := (List UInt8) × (Int)
def Sq77_n0 : Iq77_n0 → Vq77_n0 → St := fun (t32,o0_0,o0_1,o0_2,o0_3,o0_4,o0_5,o0_6,o1) (t5,t33) => { env := [(1,.ptr 0 0),(5,.str t5),(31,.own 1),(32,.int .i64 t32),(33,.int .i64 t33)],stk := [[]],H := [.cells [.int .i64 o0_0,.int .i64 o0_1,.int .i64 o0_2,.int .i64 o0_3,.int .i64 o0_4,.int .i64 o0_5,.int .i64 o0_6],.arr (.int .i64) o1],blk := 176128 }
def decPq77_n0 (s : St) : Option {x : Iq77_n0 × Vq77_n0 // s = Sq77_n0 x.1 x.2} := match s with
  | { env := [(1,.ptr 0 0),(5,.str t5),(31,.own 1),(32,.int .i64 t32),(33,.int .i64 t33)],stk := [[]],H := [.cells [.int .i64 o0_0,.int .i64 o0_1,.int .i64 o0_2,.int .i64 o0_3,.int .i64 o0_4,.int .i64 o0_5,.int .i64 o0_6],.arr (.int .i64) o1],blk := 176128 } => some ⟨((t32,o0_0,o0_1,o0_2,o0_3,o0_4,o0_5,o0_6,o1),(t5,t33)),rfl⟩
  | _ => none
def decq77_n0 (s : St) : Option (Iq77_n0 × Vq77_n0) := pk (decPq77_n0 s)
theorem decq77_n0_ok (s : St) (x : Iq77_n0 × Vq77_n0) (h : decq77_n0 s = some x) : s = Sq77_n0 x.1 x.2 := pk_ok (o := decPq77_n0 s) h
def outq77_n0 : Iq77_n0 → (Ex → St → Ans) → Yq77_n0 → Ans := fun (t32,o0_0,o0_1,o0_2,o0_3,o0_4,o0_5,o0_6,o1) K => fun t5_y => K (Ex.exit 0) { env := [(1,.ptr 0 0),(5,.str t5_y)],stk := [[]],H := [.cells [.int .i64 o0_0,.int .i64 o0_1,.int .i64 o0_2,.int .i64 o0_3,.int .i64 o0_4,.int .i64 o0_5,.int .i64 o0_6]],blk := 176128 }
def stepq77_n0 {β : Type} : Iq77_n0 → Vq77_n0 → (Vq77_n0 → Option β) → (Yq77_n0 → Option β) → Option β := fun (t32,o0_0,o0_1,o0_2,o0_3,o0_4,o0_5,o0_6,o1) (t5,t33) next exit => (bif decide (t33 < t32) then (bif inR t33 (List.length o1) then (bindO (o1[Int.toNat t33]?) fun x => (bindO (fnDq16 (t5,x,(1 : Int))) fun r => (next (r,IntKind.wrap .i64 (t33 + (1 : Int)))))) else none) else (exit (t5)))
def stepDq77_n0 (i : Iq77_n0) (v : Vq77_n0) : Option (Vq77_n0 ⊕ Yq77_n0) := stepq77_n0 i v (fun v => some (.inl v)) (fun y => some (.inr y))
theorem stepq77_n0_nat (i : Iq77_n0) (v : Vq77_n0) (next : Vq77_n0 → Ans) (exit : Yq77_n0 → Ans) : stepq77_n0 i v next exit = bindO (stepDq77_n0 i v) (Sum.elim next exit) := by
  obtain ⟨t32,o0_0,o0_1,o0_2,o0_3,o0_4,o0_5,o0_6,o1⟩ := i
  obtain ⟨t5,t33⟩ := v
  simp only [stepDq77_n0,stepq77_n0,bindO_cond,bindO_assoc,bindO_none,bindO_pure,bindO_elim,bindO_unP,bindO_empty,Sum.elim_inl,Sum.elim_inr]
theorem stepq77_n0_ok (n : Nat) (i : Iq77_n0) (v : Vq77_n0) (K : Ex → St → Ans) : codeI Tryz.tab envq77 noHint (codeD Tryz.tab envq77 noHint 0 64) (n+1) 51 annLq77_n0 (.loop Lq77_n0) (weakP 0 (exk [1,5] [2,3] [(0,[1,5])]) K) (Sq77_n0 i v) = stepq77_n0 i v (fun v' => codeI Tryz.tab envq77 noHint (codeD Tryz.tab envq77 noHint 0 64) n 51 annLq77_n0 (.loop Lq77_n0) (weakP 0 (exk [1,5] [2,3] [(0,[1,5])]) K) (Sq77_n0 i v')) (fun y => outq77_n0 i K y) := by kernel_rfl
theorem GNq77_n0_ok : CSum Tryz.prog 51 (.loop Lq77_n0) (sumL decq77_n0 stepDq77_n0 outq77_n0) := csum_loop mixed tabOk envq77Ok 0 (exk [1,5] [2,3] [(0,[1,5])]) annLq77_n0_ok decq77_n0_ok stepq77_n0_ok stepq77_n0_nat
noncomputable def Gq77_n0 : (Ex → St → Ans) → St → Ans := (sumL decq77_n0 stepDq77_n0 outq77_n0)
theorem Gq77_n0_ok : CSum Tryz.prog 51 (.loop Lq77_n0) Gq77_n0 := GNq77_n0_ok
noncomputable def annq77 : Ann := (.seq .none (.seq .none (.seq .none (.seq .none (.seq (.seq .none (.block (.cut 0 [1,5,31,32,33] Gq77_n0))) .none)))))
theorem annq77_ok : AnnOk Tryz.prog 51 bq77 annq77 := ⟨(annOk_none _ _ _),⟨(annOk_none _ _ _),⟨(annOk_none _ _ _),⟨(annOk_none _ _ _),⟨⟨(annOk_none _ _ _),Gq77_n0_ok⟩,(annOk_none _ _ _)⟩⟩⟩⟩⟩
abbrev Aq77 := (Int) × (Int) × (Int) × (Int) × (Int) × (Int) × (Int)
abbrev Yq77 := (List UInt8) × (Int)
def fnq77 {β : Type} : Aq77 → (Yq77 → Option β) → Option β := fun (a0_0,a0_1,a0_2,a0_3,a0_4,a0_5,a0_6) exit => (bindO (fnDq75 (a0_0,a0_1,a0_2,a0_3,a0_4,a0_5,a0_6)) fun r => (bif r != (0 : Int) then (exit ([],r)) else (bindO (fnDq16 ([(83 : UInt8)],a0_0,(1 : Int))) fun r_2 => (bindO (fnDq16 (r_2,a0_1,(1 : Int))) fun r_3 => (bindO (fnDq16 (r_3,a0_2,(4 : Int))) fun r_4 => (bindO (loopD (stepDq77_n0 ((↑(List.length [a0_3,a0_4,a0_5]) : Int),a0_0,a0_1,a0_2,a0_3,a0_4,a0_5,a0_6,[a0_3,a0_4,a0_5])) FUEL (r_4,(0 : Int))) fun t5 => (bindO (fnDq16 (t5,a0_6,(2 : Int))) fun r_5 => (bindO (fnDq4 (r_5)) fun r_6 => (bif Nat.ble (List.length r_5 + List.length r_6) (9223372036854775807 : Nat) then (bindO (fnDq51 (r_5 ++ r_6)) fun r_7 => (exit (r_7,(0 : Int)))) else none)))))))))
def fnDq77 (a : Aq77) : Option Yq77 := fnq77 a some
theorem fnq77_nat (a : Aq77) (k : Yq77 → Ans) : fnq77 a k = bindO (fnDq77 a) k := by
  obtain ⟨a0_0,a0_1,a0_2,a0_3,a0_4,a0_5,a0_6⟩ := a
  simp only [fnDq77,fnq77,bindO_cond,bindO_assoc,bindO_none,bindO_pure,bindO_elim,bindO_unP,bindO_empty]
def argsq77 : Aq77 → List AV := fun (a0_0,a0_1,a0_2,a0_3,a0_4,a0_5,a0_6) => [.agg [.int .i64 a0_0,.int .i64 a0_1,.int .i64 a0_2,.int .i64 a0_3,.int .i64 a0_4,.int .i64 a0_5,.int .i64 a0_6]]
def decPAq77 (l : List AV) : Option {a : Aq77 // l = argsq77 a} := match l with
  | [.agg [.int .i64 a0_0,.int .i64 a0_1,.int .i64 a0_2,.int .i64 a0_3,.int .i64 a0_4,.int .i64 a0_5,.int .i64 a0_6]] => some ⟨(a0_0,a0_1,a0_2,a0_3,a0_4,a0_5,a0_6),rfl⟩
  | _ => none
def decAq77 (l : List AV) : Option Aq77 := pk (decPAq77 l)
theorem decAq77_ok (l : List AV) (a : Aq77) (h : decAq77 l = some a) : l = argsq77 a := pk_ok (o := decPAq77 l) h
def rendq77 : Aq77 → Yq77 → AV := fun (a0_0,a0_1,a0_2,a0_3,a0_4,a0_5,a0_6) => unP fun r_0_y r_1_y => .tup [.str r_0_y,.int .i64 r_1_y]
theorem rendq77_ok : ∀ (a : Aq77) (y : Yq77),(rendq77 a y).closed1 = true := by
  rintro ⟨a0_0,a0_1,a0_2,a0_3,a0_4,a0_5,a0_6⟩ y <;> first | rfl | exact Empty.elim y
theorem fnq77_ok (a : Aq77) : fnE Tryz.tab envq77 noHint 0 70 43 Tryz.f43.ntmps Tryz.f43.results.toList annq77 bq77 (argsq77 a) [] (fun v _ => some (v,[])) = fnq77 a (fun y => some (rendq77 a y,[])) := by kernel_rfl
def vFq77 (a : Aq77) (K : AV → Ans) : Ans := bindO (fnDq77 a) fun y => K (rendq77 a y)
def Fq77 : List AV → (AV → Ans) → Ans := fun l K => bindO (decAq77 l) fun a => vFq77 a K
theorem Fq77_ok : PureOk Tryz.prog 43 Fq77 := pure_mkD (hint := noHint) (d := 0) (n := 70) mixed tabOk envq77Ok Tryz.func43 (bodySome (by kernel_rfl)) (by decide +kernel) annq77_ok decAq77_ok fnq77_ok fnq77_nat rendq77_ok
--@ shadow_Shadow_string_Loose
noncomputable def envq65 : Env := []
theorem envq65Ok : EnvOk Tryz.prog envq65 := EnvOk.nil
noncomputable def bq65 : Code := Tryz.f98.body.getD .skip
noncomputable def annq65 : Ann := .none
theorem annq65_ok : AnnOk Tryz.prog 10 bq65 annq65 := (annOk_none _ _ _)
abbrev Aq65 := (List (Int × List UInt8)) × (List (Int × List UInt8))
abbrev Yq65 := (Int)
def fnq65 {β : Type} : Aq65 → (Yq65 → Option β) → Option β := fun (o1,o2) exit => (exit ((↑(List.length o2) : Int)))
def fnDq65 (a : Aq65) : Option Yq65 := fnq65 a some
theorem fnq65_nat (a : Aq65) (k : Yq65 → Ans) : fnq65 a k = bindO (fnDq65 a) k := by
  obtain ⟨o1,o2⟩ := a
  simp only [fnDq65,fnq65,bindO_cond,bindO_assoc,bindO_none,bindO_pure,bindO_elim,bindO_unP,bindO_empty]
def argsq65 : Aq65 → List AV × List AE.Obj := fun (o1,o2) => ([.ptr 0 0],[.cells [.map 1,.map 2],.mp .i64 .str o1,.mp .i64 .str o2])
def decPAq65 (l : List AV) (H : List AE.Obj) : Option {a : Aq65 // (l,H) = argsq65 a} := match l,H with
  | [.ptr 0 0],[.cells [.map 1,.map 2],.mp .i64 .str o1,.mp .i64 .str o2] => some ⟨(o1,o2),rfl⟩
  | _,_ => none
def decAq65 (l : List AV) (H : List AE.Obj) : Option Aq65 := pk (decPAq65 l H)
theorem decAq65_ok (l : List AV) (H : List AE.Obj) (a : Aq65) (h : decAq65 l H = some a) : (l,H) = argsq65 a := pk_ok (o := decPAq65 l H) h
def outq65 : Aq65 → (AV → List AE.Obj → Ans) → Yq65 → Ans := fun (o1,o2) K => fun r_y => K (.int .i64 r_y) [.cells [.map 1,.map 2],.mp .i64 .str o1,.mp .i64 .str o2]
theorem fnq65_ok (a : Aq65) (K : AV → List AE.Obj → Ans) : fnE Tryz.tab envq65 noHint 0 70 98 Tryz.f98.ntmps Tryz.f98.results.toList annq65 bq65 (argsq65 a).1 (argsq65 a).2 K = fnq65 a (outq65 a K) := by kernel_rfl
def vFq65 (a : Aq65) (K : AV → List AE.Obj → Ans) : Ans := bindO (fnDq65 a) fun y => outq65 a K y
def Fq65 : List AV → List AE.Obj → (AV → List AE.Obj → Ans) → Ans := fun l H K => bindO (decAq65 l H) fun a => vFq65 a K
theorem Fq65_ok : FuncOk Tryz.prog 98 Fq65 := func_mkD (hint := noHint) (d := 0) (n := 70) mixed tabOk envq65Ok Tryz.func98 (bodySome (by kernel_rfl)) (by decide +kernel) annq65_ok decAq65_ok fnq65_ok fnq65_nat
--@ shadow_Shadow_string_Fresh
noncomputable def envq61 : Env := [(163,.func Fq68)]
theorem envq61Ok : EnvOk Tryz.prog envq61 := EnvOk.cons Fq68_ok (EnvOk.nil)
noncomputable def bq61 : Code := Tryz.f101.body.getD .skip
noncomputable def annq61 : Ann := .none
theorem annq61_ok : AnnOk Tryz.prog 11 bq61 annq61 := (annOk_none _ _ _)
abbrev Aq61 := (List (Int × List UInt8)) × (List (Int × List UInt8))
abbrev Yq61 := Unit
def fnq61 {β : Type} : Aq61 → (Yq61 → Option β) → Option β := fun (o1,o2) exit => (bindO (fnDq68 (o2)) fun _ => (exit ()))
def fnDq61 (a : Aq61) : Option Yq61 := fnq61 a some
theorem fnq61_nat (a : Aq61) (k : Yq61 → Ans) : fnq61 a k = bindO (fnDq61 a) k := by
  obtain ⟨o1,o2⟩ := a
  simp only [fnDq61,fnq61,bindO_cond,bindO_assoc,bindO_none,bindO_pure,bindO_elim,bindO_unP,bindO_empty]
def argsq61 : Aq61 → List AV × List AE.Obj := fun (o1,o2) => ([.ptr 0 0],[.cells [.map 1,.map 2],.mp .i64 .str o1,.mp .i64 .str o2])
def decPAq61 (l : List AV) (H : List AE.Obj) : Option {a : Aq61 // (l,H) = argsq61 a} := match l,H with
  | [.ptr 0 0],[.cells [.map 1,.map 2],.mp .i64 .str o1,.mp .i64 .str o2] => some ⟨(o1,o2),rfl⟩
  | _,_ => none
def decAq61 (l : List AV) (H : List AE.Obj) : Option Aq61 := pk (decPAq61 l H)
theorem decAq61_ok (l : List AV) (H : List AE.Obj) (a : Aq61) (h : decAq61 l H = some a) : (l,H) = argsq61 a := pk_ok (o := decPAq61 l H) h
def outq61 : Aq61 → (AV → List AE.Obj → Ans) → Yq61 → Ans := fun (o1,o2) K => fun _ => K (.fn (Fn.func 205) [] [.ptr 3 0]) [.cells [.map 1,.map 2],.mp .i64 .str o1,.mp .i64 .str o2,.cells [.map 2]]
theorem fnq61_ok (a : Aq61) (K : AV → List AE.Obj → Ans) : fnE Tryz.tab envq61 noHint 0 70 101 Tryz.f101.ntmps Tryz.f101.results.toList annq61 bq61 (argsq61 a).1 (argsq61 a).2 K = fnq61 a (outq61 a K) := by kernel_rfl
def vFq61 (a : Aq61) (K : AV → List AE.Obj → Ans) : Ans := bindO (fnDq61 a) fun y => outq61 a K y
def Fq61 : List AV → List AE.Obj → (AV → List AE.Obj → Ans) → Ans := fun l H K => bindO (decAq61 l H) fun a => vFq61 a K
theorem Fq61_ok : FuncOk Tryz.prog 101 Fq61 := func_mkD (hint := noHint) (d := 0) (n := 70) mixed tabOk envq61Ok Tryz.func101 (bodySome (by kernel_rfl)) (by decide +kernel) annq61_ok decAq61_ok fnq61_ok fnq61_nat
--@ shadow_Shadow_string_Get
noncomputable def envq62 : Env := []
theorem envq62Ok : EnvOk Tryz.prog envq62 := EnvOk.nil
noncomputable def bq62 : Code := Tryz.f113.body.getD .skip
noncomputable def annq62 : Ann := .none
theorem annq62_ok : AnnOk Tryz.prog 36 bq62 annq62 := (annOk_none _ _ _)
abbrev Aq62 := (Int) × (List (Int × List UInt8)) × (List (Int × List UInt8))
abbrev Yq62 := (List UInt8) × (Bool)
def fnq62 {β : Type} : Aq62 → (Yq62 → Option β) → Option β := fun (a1,o1,o2) exit => (bif mhas a1 o2 then (exit (mget a1 [] o2,true)) else (exit (mget a1 [] o1,mhas a1 o1)))
def fnDq62 (a : Aq62) : Option Yq62 := fnq62 a some
theorem fnq62_nat (a : Aq62) (k : Yq62 → Ans) : fnq62 a k = bindO (fnDq62 a) k := by
  obtain ⟨a1,o1,o2⟩ := a
  simp only [fnDq62,fnq62,bindO_cond,bindO_assoc,bindO_none,bindO_pure,bindO_elim,bindO_unP,bindO_empty]
def argsq62 : Aq62 → List AV × List AE.Obj := fun (a1,o1,o2) => ([.ptr 0 0,.int .i64 a1],[.cells [.map 1,.map 2],.mp .i64 .str o1,.mp .i64 .str o2])
def decPAq62 (l : List AV) (H : List AE.Obj) : Option {a : Aq62 // (l,H) = argsq62 a} := match l,H with
  | [.ptr 0 0,.int .i64 a1],[.cells [.map 1,.map 2],.mp .i64 .str o1,.mp .i64 .str o2] => some ⟨(a1,o1,o2),rfl⟩
  | _,_ => none
def decAq62 (l : List AV) (H : List AE.Obj) : Option Aq62 := pk (decPAq62 l H)
theorem decAq62_ok (l : List AV) (H : List AE.Obj) (a : Aq62) (h : decAq62 l H = some a) : (l,H) = argsq62 a := pk_ok (o := decPAq62 l H) h
def outq62 : Aq62 → (AV → List AE.Obj → Ans) → Yq62 → Ans := fun (a1,o1,o2) K => unP fun r_0_y r_1_y => K (.tup [.str r_0_y,.bool r_1_y]) [.cells [.map 1,.map 2],.mp .i64 .str o1,.mp .i64 .str o2]
theorem fnq62_ok (a : Aq62) (K : AV → List AE.Obj → Ans) : fnE Tryz.tab envq62 noHint 0 70 113 Tryz.f113.ntmps Tryz.f113.results.toList annq62 bq62 (argsq62 a).1 (argsq62 a).2 K = fnq62 a (outq62 a K) := by kernel_rfl
def vFq62 (a : Aq62) (K : AV → List AE.Obj → Ans) : Ans := bindO (fnDq62 a) fun y => outq62 a K y
def Fq62 : List AV → List AE.Obj → (AV → List AE.Obj → Ans) → Ans := fun l H K => bindO (decAq62 l H) fun a => vFq62 a K
theorem Fq62_ok : FuncOk Tryz.prog 113 Fq62 := func_mkD (hint := noHint) (d := 0) (n := 70) mixed tabOk envq62Ok Tryz.func113 (bodySome (by kernel_rfl)) (by decide +kernel) annq62_ok decAq62_ok fnq62_ok fnq62_nat
--@ super_Get
noncomputable def envq76 : Env := [(123,.pure Fq4),(129,.func Fq15),(130,.func Fq17),(131,.func Fq18),(43,.pure Fq77)]
theorem envq76Ok : EnvOk Tryz.prog envq76 := EnvOk.cons Fq4_ok (EnvOk.cons Fq15_ok (EnvOk.cons Fq17_ok (EnvOk.cons Fq18_ok (EnvOk.cons Fq77_ok (EnvOk.nil)))))
noncomputable def bq76 : Code := Tryz.f47.body.getD .skip
noncomputable def Lq76_n0 : Code := codeAt [1,1,1,1,1,1,1,1,0,1,0] bq76
noncomputable def annLq76_n0 : Ann := .none
theorem annLq76_n0_ok : AnnOk Tryz.prog 63 Lq76_n0 annLq76_n0 := (annOk_none _ _ _)
abbrev Iq76_n0 := (List UInt8) × (List UInt8) × (Int) × (Int) × (Int) × (Int) × (Int) × (Int) × (Int) × (Int)
abbrev Yq76_n0 := (Bool)
def Sq76_n0 : Iq76_n0 → St := fun (t0,t7,t8,o1_0,o1_1,o1_2,o1_3,o1_4,o1_5,o1_6) => { env := [(0,.str t0),(2,.ptr 0 0),(4,.ptr 1 0),(7,.str t7),(8,.int .i64 t8)],stk := [[]],H := [.cells [.int .i64 (0),.int .i64 (0),.int .i64 (0),.int .i64 (0),.int .i64 (0),.int .i64 (0),.int .i64 (0)],.cells [.int .i64 o1_0,.int .i64 o1_1,.int .i64 o1_2,.int .i64 o1_3,.int .i64 o1_4,.int .i64 o1_5,.int .i64 o1_6]],blk := 192512 }
def decPq76_n0 (s : St) : Option {x : Iq76_n0 // s = Sq76_n0 x} := match s with
  | { env := [(0,.str t0),(2,.ptr 0 0),(4,.ptr 1 0),(7,.str t7),(8,.int .i64 t8)],stk := [[]],H := [.cells [.int .i64 r3,.int .i64 r4,.int .i64 r5,.int .i64 r6,.int .i64 r7,.int .i64 r8,.int .i64 r9],.cells [.int .i64 o1_0,.int .i64 o1_1,.int .i64 o1_2,.int .i64 o1_3,.int .i64 o1_4,.int .i64 o1_5,.int .i64 o1_6]],blk := 192512 } => if h3 : r3 = 0 then if h4 : r4 = 0 then if h5 : r5 = 0 then if h6 : r6 = 0 then if h7 : r7 = 0 then if h8 : r8 = 0 then if h9 : r9 = 0 then some ⟨(t0,t7,t8,o1_0,o1_1,o1_2,o1_3,o1_4,o1_5,o1_6),by subst h3 h4 h5 h6 h7 h8 h9; rfl⟩ else none else none else none else none else none else none else none
  | _ => none
def decq76_n0 (s : St) : Option Iq76_n0 := pk (decPq76_n0 s)
theorem decq76_n0_ok (s : St) (x : Iq76_n0) (h : decq76_n0 s = some x) : s = Sq76_n0 x := pk_ok (o := decPq76_n0 s) h
def outq76_n0 : Iq76_n0 → (Ex → St → Ans) → Yq76_n0 → Ans := fun (t0,t7,t8,o1_0,o1_1,o1_2,o1_3,o1_4,o1_5,o1_6) K => fun t60_y => K (Ex.norm) { env := [(2,.ptr 0 0),(4,.ptr 1 0),(60,.bool t60_y)],stk := [[]],H := [.cells [.int .i64 (0),.int .i64 (0),.int .i64 (0),.int .i64 (0),.int .i64 (0),.int .i64 (0),.int .i64 (0)],.cells [.int .i64 o1_0,.int .i64 o1_1,.int .i64 o1_2,.int .i64 o1_3,.int .i64 o1_4,.int .i64 o1_5,.int .i64 o1_6]],blk := 192512 }
def nodeq76_n0 {β : Type} : Iq76_n0 → (Yq76_n0 → Option β) → Option β := fun (t0,t7,t8,o1_0,o1_1,o1_2,o1_3,o1_4,o1_5,o1_6) exit => (bif t8 != (0 : Int) then (exit (true)) else (exit (!t7 == t0)))
def nodeDq76_n0 (i : Iq76_n0) : Option Yq76_n0 := nodeq76_n0 i some
theorem nodeq76_n0_nat (i : Iq76_n0) (k : Yq76_n0 → Ans) : nodeq76_n0 i k = bindO (nodeDq76_n0 i) k := by
  obtain ⟨t0,t7,t8,o1_0,o1_1,o1_2,o1_3,o1_4,o1_5,o1_6⟩ := i
  simp only [nodeDq76_n0,nodeq76_n0,bindO_cond,bindO_assoc,bindO_none,bindO_pure,bindO_elim,bindO_unP,bindO_empty]
theorem nodeq76_n0_ok (i : Iq76_n0) (K : Ex → St → Ans) : codeI Tryz.tab envq76 noHint (codeD Tryz.tab envq76 noHint 0 64) 70 63 annLq76_n0 Lq76_n0 (weakP 0 (exk [2,4,60] [2,3] []) K) (Sq76_n0 i) = nodeq76_n0 i (outq76_n0 i K) := by kernel_rfl
theorem GNq76_n0_ok : CSum Tryz.prog 63 Lq76_n0 (sumN decq76_n0 nodeDq76_n0 outq76_n0) := csum_node mixed tabOk envq76Ok 0 (exk [2,4,60] [2,3] []) annLq76_n0_ok decq76_n0_ok nodeq76_n0_ok nodeq76_n0_nat
noncomputable def Gq76_n0 : (Ex → St → Ans) → St → Ans := (sumN decq76_n0 nodeDq76_n0 outq76_n0)
theorem Gq76_n0_ok : CSum Tryz.prog 63 Lq76_n0 Gq76_n0 := GNq76_n0_ok
noncomputable def annq76 : Ann := (.seq .none (.seq .none (.seq .none (.seq .none (.seq .none (.seq .none (.seq .none (.seq .none (.seq (.seq .none (.seq (.cut 0 [0,2,4,7,8] Gq76_n0) .none)) .none)))))))))
theorem annq76_ok : AnnOk Tryz.prog 63 bq76 annq76 := ⟨(annOk_none _ _ _),⟨(annOk_none _ _ _),⟨(annOk_none _ _ _),⟨(annOk_none _ _ _),⟨(annOk_none _ _ _),⟨(annOk_none _ _ _),⟨(annOk_none _ _ _),⟨(annOk_none _ _ _),⟨⟨(annOk_none _ _ _),⟨Gq76_n0_ok,(annOk_none _ _ _)⟩⟩,(annOk_none _ _ _)⟩⟩⟩⟩⟩⟩⟩⟩⟩
abbrev Aq76 := (List UInt8)
abbrev Yq76 := (Int) × (Int) × (Int) × (Int) × (Int) × (Int) × (Int) × (Int)
def fnq76 {β : Type} : Aq76 → (Yq76 → Option β) → Option β := fun a0 exit => (bif (↑(List.length a0) : Int) != (64 : Int) then (exit ((0 : Int),(0 : Int),(0 : Int),(0 : Int),(0 : Int),(0 : Int),(0 : Int),(12 : Int))) else (bindO (fnDq15 (a0)) fun _ => (bindO (fnDq17 ((1 : Int),a0,(0 : Int))) (unP fun r => unP fun o0_0 o0_1 => (bif !r == [(83 : UInt8)] then (exit ((0 : Int),(0 : Int),(0 : Int),(0 : Int),(0 : Int),(0 : Int),(0 : Int),(4 : Int))) else (bindO (fnDq18 ((1 : Int),o0_0,o0_1)) (unP fun r_2 => unP fun o0_0_2 o0_1_2 => (bindO (fnDq18 ((1 : Int),o0_0_2,o0_1_2)) (unP fun r_3 => unP fun o0_0_3 o0_1_3 => (bindO (fnDq18 ((4 : Int),o0_0_3,o0_1_3)) (unP fun r_4 => unP fun o0_0_4 o0_1_4 => (bindO (fnDq18 ((1 : Int),o0_0_4,o0_1_4)) (unP fun r_5 => unP fun o0_0_5 o0_1_5 => (bindO (fnDq18 ((1 : Int),o0_0_5,o0_1_5)) (unP fun r_6 => unP fun o0_0_6 o0_1_6 => (bindO (fnDq18 ((1 : Int),o0_0_6,o0_1_6)) (unP fun r_7 => unP fun o0_0_7 o0_1_7 => (bindO (fnDq18 ((2 : Int),o0_0_7,o0_1_7)) (unP fun r_8 => unP fun o0_0_8 o0_1_8 => (bif inR (12 : Int) (List.length a0 + (1 : Nat)) then (bindO (fnDq4 (List.take (12 : Nat) a0)) fun r_9 => (bindO (fnDq17 ((↑(List.length r_9) : Int),o0_0_8,o0_1_8)) (unP fun r_10 => unP fun o0_0_9 o0_1_9 => (bif !r_10 == r_9 then (exit ((0 : Int),(0 : Int),(0 : Int),(0 : Int),(0 : Int),(0 : Int),(0 : Int),(5 : Int))) else (bindO (fnDq77 (r_2,r_3,r_4,r_5,r_6,r_7,r_8)) (unP fun r_0 r_1 => (bindO (nodeDq76_n0 (a0,r_0,r_1,r_2,r_3,r_4,r_5,r_6,r_7,r_8)) fun t60 => (bif t60 then (exit ((0 : Int),(0 : Int),(0 : Int),(0 : Int),(0 : Int),(0 : Int),(0 : Int),(4 : Int))) else (exit (r_2,r_3,r_4,r_5,r_6,r_7,r_8,(0 : Int))))))))))) else none))))))))))))))))))))
def fnDq76 (a : Aq76) : Option Yq76 := fnq76 a some
theorem fnq76_nat (a : Aq76) (k : Yq76 → Ans) : fnq76 a k = bindO (fnDq76 a) k := by
  obtain z := a
  simp only [fnDq76,fnq76,bindO_cond,bindO_assoc,bindO_none,bindO_pure,bindO_elim,bindO_unP,bindO_empty]
def argsq76 : Aq76 → List AV := fun a0 => [.str a0]
def decPAq76 (l : List AV) : Option {a : Aq76 // l = argsq76 a} := match l with
  | [.str a0] => some ⟨(a0),rfl⟩
  | _ => none
def decAq76 (l : List AV) : Option Aq76 := pk (decPAq76 l)
theorem decAq76_ok (l : List AV) (a : Aq76) (h : decAq76 l = some a) : l = argsq76 a := pk_ok (o := decPAq76 l) h
def rendq76 : Aq76 → Yq76 → AV := fun a0 => unP fun r_0_0_y => unP fun r_0_1_y => unP fun r_0_2_y => unP fun r_0_3_y => unP fun r_0_4_y => unP fun r_0_5_y => unP fun r_0_6_y r_1_y => .tup [.agg [.int .i64 r_0_0_y,.int .i64 r_0_1_y,.int .i64 r_0_2_y,.int .i64 r_0_3_y,.int .i64 r_0_4_y,.int .i64 r_0_5_y,.int .i64 r_0_6_y],.int .i64 r_1_y]
theorem rendq76_ok : ∀ (a : Aq76) (y : Yq76),(rendq76 a y).closed1 = true := by
  rintro z y <;> first | rfl | exact Empty.elim y
theorem fnq76_ok (a : Aq76) : fnE Tryz.tab envq76 noHint 0 70 47 Tryz.f47.ntmps Tryz.f47.results.toList annq76 bq76 (argsq76 a) [] (fun v _ => some (v,[])) = fnq76 a (fun y => some (rendq76 a y,[])) := by kernel_rfl
def vFq76 (a : Aq76) (K : AV → Ans) : Ans := bindO (fnDq76 a) fun y => K (rendq76 a y)
def Fq76 : List AV → (AV → Ans) → Ans := fun l K => bindO (decAq76 l) fun a => vFq76 a K
theorem Fq76_ok : PureOk Tryz.prog 47 Fq76 := pure_mkD (hint := noHint) (d := 0) (n := 70) mixed tabOk envq76Ok Tryz.func47 (bodySome (by kernel_rfl)) (by decide +kernel) annq76_ok decAq76_ok fnq76_ok fnq76_nat rendq76_ok
--@ ref15_Check
noncomputable def envq46 : Env := []
theorem envq46Ok : EnvOk Tryz.prog envq46 := EnvOk.nil
noncomputable def bq46 : Code := Tryz.f128.body.getD .skip
noncomputable def Lq46_n0 : Code := codeAt [1,0,0] bq46
noncomputable def annLq46_n0 : Ann := .none
theorem annLq46_n0_ok : AnnOk Tryz.prog 31 Lq46_n0 annLq46_n0 := (annOk_none _ _ _)
abbrev Iq46_n0 := (Int) × (Int) × (Int)
abbrev Yq46_n0 := (Bool)
def Sq46_n0 : Iq46_n0 → St := fun (o0_0,o0_1,o0_2) => { env := [(1,.ptr 0 0)],stk := [[]],H := [.cells [.int .i64 o0_0,.int .i64 o0_1,.int .i64 o0_2]],blk := 524288 }
def decPq46_n0 (s : St) : Option {x : Iq46_n0 // s = Sq46_n0 x} := match s with
  | { env := [(1,.ptr 0 0)],stk := [[]],H := [.cells [.int .i64 o0_0,.int .i64 o0_1,.int .i64 o0_2]],blk := 524288 } => some ⟨(o0_0,o0_1,o0_2),rfl⟩
  | _ => none
def decq46_n0 (s : St) : Option Iq46_n0 := pk (decPq46_n0 s)
theorem decq46_n0_ok (s : St) (x : Iq46_n0) (h : decq46_n0 s = some x) : s = Sq46_n0 x := pk_ok (o := decPq46_n0 s) h
def outq46_n0 : Iq46_n0 → (Ex → St → Ans) → Yq46_n0 → Ans := fun (o0_0,o0_1,o0_2) K => fun t30_y => K (Ex.norm) { env := [(30,.bool t30_y)],stk := [[]],H := [],blk := 524288 }
def nodeq46_n0 {β : Type} : Iq46_n0 → (Yq46_n0 → Option β) → Option β := fun (o0_0,o0_1,o0_2) exit => (bif decide (o0_0 < (1 : Int)) then (exit (true)) else (bif decide (o0_0 > (24 : Int)) then (exit (true)) else (bif decide (o0_1 < (1 : Int)) then (exit (true)) else (bif decide (o0_1 > (8 : Int)) then (exit (true)) else (bif decide (o0_2 < (24 : Int)) then (exit (true)) else (exit (decide (o0_2 > (200 : Int)))))))))
def nodeDq46_n0 (i : Iq46_n0) : Option Yq46_n0 := nodeq46_n0 i some
theorem nodeq46_n0_nat (i : Iq46_n0) (k : Yq46_n0 → Ans) : nodeq46_n0 i k = bindO (nodeDq46_n0 i) k := by
  obtain ⟨o0_0,o0_1,o0_2⟩ := i
  simp only [nodeDq46_n0,nodeq46_n0,bindO_cond,bindO_assoc,bindO_none,bindO_pure,bindO_elim,bindO_unP,bindO_empty]
theorem nodeq46_n0_ok (i : Iq46_n0) (K : Ex → St → Ans) : codeI Tryz.tab envq46 noHint (codeD Tryz.tab envq46 noHint 0 64) 70 31 annLq46_n0 Lq46_n0 (weakP 0 (exk [30] [2] []) K) (Sq46_n0 i) = nodeq46_n0 i (outq46_n0 i K) := by kernel_rfl
theorem GNq46_n0_ok : CSum Tryz.prog 31 Lq46_n0 (sumN decq46_n0 nodeDq46_n0 outq46_n0) := csum_node mixed tabOk envq46Ok 0 (exk [30] [2] []) annLq46_n0_ok decq46_n0_ok nodeq46_n0_ok nodeq46_n0_nat
noncomputable def Gq46_n0 : (Ex → St → Ans) → St → Ans := (sumN decq46_n0 nodeDq46_n0 outq46_n0)
theorem Gq46_n0_ok : CSum Tryz.prog 31 Lq46_n0 Gq46_n0 := GNq46_n0_ok
noncomputable def annq46 : Ann := (.seq .none (.seq (.seq (.cut 0 [1] Gq46_n0) .none) .none))
theorem annq46_ok : AnnOk Tryz.prog 31 bq46 annq46 := ⟨(annOk_none _ _ _),⟨⟨Gq46_n0_ok,(annOk_none _ _ _)⟩,(annOk_none _ _ _)⟩⟩
abbrev Aq46 := (Int) × (Int) × (Int)
abbrev Yq46 := (Int)
def fnq46 {β : Type} : Aq46 → (Yq46 → Option β) → Option β := fun (a0_0,a0_1,a0_2) exit => (bindO (nodeDq46_n0 (a0_0,a0_1,a0_2)) fun t30 => (bif t30 then (exit ((3 : Int))) else (exit ((0 : Int)))))
def fnDq46 (a : Aq46) : Option Yq46 := fnq46 a some
theorem fnq46_nat (a : Aq46) (k : Yq46 → Ans) : fnq46 a k = bindO (fnDq46 a) k := by
  obtain ⟨a0_0,a0_1,a0_2⟩ := a
  simp only [fnDq46,fnq46,bindO_cond,bindO_assoc,bindO_none,bindO_pure,bindO_elim,bindO_unP,bindO_empty]
def argsq46 : Aq46 → List AV := fun (a0_0,a0_1,a0_2) => [.agg [.int .i64 a0_0,.int .i64 a0_1,.int .i64 a0_2]]
def decPAq46 (l : List AV) : Option {a : Aq46 // l = argsq46 a} := match l with
  | [.agg [.int .i64 a0_0,.int .i64 a0_1,.int .i64 a0_2]] => some ⟨(a0_0,a0_1,a0_2),rfl⟩
  | _ => none
def decAq46 (l : List AV) : Option Aq46 := pk (decPAq46 l)
theorem decAq46_ok (l : List AV) (a : Aq46) (h : decAq46 l = some a) : l = argsq46 a := pk_ok (o := decPAq46 l) h
def rendq46 : Aq46 → Yq46 → AV := fun (a0_0,a0_1,a0_2) => fun r_y => .int .i64 r_y
theorem rendq46_ok : ∀ (a : Aq46) (y : Yq46),(rendq46 a y).closed1 = true := by
  rintro ⟨a0_0,a0_1,a0_2⟩ y <;> first | rfl | exact Empty.elim y
theorem fnq46_ok (a : Aq46) : fnE Tryz.tab envq46 noHint 0 70 128 Tryz.f128.ntmps Tryz.f128.results.toList annq46 bq46 (argsq46 a) [] (fun v _ => some (v,[])) = fnq46 a (fun y => some (rendq46 a y,[])) := by kernel_rfl
def vFq46 (a : Aq46) (K : AV → Ans) : Ans := bindO (fnDq46 a) fun y => K (rendq46 a y)
def Fq46 : List AV → (AV → Ans) → Ans := fun l K => bindO (decAq46 l) fun a => vFq46 a K
theorem Fq46_ok : PureOk Tryz.prog 128 Fq46 := pure_mkD (hint := noHint) (d := 0) (n := 70) mixed tabOk envq46Ok Tryz.func128 (bodySome (by kernel_rfl)) (by decide +kernel) annq46_ok decAq46_ok fnq46_ok fnq46_nat rendq46_ok
--@ ref16_Check
noncomputable def envq47 : Env := [(128,.pure Fq46)]
theorem envq47Ok : EnvOk Tryz.prog envq47 := EnvOk.cons Fq46_ok (EnvOk.nil)
noncomputable def bq47 : Code := Tryz.f46.body.getD .skip
noncomputable def Lq47_n0 : Code := codeAt [1,0,0] bq47
noncomputable def annLq47_n0 : Ann := .none
theorem annLq47_n0_ok : AnnOk Tryz.prog 50 Lq47_n0 annLq47_n0 := (annOk_none _ _ _)
abbrev Iq47_n0 := (Int) × (Int) × (Int) × (Int) × (Int) × (Int) × (Int)
abbrev Yq47_n0 := (Bool)
def Sq47_n0 : Iq47_n0 → St := fun (o0_0,o0_1,o0_2,o0_3,o0_4,o0_5,o0_6) => { env := [(1,.ptr 0 0)],stk := [[]],H := [.cells [.int .i64 o0_0,.int .i64 o0_1,.int .i64 o0_2,.int .i64 o0_3,.int .i64 o0_4,.int .i64 o0_5,.int .i64 o0_6]],blk := 188416 }
def decPq47_n0 (s : St) : Option {x : Iq47_n0 // s = Sq47_n0 x} := match s with
  | { env := [(1,.ptr 0 0)],stk := [[]],H := [.cells [.int .i64 o0_0,.int .i64 o0_1,.int .i64 o0_2,.int .i64 o0_3,.int .i64 o0_4,.int .i64 o0_5,.int .i64 o0_6]],blk := 188416 } => some ⟨(o0_0,o0_1,o0_2,o0_3,o0_4,o0_5,o0_6),rfl⟩
  | _ => none
def decq47_n0 (s : St) : Option Iq47_n0 := pk (decPq47_n0 s)
theorem decq47_n0_ok (s : St) (x : Iq47_n0) (h : decq47_n0 s = some x) : s = Sq47_n0 x := pk_ok (o := decPq47_n0 s) h
def outq47_n0 : Iq47_n0 → (Ex → St → Ans) → Yq47_n0 → Ans := fun (o0_0,o0_1,o0_2,o0_3,o0_4,o0_5,o0_6) K => fun t49_y => K (Ex.norm) { env := [(49,.bool t49_y)],stk := [[]],H := [],blk := 188416 }
def nodeq47_n0 {β : Type} : Iq47_n0 → (Yq47_n0 → Option β) → Option β := fun (o0_0,o0_1,o0_2,o0_3,o0_4,o0_5,o0_6) exit => (bindO (fnDq46 (o0_4,o0_5,o0_6)) fun r => (bif r != (0 : Int) then (exit (true)) else (bif decide (o0_0 < (0 : Int)) then (exit (true)) else (bif decide (o0_0 > (1 : Int)) then (exit (true)) else (bif decide (o0_1 < (0 : Int)) then (exit (true)) else (bif decide (o0_1 > (1 : Int)) then (exit (true)) else (bif decide (o0_2 < (0 : Int)) then (exit (true)) else (bif decide (o0_2 > (16777216 : Int)) then (exit (true)) else (bif decide (o0_3 < (0 : Int)) then (exit (true)) else (exit (decide (o0_3 ≥ o0_4))))))))))))
def nodeDq47_n0 (i : Iq47_n0) : Option Yq47_n0 := nodeq47_n0 i some
theorem nodeq47_n0_nat (i : Iq47_n0) (k : Yq47_n0 → Ans) : nodeq47_n0 i k = bindO (nodeDq47_n0 i) k := by
  obtain ⟨o0_0,o0_1,o0_2,o0_3,o0_4,o0_5,o0_6⟩ := i
  simp only [nodeDq47_n0,nodeq47_n0,bindO_cond,bindO_assoc,bindO_none,bindO_pure,bindO_elim,bindO_unP,bindO_empty]
theorem nodeq47_n0_ok (i : Iq47_n0) (K : Ex → St → Ans) : codeI Tryz.tab envq47 noHint (codeD Tryz.tab envq47 noHint 0 64) 70 50 annLq47_n0 Lq47_n0 (weakP 0 (exk [49] [2] []) K) (Sq47_n0 i) = nodeq47_n0 i (outq47_n0 i K) := by kernel_rfl
theorem GNq47_n0_ok : CSum Tryz.prog 50 Lq47_n0 (sumN decq47_n0 nodeDq47_n0 outq47_n0) := csum_node mixed tabOk envq47Ok 0 (exk [49] [2] []) annLq47_n0_ok decq47_n0_ok nodeq47_n0_ok nodeq47_n0_nat
noncomputable def Gq47_n0 : (Ex → St → Ans) → St → Ans := (sumN decq47_n0 nodeDq47_n0 outq47_n0)
theorem Gq47_n0_ok : CSum Tryz.prog 50 Lq47_n0 Gq47_n0 := GNq47_n0_ok
noncomputable def annq47 : Ann := (.seq .none (.seq (.seq (.cut 0 [1] Gq47_n0) .none) .none))
theorem annq47_ok : AnnOk Tryz.prog 50 bq47 annq47 := ⟨(annOk_none _ _ _),⟨⟨Gq47_n0_ok,(annOk_none _ _ _)⟩,(annOk_none _ _ _)⟩⟩
abbrev Aq47 := (Int) × (Int) × (Int) × (Int) × (Int) × (Int) × (Int)
abbrev Yq47 := (Int)
def fnq47 {β : Type} : Aq47 → (Yq47 → Option β) → Option β := fun (a0_0,a0_1,a0_2,a0_3,a0_4,a0_5,a0_6) exit => (bindO (nodeDq47_n0 (a0_0,a0_1,a0_2,a0_3,a0_4,a0_5,a0_6)) fun t49 => (bif t49 then (exit ((3 : Int))) else (exit ((0 : Int)))))
def fnDq47 (a : Aq47) : Option Yq47 := fnq47 a some
theorem fnq47_nat (a : Aq47) (k : Yq47 → Ans) : fnq47 a k = bindO (fnDq47 a) k := by
  obtain ⟨a0_0,a0_1,a0_2,a0_3,a0_4,a0_5,a0_6⟩ := a
  simp only [fnDq47,fnq47,bindO_cond,bindO_assoc,bindO_none,bindO_pure,bindO_elim,bindO_unP,bindO_empty]
def argsq47 : Aq47 → List AV := fun (a0_0,a0_1,a0_2,a0_3,a0_4,a0_5,a0_6) => [.agg [.int .i64 a0_0,.int .i64 a0_1,.int .i64 a0_2,.int .i64 a0_3,.int .i64 a0_4,.int .i64 a0_5,.int .i64 a0_6]]
def decPAq47 (l : List AV) : Option {a : Aq47 // l = argsq47 a} := match l with
  | [.agg [.int .i64 a0_0,.int .i64 a0_1,.int .i64 a0_2,.int .i64 a0_3,.int .i64 a0_4,.int .i64 a0_5,.int .i64 a0_6]] => some ⟨(a0_0,a0_1,a0_2,a0_3,a0_4,a0_5,a0_6),rfl⟩
  | _ => none
def decAq47 (l : List AV) : Option Aq47 := pk (decPAq47 l)
theorem decAq47_ok (l : List AV) (a : Aq47) (h : decAq47 l = some a) : l = argsq47 a := pk_ok (o := decPAq47 l) h
def rendq47 : Aq47 → Yq47 → AV := fun (a0_0,a0_1,a0_2,a0_3,a0_4,a0_5,a0_6) => fun r_y => .int .i64 r_y
theorem rendq47_ok : ∀ (a : Aq47) (y : Yq47),(rendq47 a y).closed1 = true := by
  rintro ⟨a0_0,a0_1,a0_2,a0_3,a0_4,a0_5,a0_6⟩ y <;> first | rfl | exact Empty.elim y
theorem fnq47_ok (a : Aq47) : fnE Tryz.tab envq47 noHint 0 70 46 Tryz.f46.ntmps Tryz.f46.results.toList annq47 bq47 (argsq47 a) [] (fun v _ => some (v,[])) = fnq47 a (fun y => some (rendq47 a y,[])) := by kernel_rfl
def vFq47 (a : Aq47) (K : AV → Ans) : Ans := bindO (fnDq47 a) fun y => K (rendq47 a y)
def Fq47 : List AV → (AV → Ans) → Ans := fun l K => bindO (decAq47 l) fun a => vFq47 a K
theorem Fq47_ok : PureOk Tryz.prog 46 Fq47 := pure_mkD (hint := noHint) (d := 0) (n := 70) mixed tabOk envq47Ok Tryz.func46 (bodySome (by kernel_rfl)) (by decide +kernel) annq47_ok decAq47_ok fnq47_ok fnq47_nat rendq47_ok
--@ ref02_Fits
noncomputable def envq41 : Env := []
theorem envq41Ok : EnvOk Tryz.prog envq41 := EnvOk.nil
noncomputable def bq41 : Code := Tryz.f186.body.getD .skip
noncomputable def Lq41_n1 : Code := codeAt [1,1,0,1,0,0] bq41
noncomputable def annLq41_n1 : Ann := .at 0 [0,1,5] (.loop .none)
theorem annLq41_n1_ok : AnnOk Tryz.prog 25 (.loop Lq41_n1) annLq41_n1 := annOk_at (annOk_none _ _ _)
abbrev Iq41_n1 := (Int)
abbrev Yq41_n1 := (Int)
abbrev Vq41_n1 := (Int) × (Int)
def Sq41_n1 : Iq41_n1 → Vq41_n1 → St := fun t1 (t0,t5) => { env := [(0,.int .i64 t0),(1,.int .i64 t1),(5,.int .i64 t5)],stk := [[]],H := [],blk := 761856 }
def decPq41_n1 (s : St) : Option {x : Iq41_n1 × Vq41_n1 // s = Sq41_n1 x.1 x.2} := match s with
  | { env := [(0,.int .i64 t0),(1,.int .i64 t1),(5,.int .i64 t5)],stk := [[]],H := [],blk := 761856 } => some ⟨(t1,(t0,t5)),rfl⟩
  | _ => none
def decq41_n1 (s : St) : Option (Iq41_n1 × Vq41_n1) := pk (decPq41_n1 s)
theorem decq41_n1_ok (s : St) (x : Iq41_n1 × Vq41_n1) (h : decq41_n1 s = some x) : s = Sq41_n1 x.1 x.2 := pk_ok (o := decPq41_n1 s) h
def outq41_n1 : Iq41_n1 → (Ex → St → Ans) → Yq41_n1 → Ans := fun t1 K => fun t0_y => K (Ex.exit 0) { env := [(0,.int .i64 t0_y)],stk := [[]],H := [],blk := 761856 }
def stepq41_n1 {β : Type} : Iq41_n1 → Vq41_n1 → (Vq41_n1 → Option β) → (Yq41_n1 → Option β) → Option β := fun t1 (t0,t5) next exit => (bif decide (t5 < t1) then (next (IntKind.wrap .i64 (Int.tdiv t0 (256 : Int)),IntKind.wrap .i64 (t5 + (1 : Int)))) else (exit (t0)))
def stepDq41_n1 (i : Iq41_n1) (v : Vq41_n1) : Option (Vq41_n1 ⊕ Yq41_n1) := stepq41_n1 i v (fun v => some (.inl v)) (fun y => some (.inr y))
theorem stepq41_n1_nat (i : Iq41_n1) (v : Vq41_n1) (next : Vq41_n1 → Ans) (exit : Yq41_n1 → Ans) : stepq41_n1 i v next exit = bindO (stepDq41_n1 i v) (Sum.elim next exit) := by
  obtain z := i
  obtain ⟨t0,t5⟩ := v
  simp only [stepDq41_n1,stepq41_n1,bindO_cond,bindO_assoc,bindO_none,bindO_pure,bindO_elim,bindO_unP,bindO_empty,Sum.elim_inl,Sum.elim_inr]
theorem stepq41_n1_ok (n : Nat) (i : Iq41_n1) (v : Vq41_n1) (K : Ex → St → Ans) : codeI Tryz.tab envq41 noHint (codeD Tryz.tab envq41 noHint 0 64) (n+1) 25 annLq41_n1 (.loop Lq41_n1) (weakP 0 (exk [0] [4] [(0,[0])]) K) (Sq41_n1 i v) = stepq41_n1 i v (fun v' => codeI Tryz.tab envq41 noHint (codeD Tryz.tab envq41 noHint 0 64) n 25 annLq41_n1 (.loop Lq41_n1) (weakP 0 (exk [0] [4] [(0,[0])]) K) (Sq41_n1 i v')) (fun y => outq41_n1 i K y) := by kernel_rfl
theorem GNq41_n1_ok : CSum Tryz.prog 25 (.loop Lq41_n1) (sumL decq41_n1 stepDq41_n1 outq41_n1) := csum_loop mixed tabOk envq41Ok 0 (exk [0] [4] [(0,[0])]) annLq41_n1_ok decq41_n1_ok stepq41_n1_ok stepq41_n1_nat
noncomputable def Gq41_n1 : (Ex → St → Ans) → St → Ans := (sumL decq41_n1 stepDq41_n1 outq41_n1)
theorem Gq41_n1_ok : CSum Tryz.prog 25 (.loop Lq41_n1) Gq41_n1 := GNq41_n1_ok
noncomputable def Lq41_n0 : Code := codeAt [1,0,0] bq41
noncomputable def annLq41_n0 : Ann := .none
theorem annLq41_n0_ok : AnnOk Tryz.prog 25 Lq41_n0 annLq41_n0 := (annOk_none _ _ _)
abbrev Iq41_n0 := (Int) × (Int)
abbrev Yq41_n0 := (Bool)
def Sq41_n0 : Iq41_n0 → St := fun (t0,t1) => { env := [(0,.int .i64 t0),(1,.int .i64 t1)],stk := [[]],H := [],blk := 761856 }
def decPq41_n0 (s : St) : Option {x : Iq41_n0 // s = Sq41_n0 x} := match s with
  | { env := [(0,.int .i64 t0),(1,.int .i64 t1)],stk := [[]],H := [],blk := 761856 } => some ⟨(t0,t1),rfl⟩
  | _ => none
def decq41_n0 (s : St) : Option Iq41_n0 := pk (decPq41_n0 s)
theorem decq41_n0_ok (s : St) (x : Iq41_n0) (h : decq41_n0 s = some x) : s = Sq41_n0 x := pk_ok (o := decPq41_n0 s) h
def outq41_n0 : Iq41_n0 → (Ex → St → Ans) → Yq41_n0 → Ans := fun (t0,t1) K => fun t15_y => K (Ex.norm) { env := [(0,.int .i64 t0),(1,.int .i64 t1),(15,.bool t15_y)],stk := [[]],H := [],blk := 761856 }
def nodeq41_n0 {β : Type} : Iq41_n0 → (Yq41_n0 → Option β) → Option β := fun (t0,t1) exit => (bif decide (t1 < (1 : Int)) then (exit (true)) else (bif decide (t1 > (7 : Int)) then (exit (true)) else (exit (decide (t0 < (0 : Int))))))
def nodeDq41_n0 (i : Iq41_n0) : Option Yq41_n0 := nodeq41_n0 i some
theorem nodeq41_n0_nat (i : Iq41_n0) (k : Yq41_n0 → Ans) : nodeq41_n0 i k = bindO (nodeDq41_n0 i) k := by
  obtain ⟨t0,t1⟩ := i
  simp only [nodeDq41_n0,nodeq41_n0,bindO_cond,bindO_assoc,bindO_none,bindO_pure,bindO_elim,bindO_unP,bindO_empty]
theorem nodeq41_n0_ok (i : Iq41_n0) (K : Ex → St → Ans) : codeI Tryz.tab envq41 noHint (codeD Tryz.tab envq41 noHint 0 64) 70 25 annLq41_n0 Lq41_n0 (weakP 0 (exk [0,1,15] [4] []) K) (Sq41_n0 i) = nodeq41_n0 i (outq41_n0 i K) := by kernel_rfl
theorem GNq41_n0_ok : CSum Tryz.prog 25 Lq41_n0 (sumN decq41_n0 nodeDq41_n0 outq41_n0) := csum_node mixed tabOk envq41Ok 0 (exk [0,1,15] [4] []) annLq41_n0_ok decq41_n0_ok nodeq41_n0_ok nodeq41_n0_nat
noncomputable def Gq41_n0 : (Ex → St → Ans) → St → Ans := (sumN decq41_n0 nodeDq41_n0 outq41_n0)
theorem Gq41_n0_ok : CSum Tryz.prog 25 Lq41_n0 Gq41_n0 := GNq41_n0_ok
noncomputable def annq41 : Ann := (.seq .none (.seq (.seq (.cut 0 [0,1] Gq41_n0) .none) (.seq (.seq .none (.block (.cut 0 [0,1,5] Gq41_n1))) .none)))
theorem annq41_ok : AnnOk Tryz.prog 25 bq41 annq41 := ⟨(annOk_none _ _ _),⟨⟨Gq41_n0_ok,(annOk_none _ _ _)⟩,⟨⟨(annOk_none _ _ _),Gq41_n1_ok⟩,(annOk_none _ _ _)⟩⟩⟩
abbrev Aq41 := (Int) × (Int)
abbrev Yq41 := (Bool)
def fnq41 {β : Type} : Aq41 → (Yq41 → Option β) → Option β := fun (a0,a1) exit => (bindO (nodeDq41_n0 (a0,a1)) fun t15 => (bif t15 then (exit (false)) else (bindO (loopD (stepDq41_n1 (a1)) FUEL (a0,(0 : Int))) fun t0 => (exit (t0 == (0 : Int))))))
def fnDq41 (a : Aq41) : Option Yq41 := fnq41 a some
theorem fnq41_nat (a : Aq41) (k : Yq41 → Ans) : fnq41 a k = bindO (fnDq41 a) k := by
  obtain ⟨a0,a1⟩ := a
  simp only [fnDq41,fnq41,bindO_cond,bindO_assoc,bindO_none,bindO_pure,bindO_elim,bindO_unP,bindO_empty]
def argsq41 : Aq41 → List AV := fun (a0,a1) => [.int .i64 a0,.int .i64 a1]
def decPAq41 (l : List AV) : Option {a : Aq41 // l = argsq41 a} := match l with
  | [.int .i64 a0,.int .i64 a1] => some ⟨(a0,a1),rfl⟩
  | _ => none
def decAq41 (l : List AV) : Option Aq41 := pk (decPAq41 l)
theorem decAq41_ok (l : List AV) (a : Aq41) (h : decAq41 l = some a) : l = argsq41 a := pk_ok (o := decPAq41 l) h
def rendq41 : Aq41 → Yq41 → AV := fun (a0,a1) => fun r_y => .bool r_y
theorem rendq41_ok : ∀ (a : Aq41) (y : Yq41),(rendq41 a y).closed1 = true := by
  rintro ⟨a0,a1⟩ y <;> first | rfl | exact Empty.elim y
theorem fnq41_ok (a : Aq41) : fnE Tryz.tab envq41 noHint 0 70 186 Tryz.f186.ntmps Tryz.f186.results.toList annq41 bq41 (argsq41 a) [] (fun v _ => some (v,[])) = fnq41 a (fun y => some (rendq41 a y,[])) := by kernel_rfl
def vFq41 (a : Aq41) (K : AV → Ans) : Ans := bindO (fnDq41 a) fun y => K (rendq41 a y)
def Fq41 : List AV → (AV → Ans) → Ans := fun l K => bindO (decAq41 l) fun a => vFq41 a K
theorem Fq41_ok : PureOk Tryz.prog 186 Fq41 := pure_mkD (hint := noHint) (d := 0) (n := 70) mixed tabOk envq41Ok Tryz.func186 (bodySome (by kernel_rfl)) (by decide +kernel) annq41_ok decAq41_ok fnq41_ok fnq41_nat rendq41_ok
--@ ref02_Put
noncomputable def envq42 : Env := [(186,.pure Fq41)]
theorem envq42Ok : EnvOk Tryz.prog envq42 := EnvOk.cons Fq41_ok (EnvOk.nil)
noncomputable def bq42 : Code := Tryz.f124.body.getD .skip
noncomputable def Lq42_n0 : Code := codeAt [1,1,1,0,1,0,0] bq42
noncomputable def annLq42_n0 : Ann := .at 0 [0,1,2,7,8] (.loop .none)
theorem annLq42_n0_ok : AnnOk Tryz.prog 31 (.loop Lq42_n0) annLq42_n0 := annOk_at (annOk_none _ _ _)
abbrev Iq42_n0 := (List UInt8) × (Int)
abbrev Yq42_n0 := (List UInt8)
abbrev Vq42_n0 := (Int) × (List UInt8) × (Int)
def Sq42_n0 : Iq42_n0 → Vq42_n0 → St := fun (t0,t2) (t1,t7,t8) => { env := [(0,.str t0),(1,.int .i64 t1),(2,.int .i64 t2),(7,.str t7),(8,.int .i64 t8)],stk := [[]],H := [],blk := 507904 }
def decPq42_n0 (s : St) : Option {x : Iq42_n0 × Vq42_n0 // s = Sq42_n0 x.1 x.2} := match s with
  | { env := [(0,.str t0),(1,.int .i64 t1),(2,.int .i64 t2),(7,.str t7),(8,.int .i64 t8)],stk := [[]],H := [],blk := 507904 } => some ⟨((t0,t2),(t1,t7,t8)),rfl⟩
  | _ => none
def decq42_n0 (s : St) : Option (Iq42_n0 × Vq42_n0) := pk (decPq42_n0 s)
theorem decq42_n0_ok (s : St) (x : Iq42_n0 × Vq42_n0) (h : decq42_n0 s = some x) : s = Sq42_n0 x.1 x.2 := pk_ok (o := decPq42_n0 s) h
def outq42_n0 : Iq42_n0 → (Ex → St → Ans) → Yq42_n0 → Ans := fun (t0,t2) K => fun t7_y => K (Ex.exit 0) { env := [(0,.str t0),(7,.str t7_y)],stk := [[]],H := [],blk := 507904 }
def stepq42_n0 {β : Type} : Iq42_n0 → Vq42_n0 → (Vq42_n0 → Option β) → (Yq42_n0 → Option β) → Option β := fun (t0,t2) (t1,t7,t8) next exit => (bif decide (t8 < t2) then (bif Nat.ble (List.length (bytesOf [IntKind.wrap .u8 (Int.tmod t1 (256 : Int))]) + List.length t7) (9223372036854775807 : Nat) then (next (IntKind.wrap .i64 (Int.tdiv t1 (256 : Int)),bytesOf [IntKind.wrap .u8 (Int.tmod t1 (256 : Int))] ++ t7,IntKind.wrap .i64 (t8 + (1 : Int)))) else none) else (exit (t7)))
def stepDq42_n0 (i : Iq42_n0) (v : Vq42_n0) : Option (Vq42_n0 ⊕ Yq42_n0) := stepq42_n0 i v (fun v => some (.inl v)) (fun y => some (.inr y))
theorem stepq42_n0_nat (i : Iq42_n0) (v : Vq42_n0) (next : Vq42_n0 → Ans) (exit : Yq42_n0 → Ans) : stepq42_n0 i v next exit = bindO (stepDq42_n0 i v) (Sum.elim next exit) := by
  obtain ⟨t0,t2⟩ := i
  obtain ⟨t1,t7,t8⟩ := v
  simp only [stepDq42_n0,stepq42_n0,bindO_cond,bindO_assoc,bindO_none,bindO_pure,bindO_elim,bindO_unP,bindO_empty,Sum.elim_inl,Sum.elim_inr]
theorem stepq42_n0_ok (n : Nat) (i : Iq42_n0) (v : Vq42_n0) (K : Ex → St → Ans) : codeI Tryz.tab envq42 noHint (codeD Tryz.tab envq42 noHint 0 64) (n+1) 31 annLq42_n0 (.loop Lq42_n0) (weakP 0 (exk [0,7] [6] [(0,[0,7])]) K) (Sq42_n0 i v) = stepq42_n0 i v (fun v' => codeI Tryz.tab envq42 noHint (codeD Tryz.tab envq42 noHint 0 64) n 31 annLq42_n0 (.loop Lq42_n0) (weakP 0 (exk [0,7] [6] [(0,[0,7])]) K) (Sq42_n0 i v')) (fun y => outq42_n0 i K y) := by kernel_rfl
theorem GNq42_n0_ok : CSum Tryz.prog 31 (.loop Lq42_n0) (sumL decq42_n0 stepDq42_n0 outq42_n0) := csum_loop mixed tabOk envq42Ok 0 (exk [0,7] [6] [(0,[0,7])]) annLq42_n0_ok decq42_n0_ok stepq42_n0_ok stepq42_n0_nat
noncomputable def Gq42_n0 : (Ex → St → Ans) → St → Ans := (sumL decq42_n0 stepDq42_n0 outq42_n0)
theorem Gq42_n0_ok : CSum Tryz.prog 31 (.loop Lq42_n0) Gq42_n0 := GNq42_n0_ok
noncomputable def annq42 : Ann := (.seq .none (.seq .none (.seq .none (.seq (.seq .none (.block (.cut 0 [0,1,2,7,8] Gq42_n0))) .none))))
theorem annq42_ok : AnnOk Tryz.prog 31 bq42 annq42 := ⟨(annOk_none _ _ _),⟨(annOk_none _ _ _),⟨(annOk_none _ _ _),⟨⟨(annOk_none _ _ _),Gq42_n0_ok⟩,(annOk_none _ _ _)⟩⟩⟩⟩
abbrev Aq42 := (List UInt8) × (Int) × (Int)
abbrev Yq42 := (List UInt8)
def fnq42 {β : Type} : Aq42 → (Yq42 → Option β) → Option β := fun (a0,a1,a2) exit => (bindO (fnDq41 (a1,a2)) fun r => (bif !r then (exit (a0)) else (bindO (loopD (stepDq42_n0 (a0,a2)) FUEL (a1,[],(0 : Int))) fun t7 => (bif Nat.ble (List.length a0 + List.length t7) (9223372036854775807 : Nat) then (exit (a0 ++ t7)) else none))))
def fnDq42 (a : Aq42) : Option Yq42 := fnq42 a some
theorem fnq42_nat (a : Aq42) (k : Yq42 → Ans) : fnq42 a k = bindO (fnDq42 a) k := by
  obtain ⟨a0,a1,a2⟩ := a
  simp only [fnDq42,fnq42,bindO_cond,bindO_assoc,bindO_none,bindO_pure,bindO_elim,bindO_unP,bindO_empty]
def argsq42 : Aq42 → List AV := fun (a0,a1,a2) => [.str a0,.int .i64 a1,.int .i64 a2]
def decPAq42 (l : List AV) : Option {a : Aq42 // l = argsq42 a} := match l with
  | [.str a0,.int .i64 a1,.int .i64 a2] => some ⟨(a0,a1,a2),rfl⟩
  | _ => none
def decAq42 (l : List AV) : Option Aq42 := pk (decPAq42 l)
theorem decAq42_ok (l : List AV) (a : Aq42) (h : decAq42 l = some a) : l = argsq42 a := pk_ok (o := decPAq42 l) h
def rendq42 : Aq42 → Yq42 → AV := fun (a0,a1,a2) => fun r_y => .str r_y
theorem rendq42_ok : ∀ (a : Aq42) (y : Yq42),(rendq42 a y).closed1 = true := by
  rintro ⟨a0,a1,a2⟩ y <;> first | rfl | exact Empty.elim y
theorem fnq42_ok (a : Aq42) : fnE Tryz.tab envq42 noHint 0 70 124 Tryz.f124.ntmps Tryz.f124.results.toList annq42 bq42 (argsq42 a) [] (fun v _ => some (v,[])) = fnq42 a (fun y => some (rendq42 a y,[])) := by kernel_rfl
def vFq42 (a : Aq42) (K : AV → Ans) : Ans := bindO (fnDq42 a) fun y => K (rendq42 a y)
def Fq42 : List AV → (AV → Ans) → Ans := fun l K => bindO (decAq42 l) fun a => vFq42 a K
theorem Fq42_ok : PureOk Tryz.prog 124 Fq42 := pure_mkD (hint := noHint) (d := 0) (n := 70) mixed tabOk envq42Ok Tryz.func124 (bodySome (by kernel_rfl)) (by decide +kernel) annq42_ok decAq42_ok fnq42_ok fnq42_nat rendq42_ok
--@ ref03_Of
noncomputable def envq43 : Env := []
theorem envq43Ok : EnvOk Tryz.prog envq43 := EnvOk.nil
noncomputable def bq43 : Code := Tryz.f187.body.getD .skip
noncomputable def Lq43_n2 : Code := codeAt [1,1,0,1,0,0,1,0,0,1,1,0,0,1,0] bq43
noncomputable def annLq43_n2 : Ann := .none
theorem annLq43_n2_ok : AnnOk Tryz.prog 33 Lq43_n2 annLq43_n2 := (annOk_none _ _ _)
abbrev Iq43_n2 := (List UInt8) × (Int) × (Int) × (Int)
abbrev Yq43_n2 := (Int)
def Sq43_n2 : Iq43_n2 → St := fun (t0,t3,t4,t5) => { env := [(0,.str t0),(3,.int .i64 t3),(4,.int .i64 t4),(5,.int .i64 t5)],stk := [[]],H := [],blk := 765954 }
def decPq43_n2 (s : St) : Option {x : Iq43_n2 // s = Sq43_n2 x} := match s with
  | { env := [(0,.str t0),(3,.int .i64 t3),(4,.int .i64 t4),(5,.int .i64 t5)],stk := [[]],H := [],blk := 765954 } => some ⟨(t0,t3,t4,t5),rfl⟩
  | _ => none
def decq43_n2 (s : St) : Option Iq43_n2 := pk (decPq43_n2 s)
theorem decq43_n2_ok (s : St) (x : Iq43_n2) (h : decq43_n2 s = some x) : s = Sq43_n2 x := pk_ok (o := decPq43_n2 s) h
def outq43_n2 : Iq43_n2 → (Ex → St → Ans) → Yq43_n2 → Ans := fun (t0,t3,t4,t5) K => fun t3_y => K (Ex.norm) { env := [(0,.str t0),(3,.int .i64 t3_y),(4,.int .i64 t4),(5,.int .i64 t5)],stk := [[]],H := [],blk := 765955 }
def nodeq43_n2 {β : Type} : Iq43_n2 → (Yq43_n2 → Option β) → Option β := fun (t0,t3,t4,t5) exit => (bif Int.tmod t3 (2 : Int) == (1 : Int) then (exit (IntKind.wrap .i64 (↑(Int.toNat (IntKind.wrap .i64 (Int.tdiv t3 (2 : Int)) % (18446744073709551616 : Int)) ^^^ (3988292384 : Nat)) : Int))) else (exit (IntKind.wrap .i64 (Int.tdiv t3 (2 : Int)))))
def nodeDq43_n2 (i : Iq43_n2) : Option Yq43_n2 := nodeq43_n2 i some
theorem nodeq43_n2_nat (i : Iq43_n2) (k : Yq43_n2 → Ans) : nodeq43_n2 i k = bindO (nodeDq43_n2 i) k := by
  obtain ⟨t0,t3,t4,t5⟩ := i
  simp only [nodeDq43_n2,nodeq43_n2,bindO_cond,bindO_assoc,bindO_none,bindO_pure,bindO_elim,bindO_unP,bindO_empty]
theorem nodeq43_n2_ok (i : Iq43_n2) (K : Ex → St → Ans) : codeI Tryz.tab envq43 noHint (codeD Tryz.tab envq43 noHint 0 64) 70 33 annLq43_n2 Lq43_n2 (weakP 0 (exk [0,3,4,5] [2] []) K) (Sq43_n2 i) = nodeq43_n2 i (outq43_n2 i K) := by kernel_rfl
theorem GNq43_n2_ok : CSum Tryz.prog 33 Lq43_n2 (sumN decq43_n2 nodeDq43_n2 outq43_n2) := csum_node mixed tabOk envq43Ok 0 (exk [0,3,4,5] [2] []) annLq43_n2_ok decq43_n2_ok nodeq43_n2_ok nodeq43_n2_nat
noncomputable def Gq43_n2 : (Ex → St → Ans) → St → Ans := (sumN decq43_n2 nodeDq43_n2 outq43_n2)
theorem Gq43_n2_ok : CSum Tryz.prog 33 Lq43_n2 Gq43_n2 := GNq43_n2_ok
noncomputable def Lq43_n1 : Code := codeAt [1,1,0,1,0,0,1,0,0,1,1,0,0] bq43
noncomputable def annLq43_n1 : Ann := .at 0 [0,3,4,5] (.loop (.seq .none (.seq (.cut 0 [0,3,4,5] Gq43_n2) .none)))
theorem annLq43_n1_ok : AnnOk Tryz.prog 33 (.loop Lq43_n1) annLq43_n1 := annOk_at ⟨(annOk_none _ _ _),⟨Gq43_n2_ok,(annOk_none _ _ _)⟩⟩
abbrev Iq43_n1 := (List UInt8) × (Int)
abbrev Yq43_n1 := (Int)
abbrev Vq43_n1 := (Int) × (Int)
def Sq43_n1 : Iq43_n1 → Vq43_n1 → St := fun (t0,t4) (t3,t5) => { env := [(0,.str t0),(3,.int .i64 t3),(4,.int .i64 t4),(5,.int .i64 t5)],stk := [[]],H := [],blk := 765954 }
def decPq43_n1 (s : St) : Option {x : Iq43_n1 × Vq43_n1 // s = Sq43_n1 x.1 x.2} := match s with
  | { env := [(0,.str t0),(3,.int .i64 t3),(4,.int .i64 t4),(5,.int .i64 t5)],stk := [[]],H := [],blk := 765954 } => some ⟨((t0,t4),(t3,t5)),rfl⟩
  | _ => none
def decq43_n1 (s : St) : Option (Iq43_n1 × Vq43_n1) := pk (decPq43_n1 s)
theorem decq43_n1_ok (s : St) (x : Iq43_n1 × Vq43_n1) (h : decq43_n1 s = some x) : s = Sq43_n1 x.1 x.2 := pk_ok (o := decPq43_n1 s) h
def outq43_n1 : Iq43_n1 → (Ex → St → Ans) → Yq43_n1 → Ans := fun (t0,t4) K => fun t3_y => K (Ex.exit 2) { env := [(0,.str t0),(3,.int .i64 t3_y),(4,.int .i64 t4)],stk := [[]],H := [],blk := 765954 }
def stepq43_n1 {β : Type} : Iq43_n1 → Vq43_n1 → (Vq43_n1 → Option β) → (Yq43_n1 → Option β) → Option β := fun (t0,t4) (t3,t5) next exit => (bif decide (t5 < (8 : Int)) then (bindO (nodeDq43_n2 (t0,t3,t4,t5)) fun t3_2 => (next (t3_2,IntKind.wrap .i64 (t5 + (1 : Int))))) else (exit (t3)))
def stepDq43_n1 (i : Iq43_n1) (v : Vq43_n1) : Option (Vq43_n1 ⊕ Yq43_n1) := stepq43_n1 i v (fun v => some (.inl v)) (fun y => some (.inr y))
theorem stepq43_n1_nat (i : Iq43_n1) (v : Vq43_n1) (next : Vq43_n1 → Ans) (exit : Yq43_n1 → Ans) : stepq43_n1 i v next exit = bindO (stepDq43_n1 i v) (Sum.elim next exit) := by
  obtain ⟨t0,t4⟩ := i
  obtain ⟨t3,t5⟩ := v
  simp only [stepDq43_n1,stepq43_n1,bindO_cond,bindO_assoc,bindO_none,bindO_pure,bindO_elim,bindO_unP,bindO_empty,Sum.elim_inl,Sum.elim_inr]
theorem stepq43_n1_ok (n : Nat) (i : Iq43_n1) (v : Vq43_n1) (K : Ex → St → Ans) : codeI Tryz.tab envq43 noHint (codeD Tryz.tab envq43 noHint 0 64) (n+1) 33 annLq43_n1 (.loop Lq43_n1) (weakP 0 (exk [0,3,4] [2] [(2,[0,3,4])]) K) (Sq43_n1 i v) = stepq43_n1 i v (fun v' => codeI Tryz.tab envq43 noHint (codeD Tryz.tab envq43 noHint 0 64) n 33 annLq43_n1 (.loop Lq43_n1) (weakP 0 (exk [0,3,4] [2] [(2,[0,3,4])]) K) (Sq43_n1 i v')) (fun y => outq43_n1 i K y) := by kernel_rfl
theorem GNq43_n1_ok : CSum Tryz.prog 33 (.loop Lq43_n1) (sumL decq43_n1 stepDq43_n1 outq43_n1) := csum_loop mixed tabOk envq43Ok 0 (exk [0,3,4] [2] [(2,[0,3,4])]) annLq43_n1_ok decq43_n1_ok stepq43_n1_ok stepq43_n1_nat
noncomputable def Gq43_n1 : (Ex → St → Ans) → St → Ans := (sumL decq43_n1 stepDq43_n1 outq43_n1)
theorem Gq43_n1_ok : CSum Tryz.prog 33 (.loop Lq43_n1) Gq43_n1 := GNq43_n1_ok
noncomputable def Lq43_n0 : Code := codeAt [1,1,0,1,0,0] bq43
noncomputable def annLq43_n0 : Ann := .at 0 [0,3,4] (.loop (.seq .none (.seq (.block (.seq .none (.seq .none (.block (.cut 0 [0,3,4,5] Gq43_n1))))) .none)))
theorem annLq43_n0_ok : AnnOk Tryz.prog 33 (.loop Lq43_n0) annLq43_n0 := annOk_at ⟨(annOk_none _ _ _),⟨⟨(annOk_none _ _ _),⟨(annOk_none _ _ _),Gq43_n1_ok⟩⟩,(annOk_none _ _ _)⟩⟩
abbrev Iq43_n0 := (List UInt8)
abbrev Yq43_n0 := (Int)
abbrev Vq43_n0 := (Int) × (Int)
def Sq43_n0 : Iq43_n0 → Vq43_n0 → St := fun t0 (t3,t4) => { env := [(0,.str t0),(3,.int .i64 t3),(4,.int .i64 t4)],stk := [[]],H := [],blk := 765952 }
def decPq43_n0 (s : St) : Option {x : Iq43_n0 × Vq43_n0 // s = Sq43_n0 x.1 x.2} := match s with
  | { env := [(0,.str t0),(3,.int .i64 t3),(4,.int .i64 t4)],stk := [[]],H := [],blk := 765952 } => some ⟨(t0,(t3,t4)),rfl⟩
  | _ => none
def decq43_n0 (s : St) : Option (Iq43_n0 × Vq43_n0) := pk (decPq43_n0 s)
theorem decq43_n0_ok (s : St) (x : Iq43_n0 × Vq43_n0) (h : decq43_n0 s = some x) : s = Sq43_n0 x.1 x.2 := pk_ok (o := decPq43_n0 s) h
def outq43_n0 : Iq43_n0 → (Ex → St → Ans) → Yq43_n0 → Ans := fun t0 K => fun t3_y => K (Ex.exit 0) { env := [(3,.int .i64 t3_y)],stk := [[]],H := [],blk := 765952 }
def stepq43_n0 {β : Type} : Iq43_n0 → Vq43_n0 → (Vq43_n0 → Option β) → (Yq43_n0 → Option β) → Option β := fun t0 (t3,t4) next exit => (bif decide (t4 < (↑(List.length t0) : Int)) then (bindO (nth t0 t4) fun x => (bindO (loopD (stepDq43_n1 (t0,t4)) FUEL (IntKind.wrap .i64 (↑(Int.toNat (t3 % (18446744073709551616 : Int)) ^^^ Int.toNat (IntKind.wrap .i64 (↑(UInt8.toNat x) : Int) % (18446744073709551616 : Int))) : Int),(0 : Int))) fun t3_2 => (next (t3_2,IntKind.wrap .i64 (t4 + (1 : Int)))))) else (exit (t3)))
def stepDq43_n0 (i : Iq43_n0) (v : Vq43_n0) : Option (Vq43_n0 ⊕ Yq43_n0) := stepq43_n0 i v (fun v => some (.inl v)) (fun y => some (.inr y))
theorem stepq43_n0_nat (i : Iq43_n0) (v : Vq43_n0) (next : Vq43_n0 → Ans) (exit : Yq43_n0 → Ans) : stepq43_n0 i v next exit = bindO (stepDq43_n0 i v) (Sum.elim next exit) := by
  obtain z := i
  obtain ⟨t3,t4⟩ := v
  simp only [stepDq43_n0,stepq43_n0,bindO_cond,bindO_assoc,bindO_none,bindO_pure,bindO_elim,bindO_unP,bindO_empty,Sum.elim_inl,Sum.elim_inr]
theorem stepq43_n0_ok (n : Nat) (i : Iq43_n0) (v : Vq43_n0) (K : Ex → St → Ans) : codeI Tryz.tab envq43 noHint (codeD Tryz.tab envq43 noHint 0 64) (n+1) 33 annLq43_n0 (.loop Lq43_n0) (weakP 0 (exk [3] [2] [(0,[3])]) K) (Sq43_n0 i v) = stepq43_n0 i v (fun v' => codeI Tryz.tab envq43 noHint (codeD Tryz.tab envq43 noHint 0 64) n 33 annLq43_n0 (.loop Lq43_n0) (weakP 0 (exk [3] [2] [(0,[3])]) K) (Sq43_n0 i v')) (fun y => outq43_n0 i K y) := by kernel_rfl
theorem GNq43_n0_ok : CSum Tryz.prog 33 (.loop Lq43_n0) (sumL decq43_n0 stepDq43_n0 outq43_n0) := csum_loop mixed tabOk envq43Ok 0 (exk [3] [2] [(0,[3])]) annLq43_n0_ok decq43_n0_ok stepq43_n0_ok stepq43_n0_nat
noncomputable def Gq43_n0 : (Ex → St → Ans) → St → Ans := (sumL decq43_n0 stepDq43_n0 outq43_n0)
theorem Gq43_n0_ok : CSum Tryz.prog 33 (.loop Lq43_n0) Gq43_n0 := GNq43_n0_ok
noncomputable def annq43 : Ann := (.seq .none (.seq .none (.seq (.seq .none (.block (.cut 0 [0,3,4] Gq43_n0))) .none)))
theorem annq43_ok : AnnOk Tryz.prog 33 bq43 annq43 := ⟨(annOk_none _ _ _),⟨(annOk_none _ _ _),⟨⟨(annOk_none _ _ _),Gq43_n0_ok⟩,(annOk_none _ _ _)⟩⟩⟩
abbrev Aq43 := (List UInt8)
abbrev Yq43 := (Int)
def fnq43 {β : Type} : Aq43 → (Yq43 → Option β) → Option β := fun a0 exit => (bindO (loopD (stepDq43_n0 (a0)) FUEL ((4294967295 : Int),(0 : Int))) fun t3 => (exit (IntKind.wrap .i64 (↑(Int.toNat (t3 % (18446744073709551616 : Int)) ^^^ (4294967295 : Nat)) : Int))))
def fnDq43 (a : Aq43) : Option Yq43 := fnq43 a some
theorem fnq43_nat (a : Aq43) (k : Yq43 → Ans) : fnq43 a k = bindO (fnDq43 a) k := by
  obtain z := a
  simp only [fnDq43,fnq43,bindO_cond,bindO_assoc,bindO_none,bindO_pure,bindO_elim,bindO_unP,bindO_empty]
def argsq43 : Aq43 → List AV := fun a0 => [.str a0]
def decPAq43 (l : List AV) : Option {a : Aq43 // l = argsq43 a} := match l with
  | [.str a0] => some ⟨(a0),rfl⟩
  | _ => none
def decAq43 (l : List AV) : Option Aq43 := pk (decPAq43 l)
theorem decAq43_ok (l : List AV) (a : Aq43) (h : decAq43 l = some a) : l = argsq43 a := pk_ok (o := decPAq43 l) h
def rendq43 : Aq43 → Yq43 → AV := fun a0 => fun r_y => .int .i64 r_y
theorem rendq43_ok : ∀ (a : Aq43) (y : Yq43),(rendq43 a y).closed1 = true := by
  rintro z y <;> first | rfl | exact Empty.elim y
theorem fnq43_ok (a : Aq43) : fnE Tryz.tab envq43 noHint 0 70 187 Tryz.f187.ntmps Tryz.f187.results.toList annq43 bq43 (argsq43 a) [] (fun v _ => some (v,[])) = fnq43 a (fun y => some (rendq43 a y,[])) := by kernel_rfl
def vFq43 (a : Aq43) (K : AV → Ans) : Ans := bindO (fnDq43 a) fun y => K (rendq43 a y)
def Fq43 : List AV → (AV → Ans) → Ans := fun l K => bindO (decAq43 l) fun a => vFq43 a K
theorem Fq43_ok : PureOk Tryz.prog 187 Fq43 := pure_mkD (hint := noHint) (d := 0) (n := 70) mixed tabOk envq43Ok Tryz.func187 (bodySome (by kernel_rfl)) (by decide +kernel) annq43_ok decAq43_ok fnq43_ok fnq43_nat rendq43_ok
--@ ref03_Tail
noncomputable def envq44 : Env := [(187,.pure Fq43)]
theorem envq44Ok : EnvOk Tryz.prog envq44 := EnvOk.cons Fq43_ok (EnvOk.nil)
noncomputable def bq44 : Code := Tryz.f126.body.getD .skip
noncomputable def annq44 : Ann := .none
theorem annq44_ok : AnnOk Tryz.prog 23 bq44 annq44 := (annOk_none _ _ _)
abbrev Aq44 := (List UInt8)
abbrev Yq44 := (List UInt8)
def fnq44 {β : Type} : Aq44 → (Yq44 → Option β) → Option β := fun a0 exit => (bindO (fnDq43 (a0)) fun r => (exit (bytesOf [IntKind.wrap .u8 (Int.tmod r (256 : Int)),IntKind.wrap .u8 (Int.tmod (IntKind.wrap .i64 (Int.tdiv r (256 : Int))) (256 : Int)),IntKind.wrap .u8 (Int.tmod (IntKind.wrap .i64 (Int.tdiv r (65536 : Int))) (256 : Int)),IntKind.wrap .u8 (Int.tmod (IntKind.wrap .i64 (Int.tdiv r (16777216 : Int))) (256 : Int))])))
def fnDq44 (a : Aq44) : Option Yq44 := fnq44 a some
theorem fnq44_nat (a : Aq44) (k : Yq44 → Ans) : fnq44 a k = bindO (fnDq44 a) k := by
  obtain z := a
  simp only [fnDq44,fnq44,bindO_cond,bindO_assoc,bindO_none,bindO_pure,bindO_elim,bindO_unP,bindO_empty]
def argsq44 : Aq44 → List AV := fun a0 => [.str a0]
def decPAq44 (l : List AV) : Option {a : Aq44 // l = argsq44 a} := match l with
  | [.str a0] => some ⟨(a0),rfl⟩
  | _ => none
def decAq44 (l : List AV) : Option Aq44 := pk (decPAq44 l)
theorem decAq44_ok (l : List AV) (a : Aq44) (h : decAq44 l = some a) : l = argsq44 a := pk_ok (o := decPAq44 l) h
def rendq44 : Aq44 → Yq44 → AV := fun a0 => fun r_y => .str r_y
theorem rendq44_ok : ∀ (a : Aq44) (y : Yq44),(rendq44 a y).closed1 = true := by
  rintro z y <;> first | rfl | exact Empty.elim y
theorem fnq44_ok (a : Aq44) : fnE Tryz.tab envq44 noHint 0 70 126 Tryz.f126.ntmps Tryz.f126.results.toList annq44 bq44 (argsq44 a) [] (fun v _ => some (v,[])) = fnq44 a (fun y => some (rendq44 a y,[])) := by kernel_rfl
def vFq44 (a : Aq44) (K : AV → Ans) : Ans := bindO (fnDq44 a) fun y => K (rendq44 a y)
def Fq44 : List AV → (AV → Ans) → Ans := fun l K => bindO (decAq44 l) fun a => vFq44 a K
theorem Fq44_ok : PureOk Tryz.prog 126 Fq44 := pure_mkD (hint := noHint) (d := 0) (n := 70) mixed tabOk envq44Ok Tryz.func126 (bodySome (by kernel_rfl)) (by decide +kernel) annq44_ok decAq44_ok fnq44_ok fnq44_nat rendq44_ok
--@ ref09_Pad
noncomputable def envq45 : Env := []
theorem envq45Ok : EnvOk Tryz.prog envq45 := EnvOk.nil
noncomputable def bq45 : Code := Tryz.f125.body.getD .skip
noncomputable def Lq45_n0 : Code := codeAt [1,0,0,0] bq45
noncomputable def annLq45_n0 : Ann := .at 0 [0] (.loop .none)
theorem annLq45_n0_ok : AnnOk Tryz.prog 10 (.loop Lq45_n0) annLq45_n0 := annOk_at (annOk_none _ _ _)
abbrev Iq45_n0 := Unit
abbrev Yq45_n0 := (List UInt8)
abbrev Vq45_n0 := (List UInt8)
def Sq45_n0 : Iq45_n0 → Vq45_n0 → St := fun _ t0 => { env := [(0,.str t0)],stk := [[]],H := [],blk := 512000 }
def decPq45_n0 (s : St) : Option {x : Iq45_n0 × Vq45_n0 // s = Sq45_n0 x.1 x.2} := match s with
  | { env := [(0,.str t0)],stk := [[]],H := [],blk := 512000 } => some ⟨((),t0),rfl⟩
  | _ => none
def decq45_n0 (s : St) : Option (Iq45_n0 × Vq45_n0) := pk (decPq45_n0 s)
theorem decq45_n0_ok (s : St) (x : Iq45_n0 × Vq45_n0) (h : decq45_n0 s = some x) : s = Sq45_n0 x.1 x.2 := pk_ok (o := decPq45_n0 s) h
def outq45_n0 : Iq45_n0 → (Ex → St → Ans) → Yq45_n0 → Ans := fun _ K => fun t0_y => K (Ex.exit 0) { env := [(0,.str t0_y)],stk := [[]],H := [],blk := 512000 }
def stepq45_n0 {β : Type} : Iq45_n0 → Vq45_n0 → (Vq45_n0 → Option β) → (Yq45_n0 → Option β) → Option β := fun _ t0 next exit => (bif Int.tmod (↑(List.length t0) : Int) (64 : Int) != (0 : Int) then (bif Nat.ble (List.length t0 + (1 : Nat)) (9223372036854775807 : Nat) then (next (t0 ++ [(0 : UInt8)])) else none) else (exit (t0)))
def stepDq45_n0 (i : Iq45_n0) (v : Vq45_n0) : Option (Vq45_n0 ⊕ Yq45_n0) := stepq45_n0 i v (fun v => some (.inl v)) (fun y => some (.inr y))
theorem stepq45_n0_nat (i : Iq45_n0) (v : Vq45_n0) (next : Vq45_n0 → Ans) (exit : Yq45_n0 → Ans) : stepq45_n0 i v next exit = bindO (stepDq45_n0 i v) (Sum.elim next exit) := by
  obtain z := i
  obtain z := v
  simp only [stepDq45_n0,stepq45_n0,bindO_cond,bindO_assoc,bindO_none,bindO_pure,bindO_elim,bindO_unP,bindO_empty,Sum.elim_inl,Sum.elim_inr]
theorem stepq45_n0_ok (n : Nat) (i : Iq45_n0) (v : Vq45_n0) (K : Ex → St → Ans) : codeI Tryz.tab envq45 noHint (codeD Tryz.tab envq45 noHint 0 64) (n+1) 10 annLq45_n0 (.loop Lq45_n0) (weakP 0 (exk [0] [2] [(0,[0])]) K) (Sq45_n0 i v) = stepq45_n0 i v (fun v' => codeI Tryz.tab envq45 noHint (codeD Tryz.tab envq45 noHint 0 64) n 10 annLq45_n0 (.loop Lq45_n0) (weakP 0 (exk [0] [2] [(0,[0])]) K) (Sq45_n0 i v')) (fun y => outq45_n0 i K y) := by kernel_rfl
theorem GNq45_n0_ok : CSum Tryz.prog 10 (.loop Lq45_n0) (sumL decq45_n0 stepDq45_n0 outq45_n0) := csum_loop mixed tabOk envq45Ok 0 (exk [0] [2] [(0,[0])]) annLq45_n0_ok decq45_n0_ok stepq45_n0_ok stepq45_n0_nat
noncomputable def Gq45_n0 : (Ex → St → Ans) → St → Ans := (sumL decq45_n0 stepDq45_n0 outq45_n0)
theorem Gq45_n0_ok : CSum Tryz.prog 10 (.loop Lq45_n0) Gq45_n0 := GNq45_n0_ok
noncomputable def annq45 : Ann := (.seq .none (.seq (.block (.cut 0 [0] Gq45_n0)) .none))
theorem annq45_ok : AnnOk Tryz.prog 10 bq45 annq45 := ⟨(annOk_none _ _ _),⟨Gq45_n0_ok,(annOk_none _ _ _)⟩⟩
abbrev Aq45 := (List UInt8)
abbrev Yq45 := (List UInt8)
def fnq45 {β : Type} : Aq45 → (Yq45 → Option β) → Option β := fun a0 exit => (bindO (loopD (stepDq45_n0 ()) FUEL (a0)) fun t0 => (exit (t0)))
def fnDq45 (a : Aq45) : Option Yq45 := fnq45 a some
theorem fnq45_nat (a : Aq45) (k : Yq45 → Ans) : fnq45 a k = bindO (fnDq45 a) k := by
  obtain z := a
  simp only [fnDq45,fnq45,bindO_cond,bindO_assoc,bindO_none,bindO_pure,bindO_elim,bindO_unP,bindO_empty]
def argsq45 : Aq45 → List AV := fun a0 => [.str a0]
def decPAq45 (l : List AV) : Option {a : Aq45 // l = argsq45 a} := match l with
  | [.str a0] => some ⟨(a0),rfl⟩
  | _ => none
def decAq45 (l : List AV) : Option Aq45 := pk (decPAq45 l)
theorem decAq45_ok (l : List AV) (a : Aq45) (h : decAq45 l = some a) : l = argsq45 a := pk_ok (o := decPAq45 l) h
def rendq45 : Aq45 → Yq45 → AV := fun a0 => fun r_y => .str r_y
theorem rendq45_ok : ∀ (a : Aq45) (y : Yq45),(rendq45 a y).closed1 = true := by
  rintro z y <;> first | rfl | exact Empty.elim y
theorem fnq45_ok (a : Aq45) : fnE Tryz.tab envq45 noHint 0 70 125 Tryz.f125.ntmps Tryz.f125.results.toList annq45 bq45 (argsq45 a) [] (fun v _ => some (v,[])) = fnq45 a (fun y => some (rendq45 a y,[])) := by kernel_rfl
def vFq45 (a : Aq45) (K : AV → Ans) : Ans := bindO (fnDq45 a) fun y => K (rendq45 a y)
def Fq45 : List AV → (AV → Ans) → Ans := fun l K => bindO (decAq45 l) fun a => vFq45 a K
theorem Fq45_ok : PureOk Tryz.prog 125 Fq45 := pure_mkD (hint := noHint) (d := 0) (n := 70) mixed tabOk envq45Ok Tryz.func125 (bodySome (by kernel_rfl)) (by decide +kernel) annq45_ok decAq45_ok fnq45_ok fnq45_nat rendq45_ok
--@ ref16_Put
noncomputable def envq49 : Env := [(46,.pure Fq47),(124,.pure Fq42),(126,.pure Fq44),(125,.pure Fq45)]
theorem envq49Ok : EnvOk Tryz.prog envq49 := EnvOk.cons Fq47_ok (EnvOk.cons Fq42_ok (EnvOk.cons Fq44_ok (EnvOk.cons Fq45_ok (EnvOk.nil))))
noncomputable def bq49 : Code := Tryz.f44.body.getD .skip
noncomputable def annq49 : Ann := .none
theorem annq49_ok : AnnOk Tryz.prog 41 bq49 annq49 := (annOk_none _ _ _)
abbrev Aq49 := (Int) × (Int) × (Int) × (Int) × (Int) × (Int) × (Int)
abbrev Yq49 := (List UInt8) × (Int)
def fnq49 {β : Type} : Aq49 → (Yq49 → Option β) → Option β := fun (a0_0,a0_1,a0_2,a0_3,a0_4,a0_5,a0_6) exit => (bindO (fnDq47 (a0_0,a0_1,a0_2,a0_3,a0_4,a0_5,a0_6)) fun r => (bif r != (0 : Int) then (exit ([],r)) else (bindO (fnDq42 ([(83 : UInt8)],a0_0,(1 : Int))) fun r_2 => (bindO (fnDq42 (r_2,a0_1,(1 : Int))) fun r_3 => (bindO (fnDq42 (r_3,a0_2,(4 : Int))) fun r_4 => (bindO (fnDq42 (r_4,a0_3,(1 : Int))) fun r_5 => (bindO (fnDq42 (r_5,a0_4,(1 : Int))) fun r_6 => (bindO (fnDq42 (r_6,a0_5,(1 : Int))) fun r_7 => (bindO (fnDq42 (r_7,a0_6,(2 : Int))) fun r_8 => (bindO (fnDq44 (r_8)) fun r_9 => (bif Nat.ble (List.length r_8 + List.length r_9) (9223372036854775807 : Nat) then (bindO (fnDq45 (r_8 ++ r_9)) fun r_10 => (exit (r_10,(0 : Int)))) else none)))))))))))
def fnDq49 (a : Aq49) : Option Yq49 := fnq49 a some
theorem fnq49_nat (a : Aq49) (k : Yq49 → Ans) : fnq49 a k = bindO (fnDq49 a) k := by
  obtain ⟨a0_0,a0_1,a0_2,a0_3,a0_4,a0_5,a0_6⟩ := a
  simp only [fnDq49,fnq49,bindO_cond,bindO_assoc,bindO_none,bindO_pure,bindO_elim,bindO_unP,bindO_empty]
def argsq49 : Aq49 → List AV := fun (a0_0,a0_1,a0_2,a0_3,a0_4,a0_5,a0_6) => [.agg [.int .i64 a0_0,.int .i64 a0_1,.int .i64 a0_2,.int .i64 a0_3,.int .i64 a0_4,.int .i64 a0_5,.int .i64 a0_6]]
def decPAq49 (l : List AV) : Option {a : Aq49 // l = argsq49 a} := match l with
  | [.agg [.int .i64 a0_0,.int .i64 a0_1,.int .i64 a0_2,.int .i64 a0_3,.int .i64 a0_4,.int .i64 a0_5,.int .i64 a0_6]] => some ⟨(a0_0,a0_1,a0_2,a0_3,a0_4,a0_5,a0_6),rfl⟩
  | _ => none
def decAq49 (l : List AV) : Option Aq49 := pk (decPAq49 l)
theorem decAq49_ok (l : List AV) (a : Aq49) (h : decAq49 l = some a) : l = argsq49 a := pk_ok (o := decPAq49 l) h
def rendq49 : Aq49 → Yq49 → AV := fun (a0_0,a0_1,a0_2,a0_3,a0_4,a0_5,a0_6) => unP fun r_0_y r_1_y => .tup [.str r_0_y,.int .i64 r_1_y]
theorem rendq49_ok : ∀ (a : Aq49) (y : Yq49),(rendq49 a y).closed1 = true := by
  rintro ⟨a0_0,a0_1,a0_2,a0_3,a0_4,a0_5,a0_6⟩ y <;> first | rfl | exact Empty.elim y
theorem fnq49_ok (a : Aq49) : fnE Tryz.tab envq49 noHint 0 70 44 Tryz.f44.ntmps Tryz.f44.results.toList annq49 bq49 (argsq49 a) [] (fun v _ => some (v,[])) = fnq49 a (fun y => some (rendq49 a y,[])) := by kernel_rfl
def vFq49 (a : Aq49) (K : AV → Ans) : Ans := bindO (fnDq49 a) fun y => K (rendq49 a y)
def Fq49 : List AV → (AV → Ans) → Ans := fun l K => bindO (decAq49 l) fun a => vFq49 a K
theorem Fq49_ok : PureOk Tryz.prog 44 Fq49 := pure_mkD (hint := noHint) (d := 0) (n := 70) mixed tabOk envq49Ok Tryz.func44 (bodySome (by kernel_rfl)) (by decide +kernel) annq49_ok decAq49_ok fnq49_ok fnq49_nat rendq49_ok
--@ ref16_Get
noncomputable def envq48 : Env := [(126,.pure Fq44),(44,.pure Fq49)]
theorem envq48Ok : EnvOk Tryz.prog envq48 := EnvOk.cons Fq44_ok (EnvOk.cons Fq49_ok (EnvOk.nil))
noncomputable def bq48 : Code := Tryz.f48.body.getD .skip
noncomputable def Lq48_n0 : Code := codeAt [1,1,1,1,0,0] bq48
noncomputable def annLq48_n0 : Ann := .none
theorem annLq48_n0_ok : AnnOk Tryz.prog 82 Lq48_n0 annLq48_n0 := (annOk_none _ _ _)
abbrev Iq48_n0 := (List UInt8) × (List UInt8) × (Int) × (Int) × (Int) × (Int) × (Int) × (Int) × (Int) × (Int)
abbrev Yq48_n0 := (Bool)
def Sq48_n0 : Iq48_n0 → St := fun (t0,t5,t6,o1_0,o1_1,o1_2,o1_3,o1_4,o1_5,o1_6) => { env := [(0,.str t0),(2,.ptr 0 0),(4,.ptr 1 0),(5,.str t5),(6,.int .i64 t6)],stk := [[]],H := [.cells [.int .i64 (0),.int .i64 (0),.int .i64 (0),.int .i64 (0),.int .i64 (0),.int .i64 (0),.int .i64 (0)],.cells [.int .i64 o1_0,.int .i64 o1_1,.int .i64 o1_2,.int .i64 o1_3,.int .i64 o1_4,.int .i64 o1_5,.int .i64 o1_6]],blk := 196608 }
def decPq48_n0 (s : St) : Option {x : Iq48_n0 // s = Sq48_n0 x} := match s with
  | { env := [(0,.str t0),(2,.ptr 0 0),(4,.ptr 1 0),(5,.str t5),(6,.int .i64 t6)],stk := [[]],H := [.cells [.int .i64 r3,.int .i64 r4,.int .i64 r5,.int .i64 r6,.int .i64 r7,.int .i64 r8,.int .i64 r9],.cells [.int .i64 o1_0,.int .i64 o1_1,.int .i64 o1_2,.int .i64 o1_3,.int .i64 o1_4,.int .i64 o1_5,.int .i64 o1_6]],blk := 196608 } => if h3 : r3 = 0 then if h4 : r4 = 0 then if h5 : r5 = 0 then if h6 : r6 = 0 then if h7 : r7 = 0 then if h8 : r8 = 0 then if h9 : r9 = 0 then some ⟨(t0,t5,t6,o1_0,o1_1,o1_2,o1_3,o1_4,o1_5,o1_6),by subst h3 h4 h5 h6 h7 h8 h9; rfl⟩ else none else none else none else none else none else none else none
  | _ => none
def decq48_n0 (s : St) : Option Iq48_n0 := pk (decPq48_n0 s)
theorem decq48_n0_ok (s : St) (x : Iq48_n0) (h : decq48_n0 s = some x) : s = Sq48_n0 x := pk_ok (o := decPq48_n0 s) h
def outq48_n0 : Iq48_n0 → (Ex → St → Ans) → Yq48_n0 → Ans := fun (t0,t5,t6,o1_0,o1_1,o1_2,o1_3,o1_4,o1_5,o1_6) K => fun t79_y => K (Ex.norm) { env := [(2,.ptr 0 0),(4,.ptr 1 0),(79,.bool t79_y)],stk := [[]],H := [.cells [.int .i64 (0),.int .i64 (0),.int .i64 (0),.int .i64 (0),.int .i64 (0),.int .i64 (0),.int .i64 (0)],.cells [.int .i64 o1_0,.int .i64 o1_1,.int .i64 o1_2,.int .i64 o1_3,.int .i64 o1_4,.int .i64 o1_5,.int .i64 o1_6]],blk := 196608 }
def nodeq48_n0 {β : Type} : Iq48_n0 → (Yq48_n0 → Option β) → Option β := fun (t0,t5,t6,o1_0,o1_1,o1_2,o1_3,o1_4,o1_5,o1_6) exit => (bif t6 != (0 : Int) then (exit (true)) else (exit (!t5 == t0)))
def nodeDq48_n0 (i : Iq48_n0) : Option Yq48_n0 := nodeq48_n0 i some
theorem nodeq48_n0_nat (i : Iq48_n0) (k : Yq48_n0 → Ans) : nodeq48_n0 i k = bindO (nodeDq48_n0 i) k := by
  obtain ⟨t0,t5,t6,o1_0,o1_1,o1_2,o1_3,o1_4,o1_5,o1_6⟩ := i
  simp only [nodeDq48_n0,nodeq48_n0,bindO_cond,bindO_assoc,bindO_none,bindO_pure,bindO_elim,bindO_unP,bindO_empty]
theorem nodeq48_n0_ok (i : Iq48_n0) (K : Ex → St → Ans) : codeI Tryz.tab envq48 noHint (codeD Tryz.tab envq48 noHint 0 64) 70 82 annLq48_n0 Lq48_n0 (weakP 0 (exk [2,4,79] [2,3] []) K) (Sq48_n0 i) = nodeq48_n0 i (outq48_n0 i K) := by kernel_rfl
theorem GNq48_n0_ok : CSum Tryz.prog 82 Lq48_n0 (sumN decq48_n0 nodeDq48_n0 outq48_n0) := csum_node mixed tabOk envq48Ok 0 (exk [2,4,79] [2,3] []) annLq48_n0_ok decq48_n0_ok nodeq48_n0_ok nodeq48_n0_nat
noncomputable def Gq48_n0 : (Ex → St → Ans) → St → Ans := (sumN decq48_n0 nodeDq48_n0 outq48_n0)
theorem Gq48_n0_ok : CSum Tryz.prog 82 Lq48_n0 Gq48_n0 := GNq48_n0_ok
noncomputable def annq48 : Ann := (.seq .none (.seq .none (.seq .none (.seq .none (.seq (.seq (.cut 0 [0,2,4,5,6] Gq48_n0) .none) .none)))))
theorem annq48_ok : AnnOk Tryz.prog 82 bq48 annq48 := ⟨(annOk_none _ _ _),⟨(annOk_none _ _ _),⟨(annOk_none _ _ _),⟨(annOk_none _ _ _),⟨⟨Gq48_n0_ok,(annOk_none _ _ _)⟩,(annOk_none _ _ _)⟩⟩⟩⟩⟩
abbrev Aq48 := (List UInt8)
abbrev Yq48 := (Int) × (Int) × (Int) × (Int) × (Int) × (Int) × (Int) × (Int)
def fnq48 {β : Type} : Aq48 → (Yq48 → Option β) → Option β := fun a0 exit => (bif (↑(List.length a0) : Int) != (64 : Int) then (exit ((0 : Int),(0 : Int),(0 : Int),(0 : Int),(0 : Int),(0 : Int),(0 : Int),(12 : Int))) else (bindO (nth a0 (0 : Int)) fun x => (bif (↑(UInt8.toNat x) : Int) != (83 : Int) then (exit ((0 : Int),(0 : Int),(0 : Int),(0 : Int),(0 : Int),(0 : Int),(0 : Int),(4 : Int))) else (bif inR (16 : Int) (List.length a0 + (1 : Nat)) && true then (bif inR (12 : Int) (List.length a0 + (1 : Nat)) then (bindO (fnDq44 (List.take (12 : Nat) a0)) fun r => (bif !List.take ((16 : Nat) - (12 : Nat)) (List.drop (12 : Nat) a0) == r then (exit ((0 : Int),(0 : Int),(0 : Int),(0 : Int),(0 : Int),(0 : Int),(0 : Int),(5 : Int))) else (bindO (nth a0 (1 : Int)) fun x_2 => (bindO (nth a0 (2 : Int)) fun x_3 => (bindO (nth a0 (3 : Int)) fun x_4 => (bindO (nth a0 (4 : Int)) fun x_5 => (bindO (nth a0 (5 : Int)) fun x_6 => (bindO (nth a0 (6 : Int)) fun x_7 => (bindO (nth a0 (7 : Int)) fun x_8 => (bindO (nth a0 (8 : Int)) fun x_9 => (bindO (nth a0 (9 : Int)) fun x_10 => (bindO (nth a0 (10 : Int)) fun x_11 => (bindO (nth a0 (11 : Int)) fun x_12 => (bindO (fnDq49 (IntKind.wrap .i64 (↑(UInt8.toNat x_2) : Int),IntKind.wrap .i64 (↑(UInt8.toNat x_3) : Int),IntKind.wrap .i64 (IntKind.wrap .i64 (IntKind.wrap .i64 (IntKind.wrap .i64 ((16777216 : Int) * IntKind.wrap .i64 (↑(UInt8.toNat x_4) : Int)) + IntKind.wrap .i64 ((65536 : Int) * IntKind.wrap .i64 (↑(UInt8.toNat x_5) : Int))) + IntKind.wrap .i64 ((256 : Int) * IntKind.wrap .i64 (↑(UInt8.toNat x_6) : Int))) + IntKind.wrap .i64 (↑(UInt8.toNat x_7) : Int)),IntKind.wrap .i64 (↑(UInt8.toNat x_8) : Int),IntKind.wrap .i64 (↑(UInt8.toNat x_9) : Int),IntKind.wrap .i64 (↑(UInt8.toNat x_10) : Int),IntKind.wrap .i64 (IntKind.wrap .i64 ((256 : Int) * IntKind.wrap .i64 (↑(UInt8.toNat x_11) : Int)) + IntKind.wrap .i64 (↑(UInt8.toNat x_12) : Int)))) (unP fun r_0 r_1 => (bindO (nodeDq48_n0 (a0,r_0,r_1,IntKind.wrap .i64 (↑(UInt8.toNat x_2) : Int),IntKind.wrap .i64 (↑(UInt8.toNat x_3) : Int),IntKind.wrap .i64 (IntKind.wrap .i64 (IntKind.wrap .i64 (IntKind.wrap .i64 ((16777216 : Int) * IntKind.wrap .i64 (↑(UInt8.toNat x_4) : Int)) + IntKind.wrap .i64 ((65536 : Int) * IntKind.wrap .i64 (↑(UInt8.toNat x_5) : Int))) + IntKind.wrap .i64 ((256 : Int) * IntKind.wrap .i64 (↑(UInt8.toNat x_6) : Int))) + IntKind.wrap .i64 (↑(UInt8.toNat x_7) : Int)),IntKind.wrap .i64 (↑(UInt8.toNat x_8) : Int),IntKind.wrap .i64 (↑(UInt8.toNat x_9) : Int),IntKind.wrap .i64 (↑(UInt8.toNat x_10) : Int),IntKind.wrap .i64 (IntKind.wrap .i64 ((256 : Int) * IntKind.wrap .i64 (↑(UInt8.toNat x_11) : Int)) + IntKind.wrap .i64 (↑(UInt8.toNat x_12) : Int)))) fun t79 => (bif t79 then (exit ((0 : Int),(0 : Int),(0 : Int),(0 : Int),(0 : Int),(0 : Int),(0 : Int),(4 : Int))) else (exit (IntKind.wrap .i64 (↑(UInt8.toNat x_2) : Int),IntKind.wrap .i64 (↑(UInt8.toNat x_3) : Int),IntKind.wrap .i64 (IntKind.wrap .i64 (IntKind.wrap .i64 (IntKind.wrap .i64 ((16777216 : Int) * IntKind.wrap .i64 (↑(UInt8.toNat x_4) : Int)) + IntKind.wrap .i64 ((65536 : Int) * IntKind.wrap .i64 (↑(UInt8.toNat x_5) : Int))) + IntKind.wrap .i64 ((256 : Int) * IntKind.wrap .i64 (↑(UInt8.toNat x_6) : Int))) + IntKind.wrap .i64 (↑(UInt8.toNat x_7) : Int)),IntKind.wrap .i64 (↑(UInt8.toNat x_8) : Int),IntKind.wrap .i64 (↑(UInt8.toNat x_9) : Int),IntKind.wrap .i64 (↑(UInt8.toNat x_10) : Int),IntKind.wrap .i64 (IntKind.wrap .i64 ((256 : Int) * IntKind.wrap .i64 (↑(UInt8.toNat x_11) : Int)) + IntKind.wrap .i64 (↑(UInt8.toNat x_12) : Int)),(0 : Int)))))))))))))))))))) else none) else none))))
def fnDq48 (a : Aq48) : Option Yq48 := fnq48 a some
theorem fnq48_nat (a : Aq48) (k : Yq48 → Ans) : fnq48 a k = bindO (fnDq48 a) k := by
  obtain z := a
  simp only [fnDq48,fnq48,bindO_cond,bindO_assoc,bindO_none,bindO_pure,bindO_elim,bindO_unP,bindO_empty]
def argsq48 : Aq48 → List AV := fun a0 => [.str a0]
def decPAq48 (l : List AV) : Option {a : Aq48 // l = argsq48 a} := match l with
  | [.str a0] => some ⟨(a0),rfl⟩
  | _ => none
def decAq48 (l : List AV) : Option Aq48 := pk (decPAq48 l)
theorem decAq48_ok (l : List AV) (a : Aq48) (h : decAq48 l = some a) : l = argsq48 a := pk_ok (o := decPAq48 l) h
def rendq48 : Aq48 → Yq48 → AV := fun a0 => unP fun r_0_0_y => unP fun r_0_1_y => unP fun r_0_2_y => unP fun r_0_3_y => unP fun r_0_4_y => unP fun r_0_5_y => unP fun r_0_6_y r_1_y => .tup [.agg [.int .i64 r_0_0_y,.int .i64 r_0_1_y,.int .i64 r_0_2_y,.int .i64 r_0_3_y,.int .i64 r_0_4_y,.int .i64 r_0_5_y,.int .i64 r_0_6_y],.int .i64 r_1_y]
theorem rendq48_ok : ∀ (a : Aq48) (y : Yq48),(rendq48 a y).closed1 = true := by
  rintro z y <;> first | rfl | exact Empty.elim y
theorem fnq48_ok (a : Aq48) : fnE Tryz.tab envq48 noHint 0 70 48 Tryz.f48.ntmps Tryz.f48.results.toList annq48 bq48 (argsq48 a) [] (fun v _ => some (v,[])) = fnq48 a (fun y => some (rendq48 a y,[])) := by kernel_rfl
def vFq48 (a : Aq48) (K : AV → Ans) : Ans := bindO (fnDq48 a) fun y => K (rendq48 a y)
def Fq48 : List AV → (AV → Ans) → Ans := fun l K => bindO (decAq48 l) fun a => vFq48 a K
theorem Fq48_ok : PureOk Tryz.prog 48 Fq48 := pure_mkD (hint := noHint) (d := 0) (n := 70) mixed tabOk envq48Ok Tryz.func48 (bodySome (by kernel_rfl)) (by decide +kernel) annq48_ok decAq48_ok fnq48_ok fnq48_nat rendq48_ok
end Go.Proofs.R7
namespace Go.Proofs.R7
open Go Go.AE
noncomputable def base7x : Env := [(140, .pure Fq27), (68, .pure Fq23), (117, .pure Fq26), (116, .pure Fq25), (108, .func Fq73), (28, .func Fq13), (37, .pure Fq24), (161, .func Fq8), (210, .pure Fq57), (169, .func Fq50), (170, .func Fq58), (171, .func Fq55), (241, .pure Fq72), (218, .pure Fq70), (181, .func Fq10), (182, .func Fq12), (159, .func Fq9), (106, .func Fq56), (96, .func Fq52), (238, .pure Fq32), (211, .pure Fq29), (189, .pure Fq20), (184, .pure Fq14), (121, .pure Fq16), (220, .func Fq0), (242, .pure Fq5), (221, .func Fq2), (222, .func Fq3), (185, .pure Fq1), (123, .pure Fq4), (122, .pure Fq51), (172, .pure Fq31), (141, .func Fq11), (115, .func Fq6), (114, .func Fq7), (118, .func Fq74), (177, .func Fq54), (129, .func Fq15), (188, .func Fq19), (130, .func Fq17), (131, .func Fq18), (216, .pure Fq28), (178, .pure Fq30), (209, .func Fq53), (260, .pure Fq37), (165, .pure Fq38), (208, .func Fq34), (237, .func Fq71), (207, .func Fq69), (164, .pure Fq33), (102, .pure Fq36), (261, .func Fq35), (162, .func Fq67), (100, .func Fq66), (163, .func Fq68), (93, .func Fq59), (104, .func Fq63), (158, .func Fq64), (160, .func Fq60), (98, .func Fq65), (101, .func Fq61), (113, .func Fq62), (109, .pure Fstrings_Repeat), (119, .func FBuilder_String), (183, .func FBuilder_copyCheck), (100205, .iter (eachBegin .str) (eachNext .str))]
theorem base7x_ok : EnvOk Tryz.prog base7x := EnvOk.cons Fq27_ok (EnvOk.cons Fq23_ok (EnvOk.cons Fq26_ok (EnvOk.cons Fq25_ok (EnvOk.cons Fq73_ok (EnvOk.cons Fq13_ok (EnvOk.cons Fq24_ok (EnvOk.cons Fq8_ok (EnvOk.cons Fq57_ok (EnvOk.cons Fq50_ok (EnvOk.cons Fq58_ok (EnvOk.cons Fq55_ok (EnvOk.cons Fq72_ok (EnvOk.cons Fq70_ok (EnvOk.cons Fq10_ok (EnvOk.cons Fq12_ok (EnvOk.cons Fq9_ok (EnvOk.cons Fq56_ok (EnvOk.cons Fq52_ok (EnvOk.cons Fq32_ok (EnvOk.cons Fq29_ok (EnvOk.cons Fq20_ok (EnvOk.cons Fq14_ok (EnvOk.cons Fq16_ok (EnvOk.cons Fq0_ok (EnvOk.cons Fq5_ok (EnvOk.cons Fq2_ok (EnvOk.cons Fq3_ok (EnvOk.cons Fq1_ok (EnvOk.cons Fq4_ok (EnvOk.cons Fq51_ok (EnvOk.cons Fq31_ok (EnvOk.cons Fq11_ok (EnvOk.cons Fq6_ok (EnvOk.cons Fq7_ok (EnvOk.cons Fq74_ok (EnvOk.cons Fq54_ok (EnvOk.cons Fq15_ok (EnvOk.cons Fq19_ok (EnvOk.cons Fq17_ok (EnvOk.cons Fq18_ok (EnvOk.cons Fq28_ok (EnvOk.cons Fq30_ok (EnvOk.cons Fq53_ok (EnvOk.cons Fq37_ok (EnvOk.cons Fq38_ok (EnvOk.cons Fq34_ok (EnvOk.cons Fq71_ok (EnvOk.cons Fq69_ok (EnvOk.cons Fq33_ok (EnvOk.cons Fq36_ok (EnvOk.cons Fq35_ok (EnvOk.cons Fq67_ok (EnvOk.cons Fq66_ok (EnvOk.cons Fq68_ok (EnvOk.cons Fq59_ok (EnvOk.cons Fq63_ok (EnvOk.cons Fq64_ok (EnvOk.cons Fq60_ok (EnvOk.cons Fq65_ok (EnvOk.cons Fq61_ok (EnvOk.cons Fq62_ok (EnvOk.cons Fstrings_Repeat_ok (EnvOk.cons FBuilder_String_ok (EnvOk.cons FBuilder_copyCheck_ok (EnvOk.cons iter205_spec (EnvOk.nil))))))))))))))))))))))))))))))))))))))))))))))))))))))))))))))))))
def runs7x : List RunI := [
  ⟨21, false, []⟩,
  ⟨22, false, []⟩,
  ⟨23, false, []⟩,
  ⟨24, false, []⟩,
  ⟨26, false, [(0, [0, 2, 3, 17, 104])]⟩,
  ⟨27, false, [(0, [7, 9, 26]), (2, [7, 9, 44, 45])]⟩,
  ⟨29, false, [(0, [8, 28, 29, 30])]⟩,
  ⟨30, false, []⟩,
  ⟨33, false, []⟩,
  ⟨35, false, []⟩,
  ⟨43, true, [(0, [1, 5, 31, 32, 33])]⟩,
  ⟨45, true, []⟩,
  ⟨47, true, []⟩,
  ⟨69, false, []⟩,
  ⟨70, false, []⟩,
  ⟨71, false, []⟩,
  ⟨94, false, []⟩,
  ⟨95, false, [(0, [2, 3, 4, 24, 79])]⟩,
  ⟨97, false, []⟩,
  ⟨99, false, [(0, [3, 4, 10, 16])]⟩,
  ⟨103, false, [(1, [7, 9, 10])]⟩,
  ⟨105, false, []⟩,
  ⟨107, false, []⟩,
  ⟨110, false, []⟩,
  ⟨111, false, [(0, [0, 27, 28, 29]), (2, [0, 6, 27, 28, 29, 34, 35, 36])]⟩,
  ⟨112, false, []⟩,
  ⟨127, true, []⟩,
  ⟨157, false, []⟩,
  ⟨166, false, []⟩,
  ⟨167, false, []⟩,
  ⟨168, false, []⟩,
  ⟨173, true, []⟩,
  ⟨179, false, []⟩,
  ⟨180, false, []⟩,
  ⟨212, true, []⟩,
  ⟨213, true, []⟩,
  ⟨217, false, [(0, [0])]⟩,
  ⟨240, false, []⟩,
  ⟨259, false, [(0, [0, 1, 8, 12, 13])]⟩]
theorem runs7x_ok : runs7x.all (RunI.ok Tryz.prog) = true := by kernel_rfl
noncomputable def lo7x : Lo := loQ Tryz.prog Tryz.tab base7x runs7x 40
theorem lo7x_ok : LoOk Tryz.prog lo7x := loQ_ok mixed tabOk base7x_ok runs7x_ok 40
end Go.Proofs.R7
namespace Go.Proofs.R7
open Go Go.AE
set_option maxRecDepth 100000
def ilaw16_works : RunI := ⟨42, true, []⟩
theorem runlaw16_works (K : AV → List AE.Obj → Ans) : runQ Tryz.tab lo7x ilaw16_works Tryz.f42 [] [] K = K (.bool true) [] := by kernel_rfl
abbrev Alaw16_works := Unit
abbrev Ylaw16_works := Bool
def fnDlaw16_works (_ : Alaw16_works) : Option Ylaw16_works := some true
def decAlaw16_works (l : List AV) : Option Alaw16_works := match l with
  | [] => some ()
  | _ => none
def Flaw16_works : List AV → (AV → Ans) → Ans := fun l K => bindO (decAlaw16_works l) fun a => bindO (fnDlaw16_works a) fun y => K (.bool y)
theorem Flaw16_works_ok : PureOk Tryz.prog 42 Flaw16_works :=
  konstQP (i := ilaw16_works) mixed tabOk lo7x_ok Tryz.func42 (by kernel_rfl) (by decide +kernel) (v := .bool true) rfl (fun l K res h => by
    cases l with
    | nil => exact ⟨rfl, h⟩
    | cons _ _ => cases h) runlaw16_works
end Go.Proofs.R7
namespace Go.Proofs.R7
open Go Go.AE
set_option maxRecDepth 100000
--@ law16_SuperPuts
noncomputable def envq22 : Env := [(45,.pure Fq75),(43,.pure Fq77),(42,.pure Flaw16_works),(46,.pure Fq47),(44,.pure Fq49)]
theorem envq22Ok : EnvOk Tryz.prog envq22 := EnvOk.cons Fq75_ok (EnvOk.cons Fq77_ok (EnvOk.cons Flaw16_works_ok (EnvOk.cons Fq47_ok (EnvOk.cons Fq49_ok (EnvOk.nil)))))
noncomputable def bq22 : Code := Tryz.f6.body.getD .skip
noncomputable def Lq22_n0 : Code := codeAt [1,1,1,1,0] bq22
noncomputable def annLq22_n0 : Ann := .none
theorem annLq22_n0_ok : AnnOk Tryz.prog 34 Lq22_n0 annLq22_n0 := (annOk_none _ _ _)
abbrev Iq22_n0 := (List UInt8) × (Int) × (List UInt8) × (Int) × (Int) × (Int) × (Int) × (Int) × (Int) × (Int) × (Int)
abbrev Yq22_n0 := (Bool)
def Sq22_n0 : Iq22_n0 → St := fun (t3,t4,t5,t6,o0_0,o0_1,o0_2,o0_3,o0_4,o0_5,o0_6) => { env := [(1,.ptr 0 0),(3,.str t3),(4,.int .i64 t4),(5,.str t5),(6,.int .i64 t6)],stk := [[]],H := [.cells [.int .i64 o0_0,.int .i64 o0_1,.int .i64 o0_2,.int .i64 o0_3,.int .i64 o0_4,.int .i64 o0_5,.int .i64 o0_6]],blk := 24576 }
def decPq22_n0 (s : St) : Option {x : Iq22_n0 // s = Sq22_n0 x} := match s with
  | { env := [(1,.ptr 0 0),(3,.str t3),(4,.int .i64 t4),(5,.str t5),(6,.int .i64 t6)],stk := [[]],H := [.cells [.int .i64 o0_0,.int .i64 o0_1,.int .i64 o0_2,.int .i64 o0_3,.int .i64 o0_4,.int .i64 o0_5,.int .i64 o0_6]],blk := 24576 } => some ⟨(t3,t4,t5,t6,o0_0,o0_1,o0_2,o0_3,o0_4,o0_5,o0_6),rfl⟩
  | _ => none
def decq22_n0 (s : St) : Option Iq22_n0 := pk (decPq22_n0 s)
theorem decq22_n0_ok (s : St) (x : Iq22_n0) (h : decq22_n0 s = some x) : s = Sq22_n0 x := pk_ok (o := decPq22_n0 s) h
def outq22_n0 : Iq22_n0 → (Ex → St → Ans) → Yq22_n0 → Ans := fun (t3,t4,t5,t6,o0_0,o0_1,o0_2,o0_3,o0_4,o0_5,o0_6) K => fun t2_y => K (Ex.norm) { env := [(2,.bool t2_y)],stk := [[]],H := [],blk := 24576 }
def nodeq22_n0 {β : Type} : Iq22_n0 → (Yq22_n0 → Option β) → Option β := fun (t3,t4,t5,t6,o0_0,o0_1,o0_2,o0_3,o0_4,o0_5,o0_6) exit => (bindO (fnDq75 (o0_0,o0_1,o0_2,o0_3,o0_4,o0_5,o0_6)) fun r => (bindO (fnDq47 (o0_0,o0_1,o0_2,o0_3,o0_4,o0_5,o0_6)) fun r_2 => (bif r == r_2 then (bif t3 == t5 then (exit (t4 == t6)) else (exit (false))) else (exit (false)))))
def nodeDq22_n0 (i : Iq22_n0) : Option Yq22_n0 := nodeq22_n0 i some
theorem nodeq22_n0_nat (i : Iq22_n0) (k : Yq22_n0 → Ans) : nodeq22_n0 i k = bindO (nodeDq22_n0 i) k := by
  obtain ⟨t3,t4,t5,t6,o0_0,o0_1,o0_2,o0_3,o0_4,o0_5,o0_6⟩ := i
  simp only [nodeDq22_n0,nodeq22_n0,bindO_cond,bindO_assoc,bindO_none,bindO_pure,bindO_elim,bindO_unP,bindO_empty]
theorem nodeq22_n0_ok (i : Iq22_n0) (K : Ex → St → Ans) : codeI Tryz.tab envq22 noHint (codeD Tryz.tab envq22 noHint 0 64) 70 34 annLq22_n0 Lq22_n0 (weakP 0 (exk [2] [2] []) K) (Sq22_n0 i) = nodeq22_n0 i (outq22_n0 i K) := by kernel_rfl
theorem GNq22_n0_ok : CSum Tryz.prog 34 Lq22_n0 (sumN decq22_n0 nodeDq22_n0 outq22_n0) := csum_node mixed tabOk envq22Ok 0 (exk [2] [2] []) annLq22_n0_ok decq22_n0_ok nodeq22_n0_ok nodeq22_n0_nat
noncomputable def Gq22_n0 : (Ex → St → Ans) → St → Ans := (sumN decq22_n0 nodeDq22_n0 outq22_n0)
theorem Gq22_n0_ok : CSum Tryz.prog 34 Lq22_n0 Gq22_n0 := GNq22_n0_ok
noncomputable def annq22 : Ann := (.seq .none (.seq .none (.seq .none (.seq .none (.seq (.cut 0 [1,3,4,5,6] Gq22_n0) .none)))))
theorem annq22_ok : AnnOk Tryz.prog 34 bq22 annq22 := ⟨(annOk_none _ _ _),⟨(annOk_none _ _ _),⟨(annOk_none _ _ _),⟨(annOk_none _ _ _),⟨Gq22_n0_ok,(annOk_none _ _ _)⟩⟩⟩⟩⟩
abbrev Aq22 := (Int) × (Int) × (Int) × (Int) × (Int) × (Int) × (Int)
abbrev Yq22 := (Bool)
def fnq22 {β : Type} : Aq22 → (Yq22 → Option β) → Option β := fun (a0_0,a0_1,a0_2,a0_3,a0_4,a0_5,a0_6) exit => (bindO (fnDlaw16_works ()) fun r => (bif !r then (exit (false)) else (bindO (fnDq77 (a0_0,a0_1,a0_2,a0_3,a0_4,a0_5,a0_6)) (unP fun r_0 r_1 => (bindO (fnDq49 (a0_0,a0_1,a0_2,a0_3,a0_4,a0_5,a0_6)) (unP fun r_0_2 r_1_2 => (bindO (nodeDq22_n0 (r_0,r_1,r_0_2,r_1_2,a0_0,a0_1,a0_2,a0_3,a0_4,a0_5,a0_6)) fun t2 => (exit (t2)))))))))
def fnDq22 (a : Aq22) : Option Yq22 := fnq22 a some
theorem fnq22_nat (a : Aq22) (k : Yq22 → Ans) : fnq22 a k = bindO (fnDq22 a) k := by
  obtain ⟨a0_0,a0_1,a0_2,a0_3,a0_4,a0_5,a0_6⟩ := a
  simp only [fnDq22,fnq22,bindO_cond,bindO_assoc,bindO_none,bindO_pure,bindO_elim,bindO_unP,bindO_empty]
def argsq22 : Aq22 → List AV × List AE.Obj := fun (a0_0,a0_1,a0_2,a0_3,a0_4,a0_5,a0_6) => ([.agg [.int .i64 a0_0,.int .i64 a0_1,.int .i64 a0_2,.int .i64 a0_3,.int .i64 a0_4,.int .i64 a0_5,.int .i64 a0_6]],[])
def decPAq22 (l : List AV) (H : List AE.Obj) : Option {a : Aq22 // (l,H) = argsq22 a} := match l,H with
  | [.agg [.int .i64 a0_0,.int .i64 a0_1,.int .i64 a0_2,.int .i64 a0_3,.int .i64 a0_4,.int .i64 a0_5,.int .i64 a0_6]],[] => some ⟨(a0_0,a0_1,a0_2,a0_3,a0_4,a0_5,a0_6),rfl⟩
  | _,_ => none
def decAq22 (l : List AV) (H : List AE.Obj) : Option Aq22 := pk (decPAq22 l H)
theorem decAq22_ok (l : List AV) (H : List AE.Obj) (a : Aq22) (h : decAq22 l H = some a) : (l,H) = argsq22 a := pk_ok (o := decPAq22 l H) h
def outq22 : Aq22 → (AV → List AE.Obj → Ans) → Yq22 → Ans := fun (a0_0,a0_1,a0_2,a0_3,a0_4,a0_5,a0_6) K => fun r_y => K (.bool r_y) []
theorem fnq22_ok (a : Aq22) (K : AV → List AE.Obj → Ans) : fnE Tryz.tab envq22 noHint 0 70 6 Tryz.f6.ntmps Tryz.f6.results.toList annq22 bq22 (argsq22 a).1 (argsq22 a).2 K = fnq22 a (outq22 a K) := by kernel_rfl
def vFq22 (a : Aq22) (K : AV → List AE.Obj → Ans) : Ans := bindO (fnDq22 a) fun y => outq22 a K y
def Fq22 : List AV → List AE.Obj → (AV → List AE.Obj → Ans) → Ans := fun l H K => bindO (decAq22 l H) fun a => vFq22 a K
theorem Fq22_ok : FuncOk Tryz.prog 6 Fq22 := func_mkD (hint := noHint) (d := 0) (n := 70) mixed tabOk envq22Ok Tryz.func6 (bodySome (by kernel_rfl)) (by decide +kernel) annq22_ok decAq22_ok fnq22_ok fnq22_nat
--@ law16_SuperGets
noncomputable def envq21 : Env := [(47,.pure Fq76),(42,.pure Flaw16_works),(48,.pure Fq48)]
theorem envq21Ok : EnvOk Tryz.prog envq21 := EnvOk.cons Fq76_ok (EnvOk.cons Flaw16_works_ok (EnvOk.cons Fq48_ok (EnvOk.nil)))
noncomputable def bq21 : Code := Tryz.f7.body.getD .skip
noncomputable def Lq21_n0 : Code := codeAt [1,1,1,1,1,0] bq21
noncomputable def annLq21_n0 : Ann := .none
theorem annLq21_n0_ok : AnnOk Tryz.prog 30 Lq21_n0 annLq21_n0 := (annOk_none _ _ _)
abbrev Iq21_n0 := (Int) × (Int) × (Int) × (Int) × (Int) × (Int) × (Int) × (Int) × (Int) × (Int) × (Int) × (Int) × (Int) × (Int) × (Int) × (Int)
abbrev Yq21_n0 := (Bool)
def Sq21_n0 : Iq21_n0 → St := fun (t4,t6,o0_0,o0_1,o0_2,o0_3,o0_4,o0_5,o0_6,o1_0,o1_1,o1_2,o1_3,o1_4,o1_5,o1_6) => { env := [(3,.ptr 0 0),(4,.int .i64 t4),(5,.ptr 1 0),(6,.int .i64 t6)],stk := [[]],H := [.cells [.int .i64 o0_0,.int .i64 o0_1,.int .i64 o0_2,.int .i64 o0_3,.int .i64 o0_4,.int .i64 o0_5,.int .i64 o0_6],.cells [.int .i64 o1_0,.int .i64 o1_1,.int .i64 o1_2,.int .i64 o1_3,.int .i64 o1_4,.int .i64 o1_5,.int .i64 o1_6]],blk := 28672 }
def decPq21_n0 (s : St) : Option {x : Iq21_n0 // s = Sq21_n0 x} := match s with
  | { env := [(3,.ptr 0 0),(4,.int .i64 t4),(5,.ptr 1 0),(6,.int .i64 t6)],stk := [[]],H := [.cells [.int .i64 o0_0,.int .i64 o0_1,.int .i64 o0_2,.int .i64 o0_3,.int .i64 o0_4,.int .i64 o0_5,.int .i64 o0_6],.cells [.int .i64 o1_0,.int .i64 o1_1,.int .i64 o1_2,.int .i64 o1_3,.int .i64 o1_4,.int .i64 o1_5,.int .i64 o1_6]],blk := 28672 } => some ⟨(t4,t6,o0_0,o0_1,o0_2,o0_3,o0_4,o0_5,o0_6,o1_0,o1_1,o1_2,o1_3,o1_4,o1_5,o1_6),rfl⟩
  | _ => none
def decq21_n0 (s : St) : Option Iq21_n0 := pk (decPq21_n0 s)
theorem decq21_n0_ok (s : St) (x : Iq21_n0) (h : decq21_n0 s = some x) : s = Sq21_n0 x := pk_ok (o := decPq21_n0 s) h
def outq21_n0 : Iq21_n0 → (Ex → St → Ans) → Yq21_n0 → Ans := fun (t4,t6,o0_0,o0_1,o0_2,o0_3,o0_4,o0_5,o0_6,o1_0,o1_1,o1_2,o1_3,o1_4,o1_5,o1_6) K => fun t2_y => K (Ex.norm) { env := [(2,.bool t2_y)],stk := [[]],H := [],blk := 28672 }
def nodeq21_n0 {β : Type} : Iq21_n0 → (Yq21_n0 → Option β) → Option β := fun (t4,t6,o0_0,o0_1,o0_2,o0_3,o0_4,o0_5,o0_6,o1_0,o1_1,o1_2,o1_3,o1_4,o1_5,o1_6) exit => (bif o0_0 == o1_0 && (o0_1 == o1_1 && (o0_2 == o1_2 && (o0_3 == o1_3 && (o0_4 == o1_4 && (o0_5 == o1_5 && (o0_6 == o1_6 && true)) && true)))) then (exit (t4 == t6)) else (exit (false)))
def nodeDq21_n0 (i : Iq21_n0) : Option Yq21_n0 := nodeq21_n0 i some
theorem nodeq21_n0_nat (i : Iq21_n0) (k : Yq21_n0 → Ans) : nodeq21_n0 i k = bindO (nodeDq21_n0 i) k := by
  obtain ⟨t4,t6,o0_0,o0_1,o0_2,o0_3,o0_4,o0_5,o0_6,o1_0,o1_1,o1_2,o1_3,o1_4,o1_5,o1_6⟩ := i
  simp only [nodeDq21_n0,nodeq21_n0,bindO_cond,bindO_assoc,bindO_none,bindO_pure,bindO_elim,bindO_unP,bindO_empty]
theorem nodeq21_n0_ok (i : Iq21_n0) (K : Ex → St → Ans) : codeI Tryz.tab envq21 noHint (codeD Tryz.tab envq21 noHint 0 64) 70 30 annLq21_n0 Lq21_n0 (weakP 0 (exk [2] [2] []) K) (Sq21_n0 i) = nodeq21_n0 i (outq21_n0 i K) := by kernel_rfl
theorem GNq21_n0_ok : CSum Tryz.prog 30 Lq21_n0 (sumN decq21_n0 nodeDq21_n0 outq21_n0) := csum_node mixed tabOk envq21Ok 0 (exk [2] [2] []) annLq21_n0_ok decq21_n0_ok nodeq21_n0_ok nodeq21_n0_nat
noncomputable def Gq21_n0 : (Ex → St → Ans) → St → Ans := (sumN decq21_n0 nodeDq21_n0 outq21_n0)
theorem Gq21_n0_ok : CSum Tryz.prog 30 Lq21_n0 Gq21_n0 := GNq21_n0_ok
noncomputable def annq21 : Ann := (.seq .none (.seq .none (.seq .none (.seq .none (.seq .none (.seq (.cut 0 [3,4,5,6] Gq21_n0) .none))))))
theorem annq21_ok : AnnOk Tryz.prog 30 bq21 annq21 := ⟨(annOk_none _ _ _),⟨(annOk_none _ _ _),⟨(annOk_none _ _ _),⟨(annOk_none _ _ _),⟨(annOk_none _ _ _),⟨Gq21_n0_ok,(annOk_none _ _ _)⟩⟩⟩⟩⟩⟩
abbrev Aq21 := (List UInt8)
abbrev Yq21 := (Bool)
def fnq21 {β : Type} : Aq21 → (Yq21 → Option β) → Option β := fun a0 exit => (bindO (fnDlaw16_works ()) fun r => (bif !r then (exit (false)) else (bif decide ((↑(List.length a0) : Int) > (3000 : Int)) then (exit (true)) else (bindO (fnDq76 (a0)) (unP fun r_0_0 => unP fun r_0_1 => unP fun r_0_2 => unP fun r_0_3 => unP fun r_0_4 => unP fun r_0_5 => unP fun r_0_6 r_1 => (bindO (fnDq48 (a0)) (unP fun r_0_0_2 => unP fun r_0_1_2 => unP fun r_0_2_2 => unP fun r_0_3_2 => unP fun r_0_4_2 => unP fun r_0_5_2 => unP fun r_0_6_2 r_1_2 => (bindO (nodeDq21_n0 (r_1,r_1_2,r_0_0,r_0_1,r_0_2,r_0_3,r_0_4,r_0_5,r_0_6,r_0_0_2,r_0_1_2,r_0_2_2,r_0_3_2,r_0_4_2,r_0_5_2,r_0_6_2)) fun t2 => (exit (t2))))))))))
def fnDq21 (a : Aq21) : Option Yq21 := fnq21 a some
theorem fnq21_nat (a : Aq21) (k : Yq21 → Ans) : fnq21 a k = bindO (fnDq21 a) k := by
  obtain z := a
  simp only [fnDq21,fnq21,bindO_cond,bindO_assoc,bindO_none,bindO_pure,bindO_elim,bindO_unP,bindO_empty]
def argsq21 : Aq21 → List AV × List AE.Obj := fun a0 => ([.str a0],[])
def decPAq21 (l : List AV) (H : List AE.Obj) : Option {a : Aq21 // (l,H) = argsq21 a} := match l,H with
  | [.str a0],[] => some ⟨(a0),rfl⟩
  | _,_ => none
def decAq21 (l : List AV) (H : List AE.Obj) : Option Aq21 := pk (decPAq21 l H)
theorem decAq21_ok (l : List AV) (H : List AE.Obj) (a : Aq21) (h : decAq21 l H = some a) : (l,H) = argsq21 a := pk_ok (o := decPAq21 l H) h
def outq21 : Aq21 → (AV → List AE.Obj → Ans) → Yq21 → Ans := fun a0 K => fun r_y => K (.bool r_y) []
theorem fnq21_ok (a : Aq21) (K : AV → List AE.Obj → Ans) : fnE Tryz.tab envq21 noHint 0 70 7 Tryz.f7.ntmps Tryz.f7.results.toList annq21 bq21 (argsq21 a).1 (argsq21 a).2 K = fnq21 a (outq21 a K) := by kernel_rfl
def vFq21 (a : Aq21) (K : AV → List AE.Obj → Ans) : Ans := bindO (fnDq21 a) fun y => outq21 a K y
def Fq21 : List AV → List AE.Obj → (AV → List AE.Obj → Ans) → Ans := fun l H K => bindO (decAq21 l H) fun a => vFq21 a K
theorem Fq21_ok : FuncOk Tryz.prog 7 Fq21 := func_mkD (hint := noHint) (d := 0) (n := 70) mixed tabOk envq21Ok Tryz.func7 (bodySome (by kernel_rfl)) (by decide +kernel) annq21_ok decAq21_ok fnq21_ok fnq21_nat
end Go.Proofs.R7
namespace Go.Proofs.R7
open Go Go.AE Go.Plain

theorem wrapU32 {m : Nat} (h : m < 4294967296) : IntKind.wrap .u32 (m : Int) = (m : Int) := by
  simp [IntKind.wrap, IntKind.bits, IntKind.signed]; omega
theorem wrapU8 (m : Nat) : IntKind.wrap .u8 (m : Int) = ((m % 256 : Nat) : Int) := by
  simp [IntKind.wrap, IntKind.bits, IntKind.signed]
theorem natU32 {m : Nat} (h : m < 4294967296) : Int.toNat ((m : Int) % 4294967296) = m := by omega
theorem nat64 {m : Nat} (h : m < 9223372036854775808) : Int.toNat ((m : Int) % 18446744073709551616) = m := by omega
theorem wrapN {m : Nat} (h : m ≤ 9223372036854775807) : IntKind.wrap .i64 (m : Int) = (m : Int) := wrap64 (by omega) (by omega)
theorem pow_min (a b : Nat) : (2 : Int) ^ min a b = ((2 ^ min a b : Nat) : Int) := by simp
theorem fdiv_nat (m p : Nat) : Int.fdiv (m : Int) (p : Int) = ((m / p : Nat) : Int) := by rw [Int.fdiv_eq_ediv_of_nonneg _ (by omega)]; rfl
theorem tdiv_nat (m p : Nat) : Int.tdiv (m : Int) (p : Int) = ((m / p : Nat) : Int) := rfl
theorem tmod_nat (m p : Nat) : Int.tmod (m : Int) (p : Int) = ((m % p : Nat) : Int) := rfl

/-! ### cyclic -/
theorem bitStep_eq {n : Nat} (h : n < 4294967296) : IntKind.wrap .u32 (((Int.toNat (Int.fdiv (n : Int) 2 % 4294967296) ^^^ Int.toNat (IntKind.wrap .u32 (((3988292384 &&&
    Int.toNat (IntKind.wrap .u32 ((0 : Int) - IntKind.wrap .u32 (((Int.toNat ((n : Int) % 4294967296) &&& 1 : Nat)) : Int)) % 4294967296) : Nat)) : Int) % 4294967296) : Nat)) : Int) = ((bitStep n : Nat) : Int) := by
  have e1 : Int.fdiv (n : Int) 2 = ((n / 2 : Nat) : Int) := fdiv_nat n 2
  rw [e1, natU32 (m := n / 2) (by omega), natU32 h, Nat.and_one_is_mod]
  have hlt := bitStep_lt (n := n) (by omega)
  unfold bitStep at hlt ⊢
  have hn : n % 2 = 0 ∨ n % 2 = 1 := by omega
  rcases hn with hn | hn <;> rw [hn] at hlt ⊢
  · have : Int.toNat (IntKind.wrap .u32 (((3988292384 &&& Int.toNat (IntKind.wrap .u32 ((0 : Int) - IntKind.wrap .u32 ((0 : Nat) : Int)) % 4294967296) : Nat)) : Int) % 4294967296) = 0 := by decide
    rw [this]
    exact wrapU32 hlt
  · have : Int.toNat (IntKind.wrap .u32 (((3988292384 &&& Int.toNat (IntKind.wrap .u32 ((0 : Int) - IntKind.wrap .u32 ((1 : Nat) : Int)) % 4294967296) : Nat)) : Int) % 4294967296) = poly := by decide
    rw [this]
    exact wrapU32 hlt
theorem bits_succ (k n : Nat) : nbits (k + 1) n = bitStep (nbits k n) := by rw [← bits_add k 1]; rfl
theorem cyclic_step_eq {n c : Nat} (hn : n < 4294967296) (hc : c < 256) : fnDq5 ((n : Int), (c : Int)) = some ((byteStep n c : Nat) : Int) := by
  have hx : n ^^^ c < 4294967296 := Nat.xor_lt_two_pow (n := 32) hn (by omega)
  have key : ∃ y, loopD (stepDq5_n0 ()) FUEL (((n ^^^ c : Nat) : Int), (0 : Int)) = some y ∧ y = ((byteStep n c : Nat) : Int) := by
    refine loopD_inv (fun j v => j ≤ 8 ∧ v = (((nbits j (n ^^^ c) : Nat) : Int), (j : Int))) 8 _ ?_ ⟨by omega, rfl⟩ (by omega)
    rintro j v ⟨hj, rfl⟩
    have hb := bits_lt j (n := n ^^^ c) hx
    by_cases h8 : j < 8
    · left
      refine ⟨_, ?_, h8, by omega, rfl⟩
      simp only [stepDq5_n0, stepq5_n0, dec_true (show (j : Int) < 8 by omega), cond_true]
      rw [bitStep_eq hb, wrap64_nat (by omega), bits_succ]
    · right
      obtain rfl : j = 8 := by omega
      refine ⟨_, ?_, rfl⟩
      simp only [stepDq5_n0, stepq5_n0, dec_false (show ¬ ((8 : Nat) : Int) < 8 by omega), cond_false]
      rfl
  obtain ⟨y, hy, rfl⟩ := key
  have e : IntKind.wrap .u32 (((Int.toNat ((n : Int) % 4294967296) ^^^ Int.toNat (IntKind.wrap .u32 (c : Int) % 4294967296) : Nat)) : Int) = ((n ^^^ c : Nat) : Int) := by
    rw [natU32 hn, wrapU32 (m := c) (by omega), natU32 (m := c) (by omega), wrapU32 hx]
  simp only [fnDq5, fnq5]
  rw [e, hy]
  rfl
theorem run_take (m : Nat) {s : List UInt8} {j : Nat} {c : UInt8} (h : s[j]? = some c) : crun m (s.take (j + 1)) = byteStep (crun m (s.take j)) c.toNat := by
  rw [List.take_add_one, h, run_append]; rfl
theorem xor_all {n : Nat} (hn : n < 4294967296) : IntKind.wrap .u32 (((Int.toNat ((n : Int) % 4294967296) ^^^ 4294967295 : Nat)) : Int) = ((n ^^^ all32 : Nat) : Int) := by
  rw [natU32 hn, wrapU32 (Nat.xor_lt_two_pow (n := 32) hn (by decide))]
  rfl
theorem cyclic_Of_eq (s : List UInt8) (hs : s.length ≤ 1000000000000) : fnDq1 s = some ((crc s : Nat) : Int) := by
  have key : ∃ y, loopD (stepDq2_n0 (s, (s.length : Int), 0)) FUEL (((all32 : Nat) : Int), ((0 : Nat) : Int)) = some y ∧ y = ((crun all32 s : Nat) : Int) := by
    refine loopD_each s (fun j (_ : Unit) => (((crun all32 (s.take j) : Nat) : Int), (j : Int))) (fun _ _ => True) _ ?_ ?_ (s0 := ()) trivial (by omega)
    · intro j c _ hj hlt _
      left
      refine ⟨(), ?_, trivial⟩
      have hr := run_lt (s.take j) (n := all32) (by decide)
      simp only [stepDq2_n0, stepq2_n0, dec_true (show (j : Int) < (s.length : Int) by omega), cond_true, nth_of hj, bindO_pure, wrap64_nat (show j < 9223372036854775807 by omega), cyclic_step_eq hr c.toNat_lt, run_take all32 hj]
    · intro _ _
      simp only [stepDq2_n0, stepq2_n0, dec_false (show ¬ (s.length : Int) < (s.length : Int) by omega), cond_false]
      exact ⟨_, rfl, by rw [List.take_length]⟩
  obtain ⟨y, hy, rfl⟩ := key
  have hr := run_lt s (n := all32) (by decide)
  have hc : crun all32 s ^^^ all32 < 4294967296 := crc_lt s
  have h0 : IntKind.wrap .u32 (((Int.toNat ((0 : Int) % 4294967296) ^^^ 4294967295 : Nat)) : Int) = ((all32 : Nat) : Int) := by decide
  simp only [fnDq1, fnq1, fnDq0, fnq0, fnDq2, fnq2, fnDq3, fnq3, bindO_pure]
  have hy' : loopD (stepDq2_n0 (s, (s.length : Int), 0)) FUEL (((all32 : Nat) : Int), 0) = _ := hy
  rw [h0, hy']
  simp only [bindO_pure]
  rw [xor_all hr, wrapN (by omega)]
  rfl
theorem byte8 (n p : Nat) : UInt8.ofNat (Int.toNat (IntKind.wrap .u8 (Int.fdiv (n : Int) (p : Int)))) = UInt8.ofNat (n / p % 256) := by
  rw [fdiv_nat, wrapU8]
  rfl
theorem cyclic_Tail_eq (s : List UInt8) (hs : s.length ≤ 1000000000000) : fnDq4 s = some (tail s) := by
  simp only [fnDq4, fnq4, cyclic_Of_eq s hs, bindO_pure, nodeDq4_n0, nodeq4_n0, nodeDq4_n1, nodeq4_n1, nodeDq4_n1v1, nodeq4_n1v1, nodeDq4_n1v2, nodeq4_n1v2, nodeDq4_n1v3, nodeq4_n1v3, nodeDq4_n1v4, nodeq4_n1v4, unP]
  have b0 := byte8 (crc s) 1
  have b1 := byte8 (crc s) 256
  have b2 := byte8 (crc s) 65536
  have b3 := byte8 (crc s) 16777216
  simp only [Int.cast_ofNat_Int] at b0 b1 b2 b3
  unfold bytesOf tail le4
  simp only [List.map_cons, List.map_nil]
  rw [b0, b1, b2, b3, Nat.div_one]
theorem refbit_eq (t0 : List UInt8) {n : Nat} (t4 t5 : Int) (h : n < 4294967296) : nodeDq43_n2 (t0, (n : Int), t4, t5) = some ((bitStep n : Nat) : Int) := by
  simp only [nodeDq43_n2, nodeq43_n2]
  have e1 : Int.tmod (n : Int) 2 = ((n % 2 : Nat) : Int) := rfl
  have e2 : Int.tdiv (n : Int) 2 = ((n / 2 : Nat) : Int) := rfl
  have hlt := bitStep_lt (n := n) (by omega)
  rw [e1, e2, wrapN (m := n / 2) (by omega), nat64 (m := n / 2) (by omega)]
  change (bif (((n % 2 : Nat) : Int) == 1) then some (IntKind.wrap .i64 ((n / 2 ^^^ poly : Nat) : Int)) else some ((n / 2 : Nat) : Int)) = _
  unfold bitStep at hlt ⊢
  by_cases hn : n % 2 = 1
  · rw [if_pos hn] at hlt ⊢
    have : (((n % 2 : Nat) : Int) == 1) = true := by rw [hn]; rfl
    rw [this, cond_true, wrapN (by omega)]
  · rw [if_neg hn] at hlt ⊢
    have : (((n % 2 : Nat) : Int) == 1) = false := by rw [beq_eq_false_iff_ne]; omega
    rw [this, cond_false, Nat.xor_zero]
theorem ref03_Of_eq (s : List UInt8) (hs : s.length ≤ 1000000000000) : fnDq43 s = some ((crc s : Nat) : Int) := by
  have inner : ∀ (t4 : Int) {n : Nat}, n < 4294967296 → loopD (stepDq43_n1 (s, t4)) FUEL ((n : Int), 0) = some ((nbits 8 n : Nat) : Int) := by
    intro t4 n hn
    have key : ∃ y, loopD (stepDq43_n1 (s, t4)) FUEL ((n : Int), ((0 : Nat) : Int)) = some y ∧ y = ((nbits 8 n : Nat) : Int) := by
      refine loopD_inv (fun j v => j ≤ 8 ∧ v = (((nbits j n : Nat) : Int), (j : Int))) 8 _ ?_ ⟨by omega, rfl⟩ (by omega)
      rintro j v ⟨hj, rfl⟩
      by_cases h8 : j < 8
      · left
        refine ⟨_, ?_, h8, by omega, rfl⟩
        simp only [stepDq43_n1, stepq43_n1, dec_true (show (j : Int) < 8 by omega), cond_true, refbit_eq _ _ _ (bits_lt j hn), bindO_pure, wrap64_nat (show j < 9223372036854775807 by omega), bits_succ]
      · right
        obtain rfl : j = 8 := by omega
        simp only [stepDq43_n1, stepq43_n1, dec_false (show ¬ ((8 : Nat) : Int) < 8 by omega), cond_false]
        exact ⟨_, rfl, rfl⟩
    obtain ⟨y, hy, rfl⟩ := key
    exact hy
  have key : ∃ y, loopD (stepDq43_n0 s) FUEL (((all32 : Nat) : Int), ((0 : Nat) : Int)) = some y ∧ y = ((crun all32 s : Nat) : Int) := by
    refine loopD_each s (fun j (_ : Unit) => (((crun all32 (s.take j) : Nat) : Int), (j : Int))) (fun _ _ => True) _ ?_ ?_ (s0 := ()) trivial (by omega)
    · intro j c _ hj hlt _
      left
      refine ⟨(), ?_, trivial⟩
      have hr := run_lt (s.take j) (n := all32) (by decide)
      have hc : c.toNat < 256 := c.toNat_lt
      have hx : crun all32 (s.take j) ^^^ c.toNat < 4294967296 := Nat.xor_lt_two_pow (n := 32) hr (by omega)
      simp only [stepDq43_n0, stepq43_n0, dec_true (show (j : Int) < (s.length : Int) by omega), cond_true, nth_of hj, bindO_pure, wrap64_nat (show j < 9223372036854775807 by omega), run_take all32 hj]
      rw [wrapN (m := c.toNat) (by omega), nat64 (m := crun all32 (s.take j)) (by omega), nat64 (m := c.toNat) (by omega), wrapN (by omega), inner _ hx]
      rfl
    · intro _ _
      simp only [stepDq43_n0, stepq43_n0, dec_false (show ¬ (s.length : Int) < (s.length : Int) by omega), cond_false]
      exact ⟨_, rfl, by rw [List.take_length]⟩
  obtain ⟨y, hy, rfl⟩ := key
  have hy' : loopD (stepDq43_n0 s) FUEL ((4294967295 : Int), 0) = _ := hy
  have hr := run_lt s (n := all32) (by decide)
  have hc := crc_lt s
  simp only [fnDq43, fnq43, hy', bindO_pure]
  rw [nat64 (m := crun all32 s) (by omega)]
  change some (IntKind.wrap .i64 ((crc s : Nat) : Int)) = _
  rw [wrapN (by omega)]
theorem ref03_Tail_eq (s : List UInt8) (hs : s.length ≤ 1000000000000) : fnDq44 s = some (tail s) := by
  simp only [fnDq44, fnq44, ref03_Of_eq s hs, bindO_pure]
  have hc := crc_lt s
  have e : ∀ p : Nat, p ≤ 16777216 → IntKind.wrap .i64 (Int.tdiv ((crc s : Nat) : Int) (p : Int)) = ((crc s / p : Nat) : Int) := fun p _ => by
    rw [tdiv_nat, wrapN]
    have := Nat.div_le_self (crc s) p
    omega
  have e1 := e 256 (by omega)
  have e2 := e 65536 (by omega)
  have e3 := e 16777216 (by omega)
  simp only [Int.cast_ofNat_Int] at e1 e2 e3
  rw [e1, e2, e3]
  have m : ∀ n : Nat, Int.tmod (n : Int) 256 = ((n % 256 : Nat) : Int) := fun n => rfl
  rw [m, m, m, m, wrapU8, wrapU8, wrapU8, wrapU8]
  unfold bytesOf tail le4
  simp only [List.map_cons, List.map_nil, Int.toNat_natCast, Nat.mod_mod]

/-! ### padding -/
theorem repeat_zero : ∀ n : Nat, Lib.repeatL [0] n = List.replicate n 0
  | 0 => rfl
  | n + 1 => by rw [Lib.repeatL, repeat_zero n, List.replicate_succ]; rfl
theorem region_Pad_eq (s : List UInt8) (hs : s.length ≤ 1000000000000) : fnDq51 s = some (padTo s) := by
  have e : Int.tmod (s.length : Int) 64 = ((s.length % 64 : Nat) : Int) := rfl
  simp only [fnDq51, fnq51, e]
  by_cases h : s.length % 64 = 0
  · rw [dec_false (by omega), cond_false, padTo, h]
    simp
  · have e2 : IntKind.wrap .i64 ((64 : Int) - ((s.length % 64 : Nat) : Int)) = ((64 - s.length % 64 : Nat) : Int) := by rw [wrap64 (by omega) (by omega)]; omega
    rw [dec_true (by omega), cond_true, e2]
    have : fnDstrings_Repeat ([0], ((64 - s.length % 64 : Nat) : Int)) = some (List.replicate (64 - s.length % 64) 0) := by
      unfold fnDstrings_Repeat
      rw [repeat_zero]
      simp only [Int.toNat_natCast, List.length_cons, List.length_nil]
      rw [dec_true (by omega), dec_true (by omega), ble_true (by omega)]
      rfl
    rw [this]
    simp only [bindO_pure]
    rw [ble_true (by rw [List.length_replicate]; omega), cond_true, padTo, show (64 - s.length % 64) % 64 = 64 - s.length % 64 by omega]
theorem ref09_Pad_eq (s : List UInt8) (hs : s.length ≤ 1000000000000) : fnDq45 s = some (padTo s) := by
  have key : ∃ y, loopD (stepDq45_n0 ()) FUEL s = some y ∧ y = padTo s := by
    refine loopD_inv (fun j v => j ≤ (64 - s.length % 64) % 64 ∧ v = s ++ List.replicate j 0) ((64 - s.length % 64) % 64) _ ?_ ⟨by omega, by simp⟩ (by omega)
    rintro j v ⟨hj, rfl⟩
    have hl : (s ++ List.replicate j (0 : UInt8)).length = s.length + j := by simp
    have e : Int.tmod ((s.length + j : Nat) : Int) 64 = (((s.length + j) % 64 : Nat) : Int) := rfl
    simp only [stepDq45_n0, stepq45_n0, hl, e]
    by_cases hlt : j < (64 - s.length % 64) % 64
    · left
      have e1 : ((((s.length + j) % 64 : Nat) : Int) != 0) = true := by rw [bne_iff_ne]; omega
      rw [e1, cond_true, ble_true (by omega), cond_true]
      exact ⟨_, rfl, hlt, by omega, by rw [List.append_assoc, List.replicate_succ']⟩
    · right
      have e1 : ((((s.length + j) % 64 : Nat) : Int) != 0) = false := by rw [bne_eq_false_iff_eq]; omega
      rw [e1, cond_false]
      exact ⟨_, rfl, by rw [padTo, show j = (64 - s.length % 64) % 64 by omega]⟩
  obtain ⟨y, hy, rfl⟩ := key
  simp only [fnDq45, fnq45, hy, bindO_pure]

/-! ### numbers of a fixed width -/
theorem pow256 (k : Nat) : (2 : Nat) ^ (8 * k) = 256 ^ k := by rw [Nat.pow_mul]
theorem field_Fits_eq (n : Int) (k : Nat) (hk : 1 ≤ k ∧ k ≤ 7) : fnDq14 (n, (k : Int)) = some (decide (0 ≤ n ∧ n < ((256 ^ k : Nat) : Int))) := by
  have w : IntKind.wrap .i64 ((8 : Int) * (k : Int)) = ((8 * k : Nat) : Int) := by rw [wrap64 (by omega) (by omega)]; omega
  simp only [fnDq14, fnq14, nodeDq14_n0, nodeq14_n0, fnDq20, fnq20, nodeDq20_n0, nodeq20_n0, bindO_pure]
  rw [dec_true (show (k : Int) ≥ 1 by omega), dec_true (show (k : Int) ≤ 7 by omega), cond_true]
  simp only [bindO_pure, cond_true]
  by_cases h0 : n ≥ 0
  · rw [dec_true h0, cond_true, w, dec_false (by omega), cond_false]
    simp only [bindO_pure]
    obtain ⟨m, rfl⟩ := Int.eq_ofNat_of_zero_le h0
    have : min (Int.toNat ((8 * k : Nat) : Int)) 64 = 8 * k := by simp only [Int.toNat_natCast]; omega
    rw [this]
    have : (2 : Int) ^ (8 * k) = ((2 ^ (8 * k) : Nat) : Int) := by simp
    rw [this, fdiv_nat, pow256]
    have hp : 0 < 256 ^ k := Nat.pow_pos (by omega)
    congr 1
    rw [Bool.eq_iff_iff, beq_iff_eq, decide_eq_true_eq]
    have : m / 256 ^ k = 0 ↔ m < 256 ^ k := Nat.div_eq_zero_iff_lt hp
    omega
  · rw [dec_false h0, cond_false]
    simp only [bindO_pure]
    rw [dec_false (by omega)]
/-- A number's bytes behind others, if it has so many. -/
def putN (s : List UInt8) (n : Int) (k : Nat) : List UInt8 := if 0 ≤ n ∧ n < ((256 ^ k : Nat) : Int) then s ++ be k n.toNat else s
theorem putN_len (s : List UInt8) (n : Int) (k : Nat) : (putN s n k).length ≤ s.length + k := by
  unfold putN; split
  · rw [List.length_append, be_length]; omega
  · omega
theorem set_byte (k n j : Nat) (hj : j < k) : (bytesOf ((intsOf (be k n)).take j ++ List.replicate (k - j) 0)).length = k := by
  simp [bytesOf, intsOf, be_length]; omega
theorem bytes_ints (s : List UInt8) : bytesOf (intsOf s) = s := by
  unfold bytesOf intsOf
  rw [List.map_map]
  conv => rhs; rw [← List.map_id s]
  refine List.map_congr_left fun c _ => ?_
  simp
theorem field_Put_eq (s : List UInt8) (n : Int) (k : Nat) (hk : 1 ≤ k ∧ k ≤ 7) (hs : s.length ≤ 1000000000000) : fnDq16 (s, n, (k : Int)) = some (putN s n k) := by
  simp only [fnDq16, fnq16, field_Fits_eq n k hk, bindO_pure]
  unfold putN
  by_cases hf : 0 ≤ n ∧ n < ((256 ^ k : Nat) : Int)
  · rw [if_pos hf, dec_true hf]
    obtain ⟨m, rfl⟩ := Int.eq_ofNat_of_zero_le hf.1
    simp only [Bool.not_true, cond_false, Int.toNat_natCast]
    rw [dec_true (show (0 : Int) ≤ k by omega), dec_true (show (k : Int) ≤ k by omega), dec_true (show (1 : Int) * k ≤ 281474976710656 by omega), dec_true (show (k : Int) ≤ 9223372036854775807 by omega)]
    simp only [Bool.and_self, cond_true, List.length_replicate]
    have key : ∃ y, loopD (stepDq16_n0 (s, (m : Int), (k : Int), (k : Int))) FUEL (((0 : Nat) : Int), List.replicate k (0 : Int)) = some y ∧ y = intsOf (be k m) := by
      refine loopD_inv (fun j v => j ≤ k ∧ v = ((j : Int), (intsOf (be k m)).take j ++ List.replicate (k - j) 0)) k _ ?_ ⟨by omega, by simp⟩ (by omega)
      rintro j v ⟨hj, rfl⟩
      by_cases hlt : j < k
      · left
        refine ⟨_, ?_, hlt, by omega, rfl⟩
        have w1 : IntKind.wrap .i64 ((k : Int) - 1) = ((k - 1 : Nat) : Int) := by rw [wrap64 (by omega) (by omega)]; omega
        have w2 : IntKind.wrap .i64 (((k - 1 : Nat) : Int) - (j : Int)) = ((k - 1 - j : Nat) : Int) := by rw [wrap64 (by omega) (by omega)]; omega
        have w3 : IntKind.wrap .i64 ((8 : Int) * ((k - 1 - j : Nat) : Int)) = ((8 * (k - 1 - j) : Nat) : Int) := by rw [wrap64 (by omega) (by omega)]; omega
        have hlen : ((intsOf (be k m)).take j ++ List.replicate (k - j) (0 : Int)).length = k := by simp [intsOf, be_length]; omega
        have hget : ((intsOf (be k m)).take j ++ List.replicate (k - j) (0 : Int))[j]? = some 0 := by
          rw [List.getElem?_append_right (by simp [intsOf, be_length]; omega), List.getElem?_replicate, if_pos (by simp [intsOf, be_length]; omega)]
        simp only [stepDq16_n0, stepq16_n0, dec_true (show (j : Int) < (k : Int) by omega), cond_true, w1, w2, w3, dec_false (show ¬ ((8 * (k - 1 - j) : Nat) : Int) < 0 by omega), cond_false, hlen,
          inR_true (show (0 : Int) ≤ (j : Int) ∧ (j : Int) < (k : Int) by omega), Int.toNat_natCast, hget, bindO_pure, wrap64_nat (show j < 9223372036854775807 by omega)]
        have hm : min (8 * (k - 1 - j)) 64 = 8 * (k - 1 - j) := by omega
        have hp : (2 : Int) ^ (8 * (k - 1 - j)) = ((256 ^ (k - 1 - j) : Nat) : Int) := by rw [← pow256]; simp
        rw [hm, hp, fdiv_nat, wrapU8]
        have hb := be_get k m j hlt
        have hi : (intsOf (be k m))[j]? = some ((m / 256 ^ (k - 1 - j) % 256 : Nat) : Int) := by
          unfold intsOf
          rw [List.getElem?_map, hb]
          simp [ofNat_mod]
        congr 3
        apply List.ext_getElem?
        intro i
        have h1 : (intsOf (be k m)).length = k := by simp [intsOf, be_length]
        rw [List.getElem?_set]
        by_cases hij : j = i
        · subst hij
          rw [if_pos rfl, if_pos (by rw [hlen]; omega), List.getElem?_append_left (by rw [List.length_take]; omega), List.getElem?_take_of_lt (by omega), hi]
        · rw [if_neg hij]
          by_cases hij2 : i < j
          · rw [List.getElem?_append_left (by rw [List.length_take]; omega), List.getElem?_append_left (by rw [List.length_take]; omega), List.getElem?_take_of_lt hij2, List.getElem?_take_of_lt (by omega)]
          · rw [List.getElem?_append_right (by rw [List.length_take]; omega), List.getElem?_append_right (by rw [List.length_take]; omega), List.getElem?_replicate, List.getElem?_replicate, List.length_take, List.length_take]
            split <;> split <;> first | rfl | omega
      · right
        obtain rfl : j = k := by omega
        simp only [stepDq16_n0, stepq16_n0, dec_false (show ¬ (j : Int) < (j : Int) by omega), cond_false]
        refine ⟨_, rfl, ?_⟩
        rw [Nat.sub_self, List.replicate_zero, List.append_nil, List.take_of_length_le (by simp [intsOf, be_length])]
    obtain ⟨y, hy, rfl⟩ := key
    have hy' : loopD (stepDq16_n0 (s, (m : Int), (k : Int), (k : Int))) FUEL (0, List.replicate k (0 : Int)) = _ := hy
    rw [hy']
    simp only [bindO_pure, bytes_ints, be_length]
    rw [ble_true (by omega), cond_true]
  · rw [if_neg hf, dec_false hf]
    rfl
theorem ref02_Fits_eq (n : Int) (k : Nat) (hk : 1 ≤ k ∧ k ≤ 7) (hn : -9223372036854775808 ≤ n ∧ n ≤ 9223372036854775807) : fnDq41 (n, (k : Int)) = some (decide (0 ≤ n ∧ n < ((256 ^ k : Nat) : Int))) := by
  simp only [fnDq41, fnq41, nodeDq41_n0, nodeq41_n0, bindO_pure]
  rw [dec_false (show ¬ (k : Int) < 1 by omega), dec_false (show ¬ (k : Int) > 7 by omega), cond_false, cond_false]
  simp only [bindO_pure]
  by_cases h0 : n < 0
  · rw [dec_true h0, cond_true, dec_false (by omega)]
  · rw [dec_false h0, cond_false]
    obtain ⟨m, rfl⟩ := Int.eq_ofNat_of_zero_le (show 0 ≤ n by omega)
    have key : ∃ y, loopD (stepDq41_n1 (k : Int)) FUEL ((m : Int), ((0 : Nat) : Int)) = some y ∧ y = ((m / 256 ^ k : Nat) : Int) := by
      refine loopD_inv (fun j v => j ≤ k ∧ v = (((m / 256 ^ j : Nat) : Int), (j : Int))) k _ ?_ ⟨by omega, by simp⟩ (by omega)
      rintro j v ⟨hj, rfl⟩
      by_cases hlt : j < k
      · left
        refine ⟨_, ?_, hlt, by omega, rfl⟩
        have e : Int.tdiv ((m / 256 ^ j : Nat) : Int) 256 = ((m / 256 ^ (j + 1) : Nat) : Int) := by
          rw [Nat.pow_succ, ← Nat.div_div_eq_div_mul]; rfl
        have hle := Nat.div_le_self m (256 ^ (j + 1))
        simp only [stepDq41_n1, stepq41_n1, dec_true (show (j : Int) < (k : Int) by omega), cond_true, e, wrapN (show m / 256 ^ (j + 1) ≤ 9223372036854775807 by omega), wrap64_nat (show j < 9223372036854775807 by omega)]
      · right
        obtain rfl : j = k := by omega
        simp only [stepDq41_n1, stepq41_n1, dec_false (show ¬ (j : Int) < (j : Int) by omega), cond_false]
        exact ⟨_, rfl, rfl⟩
    obtain ⟨y, hy, rfl⟩ := key
    have hy' : loopD (stepDq41_n1 (k : Int)) FUEL ((m : Int), 0) = _ := hy
    rw [hy']
    simp only [bindO_pure]
    have hp : 0 < 256 ^ k := Nat.pow_pos (by omega)
    congr 1
    rw [Bool.eq_iff_iff, beq_iff_eq, decide_eq_true_eq, Int.natCast_eq_zero, Nat.div_eq_zero_iff_lt hp]
    omega
theorem ref02_Put_eq (s : List UInt8) (n : Int) (k : Nat) (hk : 1 ≤ k ∧ k ≤ 7) (hn : -9223372036854775808 ≤ n ∧ n ≤ 9223372036854775807) (hs : s.length ≤ 1000000000000) : fnDq42 (s, n, (k : Int)) = some (putN s n k) := by
  simp only [fnDq42, fnq42, ref02_Fits_eq n k hk hn, bindO_pure]
  unfold putN
  by_cases hf : 0 ≤ n ∧ n < ((256 ^ k : Nat) : Int)
  · rw [if_pos hf, dec_true hf]
    obtain ⟨m, rfl⟩ := Int.eq_ofNat_of_zero_le hf.1
    simp only [Bool.not_true, cond_false, Int.toNat_natCast]
    have key : ∃ y, loopD (stepDq42_n0 (s, (k : Int))) FUEL ((m : Int), ([] : List UInt8), ((0 : Nat) : Int)) = some y ∧ y = be k m := by
      refine loopD_inv (fun j v => j ≤ k ∧ v = (((m / 256 ^ j : Nat) : Int), be j m, (j : Int))) k _ ?_ ⟨by omega, by simp [be]⟩ (by omega)
      rintro j v ⟨hj, rfl⟩
      by_cases hlt : j < k
      · left
        refine ⟨_, ?_, hlt, by omega, rfl⟩
        have e : Int.tdiv ((m / 256 ^ j : Nat) : Int) 256 = ((m / 256 ^ (j + 1) : Nat) : Int) := by
          rw [Nat.pow_succ, ← Nat.div_div_eq_div_mul]; rfl
        have hle := Nat.div_le_self m (256 ^ (j + 1))
        have e2 : IntKind.wrap .u8 (Int.tmod ((m / 256 ^ j : Nat) : Int) 256) = ((m / 256 ^ j % 256 : Nat) : Int) := by
          rw [show Int.tmod ((m / 256 ^ j : Nat) : Int) 256 = ((m / 256 ^ j % 256 : Nat) : Int) from rfl, wrapU8, Nat.mod_mod]
        simp only [stepDq42_n0, stepq42_n0, dec_true (show (j : Int) < (k : Int) by omega), cond_true, e, e2, wrapN (show m / 256 ^ (j + 1) ≤ 9223372036854775807 by omega), wrap64_nat (show j < 9223372036854775807 by omega)]
        have e3 : bytesOf [((m / 256 ^ j % 256 : Nat) : Int)] = [UInt8.ofNat (m / 256 ^ j % 256)] := rfl
        rw [e3, List.length_singleton, be_length, ble_true (by omega), cond_true, be]
        rfl
      · right
        obtain rfl : j = k := by omega
        simp only [stepDq42_n0, stepq42_n0, dec_false (show ¬ (j : Int) < (j : Int) by omega), cond_false]
        exact ⟨_, rfl, rfl⟩
    obtain ⟨y, hy, rfl⟩ := key
    have hy' : loopD (stepDq42_n0 (s, (k : Int))) FUEL ((m : Int), [], 0) = _ := hy
    rw [hy']
    simp only [bindO_pure, be_length]
    rw [ble_true (by omega), cond_true]
  · rw [if_neg hf, dec_false hf]
    rfl
end Go.Proofs.R7
namespace Go.Proofs.R7
open Go Go.AE Go.Plain

theorem Reader_Bytes_eq (n : Nat) (r : List UInt8) (h : n ≤ r.length) (hl : r.length ≤ 1000000000000) : fnDq17 ((n : Int), r, 0) = some (r.take n, r.drop n, 0) := by
  simp only [fnDq17, fnq17, nodeDq17_n0, nodeq17_n0]
  rw [dec_false (show ¬ (n : Int) < 0 by omega), cond_false, dec_false (show ¬ (n : Int) > (r.length : Int) by omega), cond_false]
  simp only [bindO_pure]
  rw [inR_true (show (0 : Int) ≤ (n : Int) ∧ (n : Int) < ((r.length + 1 : Nat) : Int) by omega)]
  rfl
theorem or_byte (n c : Nat) (hc : c < 256) : (n * 256) ||| c = 256 * n + c := by
  have := Nat.shiftLeft_add_eq_or_of_lt (i := 8) (b := c) (by omega) n
  rw [Nat.shiftLeft_eq] at this
  simp only [show (2 : Nat) ^ 8 = 256 from rfl] at this
  omega
theorem Reader_Num_eq (k : Nat) (r : List UInt8) (hk : 1 ≤ k ∧ k ≤ 7) (h : k ≤ r.length) (hl : r.length ≤ 1000000000000) : fnDq18 ((k : Int), r, 0) = some (((num (r.take k) : Nat) : Int), r.drop k, 0) := by
  simp only [fnDq18, fnq18, fnDq20, fnq20, nodeDq20_n0, nodeq20_n0, bindO_pure]
  rw [dec_true (show (k : Int) ≥ 1 by omega), dec_true (show (k : Int) ≤ 7 by omega), cond_true]
  simp only [bindO_pure, Bool.not_true, cond_false, Reader_Bytes_eq k r h hl, unP]
  have hlen : (r.take k).length = k := by rw [List.length_take]; omega
  have hil : (intsOf (r.take k)).length = k := by rw [intsOf, List.length_map, hlen]
  rw [ble_true (by omega), cond_true, hil]
  have key : ∃ y, loopD (stepDq18_n0 ((k : Int), r.drop k, 0, intsOf (r.take k))) FUEL ((0 : Int), ((0 : Nat) : Int)) = some y ∧ y = ((num (r.take k) : Nat) : Int) := by
    refine loopD_inv (fun j v => j ≤ k ∧ v = (((num (r.take j) : Nat) : Int), (j : Int))) k _ ?_ ⟨by omega, by simp [num]⟩ (by omega)
    rintro j v ⟨hj, rfl⟩
    by_cases hlt : j < k
    · left
      refine ⟨_, ?_, hlt, by omega, rfl⟩
      have hget : r[j]? = some r[j] := List.getElem?_eq_getElem (by omega)
      generalize r[j] = c at hget
      have hi : (intsOf (r.take k))[j]? = some ((c.toNat : Nat) : Int) := by
        rw [intsOf, List.getElem?_map, List.getElem?_take_of_lt hlt, hget]; rfl
      have hn := num_lt (r.take j)
      have hp : 256 ^ (r.take j).length ≤ 256 ^ 6 := Nat.pow_le_pow_right (by omega) (by rw [List.length_take]; omega)
      have hc : c.toNat < 256 := c.toNat_lt
      have e1 : IntKind.wrap .i64 (((num (r.take j) : Nat) : Int) * 256) = ((num (r.take j) * 256 : Nat) : Int) := by rw [wrap64 (by omega) (by omega)]; omega
      have e2 : num (r.take (j + 1)) = 256 * num (r.take j) + c.toNat := by rw [List.take_add_one, hget]; exact num_snoc _ _
      simp only [stepDq18_n0, stepq18_n0, dec_true (show (j : Int) < (k : Int) by omega), cond_true, hil, inR_true (show (0 : Int) ≤ (j : Int) ∧ (j : Int) < (k : Int) by omega), Int.toNat_natCast, hi, bindO_pure, e1,
        wrapN (m := c.toNat) (show c.toNat ≤ 9223372036854775807 by omega), nat64 (m := num (r.take j) * 256) (show num (r.take j) * 256 < 9223372036854775808 by omega), nat64 (m := c.toNat) (show c.toNat < 9223372036854775808 by omega), or_byte _ _ hc,
        wrapN (m := 256 * num (r.take j) + c.toNat) (show 256 * num (r.take j) + c.toNat ≤ 9223372036854775807 by omega), wrap64_nat (show j < 9223372036854775807 by omega), e2]
    · right
      obtain rfl : j = k := by omega
      simp only [stepDq18_n0, stepq18_n0, dec_false (show ¬ (j : Int) < (j : Int) by omega), cond_false]
      exact ⟨_, rfl, rfl⟩
  obtain ⟨y, hy, rfl⟩ := key
  have hy' : loopD (stepDq18_n0 ((k : Int), r.drop k, 0, intsOf (r.take k))) FUEL (0, 0) = _ := hy
  rw [hy']
  rfl
/-- A reference's own 'number': a loop that is alike in all of them. -/
theorem number_loop (f : List UInt8 → Int × Int → Option ((Int × Int) ⊕ Int)) (s : List UInt8) (hs : s.length ≤ 7)
    (h1 : ∀ (n j : Int), decide (j < (s.length : Int)) = true → f s (n, j) = bindO (nth s j) fun x => some (.inl (IntKind.wrap .i64 (IntKind.wrap .i64 (256 * n) + IntKind.wrap .i64 (x.toNat : Int)), IntKind.wrap .i64 (j + 1))))
    (h2 : ∀ (n j : Int), decide (j < (s.length : Int)) = false → f s (n, j) = some (.inr n)) : loopD (f s) FUEL (0, 0) = some ((num s : Nat) : Int) := by
  have key : ∃ y, loopD (f s) FUEL ((0 : Int), ((0 : Nat) : Int)) = some y ∧ y = ((num s : Nat) : Int) := by
    refine loopD_each s (fun j (_ : Unit) => (((num (s.take j) : Nat) : Int), (j : Int))) (fun _ _ => True) _ ?_ ?_ (s0 := ()) trivial (by omega)
    · intro j c _ hj hlt _
      left
      refine ⟨(), ?_, trivial⟩
      have hn := num_lt (s.take j)
      have hp : 256 ^ (s.take j).length ≤ 256 ^ 6 := Nat.pow_le_pow_right (by omega) (by rw [List.length_take]; omega)
      have hc : c.toNat < 256 := c.toNat_lt
      have e2 : num (s.take (j + 1)) = 256 * num (s.take j) + c.toNat := by rw [List.take_add_one, hj]; exact num_snoc _ _
      rw [h1 _ _ (dec_true (by omega)), nth_of hj, bindO_pure, wrap64_nat (by omega), wrap64 (x := 256 * ((num (s.take j) : Nat) : Int)) (by omega) (by omega), wrapN (m := c.toNat) (by omega), wrap64 (by omega) (by omega), e2]
      congr 3
    · intro _ _
      rw [h2 _ _ (dec_false (by omega)), List.take_length]
      exact ⟨_, rfl, rfl⟩
  obtain ⟨y, hy, rfl⟩ := key
  exact hy
end Go.Proofs.R7
namespace Go.Proofs.R7
open Go Go.AE Go.Plain

abbrev MayC (x s l : Int) : Prop := (1 ≤ x ∧ x ≤ 24) ∧ (1 ≤ s ∧ s ≤ 8) ∧ 24 ≤ l ∧ l ≤ 200
abbrev MayS (n r b c x s l : Int) : Prop := MayC x s l ∧ (0 ≤ n ∧ n ≤ 1) ∧ (0 ≤ r ∧ r ≤ 1) ∧ (0 ≤ b ∧ b ≤ 16777216) ∧ 0 ≤ c ∧ c < x
theorem lwithin_eq (n a b : Int) : fnDq27 (n, a, b) = some (decide (a ≤ n ∧ n ≤ b)) := by
  simp only [fnDq27, fnq27, nodeDq27_n0, nodeq27_n0]
  by_cases h : n ≥ a <;> simp [h, bindO_pure, show a ≤ n ↔ n ≥ a from Iff.rfl]
theorem lcheck_eq (x s l : Int) : fnDq23 (x, s, l) = some (if MayC x s l then 0 else 3) := by
  simp only [fnDq23, fnq23, nodeDq23_n0, nodeq23_n0, lwithin_eq, bindO_pure]
  unfold MayC
  by_cases h1 : 1 ≤ x ∧ x ≤ 24
  · by_cases h2 : 1 ≤ s ∧ s ≤ 8
    · by_cases h3 : 24 ≤ l ∧ l ≤ 200
      · rw [dec_true h1, dec_true h2, dec_true h3, if_pos ⟨h1, h2, h3⟩]; rfl
      · rw [dec_true h1, dec_true h2, dec_false h3, if_neg (fun h => h3 h.2.2)]; rfl
    · rw [dec_true h1, dec_false h2, if_neg (fun h => h2 h.2.1)]; rfl
  · rw [dec_false h1, if_neg (fun h => h1 h.1)]; rfl
theorem swithin_eq (n b : Int) : fnDq78 (n, b) = some (decide (0 ≤ n ∧ n ≤ b)) := by
  simp only [fnDq78, fnq78, nodeDq78_n0, nodeq78_n0]
  by_cases h : n ≥ 0 <;> simp [h, bindO_pure, show 0 ≤ n ↔ n ≥ 0 from Iff.rfl]
def chkS (n r b c x s l : Int) : Int := if MayS n r b c x s l then 0 else 3
theorem scheck_eq (n r b c x s l : Int) : fnDq75 (n, r, b, c, x, s, l) = some (chkS n r b c x s l) := by
  simp only [fnDq75, fnq75, nodeDq75_n0, nodeq75_n0, swithin_eq, lcheck_eq, bindO_pure]
  unfold chkS
  by_cases h0 : MayC x s l
  · rw [if_pos h0, wrap64 (show -9223372036854775808 ≤ x - 1 by omega) (by omega)]
    by_cases h1 : 0 ≤ n ∧ n ≤ 1
    · by_cases h2 : 0 ≤ r ∧ r ≤ 1
      · by_cases h3 : 0 ≤ b ∧ b ≤ 16777216
        · by_cases h4 : 0 ≤ c ∧ c ≤ x - 1
          · rw [dec_true h1, dec_true h2, dec_true h3, dec_true h4, if_pos ⟨h0, h1, h2, h3, by omega⟩]; rfl
          · rw [dec_true h1, dec_true h2, dec_true h3, dec_false h4, if_neg (fun h => h4 (by have := h.2.2.2.2; omega))]; rfl
        · rw [dec_true h1, dec_true h2, dec_false h3, if_neg (fun h => h3 h.2.2.2.1)]; rfl
      · rw [dec_true h1, dec_false h2, if_neg (fun h => h2 h.2.2.1)]; rfl
    · rw [dec_false h1, if_neg (fun h => h1 h.2.1)]; rfl
  · rw [if_neg h0, if_neg (fun h => h0 h.1)]; rfl
def headS (n r b : Int) : List UInt8 := putN (putN (putN [83] n 1) r 1) b 4
def midS (n r b c x s : Int) : List UInt8 := putN (putN (putN (headS n r b) c 1) x 1) s 1
def bodyS (n r b c x s l : Int) : List UInt8 := putN (midS n r b c x s) l 2
def sectS (n r b c x s l : Int) : List UInt8 := padTo (bodyS n r b c x s l ++ tail (bodyS n r b c x s l))
def putS (n r b c x s l : Int) : List UInt8 × Int := if MayS n r b c x s l then (sectS n r b c x s l, 0) else ([], 3)
theorem headS_le (n r b : Int) : (headS n r b).length ≤ 7 := by
  unfold headS
  have h1 := putN_len [83] n 1
  have h2 := putN_len (putN [83] n 1) r 1
  have h3 := putN_len (putN (putN [83] n 1) r 1) b 4
  simp only [List.length_cons, List.length_nil] at h1
  omega
theorem midS_le (n r b c x s : Int) : (midS n r b c x s).length ≤ 10 := by
  unfold midS
  have h0 := headS_le n r b
  have h1 := putN_len (headS n r b) c 1
  have h2 := putN_len (putN (headS n r b) c 1) x 1
  have h3 := putN_len (putN (putN (headS n r b) c 1) x 1) s 1
  omega
theorem bodyS_le (n r b c x s l : Int) : (bodyS n r b c x s l).length ≤ 12 := by
  unfold bodyS
  have h0 := midS_le n r b c x s
  have h1 := putN_len (midS n r b c x s) l 2
  omega
theorem fput (t : List UInt8) (n : Int) (k : Nat) (hk : 1 ≤ k ∧ k ≤ 7) (ht : t.length ≤ 100) {m : Int} (hm : m = (k : Int)) : fnDq16 (t, n, m) = some (putN t n k) := by
  subst hm; exact field_Put_eq t n k hk (by omega)
theorem f1 (t : List UInt8) (n : Int) (ht : t.length ≤ 100) : fnDq16 (t, n, 1) = some (putN t n 1) := fput t n 1 (by omega) ht rfl
theorem f2 (t : List UInt8) (n : Int) (ht : t.length ≤ 100) : fnDq16 (t, n, 2) = some (putN t n 2) := fput t n 2 (by omega) ht rfl
theorem f4 (t : List UInt8) (n : Int) (ht : t.length ≤ 100) : fnDq16 (t, n, 4) = some (putN t n 4) := fput t n 4 (by omega) ht rfl
theorem super_loop (n r b c x s l : Int) (h : List UInt8) (hh : h.length ≤ 10) : loopD (stepDq77_n0 (3, n, r, b, c, x, s, l, [c, x, s])) FUEL (h, 0) = some (putN (putN (putN h c 1) x 1) s 1) := by
  have h1 := putN_len h c 1
  have h2 := putN_len (putN h c 1) x 1
  refine loopD_more 4 FUEL _ _ (by unfold FUEL; omega) ?_
  have st : ∀ (j : Nat) (p : List UInt8) (v : Int), p.length ≤ 100 → j < 3 → [c, x, s][j]? = some v → stepDq77_n0 (3, n, r, b, c, x, s, l, [c, x, s]) (p, (j : Int)) = some (.inl (putN p v 1, ((j + 1 : Nat) : Int))) := by
    intro j p v hp hj hv
    simp only [stepDq77_n0, stepq77_n0, dec_true (show (j : Int) < 3 by omega), cond_true, inR_true (show (0 : Int) ≤ (j : Int) ∧ (j : Int) < (([c, x, s].length : Nat) : Int) by simp only [List.length_cons, List.length_nil]; omega), Int.toNat_natCast, hv, bindO_pure, f1 p v hp]
    rw [wrap64_nat (by omega)]
  have s0 : stepDq77_n0 (3, n, r, b, c, x, s, l, [c, x, s]) (h, 0) = some (.inl (putN h c 1, 1)) := st 0 h c (by omega) (by omega) rfl
  have s1 : stepDq77_n0 (3, n, r, b, c, x, s, l, [c, x, s]) (putN h c 1, 1) = some (.inl (putN (putN h c 1) x 1, 2)) := st 1 _ x (by omega) (by omega) rfl
  have s2 : stepDq77_n0 (3, n, r, b, c, x, s, l, [c, x, s]) (putN (putN h c 1) x 1, 2) = some (.inl (putN (putN (putN h c 1) x 1) s 1, 3)) := st 2 _ s (by omega) (by omega) rfl
  have s3 : ∀ t, stepDq77_n0 (3, n, r, b, c, x, s, l, [c, x, s]) (t, 3) = some (.inr t) := fun t => rfl
  rw [loopD, s0, bindO_pure, Sum.elim_inl, loopD, s1, bindO_pure, Sum.elim_inl, loopD, s2, bindO_pure, Sum.elim_inl, loopD, s3, bindO_pure, Sum.elim_inr]
theorem sput_eq (n r b c x s l : Int) : fnDq77 (n, r, b, c, x, s, l) = some (putS n r b c x s l) := by
  simp only [fnDq77, fnq77, scheck_eq, bindO_pure]
  unfold putS chkS
  by_cases h : MayS n r b c x s l
  · rw [if_pos h, if_pos h]
    have l1 := putN_len [83] n 1
    have l2 := putN_len (putN [83] n 1) r 1
    simp only [List.length_cons, List.length_nil] at l1
    have l3 := headS_le n r b
    have l4 := midS_le n r b c x s
    have hb := bodyS_le n r b c x s l
    have e3 : fnDq16 (putN (putN [83] n 1) r 1, b, 4) = some (headS n r b) := f4 _ b (by omega)
    have e5 : fnDq16 (midS n r b c x s, l, 2) = some (bodyS n r b c x s l) := f2 _ l (by omega)
    have lp : loopD (stepDq77_n0 (((([c, x, s] : List Int).length : Nat) : Int), n, r, b, c, x, s, l, [c, x, s])) FUEL (headS n r b, 0) = some (midS n r b c x s) := super_loop n r b c x s l _ (by omega)
    simp only [bne_self_eq_false, cond_false, f1 [83] n (by simp), f1 (putN [83] n 1) r (by omega), e3, bindO_pure, lp, e5,
      cyclic_Tail_eq _ (show (bodyS n r b c x s l).length ≤ 1000000000000 by omega), tail_length, ble_true (show (bodyS n r b c x s l).length + 4 ≤ 9223372036854775807 by omega), cond_true,
      region_Pad_eq _ (show (bodyS n r b c x s l ++ tail (bodyS n r b c x s l)).length ≤ 1000000000000 by rw [List.length_append, tail_length]; omega)]
    rfl
  · rw [if_neg h, if_neg h]; rfl
end Go.Proofs.R7
namespace Go.Proofs.R7
open Go Go.AE Go.Plain

abbrev S8 := Int × Int × Int × Int × Int × Int × Int × Int
abbrev nS (t : List UInt8) (i k : Nat) : Int := ((num ((t.drop i).take k) : Nat) : Int)
def finS (p : List UInt8 × Int) (t : List UInt8) (n r b c x s l : Int) : S8 := if p = (t, 0) then (n, r, b, c, x, s, l, 0) else (0, 0, 0, 0, 0, 0, 0, 4)
def getS (t : List UInt8) : S8 :=
  if t.length ≠ 64 then (0, 0, 0, 0, 0, 0, 0, 12) else if t.take 1 ≠ [83] then (0, 0, 0, 0, 0, 0, 0, 4) else if (t.drop 12).take 4 ≠ tail (t.take 12) then (0, 0, 0, 0, 0, 0, 0, 5) else
    finS (putS (nS t 1 1) (nS t 2 1) (nS t 3 4) (nS t 7 1) (nS t 8 1) (nS t 9 1) (nS t 10 2)) t (nS t 1 1) (nS t 2 1) (nS t 3 4) (nS t 7 1) (nS t 8 1) (nS t 9 1) (nS t 10 2)
theorem sfin_eq (p : List UInt8 × Int) (t : List UInt8) (n r b c x s l : Int) :
    (bindO (bif p.2 != 0 then some true else some (!p.1 == t) : Option Bool) fun w => bif w then some ((0, 0, 0, 0, 0, 0, 0, 4) : S8) else some (n, r, b, c, x, s, l, 0)) = some (finS p t n r b c x s l) := by
  obtain ⟨u, e⟩ := p
  unfold finS
  by_cases he : e = 0
  · subst he
    by_cases hs : u = t
    · subst hs; simp [bindO_pure]
    · have : (u == t) = false := by simpa using hs
      simp [hs, this, bindO_pure]
  · have : (e != 0) = true := by simpa using he
    simp [this, he, bindO_pure]
theorem sget_tail (t : List UInt8) (pp : List UInt8 × Int) (n r b c x s l : Int) :
    (unP (fun r_0 r_1 => bindO (nodeDq76_n0 (t, r_0, r_1, n, r, b, c, x, s, l)) fun w => bif w then some ((0, 0, 0, 0, 0, 0, 0, 4) : S8) else some (n, r, b, c, x, s, l, 0)) pp : Option S8) = some (finS pp t n r b c x s l) := by
  obtain ⟨u, e⟩ := pp
  simp only [unP, nodeDq76_n0, nodeq76_n0]
  exact sfin_eq (u, e) t n r b c x s l
theorem sget_eq (t : List UInt8) (hl : t.length ≤ 1000000000000) : fnDq76 t = some (getS t) := by
  unfold getS
  simp only [fnDq76, fnq76]
  by_cases h64 : t.length = 64
  · have e1 : ((t.length : Int) != 64) = false := by rw [h64]; rfl
    rw [if_neg (by simpa using h64), e1, cond_false]
    simp only [fnDq15, fnq15, bindO_pure]
    have b1 := Reader_Bytes_eq 1 t (by omega) hl
    simp only [Int.cast_ofNat_Int] at b1
    rw [b1]
    simp only [bindO_pure, unP]
    by_cases hm : t.take 1 = [83]
    · rw [if_neg (by simpa using hm), hm]
      have n1 := Reader_Num_eq 1 (t.drop 1) (by omega) (by rw [List.length_drop]; omega) (by rw [List.length_drop]; omega)
      have n2 := Reader_Num_eq 1 (t.drop 2) (by omega) (by rw [List.length_drop]; omega) (by rw [List.length_drop]; omega)
      have n3 := Reader_Num_eq 4 (t.drop 3) (by omega) (by rw [List.length_drop]; omega) (by rw [List.length_drop]; omega)
      have n4 := Reader_Num_eq 1 (t.drop 7) (by omega) (by rw [List.length_drop]; omega) (by rw [List.length_drop]; omega)
      have n5 := Reader_Num_eq 1 (t.drop 8) (by omega) (by rw [List.length_drop]; omega) (by rw [List.length_drop]; omega)
      have n6 := Reader_Num_eq 1 (t.drop 9) (by omega) (by rw [List.length_drop]; omega) (by rw [List.length_drop]; omega)
      have n7 := Reader_Num_eq 2 (t.drop 10) (by omega) (by rw [List.length_drop]; omega) (by rw [List.length_drop]; omega)
      have b4 := Reader_Bytes_eq 4 (t.drop 12) (by rw [List.length_drop]; omega) (by rw [List.length_drop]; omega)
      simp only [Int.cast_ofNat_Int, List.drop_drop, Nat.reduceAdd] at n1 n2 n3 n4 n5 n6 n7 b4
      simp only [beq_self_eq_true, Bool.not_true, cond_false, n1, n2, n3, n4, n5, n6, n7, bindO_pure, unP]
      rw [inR_true (show (0 : Int) ≤ 12 ∧ (12 : Int) < ((t.length + 1 : Nat) : Int) by omega), cond_true]
      simp only [cyclic_Tail_eq _ (show (t.take 12).length ≤ 1000000000000 by rw [List.length_take]; omega), bindO_pure, tail_length, Int.cast_ofNat_Int]
      rw [b4]
      simp only [bindO_pure, unP]
      generalize tail (t.take 12) = tl
      by_cases ht : (t.drop 12).take 4 = tl
      · rw [if_neg (fun h => h ht), ht, beq_self_eq_true, Bool.not_true, cond_false]
        rw [sput_eq (nS t 1 1) (nS t 2 1) (nS t 3 4) (nS t 7 1) (nS t 8 1) (nS t 9 1) (nS t 10 2), bindO_pure]
        exact sget_tail t _ _ _ _ _ _ _ _
      · have : ((t.drop 12).take 4 == tl) = false := beq_eq_false_iff_ne.2 ht
        rw [if_pos ht, this]
        rfl
    · have : (t.take 1 == [83]) = false := by simpa using hm
      rw [if_pos (by simpa using hm), this]
      rfl
  · have e1 : ((t.length : Int) != 64) = true := by rw [bne_iff_ne]; omega
    rw [if_pos (by simpa using h64), e1]
    rfl
end Go.Proofs.R7
namespace Go.Proofs.R7
open Go Go.AE Go.Plain

abbrev In64 (n : Int) : Prop := -9223372036854775808 ≤ n ∧ n ≤ 9223372036854775807
theorem rcheck_eq (x s l : Int) : fnDq46 (x, s, l) = some (if MayC x s l then 0 else 3) := by
  simp only [fnDq46, fnq46, nodeDq46_n0, nodeq46_n0]
  unfold MayC
  by_cases h1 : x < 1
  · rw [dec_true h1, if_neg (fun h => by omega)]; rfl
  rw [dec_false h1]
  by_cases h2 : x > 24
  · rw [dec_true h2, if_neg (fun h => by omega)]; rfl
  rw [dec_false h2]
  by_cases h3 : s < 1
  · rw [dec_true h3, if_neg (fun h => by omega)]; rfl
  rw [dec_false h3]
  by_cases h4 : s > 8
  · rw [dec_true h4, if_neg (fun h => by omega)]; rfl
  rw [dec_false h4]
  by_cases h5 : l < 24
  · rw [dec_true h5, if_neg (fun h => by omega)]; rfl
  rw [dec_false h5]
  by_cases h6 : l > 200
  · rw [dec_true h6, if_neg (fun h => by omega)]; rfl
  rw [dec_false h6, if_pos (by omega)]; rfl
theorem rscheck_eq (n r b c x s l : Int) : fnDq47 (n, r, b, c, x, s, l) = some (chkS n r b c x s l) := by
  simp only [fnDq47, fnq47, nodeDq47_n0, nodeq47_n0, rcheck_eq, bindO_pure]
  unfold chkS
  by_cases h0 : MayC x s l
  · rw [if_pos h0]
    by_cases h1 : n < 0
    · rw [dec_true h1, if_neg (fun h => by have := h.2.1; omega)]; rfl
    rw [dec_false h1]
    by_cases h2 : n > 1
    · rw [dec_true h2, if_neg (fun h => by have := h.2.1; omega)]; rfl
    rw [dec_false h2]
    by_cases h3 : r < 0
    · rw [dec_true h3, if_neg (fun h => by have := h.2.2.1; omega)]; rfl
    rw [dec_false h3]
    by_cases h4 : r > 1
    · rw [dec_true h4, if_neg (fun h => by have := h.2.2.1; omega)]; rfl
    rw [dec_false h4]
    by_cases h5 : b < 0
    · rw [dec_true h5, if_neg (fun h => by have := h.2.2.2.1; omega)]; rfl
    rw [dec_false h5]
    by_cases h6 : b > 16777216
    · rw [dec_true h6, if_neg (fun h => by have := h.2.2.2.1; omega)]; rfl
    rw [dec_false h6]
    by_cases h7 : c < 0
    · rw [dec_true h7, if_neg (fun h => by have := h.2.2.2.2; omega)]; rfl
    rw [dec_false h7]
    by_cases h8 : c ≥ x
    · rw [dec_true h8, if_neg (fun h => by have := h.2.2.2.2; omega)]; rfl
    rw [dec_false h8, if_pos ⟨h0, by omega, by omega, by omega, by omega⟩]; rfl
  · rw [if_neg h0, if_neg (fun h => h0 h.1)]; rfl
theorem rput (t : List UInt8) (n : Int) (k : Nat) (hk : 1 ≤ k ∧ k ≤ 7) (hn : In64 n) (ht : t.length ≤ 100) {m : Int} (hm : m = (k : Int)) : fnDq42 (t, n, m) = some (putN t n k) := by
  subst hm; exact ref02_Put_eq t n k hk hn (by omega)
theorem r1 (t : List UInt8) (n : Int) (hn : In64 n) (ht : t.length ≤ 100) : fnDq42 (t, n, 1) = some (putN t n 1) := rput t n 1 (by omega) hn ht rfl
theorem r2 (t : List UInt8) (n : Int) (hn : In64 n) (ht : t.length ≤ 100) : fnDq42 (t, n, 2) = some (putN t n 2) := rput t n 2 (by omega) hn ht rfl
theorem r4 (t : List UInt8) (n : Int) (hn : In64 n) (ht : t.length ≤ 100) : fnDq42 (t, n, 4) = some (putN t n 4) := rput t n 4 (by omega) hn ht rfl
theorem rsput_eq (n r b c x s l : Int) : fnDq49 (n, r, b, c, x, s, l) = some (putS n r b c x s l) := by
  simp only [fnDq49, fnq49, rscheck_eq, bindO_pure]
  unfold putS chkS
  by_cases h : MayS n r b c x s l
  · rw [if_pos h, if_pos h]
    obtain ⟨hc, hn, hr, hb', hc'⟩ := h
    have l1 := putN_len [83] n 1
    have l2 := putN_len (putN [83] n 1) r 1
    simp only [List.length_cons, List.length_nil] at l1
    have l3 := headS_le n r b
    have l4 := putN_len (headS n r b) c 1
    have l5 := putN_len (putN (headS n r b) c 1) x 1
    have l6 := midS_le n r b c x s
    have hb := bodyS_le n r b c x s l
    have e3 : fnDq42 (putN (putN [83] n 1) r 1, b, 4) = some (headS n r b) := r4 _ b (by omega) (by omega)
    have e4 : fnDq42 (putN (putN (headS n r b) c 1) x 1, s, 1) = some (midS n r b c x s) := r1 _ s (by omega) (by omega)
    have e5 : fnDq42 (midS n r b c x s, l, 2) = some (bodyS n r b c x s l) := r2 _ l (by omega) (by omega)
    simp only [bne_self_eq_false, cond_false, r1 [83] n (by omega) (by simp), r1 (putN [83] n 1) r (by omega) (by omega), e3, bindO_pure, r1 (headS n r b) c (by omega) (by omega), r1 (putN (headS n r b) c 1) x (by omega) (by omega), e4, e5,
      ref03_Tail_eq _ (show (bodyS n r b c x s l).length ≤ 1000000000000 by omega), tail_length, ble_true (show (bodyS n r b c x s l).length + 4 ≤ 9223372036854775807 by omega), cond_true,
      ref09_Pad_eq _ (show (bodyS n r b c x s l ++ tail (bodyS n r b c x s l)).length ≤ 1000000000000 by rw [List.length_append, tail_length]; omega)]
    rfl
  · rw [if_neg h, if_neg h]; rfl
theorem SuperPuts_true (n r b c x s l : Int) : fnDq22 (n, r, b, c, x, s, l) = some true := by
  have hw : fnDlaw16_works () = some true := by kernel_rfl
  simp only [fnDq22, fnq22, hw, bindO_pure, Bool.not_true, cond_false, sput_eq, rsput_eq, unP, nodeDq22_n0, nodeq22_n0, scheck_eq, rscheck_eq, beq_self_eq_true, cond_true]
theorem one_num (c : UInt8) : ((num [c] : Nat) : Int) = (c.toNat : Int) := by simp [num]
theorem two_num (c d : UInt8) : ((num [c, d] : Nat) : Int) = 256 * (c.toNat : Int) + (d.toNat : Int) := by simp [num]
theorem four_num (c d e f : UInt8) : ((num [c, d, e, f] : Nat) : Int) = 16777216 * (c.toNat : Int) + 65536 * (d.toNat : Int) + 256 * (e.toNat : Int) + (f.toNat : Int) := by simp [num]; omega
theorem byte_lt (c : UInt8) : c.toNat < 256 := c.toNat_lt
theorem w_one (c : UInt8) : IntKind.wrap .i64 (c.toNat : Int) = (c.toNat : Int) := by have := byte_lt c; exact wrap64 (by omega) (by omega)
theorem w_two (c d : UInt8) : IntKind.wrap .i64 (IntKind.wrap .i64 (256 * (c.toNat : Int)) + (d.toNat : Int)) = 256 * (c.toNat : Int) + (d.toNat : Int) := by
  have := byte_lt c; have := byte_lt d
  rw [wrap64 (x := 256 * (c.toNat : Int)) (by omega) (by omega), wrap64 (by omega) (by omega)]
theorem w_four (c d e f : UInt8) : IntKind.wrap .i64 (IntKind.wrap .i64 (IntKind.wrap .i64 (IntKind.wrap .i64 (16777216 * (c.toNat : Int)) + IntKind.wrap .i64 (65536 * (d.toNat : Int))) + IntKind.wrap .i64 (256 * (e.toNat : Int))) + (f.toNat : Int)) = 16777216 * (c.toNat : Int) + 65536 * (d.toNat : Int) + 256 * (e.toNat : Int) + (f.toNat : Int) := by
  have := byte_lt c; have := byte_lt d; have := byte_lt e; have := byte_lt f
  rw [wrap64 (x := 16777216 * (c.toNat : Int)) (by omega) (by omega), wrap64 (x := 65536 * (d.toNat : Int)) (by omega) (by omega), wrap64 (x := 256 * (e.toNat : Int)) (by omega) (by omega), wrap64 (x := 16777216 * (c.toNat : Int) + 65536 * (d.toNat : Int)) (by omega) (by omega), wrap64 (x := 16777216 * (c.toNat : Int) + 65536 * (d.toNat : Int) + 256 * (e.toNat : Int)) (by omega) (by omega), wrap64 (by omega) (by omega)]
theorem rsget_tail (t : List UInt8) (pp : List UInt8 × Int) (n r b c x s l : Int) :
    (unP (fun r_0 r_1 => bindO (nodeDq48_n0 (t, r_0, r_1, n, r, b, c, x, s, l)) fun w => bif w then some ((0, 0, 0, 0, 0, 0, 0, 4) : S8) else some (n, r, b, c, x, s, l, 0)) pp : Option S8) = some (finS pp t n r b c x s l) := by
  obtain ⟨u, e⟩ := pp
  simp only [unP, nodeDq48_n0, nodeq48_n0]
  exact sfin_eq (u, e) t n r b c x s l
theorem rsget_eq (t : List UInt8) (hl : t.length ≤ 1000000000000) : fnDq48 t = some (getS t) := by
  unfold getS
  simp only [fnDq48, fnq48]
  by_cases h64 : t.length = 64
  · have e1 : ((t.length : Int) != 64) = false := by rw [h64]; rfl
    rw [if_neg (by simpa using h64), e1, cond_false]
    obtain ⟨c0, c1, c2, c3, c4, c5, c6, c7, c8, c9, ca, cb, r, rfl⟩ : ∃ c0 c1 c2 c3 c4 c5 c6 c7 c8 c9 ca cb r, t = c0 :: c1 :: c2 :: c3 :: c4 :: c5 :: c6 :: c7 :: c8 :: c9 :: ca :: cb :: r := by
      match t, h64 with
      | c0 :: c1 :: c2 :: c3 :: c4 :: c5 :: c6 :: c7 :: c8 :: c9 :: ca :: cb :: r, _ => exact ⟨c0, c1, c2, c3, c4, c5, c6, c7, c8, c9, ca, cb, r, rfl⟩
    have i0 : nth (c0 :: c1 :: c2 :: c3 :: c4 :: c5 :: c6 :: c7 :: c8 :: c9 :: ca :: cb :: r) 0 = some c0 := rfl
    have i1 : nth (c0 :: c1 :: c2 :: c3 :: c4 :: c5 :: c6 :: c7 :: c8 :: c9 :: ca :: cb :: r) 1 = some c1 := rfl
    have i2 : nth (c0 :: c1 :: c2 :: c3 :: c4 :: c5 :: c6 :: c7 :: c8 :: c9 :: ca :: cb :: r) 2 = some c2 := rfl
    have i3 : nth (c0 :: c1 :: c2 :: c3 :: c4 :: c5 :: c6 :: c7 :: c8 :: c9 :: ca :: cb :: r) 3 = some c3 := rfl
    have i4 : nth (c0 :: c1 :: c2 :: c3 :: c4 :: c5 :: c6 :: c7 :: c8 :: c9 :: ca :: cb :: r) 4 = some c4 := rfl
    have i5 : nth (c0 :: c1 :: c2 :: c3 :: c4 :: c5 :: c6 :: c7 :: c8 :: c9 :: ca :: cb :: r) 5 = some c5 := rfl
    have i6 : nth (c0 :: c1 :: c2 :: c3 :: c4 :: c5 :: c6 :: c7 :: c8 :: c9 :: ca :: cb :: r) 6 = some c6 := rfl
    have i7 : nth (c0 :: c1 :: c2 :: c3 :: c4 :: c5 :: c6 :: c7 :: c8 :: c9 :: ca :: cb :: r) 7 = some c7 := rfl
    have i8 : nth (c0 :: c1 :: c2 :: c3 :: c4 :: c5 :: c6 :: c7 :: c8 :: c9 :: ca :: cb :: r) 8 = some c8 := rfl
    have i9 : nth (c0 :: c1 :: c2 :: c3 :: c4 :: c5 :: c6 :: c7 :: c8 :: c9 :: ca :: cb :: r) 9 = some c9 := rfl
    have ia : nth (c0 :: c1 :: c2 :: c3 :: c4 :: c5 :: c6 :: c7 :: c8 :: c9 :: ca :: cb :: r) 10 = some ca := rfl
    have ib : nth (c0 :: c1 :: c2 :: c3 :: c4 :: c5 :: c6 :: c7 :: c8 :: c9 :: ca :: cb :: r) 11 = some cb := rfl
    have m1 : nS (c0 :: c1 :: c2 :: c3 :: c4 :: c5 :: c6 :: c7 :: c8 :: c9 :: ca :: cb :: r) 1 1 = (c1.toNat : Int) := one_num c1
    have m2 : nS (c0 :: c1 :: c2 :: c3 :: c4 :: c5 :: c6 :: c7 :: c8 :: c9 :: ca :: cb :: r) 2 1 = (c2.toNat : Int) := one_num c2
    have m3 : nS (c0 :: c1 :: c2 :: c3 :: c4 :: c5 :: c6 :: c7 :: c8 :: c9 :: ca :: cb :: r) 3 4 = 16777216 * (c3.toNat : Int) + 65536 * (c4.toNat : Int) + 256 * (c5.toNat : Int) + (c6.toNat : Int) := four_num c3 c4 c5 c6
    have m7 : nS (c0 :: c1 :: c2 :: c3 :: c4 :: c5 :: c6 :: c7 :: c8 :: c9 :: ca :: cb :: r) 7 1 = (c7.toNat : Int) := one_num c7
    have m8 : nS (c0 :: c1 :: c2 :: c3 :: c4 :: c5 :: c6 :: c7 :: c8 :: c9 :: ca :: cb :: r) 8 1 = (c8.toNat : Int) := one_num c8
    have m9 : nS (c0 :: c1 :: c2 :: c3 :: c4 :: c5 :: c6 :: c7 :: c8 :: c9 :: ca :: cb :: r) 9 1 = (c9.toNat : Int) := one_num c9
    have ma : nS (c0 :: c1 :: c2 :: c3 :: c4 :: c5 :: c6 :: c7 :: c8 :: c9 :: ca :: cb :: r) 10 2 = 256 * (ca.toNat : Int) + (cb.toNat : Int) := two_num ca cb
    have hd : (c0 :: c1 :: c2 :: c3 :: c4 :: c5 :: c6 :: c7 :: c8 :: c9 :: ca :: cb :: r).take 1 = [c0] := rfl
    rw [m1, m2, m3, m7, m8, m9, ma, hd]
    generalize c0 :: c1 :: c2 :: c3 :: c4 :: c5 :: c6 :: c7 :: c8 :: c9 :: ca :: cb :: r = t at *
    simp only [i0, i1, i2, i3, i4, i5, i6, i7, i8, i9, ia, ib, bindO_pure, w_one, w_two, w_four]
    by_cases hm : c0 = 83
    · subst hm
      have e2 : (((83 : UInt8).toNat : Int) != 83) = false := rfl
      rw [e2, cond_false, if_neg (by simp)]
      rw [inR_true (show (0 : Int) ≤ 16 ∧ (16 : Int) < ((t.length + 1 : Nat) : Int) by omega), inR_true (show (0 : Int) ≤ 12 ∧ (12 : Int) < ((t.length + 1 : Nat) : Int) by omega)]
      simp only [Bool.and_self, cond_true, ref03_Tail_eq _ (show (t.take 12).length ≤ 1000000000000 by rw [List.length_take]; omega), bindO_pure, Nat.reduceSub]
      generalize tail (t.take 12) = tl
      by_cases ht : (t.drop 12).take 4 = tl
      · rw [if_neg (fun h => h ht), ht, beq_self_eq_true, Bool.not_true, cond_false, rsput_eq, bindO_pure]
        exact rsget_tail t _ _ _ _ _ _ _ _
      · have : ((t.drop 12).take 4 == tl) = false := beq_eq_false_iff_ne.2 ht
        rw [if_pos ht, this]
        rfl
    · have e2 : ((c0.toNat : Int) != 83) = true := by
        rw [bne_iff_ne]
        intro h
        apply hm
        have : c0.toNat = (83 : UInt8).toNat := by
          have : c0.toNat = 83 := by omega
          rw [this]; rfl
        exact UInt8.toNat_inj.1 this
      rw [e2, if_pos (by simpa using hm)]
      rfl
  · have e1 : ((t.length : Int) != 64) = true := by rw [bne_iff_ne]; omega
    rw [if_pos (by simpa using h64), e1]
    rfl
theorem SuperGets_true (t : List UInt8) : fnDq21 t = some true := by
  have hw : fnDlaw16_works () = some true := by kernel_rfl
  simp only [fnDq21, fnq21, hw, bindO_pure, Bool.not_true, cond_false]
  by_cases h : (t.length : Int) > 3000
  · rw [dec_true h, cond_true]
  · rw [dec_false h, cond_false, sget_eq t (by omega), rsget_eq t (by omega), bindO_pure]
    generalize getS t = g
    obtain ⟨g1, g2, g3, g4, g5, g6, g7, g8⟩ := g
    simp only [unP, bindO_pure, nodeDq21_n0, nodeq21_n0, beq_self_eq_true, Bool.and_self, cond_true]
end Go.Proofs.R7

/- What the functions that ExtentNoneCardSaid reaches compute: part 3. -/
import Derived.Test.YtjgghofdajambaaGreatDoorOwnExtentNoneCardSaid2
set_option linter.unusedVariables false
set_option linter.unusedSimpArgs false
namespace Go.Proofs.R7
open Go Go.AE
set_option maxRecDepth 100000
--@ loghead_Newer
noncomputable def envq35 : Env := [(216,.pure Fq33)]
theorem envq35Ok : EnvOk Tryz.prog envq35 := EnvOk.cons Fq33_ok (EnvOk.nil)
noncomputable def bq35 : Code := Tryz.f178.body.getD .skip
noncomputable def Lq35_n2 : Code := codeAt [1,1,1,0,1,0,0,1,1,0,0,1,1,0] bq35
noncomputable def annLq35_n2 : Ann := .none
theorem annLq35_n2_ok : AnnOk Tryz.prog 49 Lq35_n2 annLq35_n2 := (annOk_none _ _ _)
abbrev Iq35_n2 := (Bool) × (Int) × (Int) × (Int) × (Int) × (Int) × (Int) × (Int) × (Int) × (Int) × (List (List UInt8))
abbrev Yq35_n2 := (Bool)
def Sq35_n2 : Iq35_n2 → St := fun (t7,t11,t15,t16,o1_0,o1_1,o1_2,o2_0,o2_1,o2_2,o3) => { env := [(4,.ptr 0 0),(6,.ptr 1 0),(7,.bool t7),(10,.ptr 2 0),(11,.int .i64 t11),(14,.own 3),(15,.int .i64 t15),(16,.int .i64 t16)],stk := [[]],H := [.cells [.int .i64 (0),.int .i64 (0),.int .i64 (0)],.cells [.int .i64 o1_0,.int .i64 o1_1,.int .i64 o1_2],.cells [.int .i64 o2_0,.int .i64 o2_1,.int .i64 o2_2],.arr .str o3],blk := 729089 }
def decPq35_n2 (s : St) : Option {x : Iq35_n2 // s = Sq35_n2 x} := match s with
  | { env := [(4,.ptr 0 0),(6,.ptr 1 0),(7,.bool t7),(10,.ptr 2 0),(11,.int .i64 t11),(14,.own 3),(15,.int .i64 t15),(16,.int .i64 t16)],stk := [[]],H := [.cells [.int .i64 r4,.int .i64 r5,.int .i64 r6],.cells [.int .i64 o1_0,.int .i64 o1_1,.int .i64 o1_2],.cells [.int .i64 o2_0,.int .i64 o2_1,.int .i64 o2_2],.arr .str o3],blk := 729089 } => if h4 : r4 = 0 then if h5 : r5 = 0 then if h6 : r6 = 0 then some ⟨(t7,t11,t15,t16,o1_0,o1_1,o1_2,o2_0,o2_1,o2_2,o3),by subst h4 h5 h6; rfl⟩ else none else none else none
  | _ => none
def decq35_n2 (s : St) : Option Iq35_n2 := pk (decPq35_n2 s)
theorem decq35_n2_ok (s : St) (x : Iq35_n2) (h : decq35_n2 s = some x) : s = Sq35_n2 x := pk_ok (o := decPq35_n2 s) h
def outq35_n2 : Iq35_n2 → (Ex → St → Ans) → Yq35_n2 → Ans := fun (t7,t11,t15,t16,o1_0,o1_1,o1_2,o2_0,o2_1,o2_2,o3) K => fun t42_y => K (Ex.norm) { env := [(4,.ptr 0 0),(6,.ptr 1 0),(7,.bool t7),(10,.ptr 2 0),(14,.own 3),(15,.int .i64 t15),(16,.int .i64 t16),(42,.bool t42_y)],stk := [[]],H := [.cells [.int .i64 (0),.int .i64 (0),.int .i64 (0)],.cells [.int .i64 o1_0,.int .i64 o1_1,.int .i64 o1_2],.cells [.int .i64 o2_0,.int .i64 o2_1,.int .i64 o2_2],.arr .str o3],blk := 729089 }
def nodeq35_n2 {β : Type} : Iq35_n2 → (Yq35_n2 → Option β) → Option β := fun (t7,t11,t15,t16,o1_0,o1_1,o1_2,o2_0,o2_1,o2_2,o3) exit => (bif t11 == (0 : Int) then (bif !t7 then (exit (true)) else (bif !(o2_0 == o1_0 && (o2_1 == o1_1 && (o2_2 == o1_2 && true))) then (exit (decide (o2_0 > o1_0))) else (exit (false)))) else (exit (false)))
def nodeDq35_n2 (i : Iq35_n2) : Option Yq35_n2 := nodeq35_n2 i some
theorem nodeq35_n2_nat (i : Iq35_n2) (k : Yq35_n2 → Ans) : nodeq35_n2 i k = bindO (nodeDq35_n2 i) k := by
  obtain ⟨t7,t11,t15,t16,o1_0,o1_1,o1_2,o2_0,o2_1,o2_2,o3⟩ := i
  simp only [nodeDq35_n2,nodeq35_n2,bindO_cond,bindO_assoc,bindO_none,bindO_pure,bindO_elim,bindO_unP,bindO_empty]
theorem nodeq35_n2_ok (i : Iq35_n2) (K : Ex → St → Ans) : codeI Tryz.tab envq35 noHint (codeD Tryz.tab envq35 noHint 0 64) 70 49 annLq35_n2 Lq35_n2 (weakP 0 (exk [4,6,7,10,14,15,16,42] [4,5] []) K) (Sq35_n2 i) = nodeq35_n2 i (outq35_n2 i K) := by kernel_rfl
theorem GNq35_n2_ok : CSum Tryz.prog 49 Lq35_n2 (sumN decq35_n2 nodeDq35_n2 outq35_n2) := csum_node mixed tabOk envq35Ok 0 (exk [4,6,7,10,14,15,16,42] [4,5] []) annLq35_n2_ok decq35_n2_ok nodeq35_n2_ok nodeq35_n2_nat
noncomputable def Gq35_n2 : (Ex → St → Ans) → St → Ans := (sumN decq35_n2 nodeDq35_n2 outq35_n2)
theorem Gq35_n2_ok : CSum Tryz.prog 49 Lq35_n2 Gq35_n2 := GNq35_n2_ok
noncomputable def Lq35_n1 : Code := codeAt [1,1,1,0,1,0,0,1,1,0] bq35
noncomputable def annLq35_n1 : Ann := (.block (.seq .none (.seq .none (.seq (.cut 0 [4,6,7,10,11,14,15,16] Gq35_n2) .none))))
theorem annLq35_n1_ok : AnnOk Tryz.prog 49 Lq35_n1 annLq35_n1 := ⟨(annOk_none _ _ _),⟨(annOk_none _ _ _),⟨Gq35_n2_ok,(annOk_none _ _ _)⟩⟩⟩
abbrev Iq35_n1 := (Bool) × (Int) × (Int) × (Int) × (Int) × (Int) × (List (List UInt8))
abbrev Yq35_n1 := (Bool) × (Int) × (Int) × (Int)
def Sq35_n1 : Iq35_n1 → St := fun (t7,t15,t16,o1_0,o1_1,o1_2,o2) => { env := [(4,.ptr 0 0),(6,.ptr 1 0),(7,.bool t7),(14,.own 2),(15,.int .i64 t15),(16,.int .i64 t16)],stk := [[]],H := [.cells [.int .i64 (0),.int .i64 (0),.int .i64 (0)],.cells [.int .i64 o1_0,.int .i64 o1_1,.int .i64 o1_2],.arr .str o2],blk := 729088 }
def decPq35_n1 (s : St) : Option {x : Iq35_n1 // s = Sq35_n1 x} := match s with
  | { env := [(4,.ptr 0 0),(6,.ptr 1 0),(7,.bool t7),(14,.own 2),(15,.int .i64 t15),(16,.int .i64 t16)],stk := [[]],H := [.cells [.int .i64 r3,.int .i64 r4,.int .i64 r5],.cells [.int .i64 o1_0,.int .i64 o1_1,.int .i64 o1_2],.arr .str o2],blk := 729088 } => if h3 : r3 = 0 then if h4 : r4 = 0 then if h5 : r5 = 0 then some ⟨(t7,t15,t16,o1_0,o1_1,o1_2,o2),by subst h3 h4 h5; rfl⟩ else none else none else none
  | _ => none
def decq35_n1 (s : St) : Option Iq35_n1 := pk (decPq35_n1 s)
theorem decq35_n1_ok (s : St) (x : Iq35_n1) (h : decq35_n1 s = some x) : s = Sq35_n1 x := pk_ok (o := decPq35_n1 s) h
def outq35_n1 : Iq35_n1 → (Ex → St → Ans) → Yq35_n1 → Ans := fun (t7,t15,t16,o1_0,o1_1,o1_2,o2) K => unP fun t7_y => unP fun o1_0_y => unP fun o1_1_y o1_2_y => K (Ex.norm) { env := [(4,.ptr 0 0),(6,.ptr 1 0),(7,.bool t7_y),(14,.own 2),(15,.int .i64 t15),(16,.int .i64 t16)],stk := [[]],H := [.cells [.int .i64 (0),.int .i64 (0),.int .i64 (0)],.cells [.int .i64 o1_0_y,.int .i64 o1_1_y,.int .i64 o1_2_y],.arr .str o2],blk := 729089 }
def nodeq35_n1 {β : Type} : Iq35_n1 → (Yq35_n1 → Option β) → Option β := fun (t7,t15,t16,o1_0,o1_1,o1_2,o2) exit => (bif inR t16 (List.length o2) then (bindO (o2[Int.toNat t16]?) fun x => (bindO (fnDq33 (x)) (unP fun r_0_0 => unP fun r_0_1 => unP fun r_0_2 r_1 => (bindO (nodeDq35_n2 (t7,r_1,t15,t16,o1_0,o1_1,o1_2,r_0_0,r_0_1,r_0_2,o2)) fun t42 => (bif t42 then (exit (true,r_0_0,r_0_1,r_0_2)) else (exit (t7,o1_0,o1_1,o1_2))))))) else none)
def nodeDq35_n1 (i : Iq35_n1) : Option Yq35_n1 := nodeq35_n1 i some
theorem nodeq35_n1_nat (i : Iq35_n1) (k : Yq35_n1 → Ans) : nodeq35_n1 i k = bindO (nodeDq35_n1 i) k := by
  obtain ⟨t7,t15,t16,o1_0,o1_1,o1_2,o2⟩ := i
  simp only [nodeDq35_n1,nodeq35_n1,bindO_cond,bindO_assoc,bindO_none,bindO_pure,bindO_elim,bindO_unP,bindO_empty]
theorem nodeq35_n1_ok (i : Iq35_n1) (K : Ex → St → Ans) : codeI Tryz.tab envq35 noHint (codeD Tryz.tab envq35 noHint 0 64) 70 49 annLq35_n1 Lq35_n1 (weakP 0 (exk [4,6,7,14,15,16] [4,5] []) K) (Sq35_n1 i) = nodeq35_n1 i (outq35_n1 i K) := by kernel_rfl
theorem GNq35_n1_ok : CSum Tryz.prog 49 Lq35_n1 (sumN decq35_n1 nodeDq35_n1 outq35_n1) := csum_node mixed tabOk envq35Ok 0 (exk [4,6,7,14,15,16] [4,5] []) annLq35_n1_ok decq35_n1_ok nodeq35_n1_ok nodeq35_n1_nat
noncomputable def Gq35_n1 : (Ex → St → Ans) → St → Ans := (sumN decq35_n1 nodeDq35_n1 outq35_n1)
theorem Gq35_n1_ok : CSum Tryz.prog 49 Lq35_n1 Gq35_n1 := GNq35_n1_ok
noncomputable def Lq35_n0 : Code := codeAt [1,1,1,0,1,0,0] bq35
noncomputable def annLq35_n0 : Ann := .at 0 [4,6,7,14,15,16] (.loop (.seq .none (.seq .none (.seq (.cut 0 [4,6,7,14,15,16] Gq35_n1) .none))))
theorem annLq35_n0_ok : AnnOk Tryz.prog 49 (.loop Lq35_n0) annLq35_n0 := annOk_at ⟨(annOk_none _ _ _),⟨(annOk_none _ _ _),⟨Gq35_n1_ok,(annOk_none _ _ _)⟩⟩⟩
abbrev Iq35_n0 := (Int) × (List (List UInt8))
abbrev Yq35_n0 := (Bool) × (Int) × (Int) × (Int)
abbrev Vq35_n0 := (Bool) × (Int) × (Int) × (Int) × (Int)
def Sq35_n0 : Iq35_n0 → Vq35_n0 → St := fun (t15,o2) (t7,t16,o1_0,o1_1,o1_2) => { env := [(4,.ptr 0 0),(6,.ptr 1 0),(7,.bool t7),(14,.own 2),(15,.int .i64 t15),(16,.int .i64 t16)],stk := [[]],H := [.cells [.int .i64 (0),.int .i64 (0),.int .i64 (0)],.cells [.int .i64 o1_0,.int .i64 o1_1,.int .i64 o1_2],.arr .str o2],blk := 729088 }
def decPq35_n0 (s : St) : Option {x : Iq35_n0 × Vq35_n0 // s = Sq35_n0 x.1 x.2} := match s with
  | { env := [(4,.ptr 0 0),(6,.ptr 1 0),(7,.bool t7),(14,.own 2),(15,.int .i64 t15),(16,.int .i64 t16)],stk := [[]],H := [.cells [.int .i64 r3,.int .i64 r4,.int .i64 r5],.cells [.int .i64 o1_0,.int .i64 o1_1,.int .i64 o1_2],.arr .str o2],blk := 729088 } => if h3 : r3 = 0 then if h4 : r4 = 0 then if h5 : r5 = 0 then some ⟨((t15,o2),(t7,t16,o1_0,o1_1,o1_2)),by subst h3 h4 h5; rfl⟩ else none else none else none
  | _ => none
def decq35_n0 (s : St) : Option (Iq35_n0 × Vq35_n0) := pk (decPq35_n0 s)
theorem decq35_n0_ok (s : St) (x : Iq35_n0 × Vq35_n0) (h : decq35_n0 s = some x) : s = Sq35_n0 x.1 x.2 := pk_ok (o := decPq35_n0 s) h
def outq35_n0 : Iq35_n0 → (Ex → St → Ans) → Yq35_n0 → Ans := fun (t15,o2) K => unP fun t7_y => unP fun o1_0_y => unP fun o1_1_y o1_2_y => K (Ex.exit 0) { env := [(4,.ptr 0 0),(6,.ptr 1 0),(7,.bool t7_y)],stk := [[]],H := [.cells [.int .i64 (0),.int .i64 (0),.int .i64 (0)],.cells [.int .i64 o1_0_y,.int .i64 o1_1_y,.int .i64 o1_2_y]],blk := 729088 }
def stepq35_n0 {β : Type} : Iq35_n0 → Vq35_n0 → (Vq35_n0 → Option β) → (Yq35_n0 → Option β) → Option β := fun (t15,o2) (t7,t16,o1_0,o1_1,o1_2) next exit => (bif decide (t16 < t15) then (bindO (nodeDq35_n1 (t7,t15,t16,o1_0,o1_1,o1_2,o2)) (unP fun t7_2 => unP fun o1_0_2 => unP fun o1_1_2 o1_2_2 => (next (t7_2,IntKind.wrap .i64 (t16 + (1 : Int)),o1_0_2,o1_1_2,o1_2_2)))) else (exit (t7,o1_0,o1_1,o1_2)))
def stepDq35_n0 (i : Iq35_n0) (v : Vq35_n0) : Option (Vq35_n0 ⊕ Yq35_n0) := stepq35_n0 i v (fun v => some (.inl v)) (fun y => some (.inr y))
theorem stepq35_n0_nat (i : Iq35_n0) (v : Vq35_n0) (next : Vq35_n0 → Ans) (exit : Yq35_n0 → Ans) : stepq35_n0 i v next exit = bindO (stepDq35_n0 i v) (Sum.elim next exit) := by
  obtain ⟨t15,o2⟩ := i
  obtain ⟨t7,t16,o1_0,o1_1,o1_2⟩ := v
  simp only [stepDq35_n0,stepq35_n0,bindO_cond,bindO_assoc,bindO_none,bindO_pure,bindO_elim,bindO_unP,bindO_empty,Sum.elim_inl,Sum.elim_inr]
theorem stepq35_n0_ok (n : Nat) (i : Iq35_n0) (v : Vq35_n0) (K : Ex → St → Ans) : codeI Tryz.tab envq35 noHint (codeD Tryz.tab envq35 noHint 0 64) (n+1) 49 annLq35_n0 (.loop Lq35_n0) (weakP 0 (exk [4,6,7] [4,5] [(0,[4,6,7])]) K) (Sq35_n0 i v) = stepq35_n0 i v (fun v' => codeI Tryz.tab envq35 noHint (codeD Tryz.tab envq35 noHint 0 64) n 49 annLq35_n0 (.loop Lq35_n0) (weakP 0 (exk [4,6,7] [4,5] [(0,[4,6,7])]) K) (Sq35_n0 i v')) (fun y => outq35_n0 i K y) := by kernel_rfl
theorem GNq35_n0_ok : CSum Tryz.prog 49 (.loop Lq35_n0) (sumL decq35_n0 stepDq35_n0 outq35_n0) := csum_loop mixed tabOk envq35Ok 0 (exk [4,6,7] [4,5] [(0,[4,6,7])]) annLq35_n0_ok decq35_n0_ok stepq35_n0_ok stepq35_n0_nat
noncomputable def Gq35_n0 : (Ex → St → Ans) → St → Ans := (sumL decq35_n0 stepDq35_n0 outq35_n0)
theorem Gq35_n0_ok : CSum Tryz.prog 49 (.loop Lq35_n0) Gq35_n0 := GNq35_n0_ok
noncomputable def annq35 : Ann := (.seq .none (.seq .none (.seq .none (.seq (.seq .none (.block (.cut 0 [4,6,7,14,15,16] Gq35_n0))) .none))))
theorem annq35_ok : AnnOk Tryz.prog 49 bq35 annq35 := ⟨(annOk_none _ _ _),⟨(annOk_none _ _ _),⟨(annOk_none _ _ _),⟨⟨(annOk_none _ _ _),Gq35_n0_ok⟩,(annOk_none _ _ _)⟩⟩⟩⟩
abbrev Aq35 := (List UInt8) × (List UInt8)
abbrev Yq35 := (Int) × (Int) × (Int) × (Int)
def fnq35 {β : Type} : Aq35 → (Yq35 → Option β) → Option β := fun (a0,a1) exit => (bindO (loopD (stepDq35_n0 ((↑(List.length [a0,a1]) : Int),[a0,a1])) FUEL (false,(0 : Int),(0 : Int),(0 : Int),(0 : Int))) (unP fun t7 => unP fun o1_0 => unP fun o1_1 o1_2 => (bif !t7 then (exit (o1_0,o1_1,o1_2,(8 : Int))) else (exit (o1_0,o1_1,o1_2,(0 : Int))))))
def fnDq35 (a : Aq35) : Option Yq35 := fnq35 a some
theorem fnq35_nat (a : Aq35) (k : Yq35 → Ans) : fnq35 a k = bindO (fnDq35 a) k := by
  obtain ⟨a0,a1⟩ := a
  simp only [fnDq35,fnq35,bindO_cond,bindO_assoc,bindO_none,bindO_pure,bindO_elim,bindO_unP,bindO_empty]
def argsq35 : Aq35 → List AV := fun (a0,a1) => [.str a0,.str a1]
def decPAq35 (l : List AV) : Option {a : Aq35 // l = argsq35 a} := match l with
  | [.str a0,.str a1] => some ⟨(a0,a1),rfl⟩
  | _ => none
def decAq35 (l : List AV) : Option Aq35 := pk (decPAq35 l)
theorem decAq35_ok (l : List AV) (a : Aq35) (h : decAq35 l = some a) : l = argsq35 a := pk_ok (o := decPAq35 l) h
def rendq35 : Aq35 → Yq35 → AV := fun (a0,a1) => unP fun r_0_0_y => unP fun r_0_1_y => unP fun r_0_2_y r_1_y => .tup [.agg [.int .i64 r_0_0_y,.int .i64 r_0_1_y,.int .i64 r_0_2_y],.int .i64 r_1_y]
theorem rendq35_ok : ∀ (a : Aq35) (y : Yq35),(rendq35 a y).closed1 = true := by
  rintro ⟨a0,a1⟩ y <;> first | rfl | exact Empty.elim y
theorem fnq35_ok (a : Aq35) : fnE Tryz.tab envq35 noHint 0 70 178 Tryz.f178.ntmps Tryz.f178.results.toList annq35 bq35 (argsq35 a) [] (fun v _ => some (v,[])) = fnq35 a (fun y => some (rendq35 a y,[])) := by kernel_rfl
def vFq35 (a : Aq35) (K : AV → Ans) : Ans := bindO (fnDq35 a) fun y => K (rendq35 a y)
def Fq35 : List AV → (AV → Ans) → Ans := fun l K => bindO (decAq35 l) fun a => vFq35 a K
theorem Fq35_ok : PureOk Tryz.prog 178 Fq35 := pure_mkD (hint := noHint) (d := 0) (n := 70) mixed tabOk envq35Ok Tryz.func178 (bodySome (by kernel_rfl)) (by decide +kernel) annq35_ok decAq35_ok fnq35_ok fnq35_nat rendq35_ok
--@ region_Region_Place
noncomputable def envq58 : Env := []
theorem envq58Ok : EnvOk Tryz.prog envq58 := EnvOk.nil
noncomputable def bq58 : Code := Tryz.f209.body.getD .skip
noncomputable def Lq58_n1 : Code := codeAt [1,0,0,1,1,0] bq58
noncomputable def annLq58_n1 : Ann := .none
theorem annLq58_n1_ok : AnnOk Tryz.prog 26 Lq58_n1 annLq58_n1 := (annOk_none _ _ _)
abbrev Iq58_n1 := (Int) × (Int) × (Int) × (Int) × (Int) × (Bool) × (List (List UInt8)) × (List (Int × List UInt8)) × (List (Int × List UInt8)) × (List Int)
abbrev Yq58_n1 := (Bool)
def Sq58_n1 : Iq58_n1 → St := fun (t1,o0_1,o0_2,o1_3,o1_5,o1_6,o2,o3,o4,o5) => { env := [(0,.ptr 0 0),(1,.int .i64 t1)],stk := [[(0,.ptr 0 0),(1,.ptr 1 0),(3,.map 3)]],H := [.cells [.ptr 1 0,.int .i64 o0_1,.int .i64 o0_2],.cells [.own 2,.map 3,.own 4,.int .i64 o1_3,.own 5,.int .i64 o1_5,.bool o1_6],.arr .str o2,.mp .i64 .str o3,.arr (.st (.pair (.int .i64) .str)) o4,.arr (.int .i64) o5],blk := 856064 }
def decPq58_n1 (s : St) : Option {x : Iq58_n1 // s = Sq58_n1 x} := match s with
  | { env := [(0,.ptr 0 0),(1,.int .i64 t1)],stk := [[(0,.ptr 0 0),(1,.ptr 1 0),(3,.map 3)]],H := [.cells [.ptr 1 0,.int .i64 o0_1,.int .i64 o0_2],.cells [.own 2,.map 3,.own 4,.int .i64 o1_3,.own 5,.int .i64 o1_5,.bool o1_6],.arr .str o2,.mp .i64 .str o3,.arr (.st (.pair (.int .i64) .str)) o4,.arr (.int .i64) o5],blk := 856064 } => some ⟨(t1,o0_1,o0_2,o1_3,o1_5,o1_6,o2,o3,o4,o5),rfl⟩
  | _ => none
def decq58_n1 (s : St) : Option Iq58_n1 := pk (decPq58_n1 s)
theorem decq58_n1_ok (s : St) (x : Iq58_n1) (h : decq58_n1 s = some x) : s = Sq58_n1 x := pk_ok (o := decPq58_n1 s) h
def outq58_n1 : Iq58_n1 → (Ex → St → Ans) → Yq58_n1 → Ans := fun (t1,o0_1,o0_2,o1_3,o1_5,o1_6,o2,o3,o4,o5) K => fun t9_y => K (Ex.norm) { env := [(0,.ptr 0 0),(1,.int .i64 t1),(9,.bool t9_y)],stk := [[(0,.ptr 0 0),(1,.ptr 1 0),(3,.map 3)]],H := [.cells [.ptr 1 0,.int .i64 o0_1,.int .i64 o0_2],.cells [.own 2,.map 3,.own 4,.int .i64 o1_3,.own 5,.int .i64 o1_5,.bool o1_6],.arr .str o2,.mp .i64 .str o3,.arr (.st (.pair (.int .i64) .str)) o4,.arr (.int .i64) o5],blk := 856064 }
def nodeq58_n1 {β : Type} : Iq58_n1 → (Yq58_n1 → Option β) → Option β := fun (t1,o0_1,o0_2,o1_3,o1_5,o1_6,o2,o3,o4,o5) exit => (bif decide (t1 < (0 : Int)) then (exit (true)) else (exit (decide (t1 ≥ o0_2))))
def nodeDq58_n1 (i : Iq58_n1) : Option Yq58_n1 := nodeq58_n1 i some
theorem nodeq58_n1_nat (i : Iq58_n1) (k : Yq58_n1 → Ans) : nodeq58_n1 i k = bindO (nodeDq58_n1 i) k := by
  obtain ⟨t1,o0_1,o0_2,o1_3,o1_5,o1_6,o2,o3,o4,o5⟩ := i
  simp only [nodeDq58_n1,nodeq58_n1,bindO_cond,bindO_assoc,bindO_none,bindO_pure,bindO_elim,bindO_unP,bindO_empty]
theorem nodeq58_n1_ok (i : Iq58_n1) (K : Ex → St → Ans) : codeI Tryz.tab envq58 noHint (codeD Tryz.tab envq58 noHint 0 64) 70 26 annLq58_n1 Lq58_n1 (weakP 6 (exk [0,1,9] [4,5] []) K) (Sq58_n1 i) = nodeq58_n1 i (outq58_n1 i K) := by kernel_rfl
theorem GNq58_n1_ok : CSum Tryz.prog 26 Lq58_n1 (sumN decq58_n1 nodeDq58_n1 outq58_n1) := csum_node mixed tabOk envq58Ok 6 (exk [0,1,9] [4,5] []) annLq58_n1_ok decq58_n1_ok nodeq58_n1_ok nodeq58_n1_nat
noncomputable def Gq58_n1 : (Ex → St → Ans) → St → Ans := (sumN decq58_n1 nodeDq58_n1 outq58_n1)
theorem Gq58_n1_ok : CSum Tryz.prog 26 Lq58_n1 Gq58_n1 := GNq58_n1_ok
noncomputable def Lq58_n0 : Code := codeAt [1,0] bq58
noncomputable def annLq58_n0 : Ann := (.block (.seq .none (.cond .none (.seq (.cut 6 [0,1] Gq58_n1) .none))))
theorem annLq58_n0_ok : AnnOk Tryz.prog 26 Lq58_n0 annLq58_n0 := ⟨(annOk_none _ _ _),⟨(annOk_none _ _ _),⟨Gq58_n1_ok,(annOk_none _ _ _)⟩⟩⟩
abbrev Iq58_n0 := (Int) × (Int) × (Int) × (Int) × (Int) × (Bool) × (List (List UInt8)) × (List (Int × List UInt8)) × (List (Int × List UInt8)) × (List Int)
abbrev Yq58_n0 := (Unit) ⊕ (Unit)
def Sq58_n0 : Iq58_n0 → St := fun (t1,o0_1,o0_2,o1_3,o1_5,o1_6,o2,o3,o4,o5) => { env := [(0,.ptr 0 0),(1,.int .i64 t1)],stk := [[(0,.ptr 0 0),(1,.ptr 1 0),(3,.map 3)]],H := [.cells [.ptr 1 0,.int .i64 o0_1,.int .i64 o0_2],.cells [.own 2,.map 3,.own 4,.int .i64 o1_3,.own 5,.int .i64 o1_5,.bool o1_6],.arr .str o2,.mp .i64 .str o3,.arr (.st (.pair (.int .i64) .str)) o4,.arr (.int .i64) o5],blk := 856064 }
def decPq58_n0 (s : St) : Option {x : Iq58_n0 // s = Sq58_n0 x} := match s with
  | { env := [(0,.ptr 0 0),(1,.int .i64 t1)],stk := [[(0,.ptr 0 0),(1,.ptr 1 0),(3,.map 3)]],H := [.cells [.ptr 1 0,.int .i64 o0_1,.int .i64 o0_2],.cells [.own 2,.map 3,.own 4,.int .i64 o1_3,.own 5,.int .i64 o1_5,.bool o1_6],.arr .str o2,.mp .i64 .str o3,.arr (.st (.pair (.int .i64) .str)) o4,.arr (.int .i64) o5],blk := 856064 } => some ⟨(t1,o0_1,o0_2,o1_3,o1_5,o1_6,o2,o3,o4,o5),rfl⟩
  | _ => none
def decq58_n0 (s : St) : Option Iq58_n0 := pk (decPq58_n0 s)
theorem decq58_n0_ok (s : St) (x : Iq58_n0) (h : decq58_n0 s = some x) : s = Sq58_n0 x := pk_ok (o := decPq58_n0 s) h
def outq58_n0 : Iq58_n0 → (Ex → St → Ans) → Yq58_n0 → Ans := fun (t1,o0_1,o0_2,o1_3,o1_5,o1_6,o2,o3,o4,o5) K => (Sum.elim (fun _ => K (Ex.ret) { env := [(4,.int .i64 (0)),(5,.int .i64 (3))],stk := [[(0,.ptr 0 0),(1,.ptr 1 0),(3,.map 3)]],H := [.cells [.ptr 1 0,.int .i64 o0_1,.int .i64 o0_2],.cells [.own 2,.map 3,.own 4,.int .i64 o1_3,.own 5,.int .i64 o1_5,.bool o1_6],.arr .str o2,.mp .i64 .str o3,.arr (.st (.pair (.int .i64) .str)) o4,.arr (.int .i64) o5],blk := 856064 }) (fun _ => K (Ex.norm) { env := [(0,.ptr 0 0),(1,.int .i64 t1)],stk := [[(0,.ptr 0 0),(1,.ptr 1 0),(3,.map 3)]],H := [.cells [.ptr 1 0,.int .i64 o0_1,.int .i64 o0_2],.cells [.own 2,.map 3,.own 4,.int .i64 o1_3,.own 5,.int .i64 o1_5,.bool o1_6],.arr .str o2,.mp .i64 .str o3,.arr (.st (.pair (.int .i64) .str)) o4,.arr (.int .i64) o5],blk := 856064 }))
def nodeq58_n0 {β : Type} : Iq58_n0 → (Yq58_n0 → Option β) → Option β := fun (t1,o0_1,o0_2,o1_3,o1_5,o1_6,o2,o3,o4,o5) exit => (bindO (nodeDq58_n1 (t1,o0_1,o0_2,o1_3,o1_5,o1_6,o2,o3,o4,o5)) fun t9 => (bif t9 then (exit (Sum.inl ())) else (exit (Sum.inr ()))))
def nodeDq58_n0 (i : Iq58_n0) : Option Yq58_n0 := nodeq58_n0 i some
theorem nodeq58_n0_nat (i : Iq58_n0) (k : Yq58_n0 → Ans) : nodeq58_n0 i k = bindO (nodeDq58_n0 i) k := by
  obtain ⟨t1,o0_1,o0_2,o1_3,o1_5,o1_6,o2,o3,o4,o5⟩ := i
  simp only [nodeDq58_n0,nodeq58_n0,bindO_cond,bindO_assoc,bindO_none,bindO_pure,bindO_elim,bindO_unP,bindO_empty]
theorem nodeq58_n0_ok (i : Iq58_n0) (K : Ex → St → Ans) : codeI Tryz.tab envq58 noHint (codeD Tryz.tab envq58 noHint 0 64) 70 26 annLq58_n0 Lq58_n0 (weakP 6 (exk [0,1] [4,5] []) K) (Sq58_n0 i) = nodeq58_n0 i (outq58_n0 i K) := by kernel_rfl
theorem GNq58_n0_ok : CSum Tryz.prog 26 Lq58_n0 (sumN decq58_n0 nodeDq58_n0 outq58_n0) := csum_node mixed tabOk envq58Ok 6 (exk [0,1] [4,5] []) annLq58_n0_ok decq58_n0_ok nodeq58_n0_ok nodeq58_n0_nat
noncomputable def Gq58_n0 : (Ex → St → Ans) → St → Ans := (sumN decq58_n0 nodeDq58_n0 outq58_n0)
theorem Gq58_n0_ok : CSum Tryz.prog 26 Lq58_n0 Gq58_n0 := GNq58_n0_ok
noncomputable def annq58 : Ann := (.seq .none (.seq (.cut 6 [0,1] Gq58_n0) .none))
theorem annq58_ok : AnnOk Tryz.prog 26 bq58 annq58 := ⟨(annOk_none _ _ _),⟨Gq58_n0_ok,(annOk_none _ _ _)⟩⟩
abbrev Aq58 := (Int) × (Int) × (Int) × (Int) × (Int) × (Bool) × (List (List UInt8)) × (List (Int × List UInt8)) × (List (Int × List UInt8)) × (List Int)
abbrev Yq58 := (Int) × (Int)
def fnq58 {β : Type} : Aq58 → (Yq58 → Option β) → Option β := fun (a1,o0_1,o0_2,o1_3,o1_5,o1_6,o2,o3,o4,o5) exit => (bindO (nodeDq58_n0 (a1,o0_1,o0_2,o1_3,o1_5,o1_6,o2,o3,o4,o5)) (Sum.elim (fun _ => (exit ((0 : Int),(3 : Int)))) (fun _ => (exit (IntKind.wrap .i64 (o0_1 + a1),(0 : Int))))))
def fnDq58 (a : Aq58) : Option Yq58 := fnq58 a some
theorem fnq58_nat (a : Aq58) (k : Yq58 → Ans) : fnq58 a k = bindO (fnDq58 a) k := by
  obtain ⟨a1,o0_1,o0_2,o1_3,o1_5,o1_6,o2,o3,o4,o5⟩ := a
  simp only [fnDq58,fnq58,bindO_cond,bindO_assoc,bindO_none,bindO_pure,bindO_elim,bindO_unP,bindO_empty]
def argsq58 : Aq58 → List AV × List AE.Obj := fun (a1,o0_1,o0_2,o1_3,o1_5,o1_6,o2,o3,o4,o5) => ([.ptr 0 0,.int .i64 a1],[.cells [.ptr 1 0,.int .i64 o0_1,.int .i64 o0_2],.cells [.own 2,.map 3,.own 4,.int .i64 o1_3,.own 5,.int .i64 o1_5,.bool o1_6],.arr .str o2,.mp .i64 .str o3,.arr (.st (.pair (.int .i64) .str)) o4,.arr (.int .i64) o5])
def decPAq58 (l : List AV) (H : List AE.Obj) : Option {a : Aq58 // (l,H) = argsq58 a} := match l,H with
  | [.ptr 0 0,.int .i64 a1],[.cells [.ptr 1 0,.int .i64 o0_1,.int .i64 o0_2],.cells [.own 2,.map 3,.own 4,.int .i64 o1_3,.own 5,.int .i64 o1_5,.bool o1_6],.arr .str o2,.mp .i64 .str o3,.arr (.st (.pair (.int .i64) .str)) o4,.arr (.int .i64) o5] => some ⟨(a1,o0_1,o0_2,o1_3,o1_5,o1_6,o2,o3,o4,o5),rfl⟩
  | _,_ => none
def decAq58 (l : List AV) (H : List AE.Obj) : Option Aq58 := pk (decPAq58 l H)
theorem decAq58_ok (l : List AV) (H : List AE.Obj) (a : Aq58) (h : decAq58 l H = some a) : (l,H) = argsq58 a := pk_ok (o := decPAq58 l H) h
def outq58 : Aq58 → (AV → List AE.Obj → Ans) → Yq58 → Ans := fun (a1,o0_1,o0_2,o1_3,o1_5,o1_6,o2,o3,o4,o5) K => unP fun r_0_y r_1_y => K (.tup [.int .i64 r_0_y,.int .i64 r_1_y]) [.cells [.ptr 1 0,.int .i64 o0_1,.int .i64 o0_2],.cells [.own 2,.map 3,.own 4,.int .i64 o1_3,.own 5,.int .i64 o1_5,.bool o1_6],.arr .str o2,.mp .i64 .str o3,.arr (.st (.pair (.int .i64) .str)) o4,.arr (.int .i64) o5]
theorem fnq58_ok (a : Aq58) (K : AV → List AE.Obj → Ans) : fnE Tryz.tab envq58 noHint 0 70 209 Tryz.f209.ntmps Tryz.f209.results.toList annq58 bq58 (argsq58 a).1 (argsq58 a).2 K = fnq58 a (outq58 a K) := by kernel_rfl
def vFq58 (a : Aq58) (K : AV → List AE.Obj → Ans) : Ans := bindO (fnDq58 a) fun y => outq58 a K y
def Fq58 : List AV → List AE.Obj → (AV → List AE.Obj → Ans) → Ans := fun l H K => bindO (decAq58 l H) fun a => vFq58 a K
theorem Fq58_ok : FuncOk Tryz.prog 209 Fq58 := func_mkD (hint := noHint) (d := 0) (n := 70) mixed tabOk envq58Ok Tryz.func209 (bodySome (by kernel_rfl)) (by decide +kernel) annq58_ok decAq58_ok fnq58_ok fnq58_nat
--@ logrec_Size
noncomputable def envq42 : Env := [(129,.func Fq19),(130,.func Fq21),(131,.func Fq22)]
theorem envq42Ok : EnvOk Tryz.prog envq42 := EnvOk.cons Fq19_ok (EnvOk.cons Fq21_ok (EnvOk.cons Fq22_ok (EnvOk.nil)))
noncomputable def bq42 : Code := Tryz.f260.body.getD .skip
noncomputable def Lq42_n0 : Code := codeAt [1,1,1,1,0,0] bq42
noncomputable def annLq42_n0 : Ann := .none
theorem annLq42_n0_ok : AnnOk Tryz.prog 38 Lq42_n0 annLq42_n0 := (annOk_none _ _ _)
abbrev Iq42_n0 := (Int) × (List UInt8) × (Int) × (Int)
abbrev Yq42_n0 := (Bool)
def Sq42_n0 : Iq42_n0 → St := fun (t1,t7,t8,t9) => { env := [(1,.int .i64 t1),(7,.str t7),(8,.int .i64 t8),(9,.int .i64 t9)],stk := [[]],H := [],blk := 1064960 }
def decPq42_n0 (s : St) : Option {x : Iq42_n0 // s = Sq42_n0 x} := match s with
  | { env := [(1,.int .i64 t1),(7,.str t7),(8,.int .i64 t8),(9,.int .i64 t9)],stk := [[]],H := [],blk := 1064960 } => some ⟨(t1,t7,t8,t9),rfl⟩
  | _ => none
def decq42_n0 (s : St) : Option Iq42_n0 := pk (decPq42_n0 s)
theorem decq42_n0_ok (s : St) (x : Iq42_n0) (h : decq42_n0 s = some x) : s = Sq42_n0 x := pk_ok (o := decPq42_n0 s) h
def outq42_n0 : Iq42_n0 → (Ex → St → Ans) → Yq42_n0 → Ans := fun (t1,t7,t8,t9) K => fun t35_y => K (Ex.norm) { env := [(9,.int .i64 t9),(35,.bool t35_y)],stk := [[]],H := [],blk := 1064960 }
def nodeq42_n0 {β : Type} : Iq42_n0 → (Yq42_n0 → Option β) → Option β := fun (t1,t7,t8,t9) exit => (bif !t7 == [(82 : UInt8)] then (exit (true)) else (bif t8 != t1 then (exit (true)) else (bif decide (t9 < (1 : Int)) then (exit (true)) else (exit (decide (t9 > (16 : Int)))))))
def nodeDq42_n0 (i : Iq42_n0) : Option Yq42_n0 := nodeq42_n0 i some
theorem nodeq42_n0_nat (i : Iq42_n0) (k : Yq42_n0 → Ans) : nodeq42_n0 i k = bindO (nodeDq42_n0 i) k := by
  obtain ⟨t1,t7,t8,t9⟩ := i
  simp only [nodeDq42_n0,nodeq42_n0,bindO_cond,bindO_assoc,bindO_none,bindO_pure,bindO_elim,bindO_unP,bindO_empty]
theorem nodeq42_n0_ok (i : Iq42_n0) (K : Ex → St → Ans) : codeI Tryz.tab envq42 noHint (codeD Tryz.tab envq42 noHint 0 64) 70 38 annLq42_n0 Lq42_n0 (weakP 0 (exk [9,35] [4,5] []) K) (Sq42_n0 i) = nodeq42_n0 i (outq42_n0 i K) := by kernel_rfl
theorem GNq42_n0_ok : CSum Tryz.prog 38 Lq42_n0 (sumN decq42_n0 nodeDq42_n0 outq42_n0) := csum_node mixed tabOk envq42Ok 0 (exk [9,35] [4,5] []) annLq42_n0_ok decq42_n0_ok nodeq42_n0_ok nodeq42_n0_nat
noncomputable def Gq42_n0 : (Ex → St → Ans) → St → Ans := (sumN decq42_n0 nodeDq42_n0 outq42_n0)
theorem Gq42_n0_ok : CSum Tryz.prog 38 Lq42_n0 Gq42_n0 := GNq42_n0_ok
noncomputable def annq42 : Ann := (.seq .none (.seq .none (.seq .none (.seq .none (.seq (.seq (.cut 0 [1,7,8,9] Gq42_n0) .none) .none)))))
theorem annq42_ok : AnnOk Tryz.prog 38 bq42 annq42 := ⟨(annOk_none _ _ _),⟨(annOk_none _ _ _),⟨(annOk_none _ _ _),⟨(annOk_none _ _ _),⟨⟨Gq42_n0_ok,(annOk_none _ _ _)⟩,(annOk_none _ _ _)⟩⟩⟩⟩⟩
abbrev Aq42 := (List UInt8) × (Int)
abbrev Yq42 := (Int) × (Int)
def fnq42 {β : Type} : Aq42 → (Yq42 → Option β) → Option β := fun (a0,a1) exit => (bif (↑(List.length a0) : Int) != (64 : Int) then (exit ((0 : Int),(12 : Int))) else (bindO (fnDq19 (a0)) fun _ => (bindO (fnDq21 ((1 : Int),a0,(0 : Int))) (unP fun r => unP fun o0_0 o0_1 => (bindO (fnDq22 ((6 : Int),o0_0,o0_1)) (unP fun r_2 => unP fun o0_0_2 o0_1_2 => (bindO (fnDq22 ((1 : Int),o0_0_2,o0_1_2)) (unP fun r_3 => unP fun o0_0_3 o0_1_3 => (bindO (nodeDq42_n0 (a1,r,r_2,r_3)) fun t35 => (bif t35 then (exit ((0 : Int),(8 : Int))) else (exit (IntKind.wrap .i64 (r_3 + (1 : Int)),(0 : Int)))))))))))))
def fnDq42 (a : Aq42) : Option Yq42 := fnq42 a some
theorem fnq42_nat (a : Aq42) (k : Yq42 → Ans) : fnq42 a k = bindO (fnDq42 a) k := by
  obtain ⟨a0,a1⟩ := a
  simp only [fnDq42,fnq42,bindO_cond,bindO_assoc,bindO_none,bindO_pure,bindO_elim,bindO_unP,bindO_empty]
def argsq42 : Aq42 → List AV := fun (a0,a1) => [.str a0,.int .i64 a1]
def decPAq42 (l : List AV) : Option {a : Aq42 // l = argsq42 a} := match l with
  | [.str a0,.int .i64 a1] => some ⟨(a0,a1),rfl⟩
  | _ => none
def decAq42 (l : List AV) : Option Aq42 := pk (decPAq42 l)
theorem decAq42_ok (l : List AV) (a : Aq42) (h : decAq42 l = some a) : l = argsq42 a := pk_ok (o := decPAq42 l) h
def rendq42 : Aq42 → Yq42 → AV := fun (a0,a1) => unP fun r_0_y r_1_y => .tup [.int .i64 r_0_y,.int .i64 r_1_y]
theorem rendq42_ok : ∀ (a : Aq42) (y : Yq42),(rendq42 a y).closed1 = true := by
  rintro ⟨a0,a1⟩ y <;> first | rfl | exact Empty.elim y
theorem fnq42_ok (a : Aq42) : fnE Tryz.tab envq42 noHint 0 70 260 Tryz.f260.ntmps Tryz.f260.results.toList annq42 bq42 (argsq42 a) [] (fun v _ => some (v,[])) = fnq42 a (fun y => some (rendq42 a y,[])) := by kernel_rfl
def vFq42 (a : Aq42) (K : AV → Ans) : Ans := bindO (fnDq42 a) fun y => K (rendq42 a y)
def Fq42 : List AV → (AV → Ans) → Ans := fun l K => bindO (decAq42 l) fun a => vFq42 a K
theorem Fq42_ok : PureOk Tryz.prog 260 Fq42 := pure_mkD (hint := noHint) (d := 0) (n := 70) mixed tabOk envq42Ok Tryz.func260 (bodySome (by kernel_rfl)) (by decide +kernel) annq42_ok decAq42_ok fnq42_ok fnq42_nat rendq42_ok
--@ logrec_tail
noncomputable def envq43 : Env := [(123,.pure Fq4)]
theorem envq43Ok : EnvOk Tryz.prog envq43 := EnvOk.cons Fq4_ok (EnvOk.nil)
noncomputable def bq43 : Code := Tryz.f165.body.getD .skip
noncomputable def annq43 : Ann := .none
theorem annq43_ok : AnnOk Tryz.prog 9 bq43 annq43 := (annOk_none _ _ _)
abbrev Aq43 := (List UInt8) × (List UInt8)
abbrev Yq43 := (List UInt8)
def fnq43 {β : Type} : Aq43 → (Yq43 → Option β) → Option β := fun (a0,a1) exit => (bif Nat.ble (List.length a0 + List.length a1) (9223372036854775807 : Nat) then (bindO (fnDq4 (a0 ++ a1)) fun r => (exit (r))) else none)
def fnDq43 (a : Aq43) : Option Yq43 := fnq43 a some
theorem fnq43_nat (a : Aq43) (k : Yq43 → Ans) : fnq43 a k = bindO (fnDq43 a) k := by
  obtain ⟨a0,a1⟩ := a
  simp only [fnDq43,fnq43,bindO_cond,bindO_assoc,bindO_none,bindO_pure,bindO_elim,bindO_unP,bindO_empty]
def argsq43 : Aq43 → List AV := fun (a0,a1) => [.str a0,.str a1]
def decPAq43 (l : List AV) : Option {a : Aq43 // l = argsq43 a} := match l with
  | [.str a0,.str a1] => some ⟨(a0,a1),rfl⟩
  | _ => none
def decAq43 (l : List AV) : Option Aq43 := pk (decPAq43 l)
theorem decAq43_ok (l : List AV) (a : Aq43) (h : decAq43 l = some a) : l = argsq43 a := pk_ok (o := decPAq43 l) h
def rendq43 : Aq43 → Yq43 → AV := fun (a0,a1) => fun r_y => .str r_y
theorem rendq43_ok : ∀ (a : Aq43) (y : Yq43),(rendq43 a y).closed1 = true := by
  rintro ⟨a0,a1⟩ y <;> first | rfl | exact Empty.elim y
theorem fnq43_ok (a : Aq43) : fnE Tryz.tab envq43 noHint 0 70 165 Tryz.f165.ntmps Tryz.f165.results.toList annq43 bq43 (argsq43 a) [] (fun v _ => some (v,[])) = fnq43 a (fun y => some (rendq43 a y,[])) := by kernel_rfl
def vFq43 (a : Aq43) (K : AV → Ans) : Ans := bindO (fnDq43 a) fun y => K (rendq43 a y)
def Fq43 : List AV → (AV → Ans) → Ans := fun l K => bindO (decAq43 l) fun a => vFq43 a K
theorem Fq43_ok : PureOk Tryz.prog 165 Fq43 := pure_mkD (hint := noHint) (d := 0) (n := 70) mixed tabOk envq43Ok Tryz.func165 (bodySome (by kernel_rfl)) (by decide +kernel) annq43_ok decAq43_ok fnq43_ok fnq43_nat rendq43_ok
--@ logrec_Check_1
noncomputable def envq39 : Env := []
theorem envq39Ok : EnvOk Tryz.prog envq39 := EnvOk.nil
noncomputable def bq39 : Code := Tryz.f208.body.getD .skip
noncomputable def annq39 : Ann := .none
theorem annq39_ok : AnnOk Tryz.prog 9 bq39 annq39 := (annOk_none _ _ _)
abbrev Aq39 := (Int) × (List UInt8) × (Int) × (List UInt8)
abbrev Yq39 := (Bool)
def fnq39 {β : Type} : Aq39 → (Yq39 → Option β) → Option β := fun (a0_0,a0_1,o0_0,o0_1) exit => (exit (a0_0 == o0_0))
def fnDq39 (a : Aq39) : Option Yq39 := fnq39 a some
theorem fnq39_nat (a : Aq39) (k : Yq39 → Ans) : fnq39 a k = bindO (fnDq39 a) k := by
  obtain ⟨a0_0,a0_1,o0_0,o0_1⟩ := a
  simp only [fnDq39,fnq39,bindO_cond,bindO_assoc,bindO_none,bindO_pure,bindO_elim,bindO_unP,bindO_empty]
def argsq39 : Aq39 → List AV × List AE.Obj := fun (a0_0,a0_1,o0_0,o0_1) => ([.agg [.int .i64 a0_0,.str a0_1],.ptr 0 0],[.cells [.int .i64 o0_0,.str o0_1]])
def decPAq39 (l : List AV) (H : List AE.Obj) : Option {a : Aq39 // (l,H) = argsq39 a} := match l,H with
  | [.agg [.int .i64 a0_0,.str a0_1],.ptr 0 0],[.cells [.int .i64 o0_0,.str o0_1]] => some ⟨(a0_0,a0_1,o0_0,o0_1),rfl⟩
  | _,_ => none
def decAq39 (l : List AV) (H : List AE.Obj) : Option Aq39 := pk (decPAq39 l H)
theorem decAq39_ok (l : List AV) (H : List AE.Obj) (a : Aq39) (h : decAq39 l H = some a) : (l,H) = argsq39 a := pk_ok (o := decPAq39 l H) h
def outq39 : Aq39 → (AV → List AE.Obj → Ans) → Yq39 → Ans := fun (a0_0,a0_1,o0_0,o0_1) K => fun r_y => K (.bool r_y) [.cells [.int .i64 o0_0,.str o0_1]]
theorem fnq39_ok (a : Aq39) (K : AV → List AE.Obj → Ans) : fnE Tryz.tab envq39 noHint 0 70 208 Tryz.f208.ntmps Tryz.f208.results.toList annq39 bq39 (argsq39 a).1 (argsq39 a).2 K = fnq39 a (outq39 a K) := by kernel_rfl
def vFq39 (a : Aq39) (K : AV → List AE.Obj → Ans) : Ans := bindO (fnDq39 a) fun y => outq39 a K y
def Fq39 : List AV → List AE.Obj → (AV → List AE.Obj → Ans) → Ans := fun l H K => bindO (decAq39 l H) fun a => vFq39 a K
theorem Fq39_ok : FuncOk Tryz.prog 208 Fq39 := func_mkD (hint := noHint) (d := 0) (n := 70) mixed tabOk envq39Ok Tryz.func208 (bodySome (by kernel_rfl)) (by decide +kernel) annq39_ok decAq39_ok fnq39_ok fnq39_nat
--@ slices_IndexFunc_api_Sector_api_Sector
noncomputable def envq76 : Env := [(208,.func Fq39)]
theorem envq76Ok : EnvOk Tryz.prog envq76 := EnvOk.cons Fq39_ok (EnvOk.nil)
noncomputable def bq76 : Code := Tryz.f237.body.getD .skip
noncomputable def Lq76_n0 : Code := codeAt [1,0,1,0,0] bq76
noncomputable def annLq76_n0 : Ann := .at 1 [0,1,7,8] (.loop .none)
theorem annLq76_n0_ok : AnnOk Tryz.prog 19 (.loop Lq76_n0) annLq76_n0 := annOk_at (annOk_none _ _ _)
abbrev Iq76_n0 := (List (Int × List UInt8)) × (Int) × (Int) × (List UInt8)
abbrev Yq76_n0 := ((Int)) ⊕ (Unit)
abbrev Vq76_n0 := (Int)
def Sq76_n0 : Iq76_n0 → Vq76_n0 → St := fun (t0,t7,o0_0,o0_1) t8 => { env := [(0,.ro (.st (.pair (.int .i64) .str)) t0),(1,.fn (Fn.func 208) [] [.ptr 0 0]),(7,.int .i64 t7),(8,.int .i64 t8)],stk := [[(0,.ptr 0 0)]],H := [.cells [.int .i64 o0_0,.str o0_1]],blk := 970752 }
def decPq76_n0 (s : St) : Option {x : Iq76_n0 × Vq76_n0 // s = Sq76_n0 x.1 x.2} := match s with
  | { env := [(0,.ro (.st (.pair (.int .i64) .str)) t0),(1,.fn (Fn.func 208) [] [.ptr 0 0]),(7,.int .i64 t7),(8,.int .i64 t8)],stk := [[(0,.ptr 0 0)]],H := [.cells [.int .i64 o0_0,.str o0_1]],blk := 970752 } => some ⟨((t0,t7,o0_0,o0_1),t8),rfl⟩
  | _ => none
def decq76_n0 (s : St) : Option (Iq76_n0 × Vq76_n0) := pk (decPq76_n0 s)
theorem decq76_n0_ok (s : St) (x : Iq76_n0 × Vq76_n0) (h : decq76_n0 s = some x) : s = Sq76_n0 x.1 x.2 := pk_ok (o := decPq76_n0 s) h
def outq76_n0 : Iq76_n0 → (Ex → St → Ans) → Yq76_n0 → Ans := fun (t0,t7,o0_0,o0_1) K => (Sum.elim (fun t4_y => K (Ex.ret) { env := [(4,.int .i64 t4_y)],stk := [[(0,.ptr 0 0)]],H := [.cells [.int .i64 o0_0,.str o0_1]],blk := 970753 }) (fun _ => K (Ex.exit 0) { env := [],stk := [[(0,.ptr 0 0)]],H := [.cells [.int .i64 o0_0,.str o0_1]],blk := 970752 }))
def stepq76_n0 {β : Type} : Iq76_n0 → Vq76_n0 → (Vq76_n0 → Option β) → (Yq76_n0 → Option β) → Option β := fun (t0,t7,o0_0,o0_1) t8 next exit => (bif decide (t8 < t7) then (bindO (nth t0 t8) fun x => (bindO (fnDq39 (x.fst,x.snd,o0_0,o0_1)) fun r => (bif r then (exit (Sum.inl (t8))) else (next (IntKind.wrap .i64 (t8 + (1 : Int))))))) else (exit (Sum.inr ())))
def stepDq76_n0 (i : Iq76_n0) (v : Vq76_n0) : Option (Vq76_n0 ⊕ Yq76_n0) := stepq76_n0 i v (fun v => some (.inl v)) (fun y => some (.inr y))
theorem stepq76_n0_nat (i : Iq76_n0) (v : Vq76_n0) (next : Vq76_n0 → Ans) (exit : Yq76_n0 → Ans) : stepq76_n0 i v next exit = bindO (stepDq76_n0 i v) (Sum.elim next exit) := by
  obtain ⟨t0,t7,o0_0,o0_1⟩ := i
  obtain z := v
  simp only [stepDq76_n0,stepq76_n0,bindO_cond,bindO_assoc,bindO_none,bindO_pure,bindO_elim,bindO_unP,bindO_empty,Sum.elim_inl,Sum.elim_inr]
theorem stepq76_n0_ok (n : Nat) (i : Iq76_n0) (v : Vq76_n0) (K : Ex → St → Ans) : codeI Tryz.tab envq76 noHint (codeD Tryz.tab envq76 noHint 0 64) (n+1) 19 annLq76_n0 (.loop Lq76_n0) (weakP 1 (exk [] [4] [(0,[])]) K) (Sq76_n0 i v) = stepq76_n0 i v (fun v' => codeI Tryz.tab envq76 noHint (codeD Tryz.tab envq76 noHint 0 64) n 19 annLq76_n0 (.loop Lq76_n0) (weakP 1 (exk [] [4] [(0,[])]) K) (Sq76_n0 i v')) (fun y => outq76_n0 i K y) := by kernel_rfl
theorem GNq76_n0_ok : CSum Tryz.prog 19 (.loop Lq76_n0) (sumL decq76_n0 stepDq76_n0 outq76_n0) := csum_loop mixed tabOk envq76Ok 1 (exk [] [4] [(0,[])]) annLq76_n0_ok decq76_n0_ok stepq76_n0_ok stepq76_n0_nat
noncomputable def Gq76_n0 : (Ex → St → Ans) → St → Ans := (sumL decq76_n0 stepDq76_n0 outq76_n0)
theorem Gq76_n0_ok : CSum Tryz.prog 19 (.loop Lq76_n0) Gq76_n0 := GNq76_n0_ok
noncomputable def annq76 : Ann := (.seq .none (.seq (.seq .none (.block (.cut 1 [0,1,7,8] Gq76_n0))) .none))
theorem annq76_ok : AnnOk Tryz.prog 19 bq76 annq76 := ⟨(annOk_none _ _ _),⟨⟨(annOk_none _ _ _),Gq76_n0_ok⟩,(annOk_none _ _ _)⟩⟩
abbrev Aq76 := (List (Int × List UInt8)) × (Int) × (List UInt8)
abbrev Yq76 := (Int)
def fnq76 {β : Type} : Aq76 → (Yq76 → Option β) → Option β := fun (a0,o0_0,o0_1) exit => (bindO (loopD (stepDq76_n0 (a0,(↑(List.length a0) : Int),o0_0,o0_1)) FUEL ((0 : Int))) (Sum.elim (fun t4 => (exit (t4))) (fun _ => (exit ((-1 : Int))))))
def fnDq76 (a : Aq76) : Option Yq76 := fnq76 a some
theorem fnq76_nat (a : Aq76) (k : Yq76 → Ans) : fnq76 a k = bindO (fnDq76 a) k := by
  obtain ⟨a0,o0_0,o0_1⟩ := a
  simp only [fnDq76,fnq76,bindO_cond,bindO_assoc,bindO_none,bindO_pure,bindO_elim,bindO_unP,bindO_empty]
def argsq76 : Aq76 → List AV × List AE.Obj := fun (a0,o0_0,o0_1) => ([.ro (.st (.pair (.int .i64) .str)) a0,.fn (Fn.func 208) [] [.ptr 0 0]],[.cells [.int .i64 o0_0,.str o0_1]])
def decPAq76 (l : List AV) (H : List AE.Obj) : Option {a : Aq76 // (l,H) = argsq76 a} := match l,H with
  | [.ro (.st (.pair (.int .i64) .str)) a0,.fn (Fn.func 208) [] [.ptr 0 0]],[.cells [.int .i64 o0_0,.str o0_1]] => some ⟨(a0,o0_0,o0_1),rfl⟩
  | _,_ => none
def decAq76 (l : List AV) (H : List AE.Obj) : Option Aq76 := pk (decPAq76 l H)
theorem decAq76_ok (l : List AV) (H : List AE.Obj) (a : Aq76) (h : decAq76 l H = some a) : (l,H) = argsq76 a := pk_ok (o := decPAq76 l H) h
def outq76 : Aq76 → (AV → List AE.Obj → Ans) → Yq76 → Ans := fun (a0,o0_0,o0_1) K => fun r_y => K (.int .i64 r_y) [.cells [.int .i64 o0_0,.str o0_1]]
theorem fnq76_ok (a : Aq76) (K : AV → List AE.Obj → Ans) : fnE Tryz.tab envq76 noHint 0 70 237 Tryz.f237.ntmps Tryz.f237.results.toList annq76 bq76 (argsq76 a).1 (argsq76 a).2 K = fnq76 a (outq76 a K) := by kernel_rfl
def vFq76 (a : Aq76) (K : AV → List AE.Obj → Ans) : Ans := bindO (fnDq76 a) fun y => outq76 a K y
def Fq76 : List AV → List AE.Obj → (AV → List AE.Obj → Ans) → Ans := fun l H K => bindO (decAq76 l H) fun a => vFq76 a K
theorem Fq76_ok : FuncOk Tryz.prog 237 Fq76 := func_mkD (hint := noHint) (d := 0) (n := 70) mixed tabOk envq76Ok Tryz.func237 (bodySome (by kernel_rfl)) (by decide +kernel) annq76_ok decAq76_ok fnq76_ok fnq76_nat
--@ slices_ContainsFunc_api_Sector_api_Sector
noncomputable def envq74 : Env := [(237,.func Fq76)]
theorem envq74Ok : EnvOk Tryz.prog envq74 := EnvOk.cons Fq76_ok (EnvOk.nil)
noncomputable def bq74 : Code := Tryz.f207.body.getD .skip
noncomputable def annq74 : Ann := .none
theorem annq74_ok : AnnOk Tryz.prog 9 bq74 annq74 := (annOk_none _ _ _)
abbrev Aq74 := (List (Int × List UInt8)) × (Int) × (List UInt8)
abbrev Yq74 := (Bool)
def fnq74 {β : Type} : Aq74 → (Yq74 → Option β) → Option β := fun (a0,o0_0,o0_1) exit => (bindO (fnDq76 (a0,o0_0,o0_1)) fun r => (exit (decide (r ≥ (0 : Int)))))
def fnDq74 (a : Aq74) : Option Yq74 := fnq74 a some
theorem fnq74_nat (a : Aq74) (k : Yq74 → Ans) : fnq74 a k = bindO (fnDq74 a) k := by
  obtain ⟨a0,o0_0,o0_1⟩ := a
  simp only [fnDq74,fnq74,bindO_cond,bindO_assoc,bindO_none,bindO_pure,bindO_elim,bindO_unP,bindO_empty]
def argsq74 : Aq74 → List AV × List AE.Obj := fun (a0,o0_0,o0_1) => ([.ro (.st (.pair (.int .i64) .str)) a0,.fn (Fn.func 208) [] [.ptr 0 0]],[.cells [.int .i64 o0_0,.str o0_1]])
def decPAq74 (l : List AV) (H : List AE.Obj) : Option {a : Aq74 // (l,H) = argsq74 a} := match l,H with
  | [.ro (.st (.pair (.int .i64) .str)) a0,.fn (Fn.func 208) [] [.ptr 0 0]],[.cells [.int .i64 o0_0,.str o0_1]] => some ⟨(a0,o0_0,o0_1),rfl⟩
  | _,_ => none
def decAq74 (l : List AV) (H : List AE.Obj) : Option Aq74 := pk (decPAq74 l H)
theorem decAq74_ok (l : List AV) (H : List AE.Obj) (a : Aq74) (h : decAq74 l H = some a) : (l,H) = argsq74 a := pk_ok (o := decPAq74 l H) h
def outq74 : Aq74 → (AV → List AE.Obj → Ans) → Yq74 → Ans := fun (a0,o0_0,o0_1) K => fun r_y => K (.bool r_y) [.cells [.int .i64 o0_0,.str o0_1]]
theorem fnq74_ok (a : Aq74) (K : AV → List AE.Obj → Ans) : fnE Tryz.tab envq74 noHint 0 70 207 Tryz.f207.ntmps Tryz.f207.results.toList annq74 bq74 (argsq74 a).1 (argsq74 a).2 K = fnq74 a (outq74 a K) := by kernel_rfl
def vFq74 (a : Aq74) (K : AV → List AE.Obj → Ans) : Ans := bindO (fnDq74 a) fun y => outq74 a K y
def Fq74 : List AV → List AE.Obj → (AV → List AE.Obj → Ans) → Ans := fun l H K => bindO (decAq74 l H) fun a => vFq74 a K
theorem Fq74_ok : FuncOk Tryz.prog 207 Fq74 := func_mkD (hint := noHint) (d := 0) (n := 70) mixed tabOk envq74Ok Tryz.func207 (bodySome (by kernel_rfl)) (by decide +kernel) annq74_ok decAq74_ok fnq74_ok fnq74_nat
--@ logrec_Check
noncomputable def envq38 : Env := [(207,.func Fq74)]
theorem envq38Ok : EnvOk Tryz.prog envq38 := EnvOk.cons Fq74_ok (EnvOk.nil)
noncomputable def bq38 : Code := Tryz.f164.body.getD .skip
noncomputable def Lq38_n2 : Code := codeAt [1,1,0,1,0,0,1,1,0,0,1,0,0] bq38
noncomputable def annLq38_n2 : Ann := .none
theorem annLq38_n2_ok : AnnOk Tryz.prog 41 Lq38_n2 annLq38_n2 := (annOk_none _ _ _)
abbrev Iq38_n2 := (List (Int × List UInt8)) × (Int) × (List (Int × List UInt8)) × (Int) × (Int) × (Int) × (List UInt8)
abbrev Yq38_n2 := (Bool)
def Sq38_n2 : Iq38_n2 → St := fun (t0,t3,t13,t14,t15,o0_0,o0_1) => { env := [(0,.ro (.st (.pair (.int .i64) .str)) t0),(3,.int .i64 t3),(4,.ptr 0 0),(13,.ro (.st (.pair (.int .i64) .str)) t13),(14,.int .i64 t14),(15,.int .i64 t15)],stk := [[]],H := [.cells [.int .i64 o0_0,.str o0_1]],blk := 671747 }
def decPq38_n2 (s : St) : Option {x : Iq38_n2 // s = Sq38_n2 x} := match s with
  | { env := [(0,.ro (.st (.pair (.int .i64) .str)) t0),(3,.int .i64 t3),(4,.ptr 0 0),(13,.ro (.st (.pair (.int .i64) .str)) t13),(14,.int .i64 t14),(15,.int .i64 t15)],stk := [[]],H := [.cells [.int .i64 o0_0,.str o0_1]],blk := 671747 } => some ⟨(t0,t3,t13,t14,t15,o0_0,o0_1),rfl⟩
  | _ => none
def decq38_n2 (s : St) : Option Iq38_n2 := pk (decPq38_n2 s)
theorem decq38_n2_ok (s : St) (x : Iq38_n2) (h : decq38_n2 s = some x) : s = Sq38_n2 x := pk_ok (o := decPq38_n2 s) h
def outq38_n2 : Iq38_n2 → (Ex → St → Ans) → Yq38_n2 → Ans := fun (t0,t3,t13,t14,t15,o0_0,o0_1) K => fun t20_y => K (Ex.norm) { env := [(0,.ro (.st (.pair (.int .i64) .str)) t0),(3,.int .i64 t3),(4,.ptr 0 0),(13,.ro (.st (.pair (.int .i64) .str)) t13),(14,.int .i64 t14),(15,.int .i64 t15),(20,.bool t20_y)],stk := [[]],H := [.cells [.int .i64 o0_0,.str o0_1]],blk := 671747 }
def nodeq38_n2 {β : Type} : Iq38_n2 → (Yq38_n2 → Option β) → Option β := fun (t0,t3,t13,t14,t15,o0_0,o0_1) exit => (bif decide (o0_0 < (0 : Int)) then (exit (true)) else (exit (decide (o0_0 ≥ (1000 : Int)))))
def nodeDq38_n2 (i : Iq38_n2) : Option Yq38_n2 := nodeq38_n2 i some
theorem nodeq38_n2_nat (i : Iq38_n2) (k : Yq38_n2 → Ans) : nodeq38_n2 i k = bindO (nodeDq38_n2 i) k := by
  obtain ⟨t0,t3,t13,t14,t15,o0_0,o0_1⟩ := i
  simp only [nodeDq38_n2,nodeq38_n2,bindO_cond,bindO_assoc,bindO_none,bindO_pure,bindO_elim,bindO_unP,bindO_empty]
theorem nodeq38_n2_ok (i : Iq38_n2) (K : Ex → St → Ans) : codeI Tryz.tab envq38 noHint (codeD Tryz.tab envq38 noHint 0 64) 70 41 annLq38_n2 Lq38_n2 (weakP 0 (exk [0,3,4,13,14,15,20] [2] []) K) (Sq38_n2 i) = nodeq38_n2 i (outq38_n2 i K) := by kernel_rfl
theorem GNq38_n2_ok : CSum Tryz.prog 41 Lq38_n2 (sumN decq38_n2 nodeDq38_n2 outq38_n2) := csum_node mixed tabOk envq38Ok 0 (exk [0,3,4,13,14,15,20] [2] []) annLq38_n2_ok decq38_n2_ok nodeq38_n2_ok nodeq38_n2_nat
noncomputable def Gq38_n2 : (Ex → St → Ans) → St → Ans := (sumN decq38_n2 nodeDq38_n2 outq38_n2)
theorem Gq38_n2_ok : CSum Tryz.prog 41 Lq38_n2 Gq38_n2 := GNq38_n2_ok
noncomputable def Lq38_n1 : Code := codeAt [1,1,0,1,0,0,1,1,0] bq38
noncomputable def annLq38_n1 : Ann := (.block (.seq .none (.block (.seq (.cut 0 [0,3,4,13,14,15] Gq38_n2) .none))))
theorem annLq38_n1_ok : AnnOk Tryz.prog 41 Lq38_n1 annLq38_n1 := ⟨(annOk_none _ _ _),⟨Gq38_n2_ok,(annOk_none _ _ _)⟩⟩
abbrev Iq38_n1 := (List (Int × List UInt8)) × (List (Int × List UInt8)) × (Int) × (Int)
abbrev Yq38_n1 := ((Int)) ⊕ (Unit)
def Sq38_n1 : Iq38_n1 → St := fun (t0,t13,t14,t15) => { env := [(0,.ro (.st (.pair (.int .i64) .str)) t0),(13,.ro (.st (.pair (.int .i64) .str)) t13),(14,.int .i64 t14),(15,.int .i64 t15)],stk := [[]],H := [],blk := 671745 }
def decPq38_n1 (s : St) : Option {x : Iq38_n1 // s = Sq38_n1 x} := match s with
  | { env := [(0,.ro (.st (.pair (.int .i64) .str)) t0),(13,.ro (.st (.pair (.int .i64) .str)) t13),(14,.int .i64 t14),(15,.int .i64 t15)],stk := [[]],H := [],blk := 671745 } => some ⟨(t0,t13,t14,t15),rfl⟩
  | _ => none
def decq38_n1 (s : St) : Option Iq38_n1 := pk (decPq38_n1 s)
theorem decq38_n1_ok (s : St) (x : Iq38_n1) (h : decq38_n1 s = some x) : s = Sq38_n1 x := pk_ok (o := decPq38_n1 s) h
def outq38_n1 : Iq38_n1 → (Ex → St → Ans) → Yq38_n1 → Ans := fun (t0,t13,t14,t15) K => (Sum.elim (fun t2_y => K (Ex.ret) { env := [(2,.int .i64 t2_y)],stk := [[]],H := [],blk := 671747 }) (fun _ => K (Ex.norm) { env := [(0,.ro (.st (.pair (.int .i64) .str)) t0),(13,.ro (.st (.pair (.int .i64) .str)) t13),(14,.int .i64 t14),(15,.int .i64 t15)],stk := [[]],H := [],blk := 671747 }))
def nodeq38_n1 {β : Type} : Iq38_n1 → (Yq38_n1 → Option β) → Option β := fun (t0,t13,t14,t15) exit => (bindO (nth t13 t15) fun x => (bindO (nodeDq38_n2 (t0,t15,t13,t14,t15,x.fst,x.snd)) fun t20 => (bif t20 then (exit (Sum.inl ((3 : Int)))) else (bif (↑(List.length x.snd) : Int) != (64 : Int) then (exit (Sum.inl ((12 : Int)))) else (bif inR t15 (List.length t0 + (1 : Nat)) then (bindO (fnDq74 (List.take (Int.toNat t15) t0,x.fst,x.snd)) fun r => (bif r then (exit (Sum.inl ((9 : Int)))) else (exit (Sum.inr ())))) else none)))))
def nodeDq38_n1 (i : Iq38_n1) : Option Yq38_n1 := nodeq38_n1 i some
theorem nodeq38_n1_nat (i : Iq38_n1) (k : Yq38_n1 → Ans) : nodeq38_n1 i k = bindO (nodeDq38_n1 i) k := by
  obtain ⟨t0,t13,t14,t15⟩ := i
  simp only [nodeDq38_n1,nodeq38_n1,bindO_cond,bindO_assoc,bindO_none,bindO_pure,bindO_elim,bindO_unP,bindO_empty]
theorem nodeq38_n1_ok (i : Iq38_n1) (K : Ex → St → Ans) : codeI Tryz.tab envq38 noHint (codeD Tryz.tab envq38 noHint 0 64) 70 41 annLq38_n1 Lq38_n1 (weakP 0 (exk [0,13,14,15] [2] []) K) (Sq38_n1 i) = nodeq38_n1 i (outq38_n1 i K) := by kernel_rfl
theorem GNq38_n1_ok : CSum Tryz.prog 41 Lq38_n1 (sumN decq38_n1 nodeDq38_n1 outq38_n1) := csum_node mixed tabOk envq38Ok 0 (exk [0,13,14,15] [2] []) annLq38_n1_ok decq38_n1_ok nodeq38_n1_ok nodeq38_n1_nat
noncomputable def Gq38_n1 : (Ex → St → Ans) → St → Ans := (sumN decq38_n1 nodeDq38_n1 outq38_n1)
theorem Gq38_n1_ok : CSum Tryz.prog 41 Lq38_n1 Gq38_n1 := GNq38_n1_ok
noncomputable def Lq38_n0 : Code := codeAt [1,1,0,1,0,0] bq38
noncomputable def annLq38_n0 : Ann := .at 0 [0,13,14,15] (.loop (.seq .none (.seq .none (.seq (.cut 0 [0,13,14,15] Gq38_n1) .none))))
theorem annLq38_n0_ok : AnnOk Tryz.prog 41 (.loop Lq38_n0) annLq38_n0 := annOk_at ⟨(annOk_none _ _ _),⟨(annOk_none _ _ _),⟨Gq38_n1_ok,(annOk_none _ _ _)⟩⟩⟩
abbrev Iq38_n0 := (List (Int × List UInt8)) × (List (Int × List UInt8)) × (Int)
abbrev Yq38_n0 := ((Int)) ⊕ (Unit)
abbrev Vq38_n0 := (Int)
def Sq38_n0 : Iq38_n0 → Vq38_n0 → St := fun (t0,t13,t14) t15 => { env := [(0,.ro (.st (.pair (.int .i64) .str)) t0),(13,.ro (.st (.pair (.int .i64) .str)) t13),(14,.int .i64 t14),(15,.int .i64 t15)],stk := [[]],H := [],blk := 671745 }
def decPq38_n0 (s : St) : Option {x : Iq38_n0 × Vq38_n0 // s = Sq38_n0 x.1 x.2} := match s with
  | { env := [(0,.ro (.st (.pair (.int .i64) .str)) t0),(13,.ro (.st (.pair (.int .i64) .str)) t13),(14,.int .i64 t14),(15,.int .i64 t15)],stk := [[]],H := [],blk := 671745 } => some ⟨((t0,t13,t14),t15),rfl⟩
  | _ => none
def decq38_n0 (s : St) : Option (Iq38_n0 × Vq38_n0) := pk (decPq38_n0 s)
theorem decq38_n0_ok (s : St) (x : Iq38_n0 × Vq38_n0) (h : decq38_n0 s = some x) : s = Sq38_n0 x.1 x.2 := pk_ok (o := decPq38_n0 s) h
def outq38_n0 : Iq38_n0 → (Ex → St → Ans) → Yq38_n0 → Ans := fun (t0,t13,t14) K => (Sum.elim (fun t2_y => K (Ex.ret) { env := [(2,.int .i64 t2_y)],stk := [[]],H := [],blk := 671747 }) (fun _ => K (Ex.exit 1) { env := [],stk := [[]],H := [],blk := 671745 }))
def stepq38_n0 {β : Type} : Iq38_n0 → Vq38_n0 → (Vq38_n0 → Option β) → (Yq38_n0 → Option β) → Option β := fun (t0,t13,t14) t15 next exit => (bif decide (t15 < t14) then (bindO (nodeDq38_n1 (t0,t13,t14,t15)) (Sum.elim (fun t2 => (exit (Sum.inl (t2)))) (fun _ => (next (IntKind.wrap .i64 (t15 + (1 : Int))))))) else (exit (Sum.inr ())))
def stepDq38_n0 (i : Iq38_n0) (v : Vq38_n0) : Option (Vq38_n0 ⊕ Yq38_n0) := stepq38_n0 i v (fun v => some (.inl v)) (fun y => some (.inr y))
theorem stepq38_n0_nat (i : Iq38_n0) (v : Vq38_n0) (next : Vq38_n0 → Ans) (exit : Yq38_n0 → Ans) : stepq38_n0 i v next exit = bindO (stepDq38_n0 i v) (Sum.elim next exit) := by
  obtain ⟨t0,t13,t14⟩ := i
  obtain z := v
  simp only [stepDq38_n0,stepq38_n0,bindO_cond,bindO_assoc,bindO_none,bindO_pure,bindO_elim,bindO_unP,bindO_empty,Sum.elim_inl,Sum.elim_inr]
theorem stepq38_n0_ok (n : Nat) (i : Iq38_n0) (v : Vq38_n0) (K : Ex → St → Ans) : codeI Tryz.tab envq38 noHint (codeD Tryz.tab envq38 noHint 0 64) (n+1) 41 annLq38_n0 (.loop Lq38_n0) (weakP 0 (exk [] [2] [(1,[])]) K) (Sq38_n0 i v) = stepq38_n0 i v (fun v' => codeI Tryz.tab envq38 noHint (codeD Tryz.tab envq38 noHint 0 64) n 41 annLq38_n0 (.loop Lq38_n0) (weakP 0 (exk [] [2] [(1,[])]) K) (Sq38_n0 i v')) (fun y => outq38_n0 i K y) := by kernel_rfl
theorem GNq38_n0_ok : CSum Tryz.prog 41 (.loop Lq38_n0) (sumL decq38_n0 stepDq38_n0 outq38_n0) := csum_loop mixed tabOk envq38Ok 0 (exk [] [2] [(1,[])]) annLq38_n0_ok decq38_n0_ok stepq38_n0_ok stepq38_n0_nat
noncomputable def Gq38_n0 : (Ex → St → Ans) → St → Ans := (sumL decq38_n0 stepDq38_n0 outq38_n0)
theorem Gq38_n0_ok : CSum Tryz.prog 41 (.loop Lq38_n0) Gq38_n0 := GNq38_n0_ok
noncomputable def annq38 : Ann := (.seq .none (.seq .none (.seq (.seq .none (.block (.cut 0 [0,13,14,15] Gq38_n0))) .none)))
theorem annq38_ok : AnnOk Tryz.prog 41 bq38 annq38 := ⟨(annOk_none _ _ _),⟨(annOk_none _ _ _),⟨⟨(annOk_none _ _ _),Gq38_n0_ok⟩,(annOk_none _ _ _)⟩⟩⟩
abbrev Aq38 := (List (Int × List UInt8))
abbrev Yq38 := (Int)
def fnq38 {β : Type} : Aq38 → (Yq38 → Option β) → Option β := fun a0 exit => (bif (↑(List.length a0) : Int) == (0 : Int) then (exit ((8 : Int))) else (bif decide ((↑(List.length a0) : Int) > (16 : Int)) then (exit ((6 : Int))) else (bindO (loopD (stepDq38_n0 (a0,a0,(↑(List.length a0) : Int))) FUEL ((0 : Int))) (Sum.elim (fun t2 => (exit (t2))) (fun _ => (exit ((0 : Int))))))))
def fnDq38 (a : Aq38) : Option Yq38 := fnq38 a some
theorem fnq38_nat (a : Aq38) (k : Yq38 → Ans) : fnq38 a k = bindO (fnDq38 a) k := by
  obtain z := a
  simp only [fnDq38,fnq38,bindO_cond,bindO_assoc,bindO_none,bindO_pure,bindO_elim,bindO_unP,bindO_empty]
def argsq38 : Aq38 → List AV := fun a0 => [.ro (.st (.pair (.int .i64) .str)) a0]
def decPAq38 (l : List AV) : Option {a : Aq38 // l = argsq38 a} := match l with
  | [.ro (.st (.pair (.int .i64) .str)) a0] => some ⟨(a0),rfl⟩
  | _ => none
def decAq38 (l : List AV) : Option Aq38 := pk (decPAq38 l)
theorem decAq38_ok (l : List AV) (a : Aq38) (h : decAq38 l = some a) : l = argsq38 a := pk_ok (o := decPAq38 l) h
def rendq38 : Aq38 → Yq38 → AV := fun a0 => fun r_y => .int .i64 r_y
theorem rendq38_ok : ∀ (a : Aq38) (y : Yq38),(rendq38 a y).closed1 = true := by
  rintro z y <;> first | rfl | exact Empty.elim y
theorem fnq38_ok (a : Aq38) : fnE Tryz.tab envq38 noHint 0 70 164 Tryz.f164.ntmps Tryz.f164.results.toList annq38 bq38 (argsq38 a) [] (fun v _ => some (v,[])) = fnq38 a (fun y => some (rendq38 a y,[])) := by kernel_rfl
def vFq38 (a : Aq38) (K : AV → Ans) : Ans := bindO (fnDq38 a) fun y => K (rendq38 a y)
def Fq38 : List AV → (AV → Ans) → Ans := fun l K => bindO (decAq38 l) fun a => vFq38 a K
theorem Fq38_ok : PureOk Tryz.prog 164 Fq38 := pure_mkD (hint := noHint) (d := 0) (n := 70) mixed tabOk envq38Ok Tryz.func164 (bodySome (by kernel_rfl)) (by decide +kernel) annq38_ok decAq38_ok fnq38_ok fnq38_nat rendq38_ok
--@ logrec_Put
noncomputable def envq41 : Env := [(119,.func (altF decABuilder_String vFBuilder_String FBuilder_StringAgain)),(121,.pure Fq20),(122,.pure Fq56),(118,.func Fq79),(165,.pure Fq43),(164,.pure Fq38)]
theorem envq41Ok : EnvOk Tryz.prog envq41 := EnvOk.cons (func_altF FBuilder_String_ok FBuilder_StringAgain_ok) (EnvOk.cons Fq20_ok (EnvOk.cons Fq56_ok (EnvOk.cons Fq79_ok (EnvOk.cons Fq43_ok (EnvOk.cons Fq38_ok (EnvOk.nil))))))
noncomputable def bq41 : Code := Tryz.f102.body.getD .skip
noncomputable def Lq41_n1 : Code := codeAt [1,1,1,1,1,0,1,0,0] bq41
noncomputable def annLq41_n1 : Ann := .at 0 [7,8,27,28,29] (.loop .none)
theorem annLq41_n1_ok : AnnOk Tryz.prog 49 (.loop Lq41_n1) annLq41_n1 := annOk_at (annOk_none _ _ _)
abbrev Iq41_n1 := (List (Int × List UInt8)) × (Int)
abbrev Yq41_n1 := (List UInt8) × (List Int)
abbrev Vq41_n1 := (List UInt8) × (Int) × (List Int)
def Sq41_n1 : Iq41_n1 → Vq41_n1 → St := fun (t27,t28) (t7,t29,o1) => { env := [(7,.str t7),(8,.ptr 0 0),(27,.ro (.st (.pair (.int .i64) .str)) t27),(28,.int .i64 t28),(29,.int .i64 t29)],stk := [[]],H := [.bcells [.own 1],.arr (.int .u8) o1],blk := 417792 }
def decPq41_n1 (s : St) : Option {x : Iq41_n1 × Vq41_n1 // s = Sq41_n1 x.1 x.2} := match s with
  | { env := [(7,.str t7),(8,.ptr 0 0),(27,.ro (.st (.pair (.int .i64) .str)) t27),(28,.int .i64 t28),(29,.int .i64 t29)],stk := [[]],H := [.bcells [.own 1],.arr (.int .u8) o1],blk := 417792 } => some ⟨((t27,t28),(t7,t29,o1)),rfl⟩
  | _ => none
def decq41_n1 (s : St) : Option (Iq41_n1 × Vq41_n1) := pk (decPq41_n1 s)
theorem decq41_n1_ok (s : St) (x : Iq41_n1 × Vq41_n1) (h : decq41_n1 s = some x) : s = Sq41_n1 x.1 x.2 := pk_ok (o := decPq41_n1 s) h
def outq41_n1 : Iq41_n1 → (Ex → St → Ans) → Yq41_n1 → Ans := fun (t27,t28) K => unP fun t7_y o1_y => K (Ex.exit 0) { env := [(7,.str t7_y),(8,.ptr 0 0)],stk := [[]],H := [.bcells [.own 1],.arr (.int .u8) o1_y],blk := 417792 }
def stepq41_n1 {β : Type} : Iq41_n1 → Vq41_n1 → (Vq41_n1 → Option β) → (Yq41_n1 → Option β) → Option β := fun (t27,t28) (t7,t29,o1) next exit => (bif decide (t29 < t28) then (bindO (nth t27 t29) fun x => (bindO (fnDq20 (t7,x.fst,(2 : Int))) fun r => (bindO (fnDq79 (x.snd,o1)) (unP fun r_0 o1_2 => (next (r,IntKind.wrap .i64 (t29 + (1 : Int)),o1_2)))))) else (exit (t7,o1)))
def stepDq41_n1 (i : Iq41_n1) (v : Vq41_n1) : Option (Vq41_n1 ⊕ Yq41_n1) := stepq41_n1 i v (fun v => some (.inl v)) (fun y => some (.inr y))
theorem stepq41_n1_nat (i : Iq41_n1) (v : Vq41_n1) (next : Vq41_n1 → Ans) (exit : Yq41_n1 → Ans) : stepq41_n1 i v next exit = bindO (stepDq41_n1 i v) (Sum.elim next exit) := by
  obtain ⟨t27,t28⟩ := i
  obtain ⟨t7,t29,o1⟩ := v
  simp only [stepDq41_n1,stepq41_n1,bindO_cond,bindO_assoc,bindO_none,bindO_pure,bindO_elim,bindO_unP,bindO_empty,Sum.elim_inl,Sum.elim_inr]
theorem stepq41_n1_ok (n : Nat) (i : Iq41_n1) (v : Vq41_n1) (K : Ex → St → Ans) : codeI Tryz.tab envq41 noHint (codeD Tryz.tab envq41 noHint 0 64) (n+1) 49 annLq41_n1 (.loop Lq41_n1) (weakP 0 (exk [7,8] [4,5] [(0,[7,8])]) K) (Sq41_n1 i v) = stepq41_n1 i v (fun v' => codeI Tryz.tab envq41 noHint (codeD Tryz.tab envq41 noHint 0 64) n 49 annLq41_n1 (.loop Lq41_n1) (weakP 0 (exk [7,8] [4,5] [(0,[7,8])]) K) (Sq41_n1 i v')) (fun y => outq41_n1 i K y) := by kernel_rfl
theorem GNq41_n1_ok : CSum Tryz.prog 49 (.loop Lq41_n1) (sumL decq41_n1 stepDq41_n1 outq41_n1) := csum_loop mixed tabOk envq41Ok 0 (exk [7,8] [4,5] [(0,[7,8])]) annLq41_n1_ok decq41_n1_ok stepq41_n1_ok stepq41_n1_nat
noncomputable def Gq41_n1 : (Ex → St → Ans) → St → Ans := (sumL decq41_n1 stepDq41_n1 outq41_n1)
theorem Gq41_n1_ok : CSum Tryz.prog 49 (.loop Lq41_n1) Gq41_n1 := GNq41_n1_ok
noncomputable def Lq41_n0 : Code := codeAt [1,0,0] bq41
noncomputable def annLq41_n0 : Ann := .none
theorem annLq41_n0_ok : AnnOk Tryz.prog 49 Lq41_n0 annLq41_n0 := (annOk_none _ _ _)
abbrev Iq41_n0 := (Int) × (List (Int × List UInt8))
abbrev Yq41_n0 := (Bool)
def Sq41_n0 : Iq41_n0 → St := fun (t0,t1) => { env := [(0,.int .i64 t0),(1,.ro (.st (.pair (.int .i64) .str)) t1)],stk := [[]],H := [],blk := 417792 }
def decPq41_n0 (s : St) : Option {x : Iq41_n0 // s = Sq41_n0 x} := match s with
  | { env := [(0,.int .i64 t0),(1,.ro (.st (.pair (.int .i64) .str)) t1)],stk := [[]],H := [],blk := 417792 } => some ⟨(t0,t1),rfl⟩
  | _ => none
def decq41_n0 (s : St) : Option Iq41_n0 := pk (decPq41_n0 s)
theorem decq41_n0_ok (s : St) (x : Iq41_n0) (h : decq41_n0 s = some x) : s = Sq41_n0 x := pk_ok (o := decPq41_n0 s) h
def outq41_n0 : Iq41_n0 → (Ex → St → Ans) → Yq41_n0 → Ans := fun (t0,t1) K => fun t16_y => K (Ex.norm) { env := [(0,.int .i64 t0),(1,.ro (.st (.pair (.int .i64) .str)) t1),(16,.bool t16_y)],stk := [[]],H := [],blk := 417792 }
def nodeq41_n0 {β : Type} : Iq41_n0 → (Yq41_n0 → Option β) → Option β := fun (t0,t1) exit => (bif decide (t0 < (0 : Int)) then (exit (true)) else (exit (decide (t0 ≥ (281474976710656 : Int)))))
def nodeDq41_n0 (i : Iq41_n0) : Option Yq41_n0 := nodeq41_n0 i some
theorem nodeq41_n0_nat (i : Iq41_n0) (k : Yq41_n0 → Ans) : nodeq41_n0 i k = bindO (nodeDq41_n0 i) k := by
  obtain ⟨t0,t1⟩ := i
  simp only [nodeDq41_n0,nodeq41_n0,bindO_cond,bindO_assoc,bindO_none,bindO_pure,bindO_elim,bindO_unP,bindO_empty]
theorem nodeq41_n0_ok (i : Iq41_n0) (K : Ex → St → Ans) : codeI Tryz.tab envq41 noHint (codeD Tryz.tab envq41 noHint 0 64) 70 49 annLq41_n0 Lq41_n0 (weakP 0 (exk [0,1,16] [4,5] []) K) (Sq41_n0 i) = nodeq41_n0 i (outq41_n0 i K) := by kernel_rfl
theorem GNq41_n0_ok : CSum Tryz.prog 49 Lq41_n0 (sumN decq41_n0 nodeDq41_n0 outq41_n0) := csum_node mixed tabOk envq41Ok 0 (exk [0,1,16] [4,5] []) annLq41_n0_ok decq41_n0_ok nodeq41_n0_ok nodeq41_n0_nat
noncomputable def Gq41_n0 : (Ex → St → Ans) → St → Ans := (sumN decq41_n0 nodeDq41_n0 outq41_n0)
theorem Gq41_n0_ok : CSum Tryz.prog 49 Lq41_n0 Gq41_n0 := GNq41_n0_ok
noncomputable def annq41 : Ann := (.seq .none (.seq (.seq (.cut 0 [0,1] Gq41_n0) .none) (.seq .none (.seq .none (.seq .none (.seq (.seq .none (.block (.cut 0 [7,8,27,28,29] Gq41_n1))) .none))))))
theorem annq41_ok : AnnOk Tryz.prog 49 bq41 annq41 := ⟨(annOk_none _ _ _),⟨⟨Gq41_n0_ok,(annOk_none _ _ _)⟩,⟨(annOk_none _ _ _),⟨(annOk_none _ _ _),⟨(annOk_none _ _ _),⟨⟨(annOk_none _ _ _),Gq41_n1_ok⟩,(annOk_none _ _ _)⟩⟩⟩⟩⟩⟩
abbrev Aq41 := (Int) × (List (Int × List UInt8))
abbrev Yq41 := (List UInt8) × (Int)
def fnq41 {β : Type} : Aq41 → (Yq41 → Option β) → Option β := fun (a0,a1) exit => (bindO (nodeDq41_n0 (a0,a1)) fun t16 => (bif t16 then (exit ([],(3 : Int))) else (bindO (fnDq38 (a1)) fun r => (bif r != (0 : Int) then (exit ([],r)) else (bindO (fnDq20 ([(82 : UInt8)],a0,(6 : Int))) fun r_2 => (bindO (fnDq20 (r_2,(↑(List.length a1) : Int),(1 : Int))) fun r_3 => (bindO (loopD (stepDq41_n1 (a1,(↑(List.length a1) : Int))) FUEL (r_3,(0 : Int),[])) (unP fun t7 o1 => (bindO (fnDBuilder_String (o1)) (unP fun r_4 o0 => (bindO (fnDq43 (t7,r_4)) fun r_5 => (bif Nat.ble (List.length t7 + List.length r_5) (9223372036854775807 : Nat) then (bindO (fnDq56 (t7 ++ r_5)) fun r_6 => (bindO (fnDBuilder_StringAgain (o0)) (unP fun r_7 o0_2 => (bif Nat.ble (List.length r_6 + List.length r_7) (9223372036854775807 : Nat) then (exit (r_6 ++ r_7,(0 : Int))) else none)))) else none))))))))))))
def fnDq41 (a : Aq41) : Option Yq41 := fnq41 a some
theorem fnq41_nat (a : Aq41) (k : Yq41 → Ans) : fnq41 a k = bindO (fnDq41 a) k := by
  obtain ⟨a0,a1⟩ := a
  simp only [fnDq41,fnq41,bindO_cond,bindO_assoc,bindO_none,bindO_pure,bindO_elim,bindO_unP,bindO_empty]
def argsq41 : Aq41 → List AV := fun (a0,a1) => [.int .i64 a0,.ro (.st (.pair (.int .i64) .str)) a1]
def decPAq41 (l : List AV) : Option {a : Aq41 // l = argsq41 a} := match l with
  | [.int .i64 a0,.ro (.st (.pair (.int .i64) .str)) a1] => some ⟨(a0,a1),rfl⟩
  | _ => none
def decAq41 (l : List AV) : Option Aq41 := pk (decPAq41 l)
theorem decAq41_ok (l : List AV) (a : Aq41) (h : decAq41 l = some a) : l = argsq41 a := pk_ok (o := decPAq41 l) h
def rendq41 : Aq41 → Yq41 → AV := fun (a0,a1) => unP fun r_0_y r_1_y => .tup [.str r_0_y,.int .i64 r_1_y]
theorem rendq41_ok : ∀ (a : Aq41) (y : Yq41),(rendq41 a y).closed1 = true := by
  rintro ⟨a0,a1⟩ y <;> first | rfl | exact Empty.elim y
theorem fnq41_ok (a : Aq41) : fnE Tryz.tab envq41 noHint 0 70 102 Tryz.f102.ntmps Tryz.f102.results.toList annq41 bq41 (argsq41 a) [] (fun v _ => some (v,[])) = fnq41 a (fun y => some (rendq41 a y,[])) := by kernel_rfl
def vFq41 (a : Aq41) (K : AV → Ans) : Ans := bindO (fnDq41 a) fun y => K (rendq41 a y)
def Fq41 : List AV → (AV → Ans) → Ans := fun l K => bindO (decAq41 l) fun a => vFq41 a K
theorem Fq41_ok : PureOk Tryz.prog 102 Fq41 := pure_mkD (hint := noHint) (d := 0) (n := 70) mixed tabOk envq41Ok Tryz.func102 (bodySome (by kernel_rfl)) (by decide +kernel) annq41_ok decAq41_ok fnq41_ok fnq41_nat rendq41_ok
--@ logrec_Get
noncomputable def envq40 : Env := [(129,.func Fq19),(130,.func Fq21),(131,.func Fq22),(165,.pure Fq43),(102,.pure Fq41)]
theorem envq40Ok : EnvOk Tryz.prog envq40 := EnvOk.cons Fq19_ok (EnvOk.cons Fq21_ok (EnvOk.cons Fq22_ok (EnvOk.cons Fq43_ok (EnvOk.cons Fq41_ok (EnvOk.nil)))))
noncomputable def bq40 : Code := Tryz.f261.body.getD .skip
noncomputable def Lq40_n4 : Code := codeAt [1,1,1,1,1,1,1,1,1,1,1,0,1,0] bq40
noncomputable def annLq40_n4 : Ann := .none
theorem annLq40_n4_ok : AnnOk Tryz.prog 106 Lq40_n4 annLq40_n4 := (annOk_none _ _ _)
abbrev Iq40_n4 := (List UInt8) × (Int) × (List UInt8) × (Int) × (List (Int × List UInt8))
abbrev Yq40_n4 := (Bool)
def Sq40_n4 : Iq40_n4 → St := fun (t0,t8,t14,t15,o0) => { env := [(0,.str t0),(8,.int .i64 t8),(10,.own 0),(14,.str t14),(15,.int .i64 t15)],stk := [[]],H := [.arr (.st (.pair (.int .i64) .str)) o0],blk := 1069058 }
def decPq40_n4 (s : St) : Option {x : Iq40_n4 // s = Sq40_n4 x} := match s with
  | { env := [(0,.str t0),(8,.int .i64 t8),(10,.own 0),(14,.str t14),(15,.int .i64 t15)],stk := [[]],H := [.arr (.st (.pair (.int .i64) .str)) o0],blk := 1069058 } => some ⟨(t0,t8,t14,t15,o0),rfl⟩
  | _ => none
def decq40_n4 (s : St) : Option Iq40_n4 := pk (decPq40_n4 s)
theorem decq40_n4_ok (s : St) (x : Iq40_n4) (h : decq40_n4 s = some x) : s = Sq40_n4 x := pk_ok (o := decPq40_n4 s) h
def outq40_n4 : Iq40_n4 → (Ex → St → Ans) → Yq40_n4 → Ans := fun (t0,t8,t14,t15,o0) K => fun t103_y => K (Ex.norm) { env := [(8,.int .i64 t8),(10,.own 0),(103,.bool t103_y)],stk := [[]],H := [.arr (.st (.pair (.int .i64) .str)) o0],blk := 1069058 }
def nodeq40_n4 {β : Type} : Iq40_n4 → (Yq40_n4 → Option β) → Option β := fun (t0,t8,t14,t15,o0) exit => (bif t15 != (0 : Int) then (exit (true)) else (exit (!t14 == t0)))
def nodeDq40_n4 (i : Iq40_n4) : Option Yq40_n4 := nodeq40_n4 i some
theorem nodeq40_n4_nat (i : Iq40_n4) (k : Yq40_n4 → Ans) : nodeq40_n4 i k = bindO (nodeDq40_n4 i) k := by
  obtain ⟨t0,t8,t14,t15,o0⟩ := i
  simp only [nodeDq40_n4,nodeq40_n4,bindO_cond,bindO_assoc,bindO_none,bindO_pure,bindO_elim,bindO_unP,bindO_empty]
theorem nodeq40_n4_ok (i : Iq40_n4) (K : Ex → St → Ans) : codeI Tryz.tab envq40 noHint (codeD Tryz.tab envq40 noHint 0 64) 70 106 annLq40_n4 Lq40_n4 (weakP 0 (exk [8,10,103] [2,3,4] []) K) (Sq40_n4 i) = nodeq40_n4 i (outq40_n4 i K) := by kernel_rfl
theorem GNq40_n4_ok : CSum Tryz.prog 106 Lq40_n4 (sumN decq40_n4 nodeDq40_n4 outq40_n4) := csum_node mixed tabOk envq40Ok 0 (exk [8,10,103] [2,3,4] []) annLq40_n4_ok decq40_n4_ok nodeq40_n4_ok nodeq40_n4_nat
noncomputable def Gq40_n4 : (Ex → St → Ans) → St → Ans := (sumN decq40_n4 nodeDq40_n4 outq40_n4)
theorem Gq40_n4_ok : CSum Tryz.prog 106 Lq40_n4 Gq40_n4 := GNq40_n4_ok
noncomputable def Lq40_n3 : Code := codeAt [1,1,1,1,1,1,1,1,1,1,0,1,0,0] bq40
noncomputable def annLq40_n3 : Ann := .at 0 [0,8,10,11,77,78] (.loop .none)
theorem annLq40_n3_ok : AnnOk Tryz.prog 106 (.loop Lq40_n3) annLq40_n3 := annOk_at (annOk_none _ _ _)
abbrev Iq40_n3 := (List UInt8) × (Int) × (List UInt8) × (Int)
abbrev Yq40_n3 := (List (Int × List UInt8))
abbrev Vq40_n3 := (Int) × (List (Int × List UInt8))
def Sq40_n3 : Iq40_n3 → Vq40_n3 → St := fun (t0,t8,t11,t77) (t78,o0) => { env := [(0,.str t0),(8,.int .i64 t8),(10,.own 0),(11,.str t11),(77,.int .i64 t77),(78,.int .i64 t78)],stk := [[]],H := [.arr (.st (.pair (.int .i64) .str)) o0],blk := 1069058 }
def decPq40_n3 (s : St) : Option {x : Iq40_n3 × Vq40_n3 // s = Sq40_n3 x.1 x.2} := match s with
  | { env := [(0,.str t0),(8,.int .i64 t8),(10,.own 0),(11,.str t11),(77,.int .i64 t77),(78,.int .i64 t78)],stk := [[]],H := [.arr (.st (.pair (.int .i64) .str)) o0],blk := 1069058 } => some ⟨((t0,t8,t11,t77),(t78,o0)),rfl⟩
  | _ => none
def decq40_n3 (s : St) : Option (Iq40_n3 × Vq40_n3) := pk (decPq40_n3 s)
theorem decq40_n3_ok (s : St) (x : Iq40_n3 × Vq40_n3) (h : decq40_n3 s = some x) : s = Sq40_n3 x.1 x.2 := pk_ok (o := decPq40_n3 s) h
def outq40_n3 : Iq40_n3 → (Ex → St → Ans) → Yq40_n3 → Ans := fun (t0,t8,t11,t77) K => fun o0_y => K (Ex.exit 2) { env := [(0,.str t0),(8,.int .i64 t8),(10,.own 0)],stk := [[]],H := [.arr (.st (.pair (.int .i64) .str)) o0_y],blk := 1069058 }
def stepq40_n3 {β : Type} : Iq40_n3 → Vq40_n3 → (Vq40_n3 → Option β) → (Yq40_n3 → Option β) → Option β := fun (t0,t8,t11,t77) (t78,o0) next exit => (bif decide (t78 < t77) then (bif inR (IntKind.wrap .i64 (t78 * (64 : Int))) (List.length t11 + (1 : Nat)) then (bif inR (64 : Int) (List.length (List.drop (Int.toNat (IntKind.wrap .i64 (t78 * (64 : Int)))) t11) + (1 : Nat)) then (bif inR t78 (List.length o0) then (bindO (o0[Int.toNat t78]?) fun x => (next (IntKind.wrap .i64 (t78 + (1 : Int)),List.set o0 (Int.toNat t78) (x.fst,List.take (64 : Nat) (List.drop (Int.toNat (IntKind.wrap .i64 (t78 * (64 : Int)))) t11))))) else none) else none) else none) else (exit (o0)))
def stepDq40_n3 (i : Iq40_n3) (v : Vq40_n3) : Option (Vq40_n3 ⊕ Yq40_n3) := stepq40_n3 i v (fun v => some (.inl v)) (fun y => some (.inr y))
theorem stepq40_n3_nat (i : Iq40_n3) (v : Vq40_n3) (next : Vq40_n3 → Ans) (exit : Yq40_n3 → Ans) : stepq40_n3 i v next exit = bindO (stepDq40_n3 i v) (Sum.elim next exit) := by
  obtain ⟨t0,t8,t11,t77⟩ := i
  obtain ⟨t78,o0⟩ := v
  simp only [stepDq40_n3,stepq40_n3,bindO_cond,bindO_assoc,bindO_none,bindO_pure,bindO_elim,bindO_unP,bindO_empty,Sum.elim_inl,Sum.elim_inr]
theorem stepq40_n3_ok (n : Nat) (i : Iq40_n3) (v : Vq40_n3) (K : Ex → St → Ans) : codeI Tryz.tab envq40 noHint (codeD Tryz.tab envq40 noHint 0 64) (n+1) 106 annLq40_n3 (.loop Lq40_n3) (weakP 0 (exk [0,8,10] [2,3,4] [(2,[0,8,10])]) K) (Sq40_n3 i v) = stepq40_n3 i v (fun v' => codeI Tryz.tab envq40 noHint (codeD Tryz.tab envq40 noHint 0 64) n 106 annLq40_n3 (.loop Lq40_n3) (weakP 0 (exk [0,8,10] [2,3,4] [(2,[0,8,10])]) K) (Sq40_n3 i v')) (fun y => outq40_n3 i K y) := by kernel_rfl
theorem GNq40_n3_ok : CSum Tryz.prog 106 (.loop Lq40_n3) (sumL decq40_n3 stepDq40_n3 outq40_n3) := csum_loop mixed tabOk envq40Ok 0 (exk [0,8,10] [2,3,4] [(2,[0,8,10])]) annLq40_n3_ok decq40_n3_ok stepq40_n3_ok stepq40_n3_nat
noncomputable def Gq40_n3 : (Ex → St → Ans) → St → Ans := (sumL decq40_n3 stepDq40_n3 outq40_n3)
theorem Gq40_n3_ok : CSum Tryz.prog 106 (.loop Lq40_n3) Gq40_n3 := GNq40_n3_ok
noncomputable def Lq40_n2 : Code := codeAt [1,1,1,1,1,1,1,0,1,0,0] bq40
noncomputable def annLq40_n2 : Ann := .at 0 [0,5,6,8,10,51,52] (.loop .none)
theorem annLq40_n2_ok : AnnOk Tryz.prog 106 (.loop Lq40_n2) annLq40_n2 := annOk_at (annOk_none _ _ _)
abbrev Iq40_n2 := (List UInt8) × (Int) × (Int) × (Int)
abbrev Yq40_n2 := (List UInt8) × (Int) × (List (Int × List UInt8))
abbrev Vq40_n2 := (Int) × (List UInt8) × (Int) × (List (Int × List UInt8))
def Sq40_n2 : Iq40_n2 → Vq40_n2 → St := fun (t0,t5,t8,t51) (t52,o0_0,o0_1,o1) => { env := [(0,.str t0),(5,.int .i64 t5),(6,.ptr 0 0),(8,.int .i64 t8),(10,.own 1),(51,.int .i64 t51),(52,.int .i64 t52)],stk := [[]],H := [.cells [.str o0_0,.int .i64 o0_1],.arr (.st (.pair (.int .i64) .str)) o1],blk := 1069056 }
def decPq40_n2 (s : St) : Option {x : Iq40_n2 × Vq40_n2 // s = Sq40_n2 x.1 x.2} := match s with
  | { env := [(0,.str t0),(5,.int .i64 t5),(6,.ptr 0 0),(8,.int .i64 t8),(10,.own 1),(51,.int .i64 t51),(52,.int .i64 t52)],stk := [[]],H := [.cells [.str o0_0,.int .i64 o0_1],.arr (.st (.pair (.int .i64) .str)) o1],blk := 1069056 } => some ⟨((t0,t5,t8,t51),(t52,o0_0,o0_1,o1)),rfl⟩
  | _ => none
def decq40_n2 (s : St) : Option (Iq40_n2 × Vq40_n2) := pk (decPq40_n2 s)
theorem decq40_n2_ok (s : St) (x : Iq40_n2 × Vq40_n2) (h : decq40_n2 s = some x) : s = Sq40_n2 x.1 x.2 := pk_ok (o := decPq40_n2 s) h
def outq40_n2 : Iq40_n2 → (Ex → St → Ans) → Yq40_n2 → Ans := fun (t0,t5,t8,t51) K => unP fun o0_0_y => unP fun o0_1_y o1_y => K (Ex.exit 0) { env := [(0,.str t0),(5,.int .i64 t5),(6,.ptr 0 0),(8,.int .i64 t8),(10,.own 1)],stk := [[]],H := [.cells [.str o0_0_y,.int .i64 o0_1_y],.arr (.st (.pair (.int .i64) .str)) o1_y],blk := 1069056 }
def stepq40_n2 {β : Type} : Iq40_n2 → Vq40_n2 → (Vq40_n2 → Option β) → (Yq40_n2 → Option β) → Option β := fun (t0,t5,t8,t51) (t52,o0_0,o0_1,o1) next exit => (bif decide (t52 < t51) then (bindO (fnDq22 ((2 : Int),o0_0,o0_1)) (unP fun r => unP fun o0_0_2 o0_1_2 => (bif Nat.ble ((List.length o1 + List.length [(r,nilL UInt8)]) * (24 : Nat)) (140737488355328 : Nat) then (next (IntKind.wrap .i64 (t52 + (1 : Int)),o0_0_2,o0_1_2,o1 ++ [(r,[])])) else none))) else (exit (o0_0,o0_1,o1)))
def stepDq40_n2 (i : Iq40_n2) (v : Vq40_n2) : Option (Vq40_n2 ⊕ Yq40_n2) := stepq40_n2 i v (fun v => some (.inl v)) (fun y => some (.inr y))
theorem stepq40_n2_nat (i : Iq40_n2) (v : Vq40_n2) (next : Vq40_n2 → Ans) (exit : Yq40_n2 → Ans) : stepq40_n2 i v next exit = bindO (stepDq40_n2 i v) (Sum.elim next exit) := by
  obtain ⟨t0,t5,t8,t51⟩ := i
  obtain ⟨t52,o0_0,o0_1,o1⟩ := v
  simp only [stepDq40_n2,stepq40_n2,bindO_cond,bindO_assoc,bindO_none,bindO_pure,bindO_elim,bindO_unP,bindO_empty,Sum.elim_inl,Sum.elim_inr]
theorem stepq40_n2_ok (n : Nat) (i : Iq40_n2) (v : Vq40_n2) (K : Ex → St → Ans) : codeI Tryz.tab envq40 noHint (codeD Tryz.tab envq40 noHint 0 64) (n+1) 106 annLq40_n2 (.loop Lq40_n2) (weakP 0 (exk [0,5,6,8,10] [2,3,4] [(0,[0,5,6,8,10])]) K) (Sq40_n2 i v) = stepq40_n2 i v (fun v' => codeI Tryz.tab envq40 noHint (codeD Tryz.tab envq40 noHint 0 64) n 106 annLq40_n2 (.loop Lq40_n2) (weakP 0 (exk [0,5,6,8,10] [2,3,4] [(0,[0,5,6,8,10])]) K) (Sq40_n2 i v')) (fun y => outq40_n2 i K y) := by kernel_rfl
theorem GNq40_n2_ok : CSum Tryz.prog 106 (.loop Lq40_n2) (sumL decq40_n2 stepDq40_n2 outq40_n2) := csum_loop mixed tabOk envq40Ok 0 (exk [0,5,6,8,10] [2,3,4] [(0,[0,5,6,8,10])]) annLq40_n2_ok decq40_n2_ok stepq40_n2_ok stepq40_n2_nat
noncomputable def Gq40_n2 : (Ex → St → Ans) → St → Ans := (sumL decq40_n2 stepDq40_n2 outq40_n2)
theorem Gq40_n2_ok : CSum Tryz.prog 106 (.loop Lq40_n2) Gq40_n2 := GNq40_n2_ok
noncomputable def Lq40_n1 : Code := codeAt [1,1,1,1,1,0,0] bq40
noncomputable def annLq40_n1 : Ann := .none
theorem annLq40_n1_ok : AnnOk Tryz.prog 106 Lq40_n1 annLq40_n1 := (annOk_none _ _ _)
abbrev Iq40_n1 := (List UInt8) × (Int) × (List UInt8) × (Int) × (Int) × (List UInt8) × (Int)
abbrev Yq40_n1 := (Bool)
def Sq40_n1 : Iq40_n1 → St := fun (t0,t5,t7,t8,t9,o0_0,o0_1) => { env := [(0,.str t0),(5,.int .i64 t5),(6,.ptr 0 0),(7,.str t7),(8,.int .i64 t8),(9,.int .i64 t9)],stk := [[]],H := [.cells [.str o0_0,.int .i64 o0_1]],blk := 1069056 }
def decPq40_n1 (s : St) : Option {x : Iq40_n1 // s = Sq40_n1 x} := match s with
  | { env := [(0,.str t0),(5,.int .i64 t5),(6,.ptr 0 0),(7,.str t7),(8,.int .i64 t8),(9,.int .i64 t9)],stk := [[]],H := [.cells [.str o0_0,.int .i64 o0_1]],blk := 1069056 } => some ⟨(t0,t5,t7,t8,t9,o0_0,o0_1),rfl⟩
  | _ => none
def decq40_n1 (s : St) : Option Iq40_n1 := pk (decPq40_n1 s)
theorem decq40_n1_ok (s : St) (x : Iq40_n1) (h : decq40_n1 s = some x) : s = Sq40_n1 x := pk_ok (o := decPq40_n1 s) h
def outq40_n1 : Iq40_n1 → (Ex → St → Ans) → Yq40_n1 → Ans := fun (t0,t5,t7,t8,t9,o0_0,o0_1) K => fun t50_y => K (Ex.norm) { env := [(0,.str t0),(5,.int .i64 t5),(6,.ptr 0 0),(8,.int .i64 t8),(50,.bool t50_y)],stk := [[]],H := [.cells [.str o0_0,.int .i64 o0_1]],blk := 1069056 }
def nodeq40_n1 {β : Type} : Iq40_n1 → (Yq40_n1 → Option β) → Option β := fun (t0,t5,t7,t8,t9,o0_0,o0_1) exit => (bif !t7 == [(82 : UInt8)] then (exit (true)) else (bif t9 != t5 then (exit (true)) else (bif decide (t5 < (1 : Int)) then (exit (true)) else (exit (decide (t5 > (16 : Int)))))))
def nodeDq40_n1 (i : Iq40_n1) : Option Yq40_n1 := nodeq40_n1 i some
theorem nodeq40_n1_nat (i : Iq40_n1) (k : Yq40_n1 → Ans) : nodeq40_n1 i k = bindO (nodeDq40_n1 i) k := by
  obtain ⟨t0,t5,t7,t8,t9,o0_0,o0_1⟩ := i
  simp only [nodeDq40_n1,nodeq40_n1,bindO_cond,bindO_assoc,bindO_none,bindO_pure,bindO_elim,bindO_unP,bindO_empty]
theorem nodeq40_n1_ok (i : Iq40_n1) (K : Ex → St → Ans) : codeI Tryz.tab envq40 noHint (codeD Tryz.tab envq40 noHint 0 64) 70 106 annLq40_n1 Lq40_n1 (weakP 0 (exk [0,5,6,8,50] [2,3,4] []) K) (Sq40_n1 i) = nodeq40_n1 i (outq40_n1 i K) := by kernel_rfl
theorem GNq40_n1_ok : CSum Tryz.prog 106 Lq40_n1 (sumN decq40_n1 nodeDq40_n1 outq40_n1) := csum_node mixed tabOk envq40Ok 0 (exk [0,5,6,8,50] [2,3,4] []) annLq40_n1_ok decq40_n1_ok nodeq40_n1_ok nodeq40_n1_nat
noncomputable def Gq40_n1 : (Ex → St → Ans) → St → Ans := (sumN decq40_n1 nodeDq40_n1 outq40_n1)
theorem Gq40_n1_ok : CSum Tryz.prog 106 Lq40_n1 Gq40_n1 := GNq40_n1_ok
noncomputable def Lq40_n0 : Code := codeAt [1,1,0,0] bq40
noncomputable def annLq40_n0 : Ann := .none
theorem annLq40_n0_ok : AnnOk Tryz.prog 106 Lq40_n0 annLq40_n0 := (annOk_none _ _ _)
abbrev Iq40_n0 := (List UInt8) × (Int)
abbrev Yq40_n0 := (Bool)
def Sq40_n0 : Iq40_n0 → St := fun (t0,t5) => { env := [(0,.str t0),(5,.int .i64 t5)],stk := [[]],H := [],blk := 1069056 }
def decPq40_n0 (s : St) : Option {x : Iq40_n0 // s = Sq40_n0 x} := match s with
  | { env := [(0,.str t0),(5,.int .i64 t5)],stk := [[]],H := [],blk := 1069056 } => some ⟨(t0,t5),rfl⟩
  | _ => none
def decq40_n0 (s : St) : Option Iq40_n0 := pk (decPq40_n0 s)
theorem decq40_n0_ok (s : St) (x : Iq40_n0) (h : decq40_n0 s = some x) : s = Sq40_n0 x := pk_ok (o := decPq40_n0 s) h
def outq40_n0 : Iq40_n0 → (Ex → St → Ans) → Yq40_n0 → Ans := fun (t0,t5) K => fun t27_y => K (Ex.norm) { env := [(0,.str t0),(5,.int .i64 t5),(27,.bool t27_y)],stk := [[]],H := [],blk := 1069056 }
def nodeq40_n0 {β : Type} : Iq40_n0 → (Yq40_n0 → Option β) → Option β := fun (t0,t5) exit => (bif decide (t5 < (0 : Int)) then (exit (true)) else (exit (Int.tmod (↑(List.length t0) : Int) (64 : Int) != (0 : Int))))
def nodeDq40_n0 (i : Iq40_n0) : Option Yq40_n0 := nodeq40_n0 i some
theorem nodeq40_n0_nat (i : Iq40_n0) (k : Yq40_n0 → Ans) : nodeq40_n0 i k = bindO (nodeDq40_n0 i) k := by
  obtain ⟨t0,t5⟩ := i
  simp only [nodeDq40_n0,nodeq40_n0,bindO_cond,bindO_assoc,bindO_none,bindO_pure,bindO_elim,bindO_unP,bindO_empty]
theorem nodeq40_n0_ok (i : Iq40_n0) (K : Ex → St → Ans) : codeI Tryz.tab envq40 noHint (codeD Tryz.tab envq40 noHint 0 64) 70 106 annLq40_n0 Lq40_n0 (weakP 0 (exk [0,5,27] [2,3,4] []) K) (Sq40_n0 i) = nodeq40_n0 i (outq40_n0 i K) := by kernel_rfl
theorem GNq40_n0_ok : CSum Tryz.prog 106 Lq40_n0 (sumN decq40_n0 nodeDq40_n0 outq40_n0) := csum_node mixed tabOk envq40Ok 0 (exk [0,5,27] [2,3,4] []) annLq40_n0_ok decq40_n0_ok nodeq40_n0_ok nodeq40_n0_nat
noncomputable def Gq40_n0 : (Ex → St → Ans) → St → Ans := (sumN decq40_n0 nodeDq40_n0 outq40_n0)
theorem Gq40_n0_ok : CSum Tryz.prog 106 Lq40_n0 Gq40_n0 := GNq40_n0_ok
noncomputable def annq40 : Ann := (.seq .none (.seq .none (.seq (.seq (.cut 0 [0,5] Gq40_n0) .none) (.seq .none (.seq .none (.seq (.seq (.cut 0 [0,5,6,7,8,9] Gq40_n1) .none) (.seq .none (.seq (.seq .none (.block (.cut 0 [0,5,6,8,10,51,52] Gq40_n2))) (.seq .none (.seq .none (.seq (.seq .none (.block (.cut 0 [0,8,10,11,77,78] Gq40_n3))) (.seq (.seq .none (.seq (.cut 0 [0,8,10,14,15] Gq40_n4) .none)) .none))))))))))))
theorem annq40_ok : AnnOk Tryz.prog 106 bq40 annq40 := ⟨(annOk_none _ _ _),⟨(annOk_none _ _ _),⟨⟨Gq40_n0_ok,(annOk_none _ _ _)⟩,⟨(annOk_none _ _ _),⟨(annOk_none _ _ _),⟨⟨Gq40_n1_ok,(annOk_none _ _ _)⟩,⟨(annOk_none _ _ _),⟨⟨(annOk_none _ _ _),Gq40_n2_ok⟩,⟨(annOk_none _ _ _),⟨(annOk_none _ _ _),⟨⟨(annOk_none _ _ _),Gq40_n3_ok⟩,⟨⟨(annOk_none _ _ _),⟨Gq40_n4_ok,(annOk_none _ _ _)⟩⟩,(annOk_none _ _ _)⟩⟩⟩⟩⟩⟩⟩⟩⟩⟩⟩⟩
abbrev Aq40 := (List UInt8)
abbrev Yq40 := (Int) × (Int) × (List (Int × List UInt8))
def fnq40 {β : Type} : Aq40 → (Yq40 → Option β) → Option β := fun a0 exit => (bindO (nodeDq40_n0 (a0,IntKind.wrap .i64 (IntKind.wrap .i64 (Int.tdiv (↑(List.length a0) : Int) (64 : Int)) - (1 : Int)))) fun t27 => (bif t27 then (exit ((0 : Int),(12 : Int),[])) else (bindO (fnDq19 (a0)) fun _ => (bindO (fnDq21 ((1 : Int),a0,(0 : Int))) (unP fun r => unP fun o0_0 o0_1 => (bindO (fnDq22 ((6 : Int),o0_0,o0_1)) (unP fun r_2 => unP fun o0_0_2 o0_1_2 => (bindO (fnDq22 ((1 : Int),o0_0_2,o0_1_2)) (unP fun r_3 => unP fun o0_0_3 o0_1_3 => (bindO (nodeDq40_n1 (a0,IntKind.wrap .i64 (IntKind.wrap .i64 (Int.tdiv (↑(List.length a0) : Int) (64 : Int)) - (1 : Int)),r,r_2,r_3,o0_0_3,o0_1_3)) fun t50 => (bif t50 then (exit ((0 : Int),(4 : Int),[])) else (bindO (loopD (stepDq40_n2 (a0,IntKind.wrap .i64 (IntKind.wrap .i64 (Int.tdiv (↑(List.length a0) : Int) (64 : Int)) - (1 : Int)),r_2,IntKind.wrap .i64 (IntKind.wrap .i64 (Int.tdiv (↑(List.length a0) : Int) (64 : Int)) - (1 : Int)))) FUEL ((0 : Int),o0_0_3,o0_1_3,[])) (unP fun o0_0_4 => unP fun o0_1_4 o1 => (bif inR (64 : Int) (List.length a0 + (1 : Nat)) then (bif inR (IntKind.wrap .i64 ((8 : Int) + IntKind.wrap .i64 ((2 : Int) * IntKind.wrap .i64 (IntKind.wrap .i64 (Int.tdiv (↑(List.length a0) : Int) (64 : Int)) - (1 : Int))))) (List.length a0 + (1 : Nat)) then (bindO (fnDq43 (List.take (Int.toNat (IntKind.wrap .i64 ((8 : Int) + IntKind.wrap .i64 ((2 : Int) * IntKind.wrap .i64 (IntKind.wrap .i64 (Int.tdiv (↑(List.length a0) : Int) (64 : Int)) - (1 : Int)))))) a0,List.drop (64 : Nat) a0)) fun r_4 => (bindO (fnDq21 ((↑(List.length r_4) : Int),o0_0_4,o0_1_4)) (unP fun r_5 => unP fun o0_0_5 o0_1_5 => (bif !r_5 == r_4 then (exit ((0 : Int),(5 : Int),[])) else (bindO (loopD (stepDq40_n3 (a0,r_2,List.drop (64 : Nat) a0,(↑(List.length o1) : Int))) FUEL ((0 : Int),o1)) fun o0 => (bindO (fnDq41 (r_2,o0)) (unP fun r_0 r_1 => (bindO (nodeDq40_n4 (a0,r_2,r_0,r_1,o0)) fun t103 => (bif t103 then (exit ((0 : Int),(4 : Int),[])) else (exit (r_2,(0 : Int),o0))))))))))) else none) else none))))))))))))))
def fnDq40 (a : Aq40) : Option Yq40 := fnq40 a some
theorem fnq40_nat (a : Aq40) (k : Yq40 → Ans) : fnq40 a k = bindO (fnDq40 a) k := by
  obtain z := a
  simp only [fnDq40,fnq40,bindO_cond,bindO_assoc,bindO_none,bindO_pure,bindO_elim,bindO_unP,bindO_empty]
def argsq40 : Aq40 → List AV × List AE.Obj := fun a0 => ([.str a0],[])
def decPAq40 (l : List AV) (H : List AE.Obj) : Option {a : Aq40 // (l,H) = argsq40 a} := match l,H with
  | [.str a0],[] => some ⟨(a0),rfl⟩
  | _,_ => none
def decAq40 (l : List AV) (H : List AE.Obj) : Option Aq40 := pk (decPAq40 l H)
theorem decAq40_ok (l : List AV) (H : List AE.Obj) (a : Aq40) (h : decAq40 l H = some a) : (l,H) = argsq40 a := pk_ok (o := decPAq40 l H) h
def outq40 : Aq40 → (AV → List AE.Obj → Ans) → Yq40 → Ans := fun a0 K => unP fun r_0_y => unP fun r_2_y o0_y => K (.tup [.int .i64 r_0_y,.own 0,.int .i64 r_2_y]) [.arr (.st (.pair (.int .i64) .str)) o0_y]
theorem fnq40_ok (a : Aq40) (K : AV → List AE.Obj → Ans) : fnE Tryz.tab envq40 noHint 0 70 261 Tryz.f261.ntmps Tryz.f261.results.toList annq40 bq40 (argsq40 a).1 (argsq40 a).2 K = fnq40 a (outq40 a K) := by kernel_rfl
def vFq40 (a : Aq40) (K : AV → List AE.Obj → Ans) : Ans := bindO (fnDq40 a) fun y => outq40 a K y
def Fq40 : List AV → List AE.Obj → (AV → List AE.Obj → Ans) → Ans := fun l H K => bindO (decAq40 l H) fun a => vFq40 a K
theorem Fq40_ok : FuncOk Tryz.prog 261 Fq40 := func_mkD (hint := noHint) (d := 0) (n := 70) mixed tabOk envq40Ok Tryz.func261 (bodySome (by kernel_rfl)) (by decide +kernel) annq40_ok decAq40_ok fnq40_ok fnq40_nat
--@ shadow_Shadow_string_made
noncomputable def envq72 : Env := []
theorem envq72Ok : EnvOk Tryz.prog envq72 := EnvOk.nil
noncomputable def bq72 : Code := Tryz.f162.body.getD .skip
noncomputable def Lq72_n0 : Code := codeAt [0,1] bq72
noncomputable def annLq72_n0 : Ann := .none
theorem annLq72_n0_ok : AnnOk Tryz.prog 20 Lq72_n0 annLq72_n0 := (annOk_none _ _ _)
abbrev Iq72_n0 := (List (Int × List UInt8)) × (List (Int × List UInt8))
abbrev Yq72_n0 := Unit
def Sq72_n0 : Iq72_n0 → St := fun (o1,o2) => { env := [(0,.ptr 0 0),(6,.bool (false))],stk := [[(0,.ptr 0 0),(1,.map 1),(2,.map 2)]],H := [.cells [.map 1,.map 2],.mp .i64 .str o1,.mp .i64 .str o2],blk := 663552 }
def decPq72_n0 (s : St) : Option {x : Iq72_n0 // s = Sq72_n0 x} := match s with
  | { env := [(0,.ptr 0 0),(6,.bool r0)],stk := [[(0,.ptr 0 0),(1,.map 1),(2,.map 2)]],H := [.cells [.map 1,.map 2],.mp .i64 .str o1,.mp .i64 .str o2],blk := 663552 } => if h0 : r0 = false then some ⟨(o1,o2),by subst h0; rfl⟩ else none
  | _ => none
def decq72_n0 (s : St) : Option Iq72_n0 := pk (decPq72_n0 s)
theorem decq72_n0_ok (s : St) (x : Iq72_n0) (h : decq72_n0 s = some x) : s = Sq72_n0 x := pk_ok (o := decPq72_n0 s) h
def outq72_n0 : Iq72_n0 → (Ex → St → Ans) → Yq72_n0 → Ans := fun (o1,o2) K => fun _ => K (Ex.norm) { env := [(0,.ptr 0 0)],stk := [[(0,.ptr 0 0),(1,.map 1),(2,.map 2)]],H := [.cells [.map 1,.map 2],.mp .i64 .str o1,.mp .i64 .str o2],blk := 663552 }
def nodeq72_n0 {β : Type} : Iq72_n0 → (Yq72_n0 → Option β) → Option β := fun (o1,o2) exit => (exit ())
def nodeDq72_n0 (i : Iq72_n0) : Option Yq72_n0 := nodeq72_n0 i some
theorem nodeq72_n0_nat (i : Iq72_n0) (k : Yq72_n0 → Ans) : nodeq72_n0 i k = bindO (nodeDq72_n0 i) k := by
  obtain ⟨o1,o2⟩ := i
  simp only [nodeDq72_n0,nodeq72_n0,bindO_cond,bindO_assoc,bindO_none,bindO_pure,bindO_elim,bindO_unP,bindO_empty]
theorem nodeq72_n0_ok (i : Iq72_n0) (K : Ex → St → Ans) : codeI Tryz.tab envq72 noHint (codeD Tryz.tab envq72 noHint 0 64) 70 20 annLq72_n0 Lq72_n0 (weakP 3 (exk [0] [] []) K) (Sq72_n0 i) = nodeq72_n0 i (outq72_n0 i K) := by kernel_rfl
theorem GNq72_n0_ok : CSum Tryz.prog 20 Lq72_n0 (sumN decq72_n0 nodeDq72_n0 outq72_n0) := csum_node mixed tabOk envq72Ok 3 (exk [0] [] []) annLq72_n0_ok decq72_n0_ok nodeq72_n0_ok nodeq72_n0_nat
noncomputable def Gq72_n0 : (Ex → St → Ans) → St → Ans := (sumN decq72_n0 nodeDq72_n0 outq72_n0)
theorem Gq72_n0_ok : CSum Tryz.prog 20 Lq72_n0 Gq72_n0 := GNq72_n0_ok
noncomputable def annq72 : Ann := (.seq (.seq .none (.cut 3 [0,6] Gq72_n0)) .none)
theorem annq72_ok : AnnOk Tryz.prog 20 bq72 annq72 := ⟨⟨(annOk_none _ _ _),Gq72_n0_ok⟩,(annOk_none _ _ _)⟩
abbrev Aq72 := (List (Int × List UInt8)) × (List (Int × List UInt8))
abbrev Yq72 := Unit
def fnq72 {β : Type} : Aq72 → (Yq72 → Option β) → Option β := fun (o1,o2) exit => (bindO (nodeDq72_n0 (o1,o2)) fun _ => (exit ()))
def fnDq72 (a : Aq72) : Option Yq72 := fnq72 a some
theorem fnq72_nat (a : Aq72) (k : Yq72 → Ans) : fnq72 a k = bindO (fnDq72 a) k := by
  obtain ⟨o1,o2⟩ := a
  simp only [fnDq72,fnq72,bindO_cond,bindO_assoc,bindO_none,bindO_pure,bindO_elim,bindO_unP,bindO_empty]
def argsq72 : Aq72 → List AV × List AE.Obj := fun (o1,o2) => ([.ptr 0 0],[.cells [.map 1,.map 2],.mp .i64 .str o1,.mp .i64 .str o2])
def decPAq72 (l : List AV) (H : List AE.Obj) : Option {a : Aq72 // (l,H) = argsq72 a} := match l,H with
  | [.ptr 0 0],[.cells [.map 1,.map 2],.mp .i64 .str o1,.mp .i64 .str o2] => some ⟨(o1,o2),rfl⟩
  | _,_ => none
def decAq72 (l : List AV) (H : List AE.Obj) : Option Aq72 := pk (decPAq72 l H)
theorem decAq72_ok (l : List AV) (H : List AE.Obj) (a : Aq72) (h : decAq72 l H = some a) : (l,H) = argsq72 a := pk_ok (o := decPAq72 l H) h
def outq72 : Aq72 → (AV → List AE.Obj → Ans) → Yq72 → Ans := fun (o1,o2) K => fun _ => K (.tup []) [.cells [.map 1,.map 2],.mp .i64 .str o1,.mp .i64 .str o2]
theorem fnq72_ok (a : Aq72) (K : AV → List AE.Obj → Ans) : fnE Tryz.tab envq72 noHint 0 70 162 Tryz.f162.ntmps Tryz.f162.results.toList annq72 bq72 (argsq72 a).1 (argsq72 a).2 K = fnq72 a (outq72 a K) := by kernel_rfl
def vFq72 (a : Aq72) (K : AV → List AE.Obj → Ans) : Ans := bindO (fnDq72 a) fun y => outq72 a K y
def Fq72 : List AV → List AE.Obj → (AV → List AE.Obj → Ans) → Ans := fun l H K => bindO (decAq72 l H) fun a => vFq72 a K
theorem Fq72_ok : FuncOk Tryz.prog 162 Fq72 := func_mkD (hint := noHint) (d := 0) (n := 70) mixed tabOk envq72Ok Tryz.func162 (bodySome (by kernel_rfl)) (by decide +kernel) annq72_ok decAq72_ok fnq72_ok fnq72_nat
--@ shadow_Shadow_string_Put
noncomputable def envq71 : Env := [(162,.func Fq72)]
theorem envq71Ok : EnvOk Tryz.prog envq71 := EnvOk.cons Fq72_ok (EnvOk.nil)
noncomputable def bq71 : Code := Tryz.f100.body.getD .skip
noncomputable def annq71 : Ann := .none
theorem annq71_ok : AnnOk Tryz.prog 16 bq71 annq71 := (annOk_none _ _ _)
abbrev Aq71 := (Int) × (List UInt8) × (List (Int × List UInt8)) × (List (Int × List UInt8))
abbrev Yq71 := (List (Int × List UInt8))
def fnq71 {β : Type} : Aq71 → (Yq71 → Option β) → Option β := fun (a1,a2,o1,o2) exit => (bindO (fnDq72 (o1,o2)) fun _ => (exit (mput a1 a2 o2)))
def fnDq71 (a : Aq71) : Option Yq71 := fnq71 a some
theorem fnq71_nat (a : Aq71) (k : Yq71 → Ans) : fnq71 a k = bindO (fnDq71 a) k := by
  obtain ⟨a1,a2,o1,o2⟩ := a
  simp only [fnDq71,fnq71,bindO_cond,bindO_assoc,bindO_none,bindO_pure,bindO_elim,bindO_unP,bindO_empty]
def argsq71 : Aq71 → List AV × List AE.Obj := fun (a1,a2,o1,o2) => ([.ptr 0 0,.int .i64 a1,.str a2],[.cells [.map 1,.map 2],.mp .i64 .str o1,.mp .i64 .str o2])
def decPAq71 (l : List AV) (H : List AE.Obj) : Option {a : Aq71 // (l,H) = argsq71 a} := match l,H with
  | [.ptr 0 0,.int .i64 a1,.str a2],[.cells [.map 1,.map 2],.mp .i64 .str o1,.mp .i64 .str o2] => some ⟨(a1,a2,o1,o2),rfl⟩
  | _,_ => none
def decAq71 (l : List AV) (H : List AE.Obj) : Option Aq71 := pk (decPAq71 l H)
theorem decAq71_ok (l : List AV) (H : List AE.Obj) (a : Aq71) (h : decAq71 l H = some a) : (l,H) = argsq71 a := pk_ok (o := decPAq71 l H) h
def outq71 : Aq71 → (AV → List AE.Obj → Ans) → Yq71 → Ans := fun (a1,a2,o1,o2) K => fun o2_y => K (.tup []) [.cells [.map 1,.map 2],.mp .i64 .str o1,.mp .i64 .str o2_y]
theorem fnq71_ok (a : Aq71) (K : AV → List AE.Obj → Ans) : fnE Tryz.tab envq71 noHint 0 70 100 Tryz.f100.ntmps Tryz.f100.results.toList annq71 bq71 (argsq71 a).1 (argsq71 a).2 K = fnq71 a (outq71 a K) := by kernel_rfl
def vFq71 (a : Aq71) (K : AV → List AE.Obj → Ans) : Ans := bindO (fnDq71 a) fun y => outq71 a K y
def Fq71 : List AV → List AE.Obj → (AV → List AE.Obj → Ans) → Ans := fun l H K => bindO (decAq71 l H) fun a => vFq71 a K
theorem Fq71_ok : FuncOk Tryz.prog 100 Fq71 := func_mkD (hint := noHint) (d := 0) (n := 70) mixed tabOk envq71Ok Tryz.func100 (bodySome (by kernel_rfl)) (by decide +kernel) annq71_ok decAq71_ok fnq71_ok fnq71_nat
--@ shadow_layer_string_each
noncomputable def envq73 : Env := []
theorem envq73Ok : EnvOk Tryz.prog envq73 := EnvOk.nil
noncomputable def bq73 : Code := Tryz.f163.body.getD .skip
noncomputable def annq73 : Ann := .none
theorem annq73_ok : AnnOk Tryz.prog 4 bq73 annq73 := (annOk_none _ _ _)
abbrev Aq73 := (List (Int × List UInt8))
abbrev Yq73 := Unit
def fnq73 {β : Type} : Aq73 → (Yq73 → Option β) → Option β := fun o0 exit => (exit ())
def fnDq73 (a : Aq73) : Option Yq73 := fnq73 a some
theorem fnq73_nat (a : Aq73) (k : Yq73 → Ans) : fnq73 a k = bindO (fnDq73 a) k := by
  obtain z := a
  simp only [fnDq73,fnq73,bindO_cond,bindO_assoc,bindO_none,bindO_pure,bindO_elim,bindO_unP,bindO_empty]
def argsq73 : Aq73 → List AV × List AE.Obj := fun o0 => ([.map 0],[.mp .i64 .str o0])
def decPAq73 (l : List AV) (H : List AE.Obj) : Option {a : Aq73 // (l,H) = argsq73 a} := match l,H with
  | [.map 0],[.mp .i64 .str o0] => some ⟨(o0),rfl⟩
  | _,_ => none
def decAq73 (l : List AV) (H : List AE.Obj) : Option Aq73 := pk (decPAq73 l H)
theorem decAq73_ok (l : List AV) (H : List AE.Obj) (a : Aq73) (h : decAq73 l H = some a) : (l,H) = argsq73 a := pk_ok (o := decPAq73 l H) h
def outq73 : Aq73 → (AV → List AE.Obj → Ans) → Yq73 → Ans := fun o0 K => fun _ => K (.fn (Fn.func 205) [] [.ptr 1 0]) [.mp .i64 .str o0,.cells [.map 0]]
theorem fnq73_ok (a : Aq73) (K : AV → List AE.Obj → Ans) : fnE Tryz.tab envq73 noHint 0 70 163 Tryz.f163.ntmps Tryz.f163.results.toList annq73 bq73 (argsq73 a).1 (argsq73 a).2 K = fnq73 a (outq73 a K) := by kernel_rfl
def vFq73 (a : Aq73) (K : AV → List AE.Obj → Ans) : Ans := bindO (fnDq73 a) fun y => outq73 a K y
def Fq73 : List AV → List AE.Obj → (AV → List AE.Obj → Ans) → Ans := fun l H K => bindO (decAq73 l H) fun a => vFq73 a K
theorem Fq73_ok : FuncOk Tryz.prog 163 Fq73 := func_mkD (hint := noHint) (d := 0) (n := 70) mixed tabOk envq73Ok Tryz.func163 (bodySome (by kernel_rfl)) (by decide +kernel) annq73_ok decAq73_ok fnq73_ok fnq73_nat
--@ shadow_Shadow_string_Back
noncomputable def envq64 : Env := []
theorem envq64Ok : EnvOk Tryz.prog envq64 := EnvOk.nil
noncomputable def bq64 : Code := Tryz.f93.body.getD .skip
noncomputable def annq64 : Ann := .none
theorem annq64_ok : AnnOk Tryz.prog 8 bq64 annq64 := (annOk_none _ _ _)
abbrev Aq64 := (List (Int × List UInt8)) × (List (Int × List UInt8))
abbrev Yq64 := Unit
def fnq64 {β : Type} : Aq64 → (Yq64 → Option β) → Option β := fun (o1,o2) exit => (exit ())
def fnDq64 (a : Aq64) : Option Yq64 := fnq64 a some
theorem fnq64_nat (a : Aq64) (k : Yq64 → Ans) : fnq64 a k = bindO (fnDq64 a) k := by
  obtain ⟨o1,o2⟩ := a
  simp only [fnDq64,fnq64,bindO_cond,bindO_assoc,bindO_none,bindO_pure,bindO_elim,bindO_unP,bindO_empty]
def argsq64 : Aq64 → List AV × List AE.Obj := fun (o1,o2) => ([.ptr 0 0],[.cells [.map 1,.map 2],.mp .i64 .str o1,.mp .i64 .str o2])
def decPAq64 (l : List AV) (H : List AE.Obj) : Option {a : Aq64 // (l,H) = argsq64 a} := match l,H with
  | [.ptr 0 0],[.cells [.map 1,.map 2],.mp .i64 .str o1,.mp .i64 .str o2] => some ⟨(o1,o2),rfl⟩
  | _,_ => none
def decAq64 (l : List AV) (H : List AE.Obj) : Option Aq64 := pk (decPAq64 l H)
theorem decAq64_ok (l : List AV) (H : List AE.Obj) (a : Aq64) (h : decAq64 l H = some a) : (l,H) = argsq64 a := pk_ok (o := decPAq64 l H) h
def outq64 : Aq64 → (AV → List AE.Obj → Ans) → Yq64 → Ans := fun (o1,o2) K => fun _ => K (.tup []) [.cells [.map 1,.map 3],.mp .i64 .str o1,.mp .i64 .str o2,.mp .i64 .str ([])]
theorem fnq64_ok (a : Aq64) (K : AV → List AE.Obj → Ans) : fnE Tryz.tab envq64 noHint 0 70 93 Tryz.f93.ntmps Tryz.f93.results.toList annq64 bq64 (argsq64 a).1 (argsq64 a).2 K = fnq64 a (outq64 a K) := by kernel_rfl
def vFq64 (a : Aq64) (K : AV → List AE.Obj → Ans) : Ans := bindO (fnDq64 a) fun y => outq64 a K y
def Fq64 : List AV → List AE.Obj → (AV → List AE.Obj → Ans) → Ans := fun l H K => bindO (decAq64 l H) fun a => vFq64 a K
theorem Fq64_ok : FuncOk Tryz.prog 93 Fq64 := func_mkD (hint := noHint) (d := 0) (n := 70) mixed tabOk envq64Ok Tryz.func93 (bodySome (by kernel_rfl)) (by decide +kernel) annq64_ok decAq64_ok fnq64_ok fnq64_nat
--@ shadow_Shadow_string_Keep
noncomputable def envq68 : Env := [(162,.func Fq72),(163,.func Fq73),(93,.func Fq64),(100205,(.iter (eachBegin .str) (eachNext .str)))]
theorem envq68Ok : EnvOk Tryz.prog envq68 := EnvOk.cons Fq72_ok (EnvOk.cons Fq73_ok (EnvOk.cons Fq64_ok (EnvOk.cons iter205_spec (EnvOk.nil))))
noncomputable def bq68 : Code := Tryz.f104.body.getD .skip
noncomputable def Lq68_n0 : Code := codeAt [1,1,1,0,1,0] bq68
theorem Lq68_n0_eq : Lq68_n0 = .rangeFunc (rfG Lq68_n0) (rfPs Lq68_n0) (rfAs Lq68_n0) (rfC Lq68_n0) := by kernel_rfl
noncomputable def annLq68_n0 : Ann := .at 3 [1,12,23] (.loop .none)
theorem annLq68_n0_ok : cutP Tryz.prog 23 (rfC Lq68_n0) annLq68_n0.fst (AnnOk Tryz.prog 23 (rfC Lq68_n0) annLq68_n0.fst) := (annOk_none _ _ _)
abbrev Iq68_n0 := (List (Int × List UInt8))
abbrev Yq68_n0 := (List (Int × List UInt8))
abbrev Vq68_n0 := (List Int) × (List (Int × List UInt8))
def Sq68_n0 : Iq68_n0 → Vq68_n0 → St := fun o2 (t23,o1) => { env := [(1,.ptr 3 0),(12,.fn (Fn.func 205) [] [.ptr 4 0]),(23,AV.gh t23)],stk := [[(0,.ptr 0 0),(1,.map 1),(2,.map 2)]],H := [.cells [.map 1,.map 2],.mp .i64 .str o1,.mp .i64 .str o2,.cells [.ptr 0 0],.cells [.map 2]],blk := 425984 }
def decPq68_n0 (s : St) : Option {x : Iq68_n0 × Vq68_n0 // s = Sq68_n0 x.1 x.2} := match s with
  | { env := [(1,.ptr 3 0),(12,.fn (Fn.func 205) [] [.ptr 4 0]),(23,AV.gh t23)],stk := [[(0,.ptr 0 0),(1,.map 1),(2,.map 2)]],H := [.cells [.map 1,.map 2],.mp .i64 .str o1,.mp .i64 .str o2,.cells [.ptr 0 0],.cells [.map 2]],blk := 425984 } => some ⟨(o2,(t23,o1)),rfl⟩
  | _ => none
def decq68_n0 (s : St) : Option (Iq68_n0 × Vq68_n0) := pk (decPq68_n0 s)
theorem decq68_n0_ok (s : St) (x : Iq68_n0 × Vq68_n0) (h : decq68_n0 s = some x) : s = Sq68_n0 x.1 x.2 := pk_ok (o := decPq68_n0 s) h
def outq68_n0 : Iq68_n0 → (Ex → St → Ans) → Yq68_n0 → Ans := fun o2 K => fun o1_y => K (Ex.norm) { env := [(1,.ptr 3 0)],stk := [[(0,.ptr 0 0),(1,.map 1),(2,.map 2)]],H := [.cells [.map 1,.map 2],.mp .i64 .str o1_y,.mp .i64 .str o2,.cells [.ptr 0 0]],blk := 425984 }
def stepq68_n0 {β : Type} : Iq68_n0 → Vq68_n0 → (Vq68_n0 → Option β) → (Yq68_n0 → Option β) → Option β := fun o2 (t23,o1) next exit => (bif isNil t23 then (exit (o1)) else (bindO (List.head? t23) fun x => (next (List.tail t23,mput x (mget x [] o2) o1))))
def stepDq68_n0 (i : Iq68_n0) (v : Vq68_n0) : Option (Vq68_n0 ⊕ Yq68_n0) := stepq68_n0 i v (fun v => some (.inl v)) (fun y => some (.inr y))
theorem stepq68_n0_nat (i : Iq68_n0) (v : Vq68_n0) (next : Vq68_n0 → Ans) (exit : Yq68_n0 → Ans) : stepq68_n0 i v next exit = bindO (stepDq68_n0 i v) (Sum.elim next exit) := by
  obtain z := i
  obtain ⟨t23,o1⟩ := v
  simp only [stepDq68_n0,stepq68_n0,bindO_cond,bindO_assoc,bindO_none,bindO_pure,bindO_elim,bindO_unP,bindO_empty,Sum.elim_inl,Sum.elim_inr]
theorem stepq68_n0_ok (n : Nat) (i : Iq68_n0) (v : Vq68_n0) (K : Ex → St → Ans) : codeI Tryz.tab envq68 noHint (codeD Tryz.tab envq68 noHint 0 64) (n+1) 23 (.rnd annLq68_n0) (.rangeFunc (rfG Lq68_n0) (rfPs Lq68_n0) (rfAs Lq68_n0) (rfC Lq68_n0)) (weakP 3 (exk [1] [] []) K) (Sq68_n0 i v) = stepq68_n0 i v (fun v' => codeI Tryz.tab envq68 noHint (codeD Tryz.tab envq68 noHint 0 64) n 23 (.rnd annLq68_n0) (.rangeFunc (rfG Lq68_n0) (rfPs Lq68_n0) (rfAs Lq68_n0) (rfC Lq68_n0)) (weakP 3 (exk [1] [] []) K) (Sq68_n0 i v')) (fun y => outq68_n0 i K y) := by kernel_rfl
theorem GNq68_n0_ok : RH Tryz.tab envq68 23 annLq68_n0 (.rangeFunc (rfG Lq68_n0) (rfPs Lq68_n0) (rfAs Lq68_n0) (rfC Lq68_n0)) 3 (exk [1] [] []) (sumL decq68_n0 stepDq68_n0 outq68_n0) := rh_loop decq68_n0_ok stepq68_n0_ok stepq68_n0_nat
noncomputable def Gq68_n0 : (Ex → St → Ans) → St → Ans := startG envq68 23 3 [1,12,23] (rfG Lq68_n0) (sumL decq68_n0 stepDq68_n0 outq68_n0)
theorem Gq68_n0_ok : CSum Tryz.prog 23 Lq68_n0 Gq68_n0 := csum_rh mixed tabOk envq68Ok [1,12,23] Lq68_n0_eq annLq68_n0_ok GNq68_n0_ok
noncomputable def annq68 : Ann := (.seq .none (.seq .none (.seq .none (.seq (.seq .none (.block (.cut 3 [1,12] Gq68_n0))) .none))))
theorem annq68_ok : AnnOk Tryz.prog 23 bq68 annq68 := ⟨(annOk_none _ _ _),⟨(annOk_none _ _ _),⟨(annOk_none _ _ _),⟨⟨(annOk_none _ _ _),Gq68_n0_ok⟩,(annOk_none _ _ _)⟩⟩⟩⟩
abbrev Aq68 := (List (Int × List UInt8)) × (List (Int × List UInt8))
abbrev Yq68 := (List (Int × List UInt8))
def fnq68 {β : Type} : Aq68 → (Yq68 → Option β) → Option β := fun (o1,o2) exit => (bindO (fnDq72 (o1,o2)) fun _ => (bindO (fnDq73 (o2)) fun _ => (bif Nat.ble (List.length o2) (1000000 : Nat) then (bindO (loopD (stepDq68_n0 (o2)) FUEL (keysOf o2,o1)) fun o1_2 => (bindO (fnDq64 (o1_2,o2)) fun _ => (exit (o1_2)))) else none)))
def fnDq68 (a : Aq68) : Option Yq68 := fnq68 a some
theorem fnq68_nat (a : Aq68) (k : Yq68 → Ans) : fnq68 a k = bindO (fnDq68 a) k := by
  obtain ⟨o1,o2⟩ := a
  simp only [fnDq68,fnq68,bindO_cond,bindO_assoc,bindO_none,bindO_pure,bindO_elim,bindO_unP,bindO_empty]
def argsq68 : Aq68 → List AV × List AE.Obj := fun (o1,o2) => ([.ptr 0 0],[.cells [.map 1,.map 2],.mp .i64 .str o1,.mp .i64 .str o2])
def decPAq68 (l : List AV) (H : List AE.Obj) : Option {a : Aq68 // (l,H) = argsq68 a} := match l,H with
  | [.ptr 0 0],[.cells [.map 1,.map 2],.mp .i64 .str o1,.mp .i64 .str o2] => some ⟨(o1,o2),rfl⟩
  | _,_ => none
def decAq68 (l : List AV) (H : List AE.Obj) : Option Aq68 := pk (decPAq68 l H)
theorem decAq68_ok (l : List AV) (H : List AE.Obj) (a : Aq68) (h : decAq68 l H = some a) : (l,H) = argsq68 a := pk_ok (o := decPAq68 l H) h
def outq68 : Aq68 → (AV → List AE.Obj → Ans) → Yq68 → Ans := fun (o1,o2) K => fun o1_y => K (.tup []) [.cells [.map 1,.map 3],.mp .i64 .str o1_y,.mp .i64 .str o2,.mp .i64 .str ([])]
theorem fnq68_ok (a : Aq68) (K : AV → List AE.Obj → Ans) : fnE Tryz.tab envq68 noHint 0 70 104 Tryz.f104.ntmps Tryz.f104.results.toList annq68 bq68 (argsq68 a).1 (argsq68 a).2 K = fnq68 a (outq68 a K) := by kernel_rfl
def vFq68 (a : Aq68) (K : AV → List AE.Obj → Ans) : Ans := bindO (fnDq68 a) fun y => outq68 a K y
def Fq68 : List AV → List AE.Obj → (AV → List AE.Obj → Ans) → Ans := fun l H K => bindO (decAq68 l H) fun a => vFq68 a K
theorem Fq68_ok : FuncOk Tryz.prog 104 Fq68 := func_mkD (hint := noHint) (d := 0) (n := 70) mixed tabOk envq68Ok Tryz.func104 (bodySome (by kernel_rfl)) (by decide +kernel) annq68_ok decAq68_ok fnq68_ok fnq68_nat
--@ shadow_Shadow_string_Kept
noncomputable def envq69 : Env := [(163,.func Fq73)]
theorem envq69Ok : EnvOk Tryz.prog envq69 := EnvOk.cons Fq73_ok (EnvOk.nil)
noncomputable def bq69 : Code := Tryz.f158.body.getD .skip
noncomputable def annq69 : Ann := .none
theorem annq69_ok : AnnOk Tryz.prog 11 bq69 annq69 := (annOk_none _ _ _)
abbrev Aq69 := (List (Int × List UInt8)) × (List (Int × List UInt8))
abbrev Yq69 := Unit
def fnq69 {β : Type} : Aq69 → (Yq69 → Option β) → Option β := fun (o1,o2) exit => (bindO (fnDq73 (o1)) fun _ => (exit ()))
def fnDq69 (a : Aq69) : Option Yq69 := fnq69 a some
theorem fnq69_nat (a : Aq69) (k : Yq69 → Ans) : fnq69 a k = bindO (fnDq69 a) k := by
  obtain ⟨o1,o2⟩ := a
  simp only [fnDq69,fnq69,bindO_cond,bindO_assoc,bindO_none,bindO_pure,bindO_elim,bindO_unP,bindO_empty]
def argsq69 : Aq69 → List AV × List AE.Obj := fun (o1,o2) => ([.ptr 0 0],[.cells [.map 1,.map 2],.mp .i64 .str o1,.mp .i64 .str o2])
def decPAq69 (l : List AV) (H : List AE.Obj) : Option {a : Aq69 // (l,H) = argsq69 a} := match l,H with
  | [.ptr 0 0],[.cells [.map 1,.map 2],.mp .i64 .str o1,.mp .i64 .str o2] => some ⟨(o1,o2),rfl⟩
  | _,_ => none
def decAq69 (l : List AV) (H : List AE.Obj) : Option Aq69 := pk (decPAq69 l H)
theorem decAq69_ok (l : List AV) (H : List AE.Obj) (a : Aq69) (h : decAq69 l H = some a) : (l,H) = argsq69 a := pk_ok (o := decPAq69 l H) h
def outq69 : Aq69 → (AV → List AE.Obj → Ans) → Yq69 → Ans := fun (o1,o2) K => fun _ => K (.fn (Fn.func 205) [] [.ptr 3 0]) [.cells [.map 1,.map 2],.mp .i64 .str o1,.mp .i64 .str o2,.cells [.map 1]]
theorem fnq69_ok (a : Aq69) (K : AV → List AE.Obj → Ans) : fnE Tryz.tab envq69 noHint 0 70 158 Tryz.f158.ntmps Tryz.f158.results.toList annq69 bq69 (argsq69 a).1 (argsq69 a).2 K = fnq69 a (outq69 a K) := by kernel_rfl
def vFq69 (a : Aq69) (K : AV → List AE.Obj → Ans) : Ans := bindO (fnDq69 a) fun y => outq69 a K y
def Fq69 : List AV → List AE.Obj → (AV → List AE.Obj → Ans) → Ans := fun l H K => bindO (decAq69 l H) fun a => vFq69 a K
theorem Fq69_ok : FuncOk Tryz.prog 158 Fq69 := func_mkD (hint := noHint) (d := 0) (n := 70) mixed tabOk envq69Ok Tryz.func158 (bodySome (by kernel_rfl)) (by decide +kernel) annq69_ok decAq69_ok fnq69_ok fnq69_nat
--@ shadow_Shadow_string_Clear
noncomputable def envq65 : Env := []
theorem envq65Ok : EnvOk Tryz.prog envq65 := EnvOk.nil
noncomputable def bq65 : Code := Tryz.f160.body.getD .skip
noncomputable def annq65 : Ann := .none
theorem annq65_ok : AnnOk Tryz.prog 8 bq65 annq65 := (annOk_none _ _ _)
abbrev Aq65 := (List (Int × List UInt8)) × (List (Int × List UInt8))
abbrev Yq65 := Unit
def fnq65 {β : Type} : Aq65 → (Yq65 → Option β) → Option β := fun (o1,o2) exit => (exit ())
def fnDq65 (a : Aq65) : Option Yq65 := fnq65 a some
theorem fnq65_nat (a : Aq65) (k : Yq65 → Ans) : fnq65 a k = bindO (fnDq65 a) k := by
  obtain ⟨o1,o2⟩ := a
  simp only [fnDq65,fnq65,bindO_cond,bindO_assoc,bindO_none,bindO_pure,bindO_elim,bindO_unP,bindO_empty]
def argsq65 : Aq65 → List AV × List AE.Obj := fun (o1,o2) => ([.ptr 0 0],[.cells [.map 1,.map 2],.mp .i64 .str o1,.mp .i64 .str o2])
def decPAq65 (l : List AV) (H : List AE.Obj) : Option {a : Aq65 // (l,H) = argsq65 a} := match l,H with
  | [.ptr 0 0],[.cells [.map 1,.map 2],.mp .i64 .str o1,.mp .i64 .str o2] => some ⟨(o1,o2),rfl⟩
  | _,_ => none
def decAq65 (l : List AV) (H : List AE.Obj) : Option Aq65 := pk (decPAq65 l H)
theorem decAq65_ok (l : List AV) (H : List AE.Obj) (a : Aq65) (h : decAq65 l H = some a) : (l,H) = argsq65 a := pk_ok (o := decPAq65 l H) h
def outq65 : Aq65 → (AV → List AE.Obj → Ans) → Yq65 → Ans := fun (o1,o2) K => fun _ => K (.tup []) [.cells [.map 3,.map 2],.mp .i64 .str o1,.mp .i64 .str o2,.mp .i64 .str ([])]
theorem fnq65_ok (a : Aq65) (K : AV → List AE.Obj → Ans) : fnE Tryz.tab envq65 noHint 0 70 160 Tryz.f160.ntmps Tryz.f160.results.toList annq65 bq65 (argsq65 a).1 (argsq65 a).2 K = fnq65 a (outq65 a K) := by kernel_rfl
def vFq65 (a : Aq65) (K : AV → List AE.Obj → Ans) : Ans := bindO (fnDq65 a) fun y => outq65 a K y
def Fq65 : List AV → List AE.Obj → (AV → List AE.Obj → Ans) → Ans := fun l H K => bindO (decAq65 l H) fun a => vFq65 a K
theorem Fq65_ok : FuncOk Tryz.prog 160 Fq65 := func_mkD (hint := noHint) (d := 0) (n := 70) mixed tabOk envq65Ok Tryz.func160 (bodySome (by kernel_rfl)) (by decide +kernel) annq65_ok decAq65_ok fnq65_ok fnq65_nat
end Go.Proofs.R7
namespace Go.Proofs.R7
open Go Go.AE
set_option maxRecDepth 100000
--@ shadow_Shadow_string_Loose
noncomputable def envq70 : Env := []
theorem envq70Ok : EnvOk Tryz.prog envq70 := EnvOk.nil
noncomputable def bq70 : Code := Tryz.f98.body.getD .skip
noncomputable def annq70 : Ann := .none
theorem annq70_ok : AnnOk Tryz.prog 10 bq70 annq70 := (annOk_none _ _ _)
abbrev Aq70 := (List (Int × List UInt8)) × (List (Int × List UInt8))
abbrev Yq70 := (Int)
def fnq70 {β : Type} : Aq70 → (Yq70 → Option β) → Option β := fun (o1,o2) exit => (exit ((↑(List.length o2) : Int)))
def fnDq70 (a : Aq70) : Option Yq70 := fnq70 a some
theorem fnq70_nat (a : Aq70) (k : Yq70 → Ans) : fnq70 a k = bindO (fnDq70 a) k := by
  obtain ⟨o1,o2⟩ := a
  simp only [fnDq70,fnq70,bindO_cond,bindO_assoc,bindO_none,bindO_pure,bindO_elim,bindO_unP,bindO_empty]
def argsq70 : Aq70 → List AV × List AE.Obj := fun (o1,o2) => ([.ptr 0 0],[.cells [.map 1,.map 2],.mp .i64 .str o1,.mp .i64 .str o2])
def decPAq70 (l : List AV) (H : List AE.Obj) : Option {a : Aq70 // (l,H) = argsq70 a} := match l,H with
  | [.ptr 0 0],[.cells [.map 1,.map 2],.mp .i64 .str o1,.mp .i64 .str o2] => some ⟨(o1,o2),rfl⟩
  | _,_ => none
def decAq70 (l : List AV) (H : List AE.Obj) : Option Aq70 := pk (decPAq70 l H)
theorem decAq70_ok (l : List AV) (H : List AE.Obj) (a : Aq70) (h : decAq70 l H = some a) : (l,H) = argsq70 a := pk_ok (o := decPAq70 l H) h
def outq70 : Aq70 → (AV → List AE.Obj → Ans) → Yq70 → Ans := fun (o1,o2) K => fun r_y => K (.int .i64 r_y) [.cells [.map 1,.map 2],.mp .i64 .str o1,.mp .i64 .str o2]
theorem fnq70_ok (a : Aq70) (K : AV → List AE.Obj → Ans) : fnE Tryz.tab envq70 noHint 0 70 98 Tryz.f98.ntmps Tryz.f98.results.toList annq70 bq70 (argsq70 a).1 (argsq70 a).2 K = fnq70 a (outq70 a K) := by kernel_rfl
def vFq70 (a : Aq70) (K : AV → List AE.Obj → Ans) : Ans := bindO (fnDq70 a) fun y => outq70 a K y
def Fq70 : List AV → List AE.Obj → (AV → List AE.Obj → Ans) → Ans := fun l H K => bindO (decAq70 l H) fun a => vFq70 a K
theorem Fq70_ok : FuncOk Tryz.prog 98 Fq70 := func_mkD (hint := noHint) (d := 0) (n := 70) mixed tabOk envq70Ok Tryz.func98 (bodySome (by kernel_rfl)) (by decide +kernel) annq70_ok decAq70_ok fnq70_ok fnq70_nat
--@ shadow_Shadow_string_Fresh
noncomputable def envq66 : Env := [(163,.func Fq73)]
theorem envq66Ok : EnvOk Tryz.prog envq66 := EnvOk.cons Fq73_ok (EnvOk.nil)
noncomputable def bq66 : Code := Tryz.f101.body.getD .skip
noncomputable def annq66 : Ann := .none
theorem annq66_ok : AnnOk Tryz.prog 11 bq66 annq66 := (annOk_none _ _ _)
abbrev Aq66 := (List (Int × List UInt8)) × (List (Int × List UInt8))
abbrev Yq66 := Unit
def fnq66 {β : Type} : Aq66 → (Yq66 → Option β) → Option β := fun (o1,o2) exit => (bindO (fnDq73 (o2)) fun _ => (exit ()))
def fnDq66 (a : Aq66) : Option Yq66 := fnq66 a some
theorem fnq66_nat (a : Aq66) (k : Yq66 → Ans) : fnq66 a k = bindO (fnDq66 a) k := by
  obtain ⟨o1,o2⟩ := a
  simp only [fnDq66,fnq66,bindO_cond,bindO_assoc,bindO_none,bindO_pure,bindO_elim,bindO_unP,bindO_empty]
def argsq66 : Aq66 → List AV × List AE.Obj := fun (o1,o2) => ([.ptr 0 0],[.cells [.map 1,.map 2],.mp .i64 .str o1,.mp .i64 .str o2])
def decPAq66 (l : List AV) (H : List AE.Obj) : Option {a : Aq66 // (l,H) = argsq66 a} := match l,H with
  | [.ptr 0 0],[.cells [.map 1,.map 2],.mp .i64 .str o1,.mp .i64 .str o2] => some ⟨(o1,o2),rfl⟩
  | _,_ => none
def decAq66 (l : List AV) (H : List AE.Obj) : Option Aq66 := pk (decPAq66 l H)
theorem decAq66_ok (l : List AV) (H : List AE.Obj) (a : Aq66) (h : decAq66 l H = some a) : (l,H) = argsq66 a := pk_ok (o := decPAq66 l H) h
def outq66 : Aq66 → (AV → List AE.Obj → Ans) → Yq66 → Ans := fun (o1,o2) K => fun _ => K (.fn (Fn.func 205) [] [.ptr 3 0]) [.cells [.map 1,.map 2],.mp .i64 .str o1,.mp .i64 .str o2,.cells [.map 2]]
theorem fnq66_ok (a : Aq66) (K : AV → List AE.Obj → Ans) : fnE Tryz.tab envq66 noHint 0 70 101 Tryz.f101.ntmps Tryz.f101.results.toList annq66 bq66 (argsq66 a).1 (argsq66 a).2 K = fnq66 a (outq66 a K) := by kernel_rfl
def vFq66 (a : Aq66) (K : AV → List AE.Obj → Ans) : Ans := bindO (fnDq66 a) fun y => outq66 a K y
def Fq66 : List AV → List AE.Obj → (AV → List AE.Obj → Ans) → Ans := fun l H K => bindO (decAq66 l H) fun a => vFq66 a K
theorem Fq66_ok : FuncOk Tryz.prog 101 Fq66 := func_mkD (hint := noHint) (d := 0) (n := 70) mixed tabOk envq66Ok Tryz.func101 (bodySome (by kernel_rfl)) (by decide +kernel) annq66_ok decAq66_ok fnq66_ok fnq66_nat
--@ shadow_Shadow_string_Get
noncomputable def envq67 : Env := []
theorem envq67Ok : EnvOk Tryz.prog envq67 := EnvOk.nil
noncomputable def bq67 : Code := Tryz.f113.body.getD .skip
noncomputable def annq67 : Ann := .none
theorem annq67_ok : AnnOk Tryz.prog 36 bq67 annq67 := (annOk_none _ _ _)
abbrev Aq67 := (Int) × (List (Int × List UInt8)) × (List (Int × List UInt8))
abbrev Yq67 := (List UInt8) × (Bool)
def fnq67 {β : Type} : Aq67 → (Yq67 → Option β) → Option β := fun (a1,o1,o2) exit => (bif mhas a1 o2 then (exit (mget a1 [] o2,true)) else (exit (mget a1 [] o1,mhas a1 o1)))
def fnDq67 (a : Aq67) : Option Yq67 := fnq67 a some
theorem fnq67_nat (a : Aq67) (k : Yq67 → Ans) : fnq67 a k = bindO (fnDq67 a) k := by
  obtain ⟨a1,o1,o2⟩ := a
  simp only [fnDq67,fnq67,bindO_cond,bindO_assoc,bindO_none,bindO_pure,bindO_elim,bindO_unP,bindO_empty]
def argsq67 : Aq67 → List AV × List AE.Obj := fun (a1,o1,o2) => ([.ptr 0 0,.int .i64 a1],[.cells [.map 1,.map 2],.mp .i64 .str o1,.mp .i64 .str o2])
def decPAq67 (l : List AV) (H : List AE.Obj) : Option {a : Aq67 // (l,H) = argsq67 a} := match l,H with
  | [.ptr 0 0,.int .i64 a1],[.cells [.map 1,.map 2],.mp .i64 .str o1,.mp .i64 .str o2] => some ⟨(a1,o1,o2),rfl⟩
  | _,_ => none
def decAq67 (l : List AV) (H : List AE.Obj) : Option Aq67 := pk (decPAq67 l H)
theorem decAq67_ok (l : List AV) (H : List AE.Obj) (a : Aq67) (h : decAq67 l H = some a) : (l,H) = argsq67 a := pk_ok (o := decPAq67 l H) h
def outq67 : Aq67 → (AV → List AE.Obj → Ans) → Yq67 → Ans := fun (a1,o1,o2) K => unP fun r_0_y r_1_y => K (.tup [.str r_0_y,.bool r_1_y]) [.cells [.map 1,.map 2],.mp .i64 .str o1,.mp .i64 .str o2]
theorem fnq67_ok (a : Aq67) (K : AV → List AE.Obj → Ans) : fnE Tryz.tab envq67 noHint 0 70 113 Tryz.f113.ntmps Tryz.f113.results.toList annq67 bq67 (argsq67 a).1 (argsq67 a).2 K = fnq67 a (outq67 a K) := by kernel_rfl
def vFq67 (a : Aq67) (K : AV → List AE.Obj → Ans) : Ans := bindO (fnDq67 a) fun y => outq67 a K y
def Fq67 : List AV → List AE.Obj → (AV → List AE.Obj → Ans) → Ans := fun l H K => bindO (decAq67 l H) fun a => vFq67 a K
theorem Fq67_ok : FuncOk Tryz.prog 113 Fq67 := func_mkD (hint := noHint) (d := 0) (n := 70) mixed tabOk envq67Ok Tryz.func113 (bodySome (by kernel_rfl)) (by decide +kernel) annq67_ok decAq67_ok fnq67_ok fnq67_nat
end Go.Proofs.R7
namespace Go.Proofs.R7
open Go Go.AE
noncomputable def base7x : Env := [(140, .pure Fq32), (68, .pure Fq26), (117, .pure Fq31), (116, .pure Fq29), (108, .func Fq78), (28, .func Fq13), (37, .pure Fq28), (161, .func Fq8), (210, .pure Fq62), (169, .func Fq55), (170, .func Fq63), (171, .func Fq60), (241, .pure Fq77), (218, .pure Fq75), (181, .func Fq10), (182, .func Fq12), (159, .func Fq9), (106, .func Fq61), (96, .func Fq57), (238, .pure Fq37), (211, .pure Fq34), (189, .pure Fq24), (184, .pure Fq18), (121, .pure Fq20), (220, .func Fq0), (242, .pure Fq5), (221, .func Fq2), (222, .func Fq3), (185, .pure Fq1), (123, .pure Fq4), (122, .pure Fq56), (172, .pure Fq36), (141, .func Fq11), (115, .func Fq6), (114, .func Fq7), (118, .func Fq79), (177, .func Fq59), (129, .func Fq19), (188, .func Fq23), (130, .func Fq21), (131, .func Fq22), (216, .pure Fq33), (178, .pure Fq35), (209, .func Fq58), (260, .pure Fq42), (165, .pure Fq43), (208, .func Fq39), (237, .func Fq76), (207, .func Fq74), (164, .pure Fq38), (102, .pure Fq41), (261, .func Fq40), (162, .func Fq72), (100, .func Fq71), (163, .func Fq73), (93, .func Fq64), (104, .func Fq68), (158, .func Fq69), (160, .func Fq65), (98, .func Fq70), (101, .func Fq66), (113, .func Fq67), (109, .pure Fstrings_Repeat), (119, .func FBuilder_String), (183, .func FBuilder_copyCheck), (100205, .iter (eachBeginC .str) (eachNext .str))]
theorem base7x_ok : EnvOk Tryz.prog base7x := EnvOk.cons Fq32_ok (EnvOk.cons Fq26_ok (EnvOk.cons Fq31_ok (EnvOk.cons Fq29_ok (EnvOk.cons Fq78_ok (EnvOk.cons Fq13_ok (EnvOk.cons Fq28_ok (EnvOk.cons Fq8_ok (EnvOk.cons Fq62_ok (EnvOk.cons Fq55_ok (EnvOk.cons Fq63_ok (EnvOk.cons Fq60_ok (EnvOk.cons Fq77_ok (EnvOk.cons Fq75_ok (EnvOk.cons Fq10_ok (EnvOk.cons Fq12_ok (EnvOk.cons Fq9_ok (EnvOk.cons Fq61_ok (EnvOk.cons Fq57_ok (EnvOk.cons Fq37_ok (EnvOk.cons Fq34_ok (EnvOk.cons Fq24_ok (EnvOk.cons Fq18_ok (EnvOk.cons Fq20_ok (EnvOk.cons Fq0_ok (EnvOk.cons Fq5_ok (EnvOk.cons Fq2_ok (EnvOk.cons Fq3_ok (EnvOk.cons Fq1_ok (EnvOk.cons Fq4_ok (EnvOk.cons Fq56_ok (EnvOk.cons Fq36_ok (EnvOk.cons Fq11_ok (EnvOk.cons Fq6_ok (EnvOk.cons Fq7_ok (EnvOk.cons Fq79_ok (EnvOk.cons Fq59_ok (EnvOk.cons Fq19_ok (EnvOk.cons Fq23_ok (EnvOk.cons Fq21_ok (EnvOk.cons Fq22_ok (EnvOk.cons Fq33_ok (EnvOk.cons Fq35_ok (EnvOk.cons Fq58_ok (EnvOk.cons Fq42_ok (EnvOk.cons Fq43_ok (EnvOk.cons Fq39_ok (EnvOk.cons Fq76_ok (EnvOk.cons Fq74_ok (EnvOk.cons Fq38_ok (EnvOk.cons Fq41_ok (EnvOk.cons Fq40_ok (EnvOk.cons Fq72_ok (EnvOk.cons Fq71_ok (EnvOk.cons Fq73_ok (EnvOk.cons Fq64_ok (EnvOk.cons Fq68_ok (EnvOk.cons Fq69_ok (EnvOk.cons Fq65_ok (EnvOk.cons Fq70_ok (EnvOk.cons Fq66_ok (EnvOk.cons Fq67_ok (EnvOk.cons Fstrings_Repeat_ok (EnvOk.cons FBuilder_String_ok (EnvOk.cons FBuilder_copyCheck_ok (EnvOk.cons (eachBeginC_eq ▸ iter205_spec) (EnvOk.nil))))))))))))))))))))))))))))))))))))))))))))))))))))))))))))))))))
def runs7x : List RunI := [
  ⟨21, false, []⟩,
  ⟨22, false, []⟩,
  ⟨23, false, []⟩,
  ⟨24, false, []⟩,
  ⟨26, false, [(0, [0, 2, 3, 17, 104])]⟩,
  ⟨27, false, [(0, [7, 9, 26]), (2, [7, 9, 44, 45])]⟩,
  ⟨29, false, [(0, [8, 28, 29, 30])]⟩,
  ⟨30, false, []⟩,
  ⟨33, false, []⟩,
  ⟨35, false, []⟩,
  ⟨43, true, [(0, [1, 5, 31, 32, 33])]⟩,
  ⟨45, true, []⟩,
  ⟨47, true, []⟩,
  ⟨69, false, []⟩,
  ⟨70, false, []⟩,
  ⟨71, false, []⟩,
  ⟨94, false, []⟩,
  ⟨95, false, [(0, [2, 3, 4, 24, 79])]⟩,
  ⟨97, false, []⟩,
  ⟨99, false, [(0, [3, 4, 10, 16])]⟩,
  ⟨103, false, [(1, [7, 9, 10])]⟩,
  ⟨105, false, []⟩,
  ⟨107, false, []⟩,
  ⟨110, false, []⟩,
  ⟨111, false, [(0, [0, 27, 28, 29]), (2, [0, 6, 27, 28, 29, 34, 35, 36])]⟩,
  ⟨112, false, []⟩,
  ⟨127, true, []⟩,
  ⟨157, false, []⟩,
  ⟨166, false, []⟩,
  ⟨167, false, []⟩,
  ⟨168, false, []⟩,
  ⟨173, true, []⟩,
  ⟨179, false, []⟩,
  ⟨180, false, []⟩,
  ⟨212, true, []⟩,
  ⟨213, true, []⟩,
  ⟨217, false, [(0, [0])]⟩,
  ⟨240, false, []⟩,
  ⟨259, false, [(0, [0, 1, 8, 12, 13])]⟩]
theorem runs7x_ok : runs7x.all (RunI.ok Tryz.prog) = true := by kernel_rfl
noncomputable def lo7x : Lo := loQ Tryz.prog Tryz.tab base7x runs7x 40
theorem lo7x_ok : LoOk Tryz.prog lo7x := loQ_ok mixed tabOk base7x_ok runs7x_ok 40
end Go.Proofs.R7
namespace Go.Proofs.R7
open Go Go.AE
set_option maxRecDepth 100000
def begunH : List AE.Obj :=
  [.cells [(.own 2), (.map 3), (.own 4), (.int .i64 33), (.own 5), (.int .i64 0), (.bool false)],
  .cells [(.ptr 0 0), (.ptr 6 0), (.ptr 7 0), (.int .i64 15), (.int .i64 24), (.int .i64 2), (.int .i64 0), (.int .i64 25), (.int .i64 0), (.bool true), (.bool false), (.ptr 8 0)],
  .arr .str (List.replicate 15 (List.replicate 64 0) ++ [([76, 0, 0, 0, 0, 0, 2, 0, 0, 0, 0, 0, 25, 0, 0, 7, 97, 220, 101] ++ List.replicate 45 0), ([76, 0, 0, 0, 0, 0, 1, 0, 0, 0, 0, 0, 1, 0, 0, 10, 175, 100, 78] ++ List.replicate 45 0)] ++ List.replicate 22 (List.replicate 64 0)),
  .mp .i64 .str [],
  .arr (.st (.pair (.int .i64) .str)) [],
  .arr (.int .i64) [],
  .cells [(.ptr 0 0), (.int .i64 15), (.int .i64 2)],
  .cells [(.ptr 0 0), (.int .i64 17), (.int .i64 22)],
  .cells [(.map 9), (.map 10)],
  .mp .i64 .str [],
  .mp .i64 .str []]
def begunV : AV := (.tup [(.ptr 0 0), (.ptr 1 0)])
theorem runBegun (K : AV → List AE.Obj → Ans) : runQ Tryz.tab lo7x ⟨35, false, []⟩ Tryz.f35 [.agg [.int .i64 3, .int .i64 1, .int .i64 24]] [] K = K begunV begunH := by kernel_rfl
noncomputable def FBegun : List AV → List AE.Obj → (AV → List AE.Obj → Ans) → Ans := fun l H K => match l, H with
  | [.agg [.int .i64 a, .int .i64 b, .int .i64 c]], [] => cond (eqB a 3 && eqB b 1 && eqB c 24) (K begunV begunH) none
  | _, _ => none
theorem FBegun_ok : FuncOk Tryz.prog 35 FBegun :=
  konstHQ (i := ⟨35, false, []⟩) mixed tabOk lo7x_ok Tryz.func35 (by kernel_rfl) (by decide +kernel) (fun l H K res h => by
    unfold FBegun at h
    split at h
    · replace h := cond_none h
      simp only [Bool.and_eq_true, eqB_eq, beq_iff_eq] at h
      obtain ⟨⟨⟨rfl, rfl⟩, rfl⟩, h⟩ := h
      exact ⟨rfl, rfl, h⟩
    · cases h) runBegun
end Go.Proofs.R7
namespace Go.Proofs.R7
open Go Go.AE
noncomputable def base20 : Env := [(140, .pure Fq32), (68, .pure Fq26), (117, .pure Fq31), (116, .pure Fq29), (108, .func Fq78), (28, .func Fq13), (37, .pure Fq28), (161, .func Fq8), (210, .pure Fq62), (169, .func Fq55), (171, .func Fq60), (241, .pure Fq77), (218, .pure Fq75), (181, .func Fq10), (182, .func Fq12), (159, .func Fq9), (106, .func Fq61), (96, .func Fq57), (238, .pure Fq37), (211, .pure Fq34), (189, .pure Fq24), (184, .pure Fq18), (121, .pure Fq20), (220, .func Fq0), (242, .pure Fq5), (221, .func Fq2), (222, .func Fq3), (185, .pure Fq1), (123, .pure Fq4), (122, .pure Fq56), (172, .pure Fq36), (141, .func Fq11), (115, .func Fq6), (114, .func Fq7), (118, .func Fq79), (177, .func Fq59), (129, .func Fq19), (188, .func Fq23), (130, .func Fq21), (131, .func Fq22), (216, .pure Fq33), (178, .pure Fq35), (209, .func Fq58), (260, .pure Fq42), (165, .pure Fq43), (208, .func Fq39), (237, .func Fq76), (207, .func Fq74), (164, .pure Fq38), (102, .pure Fq41), (261, .func Fq40), (109, .pure Fstrings_Repeat), (119, .func FBuilder_String), (183, .func FBuilder_copyCheck), (100205, .iter (eachBeginC .str) (eachNext .str)), (35, .func FBegun)]
theorem base20_ok : EnvOk Tryz.prog base20 := EnvOk.cons Fq32_ok (EnvOk.cons Fq26_ok (EnvOk.cons Fq31_ok (EnvOk.cons Fq29_ok (EnvOk.cons Fq78_ok (EnvOk.cons Fq13_ok (EnvOk.cons Fq28_ok (EnvOk.cons Fq8_ok (EnvOk.cons Fq62_ok (EnvOk.cons Fq55_ok (EnvOk.cons Fq60_ok (EnvOk.cons Fq77_ok (EnvOk.cons Fq75_ok (EnvOk.cons Fq10_ok (EnvOk.cons Fq12_ok (EnvOk.cons Fq9_ok (EnvOk.cons Fq61_ok (EnvOk.cons Fq57_ok (EnvOk.cons Fq37_ok (EnvOk.cons Fq34_ok (EnvOk.cons Fq24_ok (EnvOk.cons Fq18_ok (EnvOk.cons Fq20_ok (EnvOk.cons Fq0_ok (EnvOk.cons Fq5_ok (EnvOk.cons Fq2_ok (EnvOk.cons Fq3_ok (EnvOk.cons Fq1_ok (EnvOk.cons Fq4_ok (EnvOk.cons Fq56_ok (EnvOk.cons Fq36_ok (EnvOk.cons Fq11_ok (EnvOk.cons Fq6_ok (EnvOk.cons Fq7_ok (EnvOk.cons Fq79_ok (EnvOk.cons Fq59_ok (EnvOk.cons Fq19_ok (EnvOk.cons Fq23_ok (EnvOk.cons Fq21_ok (EnvOk.cons Fq22_ok (EnvOk.cons Fq33_ok (EnvOk.cons Fq35_ok (EnvOk.cons Fq58_ok (EnvOk.cons Fq42_ok (EnvOk.cons Fq43_ok (EnvOk.cons Fq39_ok (EnvOk.cons Fq76_ok (EnvOk.cons Fq74_ok (EnvOk.cons Fq38_ok (EnvOk.cons Fq41_ok (EnvOk.cons Fq40_ok (EnvOk.cons Fstrings_Repeat_ok (EnvOk.cons FBuilder_String_ok (EnvOk.cons FBuilder_copyCheck_ok (EnvOk.cons (eachBeginC_eq ▸ iter205_spec) (EnvOk.cons FBegun_ok (EnvOk.nil))))))))))))))))))))))))))))))))))))))))))))))))))))))))
def runs20 : List RunI := [
  ⟨21, false, []⟩,
  ⟨22, false, []⟩,
  ⟨23, false, []⟩,
  ⟨24, false, []⟩,
  ⟨26, false, [(0, [0, 2, 3, 17, 104])]⟩,
  ⟨27, false, [(0, [7, 9, 26]), (2, [7, 9, 44, 45])]⟩,
  ⟨29, false, [(0, [8, 28, 29, 30])]⟩,
  ⟨30, false, []⟩,
  ⟨33, false, []⟩,
  ⟨36, false, [(0, [0, 1, 2, 26, 27])]⟩,
  ⟨38, false, [(0, [0, 1, 8, 18, 19])]⟩,
  ⟨39, false, []⟩,
  ⟨40, true, []⟩,
  ⟨41, false, []⟩,
  ⟨71, false, []⟩,
  ⟨93, false, []⟩,
  ⟨94, false, []⟩,
  ⟨95, false, [(0, [2, 3, 4, 24, 79])]⟩,
  ⟨97, false, []⟩,
  ⟨98, false, []⟩,
  ⟨99, false, [(0, [3, 4, 10, 16])]⟩,
  ⟨100, false, []⟩,
  ⟨101, false, []⟩,
  ⟨103, false, [(1, [7, 9, 10])]⟩,
  ⟨104, false, [(0, [1, 12, 23])]⟩,
  ⟨105, false, []⟩,
  ⟨107, false, []⟩,
  ⟨110, false, []⟩,
  ⟨111, false, [(0, [0, 27, 28, 29]), (2, [0, 6, 27, 28, 29, 34, 35, 36])]⟩,
  ⟨112, false, []⟩,
  ⟨113, false, []⟩,
  ⟨120, true, []⟩,
  ⟨157, false, []⟩,
  ⟨158, false, []⟩,
  ⟨160, false, []⟩,
  ⟨162, false, []⟩,
  ⟨163, false, []⟩,
  ⟨166, false, []⟩,
  ⟨167, false, []⟩,
  ⟨168, false, []⟩,
  ⟨170, false, []⟩,
  ⟨173, true, []⟩,
  ⟨179, false, []⟩,
  ⟨180, false, []⟩,
  ⟨212, true, []⟩,
  ⟨213, true, []⟩,
  ⟨217, false, [(0, [0])]⟩,
  ⟨240, false, []⟩,
  ⟨259, false, [(0, [0, 1, 8, 12, 13])]⟩]
theorem runs20_ok : runs20.all (RunI.ok Tryz.prog) = true := by kernel_rfl
noncomputable def lo20 : Lo := loQ Tryz.prog Tryz.tab base20 runs20 40
theorem lo20_ok : LoOk Tryz.prog lo20 := loQ_ok mixed tabOk base20_ok runs20_ok 40
end Go.Proofs.R7
namespace Go.Proofs.R7
open Go Go.AE
set_option maxRecDepth 100000
def ilaw20_works : RunI := ⟨34, true, []⟩
theorem runlaw20_works (K : AV → List AE.Obj → Ans) : runQ Tryz.tab lo20 ilaw20_works Tryz.f34 [] [] K = K (.bool true) [] := by kernel_rfl
abbrev Alaw20_works := Unit
abbrev Ylaw20_works := Bool
def fnDlaw20_works (_ : Alaw20_works) : Option Ylaw20_works := some true
def decAlaw20_works (l : List AV) : Option Alaw20_works := match l with
  | [] => some ()
  | _ => none
def Flaw20_works : List AV → (AV → Ans) → Ans := fun l K => bindO (decAlaw20_works l) fun a => bindO (fnDlaw20_works a) fun y => K (.bool y)
theorem Flaw20_works_ok : PureOk Tryz.prog 34 Flaw20_works :=
  konstQP (i := ilaw20_works) mixed tabOk lo20_ok Tryz.func34 (by kernel_rfl) (by decide +kernel) (v := .bool true) rfl (fun l K res h => by
    cases l with
    | nil => exact ⟨rfl, h⟩
    | cons _ _ => cases h) runlaw20_works
end Go.Proofs.R7
namespace Go.Proofs.R7E
open Go Go.AE
open Go.Proofs.R7 (tabOk mixed Flaw20_works Flaw20_works_ok fnDlaw20_works Fstrings_Repeat_ok FBuilder_copyCheck_ok FBuilder_String_ok FBuilder_StringAgain_ok iter205_spec)
set_option maxRecDepth 100000
--@ layout_within
noncomputable def envq32 : Env := []
theorem envq32Ok : EnvOk Tryz.prog envq32 := EnvOk.nil
noncomputable def bq32 : Code := Tryz.f140.body.getD .skip
noncomputable def Lq32_n0 : Code := codeAt [1,0] bq32
noncomputable def annLq32_n0 : Ann := .none
theorem annLq32_n0_ok : AnnOk Tryz.prog 15 Lq32_n0 annLq32_n0 := (annOk_none _ _ _)
abbrev Iq32_n0 := (Int) × (Int) × (Int)
abbrev Yq32_n0 := (Bool)
def Sq32_n0 : Iq32_n0 → St := fun (t0,t1,t2) => { env := [(0,.int .i64 t0),(1,.int .i64 t1),(2,.int .i64 t2)],stk := [[]],H := [],blk := 573440 }
def decPq32_n0 (s : St) : Option {x : Iq32_n0 // s = Sq32_n0 x} := match s with
  | { env := [(0,.int .i64 t0),(1,.int .i64 t1),(2,.int .i64 t2)],stk := [[]],H := [],blk := 573440 } => some ⟨(t0,t1,t2),rfl⟩
  | _ => none
def decq32_n0 (s : St) : Option Iq32_n0 := pk (decPq32_n0 s)
theorem decq32_n0_ok (s : St) (x : Iq32_n0) (h : decq32_n0 s = some x) : s = Sq32_n0 x := pk_ok (o := decPq32_n0 s) h
def outq32_n0 : Iq32_n0 → (Ex → St → Ans) → Yq32_n0 → Ans := fun (t0,t1,t2) K => fun t6_y => K (Ex.norm) { env := [(6,.bool t6_y)],stk := [[]],H := [],blk := 573440 }
def nodeq32_n0 {β : Type} : Iq32_n0 → (Yq32_n0 → Option β) → Option β := fun (t0,t1,t2) exit => (bif decide (t0 ≥ t1) then (exit (decide (t0 ≤ t2))) else (exit (false)))
def nodeDq32_n0 (i : Iq32_n0) : Option Yq32_n0 := nodeq32_n0 i some
theorem nodeq32_n0_nat (i : Iq32_n0) (k : Yq32_n0 → Ans) : nodeq32_n0 i k = bindO (nodeDq32_n0 i) k := by
  obtain ⟨t0,t1,t2⟩ := i
  simp only [nodeDq32_n0,nodeq32_n0,bindO_cond,bindO_assoc,bindO_none,bindO_pure,bindO_elim,bindO_unP,bindO_empty]
theorem nodeq32_n0_ok (i : Iq32_n0) (K : Ex → St → Ans) : codeI Tryz.tab envq32 noHint (codeD Tryz.tab envq32 noHint 0 64) 70 15 annLq32_n0 Lq32_n0 (weakP 0 (exk [6] [6] []) K) (Sq32_n0 i) = nodeq32_n0 i (outq32_n0 i K) := by kernel_rfl
theorem GNq32_n0_ok : CSum Tryz.prog 15 Lq32_n0 (sumN decq32_n0 nodeDq32_n0 outq32_n0) := csum_node mixed tabOk envq32Ok 0 (exk [6] [6] []) annLq32_n0_ok decq32_n0_ok nodeq32_n0_ok nodeq32_n0_nat
noncomputable def Gq32_n0 : (Ex → St → Ans) → St → Ans := (sumN decq32_n0 nodeDq32_n0 outq32_n0)
theorem Gq32_n0_ok : CSum Tryz.prog 15 Lq32_n0 Gq32_n0 := GNq32_n0_ok
noncomputable def annq32 : Ann := (.seq .none (.seq (.cut 0 [0,1,2] Gq32_n0) .none))
theorem annq32_ok : AnnOk Tryz.prog 15 bq32 annq32 := ⟨(annOk_none _ _ _),⟨Gq32_n0_ok,(annOk_none _ _ _)⟩⟩
abbrev Aq32 := (Int) × (Int) × (Int)
abbrev Yq32 := (Bool)
def fnq32 {β : Type} : Aq32 → (Yq32 → Option β) → Option β := fun (a0,a1,a2) exit => (bindO (nodeDq32_n0 (a0,a1,a2)) fun t6 => (exit (t6)))
def fnDq32 (a : Aq32) : Option Yq32 := fnq32 a some
theorem fnq32_nat (a : Aq32) (k : Yq32 → Ans) : fnq32 a k = bindO (fnDq32 a) k := by
  obtain ⟨a0,a1,a2⟩ := a
  simp only [fnDq32,fnq32,bindO_cond,bindO_assoc,bindO_none,bindO_pure,bindO_elim,bindO_unP,bindO_empty]
def argsq32 : Aq32 → List AV := fun (a0,a1,a2) => [.int .i64 a0,.int .i64 a1,.int .i64 a2]
def decPAq32 (l : List AV) : Option {a : Aq32 // l = argsq32 a} := match l with
  | [.int .i64 a0,.int .i64 a1,.int .i64 a2] => some ⟨(a0,a1,a2),rfl⟩
  | _ => none
def decAq32 (l : List AV) : Option Aq32 := pk (decPAq32 l)
theorem decAq32_ok (l : List AV) (a : Aq32) (h : decAq32 l = some a) : l = argsq32 a := pk_ok (o := decPAq32 l) h
def rendq32 : Aq32 → Yq32 → AV := fun (a0,a1,a2) => fun r_y => .bool r_y
theorem rendq32_ok : ∀ (a : Aq32) (y : Yq32),(rendq32 a y).closed1 = true := by
  rintro ⟨a0,a1,a2⟩ y <;> first | rfl | exact Empty.elim y
theorem fnq32_ok (a : Aq32) : fnE Tryz.tab envq32 noHint 0 70 140 Tryz.f140.ntmps Tryz.f140.results.toList annq32 bq32 (argsq32 a) [] (fun v _ => some (v,[])) = fnq32 a (fun y => some (rendq32 a y,[])) := by kernel_rfl
def vFq32 (a : Aq32) (K : AV → Ans) : Ans := bindO (fnDq32 a) fun y => K (rendq32 a y)
def Fq32 : List AV → (AV → Ans) → Ans := fun l K => bindO (decAq32 l) fun a => vFq32 a K
theorem Fq32_ok : PureOk Tryz.prog 140 Fq32 := pure_mkD (hint := noHint) (d := 0) (n := 70) mixed tabOk envq32Ok Tryz.func140 (bodySome (by kernel_rfl)) (by decide +kernel) annq32_ok decAq32_ok fnq32_ok fnq32_nat rendq32_ok
--@ layout_Check
noncomputable def envq26 : Env := [(140,.pure Fq32)]
theorem envq26Ok : EnvOk Tryz.prog envq26 := EnvOk.cons Fq32_ok (EnvOk.nil)
noncomputable def bq26 : Code := Tryz.f68.body.getD .skip
noncomputable def Lq26_n0 : Code := codeAt [1,0,0] bq26
noncomputable def annLq26_n0 : Ann := .none
theorem annLq26_n0_ok : AnnOk Tryz.prog 19 Lq26_n0 annLq26_n0 := (annOk_none _ _ _)
abbrev Iq26_n0 := (Int) × (Int) × (Int)
abbrev Yq26_n0 := (Bool)
def Sq26_n0 : Iq26_n0 → St := fun (o0_0,o0_1,o0_2) => { env := [(1,.ptr 0 0)],stk := [[]],H := [.cells [.int .i64 o0_0,.int .i64 o0_1,.int .i64 o0_2]],blk := 278528 }
def decPq26_n0 (s : St) : Option {x : Iq26_n0 // s = Sq26_n0 x} := match s with
  | { env := [(1,.ptr 0 0)],stk := [[]],H := [.cells [.int .i64 o0_0,.int .i64 o0_1,.int .i64 o0_2]],blk := 278528 } => some ⟨(o0_0,o0_1,o0_2),rfl⟩
  | _ => none
def decq26_n0 (s : St) : Option Iq26_n0 := pk (decPq26_n0 s)
theorem decq26_n0_ok (s : St) (x : Iq26_n0) (h : decq26_n0 s = some x) : s = Sq26_n0 x := pk_ok (o := decPq26_n0 s) h
def outq26_n0 : Iq26_n0 → (Ex → St → Ans) → Yq26_n0 → Ans := fun (o0_0,o0_1,o0_2) K => fun t18_y => K (Ex.norm) { env := [(18,.bool t18_y)],stk := [[]],H := [],blk := 278528 }
def nodeq26_n0 {β : Type} : Iq26_n0 → (Yq26_n0 → Option β) → Option β := fun (o0_0,o0_1,o0_2) exit => (bindO (fnDq32 (o0_0,(1 : Int),(24 : Int))) fun r => (bif !r then (exit (true)) else (bindO (fnDq32 (o0_1,(1 : Int),(8 : Int))) fun r_2 => (bif !r_2 then (exit (true)) else (bindO (fnDq32 (o0_2,(24 : Int),(200 : Int))) fun r_3 => (exit (!r_3)))))))
def nodeDq26_n0 (i : Iq26_n0) : Option Yq26_n0 := nodeq26_n0 i some
theorem nodeq26_n0_nat (i : Iq26_n0) (k : Yq26_n0 → Ans) : nodeq26_n0 i k = bindO (nodeDq26_n0 i) k := by
  obtain ⟨o0_0,o0_1,o0_2⟩ := i
  simp only [nodeDq26_n0,nodeq26_n0,bindO_cond,bindO_assoc,bindO_none,bindO_pure,bindO_elim,bindO_unP,bindO_empty]
theorem nodeq26_n0_ok (i : Iq26_n0) (K : Ex → St → Ans) : codeI Tryz.tab envq26 noHint (codeD Tryz.tab envq26 noHint 0 64) 70 19 annLq26_n0 Lq26_n0 (weakP 0 (exk [18] [2] []) K) (Sq26_n0 i) = nodeq26_n0 i (outq26_n0 i K) := by kernel_rfl
theorem GNq26_n0_ok : CSum Tryz.prog 19 Lq26_n0 (sumN decq26_n0 nodeDq26_n0 outq26_n0) := csum_node mixed tabOk envq26Ok 0 (exk [18] [2] []) annLq26_n0_ok decq26_n0_ok nodeq26_n0_ok nodeq26_n0_nat
noncomputable def Gq26_n0 : (Ex → St → Ans) → St → Ans := (sumN decq26_n0 nodeDq26_n0 outq26_n0)
theorem Gq26_n0_ok : CSum Tryz.prog 19 Lq26_n0 Gq26_n0 := GNq26_n0_ok
noncomputable def annq26 : Ann := (.seq .none (.seq (.seq (.cut 0 [1] Gq26_n0) .none) .none))
theorem annq26_ok : AnnOk Tryz.prog 19 bq26 annq26 := ⟨(annOk_none _ _ _),⟨⟨Gq26_n0_ok,(annOk_none _ _ _)⟩,(annOk_none _ _ _)⟩⟩
abbrev Aq26 := (Int) × (Int) × (Int)
abbrev Yq26 := (Int)
def fnq26 {β : Type} : Aq26 → (Yq26 → Option β) → Option β := fun (a0_0,a0_1,a0_2) exit => (bindO (nodeDq26_n0 (a0_0,a0_1,a0_2)) fun t18 => (bif t18 then (exit ((3 : Int))) else (exit ((0 : Int)))))
def fnDq26 (a : Aq26) : Option Yq26 := fnq26 a some
theorem fnq26_nat (a : Aq26) (k : Yq26 → Ans) : fnq26 a k = bindO (fnDq26 a) k := by
  obtain ⟨a0_0,a0_1,a0_2⟩ := a
  simp only [fnDq26,fnq26,bindO_cond,bindO_assoc,bindO_none,bindO_pure,bindO_elim,bindO_unP,bindO_empty]
def argsq26 : Aq26 → List AV := fun (a0_0,a0_1,a0_2) => [.agg [.int .i64 a0_0,.int .i64 a0_1,.int .i64 a0_2]]
def decPAq26 (l : List AV) : Option {a : Aq26 // l = argsq26 a} := match l with
  | [.agg [.int .i64 a0_0,.int .i64 a0_1,.int .i64 a0_2]] => some ⟨(a0_0,a0_1,a0_2),rfl⟩
  | _ => none
def decAq26 (l : List AV) : Option Aq26 := pk (decPAq26 l)
theorem decAq26_ok (l : List AV) (a : Aq26) (h : decAq26 l = some a) : l = argsq26 a := pk_ok (o := decPAq26 l) h
def rendq26 : Aq26 → Yq26 → AV := fun (a0_0,a0_1,a0_2) => fun r_y => .int .i64 r_y
theorem rendq26_ok : ∀ (a : Aq26) (y : Yq26),(rendq26 a y).closed1 = true := by
  rintro ⟨a0_0,a0_1,a0_2⟩ y <;> first | rfl | exact Empty.elim y
theorem fnq26_ok (a : Aq26) : fnE Tryz.tab envq26 noHint 0 70 68 Tryz.f68.ntmps Tryz.f68.results.toList annq26 bq26 (argsq26 a) [] (fun v _ => some (v,[])) = fnq26 a (fun y => some (rendq26 a y,[])) := by kernel_rfl
def vFq26 (a : Aq26) (K : AV → Ans) : Ans := bindO (fnDq26 a) fun y => K (rendq26 a y)
def Fq26 : List AV → (AV → Ans) → Ans := fun l K => bindO (decAq26 l) fun a => vFq26 a K
theorem Fq26_ok : PureOk Tryz.prog 68 Fq26 := pure_mkD (hint := noHint) (d := 0) (n := 70) mixed tabOk envq26Ok Tryz.func68 (bodySome (by kernel_rfl)) (by decide +kernel) annq26_ok decAq26_ok fnq26_ok fnq26_nat rendq26_ok
--@ layout_checked
noncomputable def envq30 : Env := [(140,.pure Fq32),(68,.pure Fq26)]
theorem envq30Ok : EnvOk Tryz.prog envq30 := EnvOk.cons Fq32_ok (EnvOk.cons Fq26_ok (EnvOk.nil))
noncomputable def bq30 : Code := Tryz.f120.body.getD .skip
noncomputable def annq30 : Ann := .none
theorem annq30_ok : AnnOk Tryz.prog 18 bq30 annq30 := (annOk_none _ _ _)
abbrev Aq30 := (Int) × (Int) × (Int) × (Int) × (Int)
abbrev Yq30 := (Int)
def fnq30 {β : Type} : Aq30 → (Yq30 → Option β) → Option β := fun (a0_0,a0_1,a0_2,a1,a2) exit => (bindO (fnDq26 (a0_0,a0_1,a0_2)) fun r => (bif r != (0 : Int) then (exit (r)) else (bindO (fnDq32 (a1,(0 : Int),IntKind.wrap .i64 (a2 - (1 : Int)))) fun r_2 => (bif !r_2 then (exit ((3 : Int))) else (exit ((0 : Int)))))))
def fnDq30 (a : Aq30) : Option Yq30 := fnq30 a some
theorem fnq30_nat (a : Aq30) (k : Yq30 → Ans) : fnq30 a k = bindO (fnDq30 a) k := by
  obtain ⟨a0_0,a0_1,a0_2,a1,a2⟩ := a
  simp only [fnDq30,fnq30,bindO_cond,bindO_assoc,bindO_none,bindO_pure,bindO_elim,bindO_unP,bindO_empty]
def argsq30 : Aq30 → List AV := fun (a0_0,a0_1,a0_2,a1,a2) => [.agg [.int .i64 a0_0,.int .i64 a0_1,.int .i64 a0_2],.int .i64 a1,.int .i64 a2]
def decPAq30 (l : List AV) : Option {a : Aq30 // l = argsq30 a} := match l with
  | [.agg [.int .i64 a0_0,.int .i64 a0_1,.int .i64 a0_2],.int .i64 a1,.int .i64 a2] => some ⟨(a0_0,a0_1,a0_2,a1,a2),rfl⟩
  | _ => none
def decAq30 (l : List AV) : Option Aq30 := pk (decPAq30 l)
theorem decAq30_ok (l : List AV) (a : Aq30) (h : decAq30 l = some a) : l = argsq30 a := pk_ok (o := decPAq30 l) h
def rendq30 : Aq30 → Yq30 → AV := fun (a0_0,a0_1,a0_2,a1,a2) => fun r_y => .int .i64 r_y
theorem rendq30_ok : ∀ (a : Aq30) (y : Yq30),(rendq30 a y).closed1 = true := by
  rintro ⟨a0_0,a0_1,a0_2,a1,a2⟩ y <;> first | rfl | exact Empty.elim y
theorem fnq30_ok (a : Aq30) : fnE Tryz.tab envq30 noHint 0 70 120 Tryz.f120.ntmps Tryz.f120.results.toList annq30 bq30 (argsq30 a) [] (fun v _ => some (v,[])) = fnq30 a (fun y => some (rendq30 a y,[])) := by kernel_rfl
def vFq30 (a : Aq30) (K : AV → Ans) : Ans := bindO (fnDq30 a) fun y => K (rendq30 a y)
def Fq30 : List AV → (AV → Ans) → Ans := fun l K => bindO (decAq30 l) fun a => vFq30 a K
theorem Fq30_ok : PureOk Tryz.prog 120 Fq30 := pure_mkD (hint := noHint) (d := 0) (n := 70) mixed tabOk envq30Ok Tryz.func120 (bodySome (by kernel_rfl)) (by decide +kernel) annq30_ok decAq30_ok fnq30_ok fnq30_nat rendq30_ok
--@ layout_of
noncomputable def envq31 : Env := [(68,.pure Fq26)]
theorem envq31Ok : EnvOk Tryz.prog envq31 := EnvOk.cons Fq26_ok (EnvOk.nil)
noncomputable def bq31 : Code := Tryz.f117.body.getD .skip
noncomputable def annq31 : Ann := .none
theorem annq31_ok : AnnOk Tryz.prog 46 bq31 annq31 := (annOk_none _ _ _)
abbrev Aq31 := (Int) × (Int) × (Int)
abbrev Yq31 := (Int) × (Int) × (Int) × (Int) × (Int) × (Int)
def fnq31 {β : Type} : Aq31 → (Yq31 → Option β) → Option β := fun (a0_0,a0_1,a0_2) exit => (bindO (fnDq26 (a0_0,a0_1,a0_2)) fun r => (bif r != (0 : Int) then (exit ((0 : Int),(0 : Int),(0 : Int),(0 : Int),(0 : Int),(0 : Int))) else (exit ((1 : Int),(2 : Int),IntKind.wrap .i64 ((2 : Int) + IntKind.wrap .i64 (Int.tdiv (IntKind.wrap .i64 (IntKind.wrap .i64 (a0_0 + (2 : Int)) - (1 : Int))) (2 : Int))),IntKind.wrap .i64 (IntKind.wrap .i64 ((2 : Int) + IntKind.wrap .i64 (Int.tdiv (IntKind.wrap .i64 (IntKind.wrap .i64 (a0_0 + (2 : Int)) - (1 : Int))) (2 : Int))) + IntKind.wrap .i64 (a0_0 * (2 : Int))),IntKind.wrap .i64 (IntKind.wrap .i64 (IntKind.wrap .i64 ((2 : Int) + IntKind.wrap .i64 (Int.tdiv (IntKind.wrap .i64 (IntKind.wrap .i64 (a0_0 + (2 : Int)) - (1 : Int))) (2 : Int))) + IntKind.wrap .i64 (a0_0 * (2 : Int))) + IntKind.wrap .i64 (a0_1 * (5 : Int))),IntKind.wrap .i64 (IntKind.wrap .i64 (IntKind.wrap .i64 (IntKind.wrap .i64 ((2 : Int) + IntKind.wrap .i64 (Int.tdiv (IntKind.wrap .i64 (IntKind.wrap .i64 (a0_0 + (2 : Int)) - (1 : Int))) (2 : Int))) + IntKind.wrap .i64 (a0_0 * (2 : Int))) + IntKind.wrap .i64 (a0_1 * (5 : Int))) + a0_2)))))
def fnDq31 (a : Aq31) : Option Yq31 := fnq31 a some
theorem fnq31_nat (a : Aq31) (k : Yq31 → Ans) : fnq31 a k = bindO (fnDq31 a) k := by
  obtain ⟨a0_0,a0_1,a0_2⟩ := a
  simp only [fnDq31,fnq31,bindO_cond,bindO_assoc,bindO_none,bindO_pure,bindO_elim,bindO_unP,bindO_empty]
def argsq31 : Aq31 → List AV := fun (a0_0,a0_1,a0_2) => [.agg [.int .i64 a0_0,.int .i64 a0_1,.int .i64 a0_2]]
def decPAq31 (l : List AV) : Option {a : Aq31 // l = argsq31 a} := match l with
  | [.agg [.int .i64 a0_0,.int .i64 a0_1,.int .i64 a0_2]] => some ⟨(a0_0,a0_1,a0_2),rfl⟩
  | _ => none
def decAq31 (l : List AV) : Option Aq31 := pk (decPAq31 l)
theorem decAq31_ok (l : List AV) (a : Aq31) (h : decAq31 l = some a) : l = argsq31 a := pk_ok (o := decPAq31 l) h
def rendq31 : Aq31 → Yq31 → AV := fun (a0_0,a0_1,a0_2) => unP fun r_1_y => unP fun r_2_y => unP fun r_3_y => unP fun r_4_y => unP fun r_5_y r_6_y => .agg [.int .i64 (0),.int .i64 r_1_y,.int .i64 r_2_y,.int .i64 r_3_y,.int .i64 r_4_y,.int .i64 r_5_y,.int .i64 r_6_y]
theorem rendq31_ok : ∀ (a : Aq31) (y : Yq31),(rendq31 a y).closed1 = true := by
  rintro ⟨a0_0,a0_1,a0_2⟩ y <;> first | rfl | exact Empty.elim y
theorem fnq31_ok (a : Aq31) : fnE Tryz.tab envq31 noHint 0 70 117 Tryz.f117.ntmps Tryz.f117.results.toList annq31 bq31 (argsq31 a) [] (fun v _ => some (v,[])) = fnq31 a (fun y => some (rendq31 a y,[])) := by kernel_rfl
def vFq31 (a : Aq31) (K : AV → Ans) : Ans := bindO (fnDq31 a) fun y => K (rendq31 a y)
def Fq31 : List AV → (AV → Ans) → Ans := fun l K => bindO (decAq31 l) fun a => vFq31 a K
theorem Fq31_ok : PureOk Tryz.prog 117 Fq31 := pure_mkD (hint := noHint) (d := 0) (n := 70) mixed tabOk envq31Ok Tryz.func117 (bodySome (by kernel_rfl)) (by decide +kernel) annq31_ok decAq31_ok fnq31_ok fnq31_nat rendq31_ok
--@ layout_Extent
noncomputable def envq27 : Env := [(120,.pure Fq30),(117,.pure Fq31)]
theorem envq27Ok : EnvOk Tryz.prog envq27 := EnvOk.cons Fq30_ok (EnvOk.cons Fq31_ok (EnvOk.nil))
noncomputable def bq27 : Code := Tryz.f40.body.getD .skip
noncomputable def annq27 : Ann := .none
theorem annq27_ok : AnnOk Tryz.prog 21 bq27 annq27 := (annOk_none _ _ _)
abbrev Aq27 := (Int) × (Int) × (Int) × (Int)
abbrev Yq27 := (Int) × (Int)
def fnq27 {β : Type} : Aq27 → (Yq27 → Option β) → Option β := fun (a0_0,a0_1,a0_2,a1) exit => (bindO (fnDq30 (a0_0,a0_1,a0_2,a1,a0_0)) fun r => (bif r != (0 : Int) then (exit ((0 : Int),r)) else (bindO (fnDq31 (a0_0,a0_1,a0_2)) (unP fun r_1 => unP fun r_2 => unP fun r_3 => unP fun r_4 => unP fun r_5 r_6 => (exit (IntKind.wrap .i64 (r_3 + IntKind.wrap .i64 (a1 * (2 : Int))),(0 : Int)))))))
def fnDq27 (a : Aq27) : Option Yq27 := fnq27 a some
theorem fnq27_nat (a : Aq27) (k : Yq27 → Ans) : fnq27 a k = bindO (fnDq27 a) k := by
  obtain ⟨a0_0,a0_1,a0_2,a1⟩ := a
  simp only [fnDq27,fnq27,bindO_cond,bindO_assoc,bindO_none,bindO_pure,bindO_elim,bindO_unP,bindO_empty]
def argsq27 : Aq27 → List AV := fun (a0_0,a0_1,a0_2,a1) => [.agg [.int .i64 a0_0,.int .i64 a0_1,.int .i64 a0_2],.int .i64 a1]
def decPAq27 (l : List AV) : Option {a : Aq27 // l = argsq27 a} := match l with
  | [.agg [.int .i64 a0_0,.int .i64 a0_1,.int .i64 a0_2],.int .i64 a1] => some ⟨(a0_0,a0_1,a0_2,a1),rfl⟩
  | _ => none
def decAq27 (l : List AV) : Option Aq27 := pk (decPAq27 l)
theorem decAq27_ok (l : List AV) (a : Aq27) (h : decAq27 l = some a) : l = argsq27 a := pk_ok (o := decPAq27 l) h
def rendq27 : Aq27 → Yq27 → AV := fun (a0_0,a0_1,a0_2,a1) => unP fun r_0_y r_1_y => .tup [.int .i64 r_0_y,.int .i64 r_1_y]
theorem rendq27_ok : ∀ (a : Aq27) (y : Yq27),(rendq27 a y).closed1 = true := by
  rintro ⟨a0_0,a0_1,a0_2,a1⟩ y <;> first | rfl | exact Empty.elim y
theorem fnq27_ok (a : Aq27) : fnE Tryz.tab envq27 noHint 0 70 40 Tryz.f40.ntmps Tryz.f40.results.toList annq27 bq27 (argsq27 a) [] (fun v _ => some (v,[])) = fnq27 a (fun y => some (rendq27 a y,[])) := by kernel_rfl
def vFq27 (a : Aq27) (K : AV → Ans) : Ans := bindO (fnDq27 a) fun y => K (rendq27 a y)
def Fq27 : List AV → (AV → Ans) → Ans := fun l K => bindO (decAq27 l) fun a => vFq27 a K
theorem Fq27_ok : PureOk Tryz.prog 40 Fq27 := pure_mkD (hint := noHint) (d := 0) (n := 70) mixed tabOk envq27Ok Tryz.func40 (bodySome (by kernel_rfl)) (by decide +kernel) annq27_ok decAq27_ok fnq27_ok fnq27_nat rendq27_ok
--@ wal_Wal_Read
noncomputable def envq85 : Env := []
theorem envq85Ok : EnvOk Tryz.prog envq85 := EnvOk.nil
noncomputable def bq85 : Code := Tryz.f30.body.getD .skip
noncomputable def annq85 : Ann := .none
theorem annq85_ok : AnnOk Tryz.prog 29 bq85 annq85 := (annOk_none _ _ _)
abbrev Aq85 := (Int)
abbrev Yq85 := Unit
def fnq85 {β : Type} : Aq85 → (Yq85 → Option β) → Option β := fun a1 exit => (exit ())
def fnDq85 (a : Aq85) : Option Yq85 := fnq85 a some
theorem fnq85_nat (a : Aq85) (k : Yq85 → Ans) : fnq85 a k = bindO (fnDq85 a) k := by
  obtain z := a
  simp only [fnDq85,fnq85,bindO_cond,bindO_assoc,bindO_none,bindO_pure,bindO_elim,bindO_unP,bindO_empty]
def argsq85 : Aq85 → List AV × List AE.Obj := fun a1 => ([.nilp,.int .i64 a1],[])
def decPAq85 (l : List AV) (H : List AE.Obj) : Option {a : Aq85 // (l,H) = argsq85 a} := match l,H with
  | [.nilp,.int .i64 a1],[] => some ⟨(a1),rfl⟩
  | _,_ => none
def decAq85 (l : List AV) (H : List AE.Obj) : Option Aq85 := pk (decPAq85 l H)
theorem decAq85_ok (l : List AV) (H : List AE.Obj) (a : Aq85) (h : decAq85 l H = some a) : (l,H) = argsq85 a := pk_ok (o := decPAq85 l H) h
def outq85 : Aq85 → (AV → List AE.Obj → Ans) → Yq85 → Ans := fun a1 K => fun _ => K (.tup [.str ([]),.int .i64 (10)]) []
theorem fnq85_ok (a : Aq85) (K : AV → List AE.Obj → Ans) : fnE Tryz.tab envq85 noHint 0 70 30 Tryz.f30.ntmps Tryz.f30.results.toList annq85 bq85 (argsq85 a).1 (argsq85 a).2 K = fnq85 a (outq85 a K) := by kernel_rfl
def vFq85 (a : Aq85) (K : AV → List AE.Obj → Ans) : Ans := bindO (fnDq85 a) fun y => outq85 a K y
def Fq85 : List AV → List AE.Obj → (AV → List AE.Obj → Ans) → Ans := fun l H K => bindO (decAq85 l H) fun a => vFq85 a K
theorem Fq85_ok : FuncOk Tryz.prog 30 Fq85 := func_mkD (hint := noHint) (d := 0) (n := 70) mixed tabOk envq85Ok Tryz.func30 (bodySome (by kernel_rfl)) (by decide +kernel) annq85_ok decAq85_ok fnq85_ok fnq85_nat
--@ extent_Load
noncomputable def envq14 : Env := [(119,.func FBuilder_String),(30,.func Fq85)]
theorem envq14Ok : EnvOk Tryz.prog envq14 := EnvOk.cons FBuilder_String_ok (EnvOk.cons Fq85_ok (EnvOk.nil))
noncomputable def bq14 : Code := Tryz.f38.body.getD .skip
noncomputable def Lq14_n1 : Code := codeAt [1,1,1,0,1,0,0] bq14
noncomputable def annLq14_n1 : Ann := .at 0 [0,1,8,18,19] (.loop .none)
theorem annLq14_n1_ok : AnnOk Tryz.prog 37 (.loop Lq14_n1) annLq14_n1 := annOk_at (annOk_none _ _ _)
abbrev Iq14_n1 := (Int) × (Int)
abbrev Yq14_n1 := (Unit) ⊕ (Unit)
abbrev Vq14_n1 := Unit
def Sq14_n1 : Iq14_n1 → Vq14_n1 → St := fun (t1,t18) _ => { env := [(0,.nilp),(1,.int .i64 t1),(8,.ptr 0 0),(18,.int .i64 t18),(19,.int .i64 (0))],stk := [[]],H := [.bcells [.own 1],.arr (.int .u8) ([])],blk := 155648 }
def decPq14_n1 (s : St) : Option {x : Iq14_n1 × Vq14_n1 // s = Sq14_n1 x.1 x.2} := match s with
  | { env := [(0,.nilp),(1,.int .i64 t1),(8,.ptr 0 0),(18,.int .i64 t18),(19,.int .i64 r2)],stk := [[]],H := [.bcells [.own 1],.arr (.int .u8) r3],blk := 155648 } => if h2 : r2 = 0 then if h3 : r3 = [] then some ⟨((t1,t18),()),by subst h2 h3; rfl⟩ else none else none
  | _ => none
def decq14_n1 (s : St) : Option (Iq14_n1 × Vq14_n1) := pk (decPq14_n1 s)
theorem decq14_n1_ok (s : St) (x : Iq14_n1 × Vq14_n1) (h : decq14_n1 s = some x) : s = Sq14_n1 x.1 x.2 := pk_ok (o := decPq14_n1 s) h
def outq14_n1 : Iq14_n1 → (Ex → St → Ans) → Yq14_n1 → Ans := fun (t1,t18) K => (Sum.elim (fun _ => K (Ex.ret) { env := [(6,.str ([])),(7,.int .i64 (10))],stk := [[]],H := [],blk := 155649 }) (fun _ => K (Ex.exit 0) { env := [(8,.ptr 0 0)],stk := [[]],H := [.bcells [.own 1],.arr (.int .u8) ([])],blk := 155648 }))
def stepq14_n1 {β : Type} : Iq14_n1 → Vq14_n1 → (Vq14_n1 → Option β) → (Yq14_n1 → Option β) → Option β := fun (t1,t18) _ next exit => (bif decide ((0 : Int) < t18) then (bindO (fnDq85 (IntKind.wrap .i64 (t1 + (0 : Int)))) fun _ => (exit (Sum.inl ()))) else (exit (Sum.inr ())))
def stepDq14_n1 (i : Iq14_n1) (v : Vq14_n1) : Option (Vq14_n1 ⊕ Yq14_n1) := stepq14_n1 i v (fun v => some (.inl v)) (fun y => some (.inr y))
theorem stepq14_n1_nat (i : Iq14_n1) (v : Vq14_n1) (next : Vq14_n1 → Ans) (exit : Yq14_n1 → Ans) : stepq14_n1 i v next exit = bindO (stepDq14_n1 i v) (Sum.elim next exit) := by
  obtain ⟨t1,t18⟩ := i
  obtain z := v
  simp only [stepDq14_n1,stepq14_n1,bindO_cond,bindO_assoc,bindO_none,bindO_pure,bindO_elim,bindO_unP,bindO_empty,Sum.elim_inl,Sum.elim_inr]
theorem stepq14_n1_ok (n : Nat) (i : Iq14_n1) (v : Vq14_n1) (K : Ex → St → Ans) : codeI Tryz.tab envq14 noHint (codeD Tryz.tab envq14 noHint 0 64) (n+1) 37 annLq14_n1 (.loop Lq14_n1) (weakP 0 (exk [8] [6,7] [(0,[8])]) K) (Sq14_n1 i v) = stepq14_n1 i v (fun v' => codeI Tryz.tab envq14 noHint (codeD Tryz.tab envq14 noHint 0 64) n 37 annLq14_n1 (.loop Lq14_n1) (weakP 0 (exk [8] [6,7] [(0,[8])]) K) (Sq14_n1 i v')) (fun y => outq14_n1 i K y) := by kernel_rfl
theorem GNq14_n1_ok : CSum Tryz.prog 37 (.loop Lq14_n1) (sumL decq14_n1 stepDq14_n1 outq14_n1) := csum_loop mixed tabOk envq14Ok 0 (exk [8] [6,7] [(0,[8])]) annLq14_n1_ok decq14_n1_ok stepq14_n1_ok stepq14_n1_nat
noncomputable def Gq14_n1 : (Ex → St → Ans) → St → Ans := (sumL decq14_n1 stepDq14_n1 outq14_n1)
theorem Gq14_n1_ok : CSum Tryz.prog 37 (.loop Lq14_n1) Gq14_n1 := GNq14_n1_ok
noncomputable def Lq14_n0 : Code := codeAt [1,0,0] bq14
noncomputable def annLq14_n0 : Ann := .none
theorem annLq14_n0_ok : AnnOk Tryz.prog 37 Lq14_n0 annLq14_n0 := (annOk_none _ _ _)
abbrev Iq14_n0 := (Int) × (Int)
abbrev Yq14_n0 := (Bool)
def Sq14_n0 : Iq14_n0 → St := fun (t1,t2) => { env := [(0,.nilp),(1,.int .i64 t1),(2,.int .i64 t2)],stk := [[]],H := [],blk := 155648 }
def decPq14_n0 (s : St) : Option {x : Iq14_n0 // s = Sq14_n0 x} := match s with
  | { env := [(0,.nilp),(1,.int .i64 t1),(2,.int .i64 t2)],stk := [[]],H := [],blk := 155648 } => some ⟨(t1,t2),rfl⟩
  | _ => none
def decq14_n0 (s : St) : Option Iq14_n0 := pk (decPq14_n0 s)
theorem decq14_n0_ok (s : St) (x : Iq14_n0) (h : decq14_n0 s = some x) : s = Sq14_n0 x := pk_ok (o := decPq14_n0 s) h
def outq14_n0 : Iq14_n0 → (Ex → St → Ans) → Yq14_n0 → Ans := fun (t1,t2) K => fun t17_y => K (Ex.norm) { env := [(0,.nilp),(1,.int .i64 t1),(2,.int .i64 t2),(17,.bool t17_y)],stk := [[]],H := [],blk := 155648 }
def nodeq14_n0 {β : Type} : Iq14_n0 → (Yq14_n0 → Option β) → Option β := fun (t1,t2) exit => (bif decide (t2 < (0 : Int)) then (exit (true)) else (exit (decide (t2 > (16 : Int)))))
def nodeDq14_n0 (i : Iq14_n0) : Option Yq14_n0 := nodeq14_n0 i some
theorem nodeq14_n0_nat (i : Iq14_n0) (k : Yq14_n0 → Ans) : nodeq14_n0 i k = bindO (nodeDq14_n0 i) k := by
  obtain ⟨t1,t2⟩ := i
  simp only [nodeDq14_n0,nodeq14_n0,bindO_cond,bindO_assoc,bindO_none,bindO_pure,bindO_elim,bindO_unP,bindO_empty]
theorem nodeq14_n0_ok (i : Iq14_n0) (K : Ex → St → Ans) : codeI Tryz.tab envq14 noHint (codeD Tryz.tab envq14 noHint 0 64) 70 37 annLq14_n0 Lq14_n0 (weakP 0 (exk [0,1,2,17] [6,7] []) K) (Sq14_n0 i) = nodeq14_n0 i (outq14_n0 i K) := by kernel_rfl
theorem GNq14_n0_ok : CSum Tryz.prog 37 Lq14_n0 (sumN decq14_n0 nodeDq14_n0 outq14_n0) := csum_node mixed tabOk envq14Ok 0 (exk [0,1,2,17] [6,7] []) annLq14_n0_ok decq14_n0_ok nodeq14_n0_ok nodeq14_n0_nat
noncomputable def Gq14_n0 : (Ex → St → Ans) → St → Ans := (sumN decq14_n0 nodeDq14_n0 outq14_n0)
theorem Gq14_n0_ok : CSum Tryz.prog 37 Lq14_n0 Gq14_n0 := GNq14_n0_ok
noncomputable def annq14 : Ann := (.seq .none (.seq (.seq (.cut 0 [0,1,2] Gq14_n0) .none) (.seq .none (.seq (.seq .none (.block (.cut 0 [0,1,8,18,19] Gq14_n1))) .none))))
theorem annq14_ok : AnnOk Tryz.prog 37 bq14 annq14 := ⟨(annOk_none _ _ _),⟨⟨Gq14_n0_ok,(annOk_none _ _ _)⟩,⟨(annOk_none _ _ _),⟨⟨(annOk_none _ _ _),Gq14_n1_ok⟩,(annOk_none _ _ _)⟩⟩⟩⟩
abbrev Aq14 := (Int) × (Int)
abbrev Yq14 := (List UInt8) × (Int)
def fnq14 {β : Type} : Aq14 → (Yq14 → Option β) → Option β := fun (a1,a2) exit => (bindO (nodeDq14_n0 (a1,a2)) fun t17 => (bif t17 then (exit ([],(3 : Int))) else (bindO (loopD (stepDq14_n1 (a1,a2)) FUEL ()) (Sum.elim (fun _ => (exit ([],(10 : Int)))) (fun _ => (bindO (fnDBuilder_String ([])) (unP fun r o0 => (exit (r,(0 : Int))))))))))
def fnDq14 (a : Aq14) : Option Yq14 := fnq14 a some
theorem fnq14_nat (a : Aq14) (k : Yq14 → Ans) : fnq14 a k = bindO (fnDq14 a) k := by
  obtain ⟨a1,a2⟩ := a
  simp only [fnDq14,fnq14,bindO_cond,bindO_assoc,bindO_none,bindO_pure,bindO_elim,bindO_unP,bindO_empty]
def argsq14 : Aq14 → List AV × List AE.Obj := fun (a1,a2) => ([.nilp,.int .i64 a1,.int .i64 a2],[])
def decPAq14 (l : List AV) (H : List AE.Obj) : Option {a : Aq14 // (l,H) = argsq14 a} := match l,H with
  | [.nilp,.int .i64 a1,.int .i64 a2],[] => some ⟨(a1,a2),rfl⟩
  | _,_ => none
def decAq14 (l : List AV) (H : List AE.Obj) : Option Aq14 := pk (decPAq14 l H)
theorem decAq14_ok (l : List AV) (H : List AE.Obj) (a : Aq14) (h : decAq14 l H = some a) : (l,H) = argsq14 a := pk_ok (o := decPAq14 l H) h
def outq14 : Aq14 → (AV → List AE.Obj → Ans) → Yq14 → Ans := fun (a1,a2) K => unP fun r_0_y r_1_y => K (.tup [.str r_0_y,.int .i64 r_1_y]) []
theorem fnq14_ok (a : Aq14) (K : AV → List AE.Obj → Ans) : fnE Tryz.tab envq14 noHint 0 70 38 Tryz.f38.ntmps Tryz.f38.results.toList annq14 bq14 (argsq14 a).1 (argsq14 a).2 K = fnq14 a (outq14 a K) := by kernel_rfl
def vFq14 (a : Aq14) (K : AV → List AE.Obj → Ans) : Ans := bindO (fnDq14 a) fun y => outq14 a K y
def Fq14 : List AV → List AE.Obj → (AV → List AE.Obj → Ans) → Ans := fun l H K => bindO (decAq14 l H) fun a => vFq14 a K
theorem Fq14_ok : FuncOk Tryz.prog 38 Fq14 := func_mkD (hint := noHint) (d := 0) (n := 70) mixed tabOk envq14Ok Tryz.func38 (bodySome (by kernel_rfl)) (by decide +kernel) annq14_ok decAq14_ok fnq14_ok fnq14_nat
--@ extent_Read
noncomputable def envq15 : Env := [(40,.pure Fq27),(38,.func Fq14)]
theorem envq15Ok : EnvOk Tryz.prog envq15 := EnvOk.cons Fq27_ok (EnvOk.cons Fq14_ok (EnvOk.nil))
noncomputable def bq15 : Code := Tryz.f39.body.getD .skip
noncomputable def annq15 : Ann := .none
theorem annq15_ok : AnnOk Tryz.prog 24 bq15 annq15 := (annOk_none _ _ _)
abbrev Aq15 := (Int) × (Int) × (Int) × (Int)
abbrev Yq15 := (List UInt8) × (Int)
def fnq15 {β : Type} : Aq15 → (Yq15 → Option β) → Option β := fun (a1_0,a1_1,a1_2,a2) exit => (bindO (fnDq27 (a1_0,a1_1,a1_2,a2)) (unP fun r_0 r_1 => (bif r_1 != (0 : Int) then (exit ([],r_1)) else (bindO (fnDq14 (r_0,(2 : Int))) (unP fun r_0_2 r_1_2 => (exit (r_0_2,r_1_2)))))))
def fnDq15 (a : Aq15) : Option Yq15 := fnq15 a some
theorem fnq15_nat (a : Aq15) (k : Yq15 → Ans) : fnq15 a k = bindO (fnDq15 a) k := by
  obtain ⟨a1_0,a1_1,a1_2,a2⟩ := a
  simp only [fnDq15,fnq15,bindO_cond,bindO_assoc,bindO_none,bindO_pure,bindO_elim,bindO_unP,bindO_empty]
def argsq15 : Aq15 → List AV × List AE.Obj := fun (a1_0,a1_1,a1_2,a2) => ([.nilp,.agg [.int .i64 a1_0,.int .i64 a1_1,.int .i64 a1_2],.int .i64 a2],[])
def decPAq15 (l : List AV) (H : List AE.Obj) : Option {a : Aq15 // (l,H) = argsq15 a} := match l,H with
  | [.nilp,.agg [.int .i64 a1_0,.int .i64 a1_1,.int .i64 a1_2],.int .i64 a2],[] => some ⟨(a1_0,a1_1,a1_2,a2),rfl⟩
  | _,_ => none
def decAq15 (l : List AV) (H : List AE.Obj) : Option Aq15 := pk (decPAq15 l H)
theorem decAq15_ok (l : List AV) (H : List AE.Obj) (a : Aq15) (h : decAq15 l H = some a) : (l,H) = argsq15 a := pk_ok (o := decPAq15 l H) h
def outq15 : Aq15 → (AV → List AE.Obj → Ans) → Yq15 → Ans := fun (a1_0,a1_1,a1_2,a2) K => unP fun r_0_y r_1_y => K (.tup [.str r_0_y,.int .i64 r_1_y]) []
theorem fnq15_ok (a : Aq15) (K : AV → List AE.Obj → Ans) : fnE Tryz.tab envq15 noHint 0 70 39 Tryz.f39.ntmps Tryz.f39.results.toList annq15 bq15 (argsq15 a).1 (argsq15 a).2 K = fnq15 a (outq15 a K) := by kernel_rfl
def vFq15 (a : Aq15) (K : AV → List AE.Obj → Ans) : Ans := bindO (fnDq15 a) fun y => outq15 a K y
def Fq15 : List AV → List AE.Obj → (AV → List AE.Obj → Ans) → Ans := fun l H K => bindO (decAq15 l H) fun a => vFq15 a K
theorem Fq15_ok : FuncOk Tryz.prog 39 Fq15 := func_mkD (hint := noHint) (d := 0) (n := 70) mixed tabOk envq15Ok Tryz.func39 (bodySome (by kernel_rfl)) (by decide +kernel) annq15_ok decAq15_ok fnq15_ok fnq15_nat
--@ wal_Wal_Active
noncomputable def envq84 : Env := []
theorem envq84Ok : EnvOk Tryz.prog envq84 := EnvOk.nil
noncomputable def bq84 : Code := Tryz.f33.body.getD .skip
noncomputable def Lq84_n0 : Code := codeAt [1,0] bq84
noncomputable def annLq84_n0 : Ann := .none
theorem annLq84_n0_ok : AnnOk Tryz.prog 11 Lq84_n0 annLq84_n0 := (annOk_none _ _ _)
abbrev Iq84_n0 := Unit
abbrev Yq84_n0 := Unit
def Sq84_n0 : Iq84_n0 → St := fun _ => { env := [(0,.nilp)],stk := [[]],H := [],blk := 135168 }
def decPq84_n0 (s : St) : Option {x : Iq84_n0 // s = Sq84_n0 x} := match s with
  | { env := [(0,.nilp)],stk := [[]],H := [],blk := 135168 } => some ⟨(),rfl⟩
  | _ => none
def decq84_n0 (s : St) : Option Iq84_n0 := pk (decPq84_n0 s)
theorem decq84_n0_ok (s : St) (x : Iq84_n0) (h : decq84_n0 s = some x) : s = Sq84_n0 x := pk_ok (o := decPq84_n0 s) h
def outq84_n0 : Iq84_n0 → (Ex → St → Ans) → Yq84_n0 → Ans := fun _ K => fun _ => K (Ex.norm) { env := [(2,.bool (false))],stk := [[]],H := [],blk := 135168 }
def nodeq84_n0 {β : Type} : Iq84_n0 → (Yq84_n0 → Option β) → Option β := fun _ exit => (exit ())
def nodeDq84_n0 (i : Iq84_n0) : Option Yq84_n0 := nodeq84_n0 i some
theorem nodeq84_n0_nat (i : Iq84_n0) (k : Yq84_n0 → Ans) : nodeq84_n0 i k = bindO (nodeDq84_n0 i) k := by
  obtain z := i
  simp only [nodeDq84_n0,nodeq84_n0,bindO_cond,bindO_assoc,bindO_none,bindO_pure,bindO_elim,bindO_unP,bindO_empty]
theorem nodeq84_n0_ok (i : Iq84_n0) (K : Ex → St → Ans) : codeI Tryz.tab envq84 noHint (codeD Tryz.tab envq84 noHint 0 64) 70 11 annLq84_n0 Lq84_n0 (weakP 0 (exk [2] [2] []) K) (Sq84_n0 i) = nodeq84_n0 i (outq84_n0 i K) := by kernel_rfl
theorem GNq84_n0_ok : CSum Tryz.prog 11 Lq84_n0 (sumN decq84_n0 nodeDq84_n0 outq84_n0) := csum_node mixed tabOk envq84Ok 0 (exk [2] [2] []) annLq84_n0_ok decq84_n0_ok nodeq84_n0_ok nodeq84_n0_nat
noncomputable def Gq84_n0 : (Ex → St → Ans) → St → Ans := (sumN decq84_n0 nodeDq84_n0 outq84_n0)
theorem Gq84_n0_ok : CSum Tryz.prog 11 Lq84_n0 Gq84_n0 := GNq84_n0_ok
noncomputable def annq84 : Ann := (.seq .none (.seq (.cut 0 [0] Gq84_n0) .none))
theorem annq84_ok : AnnOk Tryz.prog 11 bq84 annq84 := ⟨(annOk_none _ _ _),⟨Gq84_n0_ok,(annOk_none _ _ _)⟩⟩
abbrev Aq84 := Unit
abbrev Yq84 := Unit
def fnq84 {β : Type} : Aq84 → (Yq84 → Option β) → Option β := fun _ exit => (bindO (nodeDq84_n0 ()) fun _ => (exit ()))
def fnDq84 (a : Aq84) : Option Yq84 := fnq84 a some
theorem fnq84_nat (a : Aq84) (k : Yq84 → Ans) : fnq84 a k = bindO (fnDq84 a) k := by
  obtain z := a
  simp only [fnDq84,fnq84,bindO_cond,bindO_assoc,bindO_none,bindO_pure,bindO_elim,bindO_unP,bindO_empty]
def argsq84 : Aq84 → List AV × List AE.Obj := fun _ => ([.nilp],[])
def decPAq84 (l : List AV) (H : List AE.Obj) : Option {a : Aq84 // (l,H) = argsq84 a} := match l,H with
  | [.nilp],[] => some ⟨(),rfl⟩
  | _,_ => none
def decAq84 (l : List AV) (H : List AE.Obj) : Option Aq84 := pk (decPAq84 l H)
theorem decAq84_ok (l : List AV) (H : List AE.Obj) (a : Aq84) (h : decAq84 l H = some a) : (l,H) = argsq84 a := pk_ok (o := decPAq84 l H) h
def outq84 : Aq84 → (AV → List AE.Obj → Ans) → Yq84 → Ans := fun _ K => fun _ => K (.bool (false)) []
theorem fnq84_ok (a : Aq84) (K : AV → List AE.Obj → Ans) : fnE Tryz.tab envq84 noHint 0 70 33 Tryz.f33.ntmps Tryz.f33.results.toList annq84 bq84 (argsq84 a).1 (argsq84 a).2 K = fnq84 a (outq84 a K) := by kernel_rfl
def vFq84 (a : Aq84) (K : AV → List AE.Obj → Ans) : Ans := bindO (fnDq84 a) fun y => outq84 a K y
def Fq84 : List AV → List AE.Obj → (AV → List AE.Obj → Ans) → Ans := fun l H K => bindO (decAq84 l H) fun a => vFq84 a K
theorem Fq84_ok : FuncOk Tryz.prog 33 Fq84 := func_mkD (hint := noHint) (d := 0) (n := 70) mixed tabOk envq84Ok Tryz.func33 (bodySome (by kernel_rfl)) (by decide +kernel) annq84_ok decAq84_ok fnq84_ok fnq84_nat
--@ wal_Wal_Stage
noncomputable def envq86 : Env := [(33,.func Fq84)]
theorem envq86Ok : EnvOk Tryz.prog envq86 := EnvOk.cons Fq84_ok (EnvOk.nil)
noncomputable def bq86 : Code := Tryz.f24.body.getD .skip
noncomputable def Lq86_n0 : Code := codeAt [1,0] bq86
noncomputable def annLq86_n0 : Ann := .none
theorem annLq86_n0_ok : AnnOk Tryz.prog 40 Lq86_n0 annLq86_n0 := (annOk_none _ _ _)
abbrev Iq86_n0 := (Int) × (List UInt8)
abbrev Yq86_n0 := Unit
def Sq86_n0 : Iq86_n0 → St := fun (t1,t2) => { env := [(0,.nilp),(1,.int .i64 t1),(2,.str t2)],stk := [[]],H := [],blk := 98304 }
def decPq86_n0 (s : St) : Option {x : Iq86_n0 // s = Sq86_n0 x} := match s with
  | { env := [(0,.nilp),(1,.int .i64 t1),(2,.str t2)],stk := [[]],H := [],blk := 98304 } => some ⟨(t1,t2),rfl⟩
  | _ => none
def decq86_n0 (s : St) : Option Iq86_n0 := pk (decPq86_n0 s)
theorem decq86_n0_ok (s : St) (x : Iq86_n0) (h : decq86_n0 s = some x) : s = Sq86_n0 x := pk_ok (o := decPq86_n0 s) h
def outq86_n0 : Iq86_n0 → (Ex → St → Ans) → Yq86_n0 → Ans := fun (t1,t2) K => fun _ => K (Ex.ret) { env := [(6,.int .i64 (10))],stk := [[]],H := [],blk := 98304 }
def nodeq86_n0 {β : Type} : Iq86_n0 → (Yq86_n0 → Option β) → Option β := fun (t1,t2) exit => (bindO (fnDq84 ()) fun _ => (exit ()))
def nodeDq86_n0 (i : Iq86_n0) : Option Yq86_n0 := nodeq86_n0 i some
theorem nodeq86_n0_nat (i : Iq86_n0) (k : Yq86_n0 → Ans) : nodeq86_n0 i k = bindO (nodeDq86_n0 i) k := by
  obtain ⟨t1,t2⟩ := i
  simp only [nodeDq86_n0,nodeq86_n0,bindO_cond,bindO_assoc,bindO_none,bindO_pure,bindO_elim,bindO_unP,bindO_empty]
theorem nodeq86_n0_ok (i : Iq86_n0) (K : Ex → St → Ans) : codeI Tryz.tab envq86 noHint (codeD Tryz.tab envq86 noHint 0 64) 70 40 annLq86_n0 Lq86_n0 (weakP 0 (exk [0,1,2] [6] []) K) (Sq86_n0 i) = nodeq86_n0 i (outq86_n0 i K) := by kernel_rfl
theorem GNq86_n0_ok : CSum Tryz.prog 40 Lq86_n0 (sumN decq86_n0 nodeDq86_n0 outq86_n0) := csum_node mixed tabOk envq86Ok 0 (exk [0,1,2] [6] []) annLq86_n0_ok decq86_n0_ok nodeq86_n0_ok nodeq86_n0_nat
noncomputable def Gq86_n0 : (Ex → St → Ans) → St → Ans := (sumN decq86_n0 nodeDq86_n0 outq86_n0)
theorem Gq86_n0_ok : CSum Tryz.prog 40 Lq86_n0 Gq86_n0 := GNq86_n0_ok
noncomputable def annq86 : Ann := (.seq .none (.seq (.cut 0 [0,1,2] Gq86_n0) .none))
theorem annq86_ok : AnnOk Tryz.prog 40 bq86 annq86 := ⟨(annOk_none _ _ _),⟨Gq86_n0_ok,(annOk_none _ _ _)⟩⟩
abbrev Aq86 := (Int) × (List UInt8)
abbrev Yq86 := Unit
def fnq86 {β : Type} : Aq86 → (Yq86 → Option β) → Option β := fun (a1,a2) exit => (bindO (nodeDq86_n0 (a1,a2)) fun _ => (exit ()))
def fnDq86 (a : Aq86) : Option Yq86 := fnq86 a some
theorem fnq86_nat (a : Aq86) (k : Yq86 → Ans) : fnq86 a k = bindO (fnDq86 a) k := by
  obtain ⟨a1,a2⟩ := a
  simp only [fnDq86,fnq86,bindO_cond,bindO_assoc,bindO_none,bindO_pure,bindO_elim,bindO_unP,bindO_empty]
def argsq86 : Aq86 → List AV × List AE.Obj := fun (a1,a2) => ([.nilp,.int .i64 a1,.str a2],[])
def decPAq86 (l : List AV) (H : List AE.Obj) : Option {a : Aq86 // (l,H) = argsq86 a} := match l,H with
  | [.nilp,.int .i64 a1,.str a2],[] => some ⟨(a1,a2),rfl⟩
  | _,_ => none
def decAq86 (l : List AV) (H : List AE.Obj) : Option Aq86 := pk (decPAq86 l H)
theorem decAq86_ok (l : List AV) (H : List AE.Obj) (a : Aq86) (h : decAq86 l H = some a) : (l,H) = argsq86 a := pk_ok (o := decPAq86 l H) h
def outq86 : Aq86 → (AV → List AE.Obj → Ans) → Yq86 → Ans := fun (a1,a2) K => fun _ => K (.int .i64 (10)) []
theorem fnq86_ok (a : Aq86) (K : AV → List AE.Obj → Ans) : fnE Tryz.tab envq86 noHint 0 70 24 Tryz.f24.ntmps Tryz.f24.results.toList annq86 bq86 (argsq86 a).1 (argsq86 a).2 K = fnq86 a (outq86 a K) := by kernel_rfl
def vFq86 (a : Aq86) (K : AV → List AE.Obj → Ans) : Ans := bindO (fnDq86 a) fun y => outq86 a K y
def Fq86 : List AV → List AE.Obj → (AV → List AE.Obj → Ans) → Ans := fun l H K => bindO (decAq86 l H) fun a => vFq86 a K
theorem Fq86_ok : FuncOk Tryz.prog 24 Fq86 := func_mkD (hint := noHint) (d := 0) (n := 70) mixed tabOk envq86Ok Tryz.func24 (bodySome (by kernel_rfl)) (by decide +kernel) annq86_ok decAq86_ok fnq86_ok fnq86_nat
--@ extent_Save
noncomputable def envq16 : Env := [(24,.func Fq86)]
theorem envq16Ok : EnvOk Tryz.prog envq16 := EnvOk.cons Fq86_ok (EnvOk.nil)
noncomputable def bq16 : Code := Tryz.f36.body.getD .skip
noncomputable def Lq16_n1 : Code := codeAt [1,1,1,0,1,0,0] bq16
noncomputable def annLq16_n1 : Ann := .at 0 [0,1,2,26,27] (.loop .none)
theorem annLq16_n1_ok : AnnOk Tryz.prog 44 (.loop Lq16_n1) annLq16_n1 := annOk_at (annOk_none _ _ _)
abbrev Iq16_n1 := (Int) × (List UInt8) × (Int)
abbrev Yq16_n1 := (Unit) ⊕ (Unit)
abbrev Vq16_n1 := Unit
def Sq16_n1 : Iq16_n1 → Vq16_n1 → St := fun (t1,t2,t26) _ => { env := [(0,.nilp),(1,.int .i64 t1),(2,.str t2),(26,.int .i64 t26),(27,.int .i64 (0))],stk := [[]],H := [],blk := 147456 }
def decPq16_n1 (s : St) : Option {x : Iq16_n1 × Vq16_n1 // s = Sq16_n1 x.1 x.2} := match s with
  | { env := [(0,.nilp),(1,.int .i64 t1),(2,.str t2),(26,.int .i64 t26),(27,.int .i64 r3)],stk := [[]],H := [],blk := 147456 } => if h3 : r3 = 0 then some ⟨((t1,t2,t26),()),by subst h3; rfl⟩ else none
  | _ => none
def decq16_n1 (s : St) : Option (Iq16_n1 × Vq16_n1) := pk (decPq16_n1 s)
theorem decq16_n1_ok (s : St) (x : Iq16_n1 × Vq16_n1) (h : decq16_n1 s = some x) : s = Sq16_n1 x.1 x.2 := pk_ok (o := decPq16_n1 s) h
def outq16_n1 : Iq16_n1 → (Ex → St → Ans) → Yq16_n1 → Ans := fun (t1,t2,t26) K => (Sum.elim (fun _ => K (Ex.ret) { env := [(6,.int .i64 (10))],stk := [[]],H := [],blk := 147457 }) (fun _ => K (Ex.exit 0) { env := [],stk := [[]],H := [],blk := 147456 }))
def stepq16_n1 {β : Type} : Iq16_n1 → Vq16_n1 → (Vq16_n1 → Option β) → (Yq16_n1 → Option β) → Option β := fun (t1,t2,t26) _ next exit => (bif decide ((0 : Int) < t26) then (bif inR (0 : Int) (List.length t2 + (1 : Nat)) then (bif inR (64 : Int) (List.length (List.drop (0 : Nat) t2) + (1 : Nat)) then (bindO (fnDq86 (IntKind.wrap .i64 (t1 + (0 : Int)),List.take (64 : Nat) (List.drop (0 : Nat) t2))) fun _ => (exit (Sum.inl ()))) else none) else none) else (exit (Sum.inr ())))
def stepDq16_n1 (i : Iq16_n1) (v : Vq16_n1) : Option (Vq16_n1 ⊕ Yq16_n1) := stepq16_n1 i v (fun v => some (.inl v)) (fun y => some (.inr y))
theorem stepq16_n1_nat (i : Iq16_n1) (v : Vq16_n1) (next : Vq16_n1 → Ans) (exit : Yq16_n1 → Ans) : stepq16_n1 i v next exit = bindO (stepDq16_n1 i v) (Sum.elim next exit) := by
  obtain ⟨t1,t2,t26⟩ := i
  obtain z := v
  simp only [stepDq16_n1,stepq16_n1,bindO_cond,bindO_assoc,bindO_none,bindO_pure,bindO_elim,bindO_unP,bindO_empty,Sum.elim_inl,Sum.elim_inr]
theorem stepq16_n1_ok (n : Nat) (i : Iq16_n1) (v : Vq16_n1) (K : Ex → St → Ans) : codeI Tryz.tab envq16 noHint (codeD Tryz.tab envq16 noHint 0 64) (n+1) 44 annLq16_n1 (.loop Lq16_n1) (weakP 0 (exk [] [6] [(0,[])]) K) (Sq16_n1 i v) = stepq16_n1 i v (fun v' => codeI Tryz.tab envq16 noHint (codeD Tryz.tab envq16 noHint 0 64) n 44 annLq16_n1 (.loop Lq16_n1) (weakP 0 (exk [] [6] [(0,[])]) K) (Sq16_n1 i v')) (fun y => outq16_n1 i K y) := by kernel_rfl
theorem GNq16_n1_ok : CSum Tryz.prog 44 (.loop Lq16_n1) (sumL decq16_n1 stepDq16_n1 outq16_n1) := csum_loop mixed tabOk envq16Ok 0 (exk [] [6] [(0,[])]) annLq16_n1_ok decq16_n1_ok stepq16_n1_ok stepq16_n1_nat
noncomputable def Gq16_n1 : (Ex → St → Ans) → St → Ans := (sumL decq16_n1 stepDq16_n1 outq16_n1)
theorem Gq16_n1_ok : CSum Tryz.prog 44 (.loop Lq16_n1) Gq16_n1 := GNq16_n1_ok
noncomputable def Lq16_n0 : Code := codeAt [1,1,0,0] bq16
noncomputable def annLq16_n0 : Ann := .none
theorem annLq16_n0_ok : AnnOk Tryz.prog 44 Lq16_n0 annLq16_n0 := (annOk_none _ _ _)
abbrev Iq16_n0 := (Int) × (List UInt8) × (Int)
abbrev Yq16_n0 := (Bool)
def Sq16_n0 : Iq16_n0 → St := fun (t1,t2,t7) => { env := [(0,.nilp),(1,.int .i64 t1),(2,.str t2),(7,.int .i64 t7)],stk := [[]],H := [],blk := 147456 }
def decPq16_n0 (s : St) : Option {x : Iq16_n0 // s = Sq16_n0 x} := match s with
  | { env := [(0,.nilp),(1,.int .i64 t1),(2,.str t2),(7,.int .i64 t7)],stk := [[]],H := [],blk := 147456 } => some ⟨(t1,t2,t7),rfl⟩
  | _ => none
def decq16_n0 (s : St) : Option Iq16_n0 := pk (decPq16_n0 s)
theorem decq16_n0_ok (s : St) (x : Iq16_n0) (h : decq16_n0 s = some x) : s = Sq16_n0 x := pk_ok (o := decPq16_n0 s) h
def outq16_n0 : Iq16_n0 → (Ex → St → Ans) → Yq16_n0 → Ans := fun (t1,t2,t7) K => fun t25_y => K (Ex.norm) { env := [(0,.nilp),(1,.int .i64 t1),(2,.str t2),(7,.int .i64 t7),(25,.bool t25_y)],stk := [[]],H := [],blk := 147456 }
def nodeq16_n0 {β : Type} : Iq16_n0 → (Yq16_n0 → Option β) → Option β := fun (t1,t2,t7) exit => (bif decide (t7 < (1 : Int)) then (exit (true)) else (bif decide (t7 > (16 : Int)) then (exit (true)) else (exit (IntKind.wrap .i64 (t7 * (64 : Int)) != (↑(List.length t2) : Int)))))
def nodeDq16_n0 (i : Iq16_n0) : Option Yq16_n0 := nodeq16_n0 i some
theorem nodeq16_n0_nat (i : Iq16_n0) (k : Yq16_n0 → Ans) : nodeq16_n0 i k = bindO (nodeDq16_n0 i) k := by
  obtain ⟨t1,t2,t7⟩ := i
  simp only [nodeDq16_n0,nodeq16_n0,bindO_cond,bindO_assoc,bindO_none,bindO_pure,bindO_elim,bindO_unP,bindO_empty]
theorem nodeq16_n0_ok (i : Iq16_n0) (K : Ex → St → Ans) : codeI Tryz.tab envq16 noHint (codeD Tryz.tab envq16 noHint 0 64) 70 44 annLq16_n0 Lq16_n0 (weakP 0 (exk [0,1,2,7,25] [6] []) K) (Sq16_n0 i) = nodeq16_n0 i (outq16_n0 i K) := by kernel_rfl
theorem GNq16_n0_ok : CSum Tryz.prog 44 Lq16_n0 (sumN decq16_n0 nodeDq16_n0 outq16_n0) := csum_node mixed tabOk envq16Ok 0 (exk [0,1,2,7,25] [6] []) annLq16_n0_ok decq16_n0_ok nodeq16_n0_ok nodeq16_n0_nat
noncomputable def Gq16_n0 : (Ex → St → Ans) → St → Ans := (sumN decq16_n0 nodeDq16_n0 outq16_n0)
theorem Gq16_n0_ok : CSum Tryz.prog 44 Lq16_n0 Gq16_n0 := GNq16_n0_ok
noncomputable def annq16 : Ann := (.seq .none (.seq .none (.seq (.seq (.cut 0 [0,1,2,7] Gq16_n0) .none) (.seq (.seq .none (.block (.cut 0 [0,1,2,26,27] Gq16_n1))) .none))))
theorem annq16_ok : AnnOk Tryz.prog 44 bq16 annq16 := ⟨(annOk_none _ _ _),⟨(annOk_none _ _ _),⟨⟨Gq16_n0_ok,(annOk_none _ _ _)⟩,⟨⟨(annOk_none _ _ _),Gq16_n1_ok⟩,(annOk_none _ _ _)⟩⟩⟩⟩
abbrev Aq16 := (Int) × (List UInt8)
abbrev Yq16 := (Int)
def fnq16 {β : Type} : Aq16 → (Yq16 → Option β) → Option β := fun (a1,a2) exit => (bindO (nodeDq16_n0 (a1,a2,IntKind.wrap .i64 (Int.tdiv (↑(List.length a2) : Int) (64 : Int)))) fun t25 => (bif t25 then (exit ((12 : Int))) else (bindO (loopD (stepDq16_n1 (a1,a2,IntKind.wrap .i64 (Int.tdiv (↑(List.length a2) : Int) (64 : Int)))) FUEL ()) (Sum.elim (fun _ => (exit ((10 : Int)))) (fun _ => (exit ((0 : Int))))))))
def fnDq16 (a : Aq16) : Option Yq16 := fnq16 a some
theorem fnq16_nat (a : Aq16) (k : Yq16 → Ans) : fnq16 a k = bindO (fnDq16 a) k := by
  obtain ⟨a1,a2⟩ := a
  simp only [fnDq16,fnq16,bindO_cond,bindO_assoc,bindO_none,bindO_pure,bindO_elim,bindO_unP,bindO_empty]
def argsq16 : Aq16 → List AV × List AE.Obj := fun (a1,a2) => ([.nilp,.int .i64 a1,.str a2],[])
def decPAq16 (l : List AV) (H : List AE.Obj) : Option {a : Aq16 // (l,H) = argsq16 a} := match l,H with
  | [.nilp,.int .i64 a1,.str a2],[] => some ⟨(a1,a2),rfl⟩
  | _,_ => none
def decAq16 (l : List AV) (H : List AE.Obj) : Option Aq16 := pk (decPAq16 l H)
theorem decAq16_ok (l : List AV) (H : List AE.Obj) (a : Aq16) (h : decAq16 l H = some a) : (l,H) = argsq16 a := pk_ok (o := decPAq16 l H) h
def outq16 : Aq16 → (AV → List AE.Obj → Ans) → Yq16 → Ans := fun (a1,a2) K => fun r_y => K (.int .i64 r_y) []
theorem fnq16_ok (a : Aq16) (K : AV → List AE.Obj → Ans) : fnE Tryz.tab envq16 noHint 0 70 36 Tryz.f36.ntmps Tryz.f36.results.toList annq16 bq16 (argsq16 a).1 (argsq16 a).2 K = fnq16 a (outq16 a K) := by kernel_rfl
def vFq16 (a : Aq16) (K : AV → List AE.Obj → Ans) : Ans := bindO (fnDq16 a) fun y => outq16 a K y
def Fq16 : List AV → List AE.Obj → (AV → List AE.Obj → Ans) → Ans := fun l H K => bindO (decAq16 l H) fun a => vFq16 a K
theorem Fq16_ok : FuncOk Tryz.prog 36 Fq16 := func_mkD (hint := noHint) (d := 0) (n := 70) mixed tabOk envq16Ok Tryz.func36 (bodySome (by kernel_rfl)) (by decide +kernel) annq16_ok decAq16_ok fnq16_ok fnq16_nat
--@ extent_Stage
noncomputable def envq17 : Env := [(40,.pure Fq27),(36,.func Fq16)]
theorem envq17Ok : EnvOk Tryz.prog envq17 := EnvOk.cons Fq27_ok (EnvOk.cons Fq16_ok (EnvOk.nil))
noncomputable def bq17 : Code := Tryz.f41.body.getD .skip
noncomputable def annq17 : Ann := .none
theorem annq17_ok : AnnOk Tryz.prog 29 bq17 annq17 := (annOk_none _ _ _)
abbrev Aq17 := (Int) × (Int) × (Int) × (Int) × (List UInt8)
abbrev Yq17 := (Int)
def fnq17 {β : Type} : Aq17 → (Yq17 → Option β) → Option β := fun (a1_0,a1_1,a1_2,a2,a3) exit => (bindO (fnDq27 (a1_0,a1_1,a1_2,a2)) (unP fun r_0 r_1 => (bif r_1 != (0 : Int) then (exit (r_1)) else (bif (↑(List.length a3) : Int) != (128 : Int) then (exit ((12 : Int))) else (bindO (fnDq16 (r_0,a3)) fun r => (exit (r)))))))
def fnDq17 (a : Aq17) : Option Yq17 := fnq17 a some
theorem fnq17_nat (a : Aq17) (k : Yq17 → Ans) : fnq17 a k = bindO (fnDq17 a) k := by
  obtain ⟨a1_0,a1_1,a1_2,a2,a3⟩ := a
  simp only [fnDq17,fnq17,bindO_cond,bindO_assoc,bindO_none,bindO_pure,bindO_elim,bindO_unP,bindO_empty]
def argsq17 : Aq17 → List AV × List AE.Obj := fun (a1_0,a1_1,a1_2,a2,a3) => ([.nilp,.agg [.int .i64 a1_0,.int .i64 a1_1,.int .i64 a1_2],.int .i64 a2,.str a3],[])
def decPAq17 (l : List AV) (H : List AE.Obj) : Option {a : Aq17 // (l,H) = argsq17 a} := match l,H with
  | [.nilp,.agg [.int .i64 a1_0,.int .i64 a1_1,.int .i64 a1_2],.int .i64 a2,.str a3],[] => some ⟨(a1_0,a1_1,a1_2,a2,a3),rfl⟩
  | _,_ => none
def decAq17 (l : List AV) (H : List AE.Obj) : Option Aq17 := pk (decPAq17 l H)
theorem decAq17_ok (l : List AV) (H : List AE.Obj) (a : Aq17) (h : decAq17 l H = some a) : (l,H) = argsq17 a := pk_ok (o := decPAq17 l H) h
def outq17 : Aq17 → (AV → List AE.Obj → Ans) → Yq17 → Ans := fun (a1_0,a1_1,a1_2,a2,a3) K => fun r_y => K (.int .i64 r_y) []
theorem fnq17_ok (a : Aq17) (K : AV → List AE.Obj → Ans) : fnE Tryz.tab envq17 noHint 0 70 41 Tryz.f41.ntmps Tryz.f41.results.toList annq17 bq17 (argsq17 a).1 (argsq17 a).2 K = fnq17 a (outq17 a K) := by kernel_rfl
def vFq17 (a : Aq17) (K : AV → List AE.Obj → Ans) : Ans := bindO (fnDq17 a) fun y => outq17 a K y
def Fq17 : List AV → List AE.Obj → (AV → List AE.Obj → Ans) → Ans := fun l H K => bindO (decAq17 l H) fun a => vFq17 a K
theorem Fq17_ok : FuncOk Tryz.prog 41 Fq17 := func_mkD (hint := noHint) (d := 0) (n := 70) mixed tabOk envq17Ok Tryz.func41 (bodySome (by kernel_rfl)) (by decide +kernel) annq17_ok decAq17_ok fnq17_ok fnq17_nat
--@ law20_ExtentNone
noncomputable def envq25 : Env := [(34,.pure Flaw20_works),(40,.pure Fq27),(39,.func Fq15),(41,.func Fq17)]
theorem envq25Ok : EnvOk Tryz.prog envq25 := EnvOk.cons Flaw20_works_ok (EnvOk.cons Fq27_ok (EnvOk.cons Fq15_ok (EnvOk.cons Fq17_ok (EnvOk.nil))))
noncomputable def bq25 : Code := Tryz.f5.body.getD .skip
noncomputable def Lq25_n1 : Code := codeAt [1,1,1,1,1,1,0] bq25
noncomputable def annLq25_n1 : Ann := .none
theorem annLq25_n1_ok : AnnOk Tryz.prog 57 Lq25_n1 annLq25_n1 := (annOk_none _ _ _)
abbrev Iq25_n1 := (List UInt8) × (Int) × (Int) × (Int)
abbrev Yq25_n1 := (Bool)
def Sq25_n1 : Iq25_n1 → St := fun (t2,t8,t10,t11) => { env := [(2,.str t2),(8,.int .i64 t8),(10,.int .i64 t10),(11,.int .i64 t11)],stk := [[]],H := [],blk := 20480 }
def decPq25_n1 (s : St) : Option {x : Iq25_n1 // s = Sq25_n1 x} := match s with
  | { env := [(2,.str t2),(8,.int .i64 t8),(10,.int .i64 t10),(11,.int .i64 t11)],stk := [[]],H := [],blk := 20480 } => some ⟨(t2,t8,t10,t11),rfl⟩
  | _ => none
def decq25_n1 (s : St) : Option Iq25_n1 := pk (decPq25_n1 s)
theorem decq25_n1_ok (s : St) (x : Iq25_n1) (h : decq25_n1 s = some x) : s = Sq25_n1 x := pk_ok (o := decPq25_n1 s) h
def outq25_n1 : Iq25_n1 → (Ex → St → Ans) → Yq25_n1 → Ans := fun (t2,t8,t10,t11) K => fun t6_y => K (Ex.norm) { env := [(6,.bool t6_y)],stk := [[]],H := [],blk := 20480 }
def nodeq25_n1 {β : Type} : Iq25_n1 → (Yq25_n1 → Option β) → Option β := fun (t2,t8,t10,t11) exit => (bif t8 == t10 then (bif t10 != (10 : Int) then (exit (true)) else (bif t11 == (12 : Int) then (bif (↑(List.length t2) : Int) != (128 : Int) then (exit (true)) else (bif t11 == (10 : Int) then (exit ((↑(List.length t2) : Int) == (128 : Int))) else (exit (false)))) else (bif t11 == (10 : Int) then (exit ((↑(List.length t2) : Int) == (128 : Int))) else (exit (false))))) else (exit (false)))
def nodeDq25_n1 (i : Iq25_n1) : Option Yq25_n1 := nodeq25_n1 i some
theorem nodeq25_n1_nat (i : Iq25_n1) (k : Yq25_n1 → Ans) : nodeq25_n1 i k = bindO (nodeDq25_n1 i) k := by
  obtain ⟨t2,t8,t10,t11⟩ := i
  simp only [nodeDq25_n1,nodeq25_n1,bindO_cond,bindO_assoc,bindO_none,bindO_pure,bindO_elim,bindO_unP,bindO_empty]
theorem nodeq25_n1_ok (i : Iq25_n1) (K : Ex → St → Ans) : codeI Tryz.tab envq25 noHint (codeD Tryz.tab envq25 noHint 0 64) 70 57 annLq25_n1 Lq25_n1 (weakP 0 (exk [6] [6] []) K) (Sq25_n1 i) = nodeq25_n1 i (outq25_n1 i K) := by kernel_rfl
theorem GNq25_n1_ok : CSum Tryz.prog 57 Lq25_n1 (sumN decq25_n1 nodeDq25_n1 outq25_n1) := csum_node mixed tabOk envq25Ok 0 (exk [6] [6] []) annLq25_n1_ok decq25_n1_ok nodeq25_n1_ok nodeq25_n1_nat
noncomputable def Gq25_n1 : (Ex → St → Ans) → St → Ans := (sumN decq25_n1 nodeDq25_n1 outq25_n1)
theorem Gq25_n1_ok : CSum Tryz.prog 57 Lq25_n1 Gq25_n1 := GNq25_n1_ok
noncomputable def Lq25_n0 : Code := codeAt [1,1,1,1,0,1] bq25
noncomputable def annLq25_n0 : Ann := .none
theorem annLq25_n0_ok : AnnOk Tryz.prog 57 Lq25_n0 annLq25_n0 := (annOk_none _ _ _)
abbrev Iq25_n0 := (Int) × (List UInt8) × (Int) × (Int) × (Bool) × (Int) × (Int) × (Int)
abbrev Yq25_n0 := (Int)
def Sq25_n0 : Iq25_n0 → St := fun (t1,t2,t8,t10,t27,o0_0,o0_1,o0_2) => { env := [(1,.int .i64 t1),(2,.str t2),(3,.ptr 0 0),(8,.int .i64 t8),(10,.int .i64 t10),(27,.bool t27)],stk := [[]],H := [.cells [.int .i64 o0_0,.int .i64 o0_1,.int .i64 o0_2]],blk := 20480 }
def decPq25_n0 (s : St) : Option {x : Iq25_n0 // s = Sq25_n0 x} := match s with
  | { env := [(1,.int .i64 t1),(2,.str t2),(3,.ptr 0 0),(8,.int .i64 t8),(10,.int .i64 t10),(27,.bool t27)],stk := [[]],H := [.cells [.int .i64 o0_0,.int .i64 o0_1,.int .i64 o0_2]],blk := 20480 } => some ⟨(t1,t2,t8,t10,t27,o0_0,o0_1,o0_2),rfl⟩
  | _ => none
def decq25_n0 (s : St) : Option Iq25_n0 := pk (decPq25_n0 s)
theorem decq25_n0_ok (s : St) (x : Iq25_n0) (h : decq25_n0 s = some x) : s = Sq25_n0 x := pk_ok (o := decPq25_n0 s) h
def outq25_n0 : Iq25_n0 → (Ex → St → Ans) → Yq25_n0 → Ans := fun (t1,t2,t8,t10,t27,o0_0,o0_1,o0_2) K => fun t10_y => K (Ex.norm) { env := [(1,.int .i64 t1),(2,.str t2),(3,.ptr 0 0),(8,.int .i64 t8),(10,.int .i64 t10_y)],stk := [[]],H := [.cells [.int .i64 o0_0,.int .i64 o0_1,.int .i64 o0_2]],blk := 20480 }
def nodeq25_n0 {β : Type} : Iq25_n0 → (Yq25_n0 → Option β) → Option β := fun (t1,t2,t8,t10,t27,o0_0,o0_1,o0_2) exit => (bif t27 then (exit ((10 : Int))) else (exit (t10)))
def nodeDq25_n0 (i : Iq25_n0) : Option Yq25_n0 := nodeq25_n0 i some
theorem nodeq25_n0_nat (i : Iq25_n0) (k : Yq25_n0 → Ans) : nodeq25_n0 i k = bindO (nodeDq25_n0 i) k := by
  obtain ⟨t1,t2,t8,t10,t27,o0_0,o0_1,o0_2⟩ := i
  simp only [nodeDq25_n0,nodeq25_n0,bindO_cond,bindO_assoc,bindO_none,bindO_pure,bindO_elim,bindO_unP,bindO_empty]
theorem nodeq25_n0_ok (i : Iq25_n0) (K : Ex → St → Ans) : codeI Tryz.tab envq25 noHint (codeD Tryz.tab envq25 noHint 0 64) 70 57 annLq25_n0 Lq25_n0 (weakP 0 (exk [1,2,3,8,10] [6] []) K) (Sq25_n0 i) = nodeq25_n0 i (outq25_n0 i K) := by kernel_rfl
theorem GNq25_n0_ok : CSum Tryz.prog 57 Lq25_n0 (sumN decq25_n0 nodeDq25_n0 outq25_n0) := csum_node mixed tabOk envq25Ok 0 (exk [1,2,3,8,10] [6] []) annLq25_n0_ok decq25_n0_ok nodeq25_n0_ok nodeq25_n0_nat
noncomputable def Gq25_n0 : (Ex → St → Ans) → St → Ans := (sumN decq25_n0 nodeDq25_n0 outq25_n0)
theorem Gq25_n0_ok : CSum Tryz.prog 57 Lq25_n0 Gq25_n0 := GNq25_n0_ok
noncomputable def annq25 : Ann := (.seq .none (.seq .none (.seq .none (.seq .none (.seq (.seq .none (.cut 0 [1,2,3,8,10,27] Gq25_n0)) (.seq .none (.seq (.cut 0 [2,8,10,11] Gq25_n1) .none)))))))
theorem annq25_ok : AnnOk Tryz.prog 57 bq25 annq25 := ⟨(annOk_none _ _ _),⟨(annOk_none _ _ _),⟨(annOk_none _ _ _),⟨(annOk_none _ _ _),⟨⟨(annOk_none _ _ _),Gq25_n0_ok⟩,⟨(annOk_none _ _ _),⟨Gq25_n1_ok,(annOk_none _ _ _)⟩⟩⟩⟩⟩⟩⟩
abbrev Aq25 := (Int) × (Int) × (Int) × (Int) × (List UInt8)
abbrev Yq25 := (Bool)
def fnq25 {β : Type} : Aq25 → (Yq25 → Option β) → Option β := fun (a0_0,a0_1,a0_2,a1,a2) exit => (bindO (fnDlaw20_works ()) fun _ => (bindO (fnDq15 (a0_0,a0_1,a0_2,a1)) (unP fun r_0 r_1 => (bindO (fnDq27 (a0_0,a0_1,a0_2,a1)) (unP fun r_0_2 r_1_2 => (bindO (nodeDq25_n0 (a1,a2,r_1,r_1_2,r_1_2 == (0 : Int),a0_0,a0_1,a0_2)) fun t10 => (bindO (fnDq17 (a0_0,a0_1,a0_2,a1,a2)) fun r => (bindO (nodeDq25_n1 (a2,r_1,t10,r)) fun t6 => (exit (t6))))))))))
def fnDq25 (a : Aq25) : Option Yq25 := fnq25 a some
theorem fnq25_nat (a : Aq25) (k : Yq25 → Ans) : fnq25 a k = bindO (fnDq25 a) k := by
  obtain ⟨a0_0,a0_1,a0_2,a1,a2⟩ := a
  simp only [fnDq25,fnq25,bindO_cond,bindO_assoc,bindO_none,bindO_pure,bindO_elim,bindO_unP,bindO_empty]
def argsq25 : Aq25 → List AV × List AE.Obj := fun (a0_0,a0_1,a0_2,a1,a2) => ([.agg [.int .i64 a0_0,.int .i64 a0_1,.int .i64 a0_2],.int .i64 a1,.str a2],[])
def decPAq25 (l : List AV) (H : List AE.Obj) : Option {a : Aq25 // (l,H) = argsq25 a} := match l,H with
  | [.agg [.int .i64 a0_0,.int .i64 a0_1,.int .i64 a0_2],.int .i64 a1,.str a2],[] => some ⟨(a0_0,a0_1,a0_2,a1,a2),rfl⟩
  | _,_ => none
def decAq25 (l : List AV) (H : List AE.Obj) : Option Aq25 := pk (decPAq25 l H)
theorem decAq25_ok (l : List AV) (H : List AE.Obj) (a : Aq25) (h : decAq25 l H = some a) : (l,H) = argsq25 a := pk_ok (o := decPAq25 l H) h
def outq25 : Aq25 → (AV → List AE.Obj → Ans) → Yq25 → Ans := fun (a0_0,a0_1,a0_2,a1,a2) K => fun r_y => K (.bool r_y) []
theorem fnq25_ok (a : Aq25) (K : AV → List AE.Obj → Ans) : fnE Tryz.tab envq25 noHint 0 70 5 Tryz.f5.ntmps Tryz.f5.results.toList annq25 bq25 (argsq25 a).1 (argsq25 a).2 K = fnq25 a (outq25 a K) := by kernel_rfl
def vFq25 (a : Aq25) (K : AV → List AE.Obj → Ans) : Ans := bindO (fnDq25 a) fun y => outq25 a K y
def Fq25 : List AV → List AE.Obj → (AV → List AE.Obj → Ans) → Ans := fun l H K => bindO (decAq25 l H) fun a => vFq25 a K
theorem Fq25_ok : FuncOk Tryz.prog 5 Fq25 := func_mkD (hint := noHint) (d := 0) (n := 70) mixed tabOk envq25Ok Tryz.func5 (bodySome (by kernel_rfl)) (by decide +kernel) annq25_ok decAq25_ok fnq25_ok fnq25_nat
end Go.Proofs.R7E

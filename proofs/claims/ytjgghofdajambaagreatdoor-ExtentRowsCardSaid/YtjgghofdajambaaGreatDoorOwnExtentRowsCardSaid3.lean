/- What the functions that ExtentRowsCardSaid reaches compute: part 3. -/
import Derived.Test.YtjgghofdajambaaGreatDoorOwnExtentRowsCardSaid2
set_option linter.unusedVariables false
set_option linter.unusedSimpArgs false
namespace Go.Proofs.R7
open Go Go.AE
set_option maxRecDepth 100000
--@ loghead_Newer
noncomputable def envq31 : Env := [(216,.pure Fq29)]
theorem envq31Ok : EnvOk Tryz.prog envq31 := EnvOk.cons Fq29_ok (EnvOk.nil)
noncomputable def bq31 : Code := Tryz.f178.body.getD .skip
noncomputable def Lq31_n2 : Code := codeAt [1,1,1,0,1,0,0,1,1,0,0,1,1,0] bq31
noncomputable def annLq31_n2 : Ann := .none
theorem annLq31_n2_ok : AnnOk Tryz.prog 49 Lq31_n2 annLq31_n2 := (annOk_none _ _ _)
abbrev Iq31_n2 := (Bool) × (Int) × (Int) × (Int) × (Int) × (Int) × (Int) × (Int) × (Int) × (Int) × (List (List UInt8))
abbrev Yq31_n2 := (Bool)
def Sq31_n2 : Iq31_n2 → St := fun (t7,t11,t15,t16,o1_0,o1_1,o1_2,o2_0,o2_1,o2_2,o3) => { env := [(4,.ptr 0 0),(6,.ptr 1 0),(7,.bool t7),(10,.ptr 2 0),(11,.int .i64 t11),(14,.own 3),(15,.int .i64 t15),(16,.int .i64 t16)],stk := [[]],H := [.cells [.int .i64 (0),.int .i64 (0),.int .i64 (0)],.cells [.int .i64 o1_0,.int .i64 o1_1,.int .i64 o1_2],.cells [.int .i64 o2_0,.int .i64 o2_1,.int .i64 o2_2],.arr .str o3],blk := 729089 }
def decPq31_n2 (s : St) : Option {x : Iq31_n2 // s = Sq31_n2 x} := match s with
  | { env := [(4,.ptr 0 0),(6,.ptr 1 0),(7,.bool t7),(10,.ptr 2 0),(11,.int .i64 t11),(14,.own 3),(15,.int .i64 t15),(16,.int .i64 t16)],stk := [[]],H := [.cells [.int .i64 r4,.int .i64 r5,.int .i64 r6],.cells [.int .i64 o1_0,.int .i64 o1_1,.int .i64 o1_2],.cells [.int .i64 o2_0,.int .i64 o2_1,.int .i64 o2_2],.arr .str o3],blk := 729089 } => if h4 : r4 = 0 then if h5 : r5 = 0 then if h6 : r6 = 0 then some ⟨(t7,t11,t15,t16,o1_0,o1_1,o1_2,o2_0,o2_1,o2_2,o3),by subst h4 h5 h6; rfl⟩ else none else none else none
  | _ => none
def decq31_n2 (s : St) : Option Iq31_n2 := pk (decPq31_n2 s)
theorem decq31_n2_ok (s : St) (x : Iq31_n2) (h : decq31_n2 s = some x) : s = Sq31_n2 x := pk_ok (o := decPq31_n2 s) h
def outq31_n2 : Iq31_n2 → (Ex → St → Ans) → Yq31_n2 → Ans := fun (t7,t11,t15,t16,o1_0,o1_1,o1_2,o2_0,o2_1,o2_2,o3) K => fun t42_y => K (Ex.norm) { env := [(4,.ptr 0 0),(6,.ptr 1 0),(7,.bool t7),(10,.ptr 2 0),(14,.own 3),(15,.int .i64 t15),(16,.int .i64 t16),(42,.bool t42_y)],stk := [[]],H := [.cells [.int .i64 (0),.int .i64 (0),.int .i64 (0)],.cells [.int .i64 o1_0,.int .i64 o1_1,.int .i64 o1_2],.cells [.int .i64 o2_0,.int .i64 o2_1,.int .i64 o2_2],.arr .str o3],blk := 729089 }
def nodeq31_n2 {β : Type} : Iq31_n2 → (Yq31_n2 → Option β) → Option β := fun (t7,t11,t15,t16,o1_0,o1_1,o1_2,o2_0,o2_1,o2_2,o3) exit => (bif t11 == (0 : Int) then (bif !t7 then (exit (true)) else (bif !(o2_0 == o1_0 && (o2_1 == o1_1 && (o2_2 == o1_2 && true))) then (exit (decide (o2_0 > o1_0))) else (exit (false)))) else (exit (false)))
def nodeDq31_n2 (i : Iq31_n2) : Option Yq31_n2 := nodeq31_n2 i some
theorem nodeq31_n2_nat (i : Iq31_n2) (k : Yq31_n2 → Ans) : nodeq31_n2 i k = bindO (nodeDq31_n2 i) k := by
  obtain ⟨t7,t11,t15,t16,o1_0,o1_1,o1_2,o2_0,o2_1,o2_2,o3⟩ := i
  simp only [nodeDq31_n2,nodeq31_n2,bindO_cond,bindO_assoc,bindO_none,bindO_pure,bindO_elim,bindO_unP,bindO_empty]
theorem nodeq31_n2_ok (i : Iq31_n2) (K : Ex → St → Ans) : codeI Tryz.tab envq31 noHint (codeD Tryz.tab envq31 noHint 0 64) 70 49 annLq31_n2 Lq31_n2 (weakP 0 (exk [4,6,7,10,14,15,16,42] [4,5] []) K) (Sq31_n2 i) = nodeq31_n2 i (outq31_n2 i K) := by kernel_rfl
theorem GNq31_n2_ok : CSum Tryz.prog 49 Lq31_n2 (sumN decq31_n2 nodeDq31_n2 outq31_n2) := csum_node mixed tabOk envq31Ok 0 (exk [4,6,7,10,14,15,16,42] [4,5] []) annLq31_n2_ok decq31_n2_ok nodeq31_n2_ok nodeq31_n2_nat
noncomputable def Gq31_n2 : (Ex → St → Ans) → St → Ans := (sumN decq31_n2 nodeDq31_n2 outq31_n2)
theorem Gq31_n2_ok : CSum Tryz.prog 49 Lq31_n2 Gq31_n2 := GNq31_n2_ok
noncomputable def Lq31_n1 : Code := codeAt [1,1,1,0,1,0,0,1,1,0] bq31
noncomputable def annLq31_n1 : Ann := (.block (.seq .none (.seq .none (.seq (.cut 0 [4,6,7,10,11,14,15,16] Gq31_n2) .none))))
theorem annLq31_n1_ok : AnnOk Tryz.prog 49 Lq31_n1 annLq31_n1 := ⟨(annOk_none _ _ _),⟨(annOk_none _ _ _),⟨Gq31_n2_ok,(annOk_none _ _ _)⟩⟩⟩
abbrev Iq31_n1 := (Bool) × (Int) × (Int) × (Int) × (Int) × (Int) × (List (List UInt8))
abbrev Yq31_n1 := (Bool) × (Int) × (Int) × (Int)
def Sq31_n1 : Iq31_n1 → St := fun (t7,t15,t16,o1_0,o1_1,o1_2,o2) => { env := [(4,.ptr 0 0),(6,.ptr 1 0),(7,.bool t7),(14,.own 2),(15,.int .i64 t15),(16,.int .i64 t16)],stk := [[]],H := [.cells [.int .i64 (0),.int .i64 (0),.int .i64 (0)],.cells [.int .i64 o1_0,.int .i64 o1_1,.int .i64 o1_2],.arr .str o2],blk := 729088 }
def decPq31_n1 (s : St) : Option {x : Iq31_n1 // s = Sq31_n1 x} := match s with
  | { env := [(4,.ptr 0 0),(6,.ptr 1 0),(7,.bool t7),(14,.own 2),(15,.int .i64 t15),(16,.int .i64 t16)],stk := [[]],H := [.cells [.int .i64 r3,.int .i64 r4,.int .i64 r5],.cells [.int .i64 o1_0,.int .i64 o1_1,.int .i64 o1_2],.arr .str o2],blk := 729088 } => if h3 : r3 = 0 then if h4 : r4 = 0 then if h5 : r5 = 0 then some ⟨(t7,t15,t16,o1_0,o1_1,o1_2,o2),by subst h3 h4 h5; rfl⟩ else none else none else none
  | _ => none
def decq31_n1 (s : St) : Option Iq31_n1 := pk (decPq31_n1 s)
theorem decq31_n1_ok (s : St) (x : Iq31_n1) (h : decq31_n1 s = some x) : s = Sq31_n1 x := pk_ok (o := decPq31_n1 s) h
def outq31_n1 : Iq31_n1 → (Ex → St → Ans) → Yq31_n1 → Ans := fun (t7,t15,t16,o1_0,o1_1,o1_2,o2) K => unP fun t7_y => unP fun o1_0_y => unP fun o1_1_y o1_2_y => K (Ex.norm) { env := [(4,.ptr 0 0),(6,.ptr 1 0),(7,.bool t7_y),(14,.own 2),(15,.int .i64 t15),(16,.int .i64 t16)],stk := [[]],H := [.cells [.int .i64 (0),.int .i64 (0),.int .i64 (0)],.cells [.int .i64 o1_0_y,.int .i64 o1_1_y,.int .i64 o1_2_y],.arr .str o2],blk := 729089 }
def nodeq31_n1 {β : Type} : Iq31_n1 → (Yq31_n1 → Option β) → Option β := fun (t7,t15,t16,o1_0,o1_1,o1_2,o2) exit => (bif inR t16 (List.length o2) then (bindO (o2[Int.toNat t16]?) fun x => (bindO (fnDq29 (x)) (unP fun r_0_0 => unP fun r_0_1 => unP fun r_0_2 r_1 => (bindO (nodeDq31_n2 (t7,r_1,t15,t16,o1_0,o1_1,o1_2,r_0_0,r_0_1,r_0_2,o2)) fun t42 => (bif t42 then (exit (true,r_0_0,r_0_1,r_0_2)) else (exit (t7,o1_0,o1_1,o1_2))))))) else none)
def nodeDq31_n1 (i : Iq31_n1) : Option Yq31_n1 := nodeq31_n1 i some
theorem nodeq31_n1_nat (i : Iq31_n1) (k : Yq31_n1 → Ans) : nodeq31_n1 i k = bindO (nodeDq31_n1 i) k := by
  obtain ⟨t7,t15,t16,o1_0,o1_1,o1_2,o2⟩ := i
  simp only [nodeDq31_n1,nodeq31_n1,bindO_cond,bindO_assoc,bindO_none,bindO_pure,bindO_elim,bindO_unP,bindO_empty]
theorem nodeq31_n1_ok (i : Iq31_n1) (K : Ex → St → Ans) : codeI Tryz.tab envq31 noHint (codeD Tryz.tab envq31 noHint 0 64) 70 49 annLq31_n1 Lq31_n1 (weakP 0 (exk [4,6,7,14,15,16] [4,5] []) K) (Sq31_n1 i) = nodeq31_n1 i (outq31_n1 i K) := by kernel_rfl
theorem GNq31_n1_ok : CSum Tryz.prog 49 Lq31_n1 (sumN decq31_n1 nodeDq31_n1 outq31_n1) := csum_node mixed tabOk envq31Ok 0 (exk [4,6,7,14,15,16] [4,5] []) annLq31_n1_ok decq31_n1_ok nodeq31_n1_ok nodeq31_n1_nat
noncomputable def Gq31_n1 : (Ex → St → Ans) → St → Ans := (sumN decq31_n1 nodeDq31_n1 outq31_n1)
theorem Gq31_n1_ok : CSum Tryz.prog 49 Lq31_n1 Gq31_n1 := GNq31_n1_ok
noncomputable def Lq31_n0 : Code := codeAt [1,1,1,0,1,0,0] bq31
noncomputable def annLq31_n0 : Ann := .at 0 [4,6,7,14,15,16] (.loop (.seq .none (.seq .none (.seq (.cut 0 [4,6,7,14,15,16] Gq31_n1) .none))))
theorem annLq31_n0_ok : AnnOk Tryz.prog 49 (.loop Lq31_n0) annLq31_n0 := annOk_at ⟨(annOk_none _ _ _),⟨(annOk_none _ _ _),⟨Gq31_n1_ok,(annOk_none _ _ _)⟩⟩⟩
abbrev Iq31_n0 := (Int) × (List (List UInt8))
abbrev Yq31_n0 := (Bool) × (Int) × (Int) × (Int)
abbrev Vq31_n0 := (Bool) × (Int) × (Int) × (Int) × (Int)
def Sq31_n0 : Iq31_n0 → Vq31_n0 → St := fun (t15,o2) (t7,t16,o1_0,o1_1,o1_2) => { env := [(4,.ptr 0 0),(6,.ptr 1 0),(7,.bool t7),(14,.own 2),(15,.int .i64 t15),(16,.int .i64 t16)],stk := [[]],H := [.cells [.int .i64 (0),.int .i64 (0),.int .i64 (0)],.cells [.int .i64 o1_0,.int .i64 o1_1,.int .i64 o1_2],.arr .str o2],blk := 729088 }
def decPq31_n0 (s : St) : Option {x : Iq31_n0 × Vq31_n0 // s = Sq31_n0 x.1 x.2} := match s with
  | { env := [(4,.ptr 0 0),(6,.ptr 1 0),(7,.bool t7),(14,.own 2),(15,.int .i64 t15),(16,.int .i64 t16)],stk := [[]],H := [.cells [.int .i64 r3,.int .i64 r4,.int .i64 r5],.cells [.int .i64 o1_0,.int .i64 o1_1,.int .i64 o1_2],.arr .str o2],blk := 729088 } => if h3 : r3 = 0 then if h4 : r4 = 0 then if h5 : r5 = 0 then some ⟨((t15,o2),(t7,t16,o1_0,o1_1,o1_2)),by subst h3 h4 h5; rfl⟩ else none else none else none
  | _ => none
def decq31_n0 (s : St) : Option (Iq31_n0 × Vq31_n0) := pk (decPq31_n0 s)
theorem decq31_n0_ok (s : St) (x : Iq31_n0 × Vq31_n0) (h : decq31_n0 s = some x) : s = Sq31_n0 x.1 x.2 := pk_ok (o := decPq31_n0 s) h
def outq31_n0 : Iq31_n0 → (Ex → St → Ans) → Yq31_n0 → Ans := fun (t15,o2) K => unP fun t7_y => unP fun o1_0_y => unP fun o1_1_y o1_2_y => K (Ex.exit 0) { env := [(4,.ptr 0 0),(6,.ptr 1 0),(7,.bool t7_y)],stk := [[]],H := [.cells [.int .i64 (0),.int .i64 (0),.int .i64 (0)],.cells [.int .i64 o1_0_y,.int .i64 o1_1_y,.int .i64 o1_2_y]],blk := 729088 }
def stepq31_n0 {β : Type} : Iq31_n0 → Vq31_n0 → (Vq31_n0 → Option β) → (Yq31_n0 → Option β) → Option β := fun (t15,o2) (t7,t16,o1_0,o1_1,o1_2) next exit => (bif decide (t16 < t15) then (bindO (nodeDq31_n1 (t7,t15,t16,o1_0,o1_1,o1_2,o2)) (unP fun t7_2 => unP fun o1_0_2 => unP fun o1_1_2 o1_2_2 => (next (t7_2,IntKind.wrap .i64 (t16 + (1 : Int)),o1_0_2,o1_1_2,o1_2_2)))) else (exit (t7,o1_0,o1_1,o1_2)))
def stepDq31_n0 (i : Iq31_n0) (v : Vq31_n0) : Option (Vq31_n0 ⊕ Yq31_n0) := stepq31_n0 i v (fun v => some (.inl v)) (fun y => some (.inr y))
theorem stepq31_n0_nat (i : Iq31_n0) (v : Vq31_n0) (next : Vq31_n0 → Ans) (exit : Yq31_n0 → Ans) : stepq31_n0 i v next exit = bindO (stepDq31_n0 i v) (Sum.elim next exit) := by
  obtain ⟨t15,o2⟩ := i
  obtain ⟨t7,t16,o1_0,o1_1,o1_2⟩ := v
  simp only [stepDq31_n0,stepq31_n0,bindO_cond,bindO_assoc,bindO_none,bindO_pure,bindO_elim,bindO_unP,bindO_empty,Sum.elim_inl,Sum.elim_inr]
theorem stepq31_n0_ok (n : Nat) (i : Iq31_n0) (v : Vq31_n0) (K : Ex → St → Ans) : codeI Tryz.tab envq31 noHint (codeD Tryz.tab envq31 noHint 0 64) (n+1) 49 annLq31_n0 (.loop Lq31_n0) (weakP 0 (exk [4,6,7] [4,5] [(0,[4,6,7])]) K) (Sq31_n0 i v) = stepq31_n0 i v (fun v' => codeI Tryz.tab envq31 noHint (codeD Tryz.tab envq31 noHint 0 64) n 49 annLq31_n0 (.loop Lq31_n0) (weakP 0 (exk [4,6,7] [4,5] [(0,[4,6,7])]) K) (Sq31_n0 i v')) (fun y => outq31_n0 i K y) := by kernel_rfl
theorem GNq31_n0_ok : CSum Tryz.prog 49 (.loop Lq31_n0) (sumL decq31_n0 stepDq31_n0 outq31_n0) := csum_loop mixed tabOk envq31Ok 0 (exk [4,6,7] [4,5] [(0,[4,6,7])]) annLq31_n0_ok decq31_n0_ok stepq31_n0_ok stepq31_n0_nat
noncomputable def Gq31_n0 : (Ex → St → Ans) → St → Ans := (sumL decq31_n0 stepDq31_n0 outq31_n0)
theorem Gq31_n0_ok : CSum Tryz.prog 49 (.loop Lq31_n0) Gq31_n0 := GNq31_n0_ok
noncomputable def annq31 : Ann := (.seq .none (.seq .none (.seq .none (.seq (.seq .none (.block (.cut 0 [4,6,7,14,15,16] Gq31_n0))) .none))))
theorem annq31_ok : AnnOk Tryz.prog 49 bq31 annq31 := ⟨(annOk_none _ _ _),⟨(annOk_none _ _ _),⟨(annOk_none _ _ _),⟨⟨(annOk_none _ _ _),Gq31_n0_ok⟩,(annOk_none _ _ _)⟩⟩⟩⟩
abbrev Aq31 := (List UInt8) × (List UInt8)
abbrev Yq31 := (Int) × (Int) × (Int) × (Int)
def fnq31 {β : Type} : Aq31 → (Yq31 → Option β) → Option β := fun (a0,a1) exit => (bindO (loopD (stepDq31_n0 ((↑(List.length [a0,a1]) : Int),[a0,a1])) FUEL (false,(0 : Int),(0 : Int),(0 : Int),(0 : Int))) (unP fun t7 => unP fun o1_0 => unP fun o1_1 o1_2 => (bif !t7 then (exit (o1_0,o1_1,o1_2,(8 : Int))) else (exit (o1_0,o1_1,o1_2,(0 : Int))))))
def fnDq31 (a : Aq31) : Option Yq31 := fnq31 a some
theorem fnq31_nat (a : Aq31) (k : Yq31 → Ans) : fnq31 a k = bindO (fnDq31 a) k := by
  obtain ⟨a0,a1⟩ := a
  simp only [fnDq31,fnq31,bindO_cond,bindO_assoc,bindO_none,bindO_pure,bindO_elim,bindO_unP,bindO_empty]
def argsq31 : Aq31 → List AV := fun (a0,a1) => [.str a0,.str a1]
def decPAq31 (l : List AV) : Option {a : Aq31 // l = argsq31 a} := match l with
  | [.str a0,.str a1] => some ⟨(a0,a1),rfl⟩
  | _ => none
def decAq31 (l : List AV) : Option Aq31 := pk (decPAq31 l)
theorem decAq31_ok (l : List AV) (a : Aq31) (h : decAq31 l = some a) : l = argsq31 a := pk_ok (o := decPAq31 l) h
def rendq31 : Aq31 → Yq31 → AV := fun (a0,a1) => unP fun r_0_0_y => unP fun r_0_1_y => unP fun r_0_2_y r_1_y => .tup [.agg [.int .i64 r_0_0_y,.int .i64 r_0_1_y,.int .i64 r_0_2_y],.int .i64 r_1_y]
theorem rendq31_ok : ∀ (a : Aq31) (y : Yq31),(rendq31 a y).closed1 = true := by
  rintro ⟨a0,a1⟩ y <;> first | rfl | exact Empty.elim y
theorem fnq31_ok (a : Aq31) : fnE Tryz.tab envq31 noHint 0 70 178 Tryz.f178.ntmps Tryz.f178.results.toList annq31 bq31 (argsq31 a) [] (fun v _ => some (v,[])) = fnq31 a (fun y => some (rendq31 a y,[])) := by kernel_rfl
def vFq31 (a : Aq31) (K : AV → Ans) : Ans := bindO (fnDq31 a) fun y => K (rendq31 a y)
def Fq31 : List AV → (AV → Ans) → Ans := fun l K => bindO (decAq31 l) fun a => vFq31 a K
theorem Fq31_ok : PureOk Tryz.prog 178 Fq31 := pure_mkD (hint := noHint) (d := 0) (n := 70) mixed tabOk envq31Ok Tryz.func178 (bodySome (by kernel_rfl)) (by decide +kernel) annq31_ok decAq31_ok fnq31_ok fnq31_nat rendq31_ok
--@ region_Region_Place
noncomputable def envq54 : Env := []
theorem envq54Ok : EnvOk Tryz.prog envq54 := EnvOk.nil
noncomputable def bq54 : Code := Tryz.f209.body.getD .skip
noncomputable def Lq54_n1 : Code := codeAt [1,0,0,1,1,0] bq54
noncomputable def annLq54_n1 : Ann := .none
theorem annLq54_n1_ok : AnnOk Tryz.prog 26 Lq54_n1 annLq54_n1 := (annOk_none _ _ _)
abbrev Iq54_n1 := (Int) × (Int) × (Int) × (Int) × (Int) × (Bool) × (List (List UInt8)) × (List (Int × List UInt8)) × (List (Int × List UInt8)) × (List Int)
abbrev Yq54_n1 := (Bool)
def Sq54_n1 : Iq54_n1 → St := fun (t1,o0_1,o0_2,o1_3,o1_5,o1_6,o2,o3,o4,o5) => { env := [(0,.ptr 0 0),(1,.int .i64 t1)],stk := [[(0,.ptr 0 0),(1,.ptr 1 0),(3,.map 3)]],H := [.cells [.ptr 1 0,.int .i64 o0_1,.int .i64 o0_2],.cells [.own 2,.map 3,.own 4,.int .i64 o1_3,.own 5,.int .i64 o1_5,.bool o1_6],.arr .str o2,.mp .i64 .str o3,.arr (.st (.pair (.int .i64) .str)) o4,.arr (.int .i64) o5],blk := 856064 }
def decPq54_n1 (s : St) : Option {x : Iq54_n1 // s = Sq54_n1 x} := match s with
  | { env := [(0,.ptr 0 0),(1,.int .i64 t1)],stk := [[(0,.ptr 0 0),(1,.ptr 1 0),(3,.map 3)]],H := [.cells [.ptr 1 0,.int .i64 o0_1,.int .i64 o0_2],.cells [.own 2,.map 3,.own 4,.int .i64 o1_3,.own 5,.int .i64 o1_5,.bool o1_6],.arr .str o2,.mp .i64 .str o3,.arr (.st (.pair (.int .i64) .str)) o4,.arr (.int .i64) o5],blk := 856064 } => some ⟨(t1,o0_1,o0_2,o1_3,o1_5,o1_6,o2,o3,o4,o5),rfl⟩
  | _ => none
def decq54_n1 (s : St) : Option Iq54_n1 := pk (decPq54_n1 s)
theorem decq54_n1_ok (s : St) (x : Iq54_n1) (h : decq54_n1 s = some x) : s = Sq54_n1 x := pk_ok (o := decPq54_n1 s) h
def outq54_n1 : Iq54_n1 → (Ex → St → Ans) → Yq54_n1 → Ans := fun (t1,o0_1,o0_2,o1_3,o1_5,o1_6,o2,o3,o4,o5) K => fun t9_y => K (Ex.norm) { env := [(0,.ptr 0 0),(1,.int .i64 t1),(9,.bool t9_y)],stk := [[(0,.ptr 0 0),(1,.ptr 1 0),(3,.map 3)]],H := [.cells [.ptr 1 0,.int .i64 o0_1,.int .i64 o0_2],.cells [.own 2,.map 3,.own 4,.int .i64 o1_3,.own 5,.int .i64 o1_5,.bool o1_6],.arr .str o2,.mp .i64 .str o3,.arr (.st (.pair (.int .i64) .str)) o4,.arr (.int .i64) o5],blk := 856064 }
def nodeq54_n1 {β : Type} : Iq54_n1 → (Yq54_n1 → Option β) → Option β := fun (t1,o0_1,o0_2,o1_3,o1_5,o1_6,o2,o3,o4,o5) exit => (bif decide (t1 < (0 : Int)) then (exit (true)) else (exit (decide (t1 ≥ o0_2))))
def nodeDq54_n1 (i : Iq54_n1) : Option Yq54_n1 := nodeq54_n1 i some
theorem nodeq54_n1_nat (i : Iq54_n1) (k : Yq54_n1 → Ans) : nodeq54_n1 i k = bindO (nodeDq54_n1 i) k := by
  obtain ⟨t1,o0_1,o0_2,o1_3,o1_5,o1_6,o2,o3,o4,o5⟩ := i
  simp only [nodeDq54_n1,nodeq54_n1,bindO_cond,bindO_assoc,bindO_none,bindO_pure,bindO_elim,bindO_unP,bindO_empty]
theorem nodeq54_n1_ok (i : Iq54_n1) (K : Ex → St → Ans) : codeI Tryz.tab envq54 noHint (codeD Tryz.tab envq54 noHint 0 64) 70 26 annLq54_n1 Lq54_n1 (weakP 6 (exk [0,1,9] [4,5] []) K) (Sq54_n1 i) = nodeq54_n1 i (outq54_n1 i K) := by kernel_rfl
theorem GNq54_n1_ok : CSum Tryz.prog 26 Lq54_n1 (sumN decq54_n1 nodeDq54_n1 outq54_n1) := csum_node mixed tabOk envq54Ok 6 (exk [0,1,9] [4,5] []) annLq54_n1_ok decq54_n1_ok nodeq54_n1_ok nodeq54_n1_nat
noncomputable def Gq54_n1 : (Ex → St → Ans) → St → Ans := (sumN decq54_n1 nodeDq54_n1 outq54_n1)
theorem Gq54_n1_ok : CSum Tryz.prog 26 Lq54_n1 Gq54_n1 := GNq54_n1_ok
noncomputable def Lq54_n0 : Code := codeAt [1,0] bq54
noncomputable def annLq54_n0 : Ann := (.block (.seq .none (.cond .none (.seq (.cut 6 [0,1] Gq54_n1) .none))))
theorem annLq54_n0_ok : AnnOk Tryz.prog 26 Lq54_n0 annLq54_n0 := ⟨(annOk_none _ _ _),⟨(annOk_none _ _ _),⟨Gq54_n1_ok,(annOk_none _ _ _)⟩⟩⟩
abbrev Iq54_n0 := (Int) × (Int) × (Int) × (Int) × (Int) × (Bool) × (List (List UInt8)) × (List (Int × List UInt8)) × (List (Int × List UInt8)) × (List Int)
abbrev Yq54_n0 := (Unit) ⊕ (Unit)
def Sq54_n0 : Iq54_n0 → St := fun (t1,o0_1,o0_2,o1_3,o1_5,o1_6,o2,o3,o4,o5) => { env := [(0,.ptr 0 0),(1,.int .i64 t1)],stk := [[(0,.ptr 0 0),(1,.ptr 1 0),(3,.map 3)]],H := [.cells [.ptr 1 0,.int .i64 o0_1,.int .i64 o0_2],.cells [.own 2,.map 3,.own 4,.int .i64 o1_3,.own 5,.int .i64 o1_5,.bool o1_6],.arr .str o2,.mp .i64 .str o3,.arr (.st (.pair (.int .i64) .str)) o4,.arr (.int .i64) o5],blk := 856064 }
def decPq54_n0 (s : St) : Option {x : Iq54_n0 // s = Sq54_n0 x} := match s with
  | { env := [(0,.ptr 0 0),(1,.int .i64 t1)],stk := [[(0,.ptr 0 0),(1,.ptr 1 0),(3,.map 3)]],H := [.cells [.ptr 1 0,.int .i64 o0_1,.int .i64 o0_2],.cells [.own 2,.map 3,.own 4,.int .i64 o1_3,.own 5,.int .i64 o1_5,.bool o1_6],.arr .str o2,.mp .i64 .str o3,.arr (.st (.pair (.int .i64) .str)) o4,.arr (.int .i64) o5],blk := 856064 } => some ⟨(t1,o0_1,o0_2,o1_3,o1_5,o1_6,o2,o3,o4,o5),rfl⟩
  | _ => none
def decq54_n0 (s : St) : Option Iq54_n0 := pk (decPq54_n0 s)
theorem decq54_n0_ok (s : St) (x : Iq54_n0) (h : decq54_n0 s = some x) : s = Sq54_n0 x := pk_ok (o := decPq54_n0 s) h
def outq54_n0 : Iq54_n0 → (Ex → St → Ans) → Yq54_n0 → Ans := fun (t1,o0_1,o0_2,o1_3,o1_5,o1_6,o2,o3,o4,o5) K => (Sum.elim (fun _ => K (Ex.ret) { env := [(4,.int .i64 (0)),(5,.int .i64 (3))],stk := [[(0,.ptr 0 0),(1,.ptr 1 0),(3,.map 3)]],H := [.cells [.ptr 1 0,.int .i64 o0_1,.int .i64 o0_2],.cells [.own 2,.map 3,.own 4,.int .i64 o1_3,.own 5,.int .i64 o1_5,.bool o1_6],.arr .str o2,.mp .i64 .str o3,.arr (.st (.pair (.int .i64) .str)) o4,.arr (.int .i64) o5],blk := 856064 }) (fun _ => K (Ex.norm) { env := [(0,.ptr 0 0),(1,.int .i64 t1)],stk := [[(0,.ptr 0 0),(1,.ptr 1 0),(3,.map 3)]],H := [.cells [.ptr 1 0,.int .i64 o0_1,.int .i64 o0_2],.cells [.own 2,.map 3,.own 4,.int .i64 o1_3,.own 5,.int .i64 o1_5,.bool o1_6],.arr .str o2,.mp .i64 .str o3,.arr (.st (.pair (.int .i64) .str)) o4,.arr (.int .i64) o5],blk := 856064 }))
def nodeq54_n0 {β : Type} : Iq54_n0 → (Yq54_n0 → Option β) → Option β := fun (t1,o0_1,o0_2,o1_3,o1_5,o1_6,o2,o3,o4,o5) exit => (bindO (nodeDq54_n1 (t1,o0_1,o0_2,o1_3,o1_5,o1_6,o2,o3,o4,o5)) fun t9 => (bif t9 then (exit (Sum.inl ())) else (exit (Sum.inr ()))))
def nodeDq54_n0 (i : Iq54_n0) : Option Yq54_n0 := nodeq54_n0 i some
theorem nodeq54_n0_nat (i : Iq54_n0) (k : Yq54_n0 → Ans) : nodeq54_n0 i k = bindO (nodeDq54_n0 i) k := by
  obtain ⟨t1,o0_1,o0_2,o1_3,o1_5,o1_6,o2,o3,o4,o5⟩ := i
  simp only [nodeDq54_n0,nodeq54_n0,bindO_cond,bindO_assoc,bindO_none,bindO_pure,bindO_elim,bindO_unP,bindO_empty]
theorem nodeq54_n0_ok (i : Iq54_n0) (K : Ex → St → Ans) : codeI Tryz.tab envq54 noHint (codeD Tryz.tab envq54 noHint 0 64) 70 26 annLq54_n0 Lq54_n0 (weakP 6 (exk [0,1] [4,5] []) K) (Sq54_n0 i) = nodeq54_n0 i (outq54_n0 i K) := by kernel_rfl
theorem GNq54_n0_ok : CSum Tryz.prog 26 Lq54_n0 (sumN decq54_n0 nodeDq54_n0 outq54_n0) := csum_node mixed tabOk envq54Ok 6 (exk [0,1] [4,5] []) annLq54_n0_ok decq54_n0_ok nodeq54_n0_ok nodeq54_n0_nat
noncomputable def Gq54_n0 : (Ex → St → Ans) → St → Ans := (sumN decq54_n0 nodeDq54_n0 outq54_n0)
theorem Gq54_n0_ok : CSum Tryz.prog 26 Lq54_n0 Gq54_n0 := GNq54_n0_ok
noncomputable def annq54 : Ann := (.seq .none (.seq (.cut 6 [0,1] Gq54_n0) .none))
theorem annq54_ok : AnnOk Tryz.prog 26 bq54 annq54 := ⟨(annOk_none _ _ _),⟨Gq54_n0_ok,(annOk_none _ _ _)⟩⟩
abbrev Aq54 := (Int) × (Int) × (Int) × (Int) × (Int) × (Bool) × (List (List UInt8)) × (List (Int × List UInt8)) × (List (Int × List UInt8)) × (List Int)
abbrev Yq54 := (Int) × (Int)
def fnq54 {β : Type} : Aq54 → (Yq54 → Option β) → Option β := fun (a1,o0_1,o0_2,o1_3,o1_5,o1_6,o2,o3,o4,o5) exit => (bindO (nodeDq54_n0 (a1,o0_1,o0_2,o1_3,o1_5,o1_6,o2,o3,o4,o5)) (Sum.elim (fun _ => (exit ((0 : Int),(3 : Int)))) (fun _ => (exit (IntKind.wrap .i64 (o0_1 + a1),(0 : Int))))))
def fnDq54 (a : Aq54) : Option Yq54 := fnq54 a some
theorem fnq54_nat (a : Aq54) (k : Yq54 → Ans) : fnq54 a k = bindO (fnDq54 a) k := by
  obtain ⟨a1,o0_1,o0_2,o1_3,o1_5,o1_6,o2,o3,o4,o5⟩ := a
  simp only [fnDq54,fnq54,bindO_cond,bindO_assoc,bindO_none,bindO_pure,bindO_elim,bindO_unP,bindO_empty]
def argsq54 : Aq54 → List AV × List AE.Obj := fun (a1,o0_1,o0_2,o1_3,o1_5,o1_6,o2,o3,o4,o5) => ([.ptr 0 0,.int .i64 a1],[.cells [.ptr 1 0,.int .i64 o0_1,.int .i64 o0_2],.cells [.own 2,.map 3,.own 4,.int .i64 o1_3,.own 5,.int .i64 o1_5,.bool o1_6],.arr .str o2,.mp .i64 .str o3,.arr (.st (.pair (.int .i64) .str)) o4,.arr (.int .i64) o5])
def decPAq54 (l : List AV) (H : List AE.Obj) : Option {a : Aq54 // (l,H) = argsq54 a} := match l,H with
  | [.ptr 0 0,.int .i64 a1],[.cells [.ptr 1 0,.int .i64 o0_1,.int .i64 o0_2],.cells [.own 2,.map 3,.own 4,.int .i64 o1_3,.own 5,.int .i64 o1_5,.bool o1_6],.arr .str o2,.mp .i64 .str o3,.arr (.st (.pair (.int .i64) .str)) o4,.arr (.int .i64) o5] => some ⟨(a1,o0_1,o0_2,o1_3,o1_5,o1_6,o2,o3,o4,o5),rfl⟩
  | _,_ => none
def decAq54 (l : List AV) (H : List AE.Obj) : Option Aq54 := pk (decPAq54 l H)
theorem decAq54_ok (l : List AV) (H : List AE.Obj) (a : Aq54) (h : decAq54 l H = some a) : (l,H) = argsq54 a := pk_ok (o := decPAq54 l H) h
def outq54 : Aq54 → (AV → List AE.Obj → Ans) → Yq54 → Ans := fun (a1,o0_1,o0_2,o1_3,o1_5,o1_6,o2,o3,o4,o5) K => unP fun r_0_y r_1_y => K (.tup [.int .i64 r_0_y,.int .i64 r_1_y]) [.cells [.ptr 1 0,.int .i64 o0_1,.int .i64 o0_2],.cells [.own 2,.map 3,.own 4,.int .i64 o1_3,.own 5,.int .i64 o1_5,.bool o1_6],.arr .str o2,.mp .i64 .str o3,.arr (.st (.pair (.int .i64) .str)) o4,.arr (.int .i64) o5]
theorem fnq54_ok (a : Aq54) (K : AV → List AE.Obj → Ans) : fnE Tryz.tab envq54 noHint 0 70 209 Tryz.f209.ntmps Tryz.f209.results.toList annq54 bq54 (argsq54 a).1 (argsq54 a).2 K = fnq54 a (outq54 a K) := by kernel_rfl
def vFq54 (a : Aq54) (K : AV → List AE.Obj → Ans) : Ans := bindO (fnDq54 a) fun y => outq54 a K y
def Fq54 : List AV → List AE.Obj → (AV → List AE.Obj → Ans) → Ans := fun l H K => bindO (decAq54 l H) fun a => vFq54 a K
theorem Fq54_ok : FuncOk Tryz.prog 209 Fq54 := func_mkD (hint := noHint) (d := 0) (n := 70) mixed tabOk envq54Ok Tryz.func209 (bodySome (by kernel_rfl)) (by decide +kernel) annq54_ok decAq54_ok fnq54_ok fnq54_nat
--@ logrec_Size
noncomputable def envq38 : Env := [(129,.func Fq17),(130,.func Fq19),(131,.func Fq20)]
theorem envq38Ok : EnvOk Tryz.prog envq38 := EnvOk.cons Fq17_ok (EnvOk.cons Fq19_ok (EnvOk.cons Fq20_ok (EnvOk.nil)))
noncomputable def bq38 : Code := Tryz.f260.body.getD .skip
noncomputable def Lq38_n0 : Code := codeAt [1,1,1,1,0,0] bq38
noncomputable def annLq38_n0 : Ann := .none
theorem annLq38_n0_ok : AnnOk Tryz.prog 38 Lq38_n0 annLq38_n0 := (annOk_none _ _ _)
abbrev Iq38_n0 := (Int) × (List UInt8) × (Int) × (Int)
abbrev Yq38_n0 := (Bool)
def Sq38_n0 : Iq38_n0 → St := fun (t1,t7,t8,t9) => { env := [(1,.int .i64 t1),(7,.str t7),(8,.int .i64 t8),(9,.int .i64 t9)],stk := [[]],H := [],blk := 1064960 }
def decPq38_n0 (s : St) : Option {x : Iq38_n0 // s = Sq38_n0 x} := match s with
  | { env := [(1,.int .i64 t1),(7,.str t7),(8,.int .i64 t8),(9,.int .i64 t9)],stk := [[]],H := [],blk := 1064960 } => some ⟨(t1,t7,t8,t9),rfl⟩
  | _ => none
def decq38_n0 (s : St) : Option Iq38_n0 := pk (decPq38_n0 s)
theorem decq38_n0_ok (s : St) (x : Iq38_n0) (h : decq38_n0 s = some x) : s = Sq38_n0 x := pk_ok (o := decPq38_n0 s) h
def outq38_n0 : Iq38_n0 → (Ex → St → Ans) → Yq38_n0 → Ans := fun (t1,t7,t8,t9) K => fun t35_y => K (Ex.norm) { env := [(9,.int .i64 t9),(35,.bool t35_y)],stk := [[]],H := [],blk := 1064960 }
def nodeq38_n0 {β : Type} : Iq38_n0 → (Yq38_n0 → Option β) → Option β := fun (t1,t7,t8,t9) exit => (bif !t7 == [(82 : UInt8)] then (exit (true)) else (bif t8 != t1 then (exit (true)) else (bif decide (t9 < (1 : Int)) then (exit (true)) else (exit (decide (t9 > (16 : Int)))))))
def nodeDq38_n0 (i : Iq38_n0) : Option Yq38_n0 := nodeq38_n0 i some
theorem nodeq38_n0_nat (i : Iq38_n0) (k : Yq38_n0 → Ans) : nodeq38_n0 i k = bindO (nodeDq38_n0 i) k := by
  obtain ⟨t1,t7,t8,t9⟩ := i
  simp only [nodeDq38_n0,nodeq38_n0,bindO_cond,bindO_assoc,bindO_none,bindO_pure,bindO_elim,bindO_unP,bindO_empty]
theorem nodeq38_n0_ok (i : Iq38_n0) (K : Ex → St → Ans) : codeI Tryz.tab envq38 noHint (codeD Tryz.tab envq38 noHint 0 64) 70 38 annLq38_n0 Lq38_n0 (weakP 0 (exk [9,35] [4,5] []) K) (Sq38_n0 i) = nodeq38_n0 i (outq38_n0 i K) := by kernel_rfl
theorem GNq38_n0_ok : CSum Tryz.prog 38 Lq38_n0 (sumN decq38_n0 nodeDq38_n0 outq38_n0) := csum_node mixed tabOk envq38Ok 0 (exk [9,35] [4,5] []) annLq38_n0_ok decq38_n0_ok nodeq38_n0_ok nodeq38_n0_nat
noncomputable def Gq38_n0 : (Ex → St → Ans) → St → Ans := (sumN decq38_n0 nodeDq38_n0 outq38_n0)
theorem Gq38_n0_ok : CSum Tryz.prog 38 Lq38_n0 Gq38_n0 := GNq38_n0_ok
noncomputable def annq38 : Ann := (.seq .none (.seq .none (.seq .none (.seq .none (.seq (.seq (.cut 0 [1,7,8,9] Gq38_n0) .none) .none)))))
theorem annq38_ok : AnnOk Tryz.prog 38 bq38 annq38 := ⟨(annOk_none _ _ _),⟨(annOk_none _ _ _),⟨(annOk_none _ _ _),⟨(annOk_none _ _ _),⟨⟨Gq38_n0_ok,(annOk_none _ _ _)⟩,(annOk_none _ _ _)⟩⟩⟩⟩⟩
abbrev Aq38 := (List UInt8) × (Int)
abbrev Yq38 := (Int) × (Int)
def fnq38 {β : Type} : Aq38 → (Yq38 → Option β) → Option β := fun (a0,a1) exit => (bif (↑(List.length a0) : Int) != (64 : Int) then (exit ((0 : Int),(12 : Int))) else (bindO (fnDq17 (a0)) fun _ => (bindO (fnDq19 ((1 : Int),a0,(0 : Int))) (unP fun r => unP fun o0_0 o0_1 => (bindO (fnDq20 ((6 : Int),o0_0,o0_1)) (unP fun r_2 => unP fun o0_0_2 o0_1_2 => (bindO (fnDq20 ((1 : Int),o0_0_2,o0_1_2)) (unP fun r_3 => unP fun o0_0_3 o0_1_3 => (bindO (nodeDq38_n0 (a1,r,r_2,r_3)) fun t35 => (bif t35 then (exit ((0 : Int),(8 : Int))) else (exit (IntKind.wrap .i64 (r_3 + (1 : Int)),(0 : Int)))))))))))))
def fnDq38 (a : Aq38) : Option Yq38 := fnq38 a some
theorem fnq38_nat (a : Aq38) (k : Yq38 → Ans) : fnq38 a k = bindO (fnDq38 a) k := by
  obtain ⟨a0,a1⟩ := a
  simp only [fnDq38,fnq38,bindO_cond,bindO_assoc,bindO_none,bindO_pure,bindO_elim,bindO_unP,bindO_empty]
def argsq38 : Aq38 → List AV := fun (a0,a1) => [.str a0,.int .i64 a1]
def decPAq38 (l : List AV) : Option {a : Aq38 // l = argsq38 a} := match l with
  | [.str a0,.int .i64 a1] => some ⟨(a0,a1),rfl⟩
  | _ => none
def decAq38 (l : List AV) : Option Aq38 := pk (decPAq38 l)
theorem decAq38_ok (l : List AV) (a : Aq38) (h : decAq38 l = some a) : l = argsq38 a := pk_ok (o := decPAq38 l) h
def rendq38 : Aq38 → Yq38 → AV := fun (a0,a1) => unP fun r_0_y r_1_y => .tup [.int .i64 r_0_y,.int .i64 r_1_y]
theorem rendq38_ok : ∀ (a : Aq38) (y : Yq38),(rendq38 a y).closed1 = true := by
  rintro ⟨a0,a1⟩ y <;> first | rfl | exact Empty.elim y
theorem fnq38_ok (a : Aq38) : fnE Tryz.tab envq38 noHint 0 70 260 Tryz.f260.ntmps Tryz.f260.results.toList annq38 bq38 (argsq38 a) [] (fun v _ => some (v,[])) = fnq38 a (fun y => some (rendq38 a y,[])) := by kernel_rfl
def vFq38 (a : Aq38) (K : AV → Ans) : Ans := bindO (fnDq38 a) fun y => K (rendq38 a y)
def Fq38 : List AV → (AV → Ans) → Ans := fun l K => bindO (decAq38 l) fun a => vFq38 a K
theorem Fq38_ok : PureOk Tryz.prog 260 Fq38 := pure_mkD (hint := noHint) (d := 0) (n := 70) mixed tabOk envq38Ok Tryz.func260 (bodySome (by kernel_rfl)) (by decide +kernel) annq38_ok decAq38_ok fnq38_ok fnq38_nat rendq38_ok
--@ logrec_tail
noncomputable def envq39 : Env := [(123,.pure Fq4)]
theorem envq39Ok : EnvOk Tryz.prog envq39 := EnvOk.cons Fq4_ok (EnvOk.nil)
noncomputable def bq39 : Code := Tryz.f165.body.getD .skip
noncomputable def annq39 : Ann := .none
theorem annq39_ok : AnnOk Tryz.prog 9 bq39 annq39 := (annOk_none _ _ _)
abbrev Aq39 := (List UInt8) × (List UInt8)
abbrev Yq39 := (List UInt8)
def fnq39 {β : Type} : Aq39 → (Yq39 → Option β) → Option β := fun (a0,a1) exit => (bif Nat.ble (List.length a0 + List.length a1) (9223372036854775807 : Nat) then (bindO (fnDq4 (a0 ++ a1)) fun r => (exit (r))) else none)
def fnDq39 (a : Aq39) : Option Yq39 := fnq39 a some
theorem fnq39_nat (a : Aq39) (k : Yq39 → Ans) : fnq39 a k = bindO (fnDq39 a) k := by
  obtain ⟨a0,a1⟩ := a
  simp only [fnDq39,fnq39,bindO_cond,bindO_assoc,bindO_none,bindO_pure,bindO_elim,bindO_unP,bindO_empty]
def argsq39 : Aq39 → List AV := fun (a0,a1) => [.str a0,.str a1]
def decPAq39 (l : List AV) : Option {a : Aq39 // l = argsq39 a} := match l with
  | [.str a0,.str a1] => some ⟨(a0,a1),rfl⟩
  | _ => none
def decAq39 (l : List AV) : Option Aq39 := pk (decPAq39 l)
theorem decAq39_ok (l : List AV) (a : Aq39) (h : decAq39 l = some a) : l = argsq39 a := pk_ok (o := decPAq39 l) h
def rendq39 : Aq39 → Yq39 → AV := fun (a0,a1) => fun r_y => .str r_y
theorem rendq39_ok : ∀ (a : Aq39) (y : Yq39),(rendq39 a y).closed1 = true := by
  rintro ⟨a0,a1⟩ y <;> first | rfl | exact Empty.elim y
theorem fnq39_ok (a : Aq39) : fnE Tryz.tab envq39 noHint 0 70 165 Tryz.f165.ntmps Tryz.f165.results.toList annq39 bq39 (argsq39 a) [] (fun v _ => some (v,[])) = fnq39 a (fun y => some (rendq39 a y,[])) := by kernel_rfl
def vFq39 (a : Aq39) (K : AV → Ans) : Ans := bindO (fnDq39 a) fun y => K (rendq39 a y)
def Fq39 : List AV → (AV → Ans) → Ans := fun l K => bindO (decAq39 l) fun a => vFq39 a K
theorem Fq39_ok : PureOk Tryz.prog 165 Fq39 := pure_mkD (hint := noHint) (d := 0) (n := 70) mixed tabOk envq39Ok Tryz.func165 (bodySome (by kernel_rfl)) (by decide +kernel) annq39_ok decAq39_ok fnq39_ok fnq39_nat rendq39_ok
--@ logrec_Check_1
noncomputable def envq35 : Env := []
theorem envq35Ok : EnvOk Tryz.prog envq35 := EnvOk.nil
noncomputable def bq35 : Code := Tryz.f208.body.getD .skip
noncomputable def annq35 : Ann := .none
theorem annq35_ok : AnnOk Tryz.prog 9 bq35 annq35 := (annOk_none _ _ _)
abbrev Aq35 := (Int) × (List UInt8) × (Int) × (List UInt8)
abbrev Yq35 := (Bool)
def fnq35 {β : Type} : Aq35 → (Yq35 → Option β) → Option β := fun (a0_0,a0_1,o0_0,o0_1) exit => (exit (a0_0 == o0_0))
def fnDq35 (a : Aq35) : Option Yq35 := fnq35 a some
theorem fnq35_nat (a : Aq35) (k : Yq35 → Ans) : fnq35 a k = bindO (fnDq35 a) k := by
  obtain ⟨a0_0,a0_1,o0_0,o0_1⟩ := a
  simp only [fnDq35,fnq35,bindO_cond,bindO_assoc,bindO_none,bindO_pure,bindO_elim,bindO_unP,bindO_empty]
def argsq35 : Aq35 → List AV × List AE.Obj := fun (a0_0,a0_1,o0_0,o0_1) => ([.agg [.int .i64 a0_0,.str a0_1],.ptr 0 0],[.cells [.int .i64 o0_0,.str o0_1]])
def decPAq35 (l : List AV) (H : List AE.Obj) : Option {a : Aq35 // (l,H) = argsq35 a} := match l,H with
  | [.agg [.int .i64 a0_0,.str a0_1],.ptr 0 0],[.cells [.int .i64 o0_0,.str o0_1]] => some ⟨(a0_0,a0_1,o0_0,o0_1),rfl⟩
  | _,_ => none
def decAq35 (l : List AV) (H : List AE.Obj) : Option Aq35 := pk (decPAq35 l H)
theorem decAq35_ok (l : List AV) (H : List AE.Obj) (a : Aq35) (h : decAq35 l H = some a) : (l,H) = argsq35 a := pk_ok (o := decPAq35 l H) h
def outq35 : Aq35 → (AV → List AE.Obj → Ans) → Yq35 → Ans := fun (a0_0,a0_1,o0_0,o0_1) K => fun r_y => K (.bool r_y) [.cells [.int .i64 o0_0,.str o0_1]]
theorem fnq35_ok (a : Aq35) (K : AV → List AE.Obj → Ans) : fnE Tryz.tab envq35 noHint 0 70 208 Tryz.f208.ntmps Tryz.f208.results.toList annq35 bq35 (argsq35 a).1 (argsq35 a).2 K = fnq35 a (outq35 a K) := by kernel_rfl
def vFq35 (a : Aq35) (K : AV → List AE.Obj → Ans) : Ans := bindO (fnDq35 a) fun y => outq35 a K y
def Fq35 : List AV → List AE.Obj → (AV → List AE.Obj → Ans) → Ans := fun l H K => bindO (decAq35 l H) fun a => vFq35 a K
theorem Fq35_ok : FuncOk Tryz.prog 208 Fq35 := func_mkD (hint := noHint) (d := 0) (n := 70) mixed tabOk envq35Ok Tryz.func208 (bodySome (by kernel_rfl)) (by decide +kernel) annq35_ok decAq35_ok fnq35_ok fnq35_nat
--@ slices_IndexFunc_api_Sector_api_Sector
noncomputable def envq72 : Env := [(208,.func Fq35)]
theorem envq72Ok : EnvOk Tryz.prog envq72 := EnvOk.cons Fq35_ok (EnvOk.nil)
noncomputable def bq72 : Code := Tryz.f237.body.getD .skip
noncomputable def Lq72_n0 : Code := codeAt [1,0,1,0,0] bq72
noncomputable def annLq72_n0 : Ann := .at 1 [0,1,7,8] (.loop .none)
theorem annLq72_n0_ok : AnnOk Tryz.prog 19 (.loop Lq72_n0) annLq72_n0 := annOk_at (annOk_none _ _ _)
abbrev Iq72_n0 := (List (Int × List UInt8)) × (Int) × (Int) × (List UInt8)
abbrev Yq72_n0 := ((Int)) ⊕ (Unit)
abbrev Vq72_n0 := (Int)
def Sq72_n0 : Iq72_n0 → Vq72_n0 → St := fun (t0,t7,o0_0,o0_1) t8 => { env := [(0,.ro (.st (.pair (.int .i64) .str)) t0),(1,.fn (Fn.func 208) [] [.ptr 0 0]),(7,.int .i64 t7),(8,.int .i64 t8)],stk := [[(0,.ptr 0 0)]],H := [.cells [.int .i64 o0_0,.str o0_1]],blk := 970752 }
def decPq72_n0 (s : St) : Option {x : Iq72_n0 × Vq72_n0 // s = Sq72_n0 x.1 x.2} := match s with
  | { env := [(0,.ro (.st (.pair (.int .i64) .str)) t0),(1,.fn (Fn.func 208) [] [.ptr 0 0]),(7,.int .i64 t7),(8,.int .i64 t8)],stk := [[(0,.ptr 0 0)]],H := [.cells [.int .i64 o0_0,.str o0_1]],blk := 970752 } => some ⟨((t0,t7,o0_0,o0_1),t8),rfl⟩
  | _ => none
def decq72_n0 (s : St) : Option (Iq72_n0 × Vq72_n0) := pk (decPq72_n0 s)
theorem decq72_n0_ok (s : St) (x : Iq72_n0 × Vq72_n0) (h : decq72_n0 s = some x) : s = Sq72_n0 x.1 x.2 := pk_ok (o := decPq72_n0 s) h
def outq72_n0 : Iq72_n0 → (Ex → St → Ans) → Yq72_n0 → Ans := fun (t0,t7,o0_0,o0_1) K => (Sum.elim (fun t4_y => K (Ex.ret) { env := [(4,.int .i64 t4_y)],stk := [[(0,.ptr 0 0)]],H := [.cells [.int .i64 o0_0,.str o0_1]],blk := 970753 }) (fun _ => K (Ex.exit 0) { env := [],stk := [[(0,.ptr 0 0)]],H := [.cells [.int .i64 o0_0,.str o0_1]],blk := 970752 }))
def stepq72_n0 {β : Type} : Iq72_n0 → Vq72_n0 → (Vq72_n0 → Option β) → (Yq72_n0 → Option β) → Option β := fun (t0,t7,o0_0,o0_1) t8 next exit => (bif decide (t8 < t7) then (bindO (nth t0 t8) fun x => (bindO (fnDq35 (x.fst,x.snd,o0_0,o0_1)) fun r => (bif r then (exit (Sum.inl (t8))) else (next (IntKind.wrap .i64 (t8 + (1 : Int))))))) else (exit (Sum.inr ())))
def stepDq72_n0 (i : Iq72_n0) (v : Vq72_n0) : Option (Vq72_n0 ⊕ Yq72_n0) := stepq72_n0 i v (fun v => some (.inl v)) (fun y => some (.inr y))
theorem stepq72_n0_nat (i : Iq72_n0) (v : Vq72_n0) (next : Vq72_n0 → Ans) (exit : Yq72_n0 → Ans) : stepq72_n0 i v next exit = bindO (stepDq72_n0 i v) (Sum.elim next exit) := by
  obtain ⟨t0,t7,o0_0,o0_1⟩ := i
  obtain z := v
  simp only [stepDq72_n0,stepq72_n0,bindO_cond,bindO_assoc,bindO_none,bindO_pure,bindO_elim,bindO_unP,bindO_empty,Sum.elim_inl,Sum.elim_inr]
theorem stepq72_n0_ok (n : Nat) (i : Iq72_n0) (v : Vq72_n0) (K : Ex → St → Ans) : codeI Tryz.tab envq72 noHint (codeD Tryz.tab envq72 noHint 0 64) (n+1) 19 annLq72_n0 (.loop Lq72_n0) (weakP 1 (exk [] [4] [(0,[])]) K) (Sq72_n0 i v) = stepq72_n0 i v (fun v' => codeI Tryz.tab envq72 noHint (codeD Tryz.tab envq72 noHint 0 64) n 19 annLq72_n0 (.loop Lq72_n0) (weakP 1 (exk [] [4] [(0,[])]) K) (Sq72_n0 i v')) (fun y => outq72_n0 i K y) := by kernel_rfl
theorem GNq72_n0_ok : CSum Tryz.prog 19 (.loop Lq72_n0) (sumL decq72_n0 stepDq72_n0 outq72_n0) := csum_loop mixed tabOk envq72Ok 1 (exk [] [4] [(0,[])]) annLq72_n0_ok decq72_n0_ok stepq72_n0_ok stepq72_n0_nat
noncomputable def Gq72_n0 : (Ex → St → Ans) → St → Ans := (sumL decq72_n0 stepDq72_n0 outq72_n0)
theorem Gq72_n0_ok : CSum Tryz.prog 19 (.loop Lq72_n0) Gq72_n0 := GNq72_n0_ok
noncomputable def annq72 : Ann := (.seq .none (.seq (.seq .none (.block (.cut 1 [0,1,7,8] Gq72_n0))) .none))
theorem annq72_ok : AnnOk Tryz.prog 19 bq72 annq72 := ⟨(annOk_none _ _ _),⟨⟨(annOk_none _ _ _),Gq72_n0_ok⟩,(annOk_none _ _ _)⟩⟩
abbrev Aq72 := (List (Int × List UInt8)) × (Int) × (List UInt8)
abbrev Yq72 := (Int)
def fnq72 {β : Type} : Aq72 → (Yq72 → Option β) → Option β := fun (a0,o0_0,o0_1) exit => (bindO (loopD (stepDq72_n0 (a0,(↑(List.length a0) : Int),o0_0,o0_1)) FUEL ((0 : Int))) (Sum.elim (fun t4 => (exit (t4))) (fun _ => (exit ((-1 : Int))))))
def fnDq72 (a : Aq72) : Option Yq72 := fnq72 a some
theorem fnq72_nat (a : Aq72) (k : Yq72 → Ans) : fnq72 a k = bindO (fnDq72 a) k := by
  obtain ⟨a0,o0_0,o0_1⟩ := a
  simp only [fnDq72,fnq72,bindO_cond,bindO_assoc,bindO_none,bindO_pure,bindO_elim,bindO_unP,bindO_empty]
def argsq72 : Aq72 → List AV × List AE.Obj := fun (a0,o0_0,o0_1) => ([.ro (.st (.pair (.int .i64) .str)) a0,.fn (Fn.func 208) [] [.ptr 0 0]],[.cells [.int .i64 o0_0,.str o0_1]])
def decPAq72 (l : List AV) (H : List AE.Obj) : Option {a : Aq72 // (l,H) = argsq72 a} := match l,H with
  | [.ro (.st (.pair (.int .i64) .str)) a0,.fn (Fn.func 208) [] [.ptr 0 0]],[.cells [.int .i64 o0_0,.str o0_1]] => some ⟨(a0,o0_0,o0_1),rfl⟩
  | _,_ => none
def decAq72 (l : List AV) (H : List AE.Obj) : Option Aq72 := pk (decPAq72 l H)
theorem decAq72_ok (l : List AV) (H : List AE.Obj) (a : Aq72) (h : decAq72 l H = some a) : (l,H) = argsq72 a := pk_ok (o := decPAq72 l H) h
def outq72 : Aq72 → (AV → List AE.Obj → Ans) → Yq72 → Ans := fun (a0,o0_0,o0_1) K => fun r_y => K (.int .i64 r_y) [.cells [.int .i64 o0_0,.str o0_1]]
theorem fnq72_ok (a : Aq72) (K : AV → List AE.Obj → Ans) : fnE Tryz.tab envq72 noHint 0 70 237 Tryz.f237.ntmps Tryz.f237.results.toList annq72 bq72 (argsq72 a).1 (argsq72 a).2 K = fnq72 a (outq72 a K) := by kernel_rfl
def vFq72 (a : Aq72) (K : AV → List AE.Obj → Ans) : Ans := bindO (fnDq72 a) fun y => outq72 a K y
def Fq72 : List AV → List AE.Obj → (AV → List AE.Obj → Ans) → Ans := fun l H K => bindO (decAq72 l H) fun a => vFq72 a K
theorem Fq72_ok : FuncOk Tryz.prog 237 Fq72 := func_mkD (hint := noHint) (d := 0) (n := 70) mixed tabOk envq72Ok Tryz.func237 (bodySome (by kernel_rfl)) (by decide +kernel) annq72_ok decAq72_ok fnq72_ok fnq72_nat
--@ slices_ContainsFunc_api_Sector_api_Sector
noncomputable def envq70 : Env := [(237,.func Fq72)]
theorem envq70Ok : EnvOk Tryz.prog envq70 := EnvOk.cons Fq72_ok (EnvOk.nil)
noncomputable def bq70 : Code := Tryz.f207.body.getD .skip
noncomputable def annq70 : Ann := .none
theorem annq70_ok : AnnOk Tryz.prog 9 bq70 annq70 := (annOk_none _ _ _)
abbrev Aq70 := (List (Int × List UInt8)) × (Int) × (List UInt8)
abbrev Yq70 := (Bool)
def fnq70 {β : Type} : Aq70 → (Yq70 → Option β) → Option β := fun (a0,o0_0,o0_1) exit => (bindO (fnDq72 (a0,o0_0,o0_1)) fun r => (exit (decide (r ≥ (0 : Int)))))
def fnDq70 (a : Aq70) : Option Yq70 := fnq70 a some
theorem fnq70_nat (a : Aq70) (k : Yq70 → Ans) : fnq70 a k = bindO (fnDq70 a) k := by
  obtain ⟨a0,o0_0,o0_1⟩ := a
  simp only [fnDq70,fnq70,bindO_cond,bindO_assoc,bindO_none,bindO_pure,bindO_elim,bindO_unP,bindO_empty]
def argsq70 : Aq70 → List AV × List AE.Obj := fun (a0,o0_0,o0_1) => ([.ro (.st (.pair (.int .i64) .str)) a0,.fn (Fn.func 208) [] [.ptr 0 0]],[.cells [.int .i64 o0_0,.str o0_1]])
def decPAq70 (l : List AV) (H : List AE.Obj) : Option {a : Aq70 // (l,H) = argsq70 a} := match l,H with
  | [.ro (.st (.pair (.int .i64) .str)) a0,.fn (Fn.func 208) [] [.ptr 0 0]],[.cells [.int .i64 o0_0,.str o0_1]] => some ⟨(a0,o0_0,o0_1),rfl⟩
  | _,_ => none
def decAq70 (l : List AV) (H : List AE.Obj) : Option Aq70 := pk (decPAq70 l H)
theorem decAq70_ok (l : List AV) (H : List AE.Obj) (a : Aq70) (h : decAq70 l H = some a) : (l,H) = argsq70 a := pk_ok (o := decPAq70 l H) h
def outq70 : Aq70 → (AV → List AE.Obj → Ans) → Yq70 → Ans := fun (a0,o0_0,o0_1) K => fun r_y => K (.bool r_y) [.cells [.int .i64 o0_0,.str o0_1]]
theorem fnq70_ok (a : Aq70) (K : AV → List AE.Obj → Ans) : fnE Tryz.tab envq70 noHint 0 70 207 Tryz.f207.ntmps Tryz.f207.results.toList annq70 bq70 (argsq70 a).1 (argsq70 a).2 K = fnq70 a (outq70 a K) := by kernel_rfl
def vFq70 (a : Aq70) (K : AV → List AE.Obj → Ans) : Ans := bindO (fnDq70 a) fun y => outq70 a K y
def Fq70 : List AV → List AE.Obj → (AV → List AE.Obj → Ans) → Ans := fun l H K => bindO (decAq70 l H) fun a => vFq70 a K
theorem Fq70_ok : FuncOk Tryz.prog 207 Fq70 := func_mkD (hint := noHint) (d := 0) (n := 70) mixed tabOk envq70Ok Tryz.func207 (bodySome (by kernel_rfl)) (by decide +kernel) annq70_ok decAq70_ok fnq70_ok fnq70_nat
--@ logrec_Check
noncomputable def envq34 : Env := [(207,.func Fq70)]
theorem envq34Ok : EnvOk Tryz.prog envq34 := EnvOk.cons Fq70_ok (EnvOk.nil)
noncomputable def bq34 : Code := Tryz.f164.body.getD .skip
noncomputable def Lq34_n2 : Code := codeAt [1,1,0,1,0,0,1,1,0,0,1,0,0] bq34
noncomputable def annLq34_n2 : Ann := .none
theorem annLq34_n2_ok : AnnOk Tryz.prog 41 Lq34_n2 annLq34_n2 := (annOk_none _ _ _)
abbrev Iq34_n2 := (List (Int × List UInt8)) × (Int) × (List (Int × List UInt8)) × (Int) × (Int) × (Int) × (List UInt8)
abbrev Yq34_n2 := (Bool)
def Sq34_n2 : Iq34_n2 → St := fun (t0,t3,t13,t14,t15,o0_0,o0_1) => { env := [(0,.ro (.st (.pair (.int .i64) .str)) t0),(3,.int .i64 t3),(4,.ptr 0 0),(13,.ro (.st (.pair (.int .i64) .str)) t13),(14,.int .i64 t14),(15,.int .i64 t15)],stk := [[]],H := [.cells [.int .i64 o0_0,.str o0_1]],blk := 671747 }
def decPq34_n2 (s : St) : Option {x : Iq34_n2 // s = Sq34_n2 x} := match s with
  | { env := [(0,.ro (.st (.pair (.int .i64) .str)) t0),(3,.int .i64 t3),(4,.ptr 0 0),(13,.ro (.st (.pair (.int .i64) .str)) t13),(14,.int .i64 t14),(15,.int .i64 t15)],stk := [[]],H := [.cells [.int .i64 o0_0,.str o0_1]],blk := 671747 } => some ⟨(t0,t3,t13,t14,t15,o0_0,o0_1),rfl⟩
  | _ => none
def decq34_n2 (s : St) : Option Iq34_n2 := pk (decPq34_n2 s)
theorem decq34_n2_ok (s : St) (x : Iq34_n2) (h : decq34_n2 s = some x) : s = Sq34_n2 x := pk_ok (o := decPq34_n2 s) h
def outq34_n2 : Iq34_n2 → (Ex → St → Ans) → Yq34_n2 → Ans := fun (t0,t3,t13,t14,t15,o0_0,o0_1) K => fun t20_y => K (Ex.norm) { env := [(0,.ro (.st (.pair (.int .i64) .str)) t0),(3,.int .i64 t3),(4,.ptr 0 0),(13,.ro (.st (.pair (.int .i64) .str)) t13),(14,.int .i64 t14),(15,.int .i64 t15),(20,.bool t20_y)],stk := [[]],H := [.cells [.int .i64 o0_0,.str o0_1]],blk := 671747 }
def nodeq34_n2 {β : Type} : Iq34_n2 → (Yq34_n2 → Option β) → Option β := fun (t0,t3,t13,t14,t15,o0_0,o0_1) exit => (bif decide (o0_0 < (0 : Int)) then (exit (true)) else (exit (decide (o0_0 ≥ (1000 : Int)))))
def nodeDq34_n2 (i : Iq34_n2) : Option Yq34_n2 := nodeq34_n2 i some
theorem nodeq34_n2_nat (i : Iq34_n2) (k : Yq34_n2 → Ans) : nodeq34_n2 i k = bindO (nodeDq34_n2 i) k := by
  obtain ⟨t0,t3,t13,t14,t15,o0_0,o0_1⟩ := i
  simp only [nodeDq34_n2,nodeq34_n2,bindO_cond,bindO_assoc,bindO_none,bindO_pure,bindO_elim,bindO_unP,bindO_empty]
theorem nodeq34_n2_ok (i : Iq34_n2) (K : Ex → St → Ans) : codeI Tryz.tab envq34 noHint (codeD Tryz.tab envq34 noHint 0 64) 70 41 annLq34_n2 Lq34_n2 (weakP 0 (exk [0,3,4,13,14,15,20] [2] []) K) (Sq34_n2 i) = nodeq34_n2 i (outq34_n2 i K) := by kernel_rfl
theorem GNq34_n2_ok : CSum Tryz.prog 41 Lq34_n2 (sumN decq34_n2 nodeDq34_n2 outq34_n2) := csum_node mixed tabOk envq34Ok 0 (exk [0,3,4,13,14,15,20] [2] []) annLq34_n2_ok decq34_n2_ok nodeq34_n2_ok nodeq34_n2_nat
noncomputable def Gq34_n2 : (Ex → St → Ans) → St → Ans := (sumN decq34_n2 nodeDq34_n2 outq34_n2)
theorem Gq34_n2_ok : CSum Tryz.prog 41 Lq34_n2 Gq34_n2 := GNq34_n2_ok
noncomputable def Lq34_n1 : Code := codeAt [1,1,0,1,0,0,1,1,0] bq34
noncomputable def annLq34_n1 : Ann := (.block (.seq .none (.block (.seq (.cut 0 [0,3,4,13,14,15] Gq34_n2) .none))))
theorem annLq34_n1_ok : AnnOk Tryz.prog 41 Lq34_n1 annLq34_n1 := ⟨(annOk_none _ _ _),⟨Gq34_n2_ok,(annOk_none _ _ _)⟩⟩
abbrev Iq34_n1 := (List (Int × List UInt8)) × (List (Int × List UInt8)) × (Int) × (Int)
abbrev Yq34_n1 := ((Int)) ⊕ (Unit)
def Sq34_n1 : Iq34_n1 → St := fun (t0,t13,t14,t15) => { env := [(0,.ro (.st (.pair (.int .i64) .str)) t0),(13,.ro (.st (.pair (.int .i64) .str)) t13),(14,.int .i64 t14),(15,.int .i64 t15)],stk := [[]],H := [],blk := 671745 }
def decPq34_n1 (s : St) : Option {x : Iq34_n1 // s = Sq34_n1 x} := match s with
  | { env := [(0,.ro (.st (.pair (.int .i64) .str)) t0),(13,.ro (.st (.pair (.int .i64) .str)) t13),(14,.int .i64 t14),(15,.int .i64 t15)],stk := [[]],H := [],blk := 671745 } => some ⟨(t0,t13,t14,t15),rfl⟩
  | _ => none
def decq34_n1 (s : St) : Option Iq34_n1 := pk (decPq34_n1 s)
theorem decq34_n1_ok (s : St) (x : Iq34_n1) (h : decq34_n1 s = some x) : s = Sq34_n1 x := pk_ok (o := decPq34_n1 s) h
def outq34_n1 : Iq34_n1 → (Ex → St → Ans) → Yq34_n1 → Ans := fun (t0,t13,t14,t15) K => (Sum.elim (fun t2_y => K (Ex.ret) { env := [(2,.int .i64 t2_y)],stk := [[]],H := [],blk := 671747 }) (fun _ => K (Ex.norm) { env := [(0,.ro (.st (.pair (.int .i64) .str)) t0),(13,.ro (.st (.pair (.int .i64) .str)) t13),(14,.int .i64 t14),(15,.int .i64 t15)],stk := [[]],H := [],blk := 671747 }))
def nodeq34_n1 {β : Type} : Iq34_n1 → (Yq34_n1 → Option β) → Option β := fun (t0,t13,t14,t15) exit => (bindO (nth t13 t15) fun x => (bindO (nodeDq34_n2 (t0,t15,t13,t14,t15,x.fst,x.snd)) fun t20 => (bif t20 then (exit (Sum.inl ((3 : Int)))) else (bif (↑(List.length x.snd) : Int) != (64 : Int) then (exit (Sum.inl ((12 : Int)))) else (bif inR t15 (List.length t0 + (1 : Nat)) then (bindO (fnDq70 (List.take (Int.toNat t15) t0,x.fst,x.snd)) fun r => (bif r then (exit (Sum.inl ((9 : Int)))) else (exit (Sum.inr ())))) else none)))))
def nodeDq34_n1 (i : Iq34_n1) : Option Yq34_n1 := nodeq34_n1 i some
theorem nodeq34_n1_nat (i : Iq34_n1) (k : Yq34_n1 → Ans) : nodeq34_n1 i k = bindO (nodeDq34_n1 i) k := by
  obtain ⟨t0,t13,t14,t15⟩ := i
  simp only [nodeDq34_n1,nodeq34_n1,bindO_cond,bindO_assoc,bindO_none,bindO_pure,bindO_elim,bindO_unP,bindO_empty]
theorem nodeq34_n1_ok (i : Iq34_n1) (K : Ex → St → Ans) : codeI Tryz.tab envq34 noHint (codeD Tryz.tab envq34 noHint 0 64) 70 41 annLq34_n1 Lq34_n1 (weakP 0 (exk [0,13,14,15] [2] []) K) (Sq34_n1 i) = nodeq34_n1 i (outq34_n1 i K) := by kernel_rfl
theorem GNq34_n1_ok : CSum Tryz.prog 41 Lq34_n1 (sumN decq34_n1 nodeDq34_n1 outq34_n1) := csum_node mixed tabOk envq34Ok 0 (exk [0,13,14,15] [2] []) annLq34_n1_ok decq34_n1_ok nodeq34_n1_ok nodeq34_n1_nat
noncomputable def Gq34_n1 : (Ex → St → Ans) → St → Ans := (sumN decq34_n1 nodeDq34_n1 outq34_n1)
theorem Gq34_n1_ok : CSum Tryz.prog 41 Lq34_n1 Gq34_n1 := GNq34_n1_ok
noncomputable def Lq34_n0 : Code := codeAt [1,1,0,1,0,0] bq34
noncomputable def annLq34_n0 : Ann := .at 0 [0,13,14,15] (.loop (.seq .none (.seq .none (.seq (.cut 0 [0,13,14,15] Gq34_n1) .none))))
theorem annLq34_n0_ok : AnnOk Tryz.prog 41 (.loop Lq34_n0) annLq34_n0 := annOk_at ⟨(annOk_none _ _ _),⟨(annOk_none _ _ _),⟨Gq34_n1_ok,(annOk_none _ _ _)⟩⟩⟩
abbrev Iq34_n0 := (List (Int × List UInt8)) × (List (Int × List UInt8)) × (Int)
abbrev Yq34_n0 := ((Int)) ⊕ (Unit)
abbrev Vq34_n0 := (Int)
def Sq34_n0 : Iq34_n0 → Vq34_n0 → St := fun (t0,t13,t14) t15 => { env := [(0,.ro (.st (.pair (.int .i64) .str)) t0),(13,.ro (.st (.pair (.int .i64) .str)) t13),(14,.int .i64 t14),(15,.int .i64 t15)],stk := [[]],H := [],blk := 671745 }
def decPq34_n0 (s : St) : Option {x : Iq34_n0 × Vq34_n0 // s = Sq34_n0 x.1 x.2} := match s with
  | { env := [(0,.ro (.st (.pair (.int .i64) .str)) t0),(13,.ro (.st (.pair (.int .i64) .str)) t13),(14,.int .i64 t14),(15,.int .i64 t15)],stk := [[]],H := [],blk := 671745 } => some ⟨((t0,t13,t14),t15),rfl⟩
  | _ => none
def decq34_n0 (s : St) : Option (Iq34_n0 × Vq34_n0) := pk (decPq34_n0 s)
theorem decq34_n0_ok (s : St) (x : Iq34_n0 × Vq34_n0) (h : decq34_n0 s = some x) : s = Sq34_n0 x.1 x.2 := pk_ok (o := decPq34_n0 s) h
def outq34_n0 : Iq34_n0 → (Ex → St → Ans) → Yq34_n0 → Ans := fun (t0,t13,t14) K => (Sum.elim (fun t2_y => K (Ex.ret) { env := [(2,.int .i64 t2_y)],stk := [[]],H := [],blk := 671747 }) (fun _ => K (Ex.exit 1) { env := [],stk := [[]],H := [],blk := 671745 }))
def stepq34_n0 {β : Type} : Iq34_n0 → Vq34_n0 → (Vq34_n0 → Option β) → (Yq34_n0 → Option β) → Option β := fun (t0,t13,t14) t15 next exit => (bif decide (t15 < t14) then (bindO (nodeDq34_n1 (t0,t13,t14,t15)) (Sum.elim (fun t2 => (exit (Sum.inl (t2)))) (fun _ => (next (IntKind.wrap .i64 (t15 + (1 : Int))))))) else (exit (Sum.inr ())))
def stepDq34_n0 (i : Iq34_n0) (v : Vq34_n0) : Option (Vq34_n0 ⊕ Yq34_n0) := stepq34_n0 i v (fun v => some (.inl v)) (fun y => some (.inr y))
theorem stepq34_n0_nat (i : Iq34_n0) (v : Vq34_n0) (next : Vq34_n0 → Ans) (exit : Yq34_n0 → Ans) : stepq34_n0 i v next exit = bindO (stepDq34_n0 i v) (Sum.elim next exit) := by
  obtain ⟨t0,t13,t14⟩ := i
  obtain z := v
  simp only [stepDq34_n0,stepq34_n0,bindO_cond,bindO_assoc,bindO_none,bindO_pure,bindO_elim,bindO_unP,bindO_empty,Sum.elim_inl,Sum.elim_inr]
theorem stepq34_n0_ok (n : Nat) (i : Iq34_n0) (v : Vq34_n0) (K : Ex → St → Ans) : codeI Tryz.tab envq34 noHint (codeD Tryz.tab envq34 noHint 0 64) (n+1) 41 annLq34_n0 (.loop Lq34_n0) (weakP 0 (exk [] [2] [(1,[])]) K) (Sq34_n0 i v) = stepq34_n0 i v (fun v' => codeI Tryz.tab envq34 noHint (codeD Tryz.tab envq34 noHint 0 64) n 41 annLq34_n0 (.loop Lq34_n0) (weakP 0 (exk [] [2] [(1,[])]) K) (Sq34_n0 i v')) (fun y => outq34_n0 i K y) := by kernel_rfl
theorem GNq34_n0_ok : CSum Tryz.prog 41 (.loop Lq34_n0) (sumL decq34_n0 stepDq34_n0 outq34_n0) := csum_loop mixed tabOk envq34Ok 0 (exk [] [2] [(1,[])]) annLq34_n0_ok decq34_n0_ok stepq34_n0_ok stepq34_n0_nat
noncomputable def Gq34_n0 : (Ex → St → Ans) → St → Ans := (sumL decq34_n0 stepDq34_n0 outq34_n0)
theorem Gq34_n0_ok : CSum Tryz.prog 41 (.loop Lq34_n0) Gq34_n0 := GNq34_n0_ok
noncomputable def annq34 : Ann := (.seq .none (.seq .none (.seq (.seq .none (.block (.cut 0 [0,13,14,15] Gq34_n0))) .none)))
theorem annq34_ok : AnnOk Tryz.prog 41 bq34 annq34 := ⟨(annOk_none _ _ _),⟨(annOk_none _ _ _),⟨⟨(annOk_none _ _ _),Gq34_n0_ok⟩,(annOk_none _ _ _)⟩⟩⟩
abbrev Aq34 := (List (Int × List UInt8))
abbrev Yq34 := (Int)
def fnq34 {β : Type} : Aq34 → (Yq34 → Option β) → Option β := fun a0 exit => (bif (↑(List.length a0) : Int) == (0 : Int) then (exit ((8 : Int))) else (bif decide ((↑(List.length a0) : Int) > (16 : Int)) then (exit ((6 : Int))) else (bindO (loopD (stepDq34_n0 (a0,a0,(↑(List.length a0) : Int))) FUEL ((0 : Int))) (Sum.elim (fun t2 => (exit (t2))) (fun _ => (exit ((0 : Int))))))))
def fnDq34 (a : Aq34) : Option Yq34 := fnq34 a some
theorem fnq34_nat (a : Aq34) (k : Yq34 → Ans) : fnq34 a k = bindO (fnDq34 a) k := by
  obtain z := a
  simp only [fnDq34,fnq34,bindO_cond,bindO_assoc,bindO_none,bindO_pure,bindO_elim,bindO_unP,bindO_empty]
def argsq34 : Aq34 → List AV := fun a0 => [.ro (.st (.pair (.int .i64) .str)) a0]
def decPAq34 (l : List AV) : Option {a : Aq34 // l = argsq34 a} := match l with
  | [.ro (.st (.pair (.int .i64) .str)) a0] => some ⟨(a0),rfl⟩
  | _ => none
def decAq34 (l : List AV) : Option Aq34 := pk (decPAq34 l)
theorem decAq34_ok (l : List AV) (a : Aq34) (h : decAq34 l = some a) : l = argsq34 a := pk_ok (o := decPAq34 l) h
def rendq34 : Aq34 → Yq34 → AV := fun a0 => fun r_y => .int .i64 r_y
theorem rendq34_ok : ∀ (a : Aq34) (y : Yq34),(rendq34 a y).closed1 = true := by
  rintro z y <;> first | rfl | exact Empty.elim y
theorem fnq34_ok (a : Aq34) : fnE Tryz.tab envq34 noHint 0 70 164 Tryz.f164.ntmps Tryz.f164.results.toList annq34 bq34 (argsq34 a) [] (fun v _ => some (v,[])) = fnq34 a (fun y => some (rendq34 a y,[])) := by kernel_rfl
def vFq34 (a : Aq34) (K : AV → Ans) : Ans := bindO (fnDq34 a) fun y => K (rendq34 a y)
def Fq34 : List AV → (AV → Ans) → Ans := fun l K => bindO (decAq34 l) fun a => vFq34 a K
theorem Fq34_ok : PureOk Tryz.prog 164 Fq34 := pure_mkD (hint := noHint) (d := 0) (n := 70) mixed tabOk envq34Ok Tryz.func164 (bodySome (by kernel_rfl)) (by decide +kernel) annq34_ok decAq34_ok fnq34_ok fnq34_nat rendq34_ok
--@ logrec_Put
noncomputable def envq37 : Env := [(119,.func (altF decABuilder_String vFBuilder_String FBuilder_StringAgain)),(121,.pure Fq18),(122,.pure Fq52),(118,.func Fq75),(165,.pure Fq39),(164,.pure Fq34)]
theorem envq37Ok : EnvOk Tryz.prog envq37 := EnvOk.cons (func_altF FBuilder_String_ok FBuilder_StringAgain_ok) (EnvOk.cons Fq18_ok (EnvOk.cons Fq52_ok (EnvOk.cons Fq75_ok (EnvOk.cons Fq39_ok (EnvOk.cons Fq34_ok (EnvOk.nil))))))
noncomputable def bq37 : Code := Tryz.f102.body.getD .skip
noncomputable def Lq37_n1 : Code := codeAt [1,1,1,1,1,0,1,0,0] bq37
noncomputable def annLq37_n1 : Ann := .at 0 [7,8,27,28,29] (.loop .none)
theorem annLq37_n1_ok : AnnOk Tryz.prog 49 (.loop Lq37_n1) annLq37_n1 := annOk_at (annOk_none _ _ _)
abbrev Iq37_n1 := (List (Int × List UInt8)) × (Int)
abbrev Yq37_n1 := (List UInt8) × (List Int)
abbrev Vq37_n1 := (List UInt8) × (Int) × (List Int)
def Sq37_n1 : Iq37_n1 → Vq37_n1 → St := fun (t27,t28) (t7,t29,o1) => { env := [(7,.str t7),(8,.ptr 0 0),(27,.ro (.st (.pair (.int .i64) .str)) t27),(28,.int .i64 t28),(29,.int .i64 t29)],stk := [[]],H := [.bcells [.own 1],.arr (.int .u8) o1],blk := 417792 }
def decPq37_n1 (s : St) : Option {x : Iq37_n1 × Vq37_n1 // s = Sq37_n1 x.1 x.2} := match s with
  | { env := [(7,.str t7),(8,.ptr 0 0),(27,.ro (.st (.pair (.int .i64) .str)) t27),(28,.int .i64 t28),(29,.int .i64 t29)],stk := [[]],H := [.bcells [.own 1],.arr (.int .u8) o1],blk := 417792 } => some ⟨((t27,t28),(t7,t29,o1)),rfl⟩
  | _ => none
def decq37_n1 (s : St) : Option (Iq37_n1 × Vq37_n1) := pk (decPq37_n1 s)
theorem decq37_n1_ok (s : St) (x : Iq37_n1 × Vq37_n1) (h : decq37_n1 s = some x) : s = Sq37_n1 x.1 x.2 := pk_ok (o := decPq37_n1 s) h
def outq37_n1 : Iq37_n1 → (Ex → St → Ans) → Yq37_n1 → Ans := fun (t27,t28) K => unP fun t7_y o1_y => K (Ex.exit 0) { env := [(7,.str t7_y),(8,.ptr 0 0)],stk := [[]],H := [.bcells [.own 1],.arr (.int .u8) o1_y],blk := 417792 }
def stepq37_n1 {β : Type} : Iq37_n1 → Vq37_n1 → (Vq37_n1 → Option β) → (Yq37_n1 → Option β) → Option β := fun (t27,t28) (t7,t29,o1) next exit => (bif decide (t29 < t28) then (bindO (nth t27 t29) fun x => (bindO (fnDq18 (t7,x.fst,(2 : Int))) fun r => (bindO (fnDq75 (x.snd,o1)) (unP fun r_0 o1_2 => (next (r,IntKind.wrap .i64 (t29 + (1 : Int)),o1_2)))))) else (exit (t7,o1)))
def stepDq37_n1 (i : Iq37_n1) (v : Vq37_n1) : Option (Vq37_n1 ⊕ Yq37_n1) := stepq37_n1 i v (fun v => some (.inl v)) (fun y => some (.inr y))
theorem stepq37_n1_nat (i : Iq37_n1) (v : Vq37_n1) (next : Vq37_n1 → Ans) (exit : Yq37_n1 → Ans) : stepq37_n1 i v next exit = bindO (stepDq37_n1 i v) (Sum.elim next exit) := by
  obtain ⟨t27,t28⟩ := i
  obtain ⟨t7,t29,o1⟩ := v
  simp only [stepDq37_n1,stepq37_n1,bindO_cond,bindO_assoc,bindO_none,bindO_pure,bindO_elim,bindO_unP,bindO_empty,Sum.elim_inl,Sum.elim_inr]
theorem stepq37_n1_ok (n : Nat) (i : Iq37_n1) (v : Vq37_n1) (K : Ex → St → Ans) : codeI Tryz.tab envq37 noHint (codeD Tryz.tab envq37 noHint 0 64) (n+1) 49 annLq37_n1 (.loop Lq37_n1) (weakP 0 (exk [7,8] [4,5] [(0,[7,8])]) K) (Sq37_n1 i v) = stepq37_n1 i v (fun v' => codeI Tryz.tab envq37 noHint (codeD Tryz.tab envq37 noHint 0 64) n 49 annLq37_n1 (.loop Lq37_n1) (weakP 0 (exk [7,8] [4,5] [(0,[7,8])]) K) (Sq37_n1 i v')) (fun y => outq37_n1 i K y) := by kernel_rfl
theorem GNq37_n1_ok : CSum Tryz.prog 49 (.loop Lq37_n1) (sumL decq37_n1 stepDq37_n1 outq37_n1) := csum_loop mixed tabOk envq37Ok 0 (exk [7,8] [4,5] [(0,[7,8])]) annLq37_n1_ok decq37_n1_ok stepq37_n1_ok stepq37_n1_nat
noncomputable def Gq37_n1 : (Ex → St → Ans) → St → Ans := (sumL decq37_n1 stepDq37_n1 outq37_n1)
theorem Gq37_n1_ok : CSum Tryz.prog 49 (.loop Lq37_n1) Gq37_n1 := GNq37_n1_ok
noncomputable def Lq37_n0 : Code := codeAt [1,0,0] bq37
noncomputable def annLq37_n0 : Ann := .none
theorem annLq37_n0_ok : AnnOk Tryz.prog 49 Lq37_n0 annLq37_n0 := (annOk_none _ _ _)
abbrev Iq37_n0 := (Int) × (List (Int × List UInt8))
abbrev Yq37_n0 := (Bool)
def Sq37_n0 : Iq37_n0 → St := fun (t0,t1) => { env := [(0,.int .i64 t0),(1,.ro (.st (.pair (.int .i64) .str)) t1)],stk := [[]],H := [],blk := 417792 }
def decPq37_n0 (s : St) : Option {x : Iq37_n0 // s = Sq37_n0 x} := match s with
  | { env := [(0,.int .i64 t0),(1,.ro (.st (.pair (.int .i64) .str)) t1)],stk := [[]],H := [],blk := 417792 } => some ⟨(t0,t1),rfl⟩
  | _ => none
def decq37_n0 (s : St) : Option Iq37_n0 := pk (decPq37_n0 s)
theorem decq37_n0_ok (s : St) (x : Iq37_n0) (h : decq37_n0 s = some x) : s = Sq37_n0 x := pk_ok (o := decPq37_n0 s) h
def outq37_n0 : Iq37_n0 → (Ex → St → Ans) → Yq37_n0 → Ans := fun (t0,t1) K => fun t16_y => K (Ex.norm) { env := [(0,.int .i64 t0),(1,.ro (.st (.pair (.int .i64) .str)) t1),(16,.bool t16_y)],stk := [[]],H := [],blk := 417792 }
def nodeq37_n0 {β : Type} : Iq37_n0 → (Yq37_n0 → Option β) → Option β := fun (t0,t1) exit => (bif decide (t0 < (0 : Int)) then (exit (true)) else (exit (decide (t0 ≥ (281474976710656 : Int)))))
def nodeDq37_n0 (i : Iq37_n0) : Option Yq37_n0 := nodeq37_n0 i some
theorem nodeq37_n0_nat (i : Iq37_n0) (k : Yq37_n0 → Ans) : nodeq37_n0 i k = bindO (nodeDq37_n0 i) k := by
  obtain ⟨t0,t1⟩ := i
  simp only [nodeDq37_n0,nodeq37_n0,bindO_cond,bindO_assoc,bindO_none,bindO_pure,bindO_elim,bindO_unP,bindO_empty]
theorem nodeq37_n0_ok (i : Iq37_n0) (K : Ex → St → Ans) : codeI Tryz.tab envq37 noHint (codeD Tryz.tab envq37 noHint 0 64) 70 49 annLq37_n0 Lq37_n0 (weakP 0 (exk [0,1,16] [4,5] []) K) (Sq37_n0 i) = nodeq37_n0 i (outq37_n0 i K) := by kernel_rfl
theorem GNq37_n0_ok : CSum Tryz.prog 49 Lq37_n0 (sumN decq37_n0 nodeDq37_n0 outq37_n0) := csum_node mixed tabOk envq37Ok 0 (exk [0,1,16] [4,5] []) annLq37_n0_ok decq37_n0_ok nodeq37_n0_ok nodeq37_n0_nat
noncomputable def Gq37_n0 : (Ex → St → Ans) → St → Ans := (sumN decq37_n0 nodeDq37_n0 outq37_n0)
theorem Gq37_n0_ok : CSum Tryz.prog 49 Lq37_n0 Gq37_n0 := GNq37_n0_ok
noncomputable def annq37 : Ann := (.seq .none (.seq (.seq (.cut 0 [0,1] Gq37_n0) .none) (.seq .none (.seq .none (.seq .none (.seq (.seq .none (.block (.cut 0 [7,8,27,28,29] Gq37_n1))) .none))))))
theorem annq37_ok : AnnOk Tryz.prog 49 bq37 annq37 := ⟨(annOk_none _ _ _),⟨⟨Gq37_n0_ok,(annOk_none _ _ _)⟩,⟨(annOk_none _ _ _),⟨(annOk_none _ _ _),⟨(annOk_none _ _ _),⟨⟨(annOk_none _ _ _),Gq37_n1_ok⟩,(annOk_none _ _ _)⟩⟩⟩⟩⟩⟩
abbrev Aq37 := (Int) × (List (Int × List UInt8))
abbrev Yq37 := (List UInt8) × (Int)
def fnq37 {β : Type} : Aq37 → (Yq37 → Option β) → Option β := fun (a0,a1) exit => (bindO (nodeDq37_n0 (a0,a1)) fun t16 => (bif t16 then (exit ([],(3 : Int))) else (bindO (fnDq34 (a1)) fun r => (bif r != (0 : Int) then (exit ([],r)) else (bindO (fnDq18 ([(82 : UInt8)],a0,(6 : Int))) fun r_2 => (bindO (fnDq18 (r_2,(↑(List.length a1) : Int),(1 : Int))) fun r_3 => (bindO (loopD (stepDq37_n1 (a1,(↑(List.length a1) : Int))) FUEL (r_3,(0 : Int),[])) (unP fun t7 o1 => (bindO (fnDBuilder_String (o1)) (unP fun r_4 o0 => (bindO (fnDq39 (t7,r_4)) fun r_5 => (bif Nat.ble (List.length t7 + List.length r_5) (9223372036854775807 : Nat) then (bindO (fnDq52 (t7 ++ r_5)) fun r_6 => (bindO (fnDBuilder_StringAgain (o0)) (unP fun r_7 o0_2 => (bif Nat.ble (List.length r_6 + List.length r_7) (9223372036854775807 : Nat) then (exit (r_6 ++ r_7,(0 : Int))) else none)))) else none))))))))))))
def fnDq37 (a : Aq37) : Option Yq37 := fnq37 a some
theorem fnq37_nat (a : Aq37) (k : Yq37 → Ans) : fnq37 a k = bindO (fnDq37 a) k := by
  obtain ⟨a0,a1⟩ := a
  simp only [fnDq37,fnq37,bindO_cond,bindO_assoc,bindO_none,bindO_pure,bindO_elim,bindO_unP,bindO_empty]
def argsq37 : Aq37 → List AV := fun (a0,a1) => [.int .i64 a0,.ro (.st (.pair (.int .i64) .str)) a1]
def decPAq37 (l : List AV) : Option {a : Aq37 // l = argsq37 a} := match l with
  | [.int .i64 a0,.ro (.st (.pair (.int .i64) .str)) a1] => some ⟨(a0,a1),rfl⟩
  | _ => none
def decAq37 (l : List AV) : Option Aq37 := pk (decPAq37 l)
theorem decAq37_ok (l : List AV) (a : Aq37) (h : decAq37 l = some a) : l = argsq37 a := pk_ok (o := decPAq37 l) h
def rendq37 : Aq37 → Yq37 → AV := fun (a0,a1) => unP fun r_0_y r_1_y => .tup [.str r_0_y,.int .i64 r_1_y]
theorem rendq37_ok : ∀ (a : Aq37) (y : Yq37),(rendq37 a y).closed1 = true := by
  rintro ⟨a0,a1⟩ y <;> first | rfl | exact Empty.elim y
theorem fnq37_ok (a : Aq37) : fnE Tryz.tab envq37 noHint 0 70 102 Tryz.f102.ntmps Tryz.f102.results.toList annq37 bq37 (argsq37 a) [] (fun v _ => some (v,[])) = fnq37 a (fun y => some (rendq37 a y,[])) := by kernel_rfl
def vFq37 (a : Aq37) (K : AV → Ans) : Ans := bindO (fnDq37 a) fun y => K (rendq37 a y)
def Fq37 : List AV → (AV → Ans) → Ans := fun l K => bindO (decAq37 l) fun a => vFq37 a K
theorem Fq37_ok : PureOk Tryz.prog 102 Fq37 := pure_mkD (hint := noHint) (d := 0) (n := 70) mixed tabOk envq37Ok Tryz.func102 (bodySome (by kernel_rfl)) (by decide +kernel) annq37_ok decAq37_ok fnq37_ok fnq37_nat rendq37_ok
--@ logrec_Get
noncomputable def envq36 : Env := [(129,.func Fq17),(130,.func Fq19),(131,.func Fq20),(165,.pure Fq39),(102,.pure Fq37)]
theorem envq36Ok : EnvOk Tryz.prog envq36 := EnvOk.cons Fq17_ok (EnvOk.cons Fq19_ok (EnvOk.cons Fq20_ok (EnvOk.cons Fq39_ok (EnvOk.cons Fq37_ok (EnvOk.nil)))))
noncomputable def bq36 : Code := Tryz.f261.body.getD .skip
noncomputable def Lq36_n4 : Code := codeAt [1,1,1,1,1,1,1,1,1,1,1,0,1,0] bq36
noncomputable def annLq36_n4 : Ann := .none
theorem annLq36_n4_ok : AnnOk Tryz.prog 106 Lq36_n4 annLq36_n4 := (annOk_none _ _ _)
abbrev Iq36_n4 := (List UInt8) × (Int) × (List UInt8) × (Int) × (List (Int × List UInt8))
abbrev Yq36_n4 := (Bool)
def Sq36_n4 : Iq36_n4 → St := fun (t0,t8,t14,t15,o0) => { env := [(0,.str t0),(8,.int .i64 t8),(10,.own 0),(14,.str t14),(15,.int .i64 t15)],stk := [[]],H := [.arr (.st (.pair (.int .i64) .str)) o0],blk := 1069058 }
def decPq36_n4 (s : St) : Option {x : Iq36_n4 // s = Sq36_n4 x} := match s with
  | { env := [(0,.str t0),(8,.int .i64 t8),(10,.own 0),(14,.str t14),(15,.int .i64 t15)],stk := [[]],H := [.arr (.st (.pair (.int .i64) .str)) o0],blk := 1069058 } => some ⟨(t0,t8,t14,t15,o0),rfl⟩
  | _ => none
def decq36_n4 (s : St) : Option Iq36_n4 := pk (decPq36_n4 s)
theorem decq36_n4_ok (s : St) (x : Iq36_n4) (h : decq36_n4 s = some x) : s = Sq36_n4 x := pk_ok (o := decPq36_n4 s) h
def outq36_n4 : Iq36_n4 → (Ex → St → Ans) → Yq36_n4 → Ans := fun (t0,t8,t14,t15,o0) K => fun t103_y => K (Ex.norm) { env := [(8,.int .i64 t8),(10,.own 0),(103,.bool t103_y)],stk := [[]],H := [.arr (.st (.pair (.int .i64) .str)) o0],blk := 1069058 }
def nodeq36_n4 {β : Type} : Iq36_n4 → (Yq36_n4 → Option β) → Option β := fun (t0,t8,t14,t15,o0) exit => (bif t15 != (0 : Int) then (exit (true)) else (exit (!t14 == t0)))
def nodeDq36_n4 (i : Iq36_n4) : Option Yq36_n4 := nodeq36_n4 i some
theorem nodeq36_n4_nat (i : Iq36_n4) (k : Yq36_n4 → Ans) : nodeq36_n4 i k = bindO (nodeDq36_n4 i) k := by
  obtain ⟨t0,t8,t14,t15,o0⟩ := i
  simp only [nodeDq36_n4,nodeq36_n4,bindO_cond,bindO_assoc,bindO_none,bindO_pure,bindO_elim,bindO_unP,bindO_empty]
theorem nodeq36_n4_ok (i : Iq36_n4) (K : Ex → St → Ans) : codeI Tryz.tab envq36 noHint (codeD Tryz.tab envq36 noHint 0 64) 70 106 annLq36_n4 Lq36_n4 (weakP 0 (exk [8,10,103] [2,3,4] []) K) (Sq36_n4 i) = nodeq36_n4 i (outq36_n4 i K) := by kernel_rfl
theorem GNq36_n4_ok : CSum Tryz.prog 106 Lq36_n4 (sumN decq36_n4 nodeDq36_n4 outq36_n4) := csum_node mixed tabOk envq36Ok 0 (exk [8,10,103] [2,3,4] []) annLq36_n4_ok decq36_n4_ok nodeq36_n4_ok nodeq36_n4_nat
noncomputable def Gq36_n4 : (Ex → St → Ans) → St → Ans := (sumN decq36_n4 nodeDq36_n4 outq36_n4)
theorem Gq36_n4_ok : CSum Tryz.prog 106 Lq36_n4 Gq36_n4 := GNq36_n4_ok
noncomputable def Lq36_n3 : Code := codeAt [1,1,1,1,1,1,1,1,1,1,0,1,0,0] bq36
noncomputable def annLq36_n3 : Ann := .at 0 [0,8,10,11,77,78] (.loop .none)
theorem annLq36_n3_ok : AnnOk Tryz.prog 106 (.loop Lq36_n3) annLq36_n3 := annOk_at (annOk_none _ _ _)
abbrev Iq36_n3 := (List UInt8) × (Int) × (List UInt8) × (Int)
abbrev Yq36_n3 := (List (Int × List UInt8))
abbrev Vq36_n3 := (Int) × (List (Int × List UInt8))
def Sq36_n3 : Iq36_n3 → Vq36_n3 → St := fun (t0,t8,t11,t77) (t78,o0) => { env := [(0,.str t0),(8,.int .i64 t8),(10,.own 0),(11,.str t11),(77,.int .i64 t77),(78,.int .i64 t78)],stk := [[]],H := [.arr (.st (.pair (.int .i64) .str)) o0],blk := 1069058 }
def decPq36_n3 (s : St) : Option {x : Iq36_n3 × Vq36_n3 // s = Sq36_n3 x.1 x.2} := match s with
  | { env := [(0,.str t0),(8,.int .i64 t8),(10,.own 0),(11,.str t11),(77,.int .i64 t77),(78,.int .i64 t78)],stk := [[]],H := [.arr (.st (.pair (.int .i64) .str)) o0],blk := 1069058 } => some ⟨((t0,t8,t11,t77),(t78,o0)),rfl⟩
  | _ => none
def decq36_n3 (s : St) : Option (Iq36_n3 × Vq36_n3) := pk (decPq36_n3 s)
theorem decq36_n3_ok (s : St) (x : Iq36_n3 × Vq36_n3) (h : decq36_n3 s = some x) : s = Sq36_n3 x.1 x.2 := pk_ok (o := decPq36_n3 s) h
def outq36_n3 : Iq36_n3 → (Ex → St → Ans) → Yq36_n3 → Ans := fun (t0,t8,t11,t77) K => fun o0_y => K (Ex.exit 2) { env := [(0,.str t0),(8,.int .i64 t8),(10,.own 0)],stk := [[]],H := [.arr (.st (.pair (.int .i64) .str)) o0_y],blk := 1069058 }
def stepq36_n3 {β : Type} : Iq36_n3 → Vq36_n3 → (Vq36_n3 → Option β) → (Yq36_n3 → Option β) → Option β := fun (t0,t8,t11,t77) (t78,o0) next exit => (bif decide (t78 < t77) then (bif inR (IntKind.wrap .i64 (t78 * (64 : Int))) (List.length t11 + (1 : Nat)) then (bif inR (64 : Int) (List.length (List.drop (Int.toNat (IntKind.wrap .i64 (t78 * (64 : Int)))) t11) + (1 : Nat)) then (bif inR t78 (List.length o0) then (bindO (o0[Int.toNat t78]?) fun x => (next (IntKind.wrap .i64 (t78 + (1 : Int)),List.set o0 (Int.toNat t78) (x.fst,List.take (64 : Nat) (List.drop (Int.toNat (IntKind.wrap .i64 (t78 * (64 : Int)))) t11))))) else none) else none) else none) else (exit (o0)))
def stepDq36_n3 (i : Iq36_n3) (v : Vq36_n3) : Option (Vq36_n3 ⊕ Yq36_n3) := stepq36_n3 i v (fun v => some (.inl v)) (fun y => some (.inr y))
theorem stepq36_n3_nat (i : Iq36_n3) (v : Vq36_n3) (next : Vq36_n3 → Ans) (exit : Yq36_n3 → Ans) : stepq36_n3 i v next exit = bindO (stepDq36_n3 i v) (Sum.elim next exit) := by
  obtain ⟨t0,t8,t11,t77⟩ := i
  obtain ⟨t78,o0⟩ := v
  simp only [stepDq36_n3,stepq36_n3,bindO_cond,bindO_assoc,bindO_none,bindO_pure,bindO_elim,bindO_unP,bindO_empty,Sum.elim_inl,Sum.elim_inr]
theorem stepq36_n3_ok (n : Nat) (i : Iq36_n3) (v : Vq36_n3) (K : Ex → St → Ans) : codeI Tryz.tab envq36 noHint (codeD Tryz.tab envq36 noHint 0 64) (n+1) 106 annLq36_n3 (.loop Lq36_n3) (weakP 0 (exk [0,8,10] [2,3,4] [(2,[0,8,10])]) K) (Sq36_n3 i v) = stepq36_n3 i v (fun v' => codeI Tryz.tab envq36 noHint (codeD Tryz.tab envq36 noHint 0 64) n 106 annLq36_n3 (.loop Lq36_n3) (weakP 0 (exk [0,8,10] [2,3,4] [(2,[0,8,10])]) K) (Sq36_n3 i v')) (fun y => outq36_n3 i K y) := by kernel_rfl
theorem GNq36_n3_ok : CSum Tryz.prog 106 (.loop Lq36_n3) (sumL decq36_n3 stepDq36_n3 outq36_n3) := csum_loop mixed tabOk envq36Ok 0 (exk [0,8,10] [2,3,4] [(2,[0,8,10])]) annLq36_n3_ok decq36_n3_ok stepq36_n3_ok stepq36_n3_nat
noncomputable def Gq36_n3 : (Ex → St → Ans) → St → Ans := (sumL decq36_n3 stepDq36_n3 outq36_n3)
theorem Gq36_n3_ok : CSum Tryz.prog 106 (.loop Lq36_n3) Gq36_n3 := GNq36_n3_ok
noncomputable def Lq36_n2 : Code := codeAt [1,1,1,1,1,1,1,0,1,0,0] bq36
noncomputable def annLq36_n2 : Ann := .at 0 [0,5,6,8,10,51,52] (.loop .none)
theorem annLq36_n2_ok : AnnOk Tryz.prog 106 (.loop Lq36_n2) annLq36_n2 := annOk_at (annOk_none _ _ _)
abbrev Iq36_n2 := (List UInt8) × (Int) × (Int) × (Int)
abbrev Yq36_n2 := (List UInt8) × (Int) × (List (Int × List UInt8))
abbrev Vq36_n2 := (Int) × (List UInt8) × (Int) × (List (Int × List UInt8))
def Sq36_n2 : Iq36_n2 → Vq36_n2 → St := fun (t0,t5,t8,t51) (t52,o0_0,o0_1,o1) => { env := [(0,.str t0),(5,.int .i64 t5),(6,.ptr 0 0),(8,.int .i64 t8),(10,.own 1),(51,.int .i64 t51),(52,.int .i64 t52)],stk := [[]],H := [.cells [.str o0_0,.int .i64 o0_1],.arr (.st (.pair (.int .i64) .str)) o1],blk := 1069056 }
def decPq36_n2 (s : St) : Option {x : Iq36_n2 × Vq36_n2 // s = Sq36_n2 x.1 x.2} := match s with
  | { env := [(0,.str t0),(5,.int .i64 t5),(6,.ptr 0 0),(8,.int .i64 t8),(10,.own 1),(51,.int .i64 t51),(52,.int .i64 t52)],stk := [[]],H := [.cells [.str o0_0,.int .i64 o0_1],.arr (.st (.pair (.int .i64) .str)) o1],blk := 1069056 } => some ⟨((t0,t5,t8,t51),(t52,o0_0,o0_1,o1)),rfl⟩
  | _ => none
def decq36_n2 (s : St) : Option (Iq36_n2 × Vq36_n2) := pk (decPq36_n2 s)
theorem decq36_n2_ok (s : St) (x : Iq36_n2 × Vq36_n2) (h : decq36_n2 s = some x) : s = Sq36_n2 x.1 x.2 := pk_ok (o := decPq36_n2 s) h
def outq36_n2 : Iq36_n2 → (Ex → St → Ans) → Yq36_n2 → Ans := fun (t0,t5,t8,t51) K => unP fun o0_0_y => unP fun o0_1_y o1_y => K (Ex.exit 0) { env := [(0,.str t0),(5,.int .i64 t5),(6,.ptr 0 0),(8,.int .i64 t8),(10,.own 1)],stk := [[]],H := [.cells [.str o0_0_y,.int .i64 o0_1_y],.arr (.st (.pair (.int .i64) .str)) o1_y],blk := 1069056 }
def stepq36_n2 {β : Type} : Iq36_n2 → Vq36_n2 → (Vq36_n2 → Option β) → (Yq36_n2 → Option β) → Option β := fun (t0,t5,t8,t51) (t52,o0_0,o0_1,o1) next exit => (bif decide (t52 < t51) then (bindO (fnDq20 ((2 : Int),o0_0,o0_1)) (unP fun r => unP fun o0_0_2 o0_1_2 => (bif Nat.ble ((List.length o1 + List.length [(r,nilL UInt8)]) * (24 : Nat)) (140737488355328 : Nat) then (next (IntKind.wrap .i64 (t52 + (1 : Int)),o0_0_2,o0_1_2,o1 ++ [(r,[])])) else none))) else (exit (o0_0,o0_1,o1)))
def stepDq36_n2 (i : Iq36_n2) (v : Vq36_n2) : Option (Vq36_n2 ⊕ Yq36_n2) := stepq36_n2 i v (fun v => some (.inl v)) (fun y => some (.inr y))
theorem stepq36_n2_nat (i : Iq36_n2) (v : Vq36_n2) (next : Vq36_n2 → Ans) (exit : Yq36_n2 → Ans) : stepq36_n2 i v next exit = bindO (stepDq36_n2 i v) (Sum.elim next exit) := by
  obtain ⟨t0,t5,t8,t51⟩ := i
  obtain ⟨t52,o0_0,o0_1,o1⟩ := v
  simp only [stepDq36_n2,stepq36_n2,bindO_cond,bindO_assoc,bindO_none,bindO_pure,bindO_elim,bindO_unP,bindO_empty,Sum.elim_inl,Sum.elim_inr]
theorem stepq36_n2_ok (n : Nat) (i : Iq36_n2) (v : Vq36_n2) (K : Ex → St → Ans) : codeI Tryz.tab envq36 noHint (codeD Tryz.tab envq36 noHint 0 64) (n+1) 106 annLq36_n2 (.loop Lq36_n2) (weakP 0 (exk [0,5,6,8,10] [2,3,4] [(0,[0,5,6,8,10])]) K) (Sq36_n2 i v) = stepq36_n2 i v (fun v' => codeI Tryz.tab envq36 noHint (codeD Tryz.tab envq36 noHint 0 64) n 106 annLq36_n2 (.loop Lq36_n2) (weakP 0 (exk [0,5,6,8,10] [2,3,4] [(0,[0,5,6,8,10])]) K) (Sq36_n2 i v')) (fun y => outq36_n2 i K y) := by kernel_rfl
theorem GNq36_n2_ok : CSum Tryz.prog 106 (.loop Lq36_n2) (sumL decq36_n2 stepDq36_n2 outq36_n2) := csum_loop mixed tabOk envq36Ok 0 (exk [0,5,6,8,10] [2,3,4] [(0,[0,5,6,8,10])]) annLq36_n2_ok decq36_n2_ok stepq36_n2_ok stepq36_n2_nat
noncomputable def Gq36_n2 : (Ex → St → Ans) → St → Ans := (sumL decq36_n2 stepDq36_n2 outq36_n2)
theorem Gq36_n2_ok : CSum Tryz.prog 106 (.loop Lq36_n2) Gq36_n2 := GNq36_n2_ok
noncomputable def Lq36_n1 : Code := codeAt [1,1,1,1,1,0,0] bq36
noncomputable def annLq36_n1 : Ann := .none
theorem annLq36_n1_ok : AnnOk Tryz.prog 106 Lq36_n1 annLq36_n1 := (annOk_none _ _ _)
abbrev Iq36_n1 := (List UInt8) × (Int) × (List UInt8) × (Int) × (Int) × (List UInt8) × (Int)
abbrev Yq36_n1 := (Bool)
def Sq36_n1 : Iq36_n1 → St := fun (t0,t5,t7,t8,t9,o0_0,o0_1) => { env := [(0,.str t0),(5,.int .i64 t5),(6,.ptr 0 0),(7,.str t7),(8,.int .i64 t8),(9,.int .i64 t9)],stk := [[]],H := [.cells [.str o0_0,.int .i64 o0_1]],blk := 1069056 }
def decPq36_n1 (s : St) : Option {x : Iq36_n1 // s = Sq36_n1 x} := match s with
  | { env := [(0,.str t0),(5,.int .i64 t5),(6,.ptr 0 0),(7,.str t7),(8,.int .i64 t8),(9,.int .i64 t9)],stk := [[]],H := [.cells [.str o0_0,.int .i64 o0_1]],blk := 1069056 } => some ⟨(t0,t5,t7,t8,t9,o0_0,o0_1),rfl⟩
  | _ => none
def decq36_n1 (s : St) : Option Iq36_n1 := pk (decPq36_n1 s)
theorem decq36_n1_ok (s : St) (x : Iq36_n1) (h : decq36_n1 s = some x) : s = Sq36_n1 x := pk_ok (o := decPq36_n1 s) h
def outq36_n1 : Iq36_n1 → (Ex → St → Ans) → Yq36_n1 → Ans := fun (t0,t5,t7,t8,t9,o0_0,o0_1) K => fun t50_y => K (Ex.norm) { env := [(0,.str t0),(5,.int .i64 t5),(6,.ptr 0 0),(8,.int .i64 t8),(50,.bool t50_y)],stk := [[]],H := [.cells [.str o0_0,.int .i64 o0_1]],blk := 1069056 }
def nodeq36_n1 {β : Type} : Iq36_n1 → (Yq36_n1 → Option β) → Option β := fun (t0,t5,t7,t8,t9,o0_0,o0_1) exit => (bif !t7 == [(82 : UInt8)] then (exit (true)) else (bif t9 != t5 then (exit (true)) else (bif decide (t5 < (1 : Int)) then (exit (true)) else (exit (decide (t5 > (16 : Int)))))))
def nodeDq36_n1 (i : Iq36_n1) : Option Yq36_n1 := nodeq36_n1 i some
theorem nodeq36_n1_nat (i : Iq36_n1) (k : Yq36_n1 → Ans) : nodeq36_n1 i k = bindO (nodeDq36_n1 i) k := by
  obtain ⟨t0,t5,t7,t8,t9,o0_0,o0_1⟩ := i
  simp only [nodeDq36_n1,nodeq36_n1,bindO_cond,bindO_assoc,bindO_none,bindO_pure,bindO_elim,bindO_unP,bindO_empty]
theorem nodeq36_n1_ok (i : Iq36_n1) (K : Ex → St → Ans) : codeI Tryz.tab envq36 noHint (codeD Tryz.tab envq36 noHint 0 64) 70 106 annLq36_n1 Lq36_n1 (weakP 0 (exk [0,5,6,8,50] [2,3,4] []) K) (Sq36_n1 i) = nodeq36_n1 i (outq36_n1 i K) := by kernel_rfl
theorem GNq36_n1_ok : CSum Tryz.prog 106 Lq36_n1 (sumN decq36_n1 nodeDq36_n1 outq36_n1) := csum_node mixed tabOk envq36Ok 0 (exk [0,5,6,8,50] [2,3,4] []) annLq36_n1_ok decq36_n1_ok nodeq36_n1_ok nodeq36_n1_nat
noncomputable def Gq36_n1 : (Ex → St → Ans) → St → Ans := (sumN decq36_n1 nodeDq36_n1 outq36_n1)
theorem Gq36_n1_ok : CSum Tryz.prog 106 Lq36_n1 Gq36_n1 := GNq36_n1_ok
noncomputable def Lq36_n0 : Code := codeAt [1,1,0,0] bq36
noncomputable def annLq36_n0 : Ann := .none
theorem annLq36_n0_ok : AnnOk Tryz.prog 106 Lq36_n0 annLq36_n0 := (annOk_none _ _ _)
abbrev Iq36_n0 := (List UInt8) × (Int)
abbrev Yq36_n0 := (Bool)
def Sq36_n0 : Iq36_n0 → St := fun (t0,t5) => { env := [(0,.str t0),(5,.int .i64 t5)],stk := [[]],H := [],blk := 1069056 }
def decPq36_n0 (s : St) : Option {x : Iq36_n0 // s = Sq36_n0 x} := match s with
  | { env := [(0,.str t0),(5,.int .i64 t5)],stk := [[]],H := [],blk := 1069056 } => some ⟨(t0,t5),rfl⟩
  | _ => none
def decq36_n0 (s : St) : Option Iq36_n0 := pk (decPq36_n0 s)
theorem decq36_n0_ok (s : St) (x : Iq36_n0) (h : decq36_n0 s = some x) : s = Sq36_n0 x := pk_ok (o := decPq36_n0 s) h
def outq36_n0 : Iq36_n0 → (Ex → St → Ans) → Yq36_n0 → Ans := fun (t0,t5) K => fun t27_y => K (Ex.norm) { env := [(0,.str t0),(5,.int .i64 t5),(27,.bool t27_y)],stk := [[]],H := [],blk := 1069056 }
def nodeq36_n0 {β : Type} : Iq36_n0 → (Yq36_n0 → Option β) → Option β := fun (t0,t5) exit => (bif decide (t5 < (0 : Int)) then (exit (true)) else (exit (Int.tmod (↑(List.length t0) : Int) (64 : Int) != (0 : Int))))
def nodeDq36_n0 (i : Iq36_n0) : Option Yq36_n0 := nodeq36_n0 i some
theorem nodeq36_n0_nat (i : Iq36_n0) (k : Yq36_n0 → Ans) : nodeq36_n0 i k = bindO (nodeDq36_n0 i) k := by
  obtain ⟨t0,t5⟩ := i
  simp only [nodeDq36_n0,nodeq36_n0,bindO_cond,bindO_assoc,bindO_none,bindO_pure,bindO_elim,bindO_unP,bindO_empty]
theorem nodeq36_n0_ok (i : Iq36_n0) (K : Ex → St → Ans) : codeI Tryz.tab envq36 noHint (codeD Tryz.tab envq36 noHint 0 64) 70 106 annLq36_n0 Lq36_n0 (weakP 0 (exk [0,5,27] [2,3,4] []) K) (Sq36_n0 i) = nodeq36_n0 i (outq36_n0 i K) := by kernel_rfl
theorem GNq36_n0_ok : CSum Tryz.prog 106 Lq36_n0 (sumN decq36_n0 nodeDq36_n0 outq36_n0) := csum_node mixed tabOk envq36Ok 0 (exk [0,5,27] [2,3,4] []) annLq36_n0_ok decq36_n0_ok nodeq36_n0_ok nodeq36_n0_nat
noncomputable def Gq36_n0 : (Ex → St → Ans) → St → Ans := (sumN decq36_n0 nodeDq36_n0 outq36_n0)
theorem Gq36_n0_ok : CSum Tryz.prog 106 Lq36_n0 Gq36_n0 := GNq36_n0_ok
noncomputable def annq36 : Ann := (.seq .none (.seq .none (.seq (.seq (.cut 0 [0,5] Gq36_n0) .none) (.seq .none (.seq .none (.seq (.seq (.cut 0 [0,5,6,7,8,9] Gq36_n1) .none) (.seq .none (.seq (.seq .none (.block (.cut 0 [0,5,6,8,10,51,52] Gq36_n2))) (.seq .none (.seq .none (.seq (.seq .none (.block (.cut 0 [0,8,10,11,77,78] Gq36_n3))) (.seq (.seq .none (.seq (.cut 0 [0,8,10,14,15] Gq36_n4) .none)) .none))))))))))))
theorem annq36_ok : AnnOk Tryz.prog 106 bq36 annq36 := ⟨(annOk_none _ _ _),⟨(annOk_none _ _ _),⟨⟨Gq36_n0_ok,(annOk_none _ _ _)⟩,⟨(annOk_none _ _ _),⟨(annOk_none _ _ _),⟨⟨Gq36_n1_ok,(annOk_none _ _ _)⟩,⟨(annOk_none _ _ _),⟨⟨(annOk_none _ _ _),Gq36_n2_ok⟩,⟨(annOk_none _ _ _),⟨(annOk_none _ _ _),⟨⟨(annOk_none _ _ _),Gq36_n3_ok⟩,⟨⟨(annOk_none _ _ _),⟨Gq36_n4_ok,(annOk_none _ _ _)⟩⟩,(annOk_none _ _ _)⟩⟩⟩⟩⟩⟩⟩⟩⟩⟩⟩⟩
abbrev Aq36 := (List UInt8)
abbrev Yq36 := (Int) × (Int) × (List (Int × List UInt8))
def fnq36 {β : Type} : Aq36 → (Yq36 → Option β) → Option β := fun a0 exit => (bindO (nodeDq36_n0 (a0,IntKind.wrap .i64 (IntKind.wrap .i64 (Int.tdiv (↑(List.length a0) : Int) (64 : Int)) - (1 : Int)))) fun t27 => (bif t27 then (exit ((0 : Int),(12 : Int),[])) else (bindO (fnDq17 (a0)) fun _ => (bindO (fnDq19 ((1 : Int),a0,(0 : Int))) (unP fun r => unP fun o0_0 o0_1 => (bindO (fnDq20 ((6 : Int),o0_0,o0_1)) (unP fun r_2 => unP fun o0_0_2 o0_1_2 => (bindO (fnDq20 ((1 : Int),o0_0_2,o0_1_2)) (unP fun r_3 => unP fun o0_0_3 o0_1_3 => (bindO (nodeDq36_n1 (a0,IntKind.wrap .i64 (IntKind.wrap .i64 (Int.tdiv (↑(List.length a0) : Int) (64 : Int)) - (1 : Int)),r,r_2,r_3,o0_0_3,o0_1_3)) fun t50 => (bif t50 then (exit ((0 : Int),(4 : Int),[])) else (bindO (loopD (stepDq36_n2 (a0,IntKind.wrap .i64 (IntKind.wrap .i64 (Int.tdiv (↑(List.length a0) : Int) (64 : Int)) - (1 : Int)),r_2,IntKind.wrap .i64 (IntKind.wrap .i64 (Int.tdiv (↑(List.length a0) : Int) (64 : Int)) - (1 : Int)))) FUEL ((0 : Int),o0_0_3,o0_1_3,[])) (unP fun o0_0_4 => unP fun o0_1_4 o1 => (bif inR (64 : Int) (List.length a0 + (1 : Nat)) then (bif inR (IntKind.wrap .i64 ((8 : Int) + IntKind.wrap .i64 ((2 : Int) * IntKind.wrap .i64 (IntKind.wrap .i64 (Int.tdiv (↑(List.length a0) : Int) (64 : Int)) - (1 : Int))))) (List.length a0 + (1 : Nat)) then (bindO (fnDq39 (List.take (Int.toNat (IntKind.wrap .i64 ((8 : Int) + IntKind.wrap .i64 ((2 : Int) * IntKind.wrap .i64 (IntKind.wrap .i64 (Int.tdiv (↑(List.length a0) : Int) (64 : Int)) - (1 : Int)))))) a0,List.drop (64 : Nat) a0)) fun r_4 => (bindO (fnDq19 ((↑(List.length r_4) : Int),o0_0_4,o0_1_4)) (unP fun r_5 => unP fun o0_0_5 o0_1_5 => (bif !r_5 == r_4 then (exit ((0 : Int),(5 : Int),[])) else (bindO (loopD (stepDq36_n3 (a0,r_2,List.drop (64 : Nat) a0,(↑(List.length o1) : Int))) FUEL ((0 : Int),o1)) fun o0 => (bindO (fnDq37 (r_2,o0)) (unP fun r_0 r_1 => (bindO (nodeDq36_n4 (a0,r_2,r_0,r_1,o0)) fun t103 => (bif t103 then (exit ((0 : Int),(4 : Int),[])) else (exit (r_2,(0 : Int),o0))))))))))) else none) else none))))))))))))))
def fnDq36 (a : Aq36) : Option Yq36 := fnq36 a some
theorem fnq36_nat (a : Aq36) (k : Yq36 → Ans) : fnq36 a k = bindO (fnDq36 a) k := by
  obtain z := a
  simp only [fnDq36,fnq36,bindO_cond,bindO_assoc,bindO_none,bindO_pure,bindO_elim,bindO_unP,bindO_empty]
def argsq36 : Aq36 → List AV × List AE.Obj := fun a0 => ([.str a0],[])
def decPAq36 (l : List AV) (H : List AE.Obj) : Option {a : Aq36 // (l,H) = argsq36 a} := match l,H with
  | [.str a0],[] => some ⟨(a0),rfl⟩
  | _,_ => none
def decAq36 (l : List AV) (H : List AE.Obj) : Option Aq36 := pk (decPAq36 l H)
theorem decAq36_ok (l : List AV) (H : List AE.Obj) (a : Aq36) (h : decAq36 l H = some a) : (l,H) = argsq36 a := pk_ok (o := decPAq36 l H) h
def outq36 : Aq36 → (AV → List AE.Obj → Ans) → Yq36 → Ans := fun a0 K => unP fun r_0_y => unP fun r_2_y o0_y => K (.tup [.int .i64 r_0_y,.own 0,.int .i64 r_2_y]) [.arr (.st (.pair (.int .i64) .str)) o0_y]
theorem fnq36_ok (a : Aq36) (K : AV → List AE.Obj → Ans) : fnE Tryz.tab envq36 noHint 0 70 261 Tryz.f261.ntmps Tryz.f261.results.toList annq36 bq36 (argsq36 a).1 (argsq36 a).2 K = fnq36 a (outq36 a K) := by kernel_rfl
def vFq36 (a : Aq36) (K : AV → List AE.Obj → Ans) : Ans := bindO (fnDq36 a) fun y => outq36 a K y
def Fq36 : List AV → List AE.Obj → (AV → List AE.Obj → Ans) → Ans := fun l H K => bindO (decAq36 l H) fun a => vFq36 a K
theorem Fq36_ok : FuncOk Tryz.prog 261 Fq36 := func_mkD (hint := noHint) (d := 0) (n := 70) mixed tabOk envq36Ok Tryz.func261 (bodySome (by kernel_rfl)) (by decide +kernel) annq36_ok decAq36_ok fnq36_ok fnq36_nat
--@ shadow_Shadow_string_made
noncomputable def envq68 : Env := []
theorem envq68Ok : EnvOk Tryz.prog envq68 := EnvOk.nil
noncomputable def bq68 : Code := Tryz.f162.body.getD .skip
noncomputable def Lq68_n0 : Code := codeAt [0,1] bq68
noncomputable def annLq68_n0 : Ann := .none
theorem annLq68_n0_ok : AnnOk Tryz.prog 20 Lq68_n0 annLq68_n0 := (annOk_none _ _ _)
abbrev Iq68_n0 := (List (Int × List UInt8)) × (List (Int × List UInt8))
abbrev Yq68_n0 := Unit
def Sq68_n0 : Iq68_n0 → St := fun (o1,o2) => { env := [(0,.ptr 0 0),(6,.bool (false))],stk := [[(0,.ptr 0 0),(1,.map 1),(2,.map 2)]],H := [.cells [.map 1,.map 2],.mp .i64 .str o1,.mp .i64 .str o2],blk := 663552 }
def decPq68_n0 (s : St) : Option {x : Iq68_n0 // s = Sq68_n0 x} := match s with
  | { env := [(0,.ptr 0 0),(6,.bool r0)],stk := [[(0,.ptr 0 0),(1,.map 1),(2,.map 2)]],H := [.cells [.map 1,.map 2],.mp .i64 .str o1,.mp .i64 .str o2],blk := 663552 } => if h0 : r0 = false then some ⟨(o1,o2),by subst h0; rfl⟩ else none
  | _ => none
def decq68_n0 (s : St) : Option Iq68_n0 := pk (decPq68_n0 s)
theorem decq68_n0_ok (s : St) (x : Iq68_n0) (h : decq68_n0 s = some x) : s = Sq68_n0 x := pk_ok (o := decPq68_n0 s) h
def outq68_n0 : Iq68_n0 → (Ex → St → Ans) → Yq68_n0 → Ans := fun (o1,o2) K => fun _ => K (Ex.norm) { env := [(0,.ptr 0 0)],stk := [[(0,.ptr 0 0),(1,.map 1),(2,.map 2)]],H := [.cells [.map 1,.map 2],.mp .i64 .str o1,.mp .i64 .str o2],blk := 663552 }
def nodeq68_n0 {β : Type} : Iq68_n0 → (Yq68_n0 → Option β) → Option β := fun (o1,o2) exit => (exit ())
def nodeDq68_n0 (i : Iq68_n0) : Option Yq68_n0 := nodeq68_n0 i some
theorem nodeq68_n0_nat (i : Iq68_n0) (k : Yq68_n0 → Ans) : nodeq68_n0 i k = bindO (nodeDq68_n0 i) k := by
  obtain ⟨o1,o2⟩ := i
  simp only [nodeDq68_n0,nodeq68_n0,bindO_cond,bindO_assoc,bindO_none,bindO_pure,bindO_elim,bindO_unP,bindO_empty]
theorem nodeq68_n0_ok (i : Iq68_n0) (K : Ex → St → Ans) : codeI Tryz.tab envq68 noHint (codeD Tryz.tab envq68 noHint 0 64) 70 20 annLq68_n0 Lq68_n0 (weakP 3 (exk [0] [] []) K) (Sq68_n0 i) = nodeq68_n0 i (outq68_n0 i K) := by kernel_rfl
theorem GNq68_n0_ok : CSum Tryz.prog 20 Lq68_n0 (sumN decq68_n0 nodeDq68_n0 outq68_n0) := csum_node mixed tabOk envq68Ok 3 (exk [0] [] []) annLq68_n0_ok decq68_n0_ok nodeq68_n0_ok nodeq68_n0_nat
noncomputable def Gq68_n0 : (Ex → St → Ans) → St → Ans := (sumN decq68_n0 nodeDq68_n0 outq68_n0)
theorem Gq68_n0_ok : CSum Tryz.prog 20 Lq68_n0 Gq68_n0 := GNq68_n0_ok
noncomputable def annq68 : Ann := (.seq (.seq .none (.cut 3 [0,6] Gq68_n0)) .none)
theorem annq68_ok : AnnOk Tryz.prog 20 bq68 annq68 := ⟨⟨(annOk_none _ _ _),Gq68_n0_ok⟩,(annOk_none _ _ _)⟩
abbrev Aq68 := (List (Int × List UInt8)) × (List (Int × List UInt8))
abbrev Yq68 := Unit
def fnq68 {β : Type} : Aq68 → (Yq68 → Option β) → Option β := fun (o1,o2) exit => (bindO (nodeDq68_n0 (o1,o2)) fun _ => (exit ()))
def fnDq68 (a : Aq68) : Option Yq68 := fnq68 a some
theorem fnq68_nat (a : Aq68) (k : Yq68 → Ans) : fnq68 a k = bindO (fnDq68 a) k := by
  obtain ⟨o1,o2⟩ := a
  simp only [fnDq68,fnq68,bindO_cond,bindO_assoc,bindO_none,bindO_pure,bindO_elim,bindO_unP,bindO_empty]
def argsq68 : Aq68 → List AV × List AE.Obj := fun (o1,o2) => ([.ptr 0 0],[.cells [.map 1,.map 2],.mp .i64 .str o1,.mp .i64 .str o2])
def decPAq68 (l : List AV) (H : List AE.Obj) : Option {a : Aq68 // (l,H) = argsq68 a} := match l,H with
  | [.ptr 0 0],[.cells [.map 1,.map 2],.mp .i64 .str o1,.mp .i64 .str o2] => some ⟨(o1,o2),rfl⟩
  | _,_ => none
def decAq68 (l : List AV) (H : List AE.Obj) : Option Aq68 := pk (decPAq68 l H)
theorem decAq68_ok (l : List AV) (H : List AE.Obj) (a : Aq68) (h : decAq68 l H = some a) : (l,H) = argsq68 a := pk_ok (o := decPAq68 l H) h
def outq68 : Aq68 → (AV → List AE.Obj → Ans) → Yq68 → Ans := fun (o1,o2) K => fun _ => K (.tup []) [.cells [.map 1,.map 2],.mp .i64 .str o1,.mp .i64 .str o2]
theorem fnq68_ok (a : Aq68) (K : AV → List AE.Obj → Ans) : fnE Tryz.tab envq68 noHint 0 70 162 Tryz.f162.ntmps Tryz.f162.results.toList annq68 bq68 (argsq68 a).1 (argsq68 a).2 K = fnq68 a (outq68 a K) := by kernel_rfl
def vFq68 (a : Aq68) (K : AV → List AE.Obj → Ans) : Ans := bindO (fnDq68 a) fun y => outq68 a K y
def Fq68 : List AV → List AE.Obj → (AV → List AE.Obj → Ans) → Ans := fun l H K => bindO (decAq68 l H) fun a => vFq68 a K
theorem Fq68_ok : FuncOk Tryz.prog 162 Fq68 := func_mkD (hint := noHint) (d := 0) (n := 70) mixed tabOk envq68Ok Tryz.func162 (bodySome (by kernel_rfl)) (by decide +kernel) annq68_ok decAq68_ok fnq68_ok fnq68_nat
--@ shadow_Shadow_string_Put
noncomputable def envq67 : Env := [(162,.func Fq68)]
theorem envq67Ok : EnvOk Tryz.prog envq67 := EnvOk.cons Fq68_ok (EnvOk.nil)
noncomputable def bq67 : Code := Tryz.f100.body.getD .skip
noncomputable def annq67 : Ann := .none
theorem annq67_ok : AnnOk Tryz.prog 16 bq67 annq67 := (annOk_none _ _ _)
abbrev Aq67 := (Int) × (List UInt8) × (List (Int × List UInt8)) × (List (Int × List UInt8))
abbrev Yq67 := (List (Int × List UInt8))
def fnq67 {β : Type} : Aq67 → (Yq67 → Option β) → Option β := fun (a1,a2,o1,o2) exit => (bindO (fnDq68 (o1,o2)) fun _ => (exit (mput a1 a2 o2)))
def fnDq67 (a : Aq67) : Option Yq67 := fnq67 a some
theorem fnq67_nat (a : Aq67) (k : Yq67 → Ans) : fnq67 a k = bindO (fnDq67 a) k := by
  obtain ⟨a1,a2,o1,o2⟩ := a
  simp only [fnDq67,fnq67,bindO_cond,bindO_assoc,bindO_none,bindO_pure,bindO_elim,bindO_unP,bindO_empty]
def argsq67 : Aq67 → List AV × List AE.Obj := fun (a1,a2,o1,o2) => ([.ptr 0 0,.int .i64 a1,.str a2],[.cells [.map 1,.map 2],.mp .i64 .str o1,.mp .i64 .str o2])
def decPAq67 (l : List AV) (H : List AE.Obj) : Option {a : Aq67 // (l,H) = argsq67 a} := match l,H with
  | [.ptr 0 0,.int .i64 a1,.str a2],[.cells [.map 1,.map 2],.mp .i64 .str o1,.mp .i64 .str o2] => some ⟨(a1,a2,o1,o2),rfl⟩
  | _,_ => none
def decAq67 (l : List AV) (H : List AE.Obj) : Option Aq67 := pk (decPAq67 l H)
theorem decAq67_ok (l : List AV) (H : List AE.Obj) (a : Aq67) (h : decAq67 l H = some a) : (l,H) = argsq67 a := pk_ok (o := decPAq67 l H) h
def outq67 : Aq67 → (AV → List AE.Obj → Ans) → Yq67 → Ans := fun (a1,a2,o1,o2) K => fun o2_y => K (.tup []) [.cells [.map 1,.map 2],.mp .i64 .str o1,.mp .i64 .str o2_y]
theorem fnq67_ok (a : Aq67) (K : AV → List AE.Obj → Ans) : fnE Tryz.tab envq67 noHint 0 70 100 Tryz.f100.ntmps Tryz.f100.results.toList annq67 bq67 (argsq67 a).1 (argsq67 a).2 K = fnq67 a (outq67 a K) := by kernel_rfl
def vFq67 (a : Aq67) (K : AV → List AE.Obj → Ans) : Ans := bindO (fnDq67 a) fun y => outq67 a K y
def Fq67 : List AV → List AE.Obj → (AV → List AE.Obj → Ans) → Ans := fun l H K => bindO (decAq67 l H) fun a => vFq67 a K
theorem Fq67_ok : FuncOk Tryz.prog 100 Fq67 := func_mkD (hint := noHint) (d := 0) (n := 70) mixed tabOk envq67Ok Tryz.func100 (bodySome (by kernel_rfl)) (by decide +kernel) annq67_ok decAq67_ok fnq67_ok fnq67_nat
--@ shadow_layer_string_each
noncomputable def envq69 : Env := []
theorem envq69Ok : EnvOk Tryz.prog envq69 := EnvOk.nil
noncomputable def bq69 : Code := Tryz.f163.body.getD .skip
noncomputable def annq69 : Ann := .none
theorem annq69_ok : AnnOk Tryz.prog 4 bq69 annq69 := (annOk_none _ _ _)
abbrev Aq69 := (List (Int × List UInt8))
abbrev Yq69 := Unit
def fnq69 {β : Type} : Aq69 → (Yq69 → Option β) → Option β := fun o0 exit => (exit ())
def fnDq69 (a : Aq69) : Option Yq69 := fnq69 a some
theorem fnq69_nat (a : Aq69) (k : Yq69 → Ans) : fnq69 a k = bindO (fnDq69 a) k := by
  obtain z := a
  simp only [fnDq69,fnq69,bindO_cond,bindO_assoc,bindO_none,bindO_pure,bindO_elim,bindO_unP,bindO_empty]
def argsq69 : Aq69 → List AV × List AE.Obj := fun o0 => ([.map 0],[.mp .i64 .str o0])
def decPAq69 (l : List AV) (H : List AE.Obj) : Option {a : Aq69 // (l,H) = argsq69 a} := match l,H with
  | [.map 0],[.mp .i64 .str o0] => some ⟨(o0),rfl⟩
  | _,_ => none
def decAq69 (l : List AV) (H : List AE.Obj) : Option Aq69 := pk (decPAq69 l H)
theorem decAq69_ok (l : List AV) (H : List AE.Obj) (a : Aq69) (h : decAq69 l H = some a) : (l,H) = argsq69 a := pk_ok (o := decPAq69 l H) h
def outq69 : Aq69 → (AV → List AE.Obj → Ans) → Yq69 → Ans := fun o0 K => fun _ => K (.fn (Fn.func 205) [] [.ptr 1 0]) [.mp .i64 .str o0,.cells [.map 0]]
theorem fnq69_ok (a : Aq69) (K : AV → List AE.Obj → Ans) : fnE Tryz.tab envq69 noHint 0 70 163 Tryz.f163.ntmps Tryz.f163.results.toList annq69 bq69 (argsq69 a).1 (argsq69 a).2 K = fnq69 a (outq69 a K) := by kernel_rfl
def vFq69 (a : Aq69) (K : AV → List AE.Obj → Ans) : Ans := bindO (fnDq69 a) fun y => outq69 a K y
def Fq69 : List AV → List AE.Obj → (AV → List AE.Obj → Ans) → Ans := fun l H K => bindO (decAq69 l H) fun a => vFq69 a K
theorem Fq69_ok : FuncOk Tryz.prog 163 Fq69 := func_mkD (hint := noHint) (d := 0) (n := 70) mixed tabOk envq69Ok Tryz.func163 (bodySome (by kernel_rfl)) (by decide +kernel) annq69_ok decAq69_ok fnq69_ok fnq69_nat
end Go.Proofs.R7
namespace Go.Proofs.R7
open Go Go.AE
set_option maxRecDepth 100000
--@ shadow_Shadow_string_Loose
noncomputable def envq66 : Env := []
theorem envq66Ok : EnvOk Tryz.prog envq66 := EnvOk.nil
noncomputable def bq66 : Code := Tryz.f98.body.getD .skip
noncomputable def annq66 : Ann := .none
theorem annq66_ok : AnnOk Tryz.prog 10 bq66 annq66 := (annOk_none _ _ _)
abbrev Aq66 := (List (Int × List UInt8)) × (List (Int × List UInt8))
abbrev Yq66 := (Int)
def fnq66 {β : Type} : Aq66 → (Yq66 → Option β) → Option β := fun (o1,o2) exit => (exit ((↑(List.length o2) : Int)))
def fnDq66 (a : Aq66) : Option Yq66 := fnq66 a some
theorem fnq66_nat (a : Aq66) (k : Yq66 → Ans) : fnq66 a k = bindO (fnDq66 a) k := by
  obtain ⟨o1,o2⟩ := a
  simp only [fnDq66,fnq66,bindO_cond,bindO_assoc,bindO_none,bindO_pure,bindO_elim,bindO_unP,bindO_empty]
def argsq66 : Aq66 → List AV × List AE.Obj := fun (o1,o2) => ([.ptr 0 0],[.cells [.map 1,.map 2],.mp .i64 .str o1,.mp .i64 .str o2])
def decPAq66 (l : List AV) (H : List AE.Obj) : Option {a : Aq66 // (l,H) = argsq66 a} := match l,H with
  | [.ptr 0 0],[.cells [.map 1,.map 2],.mp .i64 .str o1,.mp .i64 .str o2] => some ⟨(o1,o2),rfl⟩
  | _,_ => none
def decAq66 (l : List AV) (H : List AE.Obj) : Option Aq66 := pk (decPAq66 l H)
theorem decAq66_ok (l : List AV) (H : List AE.Obj) (a : Aq66) (h : decAq66 l H = some a) : (l,H) = argsq66 a := pk_ok (o := decPAq66 l H) h
def outq66 : Aq66 → (AV → List AE.Obj → Ans) → Yq66 → Ans := fun (o1,o2) K => fun r_y => K (.int .i64 r_y) [.cells [.map 1,.map 2],.mp .i64 .str o1,.mp .i64 .str o2]
theorem fnq66_ok (a : Aq66) (K : AV → List AE.Obj → Ans) : fnE Tryz.tab envq66 noHint 0 70 98 Tryz.f98.ntmps Tryz.f98.results.toList annq66 bq66 (argsq66 a).1 (argsq66 a).2 K = fnq66 a (outq66 a K) := by kernel_rfl
def vFq66 (a : Aq66) (K : AV → List AE.Obj → Ans) : Ans := bindO (fnDq66 a) fun y => outq66 a K y
def Fq66 : List AV → List AE.Obj → (AV → List AE.Obj → Ans) → Ans := fun l H K => bindO (decAq66 l H) fun a => vFq66 a K
theorem Fq66_ok : FuncOk Tryz.prog 98 Fq66 := func_mkD (hint := noHint) (d := 0) (n := 70) mixed tabOk envq66Ok Tryz.func98 (bodySome (by kernel_rfl)) (by decide +kernel) annq66_ok decAq66_ok fnq66_ok fnq66_nat
--@ shadow_Shadow_string_Fresh
noncomputable def envq62 : Env := [(163,.func Fq69)]
theorem envq62Ok : EnvOk Tryz.prog envq62 := EnvOk.cons Fq69_ok (EnvOk.nil)
noncomputable def bq62 : Code := Tryz.f101.body.getD .skip
noncomputable def annq62 : Ann := .none
theorem annq62_ok : AnnOk Tryz.prog 11 bq62 annq62 := (annOk_none _ _ _)
abbrev Aq62 := (List (Int × List UInt8)) × (List (Int × List UInt8))
abbrev Yq62 := Unit
def fnq62 {β : Type} : Aq62 → (Yq62 → Option β) → Option β := fun (o1,o2) exit => (bindO (fnDq69 (o2)) fun _ => (exit ()))
def fnDq62 (a : Aq62) : Option Yq62 := fnq62 a some
theorem fnq62_nat (a : Aq62) (k : Yq62 → Ans) : fnq62 a k = bindO (fnDq62 a) k := by
  obtain ⟨o1,o2⟩ := a
  simp only [fnDq62,fnq62,bindO_cond,bindO_assoc,bindO_none,bindO_pure,bindO_elim,bindO_unP,bindO_empty]
def argsq62 : Aq62 → List AV × List AE.Obj := fun (o1,o2) => ([.ptr 0 0],[.cells [.map 1,.map 2],.mp .i64 .str o1,.mp .i64 .str o2])
def decPAq62 (l : List AV) (H : List AE.Obj) : Option {a : Aq62 // (l,H) = argsq62 a} := match l,H with
  | [.ptr 0 0],[.cells [.map 1,.map 2],.mp .i64 .str o1,.mp .i64 .str o2] => some ⟨(o1,o2),rfl⟩
  | _,_ => none
def decAq62 (l : List AV) (H : List AE.Obj) : Option Aq62 := pk (decPAq62 l H)
theorem decAq62_ok (l : List AV) (H : List AE.Obj) (a : Aq62) (h : decAq62 l H = some a) : (l,H) = argsq62 a := pk_ok (o := decPAq62 l H) h
def outq62 : Aq62 → (AV → List AE.Obj → Ans) → Yq62 → Ans := fun (o1,o2) K => fun _ => K (.fn (Fn.func 205) [] [.ptr 3 0]) [.cells [.map 1,.map 2],.mp .i64 .str o1,.mp .i64 .str o2,.cells [.map 2]]
theorem fnq62_ok (a : Aq62) (K : AV → List AE.Obj → Ans) : fnE Tryz.tab envq62 noHint 0 70 101 Tryz.f101.ntmps Tryz.f101.results.toList annq62 bq62 (argsq62 a).1 (argsq62 a).2 K = fnq62 a (outq62 a K) := by kernel_rfl
def vFq62 (a : Aq62) (K : AV → List AE.Obj → Ans) : Ans := bindO (fnDq62 a) fun y => outq62 a K y
def Fq62 : List AV → List AE.Obj → (AV → List AE.Obj → Ans) → Ans := fun l H K => bindO (decAq62 l H) fun a => vFq62 a K
theorem Fq62_ok : FuncOk Tryz.prog 101 Fq62 := func_mkD (hint := noHint) (d := 0) (n := 70) mixed tabOk envq62Ok Tryz.func101 (bodySome (by kernel_rfl)) (by decide +kernel) annq62_ok decAq62_ok fnq62_ok fnq62_nat
--@ shadow_Shadow_string_Get
noncomputable def envq63 : Env := []
theorem envq63Ok : EnvOk Tryz.prog envq63 := EnvOk.nil
noncomputable def bq63 : Code := Tryz.f113.body.getD .skip
noncomputable def annq63 : Ann := .none
theorem annq63_ok : AnnOk Tryz.prog 36 bq63 annq63 := (annOk_none _ _ _)
abbrev Aq63 := (Int) × (List (Int × List UInt8)) × (List (Int × List UInt8))
abbrev Yq63 := (List UInt8) × (Bool)
def fnq63 {β : Type} : Aq63 → (Yq63 → Option β) → Option β := fun (a1,o1,o2) exit => (bif mhas a1 o2 then (exit (mget a1 [] o2,true)) else (exit (mget a1 [] o1,mhas a1 o1)))
def fnDq63 (a : Aq63) : Option Yq63 := fnq63 a some
theorem fnq63_nat (a : Aq63) (k : Yq63 → Ans) : fnq63 a k = bindO (fnDq63 a) k := by
  obtain ⟨a1,o1,o2⟩ := a
  simp only [fnDq63,fnq63,bindO_cond,bindO_assoc,bindO_none,bindO_pure,bindO_elim,bindO_unP,bindO_empty]
def argsq63 : Aq63 → List AV × List AE.Obj := fun (a1,o1,o2) => ([.ptr 0 0,.int .i64 a1],[.cells [.map 1,.map 2],.mp .i64 .str o1,.mp .i64 .str o2])
def decPAq63 (l : List AV) (H : List AE.Obj) : Option {a : Aq63 // (l,H) = argsq63 a} := match l,H with
  | [.ptr 0 0,.int .i64 a1],[.cells [.map 1,.map 2],.mp .i64 .str o1,.mp .i64 .str o2] => some ⟨(a1,o1,o2),rfl⟩
  | _,_ => none
def decAq63 (l : List AV) (H : List AE.Obj) : Option Aq63 := pk (decPAq63 l H)
theorem decAq63_ok (l : List AV) (H : List AE.Obj) (a : Aq63) (h : decAq63 l H = some a) : (l,H) = argsq63 a := pk_ok (o := decPAq63 l H) h
def outq63 : Aq63 → (AV → List AE.Obj → Ans) → Yq63 → Ans := fun (a1,o1,o2) K => unP fun r_0_y r_1_y => K (.tup [.str r_0_y,.bool r_1_y]) [.cells [.map 1,.map 2],.mp .i64 .str o1,.mp .i64 .str o2]
theorem fnq63_ok (a : Aq63) (K : AV → List AE.Obj → Ans) : fnE Tryz.tab envq63 noHint 0 70 113 Tryz.f113.ntmps Tryz.f113.results.toList annq63 bq63 (argsq63 a).1 (argsq63 a).2 K = fnq63 a (outq63 a K) := by kernel_rfl
def vFq63 (a : Aq63) (K : AV → List AE.Obj → Ans) : Ans := bindO (fnDq63 a) fun y => outq63 a K y
def Fq63 : List AV → List AE.Obj → (AV → List AE.Obj → Ans) → Ans := fun l H K => bindO (decAq63 l H) fun a => vFq63 a K
theorem Fq63_ok : FuncOk Tryz.prog 113 Fq63 := func_mkD (hint := noHint) (d := 0) (n := 70) mixed tabOk envq63Ok Tryz.func113 (bodySome (by kernel_rfl)) (by decide +kernel) annq63_ok decAq63_ok fnq63_ok fnq63_nat
end Go.Proofs.R7
namespace Go.Proofs.R7
open Go Go.AE
noncomputable def base7x : Env := [(140, .pure Fq28), (68, .pure Fq24), (117, .pure Fq27), (116, .pure Fq26), (108, .func Fq74), (28, .func Fq13), (37, .pure Fq25), (161, .func Fq8), (210, .pure Fq58), (169, .func Fq51), (171, .func Fq56), (241, .pure Fq73), (218, .pure Fq71), (181, .func Fq10), (182, .func Fq12), (159, .func Fq9), (106, .func Fq57), (96, .func Fq53), (238, .pure Fq33), (211, .pure Fq30), (189, .pure Fq22), (184, .pure Fq16), (121, .pure Fq18), (220, .func Fq0), (242, .pure Fq5), (221, .func Fq2), (222, .func Fq3), (185, .pure Fq1), (123, .pure Fq4), (122, .pure Fq52), (172, .pure Fq32), (141, .func Fq11), (115, .func Fq6), (114, .func Fq7), (118, .func Fq75), (177, .func Fq55), (129, .func Fq17), (188, .func Fq21), (130, .func Fq19), (131, .func Fq20), (216, .pure Fq29), (178, .pure Fq31), (209, .func Fq54), (260, .pure Fq38), (165, .pure Fq39), (208, .func Fq35), (237, .func Fq72), (207, .func Fq70), (164, .pure Fq34), (102, .pure Fq37), (261, .func Fq36), (109, .pure Fstrings_Repeat), (119, .func FBuilder_String), (183, .func FBuilder_copyCheck), (100205, .iter (eachBeginC .str) (eachNext .str))]
theorem base7x_ok : EnvOk Tryz.prog base7x := EnvOk.cons Fq28_ok (EnvOk.cons Fq24_ok (EnvOk.cons Fq27_ok (EnvOk.cons Fq26_ok (EnvOk.cons Fq74_ok (EnvOk.cons Fq13_ok (EnvOk.cons Fq25_ok (EnvOk.cons Fq8_ok (EnvOk.cons Fq58_ok (EnvOk.cons Fq51_ok (EnvOk.cons Fq56_ok (EnvOk.cons Fq73_ok (EnvOk.cons Fq71_ok (EnvOk.cons Fq10_ok (EnvOk.cons Fq12_ok (EnvOk.cons Fq9_ok (EnvOk.cons Fq57_ok (EnvOk.cons Fq53_ok (EnvOk.cons Fq33_ok (EnvOk.cons Fq30_ok (EnvOk.cons Fq22_ok (EnvOk.cons Fq16_ok (EnvOk.cons Fq18_ok (EnvOk.cons Fq0_ok (EnvOk.cons Fq5_ok (EnvOk.cons Fq2_ok (EnvOk.cons Fq3_ok (EnvOk.cons Fq1_ok (EnvOk.cons Fq4_ok (EnvOk.cons Fq52_ok (EnvOk.cons Fq32_ok (EnvOk.cons Fq11_ok (EnvOk.cons Fq6_ok (EnvOk.cons Fq7_ok (EnvOk.cons Fq75_ok (EnvOk.cons Fq55_ok (EnvOk.cons Fq17_ok (EnvOk.cons Fq21_ok (EnvOk.cons Fq19_ok (EnvOk.cons Fq20_ok (EnvOk.cons Fq29_ok (EnvOk.cons Fq31_ok (EnvOk.cons Fq54_ok (EnvOk.cons Fq38_ok (EnvOk.cons Fq39_ok (EnvOk.cons Fq35_ok (EnvOk.cons Fq72_ok (EnvOk.cons Fq70_ok (EnvOk.cons Fq34_ok (EnvOk.cons Fq37_ok (EnvOk.cons Fq36_ok (EnvOk.cons Fstrings_Repeat_ok (EnvOk.cons FBuilder_String_ok (EnvOk.cons FBuilder_copyCheck_ok (EnvOk.cons (eachBeginC_eq ▸ iter205_spec) (EnvOk.nil)))))))))))))))))))))))))))))))))))))))))))))))))))))))
def runs7x : List RunI := [
  ⟨21, false, []⟩,
  ⟨22, false, []⟩,
  ⟨23, false, []⟩,
  ⟨24, false, []⟩,
  ⟨26, false, [(0, [0, 2, 3, 17, 104])]⟩,
  ⟨27, false, [(0, [7, 9, 26]), (2, [7, 9, 44, 45])]⟩,
  ⟨29, false, [(0, [8, 28, 29, 30])]⟩,
  ⟨30, false, []⟩,
  ⟨33, false, []⟩,
  ⟨35, false, []⟩,
  ⟨43, true, [(0, [1, 5, 31, 32, 33])]⟩,
  ⟨45, true, []⟩,
  ⟨47, true, []⟩,
  ⟨69, false, []⟩,
  ⟨70, false, []⟩,
  ⟨71, false, []⟩,
  ⟨93, false, []⟩,
  ⟨94, false, []⟩,
  ⟨95, false, [(0, [2, 3, 4, 24, 79])]⟩,
  ⟨97, false, []⟩,
  ⟨98, false, []⟩,
  ⟨99, false, [(0, [3, 4, 10, 16])]⟩,
  ⟨100, false, []⟩,
  ⟨101, false, []⟩,
  ⟨103, false, [(1, [7, 9, 10])]⟩,
  ⟨104, false, [(0, [1, 12, 23])]⟩,
  ⟨105, false, []⟩,
  ⟨107, false, []⟩,
  ⟨110, false, []⟩,
  ⟨111, false, [(0, [0, 27, 28, 29]), (2, [0, 6, 27, 28, 29, 34, 35, 36])]⟩,
  ⟨112, false, []⟩,
  ⟨113, false, []⟩,
  ⟨127, true, []⟩,
  ⟨157, false, []⟩,
  ⟨158, false, []⟩,
  ⟨160, false, []⟩,
  ⟨162, false, []⟩,
  ⟨163, false, []⟩,
  ⟨166, false, []⟩,
  ⟨167, false, []⟩,
  ⟨168, false, []⟩,
  ⟨170, false, []⟩,
  ⟨173, true, []⟩,
  ⟨179, false, []⟩,
  ⟨180, false, []⟩,
  ⟨212, true, []⟩,
  ⟨213, true, []⟩,
  ⟨217, false, [(0, [0])]⟩,
  ⟨240, false, []⟩,
  ⟨259, false, [(0, [0, 1, 8, 12, 13])]⟩]
theorem runs7x_ok : runs7x.all (RunI.ok Tryz.prog) = true := by kernel_rfl
noncomputable def lo7x : Lo := loQ Tryz.prog Tryz.tab base7x runs7x 40
theorem lo7x_ok : LoOk Tryz.prog lo7x := loQ_ok mixed tabOk base7x_ok runs7x_ok 40
end Go.Proofs.R7
namespace Go.Proofs.R7
open Go Go.AE
set_option maxRecDepth 100000
def begunH : List AE.Obj :=
  [.cells [(.own 2), (.map 3), (.own 4), (.int .i64 33), (.own 5), (.int .i64 0), (.bool false)],
  .cells [(.ptr 0 0), (.ptr 6 0), (.ptr 7 0), (.int .i64 15), (.int .i64 24), (.int .i64 2), (.int .i64 0), (.int .i64 25), (.int .i64 0), (.bool true), (.bool false), (.ptr 8 0)],
  .arr .str (List.replicate 15 (List.replicate 64 0) ++ [([76, 0, 0, 0, 0, 0, 2, 0, 0, 0, 0, 0, 25, 0, 0, 7, 97, 220, 101] ++ List.replicate 45 0), ([76, 0, 0, 0, 0, 0, 1, 0, 0, 0, 0, 0, 1, 0, 0, 10, 175, 100, 78] ++ List.replicate 45 0)] ++ List.replicate 22 (List.replicate 64 0)),
  .mp .i64 .str [],
  .arr (.st (.pair (.int .i64) .str)) [],
  .arr (.int .i64) [],
  .cells [(.ptr 0 0), (.int .i64 15), (.int .i64 2)],
  .cells [(.ptr 0 0), (.int .i64 17), (.int .i64 22)],
  .cells [(.map 9), (.map 10)],
  .mp .i64 .str [],
  .mp .i64 .str []]
def begunV : AV := (.tup [(.ptr 0 0), (.ptr 1 0)])
theorem runBegun (K : AV → List AE.Obj → Ans) : runQ Tryz.tab lo7x ⟨35, false, []⟩ Tryz.f35 [.agg [.int .i64 3, .int .i64 1, .int .i64 24]] [] K = K begunV begunH := by kernel_rfl
noncomputable def FBegun : List AV → List AE.Obj → (AV → List AE.Obj → Ans) → Ans := fun l H K => match l, H with
  | [.agg [.int .i64 a, .int .i64 b, .int .i64 c]], [] => cond (eqB a 3 && eqB b 1 && eqB c 24) (K begunV begunH) none
  | _, _ => none
theorem FBegun_ok : FuncOk Tryz.prog 35 FBegun :=
  konstHQ (i := ⟨35, false, []⟩) mixed tabOk lo7x_ok Tryz.func35 (by kernel_rfl) (by decide +kernel) (fun l H K res h => by
    unfold FBegun at h
    split at h
    · replace h := cond_none h
      simp only [Bool.and_eq_true, eqB_eq, beq_iff_eq] at h
      obtain ⟨⟨⟨rfl, rfl⟩, rfl⟩, h⟩ := h
      exact ⟨rfl, rfl, h⟩
    · cases h) runBegun
end Go.Proofs.R7
namespace Go.Proofs.R7
open Go Go.AE
noncomputable def base20 : Env := [(140, .pure Fq28), (68, .pure Fq24), (117, .pure Fq27), (116, .pure Fq26), (108, .func Fq74), (28, .func Fq13), (37, .pure Fq25), (161, .func Fq8), (210, .pure Fq58), (169, .func Fq51), (171, .func Fq56), (241, .pure Fq73), (218, .pure Fq71), (181, .func Fq10), (182, .func Fq12), (159, .func Fq9), (106, .func Fq57), (96, .func Fq53), (238, .pure Fq33), (211, .pure Fq30), (189, .pure Fq22), (184, .pure Fq16), (121, .pure Fq18), (220, .func Fq0), (242, .pure Fq5), (221, .func Fq2), (222, .func Fq3), (185, .pure Fq1), (123, .pure Fq4), (122, .pure Fq52), (172, .pure Fq32), (141, .func Fq11), (115, .func Fq6), (114, .func Fq7), (118, .func Fq75), (177, .func Fq55), (129, .func Fq17), (188, .func Fq21), (130, .func Fq19), (131, .func Fq20), (216, .pure Fq29), (178, .pure Fq31), (209, .func Fq54), (260, .pure Fq38), (165, .pure Fq39), (208, .func Fq35), (237, .func Fq72), (207, .func Fq70), (164, .pure Fq34), (102, .pure Fq37), (261, .func Fq36), (109, .pure Fstrings_Repeat), (119, .func FBuilder_String), (183, .func FBuilder_copyCheck), (100205, .iter (eachBeginC .str) (eachNext .str)), (35, .func FBegun)]
theorem base20_ok : EnvOk Tryz.prog base20 := EnvOk.cons Fq28_ok (EnvOk.cons Fq24_ok (EnvOk.cons Fq27_ok (EnvOk.cons Fq26_ok (EnvOk.cons Fq74_ok (EnvOk.cons Fq13_ok (EnvOk.cons Fq25_ok (EnvOk.cons Fq8_ok (EnvOk.cons Fq58_ok (EnvOk.cons Fq51_ok (EnvOk.cons Fq56_ok (EnvOk.cons Fq73_ok (EnvOk.cons Fq71_ok (EnvOk.cons Fq10_ok (EnvOk.cons Fq12_ok (EnvOk.cons Fq9_ok (EnvOk.cons Fq57_ok (EnvOk.cons Fq53_ok (EnvOk.cons Fq33_ok (EnvOk.cons Fq30_ok (EnvOk.cons Fq22_ok (EnvOk.cons Fq16_ok (EnvOk.cons Fq18_ok (EnvOk.cons Fq0_ok (EnvOk.cons Fq5_ok (EnvOk.cons Fq2_ok (EnvOk.cons Fq3_ok (EnvOk.cons Fq1_ok (EnvOk.cons Fq4_ok (EnvOk.cons Fq52_ok (EnvOk.cons Fq32_ok (EnvOk.cons Fq11_ok (EnvOk.cons Fq6_ok (EnvOk.cons Fq7_ok (EnvOk.cons Fq75_ok (EnvOk.cons Fq55_ok (EnvOk.cons Fq17_ok (EnvOk.cons Fq21_ok (EnvOk.cons Fq19_ok (EnvOk.cons Fq20_ok (EnvOk.cons Fq29_ok (EnvOk.cons Fq31_ok (EnvOk.cons Fq54_ok (EnvOk.cons Fq38_ok (EnvOk.cons Fq39_ok (EnvOk.cons Fq35_ok (EnvOk.cons Fq72_ok (EnvOk.cons Fq70_ok (EnvOk.cons Fq34_ok (EnvOk.cons Fq37_ok (EnvOk.cons Fq36_ok (EnvOk.cons Fstrings_Repeat_ok (EnvOk.cons FBuilder_String_ok (EnvOk.cons FBuilder_copyCheck_ok (EnvOk.cons (eachBeginC_eq ▸ iter205_spec) (EnvOk.cons FBegun_ok (EnvOk.nil))))))))))))))))))))))))))))))))))))))))))))))))))))))))
def runs20 : List RunI := [
  ⟨21, false, []⟩,
  ⟨22, false, []⟩,
  ⟨23, false, []⟩,
  ⟨24, false, []⟩,
  ⟨26, false, [(0, [0, 2, 3, 17, 104])]⟩,
  ⟨27, false, [(0, [7, 9, 26]), (2, [7, 9, 44, 45])]⟩,
  ⟨29, false, [(0, [8, 28, 29, 30])]⟩,
  ⟨30, false, []⟩,
  ⟨33, false, []⟩,
  ⟨36, false, [(0, [0, 1, 2, 26, 27])]⟩,
  ⟨38, false, [(0, [0, 1, 8, 18, 19])]⟩,
  ⟨39, false, []⟩,
  ⟨40, true, []⟩,
  ⟨41, false, []⟩,
  ⟨71, false, []⟩,
  ⟨93, false, []⟩,
  ⟨94, false, []⟩,
  ⟨95, false, [(0, [2, 3, 4, 24, 79])]⟩,
  ⟨97, false, []⟩,
  ⟨98, false, []⟩,
  ⟨99, false, [(0, [3, 4, 10, 16])]⟩,
  ⟨100, false, []⟩,
  ⟨101, false, []⟩,
  ⟨103, false, [(1, [7, 9, 10])]⟩,
  ⟨104, false, [(0, [1, 12, 23])]⟩,
  ⟨105, false, []⟩,
  ⟨107, false, []⟩,
  ⟨110, false, []⟩,
  ⟨111, false, [(0, [0, 27, 28, 29]), (2, [0, 6, 27, 28, 29, 34, 35, 36])]⟩,
  ⟨112, false, []⟩,
  ⟨113, false, []⟩,
  ⟨120, true, []⟩,
  ⟨157, false, []⟩,
  ⟨158, false, []⟩,
  ⟨160, false, []⟩,
  ⟨162, false, []⟩,
  ⟨163, false, []⟩,
  ⟨166, false, []⟩,
  ⟨167, false, []⟩,
  ⟨168, false, []⟩,
  ⟨170, false, []⟩,
  ⟨173, true, []⟩,
  ⟨179, false, []⟩,
  ⟨180, false, []⟩,
  ⟨212, true, []⟩,
  ⟨213, true, []⟩,
  ⟨217, false, [(0, [0])]⟩,
  ⟨240, false, []⟩,
  ⟨259, false, [(0, [0, 1, 8, 12, 13])]⟩]
theorem runs20_ok : runs20.all (RunI.ok Tryz.prog) = true := by kernel_rfl
noncomputable def lo20 : Lo := loQ Tryz.prog Tryz.tab base20 runs20 40
theorem lo20_ok : LoOk Tryz.prog lo20 := loQ_ok mixed tabOk base20_ok runs20_ok 40
end Go.Proofs.R7

/- What the functions that SideNoneCardSaid reaches compute: part 3. -/
import Derived.Test.YtjgghofdajambaaGreatDoorOwnSideNoneCardSaid2
set_option linter.unusedVariables false
set_option linter.unusedSimpArgs false
namespace Go.Proofs.R7
open Go Go.AE
set_option maxRecDepth 100000
--@ loghead_Newer
noncomputable def envq29 : Env := [(216,.pure Fq27)]
theorem envq29Ok : EnvOk Tryz.prog envq29 := EnvOk.cons Fq27_ok (EnvOk.nil)
noncomputable def bq29 : Code := Tryz.f178.body.getD .skip
noncomputable def Lq29_n2 : Code := codeAt [1,1,1,0,1,0,0,1,1,0,0,1,1,0] bq29
noncomputable def annLq29_n2 : Ann := .none
theorem annLq29_n2_ok : AnnOk Tryz.prog 49 Lq29_n2 annLq29_n2 := (annOk_none _ _ _)
abbrev Iq29_n2 := (Bool) × (Int) × (Int) × (Int) × (Int) × (Int) × (Int) × (Int) × (Int) × (Int) × (List (List UInt8))
abbrev Yq29_n2 := (Bool)
def Sq29_n2 : Iq29_n2 → St := fun (t7,t11,t15,t16,o1_0,o1_1,o1_2,o2_0,o2_1,o2_2,o3) => { env := [(4,.ptr 0 0),(6,.ptr 1 0),(7,.bool t7),(10,.ptr 2 0),(11,.int .i64 t11),(14,.own 3),(15,.int .i64 t15),(16,.int .i64 t16)],stk := [[]],H := [.cells [.int .i64 (0),.int .i64 (0),.int .i64 (0)],.cells [.int .i64 o1_0,.int .i64 o1_1,.int .i64 o1_2],.cells [.int .i64 o2_0,.int .i64 o2_1,.int .i64 o2_2],.arr .str o3],blk := 729089 }
def decPq29_n2 (s : St) : Option {x : Iq29_n2 // s = Sq29_n2 x} := match s with
  | { env := [(4,.ptr 0 0),(6,.ptr 1 0),(7,.bool t7),(10,.ptr 2 0),(11,.int .i64 t11),(14,.own 3),(15,.int .i64 t15),(16,.int .i64 t16)],stk := [[]],H := [.cells [.int .i64 r4,.int .i64 r5,.int .i64 r6],.cells [.int .i64 o1_0,.int .i64 o1_1,.int .i64 o1_2],.cells [.int .i64 o2_0,.int .i64 o2_1,.int .i64 o2_2],.arr .str o3],blk := 729089 } => if h4 : r4 = 0 then if h5 : r5 = 0 then if h6 : r6 = 0 then some ⟨(t7,t11,t15,t16,o1_0,o1_1,o1_2,o2_0,o2_1,o2_2,o3),by subst h4 h5 h6; rfl⟩ else none else none else none
  | _ => none
def decq29_n2 (s : St) : Option Iq29_n2 := pk (decPq29_n2 s)
theorem decq29_n2_ok (s : St) (x : Iq29_n2) (h : decq29_n2 s = some x) : s = Sq29_n2 x := pk_ok (o := decPq29_n2 s) h
def outq29_n2 : Iq29_n2 → (Ex → St → Ans) → Yq29_n2 → Ans := fun (t7,t11,t15,t16,o1_0,o1_1,o1_2,o2_0,o2_1,o2_2,o3) K => fun t42_y => K (Ex.norm) { env := [(4,.ptr 0 0),(6,.ptr 1 0),(7,.bool t7),(10,.ptr 2 0),(14,.own 3),(15,.int .i64 t15),(16,.int .i64 t16),(42,.bool t42_y)],stk := [[]],H := [.cells [.int .i64 (0),.int .i64 (0),.int .i64 (0)],.cells [.int .i64 o1_0,.int .i64 o1_1,.int .i64 o1_2],.cells [.int .i64 o2_0,.int .i64 o2_1,.int .i64 o2_2],.arr .str o3],blk := 729089 }
def nodeq29_n2 {β : Type} : Iq29_n2 → (Yq29_n2 → Option β) → Option β := fun (t7,t11,t15,t16,o1_0,o1_1,o1_2,o2_0,o2_1,o2_2,o3) exit => (bif t11 == (0 : Int) then (bif !t7 then (exit (true)) else (bif !(o2_0 == o1_0 && (o2_1 == o1_1 && (o2_2 == o1_2 && true))) then (exit (decide (o2_0 > o1_0))) else (exit (false)))) else (exit (false)))
def nodeDq29_n2 (i : Iq29_n2) : Option Yq29_n2 := nodeq29_n2 i some
theorem nodeq29_n2_nat (i : Iq29_n2) (k : Yq29_n2 → Ans) : nodeq29_n2 i k = bindO (nodeDq29_n2 i) k := by
  obtain ⟨t7,t11,t15,t16,o1_0,o1_1,o1_2,o2_0,o2_1,o2_2,o3⟩ := i
  simp only [nodeDq29_n2,nodeq29_n2,bindO_cond,bindO_assoc,bindO_none,bindO_pure,bindO_elim,bindO_unP,bindO_empty]
theorem nodeq29_n2_ok (i : Iq29_n2) (K : Ex → St → Ans) : codeI Tryz.tab envq29 noHint (codeD Tryz.tab envq29 noHint 0 64) 70 49 annLq29_n2 Lq29_n2 (weakP 0 (exk [4,6,7,10,14,15,16,42] [4,5] []) K) (Sq29_n2 i) = nodeq29_n2 i (outq29_n2 i K) := by kernel_rfl
theorem GNq29_n2_ok : CSum Tryz.prog 49 Lq29_n2 (sumN decq29_n2 nodeDq29_n2 outq29_n2) := csum_node mixed tabOk envq29Ok 0 (exk [4,6,7,10,14,15,16,42] [4,5] []) annLq29_n2_ok decq29_n2_ok nodeq29_n2_ok nodeq29_n2_nat
noncomputable def Gq29_n2 : (Ex → St → Ans) → St → Ans := (sumN decq29_n2 nodeDq29_n2 outq29_n2)
theorem Gq29_n2_ok : CSum Tryz.prog 49 Lq29_n2 Gq29_n2 := GNq29_n2_ok
noncomputable def Lq29_n1 : Code := codeAt [1,1,1,0,1,0,0,1,1,0] bq29
noncomputable def annLq29_n1 : Ann := (.block (.seq .none (.seq .none (.seq (.cut 0 [4,6,7,10,11,14,15,16] Gq29_n2) .none))))
theorem annLq29_n1_ok : AnnOk Tryz.prog 49 Lq29_n1 annLq29_n1 := ⟨(annOk_none _ _ _),⟨(annOk_none _ _ _),⟨Gq29_n2_ok,(annOk_none _ _ _)⟩⟩⟩
abbrev Iq29_n1 := (Bool) × (Int) × (Int) × (Int) × (Int) × (Int) × (List (List UInt8))
abbrev Yq29_n1 := (Bool) × (Int) × (Int) × (Int)
def Sq29_n1 : Iq29_n1 → St := fun (t7,t15,t16,o1_0,o1_1,o1_2,o2) => { env := [(4,.ptr 0 0),(6,.ptr 1 0),(7,.bool t7),(14,.own 2),(15,.int .i64 t15),(16,.int .i64 t16)],stk := [[]],H := [.cells [.int .i64 (0),.int .i64 (0),.int .i64 (0)],.cells [.int .i64 o1_0,.int .i64 o1_1,.int .i64 o1_2],.arr .str o2],blk := 729088 }
def decPq29_n1 (s : St) : Option {x : Iq29_n1 // s = Sq29_n1 x} := match s with
  | { env := [(4,.ptr 0 0),(6,.ptr 1 0),(7,.bool t7),(14,.own 2),(15,.int .i64 t15),(16,.int .i64 t16)],stk := [[]],H := [.cells [.int .i64 r3,.int .i64 r4,.int .i64 r5],.cells [.int .i64 o1_0,.int .i64 o1_1,.int .i64 o1_2],.arr .str o2],blk := 729088 } => if h3 : r3 = 0 then if h4 : r4 = 0 then if h5 : r5 = 0 then some ⟨(t7,t15,t16,o1_0,o1_1,o1_2,o2),by subst h3 h4 h5; rfl⟩ else none else none else none
  | _ => none
def decq29_n1 (s : St) : Option Iq29_n1 := pk (decPq29_n1 s)
theorem decq29_n1_ok (s : St) (x : Iq29_n1) (h : decq29_n1 s = some x) : s = Sq29_n1 x := pk_ok (o := decPq29_n1 s) h
def outq29_n1 : Iq29_n1 → (Ex → St → Ans) → Yq29_n1 → Ans := fun (t7,t15,t16,o1_0,o1_1,o1_2,o2) K => unP fun t7_y => unP fun o1_0_y => unP fun o1_1_y o1_2_y => K (Ex.norm) { env := [(4,.ptr 0 0),(6,.ptr 1 0),(7,.bool t7_y),(14,.own 2),(15,.int .i64 t15),(16,.int .i64 t16)],stk := [[]],H := [.cells [.int .i64 (0),.int .i64 (0),.int .i64 (0)],.cells [.int .i64 o1_0_y,.int .i64 o1_1_y,.int .i64 o1_2_y],.arr .str o2],blk := 729089 }
def nodeq29_n1 {β : Type} : Iq29_n1 → (Yq29_n1 → Option β) → Option β := fun (t7,t15,t16,o1_0,o1_1,o1_2,o2) exit => (bif inR t16 (List.length o2) then (bindO (o2[Int.toNat t16]?) fun x => (bindO (fnDq27 (x)) (unP fun r_0_0 => unP fun r_0_1 => unP fun r_0_2 r_1 => (bindO (nodeDq29_n2 (t7,r_1,t15,t16,o1_0,o1_1,o1_2,r_0_0,r_0_1,r_0_2,o2)) fun t42 => (bif t42 then (exit (true,r_0_0,r_0_1,r_0_2)) else (exit (t7,o1_0,o1_1,o1_2))))))) else none)
def nodeDq29_n1 (i : Iq29_n1) : Option Yq29_n1 := nodeq29_n1 i some
theorem nodeq29_n1_nat (i : Iq29_n1) (k : Yq29_n1 → Ans) : nodeq29_n1 i k = bindO (nodeDq29_n1 i) k := by
  obtain ⟨t7,t15,t16,o1_0,o1_1,o1_2,o2⟩ := i
  simp only [nodeDq29_n1,nodeq29_n1,bindO_cond,bindO_assoc,bindO_none,bindO_pure,bindO_elim,bindO_unP,bindO_empty]
theorem nodeq29_n1_ok (i : Iq29_n1) (K : Ex → St → Ans) : codeI Tryz.tab envq29 noHint (codeD Tryz.tab envq29 noHint 0 64) 70 49 annLq29_n1 Lq29_n1 (weakP 0 (exk [4,6,7,14,15,16] [4,5] []) K) (Sq29_n1 i) = nodeq29_n1 i (outq29_n1 i K) := by kernel_rfl
theorem GNq29_n1_ok : CSum Tryz.prog 49 Lq29_n1 (sumN decq29_n1 nodeDq29_n1 outq29_n1) := csum_node mixed tabOk envq29Ok 0 (exk [4,6,7,14,15,16] [4,5] []) annLq29_n1_ok decq29_n1_ok nodeq29_n1_ok nodeq29_n1_nat
noncomputable def Gq29_n1 : (Ex → St → Ans) → St → Ans := (sumN decq29_n1 nodeDq29_n1 outq29_n1)
theorem Gq29_n1_ok : CSum Tryz.prog 49 Lq29_n1 Gq29_n1 := GNq29_n1_ok
noncomputable def Lq29_n0 : Code := codeAt [1,1,1,0,1,0,0] bq29
noncomputable def annLq29_n0 : Ann := .at 0 [4,6,7,14,15,16] (.loop (.seq .none (.seq .none (.seq (.cut 0 [4,6,7,14,15,16] Gq29_n1) .none))))
theorem annLq29_n0_ok : AnnOk Tryz.prog 49 (.loop Lq29_n0) annLq29_n0 := annOk_at ⟨(annOk_none _ _ _),⟨(annOk_none _ _ _),⟨Gq29_n1_ok,(annOk_none _ _ _)⟩⟩⟩
abbrev Iq29_n0 := (Int) × (List (List UInt8))
abbrev Yq29_n0 := (Bool) × (Int) × (Int) × (Int)
abbrev Vq29_n0 := (Bool) × (Int) × (Int) × (Int) × (Int)
def Sq29_n0 : Iq29_n0 → Vq29_n0 → St := fun (t15,o2) (t7,t16,o1_0,o1_1,o1_2) => { env := [(4,.ptr 0 0),(6,.ptr 1 0),(7,.bool t7),(14,.own 2),(15,.int .i64 t15),(16,.int .i64 t16)],stk := [[]],H := [.cells [.int .i64 (0),.int .i64 (0),.int .i64 (0)],.cells [.int .i64 o1_0,.int .i64 o1_1,.int .i64 o1_2],.arr .str o2],blk := 729088 }
def decPq29_n0 (s : St) : Option {x : Iq29_n0 × Vq29_n0 // s = Sq29_n0 x.1 x.2} := match s with
  | { env := [(4,.ptr 0 0),(6,.ptr 1 0),(7,.bool t7),(14,.own 2),(15,.int .i64 t15),(16,.int .i64 t16)],stk := [[]],H := [.cells [.int .i64 r3,.int .i64 r4,.int .i64 r5],.cells [.int .i64 o1_0,.int .i64 o1_1,.int .i64 o1_2],.arr .str o2],blk := 729088 } => if h3 : r3 = 0 then if h4 : r4 = 0 then if h5 : r5 = 0 then some ⟨((t15,o2),(t7,t16,o1_0,o1_1,o1_2)),by subst h3 h4 h5; rfl⟩ else none else none else none
  | _ => none
def decq29_n0 (s : St) : Option (Iq29_n0 × Vq29_n0) := pk (decPq29_n0 s)
theorem decq29_n0_ok (s : St) (x : Iq29_n0 × Vq29_n0) (h : decq29_n0 s = some x) : s = Sq29_n0 x.1 x.2 := pk_ok (o := decPq29_n0 s) h
def outq29_n0 : Iq29_n0 → (Ex → St → Ans) → Yq29_n0 → Ans := fun (t15,o2) K => unP fun t7_y => unP fun o1_0_y => unP fun o1_1_y o1_2_y => K (Ex.exit 0) { env := [(4,.ptr 0 0),(6,.ptr 1 0),(7,.bool t7_y)],stk := [[]],H := [.cells [.int .i64 (0),.int .i64 (0),.int .i64 (0)],.cells [.int .i64 o1_0_y,.int .i64 o1_1_y,.int .i64 o1_2_y]],blk := 729088 }
def stepq29_n0 {β : Type} : Iq29_n0 → Vq29_n0 → (Vq29_n0 → Option β) → (Yq29_n0 → Option β) → Option β := fun (t15,o2) (t7,t16,o1_0,o1_1,o1_2) next exit => (bif decide (t16 < t15) then (bindO (nodeDq29_n1 (t7,t15,t16,o1_0,o1_1,o1_2,o2)) (unP fun t7_2 => unP fun o1_0_2 => unP fun o1_1_2 o1_2_2 => (next (t7_2,IntKind.wrap .i64 (t16 + (1 : Int)),o1_0_2,o1_1_2,o1_2_2)))) else (exit (t7,o1_0,o1_1,o1_2)))
def stepDq29_n0 (i : Iq29_n0) (v : Vq29_n0) : Option (Vq29_n0 ⊕ Yq29_n0) := stepq29_n0 i v (fun v => some (.inl v)) (fun y => some (.inr y))
theorem stepq29_n0_nat (i : Iq29_n0) (v : Vq29_n0) (next : Vq29_n0 → Ans) (exit : Yq29_n0 → Ans) : stepq29_n0 i v next exit = bindO (stepDq29_n0 i v) (Sum.elim next exit) := by
  obtain ⟨t15,o2⟩ := i
  obtain ⟨t7,t16,o1_0,o1_1,o1_2⟩ := v
  simp only [stepDq29_n0,stepq29_n0,bindO_cond,bindO_assoc,bindO_none,bindO_pure,bindO_elim,bindO_unP,bindO_empty,Sum.elim_inl,Sum.elim_inr]
theorem stepq29_n0_ok (n : Nat) (i : Iq29_n0) (v : Vq29_n0) (K : Ex → St → Ans) : codeI Tryz.tab envq29 noHint (codeD Tryz.tab envq29 noHint 0 64) (n+1) 49 annLq29_n0 (.loop Lq29_n0) (weakP 0 (exk [4,6,7] [4,5] [(0,[4,6,7])]) K) (Sq29_n0 i v) = stepq29_n0 i v (fun v' => codeI Tryz.tab envq29 noHint (codeD Tryz.tab envq29 noHint 0 64) n 49 annLq29_n0 (.loop Lq29_n0) (weakP 0 (exk [4,6,7] [4,5] [(0,[4,6,7])]) K) (Sq29_n0 i v')) (fun y => outq29_n0 i K y) := by kernel_rfl
theorem GNq29_n0_ok : CSum Tryz.prog 49 (.loop Lq29_n0) (sumL decq29_n0 stepDq29_n0 outq29_n0) := csum_loop mixed tabOk envq29Ok 0 (exk [4,6,7] [4,5] [(0,[4,6,7])]) annLq29_n0_ok decq29_n0_ok stepq29_n0_ok stepq29_n0_nat
noncomputable def Gq29_n0 : (Ex → St → Ans) → St → Ans := (sumL decq29_n0 stepDq29_n0 outq29_n0)
theorem Gq29_n0_ok : CSum Tryz.prog 49 (.loop Lq29_n0) Gq29_n0 := GNq29_n0_ok
noncomputable def annq29 : Ann := (.seq .none (.seq .none (.seq .none (.seq (.seq .none (.block (.cut 0 [4,6,7,14,15,16] Gq29_n0))) .none))))
theorem annq29_ok : AnnOk Tryz.prog 49 bq29 annq29 := ⟨(annOk_none _ _ _),⟨(annOk_none _ _ _),⟨(annOk_none _ _ _),⟨⟨(annOk_none _ _ _),Gq29_n0_ok⟩,(annOk_none _ _ _)⟩⟩⟩⟩
abbrev Aq29 := (List UInt8) × (List UInt8)
abbrev Yq29 := (Int) × (Int) × (Int) × (Int)
def fnq29 {β : Type} : Aq29 → (Yq29 → Option β) → Option β := fun (a0,a1) exit => (bindO (loopD (stepDq29_n0 ((↑(List.length [a0,a1]) : Int),[a0,a1])) FUEL (false,(0 : Int),(0 : Int),(0 : Int),(0 : Int))) (unP fun t7 => unP fun o1_0 => unP fun o1_1 o1_2 => (bif !t7 then (exit (o1_0,o1_1,o1_2,(8 : Int))) else (exit (o1_0,o1_1,o1_2,(0 : Int))))))
def fnDq29 (a : Aq29) : Option Yq29 := fnq29 a some
theorem fnq29_nat (a : Aq29) (k : Yq29 → Ans) : fnq29 a k = bindO (fnDq29 a) k := by
  obtain ⟨a0,a1⟩ := a
  simp only [fnDq29,fnq29,bindO_cond,bindO_assoc,bindO_none,bindO_pure,bindO_elim,bindO_unP,bindO_empty]
def argsq29 : Aq29 → List AV := fun (a0,a1) => [.str a0,.str a1]
def decPAq29 (l : List AV) : Option {a : Aq29 // l = argsq29 a} := match l with
  | [.str a0,.str a1] => some ⟨(a0,a1),rfl⟩
  | _ => none
def decAq29 (l : List AV) : Option Aq29 := pk (decPAq29 l)
theorem decAq29_ok (l : List AV) (a : Aq29) (h : decAq29 l = some a) : l = argsq29 a := pk_ok (o := decPAq29 l) h
def rendq29 : Aq29 → Yq29 → AV := fun (a0,a1) => unP fun r_0_0_y => unP fun r_0_1_y => unP fun r_0_2_y r_1_y => .tup [.agg [.int .i64 r_0_0_y,.int .i64 r_0_1_y,.int .i64 r_0_2_y],.int .i64 r_1_y]
theorem rendq29_ok : ∀ (a : Aq29) (y : Yq29),(rendq29 a y).closed1 = true := by
  rintro ⟨a0,a1⟩ y <;> first | rfl | exact Empty.elim y
theorem fnq29_ok (a : Aq29) : fnE Tryz.tab envq29 noHint 0 70 178 Tryz.f178.ntmps Tryz.f178.results.toList annq29 bq29 (argsq29 a) [] (fun v _ => some (v,[])) = fnq29 a (fun y => some (rendq29 a y,[])) := by kernel_rfl
def vFq29 (a : Aq29) (K : AV → Ans) : Ans := bindO (fnDq29 a) fun y => K (rendq29 a y)
def Fq29 : List AV → (AV → Ans) → Ans := fun l K => bindO (decAq29 l) fun a => vFq29 a K
theorem Fq29_ok : PureOk Tryz.prog 178 Fq29 := pure_mkD (hint := noHint) (d := 0) (n := 70) mixed tabOk envq29Ok Tryz.func178 (bodySome (by kernel_rfl)) (by decide +kernel) annq29_ok decAq29_ok fnq29_ok fnq29_nat rendq29_ok
--@ region_Region_Place
noncomputable def envq52 : Env := []
theorem envq52Ok : EnvOk Tryz.prog envq52 := EnvOk.nil
noncomputable def bq52 : Code := Tryz.f209.body.getD .skip
noncomputable def Lq52_n1 : Code := codeAt [1,0,0,1,1,0] bq52
noncomputable def annLq52_n1 : Ann := .none
theorem annLq52_n1_ok : AnnOk Tryz.prog 26 Lq52_n1 annLq52_n1 := (annOk_none _ _ _)
abbrev Iq52_n1 := (Int) × (Int) × (Int) × (Int) × (Int) × (Bool) × (List (List UInt8)) × (List (Int × List UInt8)) × (List (Int × List UInt8)) × (List Int)
abbrev Yq52_n1 := (Bool)
def Sq52_n1 : Iq52_n1 → St := fun (t1,o0_1,o0_2,o1_3,o1_5,o1_6,o2,o3,o4,o5) => { env := [(0,.ptr 0 0),(1,.int .i64 t1)],stk := [[(0,.ptr 0 0),(1,.ptr 1 0),(3,.map 3)]],H := [.cells [.ptr 1 0,.int .i64 o0_1,.int .i64 o0_2],.cells [.own 2,.map 3,.own 4,.int .i64 o1_3,.own 5,.int .i64 o1_5,.bool o1_6],.arr .str o2,.mp .i64 .str o3,.arr (.st (.pair (.int .i64) .str)) o4,.arr (.int .i64) o5],blk := 856064 }
def decPq52_n1 (s : St) : Option {x : Iq52_n1 // s = Sq52_n1 x} := match s with
  | { env := [(0,.ptr 0 0),(1,.int .i64 t1)],stk := [[(0,.ptr 0 0),(1,.ptr 1 0),(3,.map 3)]],H := [.cells [.ptr 1 0,.int .i64 o0_1,.int .i64 o0_2],.cells [.own 2,.map 3,.own 4,.int .i64 o1_3,.own 5,.int .i64 o1_5,.bool o1_6],.arr .str o2,.mp .i64 .str o3,.arr (.st (.pair (.int .i64) .str)) o4,.arr (.int .i64) o5],blk := 856064 } => some ⟨(t1,o0_1,o0_2,o1_3,o1_5,o1_6,o2,o3,o4,o5),rfl⟩
  | _ => none
def decq52_n1 (s : St) : Option Iq52_n1 := pk (decPq52_n1 s)
theorem decq52_n1_ok (s : St) (x : Iq52_n1) (h : decq52_n1 s = some x) : s = Sq52_n1 x := pk_ok (o := decPq52_n1 s) h
def outq52_n1 : Iq52_n1 → (Ex → St → Ans) → Yq52_n1 → Ans := fun (t1,o0_1,o0_2,o1_3,o1_5,o1_6,o2,o3,o4,o5) K => fun t9_y => K (Ex.norm) { env := [(0,.ptr 0 0),(1,.int .i64 t1),(9,.bool t9_y)],stk := [[(0,.ptr 0 0),(1,.ptr 1 0),(3,.map 3)]],H := [.cells [.ptr 1 0,.int .i64 o0_1,.int .i64 o0_2],.cells [.own 2,.map 3,.own 4,.int .i64 o1_3,.own 5,.int .i64 o1_5,.bool o1_6],.arr .str o2,.mp .i64 .str o3,.arr (.st (.pair (.int .i64) .str)) o4,.arr (.int .i64) o5],blk := 856064 }
def nodeq52_n1 {β : Type} : Iq52_n1 → (Yq52_n1 → Option β) → Option β := fun (t1,o0_1,o0_2,o1_3,o1_5,o1_6,o2,o3,o4,o5) exit => (bif decide (t1 < (0 : Int)) then (exit (true)) else (exit (decide (t1 ≥ o0_2))))
def nodeDq52_n1 (i : Iq52_n1) : Option Yq52_n1 := nodeq52_n1 i some
theorem nodeq52_n1_nat (i : Iq52_n1) (k : Yq52_n1 → Ans) : nodeq52_n1 i k = bindO (nodeDq52_n1 i) k := by
  obtain ⟨t1,o0_1,o0_2,o1_3,o1_5,o1_6,o2,o3,o4,o5⟩ := i
  simp only [nodeDq52_n1,nodeq52_n1,bindO_cond,bindO_assoc,bindO_none,bindO_pure,bindO_elim,bindO_unP,bindO_empty]
theorem nodeq52_n1_ok (i : Iq52_n1) (K : Ex → St → Ans) : codeI Tryz.tab envq52 noHint (codeD Tryz.tab envq52 noHint 0 64) 70 26 annLq52_n1 Lq52_n1 (weakP 6 (exk [0,1,9] [4,5] []) K) (Sq52_n1 i) = nodeq52_n1 i (outq52_n1 i K) := by kernel_rfl
theorem GNq52_n1_ok : CSum Tryz.prog 26 Lq52_n1 (sumN decq52_n1 nodeDq52_n1 outq52_n1) := csum_node mixed tabOk envq52Ok 6 (exk [0,1,9] [4,5] []) annLq52_n1_ok decq52_n1_ok nodeq52_n1_ok nodeq52_n1_nat
noncomputable def Gq52_n1 : (Ex → St → Ans) → St → Ans := (sumN decq52_n1 nodeDq52_n1 outq52_n1)
theorem Gq52_n1_ok : CSum Tryz.prog 26 Lq52_n1 Gq52_n1 := GNq52_n1_ok
noncomputable def Lq52_n0 : Code := codeAt [1,0] bq52
noncomputable def annLq52_n0 : Ann := (.block (.seq .none (.cond .none (.seq (.cut 6 [0,1] Gq52_n1) .none))))
theorem annLq52_n0_ok : AnnOk Tryz.prog 26 Lq52_n0 annLq52_n0 := ⟨(annOk_none _ _ _),⟨(annOk_none _ _ _),⟨Gq52_n1_ok,(annOk_none _ _ _)⟩⟩⟩
abbrev Iq52_n0 := (Int) × (Int) × (Int) × (Int) × (Int) × (Bool) × (List (List UInt8)) × (List (Int × List UInt8)) × (List (Int × List UInt8)) × (List Int)
abbrev Yq52_n0 := (Unit) ⊕ (Unit)
def Sq52_n0 : Iq52_n0 → St := fun (t1,o0_1,o0_2,o1_3,o1_5,o1_6,o2,o3,o4,o5) => { env := [(0,.ptr 0 0),(1,.int .i64 t1)],stk := [[(0,.ptr 0 0),(1,.ptr 1 0),(3,.map 3)]],H := [.cells [.ptr 1 0,.int .i64 o0_1,.int .i64 o0_2],.cells [.own 2,.map 3,.own 4,.int .i64 o1_3,.own 5,.int .i64 o1_5,.bool o1_6],.arr .str o2,.mp .i64 .str o3,.arr (.st (.pair (.int .i64) .str)) o4,.arr (.int .i64) o5],blk := 856064 }
def decPq52_n0 (s : St) : Option {x : Iq52_n0 // s = Sq52_n0 x} := match s with
  | { env := [(0,.ptr 0 0),(1,.int .i64 t1)],stk := [[(0,.ptr 0 0),(1,.ptr 1 0),(3,.map 3)]],H := [.cells [.ptr 1 0,.int .i64 o0_1,.int .i64 o0_2],.cells [.own 2,.map 3,.own 4,.int .i64 o1_3,.own 5,.int .i64 o1_5,.bool o1_6],.arr .str o2,.mp .i64 .str o3,.arr (.st (.pair (.int .i64) .str)) o4,.arr (.int .i64) o5],blk := 856064 } => some ⟨(t1,o0_1,o0_2,o1_3,o1_5,o1_6,o2,o3,o4,o5),rfl⟩
  | _ => none
def decq52_n0 (s : St) : Option Iq52_n0 := pk (decPq52_n0 s)
theorem decq52_n0_ok (s : St) (x : Iq52_n0) (h : decq52_n0 s = some x) : s = Sq52_n0 x := pk_ok (o := decPq52_n0 s) h
def outq52_n0 : Iq52_n0 → (Ex → St → Ans) → Yq52_n0 → Ans := fun (t1,o0_1,o0_2,o1_3,o1_5,o1_6,o2,o3,o4,o5) K => (Sum.elim (fun _ => K (Ex.ret) { env := [(4,.int .i64 (0)),(5,.int .i64 (3))],stk := [[(0,.ptr 0 0),(1,.ptr 1 0),(3,.map 3)]],H := [.cells [.ptr 1 0,.int .i64 o0_1,.int .i64 o0_2],.cells [.own 2,.map 3,.own 4,.int .i64 o1_3,.own 5,.int .i64 o1_5,.bool o1_6],.arr .str o2,.mp .i64 .str o3,.arr (.st (.pair (.int .i64) .str)) o4,.arr (.int .i64) o5],blk := 856064 }) (fun _ => K (Ex.norm) { env := [(0,.ptr 0 0),(1,.int .i64 t1)],stk := [[(0,.ptr 0 0),(1,.ptr 1 0),(3,.map 3)]],H := [.cells [.ptr 1 0,.int .i64 o0_1,.int .i64 o0_2],.cells [.own 2,.map 3,.own 4,.int .i64 o1_3,.own 5,.int .i64 o1_5,.bool o1_6],.arr .str o2,.mp .i64 .str o3,.arr (.st (.pair (.int .i64) .str)) o4,.arr (.int .i64) o5],blk := 856064 }))
def nodeq52_n0 {β : Type} : Iq52_n0 → (Yq52_n0 → Option β) → Option β := fun (t1,o0_1,o0_2,o1_3,o1_5,o1_6,o2,o3,o4,o5) exit => (bindO (nodeDq52_n1 (t1,o0_1,o0_2,o1_3,o1_5,o1_6,o2,o3,o4,o5)) fun t9 => (bif t9 then (exit (Sum.inl ())) else (exit (Sum.inr ()))))
def nodeDq52_n0 (i : Iq52_n0) : Option Yq52_n0 := nodeq52_n0 i some
theorem nodeq52_n0_nat (i : Iq52_n0) (k : Yq52_n0 → Ans) : nodeq52_n0 i k = bindO (nodeDq52_n0 i) k := by
  obtain ⟨t1,o0_1,o0_2,o1_3,o1_5,o1_6,o2,o3,o4,o5⟩ := i
  simp only [nodeDq52_n0,nodeq52_n0,bindO_cond,bindO_assoc,bindO_none,bindO_pure,bindO_elim,bindO_unP,bindO_empty]
theorem nodeq52_n0_ok (i : Iq52_n0) (K : Ex → St → Ans) : codeI Tryz.tab envq52 noHint (codeD Tryz.tab envq52 noHint 0 64) 70 26 annLq52_n0 Lq52_n0 (weakP 6 (exk [0,1] [4,5] []) K) (Sq52_n0 i) = nodeq52_n0 i (outq52_n0 i K) := by kernel_rfl
theorem GNq52_n0_ok : CSum Tryz.prog 26 Lq52_n0 (sumN decq52_n0 nodeDq52_n0 outq52_n0) := csum_node mixed tabOk envq52Ok 6 (exk [0,1] [4,5] []) annLq52_n0_ok decq52_n0_ok nodeq52_n0_ok nodeq52_n0_nat
noncomputable def Gq52_n0 : (Ex → St → Ans) → St → Ans := (sumN decq52_n0 nodeDq52_n0 outq52_n0)
theorem Gq52_n0_ok : CSum Tryz.prog 26 Lq52_n0 Gq52_n0 := GNq52_n0_ok
noncomputable def annq52 : Ann := (.seq .none (.seq (.cut 6 [0,1] Gq52_n0) .none))
theorem annq52_ok : AnnOk Tryz.prog 26 bq52 annq52 := ⟨(annOk_none _ _ _),⟨Gq52_n0_ok,(annOk_none _ _ _)⟩⟩
abbrev Aq52 := (Int) × (Int) × (Int) × (Int) × (Int) × (Bool) × (List (List UInt8)) × (List (Int × List UInt8)) × (List (Int × List UInt8)) × (List Int)
abbrev Yq52 := (Int) × (Int)
def fnq52 {β : Type} : Aq52 → (Yq52 → Option β) → Option β := fun (a1,o0_1,o0_2,o1_3,o1_5,o1_6,o2,o3,o4,o5) exit => (bindO (nodeDq52_n0 (a1,o0_1,o0_2,o1_3,o1_5,o1_6,o2,o3,o4,o5)) (Sum.elim (fun _ => (exit ((0 : Int),(3 : Int)))) (fun _ => (exit (IntKind.wrap .i64 (o0_1 + a1),(0 : Int))))))
def fnDq52 (a : Aq52) : Option Yq52 := fnq52 a some
theorem fnq52_nat (a : Aq52) (k : Yq52 → Ans) : fnq52 a k = bindO (fnDq52 a) k := by
  obtain ⟨a1,o0_1,o0_2,o1_3,o1_5,o1_6,o2,o3,o4,o5⟩ := a
  simp only [fnDq52,fnq52,bindO_cond,bindO_assoc,bindO_none,bindO_pure,bindO_elim,bindO_unP,bindO_empty]
def argsq52 : Aq52 → List AV × List AE.Obj := fun (a1,o0_1,o0_2,o1_3,o1_5,o1_6,o2,o3,o4,o5) => ([.ptr 0 0,.int .i64 a1],[.cells [.ptr 1 0,.int .i64 o0_1,.int .i64 o0_2],.cells [.own 2,.map 3,.own 4,.int .i64 o1_3,.own 5,.int .i64 o1_5,.bool o1_6],.arr .str o2,.mp .i64 .str o3,.arr (.st (.pair (.int .i64) .str)) o4,.arr (.int .i64) o5])
def decPAq52 (l : List AV) (H : List AE.Obj) : Option {a : Aq52 // (l,H) = argsq52 a} := match l,H with
  | [.ptr 0 0,.int .i64 a1],[.cells [.ptr 1 0,.int .i64 o0_1,.int .i64 o0_2],.cells [.own 2,.map 3,.own 4,.int .i64 o1_3,.own 5,.int .i64 o1_5,.bool o1_6],.arr .str o2,.mp .i64 .str o3,.arr (.st (.pair (.int .i64) .str)) o4,.arr (.int .i64) o5] => some ⟨(a1,o0_1,o0_2,o1_3,o1_5,o1_6,o2,o3,o4,o5),rfl⟩
  | _,_ => none
def decAq52 (l : List AV) (H : List AE.Obj) : Option Aq52 := pk (decPAq52 l H)
theorem decAq52_ok (l : List AV) (H : List AE.Obj) (a : Aq52) (h : decAq52 l H = some a) : (l,H) = argsq52 a := pk_ok (o := decPAq52 l H) h
def outq52 : Aq52 → (AV → List AE.Obj → Ans) → Yq52 → Ans := fun (a1,o0_1,o0_2,o1_3,o1_5,o1_6,o2,o3,o4,o5) K => unP fun r_0_y r_1_y => K (.tup [.int .i64 r_0_y,.int .i64 r_1_y]) [.cells [.ptr 1 0,.int .i64 o0_1,.int .i64 o0_2],.cells [.own 2,.map 3,.own 4,.int .i64 o1_3,.own 5,.int .i64 o1_5,.bool o1_6],.arr .str o2,.mp .i64 .str o3,.arr (.st (.pair (.int .i64) .str)) o4,.arr (.int .i64) o5]
theorem fnq52_ok (a : Aq52) (K : AV → List AE.Obj → Ans) : fnE Tryz.tab envq52 noHint 0 70 209 Tryz.f209.ntmps Tryz.f209.results.toList annq52 bq52 (argsq52 a).1 (argsq52 a).2 K = fnq52 a (outq52 a K) := by kernel_rfl
def vFq52 (a : Aq52) (K : AV → List AE.Obj → Ans) : Ans := bindO (fnDq52 a) fun y => outq52 a K y
def Fq52 : List AV → List AE.Obj → (AV → List AE.Obj → Ans) → Ans := fun l H K => bindO (decAq52 l H) fun a => vFq52 a K
theorem Fq52_ok : FuncOk Tryz.prog 209 Fq52 := func_mkD (hint := noHint) (d := 0) (n := 70) mixed tabOk envq52Ok Tryz.func209 (bodySome (by kernel_rfl)) (by decide +kernel) annq52_ok decAq52_ok fnq52_ok fnq52_nat
--@ logrec_Size
noncomputable def envq36 : Env := [(129,.func Fq15),(130,.func Fq17),(131,.func Fq18)]
theorem envq36Ok : EnvOk Tryz.prog envq36 := EnvOk.cons Fq15_ok (EnvOk.cons Fq17_ok (EnvOk.cons Fq18_ok (EnvOk.nil)))
noncomputable def bq36 : Code := Tryz.f260.body.getD .skip
noncomputable def Lq36_n0 : Code := codeAt [1,1,1,1,0,0] bq36
noncomputable def annLq36_n0 : Ann := .none
theorem annLq36_n0_ok : AnnOk Tryz.prog 38 Lq36_n0 annLq36_n0 := (annOk_none _ _ _)
abbrev Iq36_n0 := (Int) × (List UInt8) × (Int) × (Int)
abbrev Yq36_n0 := (Bool)
def Sq36_n0 : Iq36_n0 → St := fun (t1,t7,t8,t9) => { env := [(1,.int .i64 t1),(7,.str t7),(8,.int .i64 t8),(9,.int .i64 t9)],stk := [[]],H := [],blk := 1064960 }
def decPq36_n0 (s : St) : Option {x : Iq36_n0 // s = Sq36_n0 x} := match s with
  | { env := [(1,.int .i64 t1),(7,.str t7),(8,.int .i64 t8),(9,.int .i64 t9)],stk := [[]],H := [],blk := 1064960 } => some ⟨(t1,t7,t8,t9),rfl⟩
  | _ => none
def decq36_n0 (s : St) : Option Iq36_n0 := pk (decPq36_n0 s)
theorem decq36_n0_ok (s : St) (x : Iq36_n0) (h : decq36_n0 s = some x) : s = Sq36_n0 x := pk_ok (o := decPq36_n0 s) h
def outq36_n0 : Iq36_n0 → (Ex → St → Ans) → Yq36_n0 → Ans := fun (t1,t7,t8,t9) K => fun t35_y => K (Ex.norm) { env := [(9,.int .i64 t9),(35,.bool t35_y)],stk := [[]],H := [],blk := 1064960 }
def nodeq36_n0 {β : Type} : Iq36_n0 → (Yq36_n0 → Option β) → Option β := fun (t1,t7,t8,t9) exit => (bif !t7 == [(82 : UInt8)] then (exit (true)) else (bif t8 != t1 then (exit (true)) else (bif decide (t9 < (1 : Int)) then (exit (true)) else (exit (decide (t9 > (16 : Int)))))))
def nodeDq36_n0 (i : Iq36_n0) : Option Yq36_n0 := nodeq36_n0 i some
theorem nodeq36_n0_nat (i : Iq36_n0) (k : Yq36_n0 → Ans) : nodeq36_n0 i k = bindO (nodeDq36_n0 i) k := by
  obtain ⟨t1,t7,t8,t9⟩ := i
  simp only [nodeDq36_n0,nodeq36_n0,bindO_cond,bindO_assoc,bindO_none,bindO_pure,bindO_elim,bindO_unP,bindO_empty]
theorem nodeq36_n0_ok (i : Iq36_n0) (K : Ex → St → Ans) : codeI Tryz.tab envq36 noHint (codeD Tryz.tab envq36 noHint 0 64) 70 38 annLq36_n0 Lq36_n0 (weakP 0 (exk [9,35] [4,5] []) K) (Sq36_n0 i) = nodeq36_n0 i (outq36_n0 i K) := by kernel_rfl
theorem GNq36_n0_ok : CSum Tryz.prog 38 Lq36_n0 (sumN decq36_n0 nodeDq36_n0 outq36_n0) := csum_node mixed tabOk envq36Ok 0 (exk [9,35] [4,5] []) annLq36_n0_ok decq36_n0_ok nodeq36_n0_ok nodeq36_n0_nat
noncomputable def Gq36_n0 : (Ex → St → Ans) → St → Ans := (sumN decq36_n0 nodeDq36_n0 outq36_n0)
theorem Gq36_n0_ok : CSum Tryz.prog 38 Lq36_n0 Gq36_n0 := GNq36_n0_ok
noncomputable def annq36 : Ann := (.seq .none (.seq .none (.seq .none (.seq .none (.seq (.seq (.cut 0 [1,7,8,9] Gq36_n0) .none) .none)))))
theorem annq36_ok : AnnOk Tryz.prog 38 bq36 annq36 := ⟨(annOk_none _ _ _),⟨(annOk_none _ _ _),⟨(annOk_none _ _ _),⟨(annOk_none _ _ _),⟨⟨Gq36_n0_ok,(annOk_none _ _ _)⟩,(annOk_none _ _ _)⟩⟩⟩⟩⟩
abbrev Aq36 := (List UInt8) × (Int)
abbrev Yq36 := (Int) × (Int)
def fnq36 {β : Type} : Aq36 → (Yq36 → Option β) → Option β := fun (a0,a1) exit => (bif (↑(List.length a0) : Int) != (64 : Int) then (exit ((0 : Int),(12 : Int))) else (bindO (fnDq15 (a0)) fun _ => (bindO (fnDq17 ((1 : Int),a0,(0 : Int))) (unP fun r => unP fun o0_0 o0_1 => (bindO (fnDq18 ((6 : Int),o0_0,o0_1)) (unP fun r_2 => unP fun o0_0_2 o0_1_2 => (bindO (fnDq18 ((1 : Int),o0_0_2,o0_1_2)) (unP fun r_3 => unP fun o0_0_3 o0_1_3 => (bindO (nodeDq36_n0 (a1,r,r_2,r_3)) fun t35 => (bif t35 then (exit ((0 : Int),(8 : Int))) else (exit (IntKind.wrap .i64 (r_3 + (1 : Int)),(0 : Int)))))))))))))
def fnDq36 (a : Aq36) : Option Yq36 := fnq36 a some
theorem fnq36_nat (a : Aq36) (k : Yq36 → Ans) : fnq36 a k = bindO (fnDq36 a) k := by
  obtain ⟨a0,a1⟩ := a
  simp only [fnDq36,fnq36,bindO_cond,bindO_assoc,bindO_none,bindO_pure,bindO_elim,bindO_unP,bindO_empty]
def argsq36 : Aq36 → List AV := fun (a0,a1) => [.str a0,.int .i64 a1]
def decPAq36 (l : List AV) : Option {a : Aq36 // l = argsq36 a} := match l with
  | [.str a0,.int .i64 a1] => some ⟨(a0,a1),rfl⟩
  | _ => none
def decAq36 (l : List AV) : Option Aq36 := pk (decPAq36 l)
theorem decAq36_ok (l : List AV) (a : Aq36) (h : decAq36 l = some a) : l = argsq36 a := pk_ok (o := decPAq36 l) h
def rendq36 : Aq36 → Yq36 → AV := fun (a0,a1) => unP fun r_0_y r_1_y => .tup [.int .i64 r_0_y,.int .i64 r_1_y]
theorem rendq36_ok : ∀ (a : Aq36) (y : Yq36),(rendq36 a y).closed1 = true := by
  rintro ⟨a0,a1⟩ y <;> first | rfl | exact Empty.elim y
theorem fnq36_ok (a : Aq36) : fnE Tryz.tab envq36 noHint 0 70 260 Tryz.f260.ntmps Tryz.f260.results.toList annq36 bq36 (argsq36 a) [] (fun v _ => some (v,[])) = fnq36 a (fun y => some (rendq36 a y,[])) := by kernel_rfl
def vFq36 (a : Aq36) (K : AV → Ans) : Ans := bindO (fnDq36 a) fun y => K (rendq36 a y)
def Fq36 : List AV → (AV → Ans) → Ans := fun l K => bindO (decAq36 l) fun a => vFq36 a K
theorem Fq36_ok : PureOk Tryz.prog 260 Fq36 := pure_mkD (hint := noHint) (d := 0) (n := 70) mixed tabOk envq36Ok Tryz.func260 (bodySome (by kernel_rfl)) (by decide +kernel) annq36_ok decAq36_ok fnq36_ok fnq36_nat rendq36_ok
--@ logrec_tail
noncomputable def envq37 : Env := [(123,.pure Fq4)]
theorem envq37Ok : EnvOk Tryz.prog envq37 := EnvOk.cons Fq4_ok (EnvOk.nil)
noncomputable def bq37 : Code := Tryz.f165.body.getD .skip
noncomputable def annq37 : Ann := .none
theorem annq37_ok : AnnOk Tryz.prog 9 bq37 annq37 := (annOk_none _ _ _)
abbrev Aq37 := (List UInt8) × (List UInt8)
abbrev Yq37 := (List UInt8)
def fnq37 {β : Type} : Aq37 → (Yq37 → Option β) → Option β := fun (a0,a1) exit => (bif Nat.ble (List.length a0 + List.length a1) (9223372036854775807 : Nat) then (bindO (fnDq4 (a0 ++ a1)) fun r => (exit (r))) else none)
def fnDq37 (a : Aq37) : Option Yq37 := fnq37 a some
theorem fnq37_nat (a : Aq37) (k : Yq37 → Ans) : fnq37 a k = bindO (fnDq37 a) k := by
  obtain ⟨a0,a1⟩ := a
  simp only [fnDq37,fnq37,bindO_cond,bindO_assoc,bindO_none,bindO_pure,bindO_elim,bindO_unP,bindO_empty]
def argsq37 : Aq37 → List AV := fun (a0,a1) => [.str a0,.str a1]
def decPAq37 (l : List AV) : Option {a : Aq37 // l = argsq37 a} := match l with
  | [.str a0,.str a1] => some ⟨(a0,a1),rfl⟩
  | _ => none
def decAq37 (l : List AV) : Option Aq37 := pk (decPAq37 l)
theorem decAq37_ok (l : List AV) (a : Aq37) (h : decAq37 l = some a) : l = argsq37 a := pk_ok (o := decPAq37 l) h
def rendq37 : Aq37 → Yq37 → AV := fun (a0,a1) => fun r_y => .str r_y
theorem rendq37_ok : ∀ (a : Aq37) (y : Yq37),(rendq37 a y).closed1 = true := by
  rintro ⟨a0,a1⟩ y <;> first | rfl | exact Empty.elim y
theorem fnq37_ok (a : Aq37) : fnE Tryz.tab envq37 noHint 0 70 165 Tryz.f165.ntmps Tryz.f165.results.toList annq37 bq37 (argsq37 a) [] (fun v _ => some (v,[])) = fnq37 a (fun y => some (rendq37 a y,[])) := by kernel_rfl
def vFq37 (a : Aq37) (K : AV → Ans) : Ans := bindO (fnDq37 a) fun y => K (rendq37 a y)
def Fq37 : List AV → (AV → Ans) → Ans := fun l K => bindO (decAq37 l) fun a => vFq37 a K
theorem Fq37_ok : PureOk Tryz.prog 165 Fq37 := pure_mkD (hint := noHint) (d := 0) (n := 70) mixed tabOk envq37Ok Tryz.func165 (bodySome (by kernel_rfl)) (by decide +kernel) annq37_ok decAq37_ok fnq37_ok fnq37_nat rendq37_ok
--@ logrec_Check_1
noncomputable def envq33 : Env := []
theorem envq33Ok : EnvOk Tryz.prog envq33 := EnvOk.nil
noncomputable def bq33 : Code := Tryz.f208.body.getD .skip
noncomputable def annq33 : Ann := .none
theorem annq33_ok : AnnOk Tryz.prog 9 bq33 annq33 := (annOk_none _ _ _)
abbrev Aq33 := (Int) × (List UInt8) × (Int) × (List UInt8)
abbrev Yq33 := (Bool)
def fnq33 {β : Type} : Aq33 → (Yq33 → Option β) → Option β := fun (a0_0,a0_1,o0_0,o0_1) exit => (exit (a0_0 == o0_0))
def fnDq33 (a : Aq33) : Option Yq33 := fnq33 a some
theorem fnq33_nat (a : Aq33) (k : Yq33 → Ans) : fnq33 a k = bindO (fnDq33 a) k := by
  obtain ⟨a0_0,a0_1,o0_0,o0_1⟩ := a
  simp only [fnDq33,fnq33,bindO_cond,bindO_assoc,bindO_none,bindO_pure,bindO_elim,bindO_unP,bindO_empty]
def argsq33 : Aq33 → List AV × List AE.Obj := fun (a0_0,a0_1,o0_0,o0_1) => ([.agg [.int .i64 a0_0,.str a0_1],.ptr 0 0],[.cells [.int .i64 o0_0,.str o0_1]])
def decPAq33 (l : List AV) (H : List AE.Obj) : Option {a : Aq33 // (l,H) = argsq33 a} := match l,H with
  | [.agg [.int .i64 a0_0,.str a0_1],.ptr 0 0],[.cells [.int .i64 o0_0,.str o0_1]] => some ⟨(a0_0,a0_1,o0_0,o0_1),rfl⟩
  | _,_ => none
def decAq33 (l : List AV) (H : List AE.Obj) : Option Aq33 := pk (decPAq33 l H)
theorem decAq33_ok (l : List AV) (H : List AE.Obj) (a : Aq33) (h : decAq33 l H = some a) : (l,H) = argsq33 a := pk_ok (o := decPAq33 l H) h
def outq33 : Aq33 → (AV → List AE.Obj → Ans) → Yq33 → Ans := fun (a0_0,a0_1,o0_0,o0_1) K => fun r_y => K (.bool r_y) [.cells [.int .i64 o0_0,.str o0_1]]
theorem fnq33_ok (a : Aq33) (K : AV → List AE.Obj → Ans) : fnE Tryz.tab envq33 noHint 0 70 208 Tryz.f208.ntmps Tryz.f208.results.toList annq33 bq33 (argsq33 a).1 (argsq33 a).2 K = fnq33 a (outq33 a K) := by kernel_rfl
def vFq33 (a : Aq33) (K : AV → List AE.Obj → Ans) : Ans := bindO (fnDq33 a) fun y => outq33 a K y
def Fq33 : List AV → List AE.Obj → (AV → List AE.Obj → Ans) → Ans := fun l H K => bindO (decAq33 l H) fun a => vFq33 a K
theorem Fq33_ok : FuncOk Tryz.prog 208 Fq33 := func_mkD (hint := noHint) (d := 0) (n := 70) mixed tabOk envq33Ok Tryz.func208 (bodySome (by kernel_rfl)) (by decide +kernel) annq33_ok decAq33_ok fnq33_ok fnq33_nat
--@ slices_IndexFunc_api_Sector_api_Sector
noncomputable def envq81 : Env := [(208,.func Fq33)]
theorem envq81Ok : EnvOk Tryz.prog envq81 := EnvOk.cons Fq33_ok (EnvOk.nil)
noncomputable def bq81 : Code := Tryz.f237.body.getD .skip
noncomputable def Lq81_n0 : Code := codeAt [1,0,1,0,0] bq81
noncomputable def annLq81_n0 : Ann := .at 1 [0,1,7,8] (.loop .none)
theorem annLq81_n0_ok : AnnOk Tryz.prog 19 (.loop Lq81_n0) annLq81_n0 := annOk_at (annOk_none _ _ _)
abbrev Iq81_n0 := (List (Int × List UInt8)) × (Int) × (Int) × (List UInt8)
abbrev Yq81_n0 := ((Int)) ⊕ (Unit)
abbrev Vq81_n0 := (Int)
def Sq81_n0 : Iq81_n0 → Vq81_n0 → St := fun (t0,t7,o0_0,o0_1) t8 => { env := [(0,.ro (.st (.pair (.int .i64) .str)) t0),(1,.fn (Fn.func 208) [] [.ptr 0 0]),(7,.int .i64 t7),(8,.int .i64 t8)],stk := [[(0,.ptr 0 0)]],H := [.cells [.int .i64 o0_0,.str o0_1]],blk := 970752 }
def decPq81_n0 (s : St) : Option {x : Iq81_n0 × Vq81_n0 // s = Sq81_n0 x.1 x.2} := match s with
  | { env := [(0,.ro (.st (.pair (.int .i64) .str)) t0),(1,.fn (Fn.func 208) [] [.ptr 0 0]),(7,.int .i64 t7),(8,.int .i64 t8)],stk := [[(0,.ptr 0 0)]],H := [.cells [.int .i64 o0_0,.str o0_1]],blk := 970752 } => some ⟨((t0,t7,o0_0,o0_1),t8),rfl⟩
  | _ => none
def decq81_n0 (s : St) : Option (Iq81_n0 × Vq81_n0) := pk (decPq81_n0 s)
theorem decq81_n0_ok (s : St) (x : Iq81_n0 × Vq81_n0) (h : decq81_n0 s = some x) : s = Sq81_n0 x.1 x.2 := pk_ok (o := decPq81_n0 s) h
def outq81_n0 : Iq81_n0 → (Ex → St → Ans) → Yq81_n0 → Ans := fun (t0,t7,o0_0,o0_1) K => (Sum.elim (fun t4_y => K (Ex.ret) { env := [(4,.int .i64 t4_y)],stk := [[(0,.ptr 0 0)]],H := [.cells [.int .i64 o0_0,.str o0_1]],blk := 970753 }) (fun _ => K (Ex.exit 0) { env := [],stk := [[(0,.ptr 0 0)]],H := [.cells [.int .i64 o0_0,.str o0_1]],blk := 970752 }))
def stepq81_n0 {β : Type} : Iq81_n0 → Vq81_n0 → (Vq81_n0 → Option β) → (Yq81_n0 → Option β) → Option β := fun (t0,t7,o0_0,o0_1) t8 next exit => (bif decide (t8 < t7) then (bindO (nth t0 t8) fun x => (bindO (fnDq33 (x.fst,x.snd,o0_0,o0_1)) fun r => (bif r then (exit (Sum.inl (t8))) else (next (IntKind.wrap .i64 (t8 + (1 : Int))))))) else (exit (Sum.inr ())))
def stepDq81_n0 (i : Iq81_n0) (v : Vq81_n0) : Option (Vq81_n0 ⊕ Yq81_n0) := stepq81_n0 i v (fun v => some (.inl v)) (fun y => some (.inr y))
theorem stepq81_n0_nat (i : Iq81_n0) (v : Vq81_n0) (next : Vq81_n0 → Ans) (exit : Yq81_n0 → Ans) : stepq81_n0 i v next exit = bindO (stepDq81_n0 i v) (Sum.elim next exit) := by
  obtain ⟨t0,t7,o0_0,o0_1⟩ := i
  obtain z := v
  simp only [stepDq81_n0,stepq81_n0,bindO_cond,bindO_assoc,bindO_none,bindO_pure,bindO_elim,bindO_unP,bindO_empty,Sum.elim_inl,Sum.elim_inr]
theorem stepq81_n0_ok (n : Nat) (i : Iq81_n0) (v : Vq81_n0) (K : Ex → St → Ans) : codeI Tryz.tab envq81 noHint (codeD Tryz.tab envq81 noHint 0 64) (n+1) 19 annLq81_n0 (.loop Lq81_n0) (weakP 1 (exk [] [4] [(0,[])]) K) (Sq81_n0 i v) = stepq81_n0 i v (fun v' => codeI Tryz.tab envq81 noHint (codeD Tryz.tab envq81 noHint 0 64) n 19 annLq81_n0 (.loop Lq81_n0) (weakP 1 (exk [] [4] [(0,[])]) K) (Sq81_n0 i v')) (fun y => outq81_n0 i K y) := by kernel_rfl
theorem GNq81_n0_ok : CSum Tryz.prog 19 (.loop Lq81_n0) (sumL decq81_n0 stepDq81_n0 outq81_n0) := csum_loop mixed tabOk envq81Ok 1 (exk [] [4] [(0,[])]) annLq81_n0_ok decq81_n0_ok stepq81_n0_ok stepq81_n0_nat
noncomputable def Gq81_n0 : (Ex → St → Ans) → St → Ans := (sumL decq81_n0 stepDq81_n0 outq81_n0)
theorem Gq81_n0_ok : CSum Tryz.prog 19 (.loop Lq81_n0) Gq81_n0 := GNq81_n0_ok
noncomputable def annq81 : Ann := (.seq .none (.seq (.seq .none (.block (.cut 1 [0,1,7,8] Gq81_n0))) .none))
theorem annq81_ok : AnnOk Tryz.prog 19 bq81 annq81 := ⟨(annOk_none _ _ _),⟨⟨(annOk_none _ _ _),Gq81_n0_ok⟩,(annOk_none _ _ _)⟩⟩
abbrev Aq81 := (List (Int × List UInt8)) × (Int) × (List UInt8)
abbrev Yq81 := (Int)
def fnq81 {β : Type} : Aq81 → (Yq81 → Option β) → Option β := fun (a0,o0_0,o0_1) exit => (bindO (loopD (stepDq81_n0 (a0,(↑(List.length a0) : Int),o0_0,o0_1)) FUEL ((0 : Int))) (Sum.elim (fun t4 => (exit (t4))) (fun _ => (exit ((-1 : Int))))))
def fnDq81 (a : Aq81) : Option Yq81 := fnq81 a some
theorem fnq81_nat (a : Aq81) (k : Yq81 → Ans) : fnq81 a k = bindO (fnDq81 a) k := by
  obtain ⟨a0,o0_0,o0_1⟩ := a
  simp only [fnDq81,fnq81,bindO_cond,bindO_assoc,bindO_none,bindO_pure,bindO_elim,bindO_unP,bindO_empty]
def argsq81 : Aq81 → List AV × List AE.Obj := fun (a0,o0_0,o0_1) => ([.ro (.st (.pair (.int .i64) .str)) a0,.fn (Fn.func 208) [] [.ptr 0 0]],[.cells [.int .i64 o0_0,.str o0_1]])
def decPAq81 (l : List AV) (H : List AE.Obj) : Option {a : Aq81 // (l,H) = argsq81 a} := match l,H with
  | [.ro (.st (.pair (.int .i64) .str)) a0,.fn (Fn.func 208) [] [.ptr 0 0]],[.cells [.int .i64 o0_0,.str o0_1]] => some ⟨(a0,o0_0,o0_1),rfl⟩
  | _,_ => none
def decAq81 (l : List AV) (H : List AE.Obj) : Option Aq81 := pk (decPAq81 l H)
theorem decAq81_ok (l : List AV) (H : List AE.Obj) (a : Aq81) (h : decAq81 l H = some a) : (l,H) = argsq81 a := pk_ok (o := decPAq81 l H) h
def outq81 : Aq81 → (AV → List AE.Obj → Ans) → Yq81 → Ans := fun (a0,o0_0,o0_1) K => fun r_y => K (.int .i64 r_y) [.cells [.int .i64 o0_0,.str o0_1]]
theorem fnq81_ok (a : Aq81) (K : AV → List AE.Obj → Ans) : fnE Tryz.tab envq81 noHint 0 70 237 Tryz.f237.ntmps Tryz.f237.results.toList annq81 bq81 (argsq81 a).1 (argsq81 a).2 K = fnq81 a (outq81 a K) := by kernel_rfl
def vFq81 (a : Aq81) (K : AV → List AE.Obj → Ans) : Ans := bindO (fnDq81 a) fun y => outq81 a K y
def Fq81 : List AV → List AE.Obj → (AV → List AE.Obj → Ans) → Ans := fun l H K => bindO (decAq81 l H) fun a => vFq81 a K
theorem Fq81_ok : FuncOk Tryz.prog 237 Fq81 := func_mkD (hint := noHint) (d := 0) (n := 70) mixed tabOk envq81Ok Tryz.func237 (bodySome (by kernel_rfl)) (by decide +kernel) annq81_ok decAq81_ok fnq81_ok fnq81_nat
--@ slices_ContainsFunc_api_Sector_api_Sector
noncomputable def envq79 : Env := [(237,.func Fq81)]
theorem envq79Ok : EnvOk Tryz.prog envq79 := EnvOk.cons Fq81_ok (EnvOk.nil)
noncomputable def bq79 : Code := Tryz.f207.body.getD .skip
noncomputable def annq79 : Ann := .none
theorem annq79_ok : AnnOk Tryz.prog 9 bq79 annq79 := (annOk_none _ _ _)
abbrev Aq79 := (List (Int × List UInt8)) × (Int) × (List UInt8)
abbrev Yq79 := (Bool)
def fnq79 {β : Type} : Aq79 → (Yq79 → Option β) → Option β := fun (a0,o0_0,o0_1) exit => (bindO (fnDq81 (a0,o0_0,o0_1)) fun r => (exit (decide (r ≥ (0 : Int)))))
def fnDq79 (a : Aq79) : Option Yq79 := fnq79 a some
theorem fnq79_nat (a : Aq79) (k : Yq79 → Ans) : fnq79 a k = bindO (fnDq79 a) k := by
  obtain ⟨a0,o0_0,o0_1⟩ := a
  simp only [fnDq79,fnq79,bindO_cond,bindO_assoc,bindO_none,bindO_pure,bindO_elim,bindO_unP,bindO_empty]
def argsq79 : Aq79 → List AV × List AE.Obj := fun (a0,o0_0,o0_1) => ([.ro (.st (.pair (.int .i64) .str)) a0,.fn (Fn.func 208) [] [.ptr 0 0]],[.cells [.int .i64 o0_0,.str o0_1]])
def decPAq79 (l : List AV) (H : List AE.Obj) : Option {a : Aq79 // (l,H) = argsq79 a} := match l,H with
  | [.ro (.st (.pair (.int .i64) .str)) a0,.fn (Fn.func 208) [] [.ptr 0 0]],[.cells [.int .i64 o0_0,.str o0_1]] => some ⟨(a0,o0_0,o0_1),rfl⟩
  | _,_ => none
def decAq79 (l : List AV) (H : List AE.Obj) : Option Aq79 := pk (decPAq79 l H)
theorem decAq79_ok (l : List AV) (H : List AE.Obj) (a : Aq79) (h : decAq79 l H = some a) : (l,H) = argsq79 a := pk_ok (o := decPAq79 l H) h
def outq79 : Aq79 → (AV → List AE.Obj → Ans) → Yq79 → Ans := fun (a0,o0_0,o0_1) K => fun r_y => K (.bool r_y) [.cells [.int .i64 o0_0,.str o0_1]]
theorem fnq79_ok (a : Aq79) (K : AV → List AE.Obj → Ans) : fnE Tryz.tab envq79 noHint 0 70 207 Tryz.f207.ntmps Tryz.f207.results.toList annq79 bq79 (argsq79 a).1 (argsq79 a).2 K = fnq79 a (outq79 a K) := by kernel_rfl
def vFq79 (a : Aq79) (K : AV → List AE.Obj → Ans) : Ans := bindO (fnDq79 a) fun y => outq79 a K y
def Fq79 : List AV → List AE.Obj → (AV → List AE.Obj → Ans) → Ans := fun l H K => bindO (decAq79 l H) fun a => vFq79 a K
theorem Fq79_ok : FuncOk Tryz.prog 207 Fq79 := func_mkD (hint := noHint) (d := 0) (n := 70) mixed tabOk envq79Ok Tryz.func207 (bodySome (by kernel_rfl)) (by decide +kernel) annq79_ok decAq79_ok fnq79_ok fnq79_nat
--@ logrec_Check
noncomputable def envq32 : Env := [(207,.func Fq79)]
theorem envq32Ok : EnvOk Tryz.prog envq32 := EnvOk.cons Fq79_ok (EnvOk.nil)
noncomputable def bq32 : Code := Tryz.f164.body.getD .skip
noncomputable def Lq32_n2 : Code := codeAt [1,1,0,1,0,0,1,1,0,0,1,0,0] bq32
noncomputable def annLq32_n2 : Ann := .none
theorem annLq32_n2_ok : AnnOk Tryz.prog 41 Lq32_n2 annLq32_n2 := (annOk_none _ _ _)
abbrev Iq32_n2 := (List (Int × List UInt8)) × (Int) × (List (Int × List UInt8)) × (Int) × (Int) × (Int) × (List UInt8)
abbrev Yq32_n2 := (Bool)
def Sq32_n2 : Iq32_n2 → St := fun (t0,t3,t13,t14,t15,o0_0,o0_1) => { env := [(0,.ro (.st (.pair (.int .i64) .str)) t0),(3,.int .i64 t3),(4,.ptr 0 0),(13,.ro (.st (.pair (.int .i64) .str)) t13),(14,.int .i64 t14),(15,.int .i64 t15)],stk := [[]],H := [.cells [.int .i64 o0_0,.str o0_1]],blk := 671747 }
def decPq32_n2 (s : St) : Option {x : Iq32_n2 // s = Sq32_n2 x} := match s with
  | { env := [(0,.ro (.st (.pair (.int .i64) .str)) t0),(3,.int .i64 t3),(4,.ptr 0 0),(13,.ro (.st (.pair (.int .i64) .str)) t13),(14,.int .i64 t14),(15,.int .i64 t15)],stk := [[]],H := [.cells [.int .i64 o0_0,.str o0_1]],blk := 671747 } => some ⟨(t0,t3,t13,t14,t15,o0_0,o0_1),rfl⟩
  | _ => none
def decq32_n2 (s : St) : Option Iq32_n2 := pk (decPq32_n2 s)
theorem decq32_n2_ok (s : St) (x : Iq32_n2) (h : decq32_n2 s = some x) : s = Sq32_n2 x := pk_ok (o := decPq32_n2 s) h
def outq32_n2 : Iq32_n2 → (Ex → St → Ans) → Yq32_n2 → Ans := fun (t0,t3,t13,t14,t15,o0_0,o0_1) K => fun t20_y => K (Ex.norm) { env := [(0,.ro (.st (.pair (.int .i64) .str)) t0),(3,.int .i64 t3),(4,.ptr 0 0),(13,.ro (.st (.pair (.int .i64) .str)) t13),(14,.int .i64 t14),(15,.int .i64 t15),(20,.bool t20_y)],stk := [[]],H := [.cells [.int .i64 o0_0,.str o0_1]],blk := 671747 }
def nodeq32_n2 {β : Type} : Iq32_n2 → (Yq32_n2 → Option β) → Option β := fun (t0,t3,t13,t14,t15,o0_0,o0_1) exit => (bif decide (o0_0 < (0 : Int)) then (exit (true)) else (exit (decide (o0_0 ≥ (1000 : Int)))))
def nodeDq32_n2 (i : Iq32_n2) : Option Yq32_n2 := nodeq32_n2 i some
theorem nodeq32_n2_nat (i : Iq32_n2) (k : Yq32_n2 → Ans) : nodeq32_n2 i k = bindO (nodeDq32_n2 i) k := by
  obtain ⟨t0,t3,t13,t14,t15,o0_0,o0_1⟩ := i
  simp only [nodeDq32_n2,nodeq32_n2,bindO_cond,bindO_assoc,bindO_none,bindO_pure,bindO_elim,bindO_unP,bindO_empty]
theorem nodeq32_n2_ok (i : Iq32_n2) (K : Ex → St → Ans) : codeI Tryz.tab envq32 noHint (codeD Tryz.tab envq32 noHint 0 64) 70 41 annLq32_n2 Lq32_n2 (weakP 0 (exk [0,3,4,13,14,15,20] [2] []) K) (Sq32_n2 i) = nodeq32_n2 i (outq32_n2 i K) := by kernel_rfl
theorem GNq32_n2_ok : CSum Tryz.prog 41 Lq32_n2 (sumN decq32_n2 nodeDq32_n2 outq32_n2) := csum_node mixed tabOk envq32Ok 0 (exk [0,3,4,13,14,15,20] [2] []) annLq32_n2_ok decq32_n2_ok nodeq32_n2_ok nodeq32_n2_nat
noncomputable def Gq32_n2 : (Ex → St → Ans) → St → Ans := (sumN decq32_n2 nodeDq32_n2 outq32_n2)
theorem Gq32_n2_ok : CSum Tryz.prog 41 Lq32_n2 Gq32_n2 := GNq32_n2_ok
noncomputable def Lq32_n1 : Code := codeAt [1,1,0,1,0,0,1,1,0] bq32
noncomputable def annLq32_n1 : Ann := (.block (.seq .none (.block (.seq (.cut 0 [0,3,4,13,14,15] Gq32_n2) .none))))
theorem annLq32_n1_ok : AnnOk Tryz.prog 41 Lq32_n1 annLq32_n1 := ⟨(annOk_none _ _ _),⟨Gq32_n2_ok,(annOk_none _ _ _)⟩⟩
abbrev Iq32_n1 := (List (Int × List UInt8)) × (List (Int × List UInt8)) × (Int) × (Int)
abbrev Yq32_n1 := ((Int)) ⊕ (Unit)
def Sq32_n1 : Iq32_n1 → St := fun (t0,t13,t14,t15) => { env := [(0,.ro (.st (.pair (.int .i64) .str)) t0),(13,.ro (.st (.pair (.int .i64) .str)) t13),(14,.int .i64 t14),(15,.int .i64 t15)],stk := [[]],H := [],blk := 671745 }
def decPq32_n1 (s : St) : Option {x : Iq32_n1 // s = Sq32_n1 x} := match s with
  | { env := [(0,.ro (.st (.pair (.int .i64) .str)) t0),(13,.ro (.st (.pair (.int .i64) .str)) t13),(14,.int .i64 t14),(15,.int .i64 t15)],stk := [[]],H := [],blk := 671745 } => some ⟨(t0,t13,t14,t15),rfl⟩
  | _ => none
def decq32_n1 (s : St) : Option Iq32_n1 := pk (decPq32_n1 s)
theorem decq32_n1_ok (s : St) (x : Iq32_n1) (h : decq32_n1 s = some x) : s = Sq32_n1 x := pk_ok (o := decPq32_n1 s) h
def outq32_n1 : Iq32_n1 → (Ex → St → Ans) → Yq32_n1 → Ans := fun (t0,t13,t14,t15) K => (Sum.elim (fun t2_y => K (Ex.ret) { env := [(2,.int .i64 t2_y)],stk := [[]],H := [],blk := 671747 }) (fun _ => K (Ex.norm) { env := [(0,.ro (.st (.pair (.int .i64) .str)) t0),(13,.ro (.st (.pair (.int .i64) .str)) t13),(14,.int .i64 t14),(15,.int .i64 t15)],stk := [[]],H := [],blk := 671747 }))
def nodeq32_n1 {β : Type} : Iq32_n1 → (Yq32_n1 → Option β) → Option β := fun (t0,t13,t14,t15) exit => (bindO (nth t13 t15) fun x => (bindO (nodeDq32_n2 (t0,t15,t13,t14,t15,x.fst,x.snd)) fun t20 => (bif t20 then (exit (Sum.inl ((3 : Int)))) else (bif (↑(List.length x.snd) : Int) != (64 : Int) then (exit (Sum.inl ((12 : Int)))) else (bif inR t15 (List.length t0 + (1 : Nat)) then (bindO (fnDq79 (List.take (Int.toNat t15) t0,x.fst,x.snd)) fun r => (bif r then (exit (Sum.inl ((9 : Int)))) else (exit (Sum.inr ())))) else none)))))
def nodeDq32_n1 (i : Iq32_n1) : Option Yq32_n1 := nodeq32_n1 i some
theorem nodeq32_n1_nat (i : Iq32_n1) (k : Yq32_n1 → Ans) : nodeq32_n1 i k = bindO (nodeDq32_n1 i) k := by
  obtain ⟨t0,t13,t14,t15⟩ := i
  simp only [nodeDq32_n1,nodeq32_n1,bindO_cond,bindO_assoc,bindO_none,bindO_pure,bindO_elim,bindO_unP,bindO_empty]
theorem nodeq32_n1_ok (i : Iq32_n1) (K : Ex → St → Ans) : codeI Tryz.tab envq32 noHint (codeD Tryz.tab envq32 noHint 0 64) 70 41 annLq32_n1 Lq32_n1 (weakP 0 (exk [0,13,14,15] [2] []) K) (Sq32_n1 i) = nodeq32_n1 i (outq32_n1 i K) := by kernel_rfl
theorem GNq32_n1_ok : CSum Tryz.prog 41 Lq32_n1 (sumN decq32_n1 nodeDq32_n1 outq32_n1) := csum_node mixed tabOk envq32Ok 0 (exk [0,13,14,15] [2] []) annLq32_n1_ok decq32_n1_ok nodeq32_n1_ok nodeq32_n1_nat
noncomputable def Gq32_n1 : (Ex → St → Ans) → St → Ans := (sumN decq32_n1 nodeDq32_n1 outq32_n1)
theorem Gq32_n1_ok : CSum Tryz.prog 41 Lq32_n1 Gq32_n1 := GNq32_n1_ok
noncomputable def Lq32_n0 : Code := codeAt [1,1,0,1,0,0] bq32
noncomputable def annLq32_n0 : Ann := .at 0 [0,13,14,15] (.loop (.seq .none (.seq .none (.seq (.cut 0 [0,13,14,15] Gq32_n1) .none))))
theorem annLq32_n0_ok : AnnOk Tryz.prog 41 (.loop Lq32_n0) annLq32_n0 := annOk_at ⟨(annOk_none _ _ _),⟨(annOk_none _ _ _),⟨Gq32_n1_ok,(annOk_none _ _ _)⟩⟩⟩
abbrev Iq32_n0 := (List (Int × List UInt8)) × (List (Int × List UInt8)) × (Int)
abbrev Yq32_n0 := ((Int)) ⊕ (Unit)
abbrev Vq32_n0 := (Int)
def Sq32_n0 : Iq32_n0 → Vq32_n0 → St := fun (t0,t13,t14) t15 => { env := [(0,.ro (.st (.pair (.int .i64) .str)) t0),(13,.ro (.st (.pair (.int .i64) .str)) t13),(14,.int .i64 t14),(15,.int .i64 t15)],stk := [[]],H := [],blk := 671745 }
def decPq32_n0 (s : St) : Option {x : Iq32_n0 × Vq32_n0 // s = Sq32_n0 x.1 x.2} := match s with
  | { env := [(0,.ro (.st (.pair (.int .i64) .str)) t0),(13,.ro (.st (.pair (.int .i64) .str)) t13),(14,.int .i64 t14),(15,.int .i64 t15)],stk := [[]],H := [],blk := 671745 } => some ⟨((t0,t13,t14),t15),rfl⟩
  | _ => none
def decq32_n0 (s : St) : Option (Iq32_n0 × Vq32_n0) := pk (decPq32_n0 s)
theorem decq32_n0_ok (s : St) (x : Iq32_n0 × Vq32_n0) (h : decq32_n0 s = some x) : s = Sq32_n0 x.1 x.2 := pk_ok (o := decPq32_n0 s) h
def outq32_n0 : Iq32_n0 → (Ex → St → Ans) → Yq32_n0 → Ans := fun (t0,t13,t14) K => (Sum.elim (fun t2_y => K (Ex.ret) { env := [(2,.int .i64 t2_y)],stk := [[]],H := [],blk := 671747 }) (fun _ => K (Ex.exit 1) { env := [],stk := [[]],H := [],blk := 671745 }))
def stepq32_n0 {β : Type} : Iq32_n0 → Vq32_n0 → (Vq32_n0 → Option β) → (Yq32_n0 → Option β) → Option β := fun (t0,t13,t14) t15 next exit => (bif decide (t15 < t14) then (bindO (nodeDq32_n1 (t0,t13,t14,t15)) (Sum.elim (fun t2 => (exit (Sum.inl (t2)))) (fun _ => (next (IntKind.wrap .i64 (t15 + (1 : Int))))))) else (exit (Sum.inr ())))
def stepDq32_n0 (i : Iq32_n0) (v : Vq32_n0) : Option (Vq32_n0 ⊕ Yq32_n0) := stepq32_n0 i v (fun v => some (.inl v)) (fun y => some (.inr y))
theorem stepq32_n0_nat (i : Iq32_n0) (v : Vq32_n0) (next : Vq32_n0 → Ans) (exit : Yq32_n0 → Ans) : stepq32_n0 i v next exit = bindO (stepDq32_n0 i v) (Sum.elim next exit) := by
  obtain ⟨t0,t13,t14⟩ := i
  obtain z := v
  simp only [stepDq32_n0,stepq32_n0,bindO_cond,bindO_assoc,bindO_none,bindO_pure,bindO_elim,bindO_unP,bindO_empty,Sum.elim_inl,Sum.elim_inr]
theorem stepq32_n0_ok (n : Nat) (i : Iq32_n0) (v : Vq32_n0) (K : Ex → St → Ans) : codeI Tryz.tab envq32 noHint (codeD Tryz.tab envq32 noHint 0 64) (n+1) 41 annLq32_n0 (.loop Lq32_n0) (weakP 0 (exk [] [2] [(1,[])]) K) (Sq32_n0 i v) = stepq32_n0 i v (fun v' => codeI Tryz.tab envq32 noHint (codeD Tryz.tab envq32 noHint 0 64) n 41 annLq32_n0 (.loop Lq32_n0) (weakP 0 (exk [] [2] [(1,[])]) K) (Sq32_n0 i v')) (fun y => outq32_n0 i K y) := by kernel_rfl
theorem GNq32_n0_ok : CSum Tryz.prog 41 (.loop Lq32_n0) (sumL decq32_n0 stepDq32_n0 outq32_n0) := csum_loop mixed tabOk envq32Ok 0 (exk [] [2] [(1,[])]) annLq32_n0_ok decq32_n0_ok stepq32_n0_ok stepq32_n0_nat
noncomputable def Gq32_n0 : (Ex → St → Ans) → St → Ans := (sumL decq32_n0 stepDq32_n0 outq32_n0)
theorem Gq32_n0_ok : CSum Tryz.prog 41 (.loop Lq32_n0) Gq32_n0 := GNq32_n0_ok
noncomputable def annq32 : Ann := (.seq .none (.seq .none (.seq (.seq .none (.block (.cut 0 [0,13,14,15] Gq32_n0))) .none)))
theorem annq32_ok : AnnOk Tryz.prog 41 bq32 annq32 := ⟨(annOk_none _ _ _),⟨(annOk_none _ _ _),⟨⟨(annOk_none _ _ _),Gq32_n0_ok⟩,(annOk_none _ _ _)⟩⟩⟩
abbrev Aq32 := (List (Int × List UInt8))
abbrev Yq32 := (Int)
def fnq32 {β : Type} : Aq32 → (Yq32 → Option β) → Option β := fun a0 exit => (bif (↑(List.length a0) : Int) == (0 : Int) then (exit ((8 : Int))) else (bif decide ((↑(List.length a0) : Int) > (16 : Int)) then (exit ((6 : Int))) else (bindO (loopD (stepDq32_n0 (a0,a0,(↑(List.length a0) : Int))) FUEL ((0 : Int))) (Sum.elim (fun t2 => (exit (t2))) (fun _ => (exit ((0 : Int))))))))
def fnDq32 (a : Aq32) : Option Yq32 := fnq32 a some
theorem fnq32_nat (a : Aq32) (k : Yq32 → Ans) : fnq32 a k = bindO (fnDq32 a) k := by
  obtain z := a
  simp only [fnDq32,fnq32,bindO_cond,bindO_assoc,bindO_none,bindO_pure,bindO_elim,bindO_unP,bindO_empty]
def argsq32 : Aq32 → List AV := fun a0 => [.ro (.st (.pair (.int .i64) .str)) a0]
def decPAq32 (l : List AV) : Option {a : Aq32 // l = argsq32 a} := match l with
  | [.ro (.st (.pair (.int .i64) .str)) a0] => some ⟨(a0),rfl⟩
  | _ => none
def decAq32 (l : List AV) : Option Aq32 := pk (decPAq32 l)
theorem decAq32_ok (l : List AV) (a : Aq32) (h : decAq32 l = some a) : l = argsq32 a := pk_ok (o := decPAq32 l) h
def rendq32 : Aq32 → Yq32 → AV := fun a0 => fun r_y => .int .i64 r_y
theorem rendq32_ok : ∀ (a : Aq32) (y : Yq32),(rendq32 a y).closed1 = true := by
  rintro z y <;> first | rfl | exact Empty.elim y
theorem fnq32_ok (a : Aq32) : fnE Tryz.tab envq32 noHint 0 70 164 Tryz.f164.ntmps Tryz.f164.results.toList annq32 bq32 (argsq32 a) [] (fun v _ => some (v,[])) = fnq32 a (fun y => some (rendq32 a y,[])) := by kernel_rfl
def vFq32 (a : Aq32) (K : AV → Ans) : Ans := bindO (fnDq32 a) fun y => K (rendq32 a y)
def Fq32 : List AV → (AV → Ans) → Ans := fun l K => bindO (decAq32 l) fun a => vFq32 a K
theorem Fq32_ok : PureOk Tryz.prog 164 Fq32 := pure_mkD (hint := noHint) (d := 0) (n := 70) mixed tabOk envq32Ok Tryz.func164 (bodySome (by kernel_rfl)) (by decide +kernel) annq32_ok decAq32_ok fnq32_ok fnq32_nat rendq32_ok
--@ logrec_Put
noncomputable def envq35 : Env := [(119,.func (altF decABuilder_String vFBuilder_String FBuilder_StringAgain)),(121,.pure Fq16),(122,.pure Fq50),(118,.func Fq85),(165,.pure Fq37),(164,.pure Fq32)]
theorem envq35Ok : EnvOk Tryz.prog envq35 := EnvOk.cons (func_altF FBuilder_String_ok FBuilder_StringAgain_ok) (EnvOk.cons Fq16_ok (EnvOk.cons Fq50_ok (EnvOk.cons Fq85_ok (EnvOk.cons Fq37_ok (EnvOk.cons Fq32_ok (EnvOk.nil))))))
noncomputable def bq35 : Code := Tryz.f102.body.getD .skip
noncomputable def Lq35_n1 : Code := codeAt [1,1,1,1,1,0,1,0,0] bq35
noncomputable def annLq35_n1 : Ann := .at 0 [7,8,27,28,29] (.loop .none)
theorem annLq35_n1_ok : AnnOk Tryz.prog 49 (.loop Lq35_n1) annLq35_n1 := annOk_at (annOk_none _ _ _)
abbrev Iq35_n1 := (List (Int × List UInt8)) × (Int)
abbrev Yq35_n1 := (List UInt8) × (List Int)
abbrev Vq35_n1 := (List UInt8) × (Int) × (List Int)
def Sq35_n1 : Iq35_n1 → Vq35_n1 → St := fun (t27,t28) (t7,t29,o1) => { env := [(7,.str t7),(8,.ptr 0 0),(27,.ro (.st (.pair (.int .i64) .str)) t27),(28,.int .i64 t28),(29,.int .i64 t29)],stk := [[]],H := [.bcells [.own 1],.arr (.int .u8) o1],blk := 417792 }
def decPq35_n1 (s : St) : Option {x : Iq35_n1 × Vq35_n1 // s = Sq35_n1 x.1 x.2} := match s with
  | { env := [(7,.str t7),(8,.ptr 0 0),(27,.ro (.st (.pair (.int .i64) .str)) t27),(28,.int .i64 t28),(29,.int .i64 t29)],stk := [[]],H := [.bcells [.own 1],.arr (.int .u8) o1],blk := 417792 } => some ⟨((t27,t28),(t7,t29,o1)),rfl⟩
  | _ => none
def decq35_n1 (s : St) : Option (Iq35_n1 × Vq35_n1) := pk (decPq35_n1 s)
theorem decq35_n1_ok (s : St) (x : Iq35_n1 × Vq35_n1) (h : decq35_n1 s = some x) : s = Sq35_n1 x.1 x.2 := pk_ok (o := decPq35_n1 s) h
def outq35_n1 : Iq35_n1 → (Ex → St → Ans) → Yq35_n1 → Ans := fun (t27,t28) K => unP fun t7_y o1_y => K (Ex.exit 0) { env := [(7,.str t7_y),(8,.ptr 0 0)],stk := [[]],H := [.bcells [.own 1],.arr (.int .u8) o1_y],blk := 417792 }
def stepq35_n1 {β : Type} : Iq35_n1 → Vq35_n1 → (Vq35_n1 → Option β) → (Yq35_n1 → Option β) → Option β := fun (t27,t28) (t7,t29,o1) next exit => (bif decide (t29 < t28) then (bindO (nth t27 t29) fun x => (bindO (fnDq16 (t7,x.fst,(2 : Int))) fun r => (bindO (fnDq85 (x.snd,o1)) (unP fun r_0 o1_2 => (next (r,IntKind.wrap .i64 (t29 + (1 : Int)),o1_2)))))) else (exit (t7,o1)))
def stepDq35_n1 (i : Iq35_n1) (v : Vq35_n1) : Option (Vq35_n1 ⊕ Yq35_n1) := stepq35_n1 i v (fun v => some (.inl v)) (fun y => some (.inr y))
theorem stepq35_n1_nat (i : Iq35_n1) (v : Vq35_n1) (next : Vq35_n1 → Ans) (exit : Yq35_n1 → Ans) : stepq35_n1 i v next exit = bindO (stepDq35_n1 i v) (Sum.elim next exit) := by
  obtain ⟨t27,t28⟩ := i
  obtain ⟨t7,t29,o1⟩ := v
  simp only [stepDq35_n1,stepq35_n1,bindO_cond,bindO_assoc,bindO_none,bindO_pure,bindO_elim,bindO_unP,bindO_empty,Sum.elim_inl,Sum.elim_inr]
theorem stepq35_n1_ok (n : Nat) (i : Iq35_n1) (v : Vq35_n1) (K : Ex → St → Ans) : codeI Tryz.tab envq35 noHint (codeD Tryz.tab envq35 noHint 0 64) (n+1) 49 annLq35_n1 (.loop Lq35_n1) (weakP 0 (exk [7,8] [4,5] [(0,[7,8])]) K) (Sq35_n1 i v) = stepq35_n1 i v (fun v' => codeI Tryz.tab envq35 noHint (codeD Tryz.tab envq35 noHint 0 64) n 49 annLq35_n1 (.loop Lq35_n1) (weakP 0 (exk [7,8] [4,5] [(0,[7,8])]) K) (Sq35_n1 i v')) (fun y => outq35_n1 i K y) := by kernel_rfl
theorem GNq35_n1_ok : CSum Tryz.prog 49 (.loop Lq35_n1) (sumL decq35_n1 stepDq35_n1 outq35_n1) := csum_loop mixed tabOk envq35Ok 0 (exk [7,8] [4,5] [(0,[7,8])]) annLq35_n1_ok decq35_n1_ok stepq35_n1_ok stepq35_n1_nat
noncomputable def Gq35_n1 : (Ex → St → Ans) → St → Ans := (sumL decq35_n1 stepDq35_n1 outq35_n1)
theorem Gq35_n1_ok : CSum Tryz.prog 49 (.loop Lq35_n1) Gq35_n1 := GNq35_n1_ok
noncomputable def Lq35_n0 : Code := codeAt [1,0,0] bq35
noncomputable def annLq35_n0 : Ann := .none
theorem annLq35_n0_ok : AnnOk Tryz.prog 49 Lq35_n0 annLq35_n0 := (annOk_none _ _ _)
abbrev Iq35_n0 := (Int) × (List (Int × List UInt8))
abbrev Yq35_n0 := (Bool)
def Sq35_n0 : Iq35_n0 → St := fun (t0,t1) => { env := [(0,.int .i64 t0),(1,.ro (.st (.pair (.int .i64) .str)) t1)],stk := [[]],H := [],blk := 417792 }
def decPq35_n0 (s : St) : Option {x : Iq35_n0 // s = Sq35_n0 x} := match s with
  | { env := [(0,.int .i64 t0),(1,.ro (.st (.pair (.int .i64) .str)) t1)],stk := [[]],H := [],blk := 417792 } => some ⟨(t0,t1),rfl⟩
  | _ => none
def decq35_n0 (s : St) : Option Iq35_n0 := pk (decPq35_n0 s)
theorem decq35_n0_ok (s : St) (x : Iq35_n0) (h : decq35_n0 s = some x) : s = Sq35_n0 x := pk_ok (o := decPq35_n0 s) h
def outq35_n0 : Iq35_n0 → (Ex → St → Ans) → Yq35_n0 → Ans := fun (t0,t1) K => fun t16_y => K (Ex.norm) { env := [(0,.int .i64 t0),(1,.ro (.st (.pair (.int .i64) .str)) t1),(16,.bool t16_y)],stk := [[]],H := [],blk := 417792 }
def nodeq35_n0 {β : Type} : Iq35_n0 → (Yq35_n0 → Option β) → Option β := fun (t0,t1) exit => (bif decide (t0 < (0 : Int)) then (exit (true)) else (exit (decide (t0 ≥ (281474976710656 : Int)))))
def nodeDq35_n0 (i : Iq35_n0) : Option Yq35_n0 := nodeq35_n0 i some
theorem nodeq35_n0_nat (i : Iq35_n0) (k : Yq35_n0 → Ans) : nodeq35_n0 i k = bindO (nodeDq35_n0 i) k := by
  obtain ⟨t0,t1⟩ := i
  simp only [nodeDq35_n0,nodeq35_n0,bindO_cond,bindO_assoc,bindO_none,bindO_pure,bindO_elim,bindO_unP,bindO_empty]
theorem nodeq35_n0_ok (i : Iq35_n0) (K : Ex → St → Ans) : codeI Tryz.tab envq35 noHint (codeD Tryz.tab envq35 noHint 0 64) 70 49 annLq35_n0 Lq35_n0 (weakP 0 (exk [0,1,16] [4,5] []) K) (Sq35_n0 i) = nodeq35_n0 i (outq35_n0 i K) := by kernel_rfl
theorem GNq35_n0_ok : CSum Tryz.prog 49 Lq35_n0 (sumN decq35_n0 nodeDq35_n0 outq35_n0) := csum_node mixed tabOk envq35Ok 0 (exk [0,1,16] [4,5] []) annLq35_n0_ok decq35_n0_ok nodeq35_n0_ok nodeq35_n0_nat
noncomputable def Gq35_n0 : (Ex → St → Ans) → St → Ans := (sumN decq35_n0 nodeDq35_n0 outq35_n0)
theorem Gq35_n0_ok : CSum Tryz.prog 49 Lq35_n0 Gq35_n0 := GNq35_n0_ok
noncomputable def annq35 : Ann := (.seq .none (.seq (.seq (.cut 0 [0,1] Gq35_n0) .none) (.seq .none (.seq .none (.seq .none (.seq (.seq .none (.block (.cut 0 [7,8,27,28,29] Gq35_n1))) .none))))))
theorem annq35_ok : AnnOk Tryz.prog 49 bq35 annq35 := ⟨(annOk_none _ _ _),⟨⟨Gq35_n0_ok,(annOk_none _ _ _)⟩,⟨(annOk_none _ _ _),⟨(annOk_none _ _ _),⟨(annOk_none _ _ _),⟨⟨(annOk_none _ _ _),Gq35_n1_ok⟩,(annOk_none _ _ _)⟩⟩⟩⟩⟩⟩
abbrev Aq35 := (Int) × (List (Int × List UInt8))
abbrev Yq35 := (List UInt8) × (Int)
def fnq35 {β : Type} : Aq35 → (Yq35 → Option β) → Option β := fun (a0,a1) exit => (bindO (nodeDq35_n0 (a0,a1)) fun t16 => (bif t16 then (exit ([],(3 : Int))) else (bindO (fnDq32 (a1)) fun r => (bif r != (0 : Int) then (exit ([],r)) else (bindO (fnDq16 ([(82 : UInt8)],a0,(6 : Int))) fun r_2 => (bindO (fnDq16 (r_2,(↑(List.length a1) : Int),(1 : Int))) fun r_3 => (bindO (loopD (stepDq35_n1 (a1,(↑(List.length a1) : Int))) FUEL (r_3,(0 : Int),[])) (unP fun t7 o1 => (bindO (fnDBuilder_String (o1)) (unP fun r_4 o0 => (bindO (fnDq37 (t7,r_4)) fun r_5 => (bif Nat.ble (List.length t7 + List.length r_5) (9223372036854775807 : Nat) then (bindO (fnDq50 (t7 ++ r_5)) fun r_6 => (bindO (fnDBuilder_StringAgain (o0)) (unP fun r_7 o0_2 => (bif Nat.ble (List.length r_6 + List.length r_7) (9223372036854775807 : Nat) then (exit (r_6 ++ r_7,(0 : Int))) else none)))) else none))))))))))))
def fnDq35 (a : Aq35) : Option Yq35 := fnq35 a some
theorem fnq35_nat (a : Aq35) (k : Yq35 → Ans) : fnq35 a k = bindO (fnDq35 a) k := by
  obtain ⟨a0,a1⟩ := a
  simp only [fnDq35,fnq35,bindO_cond,bindO_assoc,bindO_none,bindO_pure,bindO_elim,bindO_unP,bindO_empty]
def argsq35 : Aq35 → List AV := fun (a0,a1) => [.int .i64 a0,.ro (.st (.pair (.int .i64) .str)) a1]
def decPAq35 (l : List AV) : Option {a : Aq35 // l = argsq35 a} := match l with
  | [.int .i64 a0,.ro (.st (.pair (.int .i64) .str)) a1] => some ⟨(a0,a1),rfl⟩
  | _ => none
def decAq35 (l : List AV) : Option Aq35 := pk (decPAq35 l)
theorem decAq35_ok (l : List AV) (a : Aq35) (h : decAq35 l = some a) : l = argsq35 a := pk_ok (o := decPAq35 l) h
def rendq35 : Aq35 → Yq35 → AV := fun (a0,a1) => unP fun r_0_y r_1_y => .tup [.str r_0_y,.int .i64 r_1_y]
theorem rendq35_ok : ∀ (a : Aq35) (y : Yq35),(rendq35 a y).closed1 = true := by
  rintro ⟨a0,a1⟩ y <;> first | rfl | exact Empty.elim y
theorem fnq35_ok (a : Aq35) : fnE Tryz.tab envq35 noHint 0 70 102 Tryz.f102.ntmps Tryz.f102.results.toList annq35 bq35 (argsq35 a) [] (fun v _ => some (v,[])) = fnq35 a (fun y => some (rendq35 a y,[])) := by kernel_rfl
def vFq35 (a : Aq35) (K : AV → Ans) : Ans := bindO (fnDq35 a) fun y => K (rendq35 a y)
def Fq35 : List AV → (AV → Ans) → Ans := fun l K => bindO (decAq35 l) fun a => vFq35 a K
theorem Fq35_ok : PureOk Tryz.prog 102 Fq35 := pure_mkD (hint := noHint) (d := 0) (n := 70) mixed tabOk envq35Ok Tryz.func102 (bodySome (by kernel_rfl)) (by decide +kernel) annq35_ok decAq35_ok fnq35_ok fnq35_nat rendq35_ok
--@ logrec_Get
noncomputable def envq34 : Env := [(129,.func Fq15),(130,.func Fq17),(131,.func Fq18),(165,.pure Fq37),(102,.pure Fq35)]
theorem envq34Ok : EnvOk Tryz.prog envq34 := EnvOk.cons Fq15_ok (EnvOk.cons Fq17_ok (EnvOk.cons Fq18_ok (EnvOk.cons Fq37_ok (EnvOk.cons Fq35_ok (EnvOk.nil)))))
noncomputable def bq34 : Code := Tryz.f261.body.getD .skip
noncomputable def Lq34_n4 : Code := codeAt [1,1,1,1,1,1,1,1,1,1,1,0,1,0] bq34
noncomputable def annLq34_n4 : Ann := .none
theorem annLq34_n4_ok : AnnOk Tryz.prog 106 Lq34_n4 annLq34_n4 := (annOk_none _ _ _)
abbrev Iq34_n4 := (List UInt8) × (Int) × (List UInt8) × (Int) × (List (Int × List UInt8))
abbrev Yq34_n4 := (Bool)
def Sq34_n4 : Iq34_n4 → St := fun (t0,t8,t14,t15,o0) => { env := [(0,.str t0),(8,.int .i64 t8),(10,.own 0),(14,.str t14),(15,.int .i64 t15)],stk := [[]],H := [.arr (.st (.pair (.int .i64) .str)) o0],blk := 1069058 }
def decPq34_n4 (s : St) : Option {x : Iq34_n4 // s = Sq34_n4 x} := match s with
  | { env := [(0,.str t0),(8,.int .i64 t8),(10,.own 0),(14,.str t14),(15,.int .i64 t15)],stk := [[]],H := [.arr (.st (.pair (.int .i64) .str)) o0],blk := 1069058 } => some ⟨(t0,t8,t14,t15,o0),rfl⟩
  | _ => none
def decq34_n4 (s : St) : Option Iq34_n4 := pk (decPq34_n4 s)
theorem decq34_n4_ok (s : St) (x : Iq34_n4) (h : decq34_n4 s = some x) : s = Sq34_n4 x := pk_ok (o := decPq34_n4 s) h
def outq34_n4 : Iq34_n4 → (Ex → St → Ans) → Yq34_n4 → Ans := fun (t0,t8,t14,t15,o0) K => fun t103_y => K (Ex.norm) { env := [(8,.int .i64 t8),(10,.own 0),(103,.bool t103_y)],stk := [[]],H := [.arr (.st (.pair (.int .i64) .str)) o0],blk := 1069058 }
def nodeq34_n4 {β : Type} : Iq34_n4 → (Yq34_n4 → Option β) → Option β := fun (t0,t8,t14,t15,o0) exit => (bif t15 != (0 : Int) then (exit (true)) else (exit (!t14 == t0)))
def nodeDq34_n4 (i : Iq34_n4) : Option Yq34_n4 := nodeq34_n4 i some
theorem nodeq34_n4_nat (i : Iq34_n4) (k : Yq34_n4 → Ans) : nodeq34_n4 i k = bindO (nodeDq34_n4 i) k := by
  obtain ⟨t0,t8,t14,t15,o0⟩ := i
  simp only [nodeDq34_n4,nodeq34_n4,bindO_cond,bindO_assoc,bindO_none,bindO_pure,bindO_elim,bindO_unP,bindO_empty]
theorem nodeq34_n4_ok (i : Iq34_n4) (K : Ex → St → Ans) : codeI Tryz.tab envq34 noHint (codeD Tryz.tab envq34 noHint 0 64) 70 106 annLq34_n4 Lq34_n4 (weakP 0 (exk [8,10,103] [2,3,4] []) K) (Sq34_n4 i) = nodeq34_n4 i (outq34_n4 i K) := by kernel_rfl
theorem GNq34_n4_ok : CSum Tryz.prog 106 Lq34_n4 (sumN decq34_n4 nodeDq34_n4 outq34_n4) := csum_node mixed tabOk envq34Ok 0 (exk [8,10,103] [2,3,4] []) annLq34_n4_ok decq34_n4_ok nodeq34_n4_ok nodeq34_n4_nat
noncomputable def Gq34_n4 : (Ex → St → Ans) → St → Ans := (sumN decq34_n4 nodeDq34_n4 outq34_n4)
theorem Gq34_n4_ok : CSum Tryz.prog 106 Lq34_n4 Gq34_n4 := GNq34_n4_ok
noncomputable def Lq34_n3 : Code := codeAt [1,1,1,1,1,1,1,1,1,1,0,1,0,0] bq34
noncomputable def annLq34_n3 : Ann := .at 0 [0,8,10,11,77,78] (.loop .none)
theorem annLq34_n3_ok : AnnOk Tryz.prog 106 (.loop Lq34_n3) annLq34_n3 := annOk_at (annOk_none _ _ _)
abbrev Iq34_n3 := (List UInt8) × (Int) × (List UInt8) × (Int)
abbrev Yq34_n3 := (List (Int × List UInt8))
abbrev Vq34_n3 := (Int) × (List (Int × List UInt8))
def Sq34_n3 : Iq34_n3 → Vq34_n3 → St := fun (t0,t8,t11,t77) (t78,o0) => { env := [(0,.str t0),(8,.int .i64 t8),(10,.own 0),(11,.str t11),(77,.int .i64 t77),(78,.int .i64 t78)],stk := [[]],H := [.arr (.st (.pair (.int .i64) .str)) o0],blk := 1069058 }
def decPq34_n3 (s : St) : Option {x : Iq34_n3 × Vq34_n3 // s = Sq34_n3 x.1 x.2} := match s with
  | { env := [(0,.str t0),(8,.int .i64 t8),(10,.own 0),(11,.str t11),(77,.int .i64 t77),(78,.int .i64 t78)],stk := [[]],H := [.arr (.st (.pair (.int .i64) .str)) o0],blk := 1069058 } => some ⟨((t0,t8,t11,t77),(t78,o0)),rfl⟩
  | _ => none
def decq34_n3 (s : St) : Option (Iq34_n3 × Vq34_n3) := pk (decPq34_n3 s)
theorem decq34_n3_ok (s : St) (x : Iq34_n3 × Vq34_n3) (h : decq34_n3 s = some x) : s = Sq34_n3 x.1 x.2 := pk_ok (o := decPq34_n3 s) h
def outq34_n3 : Iq34_n3 → (Ex → St → Ans) → Yq34_n3 → Ans := fun (t0,t8,t11,t77) K => fun o0_y => K (Ex.exit 2) { env := [(0,.str t0),(8,.int .i64 t8),(10,.own 0)],stk := [[]],H := [.arr (.st (.pair (.int .i64) .str)) o0_y],blk := 1069058 }
def stepq34_n3 {β : Type} : Iq34_n3 → Vq34_n3 → (Vq34_n3 → Option β) → (Yq34_n3 → Option β) → Option β := fun (t0,t8,t11,t77) (t78,o0) next exit => (bif decide (t78 < t77) then (bif inR (IntKind.wrap .i64 (t78 * (64 : Int))) (List.length t11 + (1 : Nat)) then (bif inR (64 : Int) (List.length (List.drop (Int.toNat (IntKind.wrap .i64 (t78 * (64 : Int)))) t11) + (1 : Nat)) then (bif inR t78 (List.length o0) then (bindO (o0[Int.toNat t78]?) fun x => (next (IntKind.wrap .i64 (t78 + (1 : Int)),List.set o0 (Int.toNat t78) (x.fst,List.take (64 : Nat) (List.drop (Int.toNat (IntKind.wrap .i64 (t78 * (64 : Int)))) t11))))) else none) else none) else none) else (exit (o0)))
def stepDq34_n3 (i : Iq34_n3) (v : Vq34_n3) : Option (Vq34_n3 ⊕ Yq34_n3) := stepq34_n3 i v (fun v => some (.inl v)) (fun y => some (.inr y))
theorem stepq34_n3_nat (i : Iq34_n3) (v : Vq34_n3) (next : Vq34_n3 → Ans) (exit : Yq34_n3 → Ans) : stepq34_n3 i v next exit = bindO (stepDq34_n3 i v) (Sum.elim next exit) := by
  obtain ⟨t0,t8,t11,t77⟩ := i
  obtain ⟨t78,o0⟩ := v
  simp only [stepDq34_n3,stepq34_n3,bindO_cond,bindO_assoc,bindO_none,bindO_pure,bindO_elim,bindO_unP,bindO_empty,Sum.elim_inl,Sum.elim_inr]
theorem stepq34_n3_ok (n : Nat) (i : Iq34_n3) (v : Vq34_n3) (K : Ex → St → Ans) : codeI Tryz.tab envq34 noHint (codeD Tryz.tab envq34 noHint 0 64) (n+1) 106 annLq34_n3 (.loop Lq34_n3) (weakP 0 (exk [0,8,10] [2,3,4] [(2,[0,8,10])]) K) (Sq34_n3 i v) = stepq34_n3 i v (fun v' => codeI Tryz.tab envq34 noHint (codeD Tryz.tab envq34 noHint 0 64) n 106 annLq34_n3 (.loop Lq34_n3) (weakP 0 (exk [0,8,10] [2,3,4] [(2,[0,8,10])]) K) (Sq34_n3 i v')) (fun y => outq34_n3 i K y) := by kernel_rfl
theorem GNq34_n3_ok : CSum Tryz.prog 106 (.loop Lq34_n3) (sumL decq34_n3 stepDq34_n3 outq34_n3) := csum_loop mixed tabOk envq34Ok 0 (exk [0,8,10] [2,3,4] [(2,[0,8,10])]) annLq34_n3_ok decq34_n3_ok stepq34_n3_ok stepq34_n3_nat
noncomputable def Gq34_n3 : (Ex → St → Ans) → St → Ans := (sumL decq34_n3 stepDq34_n3 outq34_n3)
theorem Gq34_n3_ok : CSum Tryz.prog 106 (.loop Lq34_n3) Gq34_n3 := GNq34_n3_ok
noncomputable def Lq34_n2 : Code := codeAt [1,1,1,1,1,1,1,0,1,0,0] bq34
noncomputable def annLq34_n2 : Ann := .at 0 [0,5,6,8,10,51,52] (.loop .none)
theorem annLq34_n2_ok : AnnOk Tryz.prog 106 (.loop Lq34_n2) annLq34_n2 := annOk_at (annOk_none _ _ _)
abbrev Iq34_n2 := (List UInt8) × (Int) × (Int) × (Int)
abbrev Yq34_n2 := (List UInt8) × (Int) × (List (Int × List UInt8))
abbrev Vq34_n2 := (Int) × (List UInt8) × (Int) × (List (Int × List UInt8))
def Sq34_n2 : Iq34_n2 → Vq34_n2 → St := fun (t0,t5,t8,t51) (t52,o0_0,o0_1,o1) => { env := [(0,.str t0),(5,.int .i64 t5),(6,.ptr 0 0),(8,.int .i64 t8),(10,.own 1),(51,.int .i64 t51),(52,.int .i64 t52)],stk := [[]],H := [.cells [.str o0_0,.int .i64 o0_1],.arr (.st (.pair (.int .i64) .str)) o1],blk := 1069056 }
def decPq34_n2 (s : St) : Option {x : Iq34_n2 × Vq34_n2 // s = Sq34_n2 x.1 x.2} := match s with
  | { env := [(0,.str t0),(5,.int .i64 t5),(6,.ptr 0 0),(8,.int .i64 t8),(10,.own 1),(51,.int .i64 t51),(52,.int .i64 t52)],stk := [[]],H := [.cells [.str o0_0,.int .i64 o0_1],.arr (.st (.pair (.int .i64) .str)) o1],blk := 1069056 } => some ⟨((t0,t5,t8,t51),(t52,o0_0,o0_1,o1)),rfl⟩
  | _ => none
def decq34_n2 (s : St) : Option (Iq34_n2 × Vq34_n2) := pk (decPq34_n2 s)
theorem decq34_n2_ok (s : St) (x : Iq34_n2 × Vq34_n2) (h : decq34_n2 s = some x) : s = Sq34_n2 x.1 x.2 := pk_ok (o := decPq34_n2 s) h
def outq34_n2 : Iq34_n2 → (Ex → St → Ans) → Yq34_n2 → Ans := fun (t0,t5,t8,t51) K => unP fun o0_0_y => unP fun o0_1_y o1_y => K (Ex.exit 0) { env := [(0,.str t0),(5,.int .i64 t5),(6,.ptr 0 0),(8,.int .i64 t8),(10,.own 1)],stk := [[]],H := [.cells [.str o0_0_y,.int .i64 o0_1_y],.arr (.st (.pair (.int .i64) .str)) o1_y],blk := 1069056 }
def stepq34_n2 {β : Type} : Iq34_n2 → Vq34_n2 → (Vq34_n2 → Option β) → (Yq34_n2 → Option β) → Option β := fun (t0,t5,t8,t51) (t52,o0_0,o0_1,o1) next exit => (bif decide (t52 < t51) then (bindO (fnDq18 ((2 : Int),o0_0,o0_1)) (unP fun r => unP fun o0_0_2 o0_1_2 => (bif Nat.ble ((List.length o1 + List.length [(r,nilL UInt8)]) * (24 : Nat)) (140737488355328 : Nat) then (next (IntKind.wrap .i64 (t52 + (1 : Int)),o0_0_2,o0_1_2,o1 ++ [(r,[])])) else none))) else (exit (o0_0,o0_1,o1)))
def stepDq34_n2 (i : Iq34_n2) (v : Vq34_n2) : Option (Vq34_n2 ⊕ Yq34_n2) := stepq34_n2 i v (fun v => some (.inl v)) (fun y => some (.inr y))
theorem stepq34_n2_nat (i : Iq34_n2) (v : Vq34_n2) (next : Vq34_n2 → Ans) (exit : Yq34_n2 → Ans) : stepq34_n2 i v next exit = bindO (stepDq34_n2 i v) (Sum.elim next exit) := by
  obtain ⟨t0,t5,t8,t51⟩ := i
  obtain ⟨t52,o0_0,o0_1,o1⟩ := v
  simp only [stepDq34_n2,stepq34_n2,bindO_cond,bindO_assoc,bindO_none,bindO_pure,bindO_elim,bindO_unP,bindO_empty,Sum.elim_inl,Sum.elim_inr]
theorem stepq34_n2_ok (n : Nat) (i : Iq34_n2) (v : Vq34_n2) (K : Ex → St → Ans) : codeI Tryz.tab envq34 noHint (codeD Tryz.tab envq34 noHint 0 64) (n+1) 106 annLq34_n2 (.loop Lq34_n2) (weakP 0 (exk [0,5,6,8,10] [2,3,4] [(0,[0,5,6,8,10])]) K) (Sq34_n2 i v) = stepq34_n2 i v (fun v' => codeI Tryz.tab envq34 noHint (codeD Tryz.tab envq34 noHint 0 64) n 106 annLq34_n2 (.loop Lq34_n2) (weakP 0 (exk [0,5,6,8,10] [2,3,4] [(0,[0,5,6,8,10])]) K) (Sq34_n2 i v')) (fun y => outq34_n2 i K y) := by kernel_rfl
theorem GNq34_n2_ok : CSum Tryz.prog 106 (.loop Lq34_n2) (sumL decq34_n2 stepDq34_n2 outq34_n2) := csum_loop mixed tabOk envq34Ok 0 (exk [0,5,6,8,10] [2,3,4] [(0,[0,5,6,8,10])]) annLq34_n2_ok decq34_n2_ok stepq34_n2_ok stepq34_n2_nat
noncomputable def Gq34_n2 : (Ex → St → Ans) → St → Ans := (sumL decq34_n2 stepDq34_n2 outq34_n2)
theorem Gq34_n2_ok : CSum Tryz.prog 106 (.loop Lq34_n2) Gq34_n2 := GNq34_n2_ok
noncomputable def Lq34_n1 : Code := codeAt [1,1,1,1,1,0,0] bq34
noncomputable def annLq34_n1 : Ann := .none
theorem annLq34_n1_ok : AnnOk Tryz.prog 106 Lq34_n1 annLq34_n1 := (annOk_none _ _ _)
abbrev Iq34_n1 := (List UInt8) × (Int) × (List UInt8) × (Int) × (Int) × (List UInt8) × (Int)
abbrev Yq34_n1 := (Bool)
def Sq34_n1 : Iq34_n1 → St := fun (t0,t5,t7,t8,t9,o0_0,o0_1) => { env := [(0,.str t0),(5,.int .i64 t5),(6,.ptr 0 0),(7,.str t7),(8,.int .i64 t8),(9,.int .i64 t9)],stk := [[]],H := [.cells [.str o0_0,.int .i64 o0_1]],blk := 1069056 }
def decPq34_n1 (s : St) : Option {x : Iq34_n1 // s = Sq34_n1 x} := match s with
  | { env := [(0,.str t0),(5,.int .i64 t5),(6,.ptr 0 0),(7,.str t7),(8,.int .i64 t8),(9,.int .i64 t9)],stk := [[]],H := [.cells [.str o0_0,.int .i64 o0_1]],blk := 1069056 } => some ⟨(t0,t5,t7,t8,t9,o0_0,o0_1),rfl⟩
  | _ => none
def decq34_n1 (s : St) : Option Iq34_n1 := pk (decPq34_n1 s)
theorem decq34_n1_ok (s : St) (x : Iq34_n1) (h : decq34_n1 s = some x) : s = Sq34_n1 x := pk_ok (o := decPq34_n1 s) h
def outq34_n1 : Iq34_n1 → (Ex → St → Ans) → Yq34_n1 → Ans := fun (t0,t5,t7,t8,t9,o0_0,o0_1) K => fun t50_y => K (Ex.norm) { env := [(0,.str t0),(5,.int .i64 t5),(6,.ptr 0 0),(8,.int .i64 t8),(50,.bool t50_y)],stk := [[]],H := [.cells [.str o0_0,.int .i64 o0_1]],blk := 1069056 }
def nodeq34_n1 {β : Type} : Iq34_n1 → (Yq34_n1 → Option β) → Option β := fun (t0,t5,t7,t8,t9,o0_0,o0_1) exit => (bif !t7 == [(82 : UInt8)] then (exit (true)) else (bif t9 != t5 then (exit (true)) else (bif decide (t5 < (1 : Int)) then (exit (true)) else (exit (decide (t5 > (16 : Int)))))))
def nodeDq34_n1 (i : Iq34_n1) : Option Yq34_n1 := nodeq34_n1 i some
theorem nodeq34_n1_nat (i : Iq34_n1) (k : Yq34_n1 → Ans) : nodeq34_n1 i k = bindO (nodeDq34_n1 i) k := by
  obtain ⟨t0,t5,t7,t8,t9,o0_0,o0_1⟩ := i
  simp only [nodeDq34_n1,nodeq34_n1,bindO_cond,bindO_assoc,bindO_none,bindO_pure,bindO_elim,bindO_unP,bindO_empty]
theorem nodeq34_n1_ok (i : Iq34_n1) (K : Ex → St → Ans) : codeI Tryz.tab envq34 noHint (codeD Tryz.tab envq34 noHint 0 64) 70 106 annLq34_n1 Lq34_n1 (weakP 0 (exk [0,5,6,8,50] [2,3,4] []) K) (Sq34_n1 i) = nodeq34_n1 i (outq34_n1 i K) := by kernel_rfl
theorem GNq34_n1_ok : CSum Tryz.prog 106 Lq34_n1 (sumN decq34_n1 nodeDq34_n1 outq34_n1) := csum_node mixed tabOk envq34Ok 0 (exk [0,5,6,8,50] [2,3,4] []) annLq34_n1_ok decq34_n1_ok nodeq34_n1_ok nodeq34_n1_nat
noncomputable def Gq34_n1 : (Ex → St → Ans) → St → Ans := (sumN decq34_n1 nodeDq34_n1 outq34_n1)
theorem Gq34_n1_ok : CSum Tryz.prog 106 Lq34_n1 Gq34_n1 := GNq34_n1_ok
noncomputable def Lq34_n0 : Code := codeAt [1,1,0,0] bq34
noncomputable def annLq34_n0 : Ann := .none
theorem annLq34_n0_ok : AnnOk Tryz.prog 106 Lq34_n0 annLq34_n0 := (annOk_none _ _ _)
abbrev Iq34_n0 := (List UInt8) × (Int)
abbrev Yq34_n0 := (Bool)
def Sq34_n0 : Iq34_n0 → St := fun (t0,t5) => { env := [(0,.str t0),(5,.int .i64 t5)],stk := [[]],H := [],blk := 1069056 }
def decPq34_n0 (s : St) : Option {x : Iq34_n0 // s = Sq34_n0 x} := match s with
  | { env := [(0,.str t0),(5,.int .i64 t5)],stk := [[]],H := [],blk := 1069056 } => some ⟨(t0,t5),rfl⟩
  | _ => none
def decq34_n0 (s : St) : Option Iq34_n0 := pk (decPq34_n0 s)
theorem decq34_n0_ok (s : St) (x : Iq34_n0) (h : decq34_n0 s = some x) : s = Sq34_n0 x := pk_ok (o := decPq34_n0 s) h
def outq34_n0 : Iq34_n0 → (Ex → St → Ans) → Yq34_n0 → Ans := fun (t0,t5) K => fun t27_y => K (Ex.norm) { env := [(0,.str t0),(5,.int .i64 t5),(27,.bool t27_y)],stk := [[]],H := [],blk := 1069056 }
def nodeq34_n0 {β : Type} : Iq34_n0 → (Yq34_n0 → Option β) → Option β := fun (t0,t5) exit => (bif decide (t5 < (0 : Int)) then (exit (true)) else (exit (Int.tmod (↑(List.length t0) : Int) (64 : Int) != (0 : Int))))
def nodeDq34_n0 (i : Iq34_n0) : Option Yq34_n0 := nodeq34_n0 i some
theorem nodeq34_n0_nat (i : Iq34_n0) (k : Yq34_n0 → Ans) : nodeq34_n0 i k = bindO (nodeDq34_n0 i) k := by
  obtain ⟨t0,t5⟩ := i
  simp only [nodeDq34_n0,nodeq34_n0,bindO_cond,bindO_assoc,bindO_none,bindO_pure,bindO_elim,bindO_unP,bindO_empty]
theorem nodeq34_n0_ok (i : Iq34_n0) (K : Ex → St → Ans) : codeI Tryz.tab envq34 noHint (codeD Tryz.tab envq34 noHint 0 64) 70 106 annLq34_n0 Lq34_n0 (weakP 0 (exk [0,5,27] [2,3,4] []) K) (Sq34_n0 i) = nodeq34_n0 i (outq34_n0 i K) := by kernel_rfl
theorem GNq34_n0_ok : CSum Tryz.prog 106 Lq34_n0 (sumN decq34_n0 nodeDq34_n0 outq34_n0) := csum_node mixed tabOk envq34Ok 0 (exk [0,5,27] [2,3,4] []) annLq34_n0_ok decq34_n0_ok nodeq34_n0_ok nodeq34_n0_nat
noncomputable def Gq34_n0 : (Ex → St → Ans) → St → Ans := (sumN decq34_n0 nodeDq34_n0 outq34_n0)
theorem Gq34_n0_ok : CSum Tryz.prog 106 Lq34_n0 Gq34_n0 := GNq34_n0_ok
noncomputable def annq34 : Ann := (.seq .none (.seq .none (.seq (.seq (.cut 0 [0,5] Gq34_n0) .none) (.seq .none (.seq .none (.seq (.seq (.cut 0 [0,5,6,7,8,9] Gq34_n1) .none) (.seq .none (.seq (.seq .none (.block (.cut 0 [0,5,6,8,10,51,52] Gq34_n2))) (.seq .none (.seq .none (.seq (.seq .none (.block (.cut 0 [0,8,10,11,77,78] Gq34_n3))) (.seq (.seq .none (.seq (.cut 0 [0,8,10,14,15] Gq34_n4) .none)) .none))))))))))))
theorem annq34_ok : AnnOk Tryz.prog 106 bq34 annq34 := ⟨(annOk_none _ _ _),⟨(annOk_none _ _ _),⟨⟨Gq34_n0_ok,(annOk_none _ _ _)⟩,⟨(annOk_none _ _ _),⟨(annOk_none _ _ _),⟨⟨Gq34_n1_ok,(annOk_none _ _ _)⟩,⟨(annOk_none _ _ _),⟨⟨(annOk_none _ _ _),Gq34_n2_ok⟩,⟨(annOk_none _ _ _),⟨(annOk_none _ _ _),⟨⟨(annOk_none _ _ _),Gq34_n3_ok⟩,⟨⟨(annOk_none _ _ _),⟨Gq34_n4_ok,(annOk_none _ _ _)⟩⟩,(annOk_none _ _ _)⟩⟩⟩⟩⟩⟩⟩⟩⟩⟩⟩⟩
abbrev Aq34 := (List UInt8)
abbrev Yq34 := (Int) × (Int) × (List (Int × List UInt8))
def fnq34 {β : Type} : Aq34 → (Yq34 → Option β) → Option β := fun a0 exit => (bindO (nodeDq34_n0 (a0,IntKind.wrap .i64 (IntKind.wrap .i64 (Int.tdiv (↑(List.length a0) : Int) (64 : Int)) - (1 : Int)))) fun t27 => (bif t27 then (exit ((0 : Int),(12 : Int),[])) else (bindO (fnDq15 (a0)) fun _ => (bindO (fnDq17 ((1 : Int),a0,(0 : Int))) (unP fun r => unP fun o0_0 o0_1 => (bindO (fnDq18 ((6 : Int),o0_0,o0_1)) (unP fun r_2 => unP fun o0_0_2 o0_1_2 => (bindO (fnDq18 ((1 : Int),o0_0_2,o0_1_2)) (unP fun r_3 => unP fun o0_0_3 o0_1_3 => (bindO (nodeDq34_n1 (a0,IntKind.wrap .i64 (IntKind.wrap .i64 (Int.tdiv (↑(List.length a0) : Int) (64 : Int)) - (1 : Int)),r,r_2,r_3,o0_0_3,o0_1_3)) fun t50 => (bif t50 then (exit ((0 : Int),(4 : Int),[])) else (bindO (loopD (stepDq34_n2 (a0,IntKind.wrap .i64 (IntKind.wrap .i64 (Int.tdiv (↑(List.length a0) : Int) (64 : Int)) - (1 : Int)),r_2,IntKind.wrap .i64 (IntKind.wrap .i64 (Int.tdiv (↑(List.length a0) : Int) (64 : Int)) - (1 : Int)))) FUEL ((0 : Int),o0_0_3,o0_1_3,[])) (unP fun o0_0_4 => unP fun o0_1_4 o1 => (bif inR (64 : Int) (List.length a0 + (1 : Nat)) then (bif inR (IntKind.wrap .i64 ((8 : Int) + IntKind.wrap .i64 ((2 : Int) * IntKind.wrap .i64 (IntKind.wrap .i64 (Int.tdiv (↑(List.length a0) : Int) (64 : Int)) - (1 : Int))))) (List.length a0 + (1 : Nat)) then (bindO (fnDq37 (List.take (Int.toNat (IntKind.wrap .i64 ((8 : Int) + IntKind.wrap .i64 ((2 : Int) * IntKind.wrap .i64 (IntKind.wrap .i64 (Int.tdiv (↑(List.length a0) : Int) (64 : Int)) - (1 : Int)))))) a0,List.drop (64 : Nat) a0)) fun r_4 => (bindO (fnDq17 ((↑(List.length r_4) : Int),o0_0_4,o0_1_4)) (unP fun r_5 => unP fun o0_0_5 o0_1_5 => (bif !r_5 == r_4 then (exit ((0 : Int),(5 : Int),[])) else (bindO (loopD (stepDq34_n3 (a0,r_2,List.drop (64 : Nat) a0,(↑(List.length o1) : Int))) FUEL ((0 : Int),o1)) fun o0 => (bindO (fnDq35 (r_2,o0)) (unP fun r_0 r_1 => (bindO (nodeDq34_n4 (a0,r_2,r_0,r_1,o0)) fun t103 => (bif t103 then (exit ((0 : Int),(4 : Int),[])) else (exit (r_2,(0 : Int),o0))))))))))) else none) else none))))))))))))))
def fnDq34 (a : Aq34) : Option Yq34 := fnq34 a some
theorem fnq34_nat (a : Aq34) (k : Yq34 → Ans) : fnq34 a k = bindO (fnDq34 a) k := by
  obtain z := a
  simp only [fnDq34,fnq34,bindO_cond,bindO_assoc,bindO_none,bindO_pure,bindO_elim,bindO_unP,bindO_empty]
def argsq34 : Aq34 → List AV × List AE.Obj := fun a0 => ([.str a0],[])
def decPAq34 (l : List AV) (H : List AE.Obj) : Option {a : Aq34 // (l,H) = argsq34 a} := match l,H with
  | [.str a0],[] => some ⟨(a0),rfl⟩
  | _,_ => none
def decAq34 (l : List AV) (H : List AE.Obj) : Option Aq34 := pk (decPAq34 l H)
theorem decAq34_ok (l : List AV) (H : List AE.Obj) (a : Aq34) (h : decAq34 l H = some a) : (l,H) = argsq34 a := pk_ok (o := decPAq34 l H) h
def outq34 : Aq34 → (AV → List AE.Obj → Ans) → Yq34 → Ans := fun a0 K => unP fun r_0_y => unP fun r_2_y o0_y => K (.tup [.int .i64 r_0_y,.own 0,.int .i64 r_2_y]) [.arr (.st (.pair (.int .i64) .str)) o0_y]
theorem fnq34_ok (a : Aq34) (K : AV → List AE.Obj → Ans) : fnE Tryz.tab envq34 noHint 0 70 261 Tryz.f261.ntmps Tryz.f261.results.toList annq34 bq34 (argsq34 a).1 (argsq34 a).2 K = fnq34 a (outq34 a K) := by kernel_rfl
def vFq34 (a : Aq34) (K : AV → List AE.Obj → Ans) : Ans := bindO (fnDq34 a) fun y => outq34 a K y
def Fq34 : List AV → List AE.Obj → (AV → List AE.Obj → Ans) → Ans := fun l H K => bindO (decAq34 l H) fun a => vFq34 a K
theorem Fq34_ok : FuncOk Tryz.prog 261 Fq34 := func_mkD (hint := noHint) (d := 0) (n := 70) mixed tabOk envq34Ok Tryz.func261 (bodySome (by kernel_rfl)) (by decide +kernel) annq34_ok decAq34_ok fnq34_ok fnq34_nat
end Go.Proofs.R7
namespace Go.Proofs.R7
open Go Go.AE
set_option maxRecDepth 100000
end Go.Proofs.R7
namespace Go.Proofs.R7
open Go Go.AE
noncomputable def base7x : Env := [(140, .pure Fq26), (68, .pure Fq22), (117, .pure Fq25), (116, .pure Fq24), (108, .func Fq84), (28, .func Fq13), (37, .pure Fq23), (161, .func Fq8), (210, .pure Fq56), (169, .func Fq49), (171, .func Fq54), (241, .pure Fq83), (218, .pure Fq80), (181, .func Fq10), (182, .func Fq12), (159, .func Fq9), (106, .func Fq55), (96, .func Fq51), (238, .pure Fq31), (211, .pure Fq28), (189, .pure Fq20), (184, .pure Fq14), (121, .pure Fq16), (220, .func Fq0), (242, .pure Fq5), (221, .func Fq2), (222, .func Fq3), (185, .pure Fq1), (123, .pure Fq4), (122, .pure Fq50), (172, .pure Fq30), (141, .func Fq11), (115, .func Fq6), (114, .func Fq7), (118, .func Fq85), (177, .func Fq53), (129, .func Fq15), (188, .func Fq19), (130, .func Fq17), (131, .func Fq18), (216, .pure Fq27), (178, .pure Fq29), (209, .func Fq52), (260, .pure Fq36), (165, .pure Fq37), (208, .func Fq33), (237, .func Fq81), (207, .func Fq79), (164, .pure Fq32), (102, .pure Fq35), (261, .func Fq34), (109, .pure Fstrings_Repeat), (119, .func FBuilder_String), (183, .func FBuilder_copyCheck), (100205, .iter (eachBeginC .str) (eachNext .str))]
theorem base7x_ok : EnvOk Tryz.prog base7x := EnvOk.cons Fq26_ok (EnvOk.cons Fq22_ok (EnvOk.cons Fq25_ok (EnvOk.cons Fq24_ok (EnvOk.cons Fq84_ok (EnvOk.cons Fq13_ok (EnvOk.cons Fq23_ok (EnvOk.cons Fq8_ok (EnvOk.cons Fq56_ok (EnvOk.cons Fq49_ok (EnvOk.cons Fq54_ok (EnvOk.cons Fq83_ok (EnvOk.cons Fq80_ok (EnvOk.cons Fq10_ok (EnvOk.cons Fq12_ok (EnvOk.cons Fq9_ok (EnvOk.cons Fq55_ok (EnvOk.cons Fq51_ok (EnvOk.cons Fq31_ok (EnvOk.cons Fq28_ok (EnvOk.cons Fq20_ok (EnvOk.cons Fq14_ok (EnvOk.cons Fq16_ok (EnvOk.cons Fq0_ok (EnvOk.cons Fq5_ok (EnvOk.cons Fq2_ok (EnvOk.cons Fq3_ok (EnvOk.cons Fq1_ok (EnvOk.cons Fq4_ok (EnvOk.cons Fq50_ok (EnvOk.cons Fq30_ok (EnvOk.cons Fq11_ok (EnvOk.cons Fq6_ok (EnvOk.cons Fq7_ok (EnvOk.cons Fq85_ok (EnvOk.cons Fq53_ok (EnvOk.cons Fq15_ok (EnvOk.cons Fq19_ok (EnvOk.cons Fq17_ok (EnvOk.cons Fq18_ok (EnvOk.cons Fq27_ok (EnvOk.cons Fq29_ok (EnvOk.cons Fq52_ok (EnvOk.cons Fq36_ok (EnvOk.cons Fq37_ok (EnvOk.cons Fq33_ok (EnvOk.cons Fq81_ok (EnvOk.cons Fq79_ok (EnvOk.cons Fq32_ok (EnvOk.cons Fq35_ok (EnvOk.cons Fq34_ok (EnvOk.cons Fstrings_Repeat_ok (EnvOk.cons FBuilder_String_ok (EnvOk.cons FBuilder_copyCheck_ok (EnvOk.cons (eachBeginC_eq ▸ iter205_spec) (EnvOk.nil)))))))))))))))))))))))))))))))))))))))))))))))))))))))
def runs7x : List RunI := [
  ⟨21, false, []⟩,
  ⟨22, false, []⟩,
  ⟨23, false, []⟩,
  ⟨24, false, []⟩,
  ⟨26, false, [(0, [0, 2, 3, 17, 104])]⟩,
  ⟨27, false, [(0, [7, 9, 26]), (2, [7, 9, 44, 45])]⟩,
  ⟨29, false, [(0, [8, 28, 29, 30])]⟩,
  ⟨30, false, []⟩,
  ⟨33, false, []⟩,
  ⟨35, false, []⟩,
  ⟨43, true, [(0, [1, 5, 31, 32, 33])]⟩,
  ⟨45, true, []⟩,
  ⟨47, true, []⟩,
  ⟨69, false, []⟩,
  ⟨70, false, []⟩,
  ⟨71, false, []⟩,
  ⟨93, false, []⟩,
  ⟨94, false, []⟩,
  ⟨95, false, [(0, [2, 3, 4, 24, 79])]⟩,
  ⟨97, false, []⟩,
  ⟨98, false, []⟩,
  ⟨99, false, [(0, [3, 4, 10, 16])]⟩,
  ⟨100, false, []⟩,
  ⟨101, false, []⟩,
  ⟨103, false, [(1, [7, 9, 10])]⟩,
  ⟨104, false, [(0, [1, 12, 23])]⟩,
  ⟨105, false, []⟩,
  ⟨107, false, []⟩,
  ⟨110, false, []⟩,
  ⟨111, false, [(0, [0, 27, 28, 29]), (2, [0, 6, 27, 28, 29, 34, 35, 36])]⟩,
  ⟨112, false, []⟩,
  ⟨113, false, []⟩,
  ⟨127, true, []⟩,
  ⟨157, false, []⟩,
  ⟨158, false, []⟩,
  ⟨160, false, []⟩,
  ⟨162, false, []⟩,
  ⟨163, false, []⟩,
  ⟨166, false, []⟩,
  ⟨167, false, []⟩,
  ⟨168, false, []⟩,
  ⟨170, false, []⟩,
  ⟨173, true, []⟩,
  ⟨179, false, []⟩,
  ⟨180, false, []⟩,
  ⟨212, true, []⟩,
  ⟨213, true, []⟩,
  ⟨217, false, [(0, [0])]⟩,
  ⟨240, false, []⟩,
  ⟨259, false, [(0, [0, 1, 8, 12, 13])]⟩]
theorem runs7x_ok : runs7x.all (RunI.ok Tryz.prog) = true := by kernel_rfl
noncomputable def lo7x : Lo := loQ Tryz.prog Tryz.tab base7x runs7x 40
theorem lo7x_ok : LoOk Tryz.prog lo7x := loQ_ok mixed tabOk base7x_ok runs7x_ok 40
end Go.Proofs.R7
namespace Go.Proofs.R7
open Go Go.AE
set_option maxRecDepth 100000
def begunH : List AE.Obj :=
  [.cells [(.own 2), (.map 3), (.own 4), (.int .i64 33), (.own 5), (.int .i64 0), (.bool false)],
  .cells [(.ptr 0 0), (.ptr 6 0), (.ptr 7 0), (.int .i64 15), (.int .i64 24), (.int .i64 2), (.int .i64 0), (.int .i64 25), (.int .i64 0), (.bool true), (.bool false), (.ptr 8 0)],
  .arr .str (List.replicate 15 (List.replicate 64 0) ++ [([76, 0, 0, 0, 0, 0, 2, 0, 0, 0, 0, 0, 25, 0, 0, 7, 97, 220, 101] ++ List.replicate 45 0), ([76, 0, 0, 0, 0, 0, 1, 0, 0, 0, 0, 0, 1, 0, 0, 10, 175, 100, 78] ++ List.replicate 45 0)] ++ List.replicate 22 (List.replicate 64 0)),
  .mp .i64 .str [],
  .arr (.st (.pair (.int .i64) .str)) [],
  .arr (.int .i64) [],
  .cells [(.ptr 0 0), (.int .i64 15), (.int .i64 2)],
  .cells [(.ptr 0 0), (.int .i64 17), (.int .i64 22)],
  .cells [(.map 9), (.map 10)],
  .mp .i64 .str [],
  .mp .i64 .str []]
def begunV : AV := (.tup [(.ptr 0 0), (.ptr 1 0)])
theorem runBegun (K : AV → List AE.Obj → Ans) : runQ Tryz.tab lo7x ⟨35, false, []⟩ Tryz.f35 [.agg [.int .i64 3, .int .i64 1, .int .i64 24]] [] K = K begunV begunH := by kernel_rfl
noncomputable def FBegun : List AV → List AE.Obj → (AV → List AE.Obj → Ans) → Ans := fun l H K => match l, H with
  | [.agg [.int .i64 a, .int .i64 b, .int .i64 c]], [] => cond (eqB a 3 && eqB b 1 && eqB c 24) (K begunV begunH) none
  | _, _ => none
theorem FBegun_ok : FuncOk Tryz.prog 35 FBegun :=
  konstHQ (i := ⟨35, false, []⟩) mixed tabOk lo7x_ok Tryz.func35 (by kernel_rfl) (by decide +kernel) (fun l H K res h => by
    unfold FBegun at h
    split at h
    · replace h := cond_none h
      simp only [Bool.and_eq_true, eqB_eq, beq_iff_eq] at h
      obtain ⟨⟨⟨rfl, rfl⟩, rfl⟩, h⟩ := h
      exact ⟨rfl, rfl, h⟩
    · cases h) runBegun
end Go.Proofs.R7
namespace Go.Proofs.R7
open Go Go.AE
noncomputable def base22 : Env := [(140, .pure Fq26), (68, .pure Fq22), (117, .pure Fq25), (116, .pure Fq24), (108, .func Fq84), (28, .func Fq13), (37, .pure Fq23), (161, .func Fq8), (210, .pure Fq56), (169, .func Fq49), (171, .func Fq54), (241, .pure Fq83), (218, .pure Fq80), (181, .func Fq10), (182, .func Fq12), (159, .func Fq9), (106, .func Fq55), (96, .func Fq51), (238, .pure Fq31), (211, .pure Fq28), (189, .pure Fq20), (184, .pure Fq14), (121, .pure Fq16), (220, .func Fq0), (242, .pure Fq5), (221, .func Fq2), (222, .func Fq3), (185, .pure Fq1), (123, .pure Fq4), (122, .pure Fq50), (172, .pure Fq30), (141, .func Fq11), (115, .func Fq6), (114, .func Fq7), (118, .func Fq85), (177, .func Fq53), (129, .func Fq15), (188, .func Fq19), (130, .func Fq17), (131, .func Fq18), (216, .pure Fq27), (178, .pure Fq29), (209, .func Fq52), (260, .pure Fq36), (165, .pure Fq37), (208, .func Fq33), (237, .func Fq81), (207, .func Fq79), (164, .pure Fq32), (102, .pure Fq35), (261, .func Fq34), (109, .pure Fstrings_Repeat), (119, .func FBuilder_String), (183, .func FBuilder_copyCheck), (100205, .iter (eachBeginC .str) (eachNext .str)), (35, .func FBegun)]
theorem base22_ok : EnvOk Tryz.prog base22 := EnvOk.cons Fq26_ok (EnvOk.cons Fq22_ok (EnvOk.cons Fq25_ok (EnvOk.cons Fq24_ok (EnvOk.cons Fq84_ok (EnvOk.cons Fq13_ok (EnvOk.cons Fq23_ok (EnvOk.cons Fq8_ok (EnvOk.cons Fq56_ok (EnvOk.cons Fq49_ok (EnvOk.cons Fq54_ok (EnvOk.cons Fq83_ok (EnvOk.cons Fq80_ok (EnvOk.cons Fq10_ok (EnvOk.cons Fq12_ok (EnvOk.cons Fq9_ok (EnvOk.cons Fq55_ok (EnvOk.cons Fq51_ok (EnvOk.cons Fq31_ok (EnvOk.cons Fq28_ok (EnvOk.cons Fq20_ok (EnvOk.cons Fq14_ok (EnvOk.cons Fq16_ok (EnvOk.cons Fq0_ok (EnvOk.cons Fq5_ok (EnvOk.cons Fq2_ok (EnvOk.cons Fq3_ok (EnvOk.cons Fq1_ok (EnvOk.cons Fq4_ok (EnvOk.cons Fq50_ok (EnvOk.cons Fq30_ok (EnvOk.cons Fq11_ok (EnvOk.cons Fq6_ok (EnvOk.cons Fq7_ok (EnvOk.cons Fq85_ok (EnvOk.cons Fq53_ok (EnvOk.cons Fq15_ok (EnvOk.cons Fq19_ok (EnvOk.cons Fq17_ok (EnvOk.cons Fq18_ok (EnvOk.cons Fq27_ok (EnvOk.cons Fq29_ok (EnvOk.cons Fq52_ok (EnvOk.cons Fq36_ok (EnvOk.cons Fq37_ok (EnvOk.cons Fq33_ok (EnvOk.cons Fq81_ok (EnvOk.cons Fq79_ok (EnvOk.cons Fq32_ok (EnvOk.cons Fq35_ok (EnvOk.cons Fq34_ok (EnvOk.cons Fstrings_Repeat_ok (EnvOk.cons FBuilder_String_ok (EnvOk.cons FBuilder_copyCheck_ok (EnvOk.cons (eachBeginC_eq ▸ iter205_spec) (EnvOk.cons FBegun_ok (EnvOk.nil))))))))))))))))))))))))))))))))))))))))))))))))))))))))
def runs22 : List RunI := [
  ⟨23, false, []⟩,
  ⟨24, false, []⟩,
  ⟨27, false, [(0, [7, 9, 26]), (2, [7, 9, 44, 45])]⟩,
  ⟨29, false, [(0, [8, 28, 29, 30])]⟩,
  ⟨30, false, []⟩,
  ⟨33, false, []⟩,
  ⟨36, false, [(0, [0, 1, 2, 26, 27])]⟩,
  ⟨38, false, [(0, [0, 1, 8, 18, 19])]⟩,
  ⟨80, false, []⟩,
  ⟨81, false, []⟩,
  ⟨83, false, []⟩,
  ⟨86, false, [(0, [0, 15, 16])]⟩,
  ⟨88, false, []⟩,
  ⟨93, false, []⟩,
  ⟨94, false, []⟩,
  ⟨95, false, [(0, [2, 3, 4, 24, 79])]⟩,
  ⟨97, false, []⟩,
  ⟨98, false, []⟩,
  ⟨99, false, [(0, [3, 4, 10, 16])]⟩,
  ⟨100, false, []⟩,
  ⟨101, false, []⟩,
  ⟨104, false, [(0, [1, 12, 23])]⟩,
  ⟨105, false, []⟩,
  ⟨107, false, []⟩,
  ⟨110, false, []⟩,
  ⟨111, false, [(0, [0, 27, 28, 29]), (2, [0, 6, 27, 28, 29, 34, 35, 36])]⟩,
  ⟨112, false, []⟩,
  ⟨113, false, []⟩,
  ⟨120, true, []⟩,
  ⟨145, false, []⟩,
  ⟨146, true, []⟩,
  ⟨147, true, []⟩,
  ⟨148, false, [(0, [0, 5, 19, 20])]⟩,
  ⟨149, false, [(0, [0, 1, 7, 8])]⟩,
  ⟨150, false, []⟩,
  ⟨151, true, []⟩,
  ⟨152, false, [(0, [6, 33, 34])]⟩,
  ⟨153, false, []⟩,
  ⟨157, false, []⟩,
  ⟨158, false, []⟩,
  ⟨160, false, []⟩,
  ⟨162, false, []⟩,
  ⟨163, false, []⟩,
  ⟨166, false, []⟩,
  ⟨168, false, []⟩,
  ⟨170, false, []⟩,
  ⟨173, true, []⟩,
  ⟨179, false, []⟩,
  ⟨180, false, []⟩,
  ⟨194, true, []⟩,
  ⟨195, true, []⟩,
  ⟨196, true, []⟩,
  ⟨197, false, []⟩,
  ⟨198, false, []⟩,
  ⟨199, true, []⟩,
  ⟨200, false, []⟩,
  ⟨212, true, []⟩,
  ⟨213, true, []⟩,
  ⟨217, false, [(0, [0])]⟩,
  ⟨223, true, []⟩,
  ⟨224, true, [(0, [0, 1])]⟩,
  ⟨225, true, [(0, [0, 1])]⟩,
  ⟨226, false, [(0, [0, 2, 4])]⟩,
  ⟨227, false, [(0, [0, 1])]⟩,
  ⟨228, false, [(0, [0, 1])]⟩,
  ⟨229, false, [(0, [0, 1])]⟩,
  ⟨230, false, [(0, [0, 1])]⟩,
  ⟨231, true, []⟩,
  ⟨240, false, []⟩,
  ⟨243, false, []⟩,
  ⟨244, false, []⟩,
  ⟨245, false, []⟩,
  ⟨246, false, [(0, [0, 4, 5, 6])]⟩,
  ⟨247, true, []⟩,
  ⟨259, false, [(0, [0, 1, 8, 12, 13])]⟩,
  ⟨262, true, []⟩,
  ⟨263, true, [(9, [175])]⟩,
  ⟨264, true, []⟩,
  ⟨271, true, []⟩,
  ⟨272, true, []⟩,
  ⟨273, true, []⟩,
  ⟨276, true, []⟩]
theorem runs22_ok : runs22.all (RunI.ok Tryz.prog) = true := by kernel_rfl
noncomputable def lo22 : Lo := loQ Tryz.prog Tryz.tab base22 runs22 40
theorem lo22_ok : LoOk Tryz.prog lo22 := loQ_ok mixed tabOk base22_ok runs22_ok 40
end Go.Proofs.R7
